/- Walks: the passes of valid operations, by the reference. No condition but the bounds. (Under way.) -/
import Derived.Test.YtpmfkpehmckgmaaGreatMachYn
namespace Go.Proofs.YtpmfkpehmckgmaaGreat
open Go.RowKit
set_option maxRecDepth 20000

/-- A transfer and a drop have no direction and no carrier. -/
theorem opD_B {W : Nat} {z : Nat → Int} {i : Nat} (h : opW W z i = true) (hk : z (i * 8) = 4 ∨ z (i * 8) = 6) : z (i * 8 + 1) = 0 ∧ z (i * 8 + 6) = 0 := by
  unfold opW at h
  generalize z (i * 8) = k at *
  generalize z (i * 8 + 1) = d at *
  generalize z (i * 8 + 2) = fb at *
  generalize z (i * 8 + 3) = fa at *
  generalize z (i * 8 + 4) = tb at *
  generalize z (i * 8 + 5) = ta at *
  generalize z (i * 8 + 6) = c at *
  generalize z (i * 8 + 7) = r at *
  rcases hk with rfl | rfl
  all_goals
    simp [opB] at h
    omega
/- MARK -/
set_option maxHeartbeats 8000000 in
theorem l09Passes_any (W : Nat) (A : Option Addr) (n q : Nat) (z : Nat → Int) (w : World) (ha : Rd w A (n * 8) (fun j => .int .i64 (z j))) (hW1 : 1 ≤ W) (hW2 : W ≤ 24) (hn : n ≤ 1500) (hops : ∀ i, i < n → opW W z i = true) :
    Calls Tryz.prog 14 #[.slice A n q] w (PassP w (psAt z n).L) := by
  obtain ⟨i0, hi, iz, is, ib⟩ := info_parts infoP
  have HA := Lib.hid ha
  have HOPS := Lib.hid hops
  have H0 : Hid ((w.alloc (.cells #[] 71)).ownsRow w.heap.size 71 6 (.slice (some ⟨w.heap.size, 0, none⟩) 0 0) 0 (ints (psAt z 0).L)) := Lib.hid (own_lit w [] 0 (Nat.le_refl _) (Nat.zero_le _) rfl)
  clear ha hops
  go_enter Tryz.func14, Tryz.ntmps14
  go_wp2_with fail
  go_loopw [3, 4, 5, 6, 7] (fun ov rv lv bv iv wr => ∃ (i m : Nat) (L : List Int) (op : Bool) (rk la : Int), i ≤ n ∧ iv = .int .i64 i ∧ psAt z i = ⟨L, op, rk⟩ ∧ rv = .int .i64 rk ∧ lv = .int .i64 la ∧ bv = .bool op ∧ L.length = 6 * m ∧ wr.ownsRow w.heap.size 71 6 ov m (ints L) ∧ Below w.heap.size w wr ∧ (op = true → la = placeI (z ((i - 1) * 8 + 2)) (z ((i - 1) * 8 + 3)) rk)) (fun _ _ _ _ iv _ => n - (intOf iv).toNat)
  case atStart => exact ⟨0, 0, _, _, _, _, Nat.zero_le _, rfl, rfl, rfl, rfl, rfl, rfl, H0.out, (Below.refl _ _).alloc (Nat.le_refl _) _, fun h => by simp at h⟩
  case round =>
    obtain ⟨i, m, L, op, rk, la, hile, rfl, hst, rfl, rfl, rfl, hlen, hown, hb, hla⟩ := hrel
    have HST := Lib.hid hst
    have HOWN := Lib.hid hown
    have HB := Lib.hid hb
    have HLEN := Lib.hid hlen
    have HLA := Lib.hid hla
    obtain ⟨m', hok⟩ := psAt_ok hW1 i fun j hj => HOPS.out j (by omega)
    rw [hst] at hok
    obtain rfl : m' = m := by have := hok.len; have : L.length = 6 * m' := this; omega
    have HOK := Lib.hid hok
    have hmi := hok.le
    have hr1 : -3 ≤ rk := hok.r0
    have hr2 : rk ≤ 3 := hok.r1
    clear hst hown hb hlen hok hla
    by_cases hlt : i < n
    · obtain ⟨ga, o, rfl, hga, hra⟩ := HA.out (by omega)
      have HRA := Lib.hid (hra.below hga HB.out)
      have hga2 : ga < wr.heap.size := blt HB.out hga
      have hp := opOk_at hW1 (HOPS.out i hlt)
      have hce := opCe_of HRA.out hlt
      have hkc := kind_cases hp.k1 hp.k9
      have hzd := opD_B (HOPS.out i hlt)
      have hkk := l09Kind_any ga (o + i * 8) (z (i * 8)) wr hp.k1 hp.k9 hce.c0
      obtain ⟨k, hx0⟩ : ∃ x, x = z (i * 8) := ⟨_, rfl⟩
      obtain ⟨d, hx1⟩ : ∃ x, x = z (i * 8 + 1) := ⟨_, rfl⟩
      obtain ⟨fb, hx2⟩ : ∃ x, x = z (i * 8 + 2) := ⟨_, rfl⟩
      obtain ⟨fa, hx3⟩ : ∃ x, x = z (i * 8 + 3) := ⟨_, rfl⟩
      obtain ⟨tb, hx4⟩ : ∃ x, x = z (i * 8 + 4) := ⟨_, rfl⟩
      obtain ⟨ta, hx5⟩ : ∃ x, x = z (i * 8 + 5) := ⟨_, rfl⟩
      obtain ⟨c, hx6⟩ : ∃ x, x = z (i * 8 + 6) := ⟨_, rfl⟩
      obtain ⟨r, hx7⟩ : ∃ x, x = z (i * 8 + 7) := ⟨_, rfl⟩
      rw [← hx0, ← hx1, ← hx2, ← hx3, ← hx4, ← hx5, ← hx6, ← hx7] at hp hce
      rw [← hx0] at hkc hkk
      rw [← hx0, ← hx1, ← hx6] at hzd
      have HX0 := Lib.hid hx0
      have HX1 := Lib.hid hx1
      have HX2 := Lib.hid hx2
      have HX3 := Lib.hid hx3
      have HX6 := Lib.hid hx6
      have HX7 := Lib.hid hx7
      have HP := Lib.hid hp
      have HCE := Lib.hid hce
      have HZD := Lib.hid hzd
      have HKK := Lib.hid hkk
      have o0 := hce.c0
      have o7 := hce.c7
      have o2 := hce.c2
      have o3 := hce.c3
      clear hx0 hx1 hx2 hx3 hx4 hx5 hx6 hx7 hce hp hra hga hkk hzd
      obtain ⟨kd, hkd⟩ : ∃ x, x = kindI k := ⟨_, rfl⟩
      rw [← hkd] at hkc HKK
      have HKD := Lib.hid hkd
      clear hkd
      rcases hkc with ⟨rfl, hk⟩ | hkc
      · have HN := Lib.hid (psNext_no HST.out HX0.out.symm HKD.out.symm)
        by_cases h7 : k = 7
        · have HN7 := Lib.hid (HN.out.trans (by rw [if_pos h7, ← HX7.out]))
          subst h7
          go_wp2_with fail
          refine HKK.out.mono ?_
          rintro e w1 ⟨rfl, rfl⟩
          go_wp2_with fail
          go_roundw
          case rel => exact ⟨i + 1, m', _, _, _, _, hlt, by go_num, HN7.out, rfl, rfl, rfl, HLEN.out, HOWN.out, HB.out, fun h => by simp at h⟩
          case measure => simp [intOf] <;> omega
        · have HN7 := Lib.hid (HN.out.trans (by rw [if_neg h7]))
          have h7' : (k == 7) = false := by simpa using h7
          go_wp2_with fail
          refine HKK.out.mono ?_
          rintro e w1 ⟨rfl, rfl⟩
          go_wp2_with fail
          go_roundw
          case rel => exact ⟨i + 1, m', _, _, _, _, hlt, by go_num, HN7.out, rfl, rfl, rfl, HLEN.out, HOWN.out, HB.out, fun h => by simp at h⟩
          case measure => simp [intOf] <;> omega
      · have h7' : (k == 7) = false := by simp; omega
        have hkd0 : kd ≠ 0 := by omega
        have hkd0' : (kd == 0) = false := by simpa using hkd0
        have ha0 := HP.out.f0
        have ha1 := HP.out.f1
        have hxb := placeI_bd (b := fb) ha0 (show fa ≤ 23 by omega) hr1 hr2
        obtain ⟨x, hx⟩ : ∃ x, x = placeI fb fa rk := ⟨_, rfl⟩
        have hpl := l07Place_any fb fa rk wr ha0 (by omega) hr1 hr2
        rw [← hx] at hpl hxb
        have HPL := Lib.hid hpl
        have HX := Lib.hid hx
        clear hpl hx
        go_wp2_with fail
        refine HKK.out.mono ?_
        rintro e w1' ⟨rfl, rfl⟩
        go_wp2_with fail
        refine HPL.out.mono ?_
        rintro e w1 ⟨rfl, hb1⟩
        have e1 := ((bcell hb1).1 ga _ hga2).trans HCE.out.c1
        have e6 := ((bcell hb1).1 ga _ hga2).trans HCE.out.c6
        have HOWN1 := Lib.hid (own_below HOWN.out hb1)
        have HB1 := Lib.hid (HB.out.trans (hb1.mono HB.out.size))
        have HLN : Hid (x = placeI (z ((i + 1 - 1) * 8 + 2)) (z ((i + 1 - 1) * 8 + 3)) rk) := Lib.hid (by rw [Nat.add_sub_cancel, ← HX2.out, ← HX3.out]; exact HX.out)
        clear hb1 o0 o2 o3 o7
        cases op with
        | false =>
          rcases hkc with ⟨rfl, hk⟩ | ⟨rfl, hk⟩ | ⟨rfl, hk⟩
          · clear hk
            have HN := Lib.hid (psNext_new HST.out HX0.out.symm HX1.out.symm HX6.out.symm HKD.out.symm (by decide) (fun h => by simp at h))
            have ea1 : ∀ cs : Array Value, (w1.alloc (.cells cs 71)).cell? ⟨ga, o + i * 8 + 1, none⟩ = some (.int .i64 d) := fun cs => (World.cell?_alloc_lt w1 _ _ (World.block_lt_of_cell? w1 _ e1)).trans e1
            have ea6 : ∀ cs : Array Value, (w1.alloc (.cells cs 71)).cell? ⟨ga, o + i * 8 + 6, none⟩ = some (.int .i64 c) := fun cs => (World.cell?_alloc_lt w1 _ _ (World.block_lt_of_cell? w1 _ e6)).trans e6
            go_upto_region 27 with (fail)
            clear ea1 ea6
            obtain ⟨W2, hW2⟩ : ∃ x, x = w1.alloc (.cells #[.int .i64 1, .int .i64 d, .int .i64 c, .int .i64 rk, .int .i64 i, .int .i64 1] 71) := ⟨_, rfl⟩
            rw [← hW2]
            have hbw : Below w1.heap.size w1 W2 := hW2 ▸ (Below.refl _ _).alloc (Nat.le_refl _) _
            have HOW2 := Lib.hid (own_below HOWN1.out hbw)
            have HBW2 := Lib.hid (HB1.out.trans (hbw.mono HB1.out.size))
            have hbk : Blk W2 w1.heap.size 71 #[.int .i64 1, .int .i64 d, .int .i64 c, .int .i64 rk, .int .i64 i, .int .i64 1] := hW2 ▸ Blk.at_ _ _ _ rfl
            have y0 := hbk.cell 0
            have y1 := hbk.cell 1
            have y2 := hbk.cell 2
            have y3 := hbk.cell 3
            have y4 := hbk.cell 4
            have y5 := hbk.cell 5
            replace y0 : W2.cell? ⟨w1.heap.size, 0, none⟩ = some (.int .i64 1) := y0
            replace y1 : W2.cell? ⟨w1.heap.size, 1, none⟩ = some (.int .i64 d) := y1
            replace y2 : W2.cell? ⟨w1.heap.size, 2, none⟩ = some (.int .i64 c) := y2
            replace y3 : W2.cell? ⟨w1.heap.size, 3, none⟩ = some (.int .i64 rk) := y3
            replace y4 : W2.cell? ⟨w1.heap.size, 4, none⟩ = some (.int .i64 i) := y4
            replace y5 : W2.cell? ⟨w1.heap.size, 5, none⟩ = some (.int .i64 1) := y5
            clear hbw hbk hW2
            go_wp2_with (at_builtin; go_must (refine wpList_app W2 rfl (.tmp 116) (.tmp 118) _ rfl w.heap.size 71 i0 _ 6 48 Tryz.underlying38 hi iz is ib rfl (by omega) u3 m' _ (by rfl) HOW2.out _ 1 1 (ints [1, d, c, rk, (i : Int), 1]) rfl rfl (ints_one _) (by unfold maxLen; omega) (by omega) HBW2.out.size ?_); intro v' w' hown' hb'; rw [← ints_app] at hown'; have HOWN2 := Lib.hid hown'; have HB2 := Lib.hid (HBW2.out.trans hb'); clear hown' hb')
            go_wp2_with fail
            go_roundw
            case rel => exact ⟨i + 1, m' + 1, _, _, _, _, hlt, by go_num, HN.out, rfl, rfl, rfl, by have := HLEN.out; simp; omega, HOWN2.out, HB2.out, fun _ => HLN.out⟩
            case measure => simp [intOf] <;> omega
          · obtain ⟨rfl, rfl⟩ := HZD.out (by omega)
            clear hk
            have HN := Lib.hid (psNext_new HST.out HX0.out.symm HX1.out.symm HX6.out.symm HKD.out.symm (by decide) (fun h => by simp at h))
            go_upto_region 27 with (fail)
            obtain ⟨W2, hW2⟩ : ∃ x, x = w1.alloc (.cells #[.int .i64 2, .int .i64 0, .int .i64 0, .int .i64 rk, .int .i64 i, .int .i64 1] 71) := ⟨_, rfl⟩
            rw [← hW2]
            have hbw : Below w1.heap.size w1 W2 := hW2 ▸ (Below.refl _ _).alloc (Nat.le_refl _) _
            have HOW2 := Lib.hid (own_below HOWN1.out hbw)
            have HBW2 := Lib.hid (HB1.out.trans (hbw.mono HB1.out.size))
            have hbk : Blk W2 w1.heap.size 71 #[.int .i64 2, .int .i64 0, .int .i64 0, .int .i64 rk, .int .i64 i, .int .i64 1] := hW2 ▸ Blk.at_ _ _ _ rfl
            have y0 := hbk.cell 0
            have y1 := hbk.cell 1
            have y2 := hbk.cell 2
            have y3 := hbk.cell 3
            have y4 := hbk.cell 4
            have y5 := hbk.cell 5
            replace y0 : W2.cell? ⟨w1.heap.size, 0, none⟩ = some (.int .i64 2) := y0
            replace y1 : W2.cell? ⟨w1.heap.size, 1, none⟩ = some (.int .i64 0) := y1
            replace y2 : W2.cell? ⟨w1.heap.size, 2, none⟩ = some (.int .i64 0) := y2
            replace y3 : W2.cell? ⟨w1.heap.size, 3, none⟩ = some (.int .i64 rk) := y3
            replace y4 : W2.cell? ⟨w1.heap.size, 4, none⟩ = some (.int .i64 i) := y4
            replace y5 : W2.cell? ⟨w1.heap.size, 5, none⟩ = some (.int .i64 1) := y5
            clear hbw hbk hW2
            go_wp2_with (at_builtin; go_must (refine wpList_app W2 rfl (.tmp 116) (.tmp 118) _ rfl w.heap.size 71 i0 _ 6 48 Tryz.underlying38 hi iz is ib rfl (by omega) u3 m' _ (by rfl) HOW2.out _ 1 1 (ints [2, 0, 0, rk, (i : Int), 1]) rfl rfl (ints_one _) (by unfold maxLen; omega) (by omega) HBW2.out.size ?_); intro v' w' hown' hb'; rw [← ints_app] at hown'; have HOWN2 := Lib.hid hown'; have HB2 := Lib.hid (HBW2.out.trans hb'); clear hown' hb')
            go_wp2_with fail
            go_roundw
            case rel => exact ⟨i + 1, m' + 1, _, _, _, _, hlt, by go_num, HN.out, rfl, rfl, rfl, by have := HLEN.out; simp; omega, HOWN2.out, HB2.out, fun _ => HLN.out⟩
            case measure => simp [intOf] <;> omega
          · obtain ⟨rfl, rfl⟩ := HZD.out (by omega)
            clear hk
            have HN := Lib.hid (psNext_new HST.out HX0.out.symm HX1.out.symm HX6.out.symm HKD.out.symm (by decide) (fun h => by simp at h))
            go_upto_region 27 with (fail)
            obtain ⟨W2, hW2⟩ : ∃ x, x = w1.alloc (.cells #[.int .i64 3, .int .i64 0, .int .i64 0, .int .i64 rk, .int .i64 i, .int .i64 1] 71) := ⟨_, rfl⟩
            rw [← hW2]
            have hbw : Below w1.heap.size w1 W2 := hW2 ▸ (Below.refl _ _).alloc (Nat.le_refl _) _
            have HOW2 := Lib.hid (own_below HOWN1.out hbw)
            have HBW2 := Lib.hid (HB1.out.trans (hbw.mono HB1.out.size))
            have hbk : Blk W2 w1.heap.size 71 #[.int .i64 3, .int .i64 0, .int .i64 0, .int .i64 rk, .int .i64 i, .int .i64 1] := hW2 ▸ Blk.at_ _ _ _ rfl
            have y0 := hbk.cell 0
            have y1 := hbk.cell 1
            have y2 := hbk.cell 2
            have y3 := hbk.cell 3
            have y4 := hbk.cell 4
            have y5 := hbk.cell 5
            replace y0 : W2.cell? ⟨w1.heap.size, 0, none⟩ = some (.int .i64 3) := y0
            replace y1 : W2.cell? ⟨w1.heap.size, 1, none⟩ = some (.int .i64 0) := y1
            replace y2 : W2.cell? ⟨w1.heap.size, 2, none⟩ = some (.int .i64 0) := y2
            replace y3 : W2.cell? ⟨w1.heap.size, 3, none⟩ = some (.int .i64 rk) := y3
            replace y4 : W2.cell? ⟨w1.heap.size, 4, none⟩ = some (.int .i64 i) := y4
            replace y5 : W2.cell? ⟨w1.heap.size, 5, none⟩ = some (.int .i64 1) := y5
            clear hbw hbk hW2
            go_wp2_with (at_builtin; go_must (refine wpList_app W2 rfl (.tmp 116) (.tmp 118) _ rfl w.heap.size 71 i0 _ 6 48 Tryz.underlying38 hi iz is ib rfl (by omega) u3 m' _ (by rfl) HOW2.out _ 1 1 (ints [3, 0, 0, rk, (i : Int), 1]) rfl rfl (ints_one _) (by unfold maxLen; omega) (by omega) HBW2.out.size ?_); intro v' w' hown' hb'; rw [← ints_app] at hown'; have HOWN2 := Lib.hid hown'; have HB2 := Lib.hid (HBW2.out.trans hb'); clear hown' hb')
            go_wp2_with fail
            go_roundw
            case rel => exact ⟨i + 1, m' + 1, _, _, _, _, hlt, by go_num, HN.out, rfl, rfl, rfl, by have := HLEN.out; simp; omega, HOWN2.out, HB2.out, fun _ => HLN.out⟩
            case measure => simp [intOf] <;> omega
        | true =>
          obtain ⟨hm1, hl50, hl51⟩ : 1 ≤ m' ∧ 0 ≤ tailAt L 5 ∧ tailAt L 5 ≤ (i : Int) := HOK.out.op rfl
          obtain ⟨m, hmm⟩ : ∃ m, m' = m + 1 := ⟨m' - 1, by omega⟩
          subst hmm
          obtain ⟨g, cc, rfl, hg0, hg1⟩ := own_some HOWN1.out
          have HG0 := Lib.hid hg0
          obtain ⟨l0, hl0⟩ : ∃ x, x = tailAt L 0 := ⟨_, rfl⟩
          obtain ⟨l1, hl1⟩ : ∃ x, x = tailAt L 1 := ⟨_, rfl⟩
          obtain ⟨l2, hl2⟩ : ∃ x, x = tailAt L 2 := ⟨_, rfl⟩
          obtain ⟨l5, hl5⟩ : ∃ x, x = tailAt L 5 := ⟨_, rfl⟩
          rw [← hl5] at hl50 hl51
          have hpp := opOk_at hW1 (HOPS.out (i - 1) (by omega))
          have hyb := placeI_bd (b := z ((i - 1) * 8 + 2)) hpp.f0 (show z ((i - 1) * 8 + 3) ≤ 23 by have := hpp.f1; omega) hr1 hr2
          rw [← HLA.out rfl] at hyb
          have GB1 := Lib.hid (show ga < w1.heap.size from World.block_lt_of_cell? w1 _ e1)
          have E1 := Lib.hid e1
          have E6 := Lib.hid e6
          have TL : Hid (∀ w', Below w1.heap.size w1 w' → w'.cell? ⟨g, m * 6, none⟩ = some (.int .i64 l0) ∧ w'.cell? ⟨g, m * 6 + 1, none⟩ = some (.int .i64 l1) ∧ w'.cell? ⟨g, m * 6 + 2, none⟩ = some (.int .i64 l2) ∧ w'.cell? ⟨g, m * 6 + 5, none⟩ = some (.int .i64 l5) ∧ w'.frozen? ⟨g, m * 6 + 5, none⟩ = false ∧ w'.cell? ⟨ga, o + i * 8 + 1, none⟩ = some (.int .i64 d) ∧ w'.cell? ⟨ga, o + i * 8 + 6, none⟩ = some (.int .i64 c)) := Lib.hid fun w' hb => by
            have ho := own_below HOWN1.out hb
            rw [hl0, hl1, hl2, hl5]
            exact ⟨own_tail ho HLEN.out (t := 0) (by omega), own_tail ho HLEN.out (by omega), own_tail ho HLEN.out (by omega), own_tail ho HLEN.out (by omega), ho.frozenAt _, ((bcell hb).1 _ _ GB1.out).trans E1.out, ((bcell hb).1 _ _ GB1.out).trans E6.out⟩
          have HL5 := Lib.hid hl5
          have hl5n : l5 ≤ 2000 := by omega
          have hmI : ((m + 1 : Nat) : Int) - 1 = (m : Int) := by omega
          have HFI : Hid (psFits ⟨L, true, rk⟩ z i ↔ (l0 = kd ∧ l1 = d ∧ l2 = c ∧ (kd = 1 → 0 < (x - la) * d))) := Lib.hid (by
            unfold psFits goOn
            rw [← HX0.out, ← HX1.out, ← HX2.out, ← HX3.out, ← HX6.out, HLA.out rfl, hl0, hl1, hl2, HKD.out, HX.out])
          clear hl0 hl1 hl2 hl5 hl51 hpp hg0 e1 e6
          obtain ⟨t0, t1, t2, t5, r5, e1, e6⟩ := TL.out _ (Below.refl _ _)
          rcases hkc with ⟨rfl, hk⟩ | ⟨rfl, hk⟩ | ⟨rfl, hk⟩
          · have hd := HP.out.dir (by omega) (by omega) (by omega) (by omega)
            have HK := Lib.hid hk
            clear hk
            have hwx : IntKind.i64.wrap (x - la) = x - la := by rw [IntKind.wrap_i64]; omega
            have hwy : IntKind.i64.wrap (la - x) = la - x := by rw [IntKind.wrap_i64]; omega
            have hwz : IntKind.i64.wrap (-(x - la)) = la - x := by rw [IntKind.wrap_i64]; omega
            have hwv : IntKind.i64.wrap ((x - la) * -1) = la - x := by rw [IntKind.wrap_i64]; omega
            rcases hd with rfl | rfl
            · by_cases h0 : l0 = 1
              · by_cases h1 : l1 = 1
                · by_cases h2 : l2 = c
                  · by_cases h3 : la < x
                    · have HN := Lib.hid (psNext_on HST.out HX0.out.symm HKD.out.symm (by decide) (HFI.out.2 ⟨h0, h1, h2, fun _ => by omega⟩))
                      have b0 : (l0 == 1) = true := by simpa using h0
                      have b1 : (l1 == 1) = true := by simpa using h1
                      have b2 : (l2 == c) = true := by simpa using h2
                      have h3d : decide (la < x) = true := by simpa using h3
                      clear h0 h1 h2
                      go_wp2_with fail
                      go_quiet (fail)
                      obtain ⟨w4, hw4⟩ : ∃ x, x = w1.drewN nq := ⟨_, rfl⟩
                      rw [← hw4]
                      have HB4 : Hid (Below w1.heap.size w1 w4) := Lib.hid (hw4 ▸ Below.drewN' (Below.refl _ _) nq)
                      clear t0 t1 t2 t5 r5 e1 e6 hw4
                      obtain ⟨t0, t1, t2, t5, r5, e1, e6⟩ := TL.out _ HB4.out
                      have HOWN4 := Lib.hid (own_below HOWN1.out HB4.out)
                      have HBW4 := Lib.hid (HB1.out.trans (HB4.out.mono HB1.out.size))
                      have HST4 := Lib.hid (HOWN4.out.stored (m * 6 + 5) (.int .i64 (l5 + 1))).1
                      go_wp2_with fail
                      go_roundw
                      case rel => exact ⟨i + 1, m + 1, _, _, _, _, hlt, by go_num, HN.out, rfl, rfl, rfl, by simpa using HLEN.out, by have := HLEN.out; rw [show L.length - 1 = m * 6 + 5 by omega, ← HL5.out, ← ints_set]; exact HST4.out, HBW4.out.setCell HG0.out _, fun _ => HLN.out⟩
                      case measure => simp [intOf] <;> omega
                    · have HN := Lib.hid (psNext_new HST.out HX0.out.symm HX1.out.symm HX6.out.symm HKD.out.symm (by decide) (fun _ hf => by have hf := HFI.out.1 hf; exact absurd (hf.2.2.2 (by first | exact rfl | trivial)) (by omega)))
                      have b0 : (l0 == 1) = true := by simpa using h0
                      have b1 : (l1 == 1) = true := by simpa using h1
                      have b2 : (l2 == c) = true := by simpa using h2
                      have h3d : decide (la < x) = false := by simpa using h3
                      clear h0 h1 h2
                      go_wp2_with fail
                      go_quiet (fail)
                      obtain ⟨w4, hw4⟩ : ∃ x, x = w1.drewN nq := ⟨_, rfl⟩
                      rw [← hw4]
                      have HB4 : Hid (Below w1.heap.size w1 w4) := Lib.hid (hw4 ▸ Below.drewN' (Below.refl _ _) nq)
                      clear t0 t1 t2 t5 r5 e1 e6 hw4
                      obtain ⟨t0, t1, t2, t5, r5, e1, e6⟩ := TL.out _ HB4.out
                      have HOWN4 := Lib.hid (own_below HOWN1.out HB4.out)
                      have HBW4 := Lib.hid (HB1.out.trans (HB4.out.mono HB1.out.size))
                      have ea1 : ∀ cs : Array Value, (w4.alloc (.cells cs 71)).cell? ⟨ga, o + i * 8 + 1, none⟩ = some (.int .i64 1) := fun cs => (World.cell?_alloc_lt w4 _ _ (World.block_lt_of_cell? w4 _ e1)).trans e1
                      have ea6 : ∀ cs : Array Value, (w4.alloc (.cells cs 71)).cell? ⟨ga, o + i * 8 + 6, none⟩ = some (.int .i64 c) := fun cs => (World.cell?_alloc_lt w4 _ _ (World.block_lt_of_cell? w4 _ e6)).trans e6
                      go_upto_region 27 with (fail)
                      clear ea1 ea6
                      obtain ⟨W2, hW2⟩ : ∃ x, x = w4.alloc (.cells #[.int .i64 1, .int .i64 1, .int .i64 c, .int .i64 rk, .int .i64 i, .int .i64 1] 71) := ⟨_, rfl⟩
                      rw [← hW2]
                      have hbw : Below w4.heap.size w4 W2 := hW2 ▸ (Below.refl _ _).alloc (Nat.le_refl _) _
                      have HOW2 := Lib.hid (own_below HOWN4.out hbw)
                      have HBW2 := Lib.hid (HBW4.out.trans (hbw.mono HBW4.out.size))
                      have hbk : Blk W2 w4.heap.size 71 #[.int .i64 1, .int .i64 1, .int .i64 c, .int .i64 rk, .int .i64 i, .int .i64 1] := hW2 ▸ Blk.at_ _ _ _ rfl
                      have y0 := hbk.cell 0
                      have y1 := hbk.cell 1
                      have y2 := hbk.cell 2
                      have y3 := hbk.cell 3
                      have y4 := hbk.cell 4
                      have y5 := hbk.cell 5
                      replace y0 : W2.cell? ⟨w4.heap.size, 0, none⟩ = some (.int .i64 1) := y0
                      replace y1 : W2.cell? ⟨w4.heap.size, 1, none⟩ = some (.int .i64 1) := y1
                      replace y2 : W2.cell? ⟨w4.heap.size, 2, none⟩ = some (.int .i64 c) := y2
                      replace y3 : W2.cell? ⟨w4.heap.size, 3, none⟩ = some (.int .i64 rk) := y3
                      replace y4 : W2.cell? ⟨w4.heap.size, 4, none⟩ = some (.int .i64 i) := y4
                      replace y5 : W2.cell? ⟨w4.heap.size, 5, none⟩ = some (.int .i64 1) := y5
                      clear hbw hbk hW2
                      go_wp2_with (at_builtin; go_must (refine wpList_app W2 rfl (.tmp 116) (.tmp 118) _ rfl w.heap.size 71 i0 _ 6 48 Tryz.underlying38 hi iz is ib rfl (by omega) (.slice (some ⟨g, 0, none⟩) (m + 1) cc) (m+1) _ (by rfl) HOW2.out _ 1 1 (ints [1, 1, c, rk, (i : Int), 1]) rfl rfl (ints_one _) (by unfold maxLen; omega) (by omega) HBW2.out.size ?_); intro v' w' hown' hb'; rw [← ints_app] at hown'; have HOWN2 := Lib.hid hown'; have HB2 := Lib.hid (HBW2.out.trans hb'); clear hown' hb')
                      go_wp2_with fail
                      go_roundw
                      case rel => exact ⟨i + 1, (m + 1) + 1, _, _, _, _, hlt, by go_num, HN.out, rfl, rfl, rfl, by have := HLEN.out; simp; omega, HOWN2.out, HB2.out, fun _ => HLN.out⟩
                      case measure => simp [intOf] <;> omega
                  · have HN := Lib.hid (psNext_new HST.out HX0.out.symm HX1.out.symm HX6.out.symm HKD.out.symm (by decide) (fun _ hf => by have hf := HFI.out.1 hf; exact h2 hf.2.2.1))
                    have b0 : (l0 == 1) = true := by simpa using h0
                    have b1 : (l1 == 1) = true := by simpa using h1
                    have b2 : (l2 == c) = false := by simpa using h2
                    clear h0 h1 h2
                    go_wp2_with fail
                    go_quiet (fail)
                    obtain ⟨w4, hw4⟩ : ∃ x, x = w1.drewN nq := ⟨_, rfl⟩
                    rw [← hw4]
                    have HB4 : Hid (Below w1.heap.size w1 w4) := Lib.hid (hw4 ▸ Below.drewN' (Below.refl _ _) nq)
                    clear t0 t1 t2 t5 r5 e1 e6 hw4
                    obtain ⟨t0, t1, t2, t5, r5, e1, e6⟩ := TL.out _ HB4.out
                    have HOWN4 := Lib.hid (own_below HOWN1.out HB4.out)
                    have HBW4 := Lib.hid (HB1.out.trans (HB4.out.mono HB1.out.size))
                    have ea1 : ∀ cs : Array Value, (w4.alloc (.cells cs 71)).cell? ⟨ga, o + i * 8 + 1, none⟩ = some (.int .i64 1) := fun cs => (World.cell?_alloc_lt w4 _ _ (World.block_lt_of_cell? w4 _ e1)).trans e1
                    have ea6 : ∀ cs : Array Value, (w4.alloc (.cells cs 71)).cell? ⟨ga, o + i * 8 + 6, none⟩ = some (.int .i64 c) := fun cs => (World.cell?_alloc_lt w4 _ _ (World.block_lt_of_cell? w4 _ e6)).trans e6
                    go_upto_region 27 with (fail)
                    clear ea1 ea6
                    obtain ⟨W2, hW2⟩ : ∃ x, x = w4.alloc (.cells #[.int .i64 1, .int .i64 1, .int .i64 c, .int .i64 rk, .int .i64 i, .int .i64 1] 71) := ⟨_, rfl⟩
                    rw [← hW2]
                    have hbw : Below w4.heap.size w4 W2 := hW2 ▸ (Below.refl _ _).alloc (Nat.le_refl _) _
                    have HOW2 := Lib.hid (own_below HOWN4.out hbw)
                    have HBW2 := Lib.hid (HBW4.out.trans (hbw.mono HBW4.out.size))
                    have hbk : Blk W2 w4.heap.size 71 #[.int .i64 1, .int .i64 1, .int .i64 c, .int .i64 rk, .int .i64 i, .int .i64 1] := hW2 ▸ Blk.at_ _ _ _ rfl
                    have y0 := hbk.cell 0
                    have y1 := hbk.cell 1
                    have y2 := hbk.cell 2
                    have y3 := hbk.cell 3
                    have y4 := hbk.cell 4
                    have y5 := hbk.cell 5
                    replace y0 : W2.cell? ⟨w4.heap.size, 0, none⟩ = some (.int .i64 1) := y0
                    replace y1 : W2.cell? ⟨w4.heap.size, 1, none⟩ = some (.int .i64 1) := y1
                    replace y2 : W2.cell? ⟨w4.heap.size, 2, none⟩ = some (.int .i64 c) := y2
                    replace y3 : W2.cell? ⟨w4.heap.size, 3, none⟩ = some (.int .i64 rk) := y3
                    replace y4 : W2.cell? ⟨w4.heap.size, 4, none⟩ = some (.int .i64 i) := y4
                    replace y5 : W2.cell? ⟨w4.heap.size, 5, none⟩ = some (.int .i64 1) := y5
                    clear hbw hbk hW2
                    go_wp2_with (at_builtin; go_must (refine wpList_app W2 rfl (.tmp 116) (.tmp 118) _ rfl w.heap.size 71 i0 _ 6 48 Tryz.underlying38 hi iz is ib rfl (by omega) (.slice (some ⟨g, 0, none⟩) (m + 1) cc) (m+1) _ (by rfl) HOW2.out _ 1 1 (ints [1, 1, c, rk, (i : Int), 1]) rfl rfl (ints_one _) (by unfold maxLen; omega) (by omega) HBW2.out.size ?_); intro v' w' hown' hb'; rw [← ints_app] at hown'; have HOWN2 := Lib.hid hown'; have HB2 := Lib.hid (HBW2.out.trans hb'); clear hown' hb')
                    go_wp2_with fail
                    go_roundw
                    case rel => exact ⟨i + 1, (m + 1) + 1, _, _, _, _, hlt, by go_num, HN.out, rfl, rfl, rfl, by have := HLEN.out; simp; omega, HOWN2.out, HB2.out, fun _ => HLN.out⟩
                    case measure => simp [intOf] <;> omega
                · have HN := Lib.hid (psNext_new HST.out HX0.out.symm HX1.out.symm HX6.out.symm HKD.out.symm (by decide) (fun _ hf => by have hf := HFI.out.1 hf; exact h1 hf.2.1))
                  have b0 : (l0 == 1) = true := by simpa using h0
                  have b1 : (l1 == 1) = false := by simpa using h1
                  clear h0 h1
                  go_wp2_with fail
                  go_quiet (fail)
                  obtain ⟨w4, hw4⟩ : ∃ x, x = w1.drewN nq := ⟨_, rfl⟩
                  rw [← hw4]
                  have HB4 : Hid (Below w1.heap.size w1 w4) := Lib.hid (hw4 ▸ Below.drewN' (Below.refl _ _) nq)
                  clear t0 t1 t2 t5 r5 e1 e6 hw4
                  obtain ⟨t0, t1, t2, t5, r5, e1, e6⟩ := TL.out _ HB4.out
                  have HOWN4 := Lib.hid (own_below HOWN1.out HB4.out)
                  have HBW4 := Lib.hid (HB1.out.trans (HB4.out.mono HB1.out.size))
                  have ea1 : ∀ cs : Array Value, (w4.alloc (.cells cs 71)).cell? ⟨ga, o + i * 8 + 1, none⟩ = some (.int .i64 1) := fun cs => (World.cell?_alloc_lt w4 _ _ (World.block_lt_of_cell? w4 _ e1)).trans e1
                  have ea6 : ∀ cs : Array Value, (w4.alloc (.cells cs 71)).cell? ⟨ga, o + i * 8 + 6, none⟩ = some (.int .i64 c) := fun cs => (World.cell?_alloc_lt w4 _ _ (World.block_lt_of_cell? w4 _ e6)).trans e6
                  go_upto_region 27 with (fail)
                  clear ea1 ea6
                  obtain ⟨W2, hW2⟩ : ∃ x, x = w4.alloc (.cells #[.int .i64 1, .int .i64 1, .int .i64 c, .int .i64 rk, .int .i64 i, .int .i64 1] 71) := ⟨_, rfl⟩
                  rw [← hW2]
                  have hbw : Below w4.heap.size w4 W2 := hW2 ▸ (Below.refl _ _).alloc (Nat.le_refl _) _
                  have HOW2 := Lib.hid (own_below HOWN4.out hbw)
                  have HBW2 := Lib.hid (HBW4.out.trans (hbw.mono HBW4.out.size))
                  have hbk : Blk W2 w4.heap.size 71 #[.int .i64 1, .int .i64 1, .int .i64 c, .int .i64 rk, .int .i64 i, .int .i64 1] := hW2 ▸ Blk.at_ _ _ _ rfl
                  have y0 := hbk.cell 0
                  have y1 := hbk.cell 1
                  have y2 := hbk.cell 2
                  have y3 := hbk.cell 3
                  have y4 := hbk.cell 4
                  have y5 := hbk.cell 5
                  replace y0 : W2.cell? ⟨w4.heap.size, 0, none⟩ = some (.int .i64 1) := y0
                  replace y1 : W2.cell? ⟨w4.heap.size, 1, none⟩ = some (.int .i64 1) := y1
                  replace y2 : W2.cell? ⟨w4.heap.size, 2, none⟩ = some (.int .i64 c) := y2
                  replace y3 : W2.cell? ⟨w4.heap.size, 3, none⟩ = some (.int .i64 rk) := y3
                  replace y4 : W2.cell? ⟨w4.heap.size, 4, none⟩ = some (.int .i64 i) := y4
                  replace y5 : W2.cell? ⟨w4.heap.size, 5, none⟩ = some (.int .i64 1) := y5
                  clear hbw hbk hW2
                  go_wp2_with (at_builtin; go_must (refine wpList_app W2 rfl (.tmp 116) (.tmp 118) _ rfl w.heap.size 71 i0 _ 6 48 Tryz.underlying38 hi iz is ib rfl (by omega) (.slice (some ⟨g, 0, none⟩) (m + 1) cc) (m+1) _ (by rfl) HOW2.out _ 1 1 (ints [1, 1, c, rk, (i : Int), 1]) rfl rfl (ints_one _) (by unfold maxLen; omega) (by omega) HBW2.out.size ?_); intro v' w' hown' hb'; rw [← ints_app] at hown'; have HOWN2 := Lib.hid hown'; have HB2 := Lib.hid (HBW2.out.trans hb'); clear hown' hb')
                  go_wp2_with fail
                  go_roundw
                  case rel => exact ⟨i + 1, (m + 1) + 1, _, _, _, _, hlt, by go_num, HN.out, rfl, rfl, rfl, by have := HLEN.out; simp; omega, HOWN2.out, HB2.out, fun _ => HLN.out⟩
                  case measure => simp [intOf] <;> omega
              · have HN := Lib.hid (psNext_new HST.out HX0.out.symm HX1.out.symm HX6.out.symm HKD.out.symm (by decide) (fun _ hf => by have hf := HFI.out.1 hf; exact h0 hf.1))
                have b0 : (l0 == 1) = false := by simpa using h0
                clear h0
                go_wp2_with fail
                go_quiet (fail)
                obtain ⟨w4, hw4⟩ : ∃ x, x = w1.drewN nq := ⟨_, rfl⟩
                rw [← hw4]
                have HB4 : Hid (Below w1.heap.size w1 w4) := Lib.hid (hw4 ▸ Below.drewN' (Below.refl _ _) nq)
                clear t0 t1 t2 t5 r5 e1 e6 hw4
                obtain ⟨t0, t1, t2, t5, r5, e1, e6⟩ := TL.out _ HB4.out
                have HOWN4 := Lib.hid (own_below HOWN1.out HB4.out)
                have HBW4 := Lib.hid (HB1.out.trans (HB4.out.mono HB1.out.size))
                have ea1 : ∀ cs : Array Value, (w4.alloc (.cells cs 71)).cell? ⟨ga, o + i * 8 + 1, none⟩ = some (.int .i64 1) := fun cs => (World.cell?_alloc_lt w4 _ _ (World.block_lt_of_cell? w4 _ e1)).trans e1
                have ea6 : ∀ cs : Array Value, (w4.alloc (.cells cs 71)).cell? ⟨ga, o + i * 8 + 6, none⟩ = some (.int .i64 c) := fun cs => (World.cell?_alloc_lt w4 _ _ (World.block_lt_of_cell? w4 _ e6)).trans e6
                go_upto_region 27 with (fail)
                clear ea1 ea6
                obtain ⟨W2, hW2⟩ : ∃ x, x = w4.alloc (.cells #[.int .i64 1, .int .i64 1, .int .i64 c, .int .i64 rk, .int .i64 i, .int .i64 1] 71) := ⟨_, rfl⟩
                rw [← hW2]
                have hbw : Below w4.heap.size w4 W2 := hW2 ▸ (Below.refl _ _).alloc (Nat.le_refl _) _
                have HOW2 := Lib.hid (own_below HOWN4.out hbw)
                have HBW2 := Lib.hid (HBW4.out.trans (hbw.mono HBW4.out.size))
                have hbk : Blk W2 w4.heap.size 71 #[.int .i64 1, .int .i64 1, .int .i64 c, .int .i64 rk, .int .i64 i, .int .i64 1] := hW2 ▸ Blk.at_ _ _ _ rfl
                have y0 := hbk.cell 0
                have y1 := hbk.cell 1
                have y2 := hbk.cell 2
                have y3 := hbk.cell 3
                have y4 := hbk.cell 4
                have y5 := hbk.cell 5
                replace y0 : W2.cell? ⟨w4.heap.size, 0, none⟩ = some (.int .i64 1) := y0
                replace y1 : W2.cell? ⟨w4.heap.size, 1, none⟩ = some (.int .i64 1) := y1
                replace y2 : W2.cell? ⟨w4.heap.size, 2, none⟩ = some (.int .i64 c) := y2
                replace y3 : W2.cell? ⟨w4.heap.size, 3, none⟩ = some (.int .i64 rk) := y3
                replace y4 : W2.cell? ⟨w4.heap.size, 4, none⟩ = some (.int .i64 i) := y4
                replace y5 : W2.cell? ⟨w4.heap.size, 5, none⟩ = some (.int .i64 1) := y5
                clear hbw hbk hW2
                go_wp2_with (at_builtin; go_must (refine wpList_app W2 rfl (.tmp 116) (.tmp 118) _ rfl w.heap.size 71 i0 _ 6 48 Tryz.underlying38 hi iz is ib rfl (by omega) (.slice (some ⟨g, 0, none⟩) (m + 1) cc) (m+1) _ (by rfl) HOW2.out _ 1 1 (ints [1, 1, c, rk, (i : Int), 1]) rfl rfl (ints_one _) (by unfold maxLen; omega) (by omega) HBW2.out.size ?_); intro v' w' hown' hb'; rw [← ints_app] at hown'; have HOWN2 := Lib.hid hown'; have HB2 := Lib.hid (HBW2.out.trans hb'); clear hown' hb')
                go_wp2_with fail
                go_roundw
                case rel => exact ⟨i + 1, (m + 1) + 1, _, _, _, _, hlt, by go_num, HN.out, rfl, rfl, rfl, by have := HLEN.out; simp; omega, HOWN2.out, HB2.out, fun _ => HLN.out⟩
                case measure => simp [intOf] <;> omega
            · by_cases h0 : l0 = 1
              · by_cases h1 : l1 = (-1)
                · by_cases h2 : l2 = c
                  · by_cases h3 : x < la
                    · have HN := Lib.hid (psNext_on HST.out HX0.out.symm HKD.out.symm (by decide) (HFI.out.2 ⟨h0, h1, h2, fun _ => by omega⟩))
                      have b0 : (l0 == 1) = true := by simpa using h0
                      have b1 : (l1 == (-1)) = true := by simpa using h1
                      have b2 : (l2 == c) = true := by simpa using h2
                      have h3d : decide (x < la) = true := by simpa using h3
                      clear h0 h1 h2
                      go_wp2_with fail
                      go_quiet (fail)
                      obtain ⟨w4, hw4⟩ : ∃ x, x = w1.drewN nq := ⟨_, rfl⟩
                      rw [← hw4]
                      have HB4 : Hid (Below w1.heap.size w1 w4) := Lib.hid (hw4 ▸ Below.drewN' (Below.refl _ _) nq)
                      clear t0 t1 t2 t5 r5 e1 e6 hw4
                      obtain ⟨t0, t1, t2, t5, r5, e1, e6⟩ := TL.out _ HB4.out
                      have HOWN4 := Lib.hid (own_below HOWN1.out HB4.out)
                      have HBW4 := Lib.hid (HB1.out.trans (HB4.out.mono HB1.out.size))
                      have HST4 := Lib.hid (HOWN4.out.stored (m * 6 + 5) (.int .i64 (l5 + 1))).1
                      go_wp2_with fail
                      go_roundw
                      case rel => exact ⟨i + 1, m + 1, _, _, _, _, hlt, by go_num, HN.out, rfl, rfl, rfl, by simpa using HLEN.out, by have := HLEN.out; rw [show L.length - 1 = m * 6 + 5 by omega, ← HL5.out, ← ints_set]; exact HST4.out, HBW4.out.setCell HG0.out _, fun _ => HLN.out⟩
                      case measure => simp [intOf] <;> omega
                    · have HN := Lib.hid (psNext_new HST.out HX0.out.symm HX1.out.symm HX6.out.symm HKD.out.symm (by decide) (fun _ hf => by have hf := HFI.out.1 hf; exact absurd (hf.2.2.2 (by first | exact rfl | trivial)) (by omega)))
                      have b0 : (l0 == 1) = true := by simpa using h0
                      have b1 : (l1 == (-1)) = true := by simpa using h1
                      have b2 : (l2 == c) = true := by simpa using h2
                      have h3d : decide (x < la) = false := by simpa using h3
                      clear h0 h1 h2
                      go_wp2_with fail
                      go_quiet (fail)
                      obtain ⟨w4, hw4⟩ : ∃ x, x = w1.drewN nq := ⟨_, rfl⟩
                      rw [← hw4]
                      have HB4 : Hid (Below w1.heap.size w1 w4) := Lib.hid (hw4 ▸ Below.drewN' (Below.refl _ _) nq)
                      clear t0 t1 t2 t5 r5 e1 e6 hw4
                      obtain ⟨t0, t1, t2, t5, r5, e1, e6⟩ := TL.out _ HB4.out
                      have HOWN4 := Lib.hid (own_below HOWN1.out HB4.out)
                      have HBW4 := Lib.hid (HB1.out.trans (HB4.out.mono HB1.out.size))
                      have ea1 : ∀ cs : Array Value, (w4.alloc (.cells cs 71)).cell? ⟨ga, o + i * 8 + 1, none⟩ = some (.int .i64 (-1)) := fun cs => (World.cell?_alloc_lt w4 _ _ (World.block_lt_of_cell? w4 _ e1)).trans e1
                      have ea6 : ∀ cs : Array Value, (w4.alloc (.cells cs 71)).cell? ⟨ga, o + i * 8 + 6, none⟩ = some (.int .i64 c) := fun cs => (World.cell?_alloc_lt w4 _ _ (World.block_lt_of_cell? w4 _ e6)).trans e6
                      go_upto_region 27 with (fail)
                      clear ea1 ea6
                      obtain ⟨W2, hW2⟩ : ∃ x, x = w4.alloc (.cells #[.int .i64 1, .int .i64 (-1), .int .i64 c, .int .i64 rk, .int .i64 i, .int .i64 1] 71) := ⟨_, rfl⟩
                      rw [← hW2]
                      have hbw : Below w4.heap.size w4 W2 := hW2 ▸ (Below.refl _ _).alloc (Nat.le_refl _) _
                      have HOW2 := Lib.hid (own_below HOWN4.out hbw)
                      have HBW2 := Lib.hid (HBW4.out.trans (hbw.mono HBW4.out.size))
                      have hbk : Blk W2 w4.heap.size 71 #[.int .i64 1, .int .i64 (-1), .int .i64 c, .int .i64 rk, .int .i64 i, .int .i64 1] := hW2 ▸ Blk.at_ _ _ _ rfl
                      have y0 := hbk.cell 0
                      have y1 := hbk.cell 1
                      have y2 := hbk.cell 2
                      have y3 := hbk.cell 3
                      have y4 := hbk.cell 4
                      have y5 := hbk.cell 5
                      replace y0 : W2.cell? ⟨w4.heap.size, 0, none⟩ = some (.int .i64 1) := y0
                      replace y1 : W2.cell? ⟨w4.heap.size, 1, none⟩ = some (.int .i64 (-1)) := y1
                      replace y2 : W2.cell? ⟨w4.heap.size, 2, none⟩ = some (.int .i64 c) := y2
                      replace y3 : W2.cell? ⟨w4.heap.size, 3, none⟩ = some (.int .i64 rk) := y3
                      replace y4 : W2.cell? ⟨w4.heap.size, 4, none⟩ = some (.int .i64 i) := y4
                      replace y5 : W2.cell? ⟨w4.heap.size, 5, none⟩ = some (.int .i64 1) := y5
                      clear hbw hbk hW2
                      go_wp2_with (at_builtin; go_must (refine wpList_app W2 rfl (.tmp 116) (.tmp 118) _ rfl w.heap.size 71 i0 _ 6 48 Tryz.underlying38 hi iz is ib rfl (by omega) (.slice (some ⟨g, 0, none⟩) (m + 1) cc) (m+1) _ (by rfl) HOW2.out _ 1 1 (ints [1, (-1), c, rk, (i : Int), 1]) rfl rfl (ints_one _) (by unfold maxLen; omega) (by omega) HBW2.out.size ?_); intro v' w' hown' hb'; rw [← ints_app] at hown'; have HOWN2 := Lib.hid hown'; have HB2 := Lib.hid (HBW2.out.trans hb'); clear hown' hb')
                      go_wp2_with fail
                      go_roundw
                      case rel => exact ⟨i + 1, (m + 1) + 1, _, _, _, _, hlt, by go_num, HN.out, rfl, rfl, rfl, by have := HLEN.out; simp; omega, HOWN2.out, HB2.out, fun _ => HLN.out⟩
                      case measure => simp [intOf] <;> omega
                  · have HN := Lib.hid (psNext_new HST.out HX0.out.symm HX1.out.symm HX6.out.symm HKD.out.symm (by decide) (fun _ hf => by have hf := HFI.out.1 hf; exact h2 hf.2.2.1))
                    have b0 : (l0 == 1) = true := by simpa using h0
                    have b1 : (l1 == (-1)) = true := by simpa using h1
                    have b2 : (l2 == c) = false := by simpa using h2
                    clear h0 h1 h2
                    go_wp2_with fail
                    go_quiet (fail)
                    obtain ⟨w4, hw4⟩ : ∃ x, x = w1.drewN nq := ⟨_, rfl⟩
                    rw [← hw4]
                    have HB4 : Hid (Below w1.heap.size w1 w4) := Lib.hid (hw4 ▸ Below.drewN' (Below.refl _ _) nq)
                    clear t0 t1 t2 t5 r5 e1 e6 hw4
                    obtain ⟨t0, t1, t2, t5, r5, e1, e6⟩ := TL.out _ HB4.out
                    have HOWN4 := Lib.hid (own_below HOWN1.out HB4.out)
                    have HBW4 := Lib.hid (HB1.out.trans (HB4.out.mono HB1.out.size))
                    have ea1 : ∀ cs : Array Value, (w4.alloc (.cells cs 71)).cell? ⟨ga, o + i * 8 + 1, none⟩ = some (.int .i64 (-1)) := fun cs => (World.cell?_alloc_lt w4 _ _ (World.block_lt_of_cell? w4 _ e1)).trans e1
                    have ea6 : ∀ cs : Array Value, (w4.alloc (.cells cs 71)).cell? ⟨ga, o + i * 8 + 6, none⟩ = some (.int .i64 c) := fun cs => (World.cell?_alloc_lt w4 _ _ (World.block_lt_of_cell? w4 _ e6)).trans e6
                    go_upto_region 27 with (fail)
                    clear ea1 ea6
                    obtain ⟨W2, hW2⟩ : ∃ x, x = w4.alloc (.cells #[.int .i64 1, .int .i64 (-1), .int .i64 c, .int .i64 rk, .int .i64 i, .int .i64 1] 71) := ⟨_, rfl⟩
                    rw [← hW2]
                    have hbw : Below w4.heap.size w4 W2 := hW2 ▸ (Below.refl _ _).alloc (Nat.le_refl _) _
                    have HOW2 := Lib.hid (own_below HOWN4.out hbw)
                    have HBW2 := Lib.hid (HBW4.out.trans (hbw.mono HBW4.out.size))
                    have hbk : Blk W2 w4.heap.size 71 #[.int .i64 1, .int .i64 (-1), .int .i64 c, .int .i64 rk, .int .i64 i, .int .i64 1] := hW2 ▸ Blk.at_ _ _ _ rfl
                    have y0 := hbk.cell 0
                    have y1 := hbk.cell 1
                    have y2 := hbk.cell 2
                    have y3 := hbk.cell 3
                    have y4 := hbk.cell 4
                    have y5 := hbk.cell 5
                    replace y0 : W2.cell? ⟨w4.heap.size, 0, none⟩ = some (.int .i64 1) := y0
                    replace y1 : W2.cell? ⟨w4.heap.size, 1, none⟩ = some (.int .i64 (-1)) := y1
                    replace y2 : W2.cell? ⟨w4.heap.size, 2, none⟩ = some (.int .i64 c) := y2
                    replace y3 : W2.cell? ⟨w4.heap.size, 3, none⟩ = some (.int .i64 rk) := y3
                    replace y4 : W2.cell? ⟨w4.heap.size, 4, none⟩ = some (.int .i64 i) := y4
                    replace y5 : W2.cell? ⟨w4.heap.size, 5, none⟩ = some (.int .i64 1) := y5
                    clear hbw hbk hW2
                    go_wp2_with (at_builtin; go_must (refine wpList_app W2 rfl (.tmp 116) (.tmp 118) _ rfl w.heap.size 71 i0 _ 6 48 Tryz.underlying38 hi iz is ib rfl (by omega) (.slice (some ⟨g, 0, none⟩) (m + 1) cc) (m+1) _ (by rfl) HOW2.out _ 1 1 (ints [1, (-1), c, rk, (i : Int), 1]) rfl rfl (ints_one _) (by unfold maxLen; omega) (by omega) HBW2.out.size ?_); intro v' w' hown' hb'; rw [← ints_app] at hown'; have HOWN2 := Lib.hid hown'; have HB2 := Lib.hid (HBW2.out.trans hb'); clear hown' hb')
                    go_wp2_with fail
                    go_roundw
                    case rel => exact ⟨i + 1, (m + 1) + 1, _, _, _, _, hlt, by go_num, HN.out, rfl, rfl, rfl, by have := HLEN.out; simp; omega, HOWN2.out, HB2.out, fun _ => HLN.out⟩
                    case measure => simp [intOf] <;> omega
                · have HN := Lib.hid (psNext_new HST.out HX0.out.symm HX1.out.symm HX6.out.symm HKD.out.symm (by decide) (fun _ hf => by have hf := HFI.out.1 hf; exact h1 hf.2.1))
                  have b0 : (l0 == 1) = true := by simpa using h0
                  have b1 : (l1 == (-1)) = false := by simpa using h1
                  clear h0 h1
                  go_wp2_with fail
                  go_quiet (fail)
                  obtain ⟨w4, hw4⟩ : ∃ x, x = w1.drewN nq := ⟨_, rfl⟩
                  rw [← hw4]
                  have HB4 : Hid (Below w1.heap.size w1 w4) := Lib.hid (hw4 ▸ Below.drewN' (Below.refl _ _) nq)
                  clear t0 t1 t2 t5 r5 e1 e6 hw4
                  obtain ⟨t0, t1, t2, t5, r5, e1, e6⟩ := TL.out _ HB4.out
                  have HOWN4 := Lib.hid (own_below HOWN1.out HB4.out)
                  have HBW4 := Lib.hid (HB1.out.trans (HB4.out.mono HB1.out.size))
                  have ea1 : ∀ cs : Array Value, (w4.alloc (.cells cs 71)).cell? ⟨ga, o + i * 8 + 1, none⟩ = some (.int .i64 (-1)) := fun cs => (World.cell?_alloc_lt w4 _ _ (World.block_lt_of_cell? w4 _ e1)).trans e1
                  have ea6 : ∀ cs : Array Value, (w4.alloc (.cells cs 71)).cell? ⟨ga, o + i * 8 + 6, none⟩ = some (.int .i64 c) := fun cs => (World.cell?_alloc_lt w4 _ _ (World.block_lt_of_cell? w4 _ e6)).trans e6
                  go_upto_region 27 with (fail)
                  clear ea1 ea6
                  obtain ⟨W2, hW2⟩ : ∃ x, x = w4.alloc (.cells #[.int .i64 1, .int .i64 (-1), .int .i64 c, .int .i64 rk, .int .i64 i, .int .i64 1] 71) := ⟨_, rfl⟩
                  rw [← hW2]
                  have hbw : Below w4.heap.size w4 W2 := hW2 ▸ (Below.refl _ _).alloc (Nat.le_refl _) _
                  have HOW2 := Lib.hid (own_below HOWN4.out hbw)
                  have HBW2 := Lib.hid (HBW4.out.trans (hbw.mono HBW4.out.size))
                  have hbk : Blk W2 w4.heap.size 71 #[.int .i64 1, .int .i64 (-1), .int .i64 c, .int .i64 rk, .int .i64 i, .int .i64 1] := hW2 ▸ Blk.at_ _ _ _ rfl
                  have y0 := hbk.cell 0
                  have y1 := hbk.cell 1
                  have y2 := hbk.cell 2
                  have y3 := hbk.cell 3
                  have y4 := hbk.cell 4
                  have y5 := hbk.cell 5
                  replace y0 : W2.cell? ⟨w4.heap.size, 0, none⟩ = some (.int .i64 1) := y0
                  replace y1 : W2.cell? ⟨w4.heap.size, 1, none⟩ = some (.int .i64 (-1)) := y1
                  replace y2 : W2.cell? ⟨w4.heap.size, 2, none⟩ = some (.int .i64 c) := y2
                  replace y3 : W2.cell? ⟨w4.heap.size, 3, none⟩ = some (.int .i64 rk) := y3
                  replace y4 : W2.cell? ⟨w4.heap.size, 4, none⟩ = some (.int .i64 i) := y4
                  replace y5 : W2.cell? ⟨w4.heap.size, 5, none⟩ = some (.int .i64 1) := y5
                  clear hbw hbk hW2
                  go_wp2_with (at_builtin; go_must (refine wpList_app W2 rfl (.tmp 116) (.tmp 118) _ rfl w.heap.size 71 i0 _ 6 48 Tryz.underlying38 hi iz is ib rfl (by omega) (.slice (some ⟨g, 0, none⟩) (m + 1) cc) (m+1) _ (by rfl) HOW2.out _ 1 1 (ints [1, (-1), c, rk, (i : Int), 1]) rfl rfl (ints_one _) (by unfold maxLen; omega) (by omega) HBW2.out.size ?_); intro v' w' hown' hb'; rw [← ints_app] at hown'; have HOWN2 := Lib.hid hown'; have HB2 := Lib.hid (HBW2.out.trans hb'); clear hown' hb')
                  go_wp2_with fail
                  go_roundw
                  case rel => exact ⟨i + 1, (m + 1) + 1, _, _, _, _, hlt, by go_num, HN.out, rfl, rfl, rfl, by have := HLEN.out; simp; omega, HOWN2.out, HB2.out, fun _ => HLN.out⟩
                  case measure => simp [intOf] <;> omega
              · have HN := Lib.hid (psNext_new HST.out HX0.out.symm HX1.out.symm HX6.out.symm HKD.out.symm (by decide) (fun _ hf => by have hf := HFI.out.1 hf; exact h0 hf.1))
                have b0 : (l0 == 1) = false := by simpa using h0
                clear h0
                go_wp2_with fail
                go_quiet (fail)
                obtain ⟨w4, hw4⟩ : ∃ x, x = w1.drewN nq := ⟨_, rfl⟩
                rw [← hw4]
                have HB4 : Hid (Below w1.heap.size w1 w4) := Lib.hid (hw4 ▸ Below.drewN' (Below.refl _ _) nq)
                clear t0 t1 t2 t5 r5 e1 e6 hw4
                obtain ⟨t0, t1, t2, t5, r5, e1, e6⟩ := TL.out _ HB4.out
                have HOWN4 := Lib.hid (own_below HOWN1.out HB4.out)
                have HBW4 := Lib.hid (HB1.out.trans (HB4.out.mono HB1.out.size))
                have ea1 : ∀ cs : Array Value, (w4.alloc (.cells cs 71)).cell? ⟨ga, o + i * 8 + 1, none⟩ = some (.int .i64 (-1)) := fun cs => (World.cell?_alloc_lt w4 _ _ (World.block_lt_of_cell? w4 _ e1)).trans e1
                have ea6 : ∀ cs : Array Value, (w4.alloc (.cells cs 71)).cell? ⟨ga, o + i * 8 + 6, none⟩ = some (.int .i64 c) := fun cs => (World.cell?_alloc_lt w4 _ _ (World.block_lt_of_cell? w4 _ e6)).trans e6
                go_upto_region 27 with (fail)
                clear ea1 ea6
                obtain ⟨W2, hW2⟩ : ∃ x, x = w4.alloc (.cells #[.int .i64 1, .int .i64 (-1), .int .i64 c, .int .i64 rk, .int .i64 i, .int .i64 1] 71) := ⟨_, rfl⟩
                rw [← hW2]
                have hbw : Below w4.heap.size w4 W2 := hW2 ▸ (Below.refl _ _).alloc (Nat.le_refl _) _
                have HOW2 := Lib.hid (own_below HOWN4.out hbw)
                have HBW2 := Lib.hid (HBW4.out.trans (hbw.mono HBW4.out.size))
                have hbk : Blk W2 w4.heap.size 71 #[.int .i64 1, .int .i64 (-1), .int .i64 c, .int .i64 rk, .int .i64 i, .int .i64 1] := hW2 ▸ Blk.at_ _ _ _ rfl
                have y0 := hbk.cell 0
                have y1 := hbk.cell 1
                have y2 := hbk.cell 2
                have y3 := hbk.cell 3
                have y4 := hbk.cell 4
                have y5 := hbk.cell 5
                replace y0 : W2.cell? ⟨w4.heap.size, 0, none⟩ = some (.int .i64 1) := y0
                replace y1 : W2.cell? ⟨w4.heap.size, 1, none⟩ = some (.int .i64 (-1)) := y1
                replace y2 : W2.cell? ⟨w4.heap.size, 2, none⟩ = some (.int .i64 c) := y2
                replace y3 : W2.cell? ⟨w4.heap.size, 3, none⟩ = some (.int .i64 rk) := y3
                replace y4 : W2.cell? ⟨w4.heap.size, 4, none⟩ = some (.int .i64 i) := y4
                replace y5 : W2.cell? ⟨w4.heap.size, 5, none⟩ = some (.int .i64 1) := y5
                clear hbw hbk hW2
                go_wp2_with (at_builtin; go_must (refine wpList_app W2 rfl (.tmp 116) (.tmp 118) _ rfl w.heap.size 71 i0 _ 6 48 Tryz.underlying38 hi iz is ib rfl (by omega) (.slice (some ⟨g, 0, none⟩) (m + 1) cc) (m+1) _ (by rfl) HOW2.out _ 1 1 (ints [1, (-1), c, rk, (i : Int), 1]) rfl rfl (ints_one _) (by unfold maxLen; omega) (by omega) HBW2.out.size ?_); intro v' w' hown' hb'; rw [← ints_app] at hown'; have HOWN2 := Lib.hid hown'; have HB2 := Lib.hid (HBW2.out.trans hb'); clear hown' hb')
                go_wp2_with fail
                go_roundw
                case rel => exact ⟨i + 1, (m + 1) + 1, _, _, _, _, hlt, by go_num, HN.out, rfl, rfl, rfl, by have := HLEN.out; simp; omega, HOWN2.out, HB2.out, fun _ => HLN.out⟩
                case measure => simp [intOf] <;> omega
          · obtain ⟨rfl, rfl⟩ := HZD.out (by omega)
            clear hk
            by_cases h0 : l0 = 2
            · by_cases h1 : l1 = 0
              · by_cases h2 : l2 = 0
                · have HN := Lib.hid (psNext_on HST.out HX0.out.symm HKD.out.symm (by decide) (HFI.out.2 ⟨h0, h1, h2, fun h => absurd h (by decide)⟩))
                  have b0 : (l0 == 2) = true := by simpa using h0
                  have b1 : (l1 == 0) = true := by simpa using h1
                  have b2 : (l2 == 0) = true := by simpa using h2
                  clear h0 h1 h2
                  go_wp2_with fail
                  go_quiet (fail)
                  obtain ⟨w4, hw4⟩ : ∃ x, x = w1.drewN nq := ⟨_, rfl⟩
                  rw [← hw4]
                  have HB4 : Hid (Below w1.heap.size w1 w4) := Lib.hid (hw4 ▸ Below.drewN' (Below.refl _ _) nq)
                  clear t0 t1 t2 t5 r5 e1 e6 hw4
                  obtain ⟨t0, t1, t2, t5, r5, e1, e6⟩ := TL.out _ HB4.out
                  have HOWN4 := Lib.hid (own_below HOWN1.out HB4.out)
                  have HBW4 := Lib.hid (HB1.out.trans (HB4.out.mono HB1.out.size))
                  have HST4 := Lib.hid (HOWN4.out.stored (m * 6 + 5) (.int .i64 (l5 + 1))).1
                  go_wp2_with fail
                  go_roundw
                  case rel => exact ⟨i + 1, m + 1, _, _, _, _, hlt, by go_num, HN.out, rfl, rfl, rfl, by simpa using HLEN.out, by have := HLEN.out; rw [show L.length - 1 = m * 6 + 5 by omega, ← HL5.out, ← ints_set]; exact HST4.out, HBW4.out.setCell HG0.out _, fun _ => HLN.out⟩
                  case measure => simp [intOf] <;> omega
                · have HN := Lib.hid (psNext_new HST.out HX0.out.symm HX1.out.symm HX6.out.symm HKD.out.symm (by decide) (fun _ hf => by have hf := HFI.out.1 hf; exact h2 hf.2.2.1))
                  have b0 : (l0 == 2) = true := by simpa using h0
                  have b1 : (l1 == 0) = true := by simpa using h1
                  have b2 : (l2 == 0) = false := by simpa using h2
                  clear h0 h1 h2
                  go_wp2_with fail
                  go_quiet (fail)
                  obtain ⟨w4, hw4⟩ : ∃ x, x = w1.drewN nq := ⟨_, rfl⟩
                  rw [← hw4]
                  have HB4 : Hid (Below w1.heap.size w1 w4) := Lib.hid (hw4 ▸ Below.drewN' (Below.refl _ _) nq)
                  clear t0 t1 t2 t5 r5 e1 e6 hw4
                  obtain ⟨t0, t1, t2, t5, r5, e1, e6⟩ := TL.out _ HB4.out
                  have HOWN4 := Lib.hid (own_below HOWN1.out HB4.out)
                  have HBW4 := Lib.hid (HB1.out.trans (HB4.out.mono HB1.out.size))
                  go_upto_region 27 with (fail)
                  obtain ⟨W2, hW2⟩ : ∃ x, x = w4.alloc (.cells #[.int .i64 2, .int .i64 0, .int .i64 0, .int .i64 rk, .int .i64 i, .int .i64 1] 71) := ⟨_, rfl⟩
                  rw [← hW2]
                  have hbw : Below w4.heap.size w4 W2 := hW2 ▸ (Below.refl _ _).alloc (Nat.le_refl _) _
                  have HOW2 := Lib.hid (own_below HOWN4.out hbw)
                  have HBW2 := Lib.hid (HBW4.out.trans (hbw.mono HBW4.out.size))
                  have hbk : Blk W2 w4.heap.size 71 #[.int .i64 2, .int .i64 0, .int .i64 0, .int .i64 rk, .int .i64 i, .int .i64 1] := hW2 ▸ Blk.at_ _ _ _ rfl
                  have y0 := hbk.cell 0
                  have y1 := hbk.cell 1
                  have y2 := hbk.cell 2
                  have y3 := hbk.cell 3
                  have y4 := hbk.cell 4
                  have y5 := hbk.cell 5
                  replace y0 : W2.cell? ⟨w4.heap.size, 0, none⟩ = some (.int .i64 2) := y0
                  replace y1 : W2.cell? ⟨w4.heap.size, 1, none⟩ = some (.int .i64 0) := y1
                  replace y2 : W2.cell? ⟨w4.heap.size, 2, none⟩ = some (.int .i64 0) := y2
                  replace y3 : W2.cell? ⟨w4.heap.size, 3, none⟩ = some (.int .i64 rk) := y3
                  replace y4 : W2.cell? ⟨w4.heap.size, 4, none⟩ = some (.int .i64 i) := y4
                  replace y5 : W2.cell? ⟨w4.heap.size, 5, none⟩ = some (.int .i64 1) := y5
                  clear hbw hbk hW2
                  go_wp2_with (at_builtin; go_must (refine wpList_app W2 rfl (.tmp 116) (.tmp 118) _ rfl w.heap.size 71 i0 _ 6 48 Tryz.underlying38 hi iz is ib rfl (by omega) (.slice (some ⟨g, 0, none⟩) (m + 1) cc) (m+1) _ (by rfl) HOW2.out _ 1 1 (ints [2, 0, 0, rk, (i : Int), 1]) rfl rfl (ints_one _) (by unfold maxLen; omega) (by omega) HBW2.out.size ?_); intro v' w' hown' hb'; rw [← ints_app] at hown'; have HOWN2 := Lib.hid hown'; have HB2 := Lib.hid (HBW2.out.trans hb'); clear hown' hb')
                  go_wp2_with fail
                  go_roundw
                  case rel => exact ⟨i + 1, (m + 1) + 1, _, _, _, _, hlt, by go_num, HN.out, rfl, rfl, rfl, by have := HLEN.out; simp; omega, HOWN2.out, HB2.out, fun _ => HLN.out⟩
                  case measure => simp [intOf] <;> omega
              · have HN := Lib.hid (psNext_new HST.out HX0.out.symm HX1.out.symm HX6.out.symm HKD.out.symm (by decide) (fun _ hf => by have hf := HFI.out.1 hf; exact h1 hf.2.1))
                have b0 : (l0 == 2) = true := by simpa using h0
                have b1 : (l1 == 0) = false := by simpa using h1
                clear h0 h1
                go_wp2_with fail
                go_quiet (fail)
                obtain ⟨w4, hw4⟩ : ∃ x, x = w1.drewN nq := ⟨_, rfl⟩
                rw [← hw4]
                have HB4 : Hid (Below w1.heap.size w1 w4) := Lib.hid (hw4 ▸ Below.drewN' (Below.refl _ _) nq)
                clear t0 t1 t2 t5 r5 e1 e6 hw4
                obtain ⟨t0, t1, t2, t5, r5, e1, e6⟩ := TL.out _ HB4.out
                have HOWN4 := Lib.hid (own_below HOWN1.out HB4.out)
                have HBW4 := Lib.hid (HB1.out.trans (HB4.out.mono HB1.out.size))
                go_upto_region 27 with (fail)
                obtain ⟨W2, hW2⟩ : ∃ x, x = w4.alloc (.cells #[.int .i64 2, .int .i64 0, .int .i64 0, .int .i64 rk, .int .i64 i, .int .i64 1] 71) := ⟨_, rfl⟩
                rw [← hW2]
                have hbw : Below w4.heap.size w4 W2 := hW2 ▸ (Below.refl _ _).alloc (Nat.le_refl _) _
                have HOW2 := Lib.hid (own_below HOWN4.out hbw)
                have HBW2 := Lib.hid (HBW4.out.trans (hbw.mono HBW4.out.size))
                have hbk : Blk W2 w4.heap.size 71 #[.int .i64 2, .int .i64 0, .int .i64 0, .int .i64 rk, .int .i64 i, .int .i64 1] := hW2 ▸ Blk.at_ _ _ _ rfl
                have y0 := hbk.cell 0
                have y1 := hbk.cell 1
                have y2 := hbk.cell 2
                have y3 := hbk.cell 3
                have y4 := hbk.cell 4
                have y5 := hbk.cell 5
                replace y0 : W2.cell? ⟨w4.heap.size, 0, none⟩ = some (.int .i64 2) := y0
                replace y1 : W2.cell? ⟨w4.heap.size, 1, none⟩ = some (.int .i64 0) := y1
                replace y2 : W2.cell? ⟨w4.heap.size, 2, none⟩ = some (.int .i64 0) := y2
                replace y3 : W2.cell? ⟨w4.heap.size, 3, none⟩ = some (.int .i64 rk) := y3
                replace y4 : W2.cell? ⟨w4.heap.size, 4, none⟩ = some (.int .i64 i) := y4
                replace y5 : W2.cell? ⟨w4.heap.size, 5, none⟩ = some (.int .i64 1) := y5
                clear hbw hbk hW2
                go_wp2_with (at_builtin; go_must (refine wpList_app W2 rfl (.tmp 116) (.tmp 118) _ rfl w.heap.size 71 i0 _ 6 48 Tryz.underlying38 hi iz is ib rfl (by omega) (.slice (some ⟨g, 0, none⟩) (m + 1) cc) (m+1) _ (by rfl) HOW2.out _ 1 1 (ints [2, 0, 0, rk, (i : Int), 1]) rfl rfl (ints_one _) (by unfold maxLen; omega) (by omega) HBW2.out.size ?_); intro v' w' hown' hb'; rw [← ints_app] at hown'; have HOWN2 := Lib.hid hown'; have HB2 := Lib.hid (HBW2.out.trans hb'); clear hown' hb')
                go_wp2_with fail
                go_roundw
                case rel => exact ⟨i + 1, (m + 1) + 1, _, _, _, _, hlt, by go_num, HN.out, rfl, rfl, rfl, by have := HLEN.out; simp; omega, HOWN2.out, HB2.out, fun _ => HLN.out⟩
                case measure => simp [intOf] <;> omega
            · have HN := Lib.hid (psNext_new HST.out HX0.out.symm HX1.out.symm HX6.out.symm HKD.out.symm (by decide) (fun _ hf => by have hf := HFI.out.1 hf; exact h0 hf.1))
              have b0 : (l0 == 2) = false := by simpa using h0
              clear h0
              go_wp2_with fail
              go_quiet (fail)
              obtain ⟨w4, hw4⟩ : ∃ x, x = w1.drewN nq := ⟨_, rfl⟩
              rw [← hw4]
              have HB4 : Hid (Below w1.heap.size w1 w4) := Lib.hid (hw4 ▸ Below.drewN' (Below.refl _ _) nq)
              clear t0 t1 t2 t5 r5 e1 e6 hw4
              obtain ⟨t0, t1, t2, t5, r5, e1, e6⟩ := TL.out _ HB4.out
              have HOWN4 := Lib.hid (own_below HOWN1.out HB4.out)
              have HBW4 := Lib.hid (HB1.out.trans (HB4.out.mono HB1.out.size))
              go_upto_region 27 with (fail)
              obtain ⟨W2, hW2⟩ : ∃ x, x = w4.alloc (.cells #[.int .i64 2, .int .i64 0, .int .i64 0, .int .i64 rk, .int .i64 i, .int .i64 1] 71) := ⟨_, rfl⟩
              rw [← hW2]
              have hbw : Below w4.heap.size w4 W2 := hW2 ▸ (Below.refl _ _).alloc (Nat.le_refl _) _
              have HOW2 := Lib.hid (own_below HOWN4.out hbw)
              have HBW2 := Lib.hid (HBW4.out.trans (hbw.mono HBW4.out.size))
              have hbk : Blk W2 w4.heap.size 71 #[.int .i64 2, .int .i64 0, .int .i64 0, .int .i64 rk, .int .i64 i, .int .i64 1] := hW2 ▸ Blk.at_ _ _ _ rfl
              have y0 := hbk.cell 0
              have y1 := hbk.cell 1
              have y2 := hbk.cell 2
              have y3 := hbk.cell 3
              have y4 := hbk.cell 4
              have y5 := hbk.cell 5
              replace y0 : W2.cell? ⟨w4.heap.size, 0, none⟩ = some (.int .i64 2) := y0
              replace y1 : W2.cell? ⟨w4.heap.size, 1, none⟩ = some (.int .i64 0) := y1
              replace y2 : W2.cell? ⟨w4.heap.size, 2, none⟩ = some (.int .i64 0) := y2
              replace y3 : W2.cell? ⟨w4.heap.size, 3, none⟩ = some (.int .i64 rk) := y3
              replace y4 : W2.cell? ⟨w4.heap.size, 4, none⟩ = some (.int .i64 i) := y4
              replace y5 : W2.cell? ⟨w4.heap.size, 5, none⟩ = some (.int .i64 1) := y5
              clear hbw hbk hW2
              go_wp2_with (at_builtin; go_must (refine wpList_app W2 rfl (.tmp 116) (.tmp 118) _ rfl w.heap.size 71 i0 _ 6 48 Tryz.underlying38 hi iz is ib rfl (by omega) (.slice (some ⟨g, 0, none⟩) (m + 1) cc) (m+1) _ (by rfl) HOW2.out _ 1 1 (ints [2, 0, 0, rk, (i : Int), 1]) rfl rfl (ints_one _) (by unfold maxLen; omega) (by omega) HBW2.out.size ?_); intro v' w' hown' hb'; rw [← ints_app] at hown'; have HOWN2 := Lib.hid hown'; have HB2 := Lib.hid (HBW2.out.trans hb'); clear hown' hb')
              go_wp2_with fail
              go_roundw
              case rel => exact ⟨i + 1, (m + 1) + 1, _, _, _, _, hlt, by go_num, HN.out, rfl, rfl, rfl, by have := HLEN.out; simp; omega, HOWN2.out, HB2.out, fun _ => HLN.out⟩
              case measure => simp [intOf] <;> omega
          · obtain ⟨rfl, rfl⟩ := HZD.out (by omega)
            clear hk
            by_cases h0 : l0 = 3
            · by_cases h1 : l1 = 0
              · by_cases h2 : l2 = 0
                · have HN := Lib.hid (psNext_on HST.out HX0.out.symm HKD.out.symm (by decide) (HFI.out.2 ⟨h0, h1, h2, fun h => absurd h (by decide)⟩))
                  have b0 : (l0 == 3) = true := by simpa using h0
                  have b1 : (l1 == 0) = true := by simpa using h1
                  have b2 : (l2 == 0) = true := by simpa using h2
                  clear h0 h1 h2
                  go_wp2_with fail
                  go_quiet (fail)
                  obtain ⟨w4, hw4⟩ : ∃ x, x = w1.drewN nq := ⟨_, rfl⟩
                  rw [← hw4]
                  have HB4 : Hid (Below w1.heap.size w1 w4) := Lib.hid (hw4 ▸ Below.drewN' (Below.refl _ _) nq)
                  clear t0 t1 t2 t5 r5 e1 e6 hw4
                  obtain ⟨t0, t1, t2, t5, r5, e1, e6⟩ := TL.out _ HB4.out
                  have HOWN4 := Lib.hid (own_below HOWN1.out HB4.out)
                  have HBW4 := Lib.hid (HB1.out.trans (HB4.out.mono HB1.out.size))
                  have HST4 := Lib.hid (HOWN4.out.stored (m * 6 + 5) (.int .i64 (l5 + 1))).1
                  go_wp2_with fail
                  go_roundw
                  case rel => exact ⟨i + 1, m + 1, _, _, _, _, hlt, by go_num, HN.out, rfl, rfl, rfl, by simpa using HLEN.out, by have := HLEN.out; rw [show L.length - 1 = m * 6 + 5 by omega, ← HL5.out, ← ints_set]; exact HST4.out, HBW4.out.setCell HG0.out _, fun _ => HLN.out⟩
                  case measure => simp [intOf] <;> omega
                · have HN := Lib.hid (psNext_new HST.out HX0.out.symm HX1.out.symm HX6.out.symm HKD.out.symm (by decide) (fun _ hf => by have hf := HFI.out.1 hf; exact h2 hf.2.2.1))
                  have b0 : (l0 == 3) = true := by simpa using h0
                  have b1 : (l1 == 0) = true := by simpa using h1
                  have b2 : (l2 == 0) = false := by simpa using h2
                  clear h0 h1 h2
                  go_wp2_with fail
                  go_quiet (fail)
                  obtain ⟨w4, hw4⟩ : ∃ x, x = w1.drewN nq := ⟨_, rfl⟩
                  rw [← hw4]
                  have HB4 : Hid (Below w1.heap.size w1 w4) := Lib.hid (hw4 ▸ Below.drewN' (Below.refl _ _) nq)
                  clear t0 t1 t2 t5 r5 e1 e6 hw4
                  obtain ⟨t0, t1, t2, t5, r5, e1, e6⟩ := TL.out _ HB4.out
                  have HOWN4 := Lib.hid (own_below HOWN1.out HB4.out)
                  have HBW4 := Lib.hid (HB1.out.trans (HB4.out.mono HB1.out.size))
                  go_upto_region 27 with (fail)
                  obtain ⟨W2, hW2⟩ : ∃ x, x = w4.alloc (.cells #[.int .i64 3, .int .i64 0, .int .i64 0, .int .i64 rk, .int .i64 i, .int .i64 1] 71) := ⟨_, rfl⟩
                  rw [← hW2]
                  have hbw : Below w4.heap.size w4 W2 := hW2 ▸ (Below.refl _ _).alloc (Nat.le_refl _) _
                  have HOW2 := Lib.hid (own_below HOWN4.out hbw)
                  have HBW2 := Lib.hid (HBW4.out.trans (hbw.mono HBW4.out.size))
                  have hbk : Blk W2 w4.heap.size 71 #[.int .i64 3, .int .i64 0, .int .i64 0, .int .i64 rk, .int .i64 i, .int .i64 1] := hW2 ▸ Blk.at_ _ _ _ rfl
                  have y0 := hbk.cell 0
                  have y1 := hbk.cell 1
                  have y2 := hbk.cell 2
                  have y3 := hbk.cell 3
                  have y4 := hbk.cell 4
                  have y5 := hbk.cell 5
                  replace y0 : W2.cell? ⟨w4.heap.size, 0, none⟩ = some (.int .i64 3) := y0
                  replace y1 : W2.cell? ⟨w4.heap.size, 1, none⟩ = some (.int .i64 0) := y1
                  replace y2 : W2.cell? ⟨w4.heap.size, 2, none⟩ = some (.int .i64 0) := y2
                  replace y3 : W2.cell? ⟨w4.heap.size, 3, none⟩ = some (.int .i64 rk) := y3
                  replace y4 : W2.cell? ⟨w4.heap.size, 4, none⟩ = some (.int .i64 i) := y4
                  replace y5 : W2.cell? ⟨w4.heap.size, 5, none⟩ = some (.int .i64 1) := y5
                  clear hbw hbk hW2
                  go_wp2_with (at_builtin; go_must (refine wpList_app W2 rfl (.tmp 116) (.tmp 118) _ rfl w.heap.size 71 i0 _ 6 48 Tryz.underlying38 hi iz is ib rfl (by omega) (.slice (some ⟨g, 0, none⟩) (m + 1) cc) (m+1) _ (by rfl) HOW2.out _ 1 1 (ints [3, 0, 0, rk, (i : Int), 1]) rfl rfl (ints_one _) (by unfold maxLen; omega) (by omega) HBW2.out.size ?_); intro v' w' hown' hb'; rw [← ints_app] at hown'; have HOWN2 := Lib.hid hown'; have HB2 := Lib.hid (HBW2.out.trans hb'); clear hown' hb')
                  go_wp2_with fail
                  go_roundw
                  case rel => exact ⟨i + 1, (m + 1) + 1, _, _, _, _, hlt, by go_num, HN.out, rfl, rfl, rfl, by have := HLEN.out; simp; omega, HOWN2.out, HB2.out, fun _ => HLN.out⟩
                  case measure => simp [intOf] <;> omega
              · have HN := Lib.hid (psNext_new HST.out HX0.out.symm HX1.out.symm HX6.out.symm HKD.out.symm (by decide) (fun _ hf => by have hf := HFI.out.1 hf; exact h1 hf.2.1))
                have b0 : (l0 == 3) = true := by simpa using h0
                have b1 : (l1 == 0) = false := by simpa using h1
                clear h0 h1
                go_wp2_with fail
                go_quiet (fail)
                obtain ⟨w4, hw4⟩ : ∃ x, x = w1.drewN nq := ⟨_, rfl⟩
                rw [← hw4]
                have HB4 : Hid (Below w1.heap.size w1 w4) := Lib.hid (hw4 ▸ Below.drewN' (Below.refl _ _) nq)
                clear t0 t1 t2 t5 r5 e1 e6 hw4
                obtain ⟨t0, t1, t2, t5, r5, e1, e6⟩ := TL.out _ HB4.out
                have HOWN4 := Lib.hid (own_below HOWN1.out HB4.out)
                have HBW4 := Lib.hid (HB1.out.trans (HB4.out.mono HB1.out.size))
                go_upto_region 27 with (fail)
                obtain ⟨W2, hW2⟩ : ∃ x, x = w4.alloc (.cells #[.int .i64 3, .int .i64 0, .int .i64 0, .int .i64 rk, .int .i64 i, .int .i64 1] 71) := ⟨_, rfl⟩
                rw [← hW2]
                have hbw : Below w4.heap.size w4 W2 := hW2 ▸ (Below.refl _ _).alloc (Nat.le_refl _) _
                have HOW2 := Lib.hid (own_below HOWN4.out hbw)
                have HBW2 := Lib.hid (HBW4.out.trans (hbw.mono HBW4.out.size))
                have hbk : Blk W2 w4.heap.size 71 #[.int .i64 3, .int .i64 0, .int .i64 0, .int .i64 rk, .int .i64 i, .int .i64 1] := hW2 ▸ Blk.at_ _ _ _ rfl
                have y0 := hbk.cell 0
                have y1 := hbk.cell 1
                have y2 := hbk.cell 2
                have y3 := hbk.cell 3
                have y4 := hbk.cell 4
                have y5 := hbk.cell 5
                replace y0 : W2.cell? ⟨w4.heap.size, 0, none⟩ = some (.int .i64 3) := y0
                replace y1 : W2.cell? ⟨w4.heap.size, 1, none⟩ = some (.int .i64 0) := y1
                replace y2 : W2.cell? ⟨w4.heap.size, 2, none⟩ = some (.int .i64 0) := y2
                replace y3 : W2.cell? ⟨w4.heap.size, 3, none⟩ = some (.int .i64 rk) := y3
                replace y4 : W2.cell? ⟨w4.heap.size, 4, none⟩ = some (.int .i64 i) := y4
                replace y5 : W2.cell? ⟨w4.heap.size, 5, none⟩ = some (.int .i64 1) := y5
                clear hbw hbk hW2
                go_wp2_with (at_builtin; go_must (refine wpList_app W2 rfl (.tmp 116) (.tmp 118) _ rfl w.heap.size 71 i0 _ 6 48 Tryz.underlying38 hi iz is ib rfl (by omega) (.slice (some ⟨g, 0, none⟩) (m + 1) cc) (m+1) _ (by rfl) HOW2.out _ 1 1 (ints [3, 0, 0, rk, (i : Int), 1]) rfl rfl (ints_one _) (by unfold maxLen; omega) (by omega) HBW2.out.size ?_); intro v' w' hown' hb'; rw [← ints_app] at hown'; have HOWN2 := Lib.hid hown'; have HB2 := Lib.hid (HBW2.out.trans hb'); clear hown' hb')
                go_wp2_with fail
                go_roundw
                case rel => exact ⟨i + 1, (m + 1) + 1, _, _, _, _, hlt, by go_num, HN.out, rfl, rfl, rfl, by have := HLEN.out; simp; omega, HOWN2.out, HB2.out, fun _ => HLN.out⟩
                case measure => simp [intOf] <;> omega
            · have HN := Lib.hid (psNext_new HST.out HX0.out.symm HX1.out.symm HX6.out.symm HKD.out.symm (by decide) (fun _ hf => by have hf := HFI.out.1 hf; exact h0 hf.1))
              have b0 : (l0 == 3) = false := by simpa using h0
              clear h0
              go_wp2_with fail
              go_quiet (fail)
              obtain ⟨w4, hw4⟩ : ∃ x, x = w1.drewN nq := ⟨_, rfl⟩
              rw [← hw4]
              have HB4 : Hid (Below w1.heap.size w1 w4) := Lib.hid (hw4 ▸ Below.drewN' (Below.refl _ _) nq)
              clear t0 t1 t2 t5 r5 e1 e6 hw4
              obtain ⟨t0, t1, t2, t5, r5, e1, e6⟩ := TL.out _ HB4.out
              have HOWN4 := Lib.hid (own_below HOWN1.out HB4.out)
              have HBW4 := Lib.hid (HB1.out.trans (HB4.out.mono HB1.out.size))
              go_upto_region 27 with (fail)
              obtain ⟨W2, hW2⟩ : ∃ x, x = w4.alloc (.cells #[.int .i64 3, .int .i64 0, .int .i64 0, .int .i64 rk, .int .i64 i, .int .i64 1] 71) := ⟨_, rfl⟩
              rw [← hW2]
              have hbw : Below w4.heap.size w4 W2 := hW2 ▸ (Below.refl _ _).alloc (Nat.le_refl _) _
              have HOW2 := Lib.hid (own_below HOWN4.out hbw)
              have HBW2 := Lib.hid (HBW4.out.trans (hbw.mono HBW4.out.size))
              have hbk : Blk W2 w4.heap.size 71 #[.int .i64 3, .int .i64 0, .int .i64 0, .int .i64 rk, .int .i64 i, .int .i64 1] := hW2 ▸ Blk.at_ _ _ _ rfl
              have y0 := hbk.cell 0
              have y1 := hbk.cell 1
              have y2 := hbk.cell 2
              have y3 := hbk.cell 3
              have y4 := hbk.cell 4
              have y5 := hbk.cell 5
              replace y0 : W2.cell? ⟨w4.heap.size, 0, none⟩ = some (.int .i64 3) := y0
              replace y1 : W2.cell? ⟨w4.heap.size, 1, none⟩ = some (.int .i64 0) := y1
              replace y2 : W2.cell? ⟨w4.heap.size, 2, none⟩ = some (.int .i64 0) := y2
              replace y3 : W2.cell? ⟨w4.heap.size, 3, none⟩ = some (.int .i64 rk) := y3
              replace y4 : W2.cell? ⟨w4.heap.size, 4, none⟩ = some (.int .i64 i) := y4
              replace y5 : W2.cell? ⟨w4.heap.size, 5, none⟩ = some (.int .i64 1) := y5
              clear hbw hbk hW2
              go_wp2_with (at_builtin; go_must (refine wpList_app W2 rfl (.tmp 116) (.tmp 118) _ rfl w.heap.size 71 i0 _ 6 48 Tryz.underlying38 hi iz is ib rfl (by omega) (.slice (some ⟨g, 0, none⟩) (m + 1) cc) (m+1) _ (by rfl) HOW2.out _ 1 1 (ints [3, 0, 0, rk, (i : Int), 1]) rfl rfl (ints_one _) (by unfold maxLen; omega) (by omega) HBW2.out.size ?_); intro v' w' hown' hb'; rw [← ints_app] at hown'; have HOWN2 := Lib.hid hown'; have HB2 := Lib.hid (HBW2.out.trans hb'); clear hown' hb')
              go_wp2_with fail
              go_roundw
              case rel => exact ⟨i + 1, (m + 1) + 1, _, _, _, _, hlt, by go_num, HN.out, rfl, rfl, rfl, by have := HLEN.out; simp; omega, HOWN2.out, HB2.out, fun _ => HLN.out⟩
              case measure => simp [intOf] <;> omega
    · obtain rfl : i = n := by omega
      have HR : Hid ((psAt z i).L = L) := Lib.hid (by rw [HST.out])
      obtain ⟨A', c', rfl⟩ := own_form HOWN.out
      go_wp2_with fail
      go_ret
      exact ⟨_, m', rfl, by rw [HR.out]; exact HLEN.out, by omega, by rw [HR.out]; exact HOWN.out, HB.out⟩
end Go.Proofs.YtpmfkpehmckgmaaGreat
