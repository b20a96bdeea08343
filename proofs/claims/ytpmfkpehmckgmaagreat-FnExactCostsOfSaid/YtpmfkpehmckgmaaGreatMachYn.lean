/- Walks: the yarn that an operation needs, passes and returns counted, by the program. No condition but the bounds. -/
import Derived.Test.YtpmfkpehmckgmaaGreatMachPs
namespace Go.Proofs.YtpmfkpehmckgmaaGreat
open Go.RowKit
set_option maxRecDepth 20000

section
variable {tg : Nat → Nat} {a : MAdr} {s : Mst} {D : Nat} {w : World}
set_option maxHeartbeats 2000000 in
theorem yarnFor_any {k d fb fa tb ta r : Int} {j : Nat} (H : Mem tg a s w) (hs : MOk s D) (hk : k = 1 ∨ k = 2 ∨ k = 3 ∨ k = 5) (hj : j < 4) (hd : d = 1 ∨ d = -1) (ha0 : 0 ≤ fa) (ha1 : fa < s.W) :
    Calls Tryz.prog 39 #[.pointer (some ⟨a.g, 0, none⟩), .agg #[.int .i64 k, .int .i64 d, .int .i64 fb, .int .i64 fa, .int .i64 tb, .int .i64 ta, .int .i64 ((j : Int) + 1), .int .i64 r]] w fun e w' => e = .returned (.int .i64 (yarnI s k d fb fa j)) ∧ Below w.heap.size w w' := by
  have hw2 := hs.w2
  have hr1 := hs.r1
  have hr2 := hs.r2
  have hcb := hs.ca j hj
  have hxb := placeI_bd (b := fb) ha0 (show fa ≤ 23 by omega) hr1 hr2
  obtain ⟨x, hx⟩ : ∃ x, x = placeI fb fa s.rk := ⟨_, rfl⟩
  rw [← hx] at hxb
  have HX := Lib.hid hx
  have hg : Below w.heap.size w (w.alloc (.cells #[.int .i64 k, .int .i64 d, .int .i64 fb, .int .i64 fa, .int .i64 tb, .int .i64 ta, .int .i64 ((j : Int) + 1), .int .i64 r] 45)) := (Below.refl _ _).alloc (Nat.le_refl _) _
  obtain ⟨W1, hW1⟩ : ∃ x, x = w.alloc (.cells #[.int .i64 k, .int .i64 d, .int .i64 fb, .int .i64 fa, .int .i64 tb, .int .i64 ta, .int .i64 ((j : Int) + 1), .int .i64 r] 45) := ⟨_, rfl⟩
  rw [← hW1] at hg
  have hb := (show Blk W1 w.heap.size 45 #[.int .i64 k, .int .i64 d, .int .i64 fb, .int .i64 fa, .int .i64 tb, .int .i64 ta, .int .i64 ((j : Int) + 1), .int .i64 r] from hW1 ▸ Blk.at_ _ _ _ rfl)
  have hm := H.below hg
  have m1 : W1.cell? ⟨a.g, 1, none⟩ = some (.int .i64 s.rk) := hm.m.cell 1
  have e2 : W1.cell? ⟨w.heap.size, 2, none⟩ = some (.int .i64 fb) := hb.cell 2
  have e3 : W1.cell? ⟨w.heap.size, 2 + 1, none⟩ = some (.int .i64 fa) := hb.cell 3
  have HGO := Lib.hid hb.lt
  have HGM := Lib.hid (World.block_lt_of_cell? _ _ m1)
  have O2 := Lib.hid e2
  have O3 := Lib.hid e3
  have M1 := Lib.hid m1
  have HM := Lib.hid hm
  have HBK := Lib.hid hb
  have HG := Lib.hid hg
  have HY := Lib.hid (show yarnI s k d fb fa j = (if d = -1 then s.cat j - x - 1 else x - s.cat j) + yarnK k by unfold yarnI; rw [if_pos (by unfold kindI; rw [if_pos hk]), hx])
  obtain ⟨ct, hct⟩ : ∃ c, c = s.cat j := ⟨_, rfl⟩
  rw [← hct] at hcb HY
  have HCT := Lib.hid hct
  have hwj : IntKind.i64.wrap (j : Int) = j := by rw [IntKind.wrap_i64]; omega
  have hj0 : (0 : Int) ≤ j := by omega
  have hj4 : (j : Int) < 4 := by omega
  have HJ := Lib.hid hj
  have HW1 := Lib.hid hW1
  clear hx H hs hct hm hb hg m1 hW1
  rcases hk with rfl | rfl | rfl | rfl
  all_goals
    rcases hd with rfl | rfl
    all_goals
      have m1 := M1.out
      have e0 : W1.cell? ⟨w.heap.size, 0, none⟩ = some (.int .i64 _) := HBK.out.cell 0
      go_enter Tryz.func39, Tryz.ntmps39
      go_upto_region 12 with (fail)
      rw [← HW1.out]
      go_region_held3 (fun w' => w'.cell? ⟨w.heap.size, 2, none⟩ = some (.int .i64 fb) ∧ w'.cell? ⟨w.heap.size, 2 + 1, none⟩ = some (.int .i64 fa) ∧ w'.cell? ⟨a.g, 1, none⟩ = some (.int .i64 s.rk)) (go_keep)
        ((go_at_call 57; refine (place_any fb fa s.rk _ ha0 (by omega) hr1 hr2).mono ?_; rintro e w3 ⟨he, hb3⟩; obtain rfl : e = .returned (.int .i64 x) := he.trans (by rw [HX.out]); have HB3 : Hid (Below W1.heap.size W1 w3) := Lib.hid (by first | exact (Below.refl W1.heap.size W1).drew.trans hb3 | exact (Below.refl W1.heap.size W1).drew.drew.trans hb3 | exact hb3); have kx2 := ((bcell HB3.out).1 _ 2 HGO.out).trans O2.out; have kx3 := ((bcell HB3.out).1 _ (2 + 1) HGO.out).trans O3.out; have km1 := ((bcell HB3.out).1 a.g 1 HGM.out).trans M1.out; clear hb3 he))
      rename_i hHeld
      clear hHeld e0 e2 e3 m1 kx2 kx3 km1
      have HM3 := HM.out.below HB3.out
      have m4 : w3.cell? ⟨a.g, 4, none⟩ = some (.slice (some ⟨a.gc, 0, none⟩) 4 a.cc) := HM3.m.cell 4
      obtain ⟨_, k1, _, _⟩ := HM3.car HJ.out
      rw [← HCT.out] at k1
      have e1 := (HBK.out.below HB3.out HGO.out).cell 1
      have e6 := (HBK.out.below HB3.out HGO.out).cell 6
      replace e1 : w3.cell? ⟨w.heap.size, 1, none⟩ = some (.int .i64 _) := e1
      replace e6 : w3.cell? ⟨w.heap.size, 6, none⟩ = some (.int .i64 ((j : Int) + 1)) := e6
      have HB5 := Lib.hid (HG.out.trans (HB3.out.mono HG.out.size))
      clear HM3
      go_wp2_with fail
      go_region
      go_wp2_with fail
      go_ret
      exact ⟨by rw [HY.out]; first | rfl | exact congrArg (fun z => Ending.returned (Value.int .i64 z)) (by simp [yarnK]; omega), by first | exact HB5.out | exact HB5.out.drew⟩
end
theorem size_any (x : Int) (w : World) (h0 : -1000 ≤ x) (h1 : x ≤ 1000) : Calls Tryz.prog 37 #[.int .i64 x] w fun e w' => e = .returned (.int .i64 (maxI x (-x))) ∧ w = w' := by
  have HX := Lib.hid (show maxI x (-x) = max x (-x) by unfold maxI; split <;> omega)
  go_enter Tryz.func37, Tryz.ntmps37
  go_wp2
  go_ret
  exact ⟨by rw [HX.out]; rfl, rfl⟩
theorem opsB_24 {W : Nat} {z : Nat → Int} {n : Nat} (hW : W ≤ 24) (hn : n ≤ 1500) (h : ∀ i, i < n → opW W z i = true) : progB 24 z n = true := by
  unfold progB inB
  simp only [Bool.and_eq_true, decide_eq_true_eq]
  refine ⟨by omega, hn, ?_⟩
  induction n with
  | zero => rfl
  | succ n ih =>
    have h1 := h n (by omega)
    show (opsB 24 z n && opW 24 z n) = true
    rw [ih (by omega) fun i hi => h i (by omega)]
    unfold opW at h1 ⊢
    simp only [Bool.and_eq_true, decide_eq_true_eq, Bool.true_and] at h1 ⊢
    exact ⟨h1.1, by omega, by omega⟩
section
variable (W : Nat) (A : Option Addr) (n q : Nat) (z : Nat → Int) (w : World)
theorem areOps_any (ha : Rd w A (n * 8) (fun j => .int .i64 (z j))) (hW2 : W ≤ 24) (hn : n ≤ 1500) (hops : ∀ i, i < n → opW W z i = true) : Calls Tryz.prog 55 #[.slice A n q] w fun e w' => e = .returned (.bool true) ∧ Below w.heap.size w w' := by
  have hv := validFor_any 24 A n q z w ha (by omega)
  rw [opsB_24 hW2 hn hops] at hv
  have HV := Lib.hid hv
  clear hv ha hops
  go_enter Tryz.func55, Tryz.ntmps55
  go_wp2_with fail
  refine HV.out.mono ?_
  rintro e w1 ⟨rfl, hb1⟩
  go_wp2_with fail
  go_ret
  exact ⟨rfl, hb1⟩
theorem countPasses_any (ha : Rd w A (n * 8) (fun j => .int .i64 (z j))) (hW1 : 1 ≤ W) (hW2 : W ≤ 24) (hn : n ≤ 1500) (hops : ∀ i, i < n → opW W z i = true) : Calls Tryz.prog 34 #[.slice A n q] w fun e w' => e = .returned (.int .i64 ((psAt z n).L.length / 6 : Nat)) ∧ Below w.heap.size w w' := by
  have hv := areOps_any W A n q z w ha hW2 hn hops
  have HA := Lib.hid ha
  have HV := Lib.hid hv
  have HOPS := Lib.hid hops
  clear hv ha hops
  go_enter Tryz.func34, Tryz.ntmps34
  go_wp2_with fail
  refine HV.out.mono ?_
  rintro e w1 ⟨rfl, hb1⟩
  have HB1 := Lib.hid hb1
  clear hb1
  go_wp2_with fail
  refine (passes_any W A n q z w1 (HA.out.below HB1.out) hW1 hW2 hn HOPS.out).mono ?_
  rintro e w2 ⟨v, m, rfl, hl, hm, hown, hb2⟩
  obtain ⟨A2, c2, rfl⟩ := own_form hown
  have HL := Lib.hid hl
  have HB2 := Lib.hid (HB1.out.trans (hb2.mono HB1.out.size))
  clear hl hown hb2
  go_wp2_with fail
  go_ret
  exact ⟨by rw [HL.out]; simp, HB2.out⟩
/-- How often a pass with yarn has the direction of the one before it; the last direction. -/
def retS (L : List Int) : Nat → Int × Int
  | 0 => (0, 0)
  | p + 1 => if L.getD (p * 6) 0 = 1 then (if L.getD (p * 6 + 1) 0 = (retS L p).2 then (retS L p).1 + 1 else (retS L p).1, L.getD (p * 6 + 1) 0) else retS L p
theorem retS_bd (L : List Int) : ∀ p, 0 ≤ (retS L p).1 ∧ (retS L p).1 ≤ p
  | 0 => ⟨Int.le_refl _, Int.le_refl _⟩
  | p + 1 => by
    have h := retS_bd L p
    unfold retS
    split
    · dsimp only
      split <;> omega
    · omega
set_option maxHeartbeats 2000000 in
theorem returnsOf_any (ha : Rd w A (n * 8) (fun j => .int .i64 (z j))) (hW1 : 1 ≤ W) (hW2 : W ≤ 24) (hn : n ≤ 1500) (hops : ∀ i, i < n → opW W z i = true) : Calls Tryz.prog 35 #[.slice A n q] w fun e w' => e = .returned (.tuple #[.int .i64 (retS (psAt z n).L ((psAt z n).L.length / 6)).1, .int .i64 0]) ∧ Below w.heap.size w w' := by
  have hv := areOps_any W A n q z w ha hW2 hn hops
  have HA := Lib.hid ha
  have HV := Lib.hid hv
  have HOPS := Lib.hid hops
  obtain ⟨L, hL⟩ : ∃ x, x = (psAt z n).L := ⟨_, rfl⟩
  have HL := Lib.hid hL
  rw [← hL]
  clear hv ha hops hL
  go_enter Tryz.func35, Tryz.ntmps35
  go_wp2_with fail
  refine HV.out.mono ?_
  rintro e w1 ⟨rfl, hb1⟩
  have HB1 := Lib.hid hb1
  clear hb1
  go_wp2_with fail
  refine (passes_any W A n q z w1 (HA.out.below HB1.out) hW1 hW2 hn HOPS.out).mono ?_
  rw [← HL.out]
  rintro e w2 ⟨v, m, rfl, hl, hm, hown, hb2⟩
  obtain ⟨A2, c2, rfl⟩ := own_form hown
  have HLL := Lib.hid hl
  have HOWN := Lib.hid hown
  have HB2 := Lib.hid (HB1.out.trans (hb2.mono HB1.out.size))
  have HE := Lib.hid (show L.length / 6 = m by omega)
  clear hl hown hb2
  go_wp2_with fail
  go_loopw [4, 5, 14] (fun nv lv iv wr => ∃ p : Nat, p ≤ m ∧ iv = .int .i64 p ∧ nv = .int .i64 (retS L p).1 ∧ lv = .int .i64 (retS L p).2 ∧ Below w2.heap.size w2 wr) (fun _ _ iv _ => m - (intOf iv).toNat)
  case atStart => exact ⟨0, Nat.zero_le _, rfl, rfl, rfl, Below.refl _ _⟩
  case round =>
    obtain ⟨p, hp, rfl, rfl, rfl, hb⟩ := hrel
    have HB := Lib.hid hb
    by_cases hlt : p < m
    · obtain ⟨g, cc, hg, hg0, hg1⟩ : ∃ g cc, Value.slice A2 m c2 = .slice (some ⟨g, 0, none⟩) m cc ∧ w1.heap.size ≤ g ∧ g < w2.heap.size := by
        obtain ⟨m', rfl⟩ : ∃ m', m = m' + 1 := ⟨m - 1, by omega⟩
        exact own_some HOWN.out
      injection hg with e1 e2 e3
      subst e1 e3
      have ho := own_below HOWN.out hb
      have f : ∀ t, t < 6 → wr.cell? ⟨g, p * 6 + t, none⟩ = some (.int .i64 (L.getD (p * 6 + t) 0)) := fun t ht => by
        have := HLL.out
        rw [ho.cellAt _ (by omega), ints_at L (by omega)]
      have f0 : wr.cell? ⟨g, p * 6, none⟩ = some (.int .i64 (L.getD (p * 6) 0)) := f 0 (by omega)
      have f1 := f 1 (by omega)
      have f2 := f 2 (by omega)
      have f3 := f 3 (by omega)
      have f4 := f 4 (by omega)
      have f5 := f 5 (by omega)
      have hbd := retS_bd L p
      have HN := Lib.hid (show retS L (p + 1) = if L.getD (p * 6) 0 = 1 then (if L.getD (p * 6 + 1) 0 = (retS L p).2 then (retS L p).1 + 1 else (retS L p).1, L.getD (p * 6 + 1) 0) else retS L p from rfl)
      obtain ⟨k, hk⟩ : ∃ x, x = L.getD (p * 6) 0 := ⟨_, rfl⟩
      obtain ⟨d, hd⟩ : ∃ x, x = L.getD (p * 6 + 1) 0 := ⟨_, rfl⟩
      obtain ⟨x2, hx2⟩ : ∃ x, x = L.getD (p * 6 + 2) 0 := ⟨_, rfl⟩
      obtain ⟨x3, hx3⟩ : ∃ x, x = L.getD (p * 6 + 3) 0 := ⟨_, rfl⟩
      obtain ⟨x4, hx4⟩ : ∃ x, x = L.getD (p * 6 + 4) 0 := ⟨_, rfl⟩
      obtain ⟨x5, hx5⟩ : ∃ x, x = L.getD (p * 6 + 5) 0 := ⟨_, rfl⟩
      rw [← hk] at f0 HN
      rw [← hd] at f1 HN
      rw [← hx2] at f2
      rw [← hx3] at f3
      rw [← hx4] at f4
      rw [← hx5] at f5
      obtain ⟨r1, hr1⟩ : ∃ x, x = (retS L p).1 := ⟨_, rfl⟩
      obtain ⟨r2, hr2⟩ : ∃ x, x = (retS L p).2 := ⟨_, rfl⟩
      rw [← hr1, ← hr2] at HN
      rw [← hr1] at hbd ⊢
      rw [← hr2]
      have HR1 := Lib.hid hr1
      have HR2 := Lib.hid hr2
      clear hk hd hx2 hx3 hx4 hx5 hr1 hr2 ho f hg0 hb
      by_cases hk1 : k = 1
      · have HN1 := Lib.hid (HN.out.trans (if_pos hk1))
        subst hk1
        by_cases hd1 : d = r2
        · have HN2 := Lib.hid (HN1.out.trans (by rw [if_pos hd1]))
          subst hd1
          go_wp2_with fail
          go_roundw
          case rel => exact ⟨p + 1, hlt, by go_num, by rw [HN2.out], by rw [HN2.out], HB.out.alloc HB.out.size _⟩
          case measure => simp [intOf] <;> omega
        · have HN2 := Lib.hid (HN1.out.trans (by rw [if_neg hd1]))
          have hd1' : (d == r2) = false := by simpa using hd1
          go_wp2_with fail
          go_roundw
          case rel => exact ⟨p + 1, hlt, by go_num, by rw [HN2.out], by rw [HN2.out], HB.out.alloc HB.out.size _⟩
          case measure => simp [intOf] <;> omega
      · have HN1 := Lib.hid (HN.out.trans (if_neg hk1))
        have hk1' : (k == 1) = false := by simpa using hk1
        go_wp2_with fail
        go_roundw
        case rel => exact ⟨p + 1, hlt, by go_num, by rw [HN1.out, HR1.out], by rw [HN1.out, HR2.out], HB.out.alloc HB.out.size _⟩
        case measure => simp [intOf] <;> omega
    · obtain rfl : p = m := by omega
      have HB3 := Lib.hid (HB2.out.trans (hb.mono HB2.out.size))
      go_wp2_with fail
      refine bodyPost_ret (v := .tuple #[.int .i64 (retS L p).1, .int .i64 0]) (by simp [results, Tryz.results35, go_sem]) rfl ?_
      exact ⟨by rw [HE.out], HB3.out⟩
end
end Go.Proofs.YtpmfkpehmckgmaaGreat
