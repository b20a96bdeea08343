/- Walks: the passes of valid operations, by the program. No condition but the bounds. -/
import Derived.Test.YtpmfkpehmckgmaaGreatMachPk
namespace Go.Proofs.YtpmfkpehmckgmaaGreat
open Go.RowKit
set_option maxRecDepth 20000

theorem passKind_any (k : Int) (w : World) (h1 : 1 ≤ k) (h9 : k ≤ 9) : Calls Tryz.prog 38 #[.int .i64 k] w fun e w' => e = .returned (.int .i64 (kindI k)) ∧ w = w' := by
  have hk : k = 1 ∨ k = 2 ∨ k = 3 ∨ k = 4 ∨ k = 5 ∨ k = 6 ∨ k = 7 ∨ k = 8 ∨ k = 9 := by omega
  clear h1 h9
  rcases hk with rfl | rfl | rfl | rfl | rfl | rfl | rfl | rfl | rfl
  all_goals
    go_enter Tryz.func38, Tryz.ntmps38
    go_wp2
    go_ret
    exact ⟨rfl, rfl⟩
/-- The passes so far (six numbers each), whether the last is open, the racking. -/
structure PsS where
  L : List Int
  op : Bool
  rk : Int
def tailAt (L : List Int) (t : Nat) : Int := L.getD (L.length - 6 + t) 0
def goOn (z : Nat → Int) (p i : Nat) (rk : Int) : Int := (placeI (z (i * 8 + 2)) (z (i * 8 + 3)) rk - placeI (z (p * 8 + 2)) (z (p * 8 + 3)) rk) * z (i * 8 + 1)
def psFits (s : PsS) (z : Nat → Int) (i : Nat) : Prop := tailAt s.L 0 = kindI (z (i * 8)) ∧ tailAt s.L 1 = z (i * 8 + 1) ∧ tailAt s.L 2 = z (i * 8 + 6) ∧ (kindI (z (i * 8)) = 1 → 0 < goOn z (i - 1) i s.rk)
instance (s : PsS) (z : Nat → Int) (i : Nat) : Decidable (psFits s z i) := by unfold psFits; infer_instance
def psNext (s : PsS) (z : Nat → Int) (i : Nat) : PsS :=
  if kindI (z (i * 8)) = 0 then ⟨s.L, false, if z (i * 8) = 7 then z (i * 8 + 7) else s.rk⟩
  else if s.op = true ∧ psFits s z i then ⟨s.L.set (s.L.length - 1) (tailAt s.L 5 + 1), true, s.rk⟩
  else ⟨s.L ++ [kindI (z (i * 8)), z (i * 8 + 1), z (i * 8 + 6), s.rk, (i : Int), 1], true, s.rk⟩
def psAt (z : Nat → Int) : Nat → PsS
  | 0 => ⟨[], false, 0⟩
  | i + 1 => psNext (psAt z i) z i
theorem tail_set {L : List Int} {m : Nat} (h : L.length = 6 * m) (h1 : 1 ≤ m) (x : Int) : tailAt (L.set (L.length - 1) x) 5 = x := by
  unfold tailAt
  rw [List.length_set, show L.length - 6 + 5 = L.length - 1 by omega, List.getD_eq_getElem?_getD, List.getElem?_set_self (by omega)]
  rfl
theorem tail_app (L : List Int) (a b c d e f : Int) : tailAt (L ++ [a, b, c, d, e, f]) 5 = f := by
  unfold tailAt
  rw [List.length_append, show L.length + [a, b, c, d, e, f].length - 6 + 5 = L.length + 5 by simp, List.getD_eq_getElem?_getD, List.getElem?_append_right (by omega), Nat.add_sub_cancel_left]
  rfl
structure PsOk (s : PsS) (i m : Nat) : Prop where
  len : s.L.length = 6 * m
  le : m ≤ i
  op : s.op = true → 1 ≤ m ∧ 0 ≤ tailAt s.L 5 ∧ tailAt s.L 5 ≤ i
  r0 : -3 ≤ s.rk
  r1 : s.rk ≤ 3
theorem psAt_ok {W : Nat} {z : Nat → Int} (hW : 1 ≤ W) : ∀ i, (∀ j, j < i → opW W z j = true) → ∃ m, PsOk (psAt z i) i m
  | 0, _ => ⟨0, rfl, Nat.le_refl _, fun h => by simp [psAt] at h, by show (-3 : Int) ≤ 0; omega, by show (0 : Int) ≤ 3; omega⟩
  | i + 1, h => by
    obtain ⟨m, hm⟩ := psAt_ok hW i fun j hj => h j (by omega)
    have ho := opOk_at hW (h i (by omega))
    have hr0 := ho.r0
    have hr1 := ho.r1
    have hlen := hm.len
    have hle := hm.le
    have h3 := hm.r0
    have h4 := hm.r1
    show ∃ m, PsOk (psNext (psAt z i) z i) (i + 1) m
    unfold psNext
    split
    · refine ⟨m, hlen, by omega, fun h => by simp at h, ?_, ?_⟩
      · show -3 ≤ (if z (i * 8) = 7 then z (i * 8 + 7) else (psAt z i).rk)
        split <;> omega
      · show (if z (i * 8) = 7 then z (i * 8 + 7) else (psAt z i).rk) ≤ 3
        split <;> omega
    · split
      · rename_i h2
        have h5 := hm.op h2.1
        refine ⟨m, by simpa using hlen, by omega, fun _ => ⟨h5.1, ?_, ?_⟩, h3, h4⟩
        · show 0 ≤ tailAt ((psAt z i).L.set ((psAt z i).L.length - 1) (tailAt (psAt z i).L 5 + 1)) 5
          rw [tail_set hlen h5.1]; omega
        · show tailAt ((psAt z i).L.set ((psAt z i).L.length - 1) (tailAt (psAt z i).L 5 + 1)) 5 ≤ ((i + 1 : Nat) : Int)
          rw [tail_set hlen h5.1]; omega
      · refine ⟨m + 1, by simp [hlen]; omega, by omega, fun _ => ⟨by omega, ?_, ?_⟩, h3, h4⟩
        · show 0 ≤ tailAt ((psAt z i).L ++ _) 5
          rw [tail_app]; omega
        · show tailAt ((psAt z i).L ++ _) 5 ≤ ((i + 1 : Nat) : Int)
          rw [tail_app]; omega
theorem ints_at (L : List Int) {j : Nat} (hj : j < L.length) : (ints L)[j]? = some (.int .i64 (L.getD j 0)) := by
  unfold ints
  rw [List.getElem?_map, List.getElem?_eq_getElem hj, List.getD_eq_getElem?_getD, List.getElem?_eq_getElem hj]
  rfl
theorem own_tail {w : World} {B m g c : Nat} {e : TypeId} {L : List Int} (h : w.ownsRow B e 6 (.slice (some ⟨g, 0, none⟩) (m + 1) c) (m + 1) (ints L)) (hl : L.length = 6 * (m + 1)) {t : Nat} (ht : t < 6) : w.cell? ⟨g, m * 6 + t, none⟩ = some (.int .i64 (tailAt L t)) := by
  rw [h.cellAt _ (by omega), ints_at L (by omega)]
  unfold tailAt
  rw [show L.length - 6 + t = m * 6 + t by omega]
theorem own_some {w : World} {B m : Nat} {e : TypeId} {v : Value} {xs : List Value} (h : w.ownsRow B e 6 v (m + 1) xs) : ∃ g c, v = .slice (some ⟨g, 0, none⟩) (m + 1) c ∧ B ≤ g ∧ g < w.heap.size := by
  rcases h.2 with ⟨h0, h1⟩ | ⟨g, c, cur, e, hg, hh, _⟩
  · exact absurd h1 (by omega)
  · exact ⟨g, c, e, hg, (Array.getElem?_eq_some_iff.1 hh).1⟩
theorem ints_set (L : List Int) (j : Nat) (x : Int) : (ints L).set j (.int .i64 x) = ints (L.set j x) := by simp [ints, List.map_set]
def PassP (w : World) (L : List Int) (e : Ending) (w' : World) : Prop := ∃ (v : Value) (m : Nat), e = .returned v ∧ L.length = 6 * m ∧ m ≤ 1500 ∧ w'.ownsRow w.heap.size 71 6 v m (ints L) ∧ Below w.heap.size w w'
abbrev opA (k d fb fa tb ta c r : Int) : Array Value := #[.int .i64 k, .int .i64 d, .int .i64 fb, .int .i64 fa, .int .i64 tb, .int .i64 ta, .int .i64 c, .int .i64 r]
theorem infoP : (Tryz.prog.info? 71).map (fun i => (i.zero, i.size, i.bytes)) = some (some (.agg #[.int .i64 0, .int .i64 0, .int .i64 0, .int .i64 0, .int .i64 0, .int .i64 0]), 6, 48) := by kernel_rfl
theorem psNext_no {z : Nat → Int} {i : Nat} {L : List Int} {op : Bool} {rk k : Int} (hs : psAt z i = ⟨L, op, rk⟩) (hk : z (i * 8) = k) (h : kindI k = 0) : psAt z (i + 1) = ⟨L, false, if k = 7 then z (i * 8 + 7) else rk⟩ := by
  show psNext (psAt z i) z i = _
  unfold psNext
  rw [hk, if_pos h, hs]
theorem psNext_new {z : Nat → Int} {i : Nat} {L : List Int} {op : Bool} {rk k kd d c : Int} (hs : psAt z i = ⟨L, op, rk⟩) (hk : z (i * 8) = k) (hd : z (i * 8 + 1) = d) (hc : z (i * 8 + 6) = c) (h : kindI k = kd) (h0 : kd ≠ 0) (hf : op = true → ¬ psFits ⟨L, op, rk⟩ z i) : psAt z (i + 1) = ⟨L ++ [kd, d, c, rk, (i : Int), 1], true, rk⟩ := by
  show psNext (psAt z i) z i = _
  unfold psNext
  rw [hk, hd, hc, h, if_neg h0, hs, if_neg fun h => hf h.1 h.2]
theorem psNext_on {z : Nat → Int} {i : Nat} {L : List Int} {rk k kd : Int} (hs : psAt z i = ⟨L, true, rk⟩) (hk : z (i * 8) = k) (h : kindI k = kd) (h0 : kd ≠ 0) (hf : psFits ⟨L, true, rk⟩ z i) : psAt z (i + 1) = ⟨L.set (L.length - 1) (tailAt L 5 + 1), true, rk⟩ := by
  show psNext (psAt z i) z i = _
  unfold psNext
  rw [hk, h, if_neg h0, hs, if_pos ⟨rfl, hf⟩]
theorem kind_cases {k : Int} (h1 : 1 ≤ k) (h9 : k ≤ 9) : (kindI k = 0 ∧ (k = 7 ∨ k = 8 ∨ k = 9)) ∨ (kindI k = 1 ∧ (k = 1 ∨ k = 2 ∨ k = 3 ∨ k = 5)) ∨ (kindI k = 2 ∧ k = 4) ∨ (kindI k = 3 ∧ k = 6) := by
  have hk : k = 1 ∨ k = 2 ∨ k = 3 ∨ k = 4 ∨ k = 5 ∨ k = 6 ∨ k = 7 ∨ k = 8 ∨ k = 9 := by omega
  rcases hk with rfl | rfl | rfl | rfl | rfl | rfl | rfl | rfl | rfl <;> simp [kindI]
set_option maxHeartbeats 8000000 in
theorem passes_any (W : Nat) (A : Option Addr) (n q : Nat) (z : Nat → Int) (w : World) (ha : Rd w A (n * 8) (fun j => .int .i64 (z j))) (hW1 : 1 ≤ W) (hW2 : W ≤ 24) (hn : n ≤ 1500) (hops : ∀ i, i < n → opW W z i = true) :
    Calls Tryz.prog 56 #[.slice A n q] w (PassP w (psAt z n).L) := by
  obtain ⟨i0, hi, iz, is, ib⟩ := info_parts infoP
  have HA := Lib.hid ha
  have HOPS := Lib.hid hops
  have H0 : Hid ((w.alloc (.cells #[] 71)).ownsRow w.heap.size 71 6 (.slice (some ⟨w.heap.size, 0, none⟩) 0 0) 0 (ints (psAt z 0).L)) := Lib.hid (own_lit w [] 0 (Nat.le_refl _) (Nat.zero_le _) rfl)
  clear ha hops
  go_enter Tryz.func56, Tryz.ntmps56
  go_wp2_with fail
  go_loopw [3, 4, 5, 14] (fun ov rv bv iv wr => ∃ (i m : Nat) (L : List Int) (op : Bool) (rk : Int), i ≤ n ∧ iv = .int .i64 i ∧ psAt z i = ⟨L, op, rk⟩ ∧ rv = .int .i64 rk ∧ bv = .bool op ∧ L.length = 6 * m ∧ wr.ownsRow w.heap.size 71 6 ov m (ints L) ∧ Below w.heap.size w wr) (fun _ _ _ iv _ => n - (intOf iv).toNat)
  case atStart => exact ⟨0, 0, _, _, _, Nat.zero_le _, rfl, rfl, rfl, rfl, rfl, H0.out, (Below.refl _ _).alloc (Nat.le_refl _) _⟩
  case round =>
    obtain ⟨i, m, L, op, rk, hile, rfl, hst, rfl, rfl, hlen, hown, hb⟩ := hrel
    have HST := Lib.hid hst
    have HOWN := Lib.hid hown
    have HB := Lib.hid hb
    have HLEN := Lib.hid hlen
    obtain ⟨m', hok⟩ := psAt_ok hW1 i fun j hj => HOPS.out j (by omega)
    rw [hst] at hok
    obtain rfl : m' = m := by have := hok.len; have : L.length = 6 * m' := this; omega
    have HOK := Lib.hid hok
    have hmi := hok.le
    clear hst hown hb hlen hok
    by_cases hlt : i < n
    · obtain ⟨ga, o, rfl, hga, hra⟩ := HA.out (by omega)
      have HRA := Lib.hid (hra.below hga HB.out)
      have hga2 : ga < wr.heap.size := blt HB.out hga
      have hp := opOk_at hW1 (HOPS.out i hlt)
      have hce := opCe_of HRA.out hlt
      have hkc := kind_cases hp.k1 hp.k9
      have hpk := fun w0 : World => passKind_any (z (i * 8)) w0 hp.k1 hp.k9
      obtain ⟨k, hx0⟩ : ∃ x, x = z (i * 8) := ⟨_, rfl⟩
      obtain ⟨d, hx1⟩ : ∃ x, x = z (i * 8 + 1) := ⟨_, rfl⟩
      obtain ⟨fb, hx2⟩ : ∃ x, x = z (i * 8 + 2) := ⟨_, rfl⟩
      obtain ⟨fa, hx3⟩ : ∃ x, x = z (i * 8 + 3) := ⟨_, rfl⟩
      obtain ⟨tb, hx4⟩ : ∃ x, x = z (i * 8 + 4) := ⟨_, rfl⟩
      obtain ⟨ta, hx5⟩ : ∃ x, x = z (i * 8 + 5) := ⟨_, rfl⟩
      obtain ⟨c, hx6⟩ : ∃ x, x = z (i * 8 + 6) := ⟨_, rfl⟩
      obtain ⟨r, hx7⟩ : ∃ x, x = z (i * 8 + 7) := ⟨_, rfl⟩
      rw [← hx0, ← hx1, ← hx2, ← hx3, ← hx4, ← hx5, ← hx6, ← hx7] at hp hce
      rw [← hx0] at hkc hpk
      have HX0 := Lib.hid hx0
      have HX1 := Lib.hid hx1
      have HX2 := Lib.hid hx2
      have HX3 := Lib.hid hx3
      have HX6 := Lib.hid hx6
      have HX7 := Lib.hid hx7
      have HP := Lib.hid hp
      have o0 := hce.c0
      have o1 := hce.c1
      have o2 := hce.c2
      have o3 : wr.cell? ⟨ga, o + i * 8 + 3, none⟩ = some (.int .i64 fa) := hce.c3
      have o4 := hce.c4
      have o5 : wr.cell? ⟨ga, o + i * 8 + 5, none⟩ = some (.int .i64 ta) := hce.c5
      have o6 := hce.c6
      have o7 := hce.c7
      have HPK := Lib.hid hpk
      clear hx0 hx1 hx2 hx3 hx4 hx5 hx6 hx7 hce hp hra hga hpk
      obtain ⟨kd, hkd⟩ : ∃ x, x = kindI k := ⟨_, rfl⟩
      rw [← hkd] at hkc HPK
      have HKD := Lib.hid hkd
      clear hkd
      go_wp2_with fail
      refine (HPK.out _).mono ?_
      rintro e w1 ⟨rfl, hw1⟩
      have e0 : w1.cell? ⟨wr.heap.size, 0, none⟩ = some (.int .i64 k) := by rw [← hw1]; simp
      have e1 : w1.cell? ⟨wr.heap.size, 1, none⟩ = some (.int .i64 d) := by rw [← hw1]; simp
      have e2 : w1.cell? ⟨wr.heap.size, 2, none⟩ = some (.int .i64 fb) := by rw [← hw1]; simp
      have e3 : w1.cell? ⟨wr.heap.size, 2 + 1, none⟩ = some (.int .i64 fa) := by rw [← hw1]; simp
      have e6 : w1.cell? ⟨wr.heap.size, 6, none⟩ = some (.int .i64 c) := by rw [← hw1]; simp
      have e7 : w1.cell? ⟨wr.heap.size, 7, none⟩ = some (.int .i64 r) := by rw [← hw1]; simp
      have hbw : Below wr.heap.size wr w1 := hw1 ▸ (Below.refl _ _).alloc (Nat.le_refl _) _
      have HOWN1 := Lib.hid (own_below HOWN.out hbw)
      have HB1 := Lib.hid (HB.out.trans (hbw.mono HB.out.size))
      have HBW := Lib.hid hbw
      clear hw1 hbw o0 o1 o2 o3 o4 o5 o6 o7
      rcases hkc with ⟨rfl, hk⟩ | hkc
      · have HN := Lib.hid (psNext_no HST.out HX0.out.symm HKD.out.symm)
        by_cases h7 : k = 7
        · have HN7 := Lib.hid (HN.out.trans (by rw [if_pos h7, ← HX7.out]))
          subst h7
          go_wp2_with fail
          go_roundw
          case rel => exact ⟨i + 1, m', _, _, _, hlt, by go_num, HN7.out, rfl, rfl, HLEN.out, HOWN1.out, HB1.out⟩
          case measure => simp [intOf] <;> omega
        · have HN7 := Lib.hid (HN.out.trans (by rw [if_neg h7]))
          have h7' : (k == 7) = false := by simpa using h7
          go_wp2_with fail
          go_roundw
          case rel => exact ⟨i + 1, m', _, _, _, hlt, by go_num, HN7.out, rfl, rfl, HLEN.out, HOWN1.out, HB1.out⟩
          case measure => simp [intOf] <;> omega
      · have h7' : (k == 7) = false := by simp; omega
        have hkd0 : kd ≠ 0 := by omega
        have hkd0' : (kd == 0) = false := by simpa using hkd0
        cases op with
        | false =>
          have HN := Lib.hid (psNext_new HST.out HX0.out.symm HX1.out.symm HX6.out.symm HKD.out.symm hkd0 (by simp))
          clear hkc hkd0
          go_wp2_with (at_builtin; go_must (refine wpList_app w1 rfl (.tmp 90) (.tmp 99) _ rfl w.heap.size 71 i0 _ 6 48 Tryz.underlying38 hi iz is ib rfl (by omega) u3 m' _ rfl HOWN1.out _ 1 1 (ints [kd, d, c, rk, (i : Int), 1]) rfl rfl (ints_one _) (by unfold maxLen; omega) (by omega) HB1.out.size ?_); intro v' w' hown' hb'; rw [← ints_app] at hown'; have HOWN2 := Lib.hid hown'; have HB2 := Lib.hid (HB1.out.trans hb'); clear hown' hb')
          go_wp2_with fail
          go_roundw
          case rel => exact ⟨i + 1, m' + 1, _, _, _, hlt, by go_num, HN.out, rfl, rfl, by have := HLEN.out; simp; omega, HOWN2.out, HB2.out⟩
          case measure => simp [intOf] <;> omega
        | true =>
          have hm0 : 1 ≤ m' := (HOK.out.op rfl).1
          obtain ⟨p, rfl⟩ : ∃ p, i = p + 1 := ⟨i - 1, by omega⟩
          obtain ⟨hm1, hl50, hl51⟩ : 1 ≤ m' ∧ 0 ≤ tailAt L 5 ∧ tailAt L 5 ≤ ((p + 1 : Nat) : Int) := HOK.out.op rfl
          obtain ⟨m, hmm⟩ : ∃ m, m' = m + 1 := ⟨m' - 1, by omega⟩
          subst hmm
          obtain ⟨g, cc, rfl, hg0, hg1⟩ := own_some HOWN1.out
          have HG0 := Lib.hid hg0
          have hipI : ((p + 1 : Nat) : Int) - 1 = (p : Int) := by omega
          have hpn : p < n := by omega
          have hwp : IntKind.i64.wrap (p : Int) = p := by rw [IntKind.wrap_i64]; omega
          have hp0 : (0 : Int) ≤ (p : Int) := by omega
          have hpnI : (p : Int) < (n : Int) := by omega
          obtain ⟨l0, hl0⟩ : ∃ x, x = tailAt L 0 := ⟨_, rfl⟩
          obtain ⟨l1, hl1⟩ : ∃ x, x = tailAt L 1 := ⟨_, rfl⟩
          obtain ⟨l2, hl2⟩ : ∃ x, x = tailAt L 2 := ⟨_, rfl⟩
          obtain ⟨l5, hl5⟩ : ∃ x, x = tailAt L 5 := ⟨_, rfl⟩
          obtain ⟨gb, hgb⟩ : ∃ x, x = z (p * 8 + 2) := ⟨_, rfl⟩
          obtain ⟨gc, hgc⟩ : ∃ x, x = z (p * 8 + 3) := ⟨_, rfl⟩
          have hpp := opOk_at hW1 (HOPS.out p (by omega))
          have hc0 := hpp.f0
          have hc1 := hpp.f1
          have ha0 := HP.out.f0
          have ha1 := HP.out.f1
          have hr1 : -3 ≤ rk := HOK.out.r0
          have hr2 : rk ≤ 3 := HOK.out.r1
          have f2 : wr.cell? ⟨ga, o + (p * 8 + 2), none⟩ = some (.int .i64 (z (p * 8 + 2))) := HRA.out (p * 8 + 2) (by omega)
          have f3 : wr.cell? ⟨ga, o + (p * 8 + 3), none⟩ = some (.int .i64 (z (p * 8 + 3))) := HRA.out (p * 8 + 3) (by omega)
          rw [← hgc] at hc0 hc1 f3
          rw [← hgb] at f2
          rw [← hl5] at hl50 hl51
          have F2 : Hid (w1.cell? ⟨ga, o + p * 8 + 2, none⟩ = some (.int .i64 gb)) := Lib.hid (((bcell HBW.out).1 ga _ hga2).trans (by rw [Nat.add_assoc]; exact f2))
          have F3 : Hid (w1.cell? ⟨ga, o + p * 8 + 2 + 1, none⟩ = some (.int .i64 gc)) := Lib.hid (((bcell HBW.out).1 ga _ hga2).trans (by rw [Nat.add_assoc, Nat.add_assoc]; exact f3))
          have GA1 := Lib.hid (show ga < w1.heap.size from Nat.lt_of_lt_of_le hga2 HBW.out.size)
          have E1 := Lib.hid e1
          have E2 := Lib.hid e2
          have E3 := Lib.hid e3
          have E6 := Lib.hid e6
          have GB1 := Lib.hid (World.block_lt_of_cell? w1 _ e1)
          have TL : Hid (∀ w', Below w1.heap.size w1 w' → w'.cell? ⟨g, m * 6, none⟩ = some (.int .i64 l0) ∧ w'.cell? ⟨g, m * 6 + 1, none⟩ = some (.int .i64 l1) ∧ w'.cell? ⟨g, m * 6 + 2, none⟩ = some (.int .i64 l2) ∧ w'.cell? ⟨g, m * 6 + 5, none⟩ = some (.int .i64 l5) ∧ w'.frozen? ⟨g, m * 6 + 5, none⟩ = false ∧ w'.cell? ⟨wr.heap.size, 1, none⟩ = some (.int .i64 d) ∧ w'.cell? ⟨wr.heap.size, 6, none⟩ = some (.int .i64 c)) := Lib.hid fun w' hb => by
            have ho := own_below HOWN1.out hb
            rw [hl0, hl1, hl2, hl5]
            exact ⟨own_tail ho HLEN.out (t := 0) (by omega), own_tail ho HLEN.out (by omega), own_tail ho HLEN.out (by omega), own_tail ho HLEN.out (by omega), ho.frozenAt _, ((bcell hb).1 _ 1 GB1.out).trans E1.out, ((bcell hb).1 _ 6 GB1.out).trans E6.out⟩
          have HL0 := Lib.hid hl0
          have HL1 := Lib.hid hl1
          have HL2 := Lib.hid hl2
          have HL5 := Lib.hid hl5
          have HGB := Lib.hid hgb
          have HGC := Lib.hid hgc
          have hl5n : l5 ≤ 2000 := by omega
          have hmI : ((m + 1 : Nat) : Int) - 1 = (m : Int) := by omega
          have HFI : Hid (psFits ⟨L, true, rk⟩ z (p + 1) ↔ (l0 = kd ∧ l1 = d ∧ l2 = c ∧ (kd = 1 → 0 < (placeI fb fa rk - placeI gb gc rk) * d))) := Lib.hid (by
            unfold psFits goOn
            rw [Nat.add_sub_cancel, ← HX0.out, ← HX1.out, ← HX2.out, ← HX3.out, ← HX6.out, ← HGB.out, ← HGC.out, HL0.out, HL1.out, HL2.out, HKD.out])
          clear hl0 hl1 hl2 hl5 hgb hgc hl51 hpp f2 f3 hg0 e7
          rcases hkc with ⟨rfl, hk⟩ | hkc
          · have hd := HP.out.dir (by omega) (by omega) (by omega) (by omega)
            rcases hd with rfl | rfl
            · have hxb := placeI_bd (b := fb) ha0 (show fa ≤ 23 by omega) hr1 hr2
              have hyb := placeI_bd (b := gb) hc0 (show gc ≤ 23 by omega) hr1 hr2
              obtain ⟨x, hx⟩ : ∃ x, x = placeI fb fa rk := ⟨_, rfl⟩
              obtain ⟨y, hy⟩ : ∃ x, x = placeI gb gc rk := ⟨_, rfl⟩
              rw [← hx] at hxb HFI
              rw [← hy] at hyb HFI
              have HX := Lib.hid hx
              have HY := Lib.hid hy
              have HK := Lib.hid hk
              clear hx hy hk
              have hwx : IntKind.i64.wrap (x - y) = x - y := by rw [IntKind.wrap_i64]; omega
              have hwy : IntKind.i64.wrap (y - x) = y - x := by rw [IntKind.wrap_i64]; omega
              have hwz : IntKind.i64.wrap (-(x - y)) = y - x := by rw [IntKind.wrap_i64]; omega
              have hwv : IntKind.i64.wrap ((x - y) * -1) = y - x := by rw [IntKind.wrap_i64]; omega
              have f2 := F2.out
              have f3 := F3.out
              go_wp2_with fail
              go_region_held3 (fun w' => w'.cell? ⟨wr.heap.size, 1, none⟩ = some (.int .i64 1) ∧ w'.cell? ⟨wr.heap.size, 2, none⟩ = some (.int .i64 fb) ∧ w'.cell? ⟨wr.heap.size, 2 + 1, none⟩ = some (.int .i64 fa) ∧ w'.cell? ⟨ga, o + p * 8 + 2, none⟩ = some (.int .i64 gb) ∧ w'.cell? ⟨ga, o + p * 8 + 2 + 1, none⟩ = some (.int .i64 gc)) (go_keep)
                (first
                  | (go_at_call_of 57 fa; refine (place_any fb fa rk _ ha0 (by omega) hr1 hr2).mono ?_; rintro e w3 ⟨he, hb3⟩; obtain rfl : e = .returned (.int .i64 x) := he.trans (by rw [HX.out]); have HB3 : Hid (Below w1.heap.size w1 w3) := Lib.hid (by first | exact (Below.refl w1.heap.size w1).drew.trans hb3 | exact (Below.refl w1.heap.size w1).drew.drew.trans hb3 | exact hb3); have kx1 := ((bcell HB3.out).1 _ 1 GB1.out).trans E1.out; have kx2 := ((bcell HB3.out).1 _ 2 GB1.out).trans E2.out; have kx3 := ((bcell HB3.out).1 _ (2 + 1) GB1.out).trans E3.out; have kx4 := ((bcell HB3.out).1 ga _ GA1.out).trans F2.out; have kx5 := ((bcell HB3.out).1 ga _ GA1.out).trans F3.out; clear hb3 he)
                  | (go_at_call_of 57 gc; refine (place_any gb gc rk _ hc0 (by omega) hr1 hr2).mono ?_; rintro e w4 ⟨he, hb4⟩; obtain rfl : e = .returned (.int .i64 y) := he.trans (by rw [HY.out]); have HB4 : Hid (Below w1.heap.size w1 w4) := Lib.hid (HB3.out.trans ((by first | exact hb4 | exact (Below.refl w3.heap.size w3).drew.trans hb4 : Below w3.heap.size w3 w4).mono HB3.out.size)); have ky1 := ((bcell HB4.out).1 _ 1 GB1.out).trans E1.out; have ky2 := ((bcell HB4.out).1 _ 2 GB1.out).trans E2.out; have ky3 := ((bcell HB4.out).1 _ (2 + 1) GB1.out).trans E3.out; have ky4 := ((bcell HB4.out).1 ga _ GA1.out).trans F2.out; have ky5 := ((bcell HB4.out).1 ga _ GA1.out).trans F3.out; clear hb4 he kx1 kx2 kx3 kx4 kx5))
              rename_i hHeld
              clear hHeld ky1 ky2 ky3 ky4 ky5 e1 e2 e3 e6 f2 f3
              obtain ⟨t0, t1, t2, t5, r5, e1, e6⟩ := TL.out _ HB4.out
              by_cases h0 : l0 = 1
              · by_cases h1 : l1 = 1
                · by_cases h2 : l2 = c
                  · by_cases h3 : y < x
                    · have HN := Lib.hid (psNext_on HST.out HX0.out.symm HKD.out.symm (by decide) (HFI.out.2 ⟨h0, h1, h2, fun _ => by omega⟩))
                      have b0 : (l0 == 1) = true := by simpa using h0
                      have b1 : (l1 == 1) = true := by simpa using h1
                      have b2 : (l2 == c) = true := by simpa using h2
                      have h3d : decide (y < x) = true := by simpa using h3
                      clear h0 h1 h2
                      go_wp2_with fail
                      go_quiet (fail)
                      obtain ⟨w5, hw5⟩ : ∃ x, x = w4.drewN nq := ⟨_, rfl⟩
                      rw [← hw5]
                      have hb5 : Below w1.heap.size w1 w5 := hw5 ▸ Below.drewN' HB4.out nq
                      clear t0 t1 t2 t5 r5 e1 e6
                      obtain ⟨_, _, _, t5, r5, e1, e6⟩ := TL.out _ hb5
                      have HOWN5 := Lib.hid (own_below HOWN1.out hb5)
                      have HBW5 := Lib.hid (HB1.out.trans (hb5.mono HB1.out.size))
                      clear hw5 hb5
                      have HST5 := Lib.hid (HOWN5.out.stored (m * 6 + 5) (.int .i64 (l5 + 1))).1
                      go_wp2_with fail
                      go_roundw
                      case rel => exact ⟨p + 1 + 1, m + 1, _, _, _, hlt, by go_num, HN.out, rfl, rfl, by simpa using HLEN.out, by have := HLEN.out; rw [show L.length - 1 = m * 6 + 5 by omega, ← HL5.out, ← ints_set]; exact HST5.out, HBW5.out.setCell HG0.out _⟩
                      case measure => simp [intOf] <;> omega
                    · have HN := Lib.hid (psNext_new HST.out HX0.out.symm HX1.out.symm HX6.out.symm HKD.out.symm (by decide) (fun _ hf => by have hf := HFI.out.1 hf; exact absurd (hf.2.2.2 (by first | exact rfl | trivial)) (by omega)))
                      have b0 : (l0 == 1) = true := by simpa using h0
                      have b1 : (l1 == 1) = true := by simpa using h1
                      have b2 : (l2 == c) = true := by simpa using h2
                      have h3d : decide (y < x) = false := by simpa using h3
                      clear h0 h1 h2
                      go_wp2_with fail
                      go_quiet (fail)
                      obtain ⟨w5, hw5⟩ : ∃ x, x = w4.drewN nq := ⟨_, rfl⟩
                      rw [← hw5]
                      have hb5 : Below w1.heap.size w1 w5 := hw5 ▸ Below.drewN' HB4.out nq
                      clear t0 t1 t2 t5 r5 e1 e6
                      obtain ⟨_, _, _, t5, r5, e1, e6⟩ := TL.out _ hb5
                      have HOWN5 := Lib.hid (own_below HOWN1.out hb5)
                      have HBW5 := Lib.hid (HB1.out.trans (hb5.mono HB1.out.size))
                      clear hw5 hb5
                      go_wp2_with (at_builtin; go_must (refine wpList_app w5 rfl (.tmp 90) (.tmp 99) _ rfl w.heap.size 71 i0 _ 6 48 Tryz.underlying38 hi iz is ib rfl (by omega) (.slice (some ⟨g, 0, none⟩) (m + 1) cc) (m + 1) _ (by rfl) HOWN5.out _ 1 1 (ints [1, 1, c, rk, ((p + 1 : Nat) : Int), 1]) rfl rfl (ints_one _) (by unfold maxLen; omega) (by omega) HBW5.out.size ?_); intro v' w' hown' hb'; rw [← ints_app] at hown'; have HOWN2 := Lib.hid hown'; have HB2 := Lib.hid (HBW5.out.trans hb'); clear hown' hb')
                      go_wp2_with fail
                      go_roundw
                      case rel => exact ⟨p + 1 + 1, m + 1 + 1, _, _, _, hlt, by go_num, HN.out, rfl, rfl, by have := HLEN.out; simp; omega, HOWN2.out, HB2.out⟩
                      case measure => simp [intOf] <;> omega
                  · have HN := Lib.hid (psNext_new HST.out HX0.out.symm HX1.out.symm HX6.out.symm HKD.out.symm (by decide) (fun _ hf => by have hf := HFI.out.1 hf; exact h2 hf.2.2.1))
                    have b0 : (l0 == 1) = true := by simpa using h0
                    have b1 : (l1 == 1) = true := by simpa using h1
                    have b2 : (l2 == c) = false := by simpa using h2
                    clear h0 h1 h2
                    go_wp2_with fail
                    go_quiet (fail)
                    obtain ⟨w5, hw5⟩ : ∃ x, x = w4.drewN nq := ⟨_, rfl⟩
                    rw [← hw5]
                    have hb5 : Below w1.heap.size w1 w5 := hw5 ▸ Below.drewN' HB4.out nq
                    clear t0 t1 t2 t5 r5 e1 e6
                    obtain ⟨_, _, _, t5, r5, e1, e6⟩ := TL.out _ hb5
                    have HOWN5 := Lib.hid (own_below HOWN1.out hb5)
                    have HBW5 := Lib.hid (HB1.out.trans (hb5.mono HB1.out.size))
                    clear hw5 hb5
                    go_wp2_with (at_builtin; go_must (refine wpList_app w5 rfl (.tmp 90) (.tmp 99) _ rfl w.heap.size 71 i0 _ 6 48 Tryz.underlying38 hi iz is ib rfl (by omega) (.slice (some ⟨g, 0, none⟩) (m + 1) cc) (m + 1) _ (by rfl) HOWN5.out _ 1 1 (ints [1, 1, c, rk, ((p + 1 : Nat) : Int), 1]) rfl rfl (ints_one _) (by unfold maxLen; omega) (by omega) HBW5.out.size ?_); intro v' w' hown' hb'; rw [← ints_app] at hown'; have HOWN2 := Lib.hid hown'; have HB2 := Lib.hid (HBW5.out.trans hb'); clear hown' hb')
                    go_wp2_with fail
                    go_roundw
                    case rel => exact ⟨p + 1 + 1, m + 1 + 1, _, _, _, hlt, by go_num, HN.out, rfl, rfl, by have := HLEN.out; simp; omega, HOWN2.out, HB2.out⟩
                    case measure => simp [intOf] <;> omega
                · have HN := Lib.hid (psNext_new HST.out HX0.out.symm HX1.out.symm HX6.out.symm HKD.out.symm (by decide) (fun _ hf => by have hf := HFI.out.1 hf; exact h1 hf.2.1))
                  have b0 : (l0 == 1) = true := by simpa using h0
                  have b1 : (l1 == 1) = false := by simpa using h1
                  clear h0 h1
                  go_wp2_with fail
                  go_quiet (fail)
                  obtain ⟨w5, hw5⟩ : ∃ x, x = w4.drewN nq := ⟨_, rfl⟩
                  rw [← hw5]
                  have hb5 : Below w1.heap.size w1 w5 := hw5 ▸ Below.drewN' HB4.out nq
                  clear t0 t1 t2 t5 r5 e1 e6
                  obtain ⟨_, _, _, t5, r5, e1, e6⟩ := TL.out _ hb5
                  have HOWN5 := Lib.hid (own_below HOWN1.out hb5)
                  have HBW5 := Lib.hid (HB1.out.trans (hb5.mono HB1.out.size))
                  clear hw5 hb5
                  go_wp2_with (at_builtin; go_must (refine wpList_app w5 rfl (.tmp 90) (.tmp 99) _ rfl w.heap.size 71 i0 _ 6 48 Tryz.underlying38 hi iz is ib rfl (by omega) (.slice (some ⟨g, 0, none⟩) (m + 1) cc) (m + 1) _ (by rfl) HOWN5.out _ 1 1 (ints [1, 1, c, rk, ((p + 1 : Nat) : Int), 1]) rfl rfl (ints_one _) (by unfold maxLen; omega) (by omega) HBW5.out.size ?_); intro v' w' hown' hb'; rw [← ints_app] at hown'; have HOWN2 := Lib.hid hown'; have HB2 := Lib.hid (HBW5.out.trans hb'); clear hown' hb')
                  go_wp2_with fail
                  go_roundw
                  case rel => exact ⟨p + 1 + 1, m + 1 + 1, _, _, _, hlt, by go_num, HN.out, rfl, rfl, by have := HLEN.out; simp; omega, HOWN2.out, HB2.out⟩
                  case measure => simp [intOf] <;> omega
              · have HN := Lib.hid (psNext_new HST.out HX0.out.symm HX1.out.symm HX6.out.symm HKD.out.symm (by decide) (fun _ hf => by have hf := HFI.out.1 hf; exact h0 hf.1))
                have b0 : (l0 == 1) = false := by simpa using h0
                clear h0
                go_wp2_with fail
                go_quiet (fail)
                obtain ⟨w5, hw5⟩ : ∃ x, x = w4.drewN nq := ⟨_, rfl⟩
                rw [← hw5]
                have hb5 : Below w1.heap.size w1 w5 := hw5 ▸ Below.drewN' HB4.out nq
                clear t0 t1 t2 t5 r5 e1 e6
                obtain ⟨_, _, _, t5, r5, e1, e6⟩ := TL.out _ hb5
                have HOWN5 := Lib.hid (own_below HOWN1.out hb5)
                have HBW5 := Lib.hid (HB1.out.trans (hb5.mono HB1.out.size))
                clear hw5 hb5
                go_wp2_with (at_builtin; go_must (refine wpList_app w5 rfl (.tmp 90) (.tmp 99) _ rfl w.heap.size 71 i0 _ 6 48 Tryz.underlying38 hi iz is ib rfl (by omega) (.slice (some ⟨g, 0, none⟩) (m + 1) cc) (m + 1) _ (by rfl) HOWN5.out _ 1 1 (ints [1, 1, c, rk, ((p + 1 : Nat) : Int), 1]) rfl rfl (ints_one _) (by unfold maxLen; omega) (by omega) HBW5.out.size ?_); intro v' w' hown' hb'; rw [← ints_app] at hown'; have HOWN2 := Lib.hid hown'; have HB2 := Lib.hid (HBW5.out.trans hb'); clear hown' hb')
                go_wp2_with fail
                go_roundw
                case rel => exact ⟨p + 1 + 1, m + 1 + 1, _, _, _, hlt, by go_num, HN.out, rfl, rfl, by have := HLEN.out; simp; omega, HOWN2.out, HB2.out⟩
                case measure => simp [intOf] <;> omega
            · have hxb := placeI_bd (b := fb) ha0 (show fa ≤ 23 by omega) hr1 hr2
              have hyb := placeI_bd (b := gb) hc0 (show gc ≤ 23 by omega) hr1 hr2
              obtain ⟨x, hx⟩ : ∃ x, x = placeI fb fa rk := ⟨_, rfl⟩
              obtain ⟨y, hy⟩ : ∃ x, x = placeI gb gc rk := ⟨_, rfl⟩
              rw [← hx] at hxb HFI
              rw [← hy] at hyb HFI
              have HX := Lib.hid hx
              have HY := Lib.hid hy
              have HK := Lib.hid hk
              clear hx hy hk
              have hwx : IntKind.i64.wrap (x - y) = x - y := by rw [IntKind.wrap_i64]; omega
              have hwy : IntKind.i64.wrap (y - x) = y - x := by rw [IntKind.wrap_i64]; omega
              have hwz : IntKind.i64.wrap (-(x - y)) = y - x := by rw [IntKind.wrap_i64]; omega
              have hwv : IntKind.i64.wrap ((x - y) * -1) = y - x := by rw [IntKind.wrap_i64]; omega
              have f2 := F2.out
              have f3 := F3.out
              go_wp2_with fail
              go_region_held3 (fun w' => w'.cell? ⟨wr.heap.size, 1, none⟩ = some (.int .i64 (-1)) ∧ w'.cell? ⟨wr.heap.size, 2, none⟩ = some (.int .i64 fb) ∧ w'.cell? ⟨wr.heap.size, 2 + 1, none⟩ = some (.int .i64 fa) ∧ w'.cell? ⟨ga, o + p * 8 + 2, none⟩ = some (.int .i64 gb) ∧ w'.cell? ⟨ga, o + p * 8 + 2 + 1, none⟩ = some (.int .i64 gc)) (go_keep)
                (first
                  | (go_at_call_of 57 fa; refine (place_any fb fa rk _ ha0 (by omega) hr1 hr2).mono ?_; rintro e w3 ⟨he, hb3⟩; obtain rfl : e = .returned (.int .i64 x) := he.trans (by rw [HX.out]); have HB3 : Hid (Below w1.heap.size w1 w3) := Lib.hid (by first | exact (Below.refl w1.heap.size w1).drew.trans hb3 | exact (Below.refl w1.heap.size w1).drew.drew.trans hb3 | exact hb3); have kx1 := ((bcell HB3.out).1 _ 1 GB1.out).trans E1.out; have kx2 := ((bcell HB3.out).1 _ 2 GB1.out).trans E2.out; have kx3 := ((bcell HB3.out).1 _ (2 + 1) GB1.out).trans E3.out; have kx4 := ((bcell HB3.out).1 ga _ GA1.out).trans F2.out; have kx5 := ((bcell HB3.out).1 ga _ GA1.out).trans F3.out; clear hb3 he)
                  | (go_at_call_of 57 gc; refine (place_any gb gc rk _ hc0 (by omega) hr1 hr2).mono ?_; rintro e w4 ⟨he, hb4⟩; obtain rfl : e = .returned (.int .i64 y) := he.trans (by rw [HY.out]); have HB4 : Hid (Below w1.heap.size w1 w4) := Lib.hid (HB3.out.trans ((by first | exact hb4 | exact (Below.refl w3.heap.size w3).drew.trans hb4 : Below w3.heap.size w3 w4).mono HB3.out.size)); have ky1 := ((bcell HB4.out).1 _ 1 GB1.out).trans E1.out; have ky2 := ((bcell HB4.out).1 _ 2 GB1.out).trans E2.out; have ky3 := ((bcell HB4.out).1 _ (2 + 1) GB1.out).trans E3.out; have ky4 := ((bcell HB4.out).1 ga _ GA1.out).trans F2.out; have ky5 := ((bcell HB4.out).1 ga _ GA1.out).trans F3.out; clear hb4 he kx1 kx2 kx3 kx4 kx5))
              rename_i hHeld
              clear hHeld ky1 ky2 ky3 ky4 ky5 e1 e2 e3 e6 f2 f3
              obtain ⟨t0, t1, t2, t5, r5, e1, e6⟩ := TL.out _ HB4.out
              by_cases h0 : l0 = 1
              · by_cases h1 : l1 = (-1)
                · by_cases h2 : l2 = c
                  · by_cases h3 : x < y
                    · have HN := Lib.hid (psNext_on HST.out HX0.out.symm HKD.out.symm (by decide) (HFI.out.2 ⟨h0, h1, h2, fun _ => by omega⟩))
                      have b0 : (l0 == 1) = true := by simpa using h0
                      have b1 : (l1 == (-1)) = true := by simpa using h1
                      have b2 : (l2 == c) = true := by simpa using h2
                      have h3d : decide (x < y) = true := by simpa using h3
                      clear h0 h1 h2
                      go_wp2_with fail
                      go_quiet (fail)
                      obtain ⟨w5, hw5⟩ : ∃ x, x = w4.drewN nq := ⟨_, rfl⟩
                      rw [← hw5]
                      have hb5 : Below w1.heap.size w1 w5 := hw5 ▸ Below.drewN' HB4.out nq
                      clear t0 t1 t2 t5 r5 e1 e6
                      obtain ⟨_, _, _, t5, r5, e1, e6⟩ := TL.out _ hb5
                      have HOWN5 := Lib.hid (own_below HOWN1.out hb5)
                      have HBW5 := Lib.hid (HB1.out.trans (hb5.mono HB1.out.size))
                      clear hw5 hb5
                      have HST5 := Lib.hid (HOWN5.out.stored (m * 6 + 5) (.int .i64 (l5 + 1))).1
                      go_wp2_with fail
                      go_roundw
                      case rel => exact ⟨p + 1 + 1, m + 1, _, _, _, hlt, by go_num, HN.out, rfl, rfl, by simpa using HLEN.out, by have := HLEN.out; rw [show L.length - 1 = m * 6 + 5 by omega, ← HL5.out, ← ints_set]; exact HST5.out, HBW5.out.setCell HG0.out _⟩
                      case measure => simp [intOf] <;> omega
                    · have HN := Lib.hid (psNext_new HST.out HX0.out.symm HX1.out.symm HX6.out.symm HKD.out.symm (by decide) (fun _ hf => by have hf := HFI.out.1 hf; exact absurd (hf.2.2.2 (by first | exact rfl | trivial)) (by omega)))
                      have b0 : (l0 == 1) = true := by simpa using h0
                      have b1 : (l1 == (-1)) = true := by simpa using h1
                      have b2 : (l2 == c) = true := by simpa using h2
                      have h3d : decide (x < y) = false := by simpa using h3
                      clear h0 h1 h2
                      go_wp2_with fail
                      go_quiet (fail)
                      obtain ⟨w5, hw5⟩ : ∃ x, x = w4.drewN nq := ⟨_, rfl⟩
                      rw [← hw5]
                      have hb5 : Below w1.heap.size w1 w5 := hw5 ▸ Below.drewN' HB4.out nq
                      clear t0 t1 t2 t5 r5 e1 e6
                      obtain ⟨_, _, _, t5, r5, e1, e6⟩ := TL.out _ hb5
                      have HOWN5 := Lib.hid (own_below HOWN1.out hb5)
                      have HBW5 := Lib.hid (HB1.out.trans (hb5.mono HB1.out.size))
                      clear hw5 hb5
                      go_wp2_with (at_builtin; go_must (refine wpList_app w5 rfl (.tmp 90) (.tmp 99) _ rfl w.heap.size 71 i0 _ 6 48 Tryz.underlying38 hi iz is ib rfl (by omega) (.slice (some ⟨g, 0, none⟩) (m + 1) cc) (m + 1) _ (by rfl) HOWN5.out _ 1 1 (ints [1, (-1), c, rk, ((p + 1 : Nat) : Int), 1]) rfl rfl (ints_one _) (by unfold maxLen; omega) (by omega) HBW5.out.size ?_); intro v' w' hown' hb'; rw [← ints_app] at hown'; have HOWN2 := Lib.hid hown'; have HB2 := Lib.hid (HBW5.out.trans hb'); clear hown' hb')
                      go_wp2_with fail
                      go_roundw
                      case rel => exact ⟨p + 1 + 1, m + 1 + 1, _, _, _, hlt, by go_num, HN.out, rfl, rfl, by have := HLEN.out; simp; omega, HOWN2.out, HB2.out⟩
                      case measure => simp [intOf] <;> omega
                  · have HN := Lib.hid (psNext_new HST.out HX0.out.symm HX1.out.symm HX6.out.symm HKD.out.symm (by decide) (fun _ hf => by have hf := HFI.out.1 hf; exact h2 hf.2.2.1))
                    have b0 : (l0 == 1) = true := by simpa using h0
                    have b1 : (l1 == (-1)) = true := by simpa using h1
                    have b2 : (l2 == c) = false := by simpa using h2
                    clear h0 h1 h2
                    go_wp2_with fail
                    go_quiet (fail)
                    obtain ⟨w5, hw5⟩ : ∃ x, x = w4.drewN nq := ⟨_, rfl⟩
                    rw [← hw5]
                    have hb5 : Below w1.heap.size w1 w5 := hw5 ▸ Below.drewN' HB4.out nq
                    clear t0 t1 t2 t5 r5 e1 e6
                    obtain ⟨_, _, _, t5, r5, e1, e6⟩ := TL.out _ hb5
                    have HOWN5 := Lib.hid (own_below HOWN1.out hb5)
                    have HBW5 := Lib.hid (HB1.out.trans (hb5.mono HB1.out.size))
                    clear hw5 hb5
                    go_wp2_with (at_builtin; go_must (refine wpList_app w5 rfl (.tmp 90) (.tmp 99) _ rfl w.heap.size 71 i0 _ 6 48 Tryz.underlying38 hi iz is ib rfl (by omega) (.slice (some ⟨g, 0, none⟩) (m + 1) cc) (m + 1) _ (by rfl) HOWN5.out _ 1 1 (ints [1, (-1), c, rk, ((p + 1 : Nat) : Int), 1]) rfl rfl (ints_one _) (by unfold maxLen; omega) (by omega) HBW5.out.size ?_); intro v' w' hown' hb'; rw [← ints_app] at hown'; have HOWN2 := Lib.hid hown'; have HB2 := Lib.hid (HBW5.out.trans hb'); clear hown' hb')
                    go_wp2_with fail
                    go_roundw
                    case rel => exact ⟨p + 1 + 1, m + 1 + 1, _, _, _, hlt, by go_num, HN.out, rfl, rfl, by have := HLEN.out; simp; omega, HOWN2.out, HB2.out⟩
                    case measure => simp [intOf] <;> omega
                · have HN := Lib.hid (psNext_new HST.out HX0.out.symm HX1.out.symm HX6.out.symm HKD.out.symm (by decide) (fun _ hf => by have hf := HFI.out.1 hf; exact h1 hf.2.1))
                  have b0 : (l0 == 1) = true := by simpa using h0
                  have b1 : (l1 == (-1)) = false := by simpa using h1
                  clear h0 h1
                  go_wp2_with fail
                  go_quiet (fail)
                  obtain ⟨w5, hw5⟩ : ∃ x, x = w4.drewN nq := ⟨_, rfl⟩
                  rw [← hw5]
                  have hb5 : Below w1.heap.size w1 w5 := hw5 ▸ Below.drewN' HB4.out nq
                  clear t0 t1 t2 t5 r5 e1 e6
                  obtain ⟨_, _, _, t5, r5, e1, e6⟩ := TL.out _ hb5
                  have HOWN5 := Lib.hid (own_below HOWN1.out hb5)
                  have HBW5 := Lib.hid (HB1.out.trans (hb5.mono HB1.out.size))
                  clear hw5 hb5
                  go_wp2_with (at_builtin; go_must (refine wpList_app w5 rfl (.tmp 90) (.tmp 99) _ rfl w.heap.size 71 i0 _ 6 48 Tryz.underlying38 hi iz is ib rfl (by omega) (.slice (some ⟨g, 0, none⟩) (m + 1) cc) (m + 1) _ (by rfl) HOWN5.out _ 1 1 (ints [1, (-1), c, rk, ((p + 1 : Nat) : Int), 1]) rfl rfl (ints_one _) (by unfold maxLen; omega) (by omega) HBW5.out.size ?_); intro v' w' hown' hb'; rw [← ints_app] at hown'; have HOWN2 := Lib.hid hown'; have HB2 := Lib.hid (HBW5.out.trans hb'); clear hown' hb')
                  go_wp2_with fail
                  go_roundw
                  case rel => exact ⟨p + 1 + 1, m + 1 + 1, _, _, _, hlt, by go_num, HN.out, rfl, rfl, by have := HLEN.out; simp; omega, HOWN2.out, HB2.out⟩
                  case measure => simp [intOf] <;> omega
              · have HN := Lib.hid (psNext_new HST.out HX0.out.symm HX1.out.symm HX6.out.symm HKD.out.symm (by decide) (fun _ hf => by have hf := HFI.out.1 hf; exact h0 hf.1))
                have b0 : (l0 == 1) = false := by simpa using h0
                clear h0
                go_wp2_with fail
                go_quiet (fail)
                obtain ⟨w5, hw5⟩ : ∃ x, x = w4.drewN nq := ⟨_, rfl⟩
                rw [← hw5]
                have hb5 : Below w1.heap.size w1 w5 := hw5 ▸ Below.drewN' HB4.out nq
                clear t0 t1 t2 t5 r5 e1 e6
                obtain ⟨_, _, _, t5, r5, e1, e6⟩ := TL.out _ hb5
                have HOWN5 := Lib.hid (own_below HOWN1.out hb5)
                have HBW5 := Lib.hid (HB1.out.trans (hb5.mono HB1.out.size))
                clear hw5 hb5
                go_wp2_with (at_builtin; go_must (refine wpList_app w5 rfl (.tmp 90) (.tmp 99) _ rfl w.heap.size 71 i0 _ 6 48 Tryz.underlying38 hi iz is ib rfl (by omega) (.slice (some ⟨g, 0, none⟩) (m + 1) cc) (m + 1) _ (by rfl) HOWN5.out _ 1 1 (ints [1, (-1), c, rk, ((p + 1 : Nat) : Int), 1]) rfl rfl (ints_one _) (by unfold maxLen; omega) (by omega) HBW5.out.size ?_); intro v' w' hown' hb'; rw [← ints_app] at hown'; have HOWN2 := Lib.hid hown'; have HB2 := Lib.hid (HBW5.out.trans hb'); clear hown' hb')
                go_wp2_with fail
                go_roundw
                case rel => exact ⟨p + 1 + 1, m + 1 + 1, _, _, _, hlt, by go_num, HN.out, rfl, rfl, by have := HLEN.out; simp; omega, HOWN2.out, HB2.out⟩
                case measure => simp [intOf] <;> omega
          rcases hkc with ⟨rfl, hk⟩ | hkc
          · clear hk
            go_wp2_with fail
            go_quiet (fail)
            obtain ⟨w4, hw4⟩ : ∃ x, x = w1.drewN nq := ⟨_, rfl⟩
            rw [← hw4]
            have HB4 : Hid (Below w1.heap.size w1 w4) := Lib.hid (hw4 ▸ Below.drewN' (Below.refl _ _) nq)
            clear e1 e2 e3 e6 hw4
            obtain ⟨t0, t1, t2, t5, r5, e1, e6⟩ := TL.out _ HB4.out
            by_cases h0 : l0 = 2
            · by_cases h1 : l1 = d
              · by_cases h2 : l2 = c
                · have HN := Lib.hid (psNext_on HST.out HX0.out.symm HKD.out.symm (by decide) (HFI.out.2 ⟨h0, h1, h2, fun h => absurd h (by decide)⟩))
                  have b0 : (l0 == 2) = true := by simpa using h0
                  have b1 : (l1 == d) = true := by simpa using h1
                  have b2 : (l2 == c) = true := by simpa using h2
                  clear h0 h1 h2
                  go_wp2_with fail
                  go_quiet (fail)
                  obtain ⟨w5, hw5⟩ : ∃ x, x = w4.drewN nq := ⟨_, rfl⟩
                  rw [← hw5]
                  have hb5 : Below w1.heap.size w1 w5 := hw5 ▸ Below.drewN' HB4.out nq
                  clear t0 t1 t2 t5 r5 e1 e6
                  obtain ⟨_, _, _, t5, r5, e1, e6⟩ := TL.out _ hb5
                  have HOWN5 := Lib.hid (own_below HOWN1.out hb5)
                  have HBW5 := Lib.hid (HB1.out.trans (hb5.mono HB1.out.size))
                  clear hw5 hb5
                  have HST5 := Lib.hid (HOWN5.out.stored (m * 6 + 5) (.int .i64 (l5 + 1))).1
                  go_wp2_with fail
                  go_roundw
                  case rel => exact ⟨p + 1 + 1, m + 1, _, _, _, hlt, by go_num, HN.out, rfl, rfl, by simpa using HLEN.out, by have := HLEN.out; rw [show L.length - 1 = m * 6 + 5 by omega, ← HL5.out, ← ints_set]; exact HST5.out, HBW5.out.setCell HG0.out _⟩
                  case measure => simp [intOf] <;> omega
                · have HN := Lib.hid (psNext_new HST.out HX0.out.symm HX1.out.symm HX6.out.symm HKD.out.symm (by decide) (fun _ hf => by have hf := HFI.out.1 hf; exact h2 hf.2.2.1))
                  have b0 : (l0 == 2) = true := by simpa using h0
                  have b1 : (l1 == d) = true := by simpa using h1
                  have b2 : (l2 == c) = false := by simpa using h2
                  clear h0 h1 h2
                  go_wp2_with fail
                  go_quiet (fail)
                  obtain ⟨w5, hw5⟩ : ∃ x, x = w4.drewN nq := ⟨_, rfl⟩
                  rw [← hw5]
                  have hb5 : Below w1.heap.size w1 w5 := hw5 ▸ Below.drewN' HB4.out nq
                  clear t0 t1 t2 t5 r5 e1 e6
                  obtain ⟨_, _, _, t5, r5, e1, e6⟩ := TL.out _ hb5
                  have HOWN5 := Lib.hid (own_below HOWN1.out hb5)
                  have HBW5 := Lib.hid (HB1.out.trans (hb5.mono HB1.out.size))
                  clear hw5 hb5
                  go_wp2_with (at_builtin; go_must (refine wpList_app w5 rfl (.tmp 90) (.tmp 99) _ rfl w.heap.size 71 i0 _ 6 48 Tryz.underlying38 hi iz is ib rfl (by omega) (.slice (some ⟨g, 0, none⟩) (m + 1) cc) (m + 1) _ (by rfl) HOWN5.out _ 1 1 (ints [2, d, c, rk, ((p + 1 : Nat) : Int), 1]) rfl rfl (ints_one _) (by unfold maxLen; omega) (by omega) HBW5.out.size ?_); intro v' w' hown' hb'; rw [← ints_app] at hown'; have HOWN2 := Lib.hid hown'; have HB2 := Lib.hid (HBW5.out.trans hb'); clear hown' hb')
                  go_wp2_with fail
                  go_roundw
                  case rel => exact ⟨p + 1 + 1, m + 1 + 1, _, _, _, hlt, by go_num, HN.out, rfl, rfl, by have := HLEN.out; simp; omega, HOWN2.out, HB2.out⟩
                  case measure => simp [intOf] <;> omega
              · have HN := Lib.hid (psNext_new HST.out HX0.out.symm HX1.out.symm HX6.out.symm HKD.out.symm (by decide) (fun _ hf => by have hf := HFI.out.1 hf; exact h1 hf.2.1))
                have b0 : (l0 == 2) = true := by simpa using h0
                have b1 : (l1 == d) = false := by simpa using h1
                clear h0 h1
                go_wp2_with fail
                go_quiet (fail)
                obtain ⟨w5, hw5⟩ : ∃ x, x = w4.drewN nq := ⟨_, rfl⟩
                rw [← hw5]
                have hb5 : Below w1.heap.size w1 w5 := hw5 ▸ Below.drewN' HB4.out nq
                clear t0 t1 t2 t5 r5 e1 e6
                obtain ⟨_, _, _, t5, r5, e1, e6⟩ := TL.out _ hb5
                have HOWN5 := Lib.hid (own_below HOWN1.out hb5)
                have HBW5 := Lib.hid (HB1.out.trans (hb5.mono HB1.out.size))
                clear hw5 hb5
                go_wp2_with (at_builtin; go_must (refine wpList_app w5 rfl (.tmp 90) (.tmp 99) _ rfl w.heap.size 71 i0 _ 6 48 Tryz.underlying38 hi iz is ib rfl (by omega) (.slice (some ⟨g, 0, none⟩) (m + 1) cc) (m + 1) _ (by rfl) HOWN5.out _ 1 1 (ints [2, d, c, rk, ((p + 1 : Nat) : Int), 1]) rfl rfl (ints_one _) (by unfold maxLen; omega) (by omega) HBW5.out.size ?_); intro v' w' hown' hb'; rw [← ints_app] at hown'; have HOWN2 := Lib.hid hown'; have HB2 := Lib.hid (HBW5.out.trans hb'); clear hown' hb')
                go_wp2_with fail
                go_roundw
                case rel => exact ⟨p + 1 + 1, m + 1 + 1, _, _, _, hlt, by go_num, HN.out, rfl, rfl, by have := HLEN.out; simp; omega, HOWN2.out, HB2.out⟩
                case measure => simp [intOf] <;> omega
            · have HN := Lib.hid (psNext_new HST.out HX0.out.symm HX1.out.symm HX6.out.symm HKD.out.symm (by decide) (fun _ hf => by have hf := HFI.out.1 hf; exact h0 hf.1))
              have b0 : (l0 == 2) = false := by simpa using h0
              clear h0
              go_wp2_with fail
              go_quiet (fail)
              obtain ⟨w5, hw5⟩ : ∃ x, x = w4.drewN nq := ⟨_, rfl⟩
              rw [← hw5]
              have hb5 : Below w1.heap.size w1 w5 := hw5 ▸ Below.drewN' HB4.out nq
              clear t0 t1 t2 t5 r5 e1 e6
              obtain ⟨_, _, _, t5, r5, e1, e6⟩ := TL.out _ hb5
              have HOWN5 := Lib.hid (own_below HOWN1.out hb5)
              have HBW5 := Lib.hid (HB1.out.trans (hb5.mono HB1.out.size))
              clear hw5 hb5
              go_wp2_with (at_builtin; go_must (refine wpList_app w5 rfl (.tmp 90) (.tmp 99) _ rfl w.heap.size 71 i0 _ 6 48 Tryz.underlying38 hi iz is ib rfl (by omega) (.slice (some ⟨g, 0, none⟩) (m + 1) cc) (m + 1) _ (by rfl) HOWN5.out _ 1 1 (ints [2, d, c, rk, ((p + 1 : Nat) : Int), 1]) rfl rfl (ints_one _) (by unfold maxLen; omega) (by omega) HBW5.out.size ?_); intro v' w' hown' hb'; rw [← ints_app] at hown'; have HOWN2 := Lib.hid hown'; have HB2 := Lib.hid (HBW5.out.trans hb'); clear hown' hb')
              go_wp2_with fail
              go_roundw
              case rel => exact ⟨p + 1 + 1, m + 1 + 1, _, _, _, hlt, by go_num, HN.out, rfl, rfl, by have := HLEN.out; simp; omega, HOWN2.out, HB2.out⟩
              case measure => simp [intOf] <;> omega
          · obtain ⟨rfl, hk⟩ := hkc
            clear hk
            go_wp2_with fail
            go_quiet (fail)
            obtain ⟨w4, hw4⟩ : ∃ x, x = w1.drewN nq := ⟨_, rfl⟩
            rw [← hw4]
            have HB4 : Hid (Below w1.heap.size w1 w4) := Lib.hid (hw4 ▸ Below.drewN' (Below.refl _ _) nq)
            clear e1 e2 e3 e6 hw4
            obtain ⟨t0, t1, t2, t5, r5, e1, e6⟩ := TL.out _ HB4.out
            by_cases h0 : l0 = 3
            · by_cases h1 : l1 = d
              · by_cases h2 : l2 = c
                · have HN := Lib.hid (psNext_on HST.out HX0.out.symm HKD.out.symm (by decide) (HFI.out.2 ⟨h0, h1, h2, fun h => absurd h (by decide)⟩))
                  have b0 : (l0 == 3) = true := by simpa using h0
                  have b1 : (l1 == d) = true := by simpa using h1
                  have b2 : (l2 == c) = true := by simpa using h2
                  clear h0 h1 h2
                  go_wp2_with fail
                  go_quiet (fail)
                  obtain ⟨w5, hw5⟩ : ∃ x, x = w4.drewN nq := ⟨_, rfl⟩
                  rw [← hw5]
                  have hb5 : Below w1.heap.size w1 w5 := hw5 ▸ Below.drewN' HB4.out nq
                  clear t0 t1 t2 t5 r5 e1 e6
                  obtain ⟨_, _, _, t5, r5, e1, e6⟩ := TL.out _ hb5
                  have HOWN5 := Lib.hid (own_below HOWN1.out hb5)
                  have HBW5 := Lib.hid (HB1.out.trans (hb5.mono HB1.out.size))
                  clear hw5 hb5
                  have HST5 := Lib.hid (HOWN5.out.stored (m * 6 + 5) (.int .i64 (l5 + 1))).1
                  go_wp2_with fail
                  go_roundw
                  case rel => exact ⟨p + 1 + 1, m + 1, _, _, _, hlt, by go_num, HN.out, rfl, rfl, by simpa using HLEN.out, by have := HLEN.out; rw [show L.length - 1 = m * 6 + 5 by omega, ← HL5.out, ← ints_set]; exact HST5.out, HBW5.out.setCell HG0.out _⟩
                  case measure => simp [intOf] <;> omega
                · have HN := Lib.hid (psNext_new HST.out HX0.out.symm HX1.out.symm HX6.out.symm HKD.out.symm (by decide) (fun _ hf => by have hf := HFI.out.1 hf; exact h2 hf.2.2.1))
                  have b0 : (l0 == 3) = true := by simpa using h0
                  have b1 : (l1 == d) = true := by simpa using h1
                  have b2 : (l2 == c) = false := by simpa using h2
                  clear h0 h1 h2
                  go_wp2_with fail
                  go_quiet (fail)
                  obtain ⟨w5, hw5⟩ : ∃ x, x = w4.drewN nq := ⟨_, rfl⟩
                  rw [← hw5]
                  have hb5 : Below w1.heap.size w1 w5 := hw5 ▸ Below.drewN' HB4.out nq
                  clear t0 t1 t2 t5 r5 e1 e6
                  obtain ⟨_, _, _, t5, r5, e1, e6⟩ := TL.out _ hb5
                  have HOWN5 := Lib.hid (own_below HOWN1.out hb5)
                  have HBW5 := Lib.hid (HB1.out.trans (hb5.mono HB1.out.size))
                  clear hw5 hb5
                  go_wp2_with (at_builtin; go_must (refine wpList_app w5 rfl (.tmp 90) (.tmp 99) _ rfl w.heap.size 71 i0 _ 6 48 Tryz.underlying38 hi iz is ib rfl (by omega) (.slice (some ⟨g, 0, none⟩) (m + 1) cc) (m + 1) _ (by rfl) HOWN5.out _ 1 1 (ints [3, d, c, rk, ((p + 1 : Nat) : Int), 1]) rfl rfl (ints_one _) (by unfold maxLen; omega) (by omega) HBW5.out.size ?_); intro v' w' hown' hb'; rw [← ints_app] at hown'; have HOWN2 := Lib.hid hown'; have HB2 := Lib.hid (HBW5.out.trans hb'); clear hown' hb')
                  go_wp2_with fail
                  go_roundw
                  case rel => exact ⟨p + 1 + 1, m + 1 + 1, _, _, _, hlt, by go_num, HN.out, rfl, rfl, by have := HLEN.out; simp; omega, HOWN2.out, HB2.out⟩
                  case measure => simp [intOf] <;> omega
              · have HN := Lib.hid (psNext_new HST.out HX0.out.symm HX1.out.symm HX6.out.symm HKD.out.symm (by decide) (fun _ hf => by have hf := HFI.out.1 hf; exact h1 hf.2.1))
                have b0 : (l0 == 3) = true := by simpa using h0
                have b1 : (l1 == d) = false := by simpa using h1
                clear h0 h1
                go_wp2_with fail
                go_quiet (fail)
                obtain ⟨w5, hw5⟩ : ∃ x, x = w4.drewN nq := ⟨_, rfl⟩
                rw [← hw5]
                have hb5 : Below w1.heap.size w1 w5 := hw5 ▸ Below.drewN' HB4.out nq
                clear t0 t1 t2 t5 r5 e1 e6
                obtain ⟨_, _, _, t5, r5, e1, e6⟩ := TL.out _ hb5
                have HOWN5 := Lib.hid (own_below HOWN1.out hb5)
                have HBW5 := Lib.hid (HB1.out.trans (hb5.mono HB1.out.size))
                clear hw5 hb5
                go_wp2_with (at_builtin; go_must (refine wpList_app w5 rfl (.tmp 90) (.tmp 99) _ rfl w.heap.size 71 i0 _ 6 48 Tryz.underlying38 hi iz is ib rfl (by omega) (.slice (some ⟨g, 0, none⟩) (m + 1) cc) (m + 1) _ (by rfl) HOWN5.out _ 1 1 (ints [3, d, c, rk, ((p + 1 : Nat) : Int), 1]) rfl rfl (ints_one _) (by unfold maxLen; omega) (by omega) HBW5.out.size ?_); intro v' w' hown' hb'; rw [← ints_app] at hown'; have HOWN2 := Lib.hid hown'; have HB2 := Lib.hid (HBW5.out.trans hb'); clear hown' hb')
                go_wp2_with fail
                go_roundw
                case rel => exact ⟨p + 1 + 1, m + 1 + 1, _, _, _, hlt, by go_num, HN.out, rfl, rfl, by have := HLEN.out; simp; omega, HOWN2.out, HB2.out⟩
                case measure => simp [intOf] <;> omega
            · have HN := Lib.hid (psNext_new HST.out HX0.out.symm HX1.out.symm HX6.out.symm HKD.out.symm (by decide) (fun _ hf => by have hf := HFI.out.1 hf; exact h0 hf.1))
              have b0 : (l0 == 3) = false := by simpa using h0
              clear h0
              go_wp2_with fail
              go_quiet (fail)
              obtain ⟨w5, hw5⟩ : ∃ x, x = w4.drewN nq := ⟨_, rfl⟩
              rw [← hw5]
              have hb5 : Below w1.heap.size w1 w5 := hw5 ▸ Below.drewN' HB4.out nq
              clear t0 t1 t2 t5 r5 e1 e6
              obtain ⟨_, _, _, t5, r5, e1, e6⟩ := TL.out _ hb5
              have HOWN5 := Lib.hid (own_below HOWN1.out hb5)
              have HBW5 := Lib.hid (HB1.out.trans (hb5.mono HB1.out.size))
              clear hw5 hb5
              go_wp2_with (at_builtin; go_must (refine wpList_app w5 rfl (.tmp 90) (.tmp 99) _ rfl w.heap.size 71 i0 _ 6 48 Tryz.underlying38 hi iz is ib rfl (by omega) (.slice (some ⟨g, 0, none⟩) (m + 1) cc) (m + 1) _ (by rfl) HOWN5.out _ 1 1 (ints [3, d, c, rk, ((p + 1 : Nat) : Int), 1]) rfl rfl (ints_one _) (by unfold maxLen; omega) (by omega) HBW5.out.size ?_); intro v' w' hown' hb'; rw [← ints_app] at hown'; have HOWN2 := Lib.hid hown'; have HB2 := Lib.hid (HBW5.out.trans hb'); clear hown' hb')
              go_wp2_with fail
              go_roundw
              case rel => exact ⟨p + 1 + 1, m + 1 + 1, _, _, _, hlt, by go_num, HN.out, rfl, rfl, by have := HLEN.out; simp; omega, HOWN2.out, HB2.out⟩
              case measure => simp [intOf] <;> omega
    · obtain rfl : i = n := by omega
      have HR : Hid ((psAt z i).L = L) := Lib.hid (by rw [HST.out])
      obtain ⟨A', c', rfl⟩ := own_form HOWN.out
      go_wp2_with fail
      go_ret
      exact ⟨_, m', rfl, by rw [HR.out]; exact HLEN.out, by omega, by rw [HR.out]; exact HOWN.out, HB.out⟩
end Go.Proofs.YtpmfkpehmckgmaaGreat
