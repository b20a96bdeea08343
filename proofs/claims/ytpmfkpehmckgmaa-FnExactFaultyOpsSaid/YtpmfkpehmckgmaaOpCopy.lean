/- Contracts of the laws' helpers over slices of operations: measured, copied. (Printed by wip/flatgen.py.) -/
import Derived.Test.YtpmfkpehmckgmaaObj2
import Derived.Test.YtpmfkpehmckgmaaObjs
import Derived.Deep.RegionHeld3
import Derived.Deep.QuietTactic
import Derived.BigQuiet
namespace Go.Proofs.Ytpmfkpehmckgmaa
open Go.RowKit

set_option maxRecDepth 20000
theorem toNeedle_any (z0 z1 : Int) (w : World) :
    Calls Try.prog 61 #[.agg #[.int .i64 z0, .int .i64 z1]] w fun e w' => e = .returned (.agg #[.int .i64 z0, .int .i64 z1]) ∧ Below w.heap.size w w' := by
  go_enter Try.func61, Try.ntmps61
  go_wp2
  refine bodyPost_ret (v := .agg #[.int .i64 z0, .int .i64 z1]) (by simp [results, Try.results61, go_sem]) rfl ⟨rfl, ?_⟩
  (repeat' first | with_reducible exact Below.refl _ _ | with_reducible refine Below.alloc ?_ ?_ _ | with_reducible refine Below.setCell ?_ ?_ _ | with_reducible refine Below.drew ?_ | with_reducible refine Below.drewN' ?_ _ | with_reducible (refine Below.trans ?_ (Below.mono (by assumption) ?_)) | exact Nat.le_refl _ | (simp; done) | (simp; omega) | omega)
theorem szOpS_any (A : Option Addr) (n c L : Nat) (w : World) (hn : n ≤ maxLen) (hL : L ≤ 1048576) :
    Calls Try.prog 10 #[.slice A n c, .int .i64 L] w fun e w' => ∃ r : Int, (r < 0 ∨ (n ≤ L ∧ r = L - n)) ∧ e = .returned (.int .i64 r) ∧ w = w' := by
  unfold maxLen at hn
  by_cases hle : n ≤ L
  · go_enter Try.func10, Try.ntmps10
    go_wp2
    go_ret
    exact ⟨(L : Int) - n, .inr ⟨hle, rfl⟩, rfl, rfl⟩
  · go_enter Try.func10, Try.ntmps10
    go_wp2
    go_ret
    exact ⟨-1, .inl (by omega), rfl, rfl⟩
theorem toOp_any (z0 z1 z2 z3 z4 z5 z6 z7 : Int) (w : World) :
    Calls Try.prog 38 #[.agg #[.int .i64 z0, .int .i64 z1, .int .i64 z2, .int .i64 z3, .int .i64 z4, .int .i64 z5, .int .i64 z6, .int .i64 z7]] w fun e w' => e = .returned (.agg #[.int .i64 z0, .int .i64 z1, .int .i64 z2, .int .i64 z3, .int .i64 z4, .int .i64 z5, .int .i64 z6, .int .i64 z7]) ∧ Below w.heap.size w w' := by
  go_enter Try.func38, Try.ntmps38
  go_wp2_with fail
  refine (toNeedle_any z2 z3 _).mono ?_
  rintro e w1 ⟨rfl, hb1⟩
  have A1 := Lib.hid (Blk.below (((Blk.at_ w 62 #[.int .i64 z0, .int .i64 z1, .int .i64 z2, .int .i64 z3, .int .i64 z4, .int .i64 z5, .int .i64 z6, .int .i64 z7] rfl).alloc _).alloc _) hb1 (by first | (simp; done) | (simp; omega) | omega))
  have B1 := Lib.hid (Blk.below ((Blk.at_ (g' := w.heap.size + 1) _ 58 #[.int .i64 0, .int .i64 0, .int .i64 0, .int .i64 0, .int .i64 0, .int .i64 0, .int .i64 0, .int .i64 0] (by simp)).alloc _) hb1 (by first | (simp; done) | (simp; omega) | omega))
  have C1 := Lib.hid (Blk.below (Blk.at_ (g' := w.heap.size + 1 + 1) _ 58 #[.int .i64 z0, .int .i64 z1, .int .i64 0, .int .i64 0, .int .i64 0, .int .i64 0, .int .i64 0, .int .i64 0] (by simp)) hb1 (by first | (simp; done) | (simp; omega) | omega))
  have hz1 : w.heap.size + 1 + 1 < w1.heap.size := blt hb1 (by simp)
  have HB1 := Lib.hid hb1
  have x1 := fun o => A1.out.cell o
  have z1' := fun o => C1.out.cell o
  have z1f := fun o => C1.out.frozen o
  clear hb1
  go_wp2_with fail
  refine (toNeedle_any z4 z5 _).mono ?_
  rintro e w2 ⟨rfl, hb2⟩
  have A2 := Lib.hid (Blk.below ((A1.out.far (p := ⟨w.heap.size + 1 + 1, 2, none⟩) (by simp; omega) _).far (p := ⟨w.heap.size + 1 + 1, 3, none⟩) (by simp; omega) _) hb2 (by first | (simp; done) | (simp; omega) | omega))
  have B2 := Lib.hid (Blk.below ((B1.out.far (p := ⟨w.heap.size + 1 + 1, 2, none⟩) (by simp) _).far (p := ⟨w.heap.size + 1 + 1, 3, none⟩) (by simp) _) hb2 (by first | (simp; done) | (simp; omega) | omega))
  have C2 := Lib.hid (Blk.below ((C1.out.set_ 2 _).set_ 3 _) hb2 (by first | (simp; done) | (simp; omega) | omega))
  have HB2 := Lib.hid hb2
  have x2 := fun o => A2.out.cell o
  have y2f := fun o => B2.out.frozen o
  have z2' := fun o => C2.out.cell o
  have z2f := fun o => C2.out.frozen o
  have y2 := fun o => B2.out.cell o
  clear hb2 x1 z1' z1f
  go_wp2
  refine bodyPost_ret (v := .agg #[.int .i64 z0, .int .i64 z1, .int .i64 z2, .int .i64 z3, .int .i64 z4, .int .i64 z5, .int .i64 z6, .int .i64 z7]) (by simp [results, Try.results38, go_sem, y2]) rfl ⟨rfl, ?_⟩
  have hb1 := HB1.out
  have hb2 := HB2.out
  (repeat' first | with_reducible exact Below.refl _ _ | with_reducible refine Below.alloc ?_ ?_ _ | with_reducible refine Below.setCell ?_ ?_ _ | with_reducible refine Below.drew ?_ | with_reducible refine Below.drewN' ?_ _ | with_reducible (refine Below.trans ?_ (Below.mono (by assumption) ?_)) | exact Nat.le_refl _ | (simp; done) | (simp; omega) | omega)
theorem infoOpC : (Try.prog.info? 58).map (fun i => (i.zero, i.size, i.bytes)) = some (some (.agg #[.int .i64 0, .int .i64 0, .int .i64 0, .int .i64 0, .int .i64 0, .int .i64 0, .int .i64 0, .int .i64 0]), 8, 64) := by kernel_rfl
/-- A new slice that has room for its elements. -/
def NewPn (w : World) (n N : Nat) (f : Nat → Value) (e : Ending) (w' : World) : Prop := ∃ A c, e = .returned (.slice A n c) ∧ n ≤ c ∧ New w w' A N f
set_option maxHeartbeats 2000000 in
theorem toOpSn_any (A : Option Addr) (n c : Nat) (z : Nat → Int) (w : World) (ha : Rd w A (n * 8) (fun j => .int .i64 (z j))) (hn : n ≤ 1048576) :
    Calls Try.prog 12 #[.slice A n c] w (NewPn w n (n * 8) (fun j => .int .i64 (z j))) := by
  have HA := Lib.hid ha
  clear ha
  obtain ⟨i0, hi, hz0, hz1, hz2⟩ := info_parts infoOpC
  go_enter Try.func12, Try.ntmps12
  go_wp2_with (at_make; refine wpList_make_full _ rfl _ _ 26 rfl w.heap.size 58 i0 (.agg #[.int .i64 0, .int .i64 0, .int .i64 0, .int .i64 0, .int .i64 0, .int .i64 0, .int .i64 0, .int .i64 0]) 8 Try.underlying26 hi hz0 hz1 .i64 .i64 n n n rfl rfl rfl rfl (by rw [hz2]; omega) (by unfold maxLen; omega) (Nat.le_refl _) ?_; intro w1 hown hg1)
  have hb1 := (Below.refl w.heap.size w).grown hg1 (Nat.le_refl _) (fun k e => by cases e)
  have hw1 := RowW.of_own hown
  have hg1 : w.heap.size < w1.heap.size := (hown.lt _ rfl).2
  have HB := Lib.hid hb1
  have HW := Lib.hid hw1
  clear hb1 hw1 hown
  go_loopw [4] (fun i wr => ∃ k : Nat, k ≤ n ∧ i = .int .i64 k ∧ Below w.heap.size w wr ∧ w.heap.size < wr.heap.size ∧ RowW wr w.heap.size 0 (n * 8) ∧ RowR wr w.heap.size 0 (k * 8) (fun j => .int .i64 (z j))) (fun i _ => n - (intOf i).toNat)
  case atStart => exact ⟨0, Nat.zero_le _, rfl, HB.out, hg1, HW.out, fun j hj => absurd hj (by omega)⟩
  case round =>
    obtain ⟨k, hk, rfl, hb, hgr, hw, hr⟩ := hrel
    have HB := Lib.hid hb
    have HW := Lib.hid hw
    have HR := Lib.hid hr
    clear hb hw hr
    by_cases hlt : k < n
    · obtain ⟨g, o, rfl, hg, hra⟩ := HA.out (by omega)
      have hc0 := ((bcell HB.out).1 _ _ hg).trans (hra (k * 8 + 0) (by omega))
      obtain ⟨x0, hx0⟩ : ∃ x, x = z (k * 8) := ⟨_, rfl⟩
      simp only [← hx0, Nat.add_zero] at hc0
      have HX0 := Lib.hid hx0
      clear hx0
      have hc1 := ((bcell HB.out).1 _ _ hg).trans (hra (k * 8 + 1) (by omega))
      obtain ⟨x1, hx1⟩ : ∃ x, x = z (k * 8 + 1) := ⟨_, rfl⟩
      simp only [← hx1, ← Nat.add_assoc] at hc1
      have HX1 := Lib.hid hx1
      clear hx1
      have hc2 := ((bcell HB.out).1 _ _ hg).trans (hra (k * 8 + 2) (by omega))
      obtain ⟨x2, hx2⟩ : ∃ x, x = z (k * 8 + 2) := ⟨_, rfl⟩
      simp only [← hx2, ← Nat.add_assoc] at hc2
      have HX2 := Lib.hid hx2
      clear hx2
      have hc3 := ((bcell HB.out).1 _ _ hg).trans (hra (k * 8 + 3) (by omega))
      obtain ⟨x3, hx3⟩ : ∃ x, x = z (k * 8 + 3) := ⟨_, rfl⟩
      simp only [← hx3, ← Nat.add_assoc] at hc3
      have HX3 := Lib.hid hx3
      clear hx3
      have hc4 := ((bcell HB.out).1 _ _ hg).trans (hra (k * 8 + 4) (by omega))
      obtain ⟨x4, hx4⟩ : ∃ x, x = z (k * 8 + 4) := ⟨_, rfl⟩
      simp only [← hx4, ← Nat.add_assoc] at hc4
      have HX4 := Lib.hid hx4
      clear hx4
      have hc5 := ((bcell HB.out).1 _ _ hg).trans (hra (k * 8 + 5) (by omega))
      obtain ⟨x5, hx5⟩ : ∃ x, x = z (k * 8 + 5) := ⟨_, rfl⟩
      simp only [← hx5, ← Nat.add_assoc] at hc5
      have HX5 := Lib.hid hx5
      clear hx5
      have hc6 := ((bcell HB.out).1 _ _ hg).trans (hra (k * 8 + 6) (by omega))
      obtain ⟨x6, hx6⟩ : ∃ x, x = z (k * 8 + 6) := ⟨_, rfl⟩
      simp only [← hx6, ← Nat.add_assoc] at hc6
      have HX6 := Lib.hid hx6
      clear hx6
      have hc7 := ((bcell HB.out).1 _ _ hg).trans (hra (k * 8 + 7) (by omega))
      obtain ⟨x7, hx7⟩ : ∃ x, x = z (k * 8 + 7) := ⟨_, rfl⟩
      simp only [← hx7, ← Nat.add_assoc] at hc7
      have HX7 := Lib.hid hx7
      clear hx7
      clear hra
      go_wp2_with fail
      refine (toOp_any x0 x1 x2 x3 x4 x5 x6 x7 _).mono ?_
      rintro e w2 ⟨rfl, hb2⟩
      have hw2 := HW.out.below (hb2.mono (Nat.le_refl _))
      have HR2 := Lib.hid (HR.out.below hgr hb2)
      have HB2 := Lib.hid (HB.out.trans (hb2.mono HB.out.size))
      have hgr2 : w.heap.size < w2.heap.size := blt hb2 hgr
      obtain ⟨⟨u0, hu0⟩, hf0⟩ := hw2 (k * 8 + 0) (by omega)
      simp only [Nat.zero_add, Nat.add_zero] at hu0 hf0
      obtain ⟨⟨u1, hu1⟩, hf1⟩ := hw2 (k * 8 + 1) (by omega)
      simp only [Nat.zero_add] at hu1 hf1
      obtain ⟨⟨u2, hu2⟩, hf2⟩ := hw2 (k * 8 + 2) (by omega)
      simp only [Nat.zero_add] at hu2 hf2
      obtain ⟨⟨u3, hu3⟩, hf3⟩ := hw2 (k * 8 + 3) (by omega)
      simp only [Nat.zero_add] at hu3 hf3
      obtain ⟨⟨u4, hu4⟩, hf4⟩ := hw2 (k * 8 + 4) (by omega)
      simp only [Nat.zero_add] at hu4 hf4
      obtain ⟨⟨u5, hu5⟩, hf5⟩ := hw2 (k * 8 + 5) (by omega)
      simp only [Nat.zero_add] at hu5 hf5
      obtain ⟨⟨u6, hu6⟩, hf6⟩ := hw2 (k * 8 + 6) (by omega)
      simp only [Nat.zero_add] at hu6 hf6
      obtain ⟨⟨u7, hu7⟩, hf7⟩ := hw2 (k * 8 + 7) (by omega)
      simp only [Nat.zero_add] at hu7 hf7
      have HW2 := Lib.hid hw2
      clear hw2 hb2 hc0 hc1 hc2 hc3 hc4 hc5 hc6 hc7
      go_wp2
      go_roundw
      case rel =>
        refine ⟨k + 1, by omega, by go_num, by exact ((((((((HB2.out.setCell (Nat.le_refl _) _).setCell (Nat.le_refl _) _).setCell (Nat.le_refl _) _).setCell (Nat.le_refl _) _).setCell (Nat.le_refl _) _).setCell (Nat.le_refl _) _).setCell (Nat.le_refl _) _).setCell (Nat.le_refl _) _), by simp [World.setCell]; exact hgr2, by exact ((((((((HW2.out.set _ _).set _ _).set _ _).set _ _).set _ _).set _ _).set _ _).set _ _), ?_⟩
        have h0 := HR2.out
        have h1 := h0.step (a := k * 8 + 0) (u := .int .i64 x0) (HW2.out) (by omega) (by omega) (by rw [HX0.out])
        have h2 := h1.step (a := k * 8 + 1) (u := .int .i64 x1) ((HW2.out.set _ _)) (by omega) (by omega) (by rw [HX1.out])
        have h3 := h2.step (a := k * 8 + 2) (u := .int .i64 x2) (((HW2.out.set _ _).set _ _)) (by omega) (by omega) (by rw [HX2.out])
        have h4 := h3.step (a := k * 8 + 3) (u := .int .i64 x3) ((((HW2.out.set _ _).set _ _).set _ _)) (by omega) (by omega) (by rw [HX3.out])
        have h5 := h4.step (a := k * 8 + 4) (u := .int .i64 x4) (((((HW2.out.set _ _).set _ _).set _ _).set _ _)) (by omega) (by omega) (by rw [HX4.out])
        have h6 := h5.step (a := k * 8 + 5) (u := .int .i64 x5) ((((((HW2.out.set _ _).set _ _).set _ _).set _ _).set _ _)) (by omega) (by omega) (by rw [HX5.out])
        have h7 := h6.step (a := k * 8 + 6) (u := .int .i64 x6) (((((((HW2.out.set _ _).set _ _).set _ _).set _ _).set _ _).set _ _)) (by omega) (by omega) (by rw [HX6.out])
        have h8 := h7.step (a := k * 8 + 7) (u := .int .i64 x7) ((((((((HW2.out.set _ _).set _ _).set _ _).set _ _).set _ _).set _ _).set _ _)) (by omega) (by omega) (by rw [HX7.out])
        exact RowR.cast (by omega) h8
      case measure => simp [intOf] <;> omega
    · obtain rfl : k = n := by omega
      go_wp2
      go_ret
      exact ⟨_, _, rfl, Nat.le_refl _, New.of_row HB.out (Nat.le_refl _) hgr HW.out HR.out⟩
theorem toOpS_any (A : Option Addr) (n c : Nat) (z : Nat → Int) (w : World) (ha : Rd w A (n * 8) (fun j => .int .i64 (z j))) (hn : n ≤ 1048576) :
    Calls Try.prog 12 #[.slice A n c] w (NewP w n (n * 8) (fun j => .int .i64 (z j))) :=
  (toOpSn_any A n c z w ha hn).mono fun _ _ ⟨A, c, he, _, hp⟩ => ⟨A, c, he, hp⟩
end Go.Proofs.Ytpmfkpehmckgmaa
