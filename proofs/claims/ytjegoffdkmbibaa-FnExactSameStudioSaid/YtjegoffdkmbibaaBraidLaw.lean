/- Contracts of the laws' helpers over braids: equal, marked, held. -/
import Derived.Test.YtjegoffdkmbibaaIntFlat
namespace Go.Proofs.Ytjegoffdkmbibaa
open Go.RowKit

set_option maxHeartbeats 400000 in
theorem eqBraid_any (s : Int) (A A' : Option Addr) (n c c' : Nat) (z : Nat → Int) (w : World) (ha : Rd w A (n * 1) (fun j => .int .i64 (z j))) (hb : Rd w A' (n * 1) (fun j => .int .i64 (z j))) (hn : n ≤ 1000000000) :
    Calls Try.prog 39 #[.agg #[.int .i64 s, .slice A n c], .agg #[.int .i64 s, .slice A' n c']] w fun e w' => e = .returned (.bool true) ∧ Below w.heap.size w w' := by
  have HA := Lib.hid ha
  have HB := Lib.hid hb
  clear ha hb
  go_enter Try.func39, Try.ntmps39
  go_wp2_with fail
  have hbl : Below w.heap.size w ((w.alloc (.cells #[.int .i64 s, .slice A n c] 39)).alloc (.cells #[.int .i64 s, .slice A' n c'] 39)) := by (repeat' first | with_reducible exact Below.refl _ _ | with_reducible refine Below.alloc ?_ ?_ _ | with_reducible refine Below.setCell ?_ ?_ _ | with_reducible refine Below.drew ?_ | with_reducible refine Below.drewN' ?_ _ | with_reducible (refine Below.trans ?_ (Below.mono (by assumption) ?_)) | exact Nat.le_refl _ | (simp; done) | (simp; omega) | omega)
  refine (eqInt64S_any A A' n c c' z _ (HA.out.below hbl) (HB.out.below hbl) hn).mono ?_
  rintro e w1 ⟨rfl, hb1⟩
  have HBL := Lib.hid (hbl.trans (hb1.mono hbl.size))
  clear hb1 hbl
  go_wp2
  go_ret
  exact ⟨rfl, HBL.out⟩

set_option maxHeartbeats 400000 in
theorem markBraid_any (s : Int) (A : Option Addr) (n c : Nat) (k : Int) (w : World) (h : Wr w A (n * 1)) (hn : n ≤ 1000000000) (h0 : 0 ≤ k) (hk : k ≤ 2000000000) :
    Calls Try.prog 40 #[.agg #[.int .i64 s, .slice A n c], .int .i64 k] w fun e w' => MarkO w (Fb A (n * 1)) (k + n * 1) (fun w => Rd w A (n * 1) (fun j => .int .i64 (k + j))) e w' := by
  have H := Lib.hid h
  clear h
  go_enter Try.func40, Try.ntmps40
  go_wp2_with fail
  have hbl : Below w.heap.size w (w.alloc (.cells #[.int .i64 s, .slice A n c] 39)) := by (repeat' first | with_reducible exact Below.refl _ _ | with_reducible refine Below.alloc ?_ ?_ _ | with_reducible refine Below.setCell ?_ ?_ _ | with_reducible refine Below.drew ?_ | with_reducible refine Below.drewN' ?_ _ | with_reducible (refine Below.trans ?_ (Below.mono (by assumption) ?_)) | exact Nat.le_refl _ | (simp; done) | (simp; omega) | omega)
  have hw := H.out.below hbl
  refine (markInt64S_any A n c k _ hw hn h0 hk).mono ?_
  intro e w1 hm0
  have hm := hm0.obj hw
  obtain rfl : e = .returned (.int .i64 (k + n * 1)) := hm.ret
  have HM := Lib.hid hm
  have HF := Lib.hid ((Fr.of_below hbl (Fb A (n * 1))).trans hm.fr)
  clear hm hm0 hw hbl
  go_wp2
  go_ret
  exact ⟨by rw [Int.mul_one]; rfl, HF.out, HM.out.m, HM.out.om⟩

set_option maxHeartbeats 400000 in
theorem heldBraid_any (s : Int) (A : Option Addr) (n c : Nat) (k : Int) (w : World) (h : Rd w A (n * 1) (fun j => .int .i64 (k + j))) (hn : n ≤ 1000000000) (h0 : 0 ≤ k) (hk : k ≤ 2000000000) :
    Calls Try.prog 51 #[.agg #[.int .i64 s, .slice A n c], .int .i64 k] w fun e w' => e = .returned (.int .i64 (k + n * 1)) ∧ Below w.heap.size w w' := by
  have H := Lib.hid h
  clear h
  go_enter Try.func51, Try.ntmps51
  go_wp2_with fail
  have hbl : Below w.heap.size w (w.alloc (.cells #[.int .i64 s, .slice A n c] 39)) := by (repeat' first | with_reducible exact Below.refl _ _ | with_reducible refine Below.alloc ?_ ?_ _ | with_reducible refine Below.setCell ?_ ?_ _ | with_reducible refine Below.drew ?_ | with_reducible refine Below.drewN' ?_ _ | with_reducible (refine Below.trans ?_ (Below.mono (by assumption) ?_)) | exact Nat.le_refl _ | (simp; done) | (simp; omega) | omega)
  refine (heldInt64S_any A n c k _ (H.out.below hbl) hn h0 hk).mono ?_
  rintro e w1 ⟨rfl, hb1⟩
  have HBL := Lib.hid (hbl.trans (hb1.mono hbl.size))
  clear hb1 hbl
  go_wp2
  go_ret
  exact ⟨by rw [Int.mul_one]; rfl, HBL.out⟩

theorem eqBraid1_any (s : Int) (A A' : Option Addr) (n c c' : Nat) (z : Nat → Int) (w : World) (ha : Rd w A n (fun j => .int .i64 (z j))) (hb : Rd w A' n (fun j => .int .i64 (z j))) (hn : n ≤ 1000000000) :
    Calls Try.prog 39 #[.agg #[.int .i64 s, .slice A n c], .agg #[.int .i64 s, .slice A' n c']] w fun e w' => e = .returned (.bool true) ∧ Below w.heap.size w w' :=
  eqBraid_any s A A' n c c' z w (by simpa only [Nat.mul_one] using ha) (by simpa only [Nat.mul_one] using hb) hn
theorem markBraid1_any (s : Int) (A : Option Addr) (n c : Nat) (k : Int) (w : World) (h : Wr w A n) (hn : n ≤ 1000000000) (h0 : 0 ≤ k) (hk : k ≤ 2000000000) :
    Calls Try.prog 40 #[.agg #[.int .i64 s, .slice A n c], .int .i64 k] w fun e w' => MarkO w (Fb A n) (k + n) (fun w => Rd w A n (fun j => .int .i64 (k + j))) e w' := by
  have := markBraid_any s A n c k w (by simpa only [Nat.mul_one] using h) hn h0 hk
  simpa only [Nat.mul_one, Int.mul_one] using this
theorem heldBraid1_any (s : Int) (A : Option Addr) (n c : Nat) (k : Int) (w : World) (h : Rd w A n (fun j => .int .i64 (k + j))) (hn : n ≤ 1000000000) (h0 : 0 ≤ k) (hk : k ≤ 2000000000) :
    Calls Try.prog 51 #[.agg #[.int .i64 s, .slice A n c], .int .i64 k] w fun e w' => e = .returned (.int .i64 (k + n)) ∧ Below w.heap.size w w' := by
  have := heldBraid_any s A n c k w (by simpa only [Nat.mul_one] using h) hn h0 hk
  simpa only [Nat.mul_one, Int.mul_one] using this
end Go.Proofs.Ytjegoffdkmbibaa
