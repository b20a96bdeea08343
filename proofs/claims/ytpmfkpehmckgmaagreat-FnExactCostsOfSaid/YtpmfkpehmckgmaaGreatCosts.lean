/- Contracts of the laws' helpers over costs: szCosts, toCosts, eqCosts. -/
import Derived.Test.YtpmfkpehmckgmaaGreatIntFlat
import Derived.Test.YtpmfkpehmckgmaaGreatIntCopy
namespace Go.Proofs.YtpmfkpehmckgmaaGreat
open Go.RowKit

/-- A copy of costs: the same numbers, the yarn in new memory. -/
def CostsP (w : World) (o p r k t : Int) (n : Nat) (z : Nat → Int) (e : Ending) (w' : World) : Prop :=
  ∃ A c, e = .returned (.agg #[.int .i64 o, .int .i64 p, .int .i64 r, .int .i64 k, .int .i64 t, .slice A n c]) ∧ New w w' A n (fun j => .int .i64 (z j))
set_option maxHeartbeats 1000000 in
theorem eqCosts_any (o p r k t : Int) (A A' : Option Addr) (n c c' : Nat) (z : Nat → Int) (w : World) (ha : Rd w A n (fun j => .int .i64 (z j))) (hb : Rd w A' n (fun j => .int .i64 (z j))) (hn : n ≤ 1000000000) :
    Calls Tryz.prog 8 #[.agg #[.int .i64 o, .int .i64 p, .int .i64 r, .int .i64 k, .int .i64 t, .slice A n c], .agg #[.int .i64 o, .int .i64 p, .int .i64 r, .int .i64 k, .int .i64 t, .slice A' n c']] w
      fun e w' => e = .returned (.bool true) ∧ Below w.heap.size w w' := by
  have HA := Lib.hid ha
  have HB := Lib.hid hb
  clear ha hb
  go_enter Tryz.func8, Tryz.ntmps8
  go_wp2_with fail
  refine (eqInt64S_any A A' n c c' z _ (by simpa using HA.out.below (by (repeat' first | with_reducible exact Below.refl _ _ | with_reducible refine Below.alloc ?_ ?_ _ | with_reducible refine Below.setCell ?_ ?_ _ | with_reducible refine Below.drew ?_ | with_reducible refine Below.drewN' ?_ _ | with_reducible (refine Below.trans ?_ (Below.mono (by assumption) ?_)) | exact Nat.le_refl _ | (simp; done) | (simp; omega) | omega))) (by simpa using HB.out.below (by (repeat' first | with_reducible exact Below.refl _ _ | with_reducible refine Below.alloc ?_ ?_ _ | with_reducible refine Below.setCell ?_ ?_ _ | with_reducible refine Below.drew ?_ | with_reducible refine Below.drewN' ?_ _ | with_reducible (refine Below.trans ?_ (Below.mono (by assumption) ?_)) | exact Nat.le_refl _ | (simp; done) | (simp; omega) | omega))) hn).mono ?_
  rintro e w1 ⟨rfl, hb1⟩
  have HB1 := Lib.hid hb1
  clear hb1
  go_wp2_with fail
  go_ret
  exact ⟨rfl, (show Below w.heap.size w _ by (repeat' first | with_reducible exact Below.refl _ _ | with_reducible refine Below.alloc ?_ ?_ _ | with_reducible refine Below.setCell ?_ ?_ _ | with_reducible refine Below.drew ?_ | with_reducible refine Below.drewN' ?_ _ | with_reducible (refine Below.trans ?_ (Below.mono (by assumption) ?_)) | exact Nat.le_refl _ | (simp; done) | (simp; omega) | omega)).trans (HB1.out.mono (by simp; omega))⟩
end Go.Proofs.YtpmfkpehmckgmaaGreat
