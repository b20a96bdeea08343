/- Contracts of the laws' helpers over braids: equal, marked, held. -/
import Derived.Test.YtpgmkkepbnonmaaGreatDoorIntFlat
namespace Go.Proofs.YtpgmkkepbnonmaaGreatDoor
open Go.RowKit

set_option maxHeartbeats 400000 in
theorem eqBraid_any (s : Int) (A A' : Option Addr) (n c c' : Nat) (z : Nat → Int) (w : World) (ha : Rd w A (n * 1) (fun j => .int .i64 (z j))) (hb : Rd w A' (n * 1) (fun j => .int .i64 (z j))) (hn : n ≤ 1000000000) :
    Calls Tryz.prog 23 #[.agg #[.int .i64 s, .slice A n c], .agg #[.int .i64 s, .slice A' n c']] w fun e w' => e = .returned (.bool true) ∧ Below w.heap.size w w' := by
  have HA := Lib.hid ha
  have HB := Lib.hid hb
  clear ha hb
  go_enter Tryz.func23, Tryz.ntmps23
  go_wp2_with fail
  have hbl : Below w.heap.size w ((w.alloc (.cells #[.int .i64 s, .slice A n c] 33)).alloc (.cells #[.int .i64 s, .slice A' n c'] 33)) := by (repeat' first | with_reducible exact Below.refl _ _ | with_reducible refine Below.alloc ?_ ?_ _ | with_reducible refine Below.setCell ?_ ?_ _ | with_reducible refine Below.drew ?_ | with_reducible refine Below.drewN' ?_ _ | with_reducible (refine Below.trans ?_ (Below.mono (by assumption) ?_)) | exact Nat.le_refl _ | (simp; done) | (simp; omega) | omega)
  refine (eqInt64S_any A A' n c c' z _ (HA.out.below hbl) (HB.out.below hbl) hn).mono ?_
  rintro e w1 ⟨rfl, hb1⟩
  have HBL := Lib.hid (hbl.trans (hb1.mono hbl.size))
  clear hb1 hbl
  go_wp2
  go_ret
  exact ⟨rfl, HBL.out⟩

theorem eqBraid1_any (s : Int) (A A' : Option Addr) (n c c' : Nat) (z : Nat → Int) (w : World) (ha : Rd w A n (fun j => .int .i64 (z j))) (hb : Rd w A' n (fun j => .int .i64 (z j))) (hn : n ≤ 1000000000) :
    Calls Tryz.prog 23 #[.agg #[.int .i64 s, .slice A n c], .agg #[.int .i64 s, .slice A' n c']] w fun e w' => e = .returned (.bool true) ∧ Below w.heap.size w w' :=
  eqBraid_any s A A' n c c' z w (by simpa only [Nat.mul_one] using ha) (by simpa only [Nat.mul_one] using hb) hn
end Go.Proofs.YtpgmkkepbnonmaaGreatDoor
