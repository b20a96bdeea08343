/- Contracts of the laws' helpers over costs: szCosts, toCosts, eqCosts. -/
import Derived.Test.YtjegoffdkmbibaaDoorIntFlat
import Derived.Test.YtjegoffdkmbibaaDoorIntCopy
namespace Go.Proofs.YtjegoffdkmbibaaDoor
open Go.RowKit

set_option maxHeartbeats 400000 in
theorem szCosts_any (o p r k t : Int) (A : Option Addr) (n c L : Nat) (w : World) (hn : n ≤ maxLen) (hL : L ≤ 1048576) :
    Calls Tryd.prog 12 #[.agg #[.int .i64 o, .int .i64 p, .int .i64 r, .int .i64 k, .int .i64 t, .slice A n c], .int .i64 L] w
      fun e w' => ∃ r : Int, (r < 0 ∨ (n ≤ L ∧ r = L - n)) ∧ e = .returned (.int .i64 r) ∧ Below w.heap.size w w' := by
  go_enter Tryd.func12, Tryd.ntmps12
  go_wp2_with fail
  refine (szInt64S_any A n c L _ hn hL).mono ?_
  rintro e w' ⟨s, hs, rfl, rfl⟩
  have HS := Lib.hid hs
  clear hs
  by_cases h0 : s < 0
  · go_wp2
    go_ret
    exact ⟨-1, .inl (by omega), rfl, by (repeat' first | with_reducible exact Below.refl _ _ | with_reducible refine Below.alloc ?_ ?_ _ | with_reducible refine Below.setCell ?_ ?_ _ | with_reducible refine Below.drew ?_ | with_reducible refine Below.drewN' ?_ _ | with_reducible (refine Below.trans ?_ (Below.mono (by assumption) ?_)) | exact Nat.le_refl _ | (simp; done) | (simp; omega) | omega)⟩
  · go_wp2
    go_ret
    exact ⟨s, HS.out, rfl, by (repeat' first | with_reducible exact Below.refl _ _ | with_reducible refine Below.alloc ?_ ?_ _ | with_reducible refine Below.setCell ?_ ?_ _ | with_reducible refine Below.drew ?_ | with_reducible refine Below.drewN' ?_ _ | with_reducible (refine Below.trans ?_ (Below.mono (by assumption) ?_)) | exact Nat.le_refl _ | (simp; done) | (simp; omega) | omega)⟩

/-- A copy of costs: the same numbers, the yarn in new memory. -/
def CostsP (w : World) (o p r k t : Int) (n : Nat) (z : Nat → Int) (e : Ending) (w' : World) : Prop :=
  ∃ A c, e = .returned (.agg #[.int .i64 o, .int .i64 p, .int .i64 r, .int .i64 k, .int .i64 t, .slice A n c]) ∧ New w w' A n (fun j => .int .i64 (z j))
set_option maxHeartbeats 1000000 in
theorem toCosts_any (o p r k t : Int) (A : Option Addr) (n c : Nat) (z : Nat → Int) (w : World) (ha : Rd w A n (fun j => .int .i64 (z j))) (hn : n ≤ 1048576) :
    Calls Tryd.prog 14 #[.agg #[.int .i64 o, .int .i64 p, .int .i64 r, .int .i64 k, .int .i64 t, .slice A n c]] w (CostsP w o p r k t n z) := by
  have HA := Lib.hid ha
  clear ha
  go_enter Tryd.func14, Tryd.ntmps14
  go_wp2_with fail
  refine (toInt64S_any A n c z _ (HA.out.below (by (repeat' first | with_reducible exact Below.refl _ _ | with_reducible refine Below.alloc ?_ ?_ _ | with_reducible refine Below.setCell ?_ ?_ _ | with_reducible refine Below.drew ?_ | with_reducible refine Below.drewN' ?_ _ | with_reducible (refine Below.trans ?_ (Below.mono (by assumption) ?_)) | exact Nat.le_refl _ | (simp; done) | (simp; omega) | omega))) hn).mono ?_
  rintro e w1 ⟨A1, c1, rfl, hnew⟩
  obtain ⟨hc1, hf1⟩ := bcell hnew.bl
  have hz1 : w.heap.size + 1 + 1 < w1.heap.size := blt hnew.bl (by simp)
  have HN := Lib.hid hnew
  clear hnew
  go_wp2
  refine bodyPost_ret (v := .agg #[.int .i64 o, .int .i64 p, .int .i64 r, .int .i64 k, .int .i64 t, .slice A1 n c1]) (by simp [results, Tryd.results14, go_sem, hc1]) rfl ⟨A1, c1, rfl, ?_⟩
  refine HN.out.after (F := fun b => b = w.heap.size + 1 ∨ b = w.heap.size + 1 + 1) (by (repeat' first | with_reducible exact Below.refl _ _ | with_reducible refine Below.alloc ?_ ?_ _ | with_reducible refine Below.setCell ?_ ?_ _ | with_reducible refine Below.drew ?_ | with_reducible refine Below.drewN' ?_ _ | with_reducible (refine Below.trans ?_ (Below.mono (by assumption) ?_)) | exact Nat.le_refl _ | (simp; done) | (simp; omega) | omega)) (by (repeat' first | with_reducible exact Fr.refl _ _ | with_reducible refine Fr.set ?_ ?_ _ | (simp; done) | omega)) ?_
  intro b hb
  simp
  omega

set_option maxHeartbeats 1000000 in
theorem eqCosts_any (o p r k t : Int) (A A' : Option Addr) (n c c' : Nat) (z : Nat → Int) (w : World) (ha : Rd w A n (fun j => .int .i64 (z j))) (hb : Rd w A' n (fun j => .int .i64 (z j))) (hn : n ≤ 1000000000) :
    Calls Tryd.prog 16 #[.agg #[.int .i64 o, .int .i64 p, .int .i64 r, .int .i64 k, .int .i64 t, .slice A n c], .agg #[.int .i64 o, .int .i64 p, .int .i64 r, .int .i64 k, .int .i64 t, .slice A' n c']] w
      fun e w' => e = .returned (.bool true) ∧ Below w.heap.size w w' := by
  have HA := Lib.hid ha
  have HB := Lib.hid hb
  clear ha hb
  go_enter Tryd.func16, Tryd.ntmps16
  go_wp2_with fail
  refine (eqInt64S_any A A' n c c' z _ (by simpa using HA.out.below (by (repeat' first | with_reducible exact Below.refl _ _ | with_reducible refine Below.alloc ?_ ?_ _ | with_reducible refine Below.setCell ?_ ?_ _ | with_reducible refine Below.drew ?_ | with_reducible refine Below.drewN' ?_ _ | with_reducible (refine Below.trans ?_ (Below.mono (by assumption) ?_)) | exact Nat.le_refl _ | (simp; done) | (simp; omega) | omega))) (by simpa using HB.out.below (by (repeat' first | with_reducible exact Below.refl _ _ | with_reducible refine Below.alloc ?_ ?_ _ | with_reducible refine Below.setCell ?_ ?_ _ | with_reducible refine Below.drew ?_ | with_reducible refine Below.drewN' ?_ _ | with_reducible (refine Below.trans ?_ (Below.mono (by assumption) ?_)) | exact Nat.le_refl _ | (simp; done) | (simp; omega) | omega))) hn).mono ?_
  rintro e w1 ⟨rfl, hb1⟩
  have HB1 := Lib.hid hb1
  clear hb1
  go_wp2_with fail
  go_ret
  exact ⟨rfl, (show Below w.heap.size w _ by (repeat' first | with_reducible exact Below.refl _ _ | with_reducible refine Below.alloc ?_ ?_ _ | with_reducible refine Below.setCell ?_ ?_ _ | with_reducible refine Below.drew ?_ | with_reducible refine Below.drewN' ?_ _ | with_reducible (refine Below.trans ?_ (Below.mono (by assumption) ?_)) | exact Nat.le_refl _ | (simp; done) | (simp; omega) | omega)).trans (HB1.out.mono (by simp; omega))⟩
end Go.Proofs.YtjegoffdkmbibaaDoor
