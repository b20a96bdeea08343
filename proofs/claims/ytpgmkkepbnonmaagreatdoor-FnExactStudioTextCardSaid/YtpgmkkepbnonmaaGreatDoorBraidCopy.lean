/- Contracts of the laws' helpers over braids: measured, copied. -/
import Derived.Test.YtpgmkkepbnonmaaGreatDoorIntCopy
namespace Go.Proofs.YtpgmkkepbnonmaaGreatDoor
open Go.RowKit

set_option maxHeartbeats 400000 in
theorem szBraid_any (s : Int) (A : Option Addr) (n c L : Nat) (w : World) (hn : n ≤ maxLen) (hL : L ≤ 1048576) :
    Calls Tryz.prog 11 #[.agg #[.int .i64 s, .slice A n c], .int .i64 L] w
      fun e w' => ∃ r : Int, (r < 0 ∨ (n ≤ L ∧ r = L - n)) ∧ e = .returned (.int .i64 r) ∧ Below w.heap.size w w' := by
  go_enter Tryz.func11, Tryz.ntmps11
  go_wp2_with fail
  refine (szInt64S_any A n c L _ hn hL).mono ?_
  rintro e w' ⟨s, hs, rfl, rfl⟩
  have HS := Lib.hid hs
  clear hs
  by_cases h0 : s < 0
  · go_wp2
    go_ret
    exact ⟨-1, .inl (by omega), rfl, by (repeat' first | with_reducible exact Below.refl _ _ | with_reducible refine Below.alloc ?_ ?_ _ | with_reducible refine Below.setCell ?_ ?_ _ | with_reducible refine Below.drew ?_ | with_reducible refine Below.drewN' ?_ _ | with_reducible (refine Below.trans ?_ (Below.mono (by assumption) ?_)) | exact Nat.le_refl _ | (simp; done) | (simp; omega) | omega)⟩
  · go_wp2
    go_ret
    exact ⟨s, HS.out, rfl, by (repeat' first | with_reducible exact Below.refl _ _ | with_reducible refine Below.alloc ?_ ?_ _ | with_reducible refine Below.setCell ?_ ?_ _ | with_reducible refine Below.drew ?_ | with_reducible refine Below.drewN' ?_ _ | with_reducible (refine Below.trans ?_ (Below.mono (by assumption) ?_)) | exact Nat.le_refl _ | (simp; done) | (simp; omega) | omega)⟩
/-- A copy of a braid: the same strands, the word in new memory. -/
def BraidP (w : World) (s : Int) (n : Nat) (z : Nat → Int) (e : Ending) (w' : World) : Prop :=
  ∃ A c, e = .returned (.agg #[.int .i64 s, .slice A n c]) ∧ New w w' A n (fun j => .int .i64 (z j))
set_option maxHeartbeats 1000000 in
theorem toBraid_any (s : Int) (A : Option Addr) (n c : Nat) (z : Nat → Int) (w : World) (ha : Rd w A n (fun j => .int .i64 (z j))) (hn : n ≤ 1048576) :
    Calls Tryz.prog 17 #[.agg #[.int .i64 s, .slice A n c]] w (BraidP w s n z) := by
  have HA := Lib.hid ha
  clear ha
  go_enter Tryz.func17, Tryz.ntmps17
  go_wp2_with fail
  refine (toInt64S_any A n c z _ (HA.out.below (by (repeat' first | with_reducible exact Below.refl _ _ | with_reducible refine Below.alloc ?_ ?_ _ | with_reducible refine Below.setCell ?_ ?_ _ | with_reducible refine Below.drew ?_ | with_reducible refine Below.drewN' ?_ _ | with_reducible (refine Below.trans ?_ (Below.mono (by assumption) ?_)) | exact Nat.le_refl _ | (simp; done) | (simp; omega) | omega))) hn).mono ?_
  rintro e w1 ⟨A1, c1, rfl, hnew⟩
  obtain ⟨hc1, hf1⟩ := bcell hnew.bl
  have hz1 : w.heap.size + 1 + 1 < w1.heap.size := blt hnew.bl (by simp)
  have HN := Lib.hid hnew
  clear hnew
  go_wp2
  refine bodyPost_ret (v := .agg #[.int .i64 s, .slice A1 n c1]) (by simp [results, Tryz.results17, go_sem, hc1]) rfl ⟨A1, c1, rfl, ?_⟩
  refine HN.out.after (F := fun b => b = w.heap.size + 1 ∨ b = w.heap.size + 1 + 1) (by (repeat' first | with_reducible exact Below.refl _ _ | with_reducible refine Below.alloc ?_ ?_ _ | with_reducible refine Below.setCell ?_ ?_ _ | with_reducible refine Below.drew ?_ | with_reducible refine Below.drewN' ?_ _ | with_reducible (refine Below.trans ?_ (Below.mono (by assumption) ?_)) | exact Nat.le_refl _ | (simp; done) | (simp; omega) | omega)) (by (repeat' first | with_reducible exact Fr.refl _ _ | with_reducible refine Fr.set ?_ ?_ _ | (simp; done) | omega)) ?_
  intro b hb
  simp
  omega
end Go.Proofs.YtpgmkkepbnonmaaGreatDoor
