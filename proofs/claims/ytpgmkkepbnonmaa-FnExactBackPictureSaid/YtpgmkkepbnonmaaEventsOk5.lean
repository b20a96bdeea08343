/- Walks: whether an event is valid, by the program: a split, and kinds that are none. -/
import Derived.Test.YtpgmkkepbnonmaaEventsOk
namespace Go.Proofs.Ytpgmkkepbnonmaa
open Go.RowKit
set_option maxRecDepth 20000

theorem isStitchedV_any (k p c b y d : Int) (v : Bool) (w : World) (hv : yarnB b y d = v) :
    Calls Try.prog 195 #[.agg #[.int .i64 k, .int .i64 p, .int .i64 c, .int .i64 b, .int .i64 y, .int .i64 d]] w fun e w' => e = .returned (.bool v) ∧ Below w.heap.size w w' :=
  hv ▸ isStitched_any k p c b y d w
set_option maxHeartbeats 4000000 in
theorem valid5_any (p c b y d n : Int) (w : World) (hn : 0 ≤ n ∧ n ≤ 1000000) (hp : 0 ≤ p) :
    Calls Try.prog 150 #[.agg #[.int .i64 5, .int .i64 p, .int .i64 c, .int .i64 b, .int .i64 y, .int .i64 d], .int .i64 n] w fun e w' => e = .returned (.bool (inB c 1 4 && yarnB b y d && (if b = 1 then decide (p ≤ n - c) else inB p c n))) ∧ Below w.heap.size w w' := by
  cases hc : inB c 1 4
  · go_enter Try.func150, Try.ntmps150
    go_wp2_with ((go_at_call 88; refine (within_any _ _ _ _).mono ?_; rintro e w' ⟨rfl, rfl⟩))
    all_goals go_ret
    all_goals exact ⟨congrArg (fun x => Ending.returned (.bool x)) (by simp), by (repeat' first | with_reducible exact Below.refl _ _ | with_reducible refine Below.alloc ?_ ?_ _ | with_reducible refine Below.setCell ?_ ?_ _ | with_reducible refine Below.drew ?_ | with_reducible refine Below.drewN' ?_ _ | with_reducible (refine Below.trans ?_ (Below.mono (by assumption) ?_)) | exact Nat.le_refl _ | (simp; done) | (simp; omega) | omega)⟩
  · have hcb := inB_of hc
    cases hy : yarnB b y d
    · have HY := Lib.hid hy
      go_enter Try.func150, Try.ntmps150
      go_wp2_with (first | (go_at_call 88; refine (within_any _ _ _ _).mono ?_; rintro e w' ⟨rfl, rfl⟩) | (go_at_call 195; refine (isStitchedV_any _ _ _ _ _ _ false _ (by have h := HY.out; first | assumption | (simp_all; done))).mono ?_; rintro e w' ⟨rfl, hb⟩; have hx := fun o => ((bcell hb).1 w.heap.size o (by simp)).trans (cell_alloc_at rfl o); have HB := Lib.hid hb; clear hb))
      all_goals go_ret
      all_goals exact ⟨congrArg (fun x => Ending.returned (.bool x)) (by simp_all), by have hb := HB.out; (repeat' first | with_reducible exact Below.refl _ _ | with_reducible refine Below.alloc ?_ ?_ _ | with_reducible refine Below.setCell ?_ ?_ _ | with_reducible refine Below.drew ?_ | with_reducible refine Below.drewN' ?_ _ | with_reducible (refine Below.trans ?_ (Below.mono (by assumption) ?_)) | exact Nat.le_refl _ | (simp; done) | (simp; omega) | omega)⟩
    · have HY := Lib.hid hy
      by_cases hb1 : b = 1
      · subst hb1
        rw [if_pos rfl]
        go_enter Try.func150, Try.ntmps150
        go_wp2_with (first | (go_at_call 88; refine (within_any _ _ _ _).mono ?_; rintro e w' ⟨rfl, rfl⟩) | (go_at_call 195; refine (isStitchedV_any _ _ _ _ _ _ true _ (by have h := HY.out; first | assumption | (simp_all; done))).mono ?_; rintro e w' ⟨rfl, hb⟩; have hx := fun o => ((bcell hb).1 w.heap.size o (by simp)).trans (cell_alloc_at rfl o); have HB := Lib.hid hb; clear hb))
        all_goals go_ret
        all_goals exact ⟨congrArg (fun x => Ending.returned (.bool x)) (by simp_all), by have hb := HB.out; (repeat' first | with_reducible exact Below.refl _ _ | with_reducible refine Below.alloc ?_ ?_ _ | with_reducible refine Below.setCell ?_ ?_ _ | with_reducible refine Below.drew ?_ | with_reducible refine Below.drewN' ?_ _ | with_reducible (refine Below.trans ?_ (Below.mono (by assumption) ?_)) | exact Nat.le_refl _ | (simp; done) | (simp; omega) | omega)⟩
      · rw [if_neg hb1]
        go_enter Try.func150, Try.ntmps150
        go_wp2_with (first | (go_at_call 88; refine (within_any _ _ _ _).mono ?_; rintro e w' ⟨rfl, rfl⟩) | (go_at_call 195; refine (isStitchedV_any _ _ _ _ _ _ true _ (by have h := HY.out; first | assumption | (simp_all; done))).mono ?_; rintro e w' ⟨rfl, hb⟩; have hx := fun o => ((bcell hb).1 w.heap.size o (by simp)).trans (cell_alloc_at rfl o); have HB := Lib.hid hb; clear hb))
        all_goals go_ret
        all_goals exact ⟨congrArg (fun x => Ending.returned (.bool x)) (by simp_all), by have hb := HB.out; (repeat' first | with_reducible exact Below.refl _ _ | with_reducible refine Below.alloc ?_ ?_ _ | with_reducible refine Below.setCell ?_ ?_ _ | with_reducible refine Below.drew ?_ | with_reducible refine Below.drewN' ?_ _ | with_reducible (refine Below.trans ?_ (Below.mono (by assumption) ?_)) | exact Nat.le_refl _ | (simp; done) | (simp; omega) | omega)⟩
set_option maxHeartbeats 2000000 in
theorem valid0_any (k p c b y d n : Int) (w : World) (hk : ¬ k = 1 ∧ ¬ k = 2 ∧ ¬ k = 3 ∧ ¬ k = 4 ∧ ¬ k = 5) (hp : 0 ≤ p) :
    Calls Try.prog 150 #[.agg #[.int .i64 k, .int .i64 p, .int .i64 c, .int .i64 b, .int .i64 y, .int .i64 d], .int .i64 n] w fun e w' => e = .returned (.bool false) ∧ Below w.heap.size w w' := by
  obtain ⟨h1, h2, h3, h4, h5⟩ := hk
  go_enter Try.func150, Try.ntmps150
  go_wp2
  all_goals go_ret
  all_goals exact ⟨congrArg (fun x => Ending.returned (.bool x)) (by rfl), by (repeat' first | with_reducible exact Below.refl _ _ | with_reducible refine Below.alloc ?_ ?_ _ | with_reducible refine Below.setCell ?_ ?_ _ | with_reducible refine Below.drew ?_ | with_reducible refine Below.drewN' ?_ _ | with_reducible (refine Below.trans ?_ (Below.mono (by assumption) ?_)) | exact Nat.le_refl _ | (simp; done) | (simp; omega) | omega)⟩
end Go.Proofs.Ytpgmkkepbnonmaa
