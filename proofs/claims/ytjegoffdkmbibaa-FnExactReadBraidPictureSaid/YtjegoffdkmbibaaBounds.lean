/- Walks: the small tests on bounds, of the program and of the reference. -/
import Derived.Test.YtjegoffdkmbibaaBase
namespace Go.Proofs.Ytjegoffdkmbibaa
open Go.RowKit

theorem l00In_any (n lo hi : Int) (w : World) :
    Calls Try.prog 90 #[.int .i64 n, .int .i64 lo, .int .i64 hi] w fun e w' => e = .returned (.bool (inB n lo hi)) ∧ w = w' := by
  go_enter Try.func90, Try.ntmps90
  go_wp2
  all_goals go_ret
  all_goals exact ⟨by simp [inB]; omega, rfl⟩

theorem within_any (n lo hi : Int) (w : World) :
    Calls Try.prog 94 #[.int .i64 n, .int .i64 lo, .int .i64 hi] w fun e w' => e = .returned (.bool (inB n lo hi)) ∧ w = w' := by
  go_enter Try.func94, Try.ntmps94
  go_wp2
  all_goals go_ret
  all_goals exact ⟨by simp [inB]; omega, rfl⟩

theorem isCarrier_any (n : Int) (w : World) :
    Calls Try.prog 95 #[.int .i64 n] w fun e w' => e = .returned (.bool (inB n 1 4)) ∧ w = w' := by
  go_enter Try.func95, Try.ntmps95
  go_wp2_with ((go_at_call 94; refine (within_any _ _ _ _).mono ?_; rintro e w' ⟨rfl, rfl⟩))
  go_ret
  exact ⟨rfl, rfl⟩

theorem l07Yarn_any (n : Int) (w : World) :
    Calls Try.prog 91 #[.int .i64 n] w fun e w' => e = .returned (.bool (inB n 1 4)) ∧ w = w' := by
  go_enter Try.func91, Try.ntmps91
  go_wp2_with ((go_at_call 90; refine (l00In_any _ _ _ _).mono ?_; rintro e w' ⟨rfl, rfl⟩))
  go_ret
  exact ⟨rfl, rfl⟩

end Go.Proofs.Ytjegoffdkmbibaa
