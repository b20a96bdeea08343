/- Walks: whether a tube is valid, by the program and by the reference; the law's copy of a tube. No condition. -/
import Derived.Test.YtpgmkkepbnonmaaDoorBounds
namespace Go.Proofs.YtpgmkkepbnonmaaDoor
open Go.RowKit

def tubeB (n r c : Int) : Bool := inB n 1 6 && inB r 0 8 && inB c 1 4

theorem validTube_any (n r c : Int) (b t : Bool) (w : World) :
    Calls Tryd.prog 24 #[.agg #[.int .i64 n, .int .i64 r, .int .i64 c, .bool b, .bool t]] w fun e w' => e = .returned (.bool (tubeB n r c)) ∧ Below w.heap.size w w' := by
  go_enter Tryd.func24, Tryd.ntmps24
  go_wp2_with (first | (go_at_call 32; refine (within_any _ _ _ _).mono ?_; rintro e w' ⟨rfl, rfl⟩) | (go_at_call 36; refine (isCarrier_any _ _).mono ?_; rintro e w' ⟨rfl, rfl⟩))
  all_goals go_ret
  all_goals exact ⟨by simp [tubeB, *], (Below.refl _ _).alloc (Nat.le_refl _) _⟩

theorem l28Ok_any (g : Nat) (n r c : Int) (w : World) (h0 : w.cell? ⟨g, 0, none⟩ = some (.int .i64 n)) (h1 : w.cell? ⟨g, 1, none⟩ = some (.int .i64 r)) (h2 : w.cell? ⟨g, 2, none⟩ = some (.int .i64 c)) :
    Calls Tryd.prog 33 #[.pointer (some ⟨g, 0, none⟩)] w fun e w' => e = .returned (.bool (tubeB n r c)) ∧ w = w' := by
  go_enter Tryd.func33, Tryd.ntmps33
  go_wp2_with (first | (go_at_call 28; refine (l00In_any _ _ _ _).mono ?_; rintro e w' ⟨rfl, rfl⟩) | (go_at_call 43; refine (l07Yarn_any _ _).mono ?_; rintro e w' ⟨rfl, rfl⟩))
  all_goals go_ret
  all_goals exact ⟨by simp [tubeB, *], rfl⟩

end Go.Proofs.YtpgmkkepbnonmaaDoor
