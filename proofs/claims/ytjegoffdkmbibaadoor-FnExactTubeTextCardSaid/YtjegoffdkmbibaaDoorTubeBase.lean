/- Walks: whether a tube is valid, by the program and by the reference; the law's copy of a tube. No condition. -/
import Derived.Test.YtjegoffdkmbibaaDoorBounds
namespace Go.Proofs.YtjegoffdkmbibaaDoor
open Go.RowKit

def tubeB (n r c : Int) : Bool := inB n 1 6 && inB r 0 8 && inB c 1 4

theorem validTube_any (n r c : Int) (b t : Bool) (w : World) :
    Calls Tryd.prog 20 #[.agg #[.int .i64 n, .int .i64 r, .int .i64 c, .bool b, .bool t]] w fun e w' => e = .returned (.bool (tubeB n r c)) ∧ Below w.heap.size w w' := by
  go_enter Tryd.func20, Tryd.ntmps20
  go_wp2_with (first | (go_at_call 31; refine (within_any _ _ _ _).mono ?_; rintro e w' ⟨rfl, rfl⟩) | (go_at_call 32; refine (isCarrier_any _ _).mono ?_; rintro e w' ⟨rfl, rfl⟩))
  all_goals go_ret
  all_goals exact ⟨by simp [tubeB, *], (Below.refl _ _).alloc (Nat.le_refl _) _⟩

theorem l28Ok_any (g : Nat) (n r c : Int) (w : World) (h0 : w.cell? ⟨g, 0, none⟩ = some (.int .i64 n)) (h1 : w.cell? ⟨g, 1, none⟩ = some (.int .i64 r)) (h2 : w.cell? ⟨g, 2, none⟩ = some (.int .i64 c)) :
    Calls Tryd.prog 17 #[.pointer (some ⟨g, 0, none⟩)] w fun e w' => e = .returned (.bool (tubeB n r c)) ∧ w = w' := by
  go_enter Tryd.func17, Tryd.ntmps17
  go_wp2_with (first | (go_at_call 22; refine (l00In_any _ _ _ _).mono ?_; rintro e w' ⟨rfl, rfl⟩) | (go_at_call 30; refine (l07Yarn_any _ _).mono ?_; rintro e w' ⟨rfl, rfl⟩))
  all_goals go_ret
  all_goals exact ⟨by simp [tubeB, *], rfl⟩

theorem toTube_any (n r c : Int) (b t : Bool) (w : World) :
    Calls Tryd.prog 7 #[.agg #[.int .i64 n, .int .i64 r, .int .i64 c, .bool b, .bool t]] w fun e w' => e = .returned (.agg #[.int .i64 n, .int .i64 r, .int .i64 c, .bool b, .bool t]) ∧ Below w.heap.size w w' := by
  go_enter Tryd.func7, Tryd.ntmps7
  go_wp2
  refine bodyPost_ret (v := .agg #[.int .i64 n, .int .i64 r, .int .i64 c, .bool b, .bool t]) (by simp [results, Tryd.results7, go_sem]) rfl ⟨rfl, ?_⟩
  (repeat' first | with_reducible exact Below.refl _ _ | with_reducible refine Below.alloc ?_ ?_ _ | with_reducible refine Below.setCell ?_ ?_ _ | with_reducible refine Below.drew ?_ | with_reducible refine Below.drewN' ?_ _ | with_reducible (refine Below.trans ?_ (Below.mono (by assumption) ?_)) | exact Nat.le_refl _ | (simp; done) | (simp; omega) | omega)

end Go.Proofs.YtjegoffdkmbibaaDoor
