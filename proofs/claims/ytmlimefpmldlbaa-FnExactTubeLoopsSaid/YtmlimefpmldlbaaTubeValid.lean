/- Walks: the program's ValidTube and the reference's ValidTube each return whether the three numbers lie in their bounds, for every tube; the law over both returns true. No condition. -/
import Derived.Test.YtmlimefpmldlbaaBounds
namespace Go.Proofs.Ytmlimefpmldlbaa
open Go.RowKit

def tubeB (n r c : Int) : Bool := inB n 1 6 && inB r 0 8 && inB c 1 4

theorem validTube_any (n r c : Int) (b t : Bool) (w : World) :
    Calls Try.prog 11 #[.agg #[.int .i64 n, .int .i64 r, .int .i64 c, .bool b, .bool t]] w fun e w' => e = .returned (.bool (tubeB n r c)) ∧ Below w.heap.size w w' := by
  go_enter Try.func11, Try.ntmps11
  go_wp2_with (first | (go_at_call 37; refine (within_any _ _ _ _).mono ?_; rintro e w' ⟨rfl, rfl⟩) | (go_at_call 38; refine (isCarrier_any _ _).mono ?_; rintro e w' ⟨rfl, rfl⟩))
  all_goals go_ret
  all_goals exact ⟨by simp [tubeB, *], (Below.refl _ _).alloc (Nat.le_refl _) _⟩

theorem l28Ok_any (g : Nat) (n r c : Int) (w : World) (h0 : w.cell? ⟨g, 0, none⟩ = some (.int .i64 n)) (h1 : w.cell? ⟨g, 1, none⟩ = some (.int .i64 r)) (h2 : w.cell? ⟨g, 2, none⟩ = some (.int .i64 c)) :
    Calls Try.prog 36 #[.pointer (some ⟨g, 0, none⟩)] w fun e w' => e = .returned (.bool (tubeB n r c)) ∧ w = w' := by
  go_enter Try.func36, Try.ntmps36
  go_wp2_with (first | (go_at_call 43; refine (l00In_any _ _ _ _).mono ?_; rintro e w' ⟨rfl, rfl⟩) | (go_at_call 44; refine (l07Yarn_any _ _).mono ?_; rintro e w' ⟨rfl, rfl⟩))
  all_goals go_ret
  all_goals exact ⟨by simp [tubeB, *], rfl⟩

theorem specValidTube_any (n r c : Int) (b t : Bool) (w : World) :
    Calls Try.prog 9 #[.agg #[.int .i64 n, .int .i64 r, .int .i64 c, .bool b, .bool t]] w fun e w' => e = .returned (.bool (tubeB n r c)) ∧ Below w.heap.size w w' := by
  go_enter Try.func9, Try.ntmps9
  go_wp2_with ((go_at_call 36; refine (l28Ok_any _ n r c _ (by go_simp) (by go_simp) (by go_simp)).mono ?_; rintro e w' ⟨rfl, rfl⟩))
  go_ret
  exact ⟨rfl, (Below.refl _ _).alloc (Nat.le_refl _) _⟩

theorem toTube_any (n r c : Int) (b t : Bool) (w : World) :
    Calls Try.prog 10 #[.agg #[.int .i64 n, .int .i64 r, .int .i64 c, .bool b, .bool t]] w fun e w' => e = .returned (.agg #[.int .i64 n, .int .i64 r, .int .i64 c, .bool b, .bool t]) ∧ Below w.heap.size w w' := by
  go_enter Try.func10, Try.ntmps10
  go_wp2
  refine bodyPost_ret (v := .agg #[.int .i64 n, .int .i64 r, .int .i64 c, .bool b, .bool t]) (by simp [results, Try.results10, go_sem]) rfl ⟨rfl, ?_⟩
  (repeat' first | exact Below.refl _ _ | refine Below.alloc ?_ ?_ _ | refine Below.setCell ?_ ?_ _ | refine Below.drew ?_ | (refine Below.trans ?_ (Below.mono (by assumption) ?_)) | exact Nat.le_refl _ | (simp; done) | (simp; omega) | omega)

theorem lawValidTube_walk (n r c : Int) (b t : Bool) (w : World) :
    Calls Try.prog 3 #[.agg #[.int .i64 n, .int .i64 r, .int .i64 c, .bool b, .bool t]] w fun e w' => e = .returned (.bool true) ∧ Below w.heap.size w w' := by
  go_enter Try.func3, Try.ntmps3
  go_wp2_with fail
  refine (toTube_any n r c b t _).mono ?_
  rintro e w1 ⟨rfl, hb1⟩
  obtain ⟨hc1, hf1⟩ := bcell hb1
  have hz1 : w.heap.size < w1.heap.size := blt hb1 (by simp)
  go_wp2_with fail
  refine (specValidTube_any n r c b t _).mono ?_
  rintro e w2 ⟨rfl, hb2⟩
  obtain ⟨hc2, hf2⟩ := bcell hb2
  have hz2 : w.heap.size < w2.heap.size := blt hb2 hz1
  go_wp2_with fail
  refine (toTube_any n r c b t _).mono ?_
  rintro e w3 ⟨rfl, hb3⟩
  obtain ⟨hc3, hf3⟩ := bcell hb3
  have hz3 : w.heap.size < w3.heap.size := blt hb3 hz2
  go_wp2_with fail
  refine (validTube_any n r c b t _).mono ?_
  rintro e w4 ⟨rfl, hb4⟩
  go_wp2_with fail
  go_ret
  refine ⟨rfl, ?_⟩
  (repeat' first | exact Below.refl _ _ | refine Below.alloc ?_ ?_ _ | refine Below.setCell ?_ ?_ _ | refine Below.drew ?_ | (refine Below.trans ?_ (Below.mono (by assumption) ?_)) | exact Nat.le_refl _ | (simp; done) | (simp; omega) | omega)
end Go.Proofs.Ytmlimefpmldlbaa
