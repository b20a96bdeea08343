/- Walks: whether an event is valid, by the reference. No condition but the bounds. -/
import Derived.Test.YtacppheedleamaaEvX
import Derived.Deep.CutRange
set_option linter.unusedVariables false
set_option linter.unusedSimpArgs false
namespace Go.Proofs.Ytacppheedleamaa
open Go.RowKit
set_option maxRecDepth 20000

/-- The event at ⟨g, o⟩. -/
structure EvAt (w : World) (g o : Nat) (k p c b y d : Int) : Prop where
  c0 : w.cell? ⟨g, o, none⟩ = some (.int .i64 k)
  c1 : w.cell? ⟨g, o + 1, none⟩ = some (.int .i64 p)
  c2 : w.cell? ⟨g, o + 2, none⟩ = some (.int .i64 c)
  c3 : w.cell? ⟨g, o + 3, none⟩ = some (.int .i64 b)
  c4 : w.cell? ⟨g, o + 4, none⟩ = some (.int .i64 y)
  c5 : w.cell? ⟨g, o + 5, none⟩ = some (.int .i64 d)
/-- What the reference answers of an event: whether it is valid, and then the strands behind it. -/
def EvAns (ok : Bool) (a : Int) (w : World) (e : Ending) (w' : World) : Prop := ∃ v q, e = .returned (.tuple #[.int .i64 v, .bool ok]) ∧ (ok = true → v = a) ∧ w' = w.drewN q
theorem ret_ib {a a' : Int} {x x' : Bool} (h1 : a = a') (h2 : x = x') : Ending.returned (.tuple #[.int .i64 a, .bool x]) = .returned (.tuple #[.int .i64 a', .bool x']) := by rw [h1, h2]
theorem evAns_of {ok x : Bool} {a v : Int} {w : World} (q : Nat) (h : x = ok) (hv : ok = true → v = a) : EvAns ok a w (.returned (.tuple #[.int .i64 v, .bool x])) (w.drewN q) := ⟨v, q, ret_ib rfl h, hv, rfl⟩
theorem plain_or (b y d : Int) : (if b = 0 then (if y = 0 then d == 0 else false) else false) = plainB b y d := by
  unfold plainB
  by_cases hb : b = 0 <;> by_cases hy : y = 0 <;> simp [hb, hy]

set_option maxHeartbeats 2000000 in
theorem l10Neg_any (k p c b y d n : Int) (g o : Nat) (w : World) (H : Hid (EvAt w g o k p c b y d)) (hp : p < 0 ∨ n < p) :
    Calls Try.prog 59 #[.pointer (some ⟨g, o, none⟩), .int .i64 n] w (EvAns false 0 w) := by
  have h0 := H.out.c0
  have h1 := H.out.c1
  have h3 := H.out.c3
  have h4 := H.out.c4
  have h5 := H.out.c5
  go_enter Try.func59, Try.ntmps59
  go_upto_region 1 with fail
  go_cut [6] from 9 to 27 (fun s6 wx => (∃ x, s6 = .bool x) ∧ wx = w)
  case first =>
    go_wp2_with (first | (go_at_call 92; refine (l01Bed_any _ _).mono ?_; rintro e w' ⟨rfl, rfl⟩) | (go_at_call 93; refine (l07Yarn_any _ _).mono ?_; rintro e w' ⟨rfl, rfl⟩) | (go_at_call 94; refine (l07Dir_any _ _).mono ?_; rintro e w' ⟨rfl, rfl⟩))
    all_goals go_meet
    all_goals exact ⟨⟨_, rfl⟩, rfl⟩
  case rest =>
    obtain ⟨⟨x, rfl⟩, rfl⟩ := hcut
    go_upto_region 2 with fail
    go_cut [7] from 28 to 46 (fun s7 wx => (∃ x, s7 = .bool x) ∧ wx = wc)
    case first =>
      go_wp2
      all_goals go_meet
      all_goals exact ⟨⟨_, rfl⟩, rfl⟩
    case rest =>
      obtain ⟨⟨x', rfl⟩, rfl⟩ := hcut
      rcases hp with hp | hp
      · go_wp2
        go_ret2
        exact evAns_of 0 rfl (fun h => by cases h)
      · by_cases hp0 : p < 0
        · go_wp2
          go_ret2
          exact evAns_of 0 rfl (fun h => by cases h)
        · go_wp2
          go_ret2
          exact evAns_of 0 rfl (fun h => by cases h)
end Go.Proofs.Ytacppheedleamaa
