/- Walks: whether an event is valid, by the program. Walks: whether an event is valid, by the program: a split, and kinds that are none. Whether an event is valid, by the program: all kinds. Plain lemmas: the number of strands behind events. -/
import Derived.Test.YtacppheedleamaaEvents
set_option linter.unusedVariables false
set_option linter.unusedSimpArgs false
namespace Go.Proofs.Ytacppheedleamaa
open Go.RowKit
set_option maxRecDepth 20000

theorem yarn_iff (b y d : Int) : yarnB b y d = true ↔ (b = 1 ∨ b = 2) ∧ (1 ≤ y ∧ y ≤ 4) ∧ (d = 1 ∨ d = -1) := by
  simp only [yarnB, inB, dirB, Bool.and_eq_true, decide_eq_true_eq]
  constructor
  · rintro ⟨⟨⟨h1, h2⟩, h3, h4⟩, h5⟩
    exact ⟨by omega, ⟨h3, h4⟩, h5⟩
  · rintro ⟨h1, ⟨h3, h4⟩, h5⟩
    exact ⟨⟨⟨by omega, by omega⟩, h3, h4⟩, h5⟩
def plainB (b y d : Int) : Bool := decide (b = 0) && decide (y = 0) && (d == 0)
end Go.Proofs.Ytacppheedleamaa

set_option linter.unusedVariables false
set_option linter.unusedSimpArgs false
namespace Go.Proofs.Ytacppheedleamaa
open Go.RowKit
set_option maxRecDepth 20000

end Go.Proofs.Ytacppheedleamaa

set_option linter.unusedVariables false
set_option linter.unusedSimpArgs false
namespace Go.Proofs.Ytacppheedleamaa
open Go.RowKit
set_option maxRecDepth 20000

/-- An event of kind k is valid behind n strands. -/
def evV (k p c b y d n : Int) : Bool :=
  if p < 0 then false
  else if k = 1 then decide (p ≤ n - 2) && (decide (c = 1) || decide (c = -1)) && plainB b y d
  else if k = 2 then inB c 0 4 && decide (p ≤ n - c) && yarnB b y d
  else if k = 3 then decide (0 ≤ p) && (decide (c = 0) && decide (p ≤ n) && yarnB b y d)
  else if k = 4 then inB c 1 4 && decide (p ≤ n - c) && plainB b y d
  else if k = 5 then inB c 1 4 && yarnB b y d && (if b = 1 then decide (p ≤ n - c) else inB p c n)
  else false
end Go.Proofs.Ytacppheedleamaa

set_option linter.unusedVariables false
set_option linter.unusedSimpArgs false
namespace Go.Proofs.Ytacppheedleamaa
open Go.RowKit

/-- Behind a valid event the strands are counted again, at most one more. -/
theorem evAfter_bounds {k p c b y d n : Int} (h : evV k p c b y d n = true) : 0 ≤ evAfter k c n ∧ evAfter k c n ≤ n + 1 ∧ -1000000 ≤ c ∧ c ≤ 1000000 ∧ 0 ≤ n := by
  unfold evV at h
  by_cases hp : p < 0
  · rw [if_pos hp] at h; cases h
  · rw [if_neg hp] at h
    unfold evAfter
    by_cases h1 : k = 1
    · subst h1
      simp at h
      simp
      omega
    · rw [if_neg h1] at h
      by_cases h2 : k = 2
      · subst h2
        simp [inB] at h
        simp
        omega
      · rw [if_neg h2] at h
        by_cases h3 : k = 3
        · subst h3
          simp at h
          simp
          omega
        · rw [if_neg h3] at h
          by_cases h4 : k = 4
          · subst h4
            simp [inB] at h
            simp
            omega
          · rw [if_neg h4] at h
            by_cases h5 : k = 5
            · subst h5
              simp [inB] at h
              simp
              obtain ⟨⟨h6, _⟩, h7⟩ := h
              by_cases hb : b = 1
              · rw [if_pos hb] at h7
                omega
              · rw [if_neg hb] at h7
                omega
            · rw [if_neg h5] at h; cases h
/-- The strands behind the first events; none where one is not valid or there are too many. -/
def cnt (z : Nat → Int) (n : Int) : Nat → Option Int
  | 0 => some n
  | k + 1 => match cnt z n k with
    | none => none
    | some m => if evV (z (k * 6)) (z (k * 6 + 1)) (z (k * 6 + 2)) (z (k * 6 + 3)) (z (k * 6 + 4)) (z (k * 6 + 5)) m = true ∧ evAfter (z (k * 6)) (z (k * 6 + 2)) m ≤ 12 then some (evAfter (z (k * 6)) (z (k * 6 + 2)) m) else none
theorem cnt_none (z : Nat → Int) (n : Int) {j k : Nat} (h : j ≤ k) (hj : cnt z n j = none) : cnt z n k = none := by
  induction k with
  | zero =>
    obtain rfl : j = 0 := by omega
    exact hj
  | succ k ih =>
    rcases Nat.lt_or_ge k j with hlt | hge
    · obtain rfl : j = k + 1 := by omega
      exact hj
    · simp only [cnt, ih hge]
end Go.Proofs.Ytacppheedleamaa
