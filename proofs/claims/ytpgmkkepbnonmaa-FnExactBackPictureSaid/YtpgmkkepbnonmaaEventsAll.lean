/- Whether an event is valid, by the program: all kinds. -/
import Derived.Test.YtpgmkkepbnonmaaEventsOk5
namespace Go.Proofs.Ytpgmkkepbnonmaa
open Go.RowKit
set_option maxRecDepth 20000

/-- An event of kind k is valid behind n strands. -/
def evV (k p c b y d n : Int) : Bool :=
  if p < 0 then false
  else if k = 1 then decide (p ≤ n - 2) && (decide (c = 1) || decide (c = -1)) && plainB b y d
  else if k = 2 then inB c 0 4 && decide (p ≤ n - c) && yarnB b y d
  else if k = 3 then decide (0 ≤ p) && (decide (c = 0) && decide (p ≤ n) && yarnB b y d)
  else if k = 4 then inB c 1 4 && decide (p ≤ n - c) && plainB b y d
  else if k = 5 then inB c 1 4 && yarnB b y d && (if b = 1 then decide (p ≤ n - c) else inB p c n)
  else false
theorem validNeg_any (k p c b y d n : Int) (w : World) (hp : p < 0) :
    Calls Try.prog 150 #[.agg #[.int .i64 k, .int .i64 p, .int .i64 c, .int .i64 b, .int .i64 y, .int .i64 d], .int .i64 n] w fun e w' => e = .returned (.bool false) ∧ Below w.heap.size w w' := by
  go_enter Try.func150, Try.ntmps150
  go_wp2
  go_ret
  exact ⟨rfl, by (repeat' first | with_reducible exact Below.refl _ _ | with_reducible refine Below.alloc ?_ ?_ _ | with_reducible refine Below.setCell ?_ ?_ _ | with_reducible refine Below.drew ?_ | with_reducible refine Below.drewN' ?_ _ | with_reducible (refine Below.trans ?_ (Below.mono (by assumption) ?_)) | exact Nat.le_refl _ | (simp; done) | (simp; omega) | omega)⟩
theorem valid_any (k p c b y d n : Int) (w : World) (hn : 0 ≤ n ∧ n ≤ 1000000) :
    Calls Try.prog 150 #[.agg #[.int .i64 k, .int .i64 p, .int .i64 c, .int .i64 b, .int .i64 y, .int .i64 d], .int .i64 n] w fun e w' => e = .returned (.bool (evV k p c b y d n)) ∧ Below w.heap.size w w' := by
  unfold evV
  by_cases hp : p < 0
  · rw [if_pos hp]
    exact validNeg_any k p c b y d n w hp
  · rw [if_neg hp]
    have hp0 : 0 ≤ p := by omega
    by_cases h1 : k = 1
    · subst h1
      exact valid1_any p c b y d n w hn hp0
    · rw [if_neg h1]
      by_cases h2 : k = 2
      · subst h2
        exact valid2_any p c b y d n w hn hp0
      · rw [if_neg h2]
        by_cases h3 : k = 3
        · subst h3
          exact valid3_any p c b y d n w
        · rw [if_neg h3]
          by_cases h4 : k = 4
          · subst h4
            exact valid4_any p c b y d n w hn hp0
          · rw [if_neg h4]
            by_cases h5 : k = 5
            · subst h5
              exact valid5_any p c b y d n w hn hp0
            · rw [if_neg h5]
              exact valid0_any k p c b y d n w ⟨h1, h2, h3, h4, h5⟩ hp0
end Go.Proofs.Ytpgmkkepbnonmaa
