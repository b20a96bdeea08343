/- Walks: whether events are valid, and how many strands there are, by the reference and by the program. No condition but the bounds. -/
import Derived.Test.YtacppheedleamaaBounds
import Derived.Test.YtacppheedleamaaObj2
import Derived.Deep.QuietTactic
import Derived.BigQuiet
import Derived.Deep.RegionHeld3
import Derived.IntWalk
namespace Go.Proofs.Ytacppheedleamaa
open Go.RowKit
set_option maxRecDepth 20000

/-- A valid event of kind k at place p, of count c, bed b, carrier y, direction d, ahead of which there are n strands. -/
def EvOk (k p c b y d n : Int) : Prop :=
  0 ≤ p ∧ ((k = 1 ∧ p ≤ n - 2 ∧ (c = 1 ∨ c = -1) ∧ b = 0 ∧ y = 0 ∧ d = 0) ∨
    (k = 2 ∧ 0 ≤ c ∧ c ≤ 4 ∧ p ≤ n - c ∧ (b = 1 ∨ b = 2) ∧ 1 ≤ y ∧ y ≤ 4 ∧ (d = 1 ∨ d = -1)) ∨
    (k = 3 ∧ c = 0 ∧ p ≤ n ∧ (b = 1 ∨ b = 2) ∧ 1 ≤ y ∧ y ≤ 4 ∧ (d = 1 ∨ d = -1)) ∨
    (k = 4 ∧ 1 ≤ c ∧ c ≤ 4 ∧ p ≤ n - c ∧ b = 0 ∧ y = 0 ∧ d = 0) ∨
    (k = 5 ∧ 1 ≤ c ∧ c ≤ 4 ∧ 1 ≤ y ∧ y ≤ 4 ∧ (d = 1 ∨ d = -1) ∧ ((b = 1 ∧ p ≤ n - c) ∨ (b = 2 ∧ c ≤ p ∧ p ≤ n))))
instance (k p c b y d n : Int) : Decidable (EvOk k p c b y d n) := by unfold EvOk; infer_instance
def evB (k p c b y d n : Int) : Bool := decide (EvOk k p c b y d n)
def evAfter (k c n : Int) : Int := if k = 2 then n - c + 1 else if k = 3 ∨ k = 5 then n + 1 else if k = 4 then n - c else n
def dirB (d : Int) : Bool := decide (d = 1 ∨ d = -1)
def yarnB (b y d : Int) : Bool := inB b 1 2 && inB y 1 4 && dirB d
theorem inB_of {n lo hi : Int} (h : inB n lo hi = true) : lo ≤ n ∧ n ≤ hi := by simpa [inB] using h
theorem not_inB {n lo hi : Int} (h : inB n lo hi = false) : ¬ (lo ≤ n ∧ n ≤ hi) := by
  intro h2
  have : inB n lo hi = true := by simpa [inB] using h2
  simp [h] at this
theorem bed_or (b : Int) : (b == 1 || b == 2) = inB b 1 2 := by
  rw [Bool.eq_iff_iff]
  simp [inB]
  omega
theorem dir_or (d : Int) : (d == 1 || d == -1) = dirB d := by
  rw [Bool.eq_iff_iff]
  simp [dirB]
theorem l01Bed_any (b : Int) (w : World) : Calls Try.prog 92 #[.int .i64 b] w fun e w' => e = .returned (.bool (inB b 1 2)) ∧ w = w' := by
  go_enter Try.func92, Try.ntmps92
  go_wp2_with ((go_at_call 55; refine (l00In_any _ _ _ _).mono ?_; rintro e w' ⟨rfl, rfl⟩))
  go_ret
  exact ⟨rfl, rfl⟩
theorem l07Dir_any (d : Int) (w : World) : Calls Try.prog 94 #[.int .i64 d] w fun e w' => e = .returned (.bool (dirB d)) ∧ w = w' := by
  go_enter Try.func94, Try.ntmps94
  go_wp2
  all_goals go_ret
  · obtain rfl : d = 1 := by assumption
    exact ⟨rfl, rfl⟩
  · exact ⟨congrArg (fun x => Ending.returned (.bool x)) (dir_or d), rfl⟩
theorem isDir_any (d : Int) (w : World) : Calls Try.prog 60 #[.int .i64 d] w fun e w' => e = .returned (.bool (dirB d)) ∧ w = w' := by
  go_enter Try.func60, Try.ntmps60
  go_wp2
  all_goals go_ret
  · obtain rfl : d = 1 := by assumption
    exact ⟨rfl, rfl⟩
  · exact ⟨congrArg (fun x => Ending.returned (.bool x)) (dir_or d), rfl⟩
end Go.Proofs.Ytacppheedleamaa
