/- Walks: whether a braid is valid, by the reference and by the program. No condition but the bounds. -/
import Derived.Test.YtacppheedleamaaBounds
import Derived.Test.YtacppheedleamaaObjs
import Derived.Deep.QuietTactic
import Derived.BigQuiet
import Derived.IntWalk
namespace Go.Proofs.Ytacppheedleamaa
open Go.RowKit
set_option maxRecDepth 20000

def letterB (s x : Int) : Bool := decide (x ≠ 0) && inB x (1 - s) (s - 1)
/-- The first k are letters on s strands. -/
def lettersB (s : Int) (z : Nat → Int) : Nat → Bool
  | 0 => true
  | k + 1 => lettersB s z k && letterB s (z k)
theorem lettersB_all {s : Int} {z : Nat → Int} : ∀ {n : Nat}, lettersB s z n = true → ∀ j, j < n → z j ≠ 0 ∧ 1 - s ≤ z j ∧ z j ≤ s - 1
  | 0, _, j, hj => absurd hj (by omega)
  | n + 1, h, j, hj => by
    simp only [lettersB, Bool.and_eq_true] at h
    rcases Nat.lt_or_ge j n with hlt | hge
    · exact lettersB_all h.1 j hlt
    · obtain rfl : j = n := by omega
      have h2 := h.2
      simp only [letterB, Bool.and_eq_true] at h2
      have := inB_true h2.2
      simp at h2
      exact ⟨h2.1, this.1, this.2⟩
theorem lettersB_false {s : Int} {z : Nat → Int} : ∀ {n k : Nat}, k < n → letterB s (z k) = false → lettersB s z n = false
  | 0, k, hk, _ => absurd hk (by omega)
  | n + 1, k, hk, h => by
    rcases Nat.lt_or_ge k n with hlt | hge
    · simp [lettersB, lettersB_false hlt h]
    · obtain rfl : k = n := by omega
      simp [lettersB, h]
def braidB (s : Int) (n : Nat) (z : Nat → Int) : Bool := inB s 0 12 && decide (n ≤ 40) && lettersB s z n

set_option maxHeartbeats 400000 in
theorem l03Letters_any (A : Option Addr) (n c : Nat) (s : Int) (z : Nat → Int) (w : World) (ha : Rd w A n (fun j => .int .i64 (z j))) (hn : n ≤ 1048576) (hs0 : 0 ≤ s) (hs : s ≤ 1000000) :
    Calls Try.prog 79 #[.slice A n c, .int .i64 s] w fun e w' => e = .returned (.bool (lettersB s z n)) ∧ w = w' := by
  have HA := Lib.hid ha
  clear ha
  go_enter Try.func79, Try.ntmps79
  go_wp2_with fail
  go_loop [5] (fun i => ∃ k : Nat, k ≤ n ∧ i = .int .i64 k ∧ Hid (lettersB s z k = true)) (fun i => n - (intOf i).toNat)
  case atStart => exact ⟨0, Nat.zero_le _, rfl, rfl⟩
  case round =>
    obtain ⟨k, hk, rfl, HK⟩ := hrel
    by_cases hlt : k < n
    · obtain ⟨g, o, rfl, hg, hr⟩ := HA.out (by omega)
      have hc := hr k hlt
      clear hr
      obtain ⟨x, hx⟩ : ∃ x, x = z k := ⟨_, rfl⟩
      simp only [← hx] at hc
      have hq : ∀ b, letterB s x = b → letterB s (z k) = b := fun b h => by rw [← hx]; exact h
      have HQ := Lib.hid hq
      clear hq hx
      by_cases h0 : x = 0
      · subst h0
        go_wp2_with ((go_at_call 55; refine (l00In_any _ _ _ _).mono ?_; rintro e w' ⟨rfl, rfl⟩))
        go_ret
        exact ⟨by rw [lettersB_false hlt (HQ.out false (by simp [letterB]))]; rfl, rfl⟩
      · have h0' : (x == 0) = false := by simpa using h0
        cases hin : inB x (1 - s) (s - 1)
        · have HIN := Lib.hid hin
          clear hin
          go_wp2_with ((go_at_call 55; refine (l00In_any _ _ _ _).mono ?_; rintro e w' ⟨rfl, rfl⟩; rw [HIN.out]))
          go_ret
          exact ⟨by rw [lettersB_false hlt (HQ.out false (by simp [letterB, HIN.out]))]; rfl, rfl⟩
        · have HIN := Lib.hid hin
          clear hin
          go_wp2_with ((go_at_call 55; refine (l00In_any _ _ _ _).mono ?_; rintro e w' ⟨rfl, rfl⟩; rw [HIN.out]))
          go_round
          case rel => exact ⟨k + 1, by omega, by go_num, by unfold Hid; simp only [lettersB]; rw [HK.out, HQ.out true (by simp [letterB, HIN.out, h0])]; rfl⟩
          case measure => simp [intOf] <;> omega
    · obtain rfl : n = k := by omega
      go_wp2
      go_ret
      exact ⟨by rw [HK.out]; rfl, rfl⟩
end Go.Proofs.Ytacppheedleamaa
