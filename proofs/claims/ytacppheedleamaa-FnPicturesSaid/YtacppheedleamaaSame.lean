/- Walks: equality of lists of numbers and of operations, by the reference and by the program. No condition but the bounds. (Printed by wip/samegen.py.) -/
import Derived.Test.YtacppheedleamaaObj2
import Derived.Deep.QuietTactic
import Derived.BigQuiet
namespace Go.Proofs.Ytacppheedleamaa
open Go.RowKit
set_option maxRecDepth 20000

/-- Whether the first k are equal. -/
def eqP (z z' : Nat → Int) : Nat → Bool
  | 0 => true
  | k + 1 => eqP z z' k && decide (z k = z' k)
def eqL (n : Nat) (z : Nat → Int) (n' : Nat) (z' : Nat → Int) : Bool := decide (n = n') && eqP z z' n
theorem eqP_no {z z' : Nat → Int} : ∀ {n j : Nat}, j < n → z j ≠ z' j → eqP z z' n = false
  | 0, j, hj, _ => absurd hj (by omega)
  | n + 1, j, hj, h => by
    simp only [eqP]
    by_cases hjn : j = n
    · subst hjn; simp [h]
    · rw [eqP_no (show j < n by omega) h]; rfl
theorem eqL_no {n j : Nat} {z z' : Nat → Int} (hj : j < n) (h : z j ≠ z' j) : eqL n z n z' = false := by
  unfold eqL; rw [eqP_no hj h]; simp
/-- The same of elements of eight numbers. -/
def eqP8 (z z' : Nat → Int) : Nat → Bool
  | 0 => true
  | k + 1 => eqP8 z z' k && (decide (z (k * 8 + 0) = z' (k * 8 + 0)) && decide (z (k * 8 + 1) = z' (k * 8 + 1)) && decide (z (k * 8 + 2) = z' (k * 8 + 2)) && decide (z (k * 8 + 3) = z' (k * 8 + 3)) && decide (z (k * 8 + 4) = z' (k * 8 + 4)) && decide (z (k * 8 + 5) = z' (k * 8 + 5)) && decide (z (k * 8 + 6) = z' (k * 8 + 6)) && decide (z (k * 8 + 7) = z' (k * 8 + 7)))
def eqL8 (n : Nat) (z : Nat → Int) (n' : Nat) (z' : Nat → Int) : Bool := decide (n = n') && eqP8 z z' n
theorem eqP8_no {z z' : Nat → Int} : ∀ {n j : Nat}, j < n → (∃ i, i < 8 ∧ z (j * 8 + i) ≠ z' (j * 8 + i)) → eqP8 z z' n = false
  | 0, j, hj, _ => absurd hj (by omega)
  | n + 1, j, hj, h => by
    simp only [eqP8]
    by_cases hjn : j = n
    · subst hjn
      obtain ⟨i, hi, h⟩ := h
      have hc : i = 0 ∨ i = 1 ∨ i = 2 ∨ i = 3 ∨ i = 4 ∨ i = 5 ∨ i = 6 ∨ i = 7 := by omega
      rcases hc with rfl | rfl | rfl | rfl | rfl | rfl | rfl | rfl <;> simp at h <;> simp [h]
    · rw [eqP8_no (show j < n by omega) h]; rfl
theorem eqL8_no {n j : Nat} {z z' : Nat → Int} (hj : j < n) (h : ∃ i, i < 8 ∧ z (j * 8 + i) ≠ z' (j * 8 + i)) : eqL8 n z n z' = false := by
  unfold eqL8; rw [eqP8_no hj h]; simp

set_option maxHeartbeats 400000 in
theorem eqIS_any (A A' : Option Addr) (n n' c c' : Nat) (z z' : Nat → Int) (w : World) (ha : Rd w A n (fun j => .int .i64 (z j))) (hb : Rd w A' n' (fun j => .int .i64 (z' j))) (hn : n ≤ 1048576) (hn' : n' ≤ 1048576) :
    Calls Try.prog 48 #[.slice A n c, .slice A' n' c'] w fun e w' => e = .returned (.bool (eqL n z n' z')) ∧ ∃ q, w' = w.drewN q := by
  by_cases hne : n = n'
  · subst hne
    have HA := Lib.hid ha
    have HB := Lib.hid hb
    clear ha hb
    go_enter Try.func48, Try.ntmps48
    go_wp2_with fail
    go_loopw [5] (fun i wr => ∃ j q : Nat, j ≤ n ∧ i = .int .i64 j ∧ wr = w.drewN q ∧ Hid (eqP z z' j = true)) (fun i _ => n - (intOf i).toNat)
    case atStart => exact ⟨0, 0, Nat.zero_le _, rfl, rfl, rfl⟩
    case round =>
      obtain ⟨j, q, hj, rfl, rfl, HJ⟩ := hrel
      by_cases hlt : j < n
      · obtain ⟨ga, oa, rfl, _, hra⟩ := HA.out (by omega)
        obtain ⟨gb, ob, rfl, _, hrb⟩ := HB.out (by omega)
        have hca := hra j hlt
        have hcb := hrb j hlt
        obtain ⟨x, hx⟩ : ∃ x, x = z j := ⟨_, rfl⟩
        obtain ⟨y, hy⟩ : ∃ y, y = z' j := ⟨_, rfl⟩
        simp only [← hx, ← hy] at hca hcb
        have b1 : (0 : Int) ≤ (j : Int) := by omega
        have b2 : (j : Int) < (n : Int) := by omega
        by_cases he : x = y
        · subst he
          have HN : Hid (eqP z z' (j + 1) = true) := by
            show eqP z z' (j + 1) = true
            simp only [eqP]
            rw [HJ.out, ← hy, ← hx]; simp
          clear hra hrb hx hy
          go_wp2_with fail
          go_quiet (fail)
          go_wp2
          go_roundw
          case rel => exact ⟨j + 1, q + nq, by omega, by go_num, rfl, HN.out⟩
          case measure => simp [intOf] <;> omega
        · have hne : (x == y) = false := by simpa using he
          have HNo : Hid (eqL n z n z' = false) := eqL_no hlt (by rw [← hy, ← hx]; exact he)
          clear hra hrb hx hy he
          go_wp2_with fail
          go_quiet (fail)
          go_wp2
          go_ret
          exact ⟨by rw [HNo.out]; rfl, q + nq, by simp [World.drewN, Nat.add_assoc]⟩
      · obtain rfl : j = n := by omega
        go_wp2
        go_ret
        exact ⟨by unfold eqL; rw [HJ.out]; simp, q, rfl⟩
  · have hne' : ((n : Int) == (n' : Int)) = false := by simp; omega
    have HNo : Hid (eqL n z n' z' = false) := by show _ = _; unfold eqL; simp [hne]
    go_enter Try.func48, Try.ntmps48
    go_wp2
    go_ret
    exact ⟨by rw [HNo.out]; rfl, 0, rfl⟩

end Go.Proofs.Ytacppheedleamaa
