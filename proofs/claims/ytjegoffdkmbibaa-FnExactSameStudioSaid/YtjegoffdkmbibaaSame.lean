/- Walks: equality of lists of numbers and of operations, by the reference and by the program. No condition but the bounds. (Printed by wip/samegen.py.) -/
import Derived.Test.YtjegoffdkmbibaaObj2
import Derived.Deep.QuietTactic
import Derived.BigQuiet
namespace Go.Proofs.Ytjegoffdkmbibaa
open Go.RowKit
set_option maxRecDepth 20000

/-- Whether the first k are equal. -/
def eqP (z z' : Nat → Int) : Nat → Bool
  | 0 => true
  | k + 1 => eqP z z' k && decide (z k = z' k)
def eqL (n : Nat) (z : Nat → Int) (n' : Nat) (z' : Nat → Int) : Bool := decide (n = n') && eqP z z' n
theorem eqP_no {z z' : Nat → Int} : ∀ {n j : Nat}, j < n → z j ≠ z' j → eqP z z' n = false
  | 0, j, hj, _ => absurd hj (by omega)
  | n + 1, j, hj, h => by
    simp only [eqP]
    by_cases hjn : j = n
    · subst hjn; simp [h]
    · rw [eqP_no (show j < n by omega) h]; rfl
theorem eqL_no {n j : Nat} {z z' : Nat → Int} (hj : j < n) (h : z j ≠ z' j) : eqL n z n z' = false := by
  unfold eqL; rw [eqP_no hj h]; simp
/-- The same of elements of eight numbers. -/
def eqP8 (z z' : Nat → Int) : Nat → Bool
  | 0 => true
  | k + 1 => eqP8 z z' k && (decide (z (k * 8 + 0) = z' (k * 8 + 0)) && decide (z (k * 8 + 1) = z' (k * 8 + 1)) && decide (z (k * 8 + 2) = z' (k * 8 + 2)) && decide (z (k * 8 + 3) = z' (k * 8 + 3)) && decide (z (k * 8 + 4) = z' (k * 8 + 4)) && decide (z (k * 8 + 5) = z' (k * 8 + 5)) && decide (z (k * 8 + 6) = z' (k * 8 + 6)) && decide (z (k * 8 + 7) = z' (k * 8 + 7)))
def eqL8 (n : Nat) (z : Nat → Int) (n' : Nat) (z' : Nat → Int) : Bool := decide (n = n') && eqP8 z z' n
theorem eqP8_no {z z' : Nat → Int} : ∀ {n j : Nat}, j < n → (∃ i, i < 8 ∧ z (j * 8 + i) ≠ z' (j * 8 + i)) → eqP8 z z' n = false
  | 0, j, hj, _ => absurd hj (by omega)
  | n + 1, j, hj, h => by
    simp only [eqP8]
    by_cases hjn : j = n
    · subst hjn
      obtain ⟨i, hi, h⟩ := h
      have hc : i = 0 ∨ i = 1 ∨ i = 2 ∨ i = 3 ∨ i = 4 ∨ i = 5 ∨ i = 6 ∨ i = 7 := by omega
      rcases hc with rfl | rfl | rfl | rfl | rfl | rfl | rfl | rfl <;> simp at h <;> simp [h]
    · rw [eqP8_no (show j < n by omega) h]; rfl
theorem eqL8_no {n j : Nat} {z z' : Nat → Int} (hj : j < n) (h : ∃ i, i < 8 ∧ z (j * 8 + i) ≠ z' (j * 8 + i)) : eqL8 n z n z' = false := by
  unfold eqL8; rw [eqP8_no hj h]; simp

set_option maxHeartbeats 400000 in
theorem eqIS_any (A A' : Option Addr) (n n' c c' : Nat) (z z' : Nat → Int) (w : World) (ha : Rd w A n (fun j => .int .i64 (z j))) (hb : Rd w A' n' (fun j => .int .i64 (z' j))) (hn : n ≤ 1048576) (hn' : n' ≤ 1048576) :
    Calls Try.prog 112 #[.slice A n c, .slice A' n' c'] w fun e w' => e = .returned (.bool (eqL n z n' z')) ∧ ∃ q, w' = w.drewN q := by
  by_cases hne : n = n'
  · subst hne
    have HA := Lib.hid ha
    have HB := Lib.hid hb
    clear ha hb
    go_enter Try.func112, Try.ntmps112
    go_wp2_with fail
    go_loopw [5] (fun i wr => ∃ j q : Nat, j ≤ n ∧ i = .int .i64 j ∧ wr = w.drewN q ∧ Hid (eqP z z' j = true)) (fun i _ => n - (intOf i).toNat)
    case atStart => exact ⟨0, 0, Nat.zero_le _, rfl, rfl, rfl⟩
    case round =>
      obtain ⟨j, q, hj, rfl, rfl, HJ⟩ := hrel
      by_cases hlt : j < n
      · obtain ⟨ga, oa, rfl, _, hra⟩ := HA.out (by omega)
        obtain ⟨gb, ob, rfl, _, hrb⟩ := HB.out (by omega)
        have hca := hra j hlt
        have hcb := hrb j hlt
        obtain ⟨x, hx⟩ : ∃ x, x = z j := ⟨_, rfl⟩
        obtain ⟨y, hy⟩ : ∃ y, y = z' j := ⟨_, rfl⟩
        simp only [← hx, ← hy] at hca hcb
        have b1 : (0 : Int) ≤ (j : Int) := by omega
        have b2 : (j : Int) < (n : Int) := by omega
        by_cases he : x = y
        · subst he
          have HN : Hid (eqP z z' (j + 1) = true) := by
            show eqP z z' (j + 1) = true
            simp only [eqP]
            rw [HJ.out, ← hy, ← hx]; simp
          clear hra hrb hx hy
          go_wp2_with fail
          go_quiet (fail)
          go_wp2
          go_roundw
          case rel => exact ⟨j + 1, q + nq, by omega, by go_num, rfl, HN.out⟩
          case measure => simp [intOf] <;> omega
        · have hne : (x == y) = false := by simpa using he
          have HNo : Hid (eqL n z n z' = false) := eqL_no hlt (by rw [← hy, ← hx]; exact he)
          clear hra hrb hx hy he
          go_wp2_with fail
          go_quiet (fail)
          go_wp2
          go_ret
          exact ⟨by rw [HNo.out]; rfl, q + nq, by simp [World.drewN, Nat.add_assoc]⟩
      · obtain rfl : j = n := by omega
        go_wp2
        go_ret
        exact ⟨by unfold eqL; rw [HJ.out]; simp, q, rfl⟩
  · have hne' : ((n : Int) == (n' : Int)) = false := by simp; omega
    have HNo : Hid (eqL n z n' z' = false) := by show _ = _; unfold eqL; simp [hne]
    go_enter Try.func112, Try.ntmps112
    go_wp2
    go_ret
    exact ⟨by rw [HNo.out]; rfl, 0, rfl⟩

set_option maxHeartbeats 400000 in
theorem eqIG_any (A A' : Option Addr) (n n' c c' : Nat) (z z' : Nat → Int) (w : World) (ha : Rd w A n (fun j => .int .i64 (z j))) (hb : Rd w A' n' (fun j => .int .i64 (z' j))) (hn : n ≤ 1048576) (hn' : n' ≤ 1048576) :
    Calls Try.prog 117 #[.slice A n c, .slice A' n' c'] w fun e w' => e = .returned (.bool (eqL n z n' z')) ∧ ∃ q, w' = w.drewN q := by
  by_cases hne : n = n'
  · subst hne
    have HA := Lib.hid ha
    have HB := Lib.hid hb
    clear ha hb
    go_enter Try.func117, Try.ntmps117
    go_wp2_with fail
    go_loopw [13] (fun i wr => ∃ j q : Nat, j ≤ n ∧ i = .int .i64 j ∧ wr = w.drewN q ∧ Hid (eqP z z' j = true)) (fun i _ => n - (intOf i).toNat)
    case atStart => exact ⟨0, 0, Nat.zero_le _, rfl, rfl, rfl⟩
    case round =>
      obtain ⟨j, q, hj, rfl, rfl, HJ⟩ := hrel
      by_cases hlt : j < n
      · obtain ⟨ga, oa, rfl, _, hra⟩ := HA.out (by omega)
        obtain ⟨gb, ob, rfl, _, hrb⟩ := HB.out (by omega)
        have hca := hra j hlt
        have hcb := hrb j hlt
        obtain ⟨x, hx⟩ : ∃ x, x = z j := ⟨_, rfl⟩
        obtain ⟨y, hy⟩ : ∃ y, y = z' j := ⟨_, rfl⟩
        simp only [← hx, ← hy] at hca hcb
        have b1 : (0 : Int) ≤ (j : Int) := by omega
        have b2 : (j : Int) < (n : Int) := by omega
        by_cases he : x = y
        · subst he
          have HN : Hid (eqP z z' (j + 1) = true) := by
            show eqP z z' (j + 1) = true
            simp only [eqP]
            rw [HJ.out, ← hy, ← hx]; simp
          clear hra hrb hx hy
          go_wp2_with fail
          go_quiet (fail)
          go_wp2
          go_roundw
          case rel => exact ⟨j + 1, q + nq, by omega, by go_num, rfl, HN.out⟩
          case measure => simp [intOf] <;> omega
        · have hne : (x == y) = false := by simpa using he
          have HNo : Hid (eqL n z n z' = false) := eqL_no hlt (by rw [← hy, ← hx]; exact he)
          clear hra hrb hx hy he
          go_wp2_with fail
          go_quiet (fail)
          go_wp2
          go_ret
          exact ⟨by rw [HNo.out]; rfl, q + nq, by simp [World.drewN, Nat.add_assoc]⟩
      · obtain rfl : j = n := by omega
        go_wp2
        go_ret
        exact ⟨by unfold eqL; rw [HJ.out]; simp, q, rfl⟩
  · have hne' : ((n : Int) == (n' : Int)) = false := by simp; omega
    have HNo : Hid (eqL n z n' z' = false) := by show _ = _; unfold eqL; simp [hne]
    go_enter Try.func117, Try.ntmps117
    go_wp2
    go_ret
    exact ⟨by rw [HNo.out]; rfl, 0, rfl⟩

set_option maxHeartbeats 4000000 in
theorem eqOS_any (A A' : Option Addr) (n n' c c' : Nat) (z z' : Nat → Int) (w : World) (ha : Rd w A (n * 8) (fun j => .int .i64 (z j))) (hb : Rd w A' (n' * 8) (fun j => .int .i64 (z' j))) (hn : n ≤ 1048576) (hn' : n' ≤ 1048576) :
    Calls Try.prog 80 #[.slice A n c, .slice A' n' c'] w fun e w' => e = .returned (.bool (eqL8 n z n' z')) ∧ ∃ q, w' = w.drewN q := by
  by_cases hne : n = n'
  · subst hne
    have HA := Lib.hid ha
    have HB := Lib.hid hb
    clear ha hb
    go_enter Try.func80, Try.ntmps80
    go_wp2_with fail
    go_loopw [5] (fun i wr => ∃ j q : Nat, j ≤ n ∧ i = .int .i64 j ∧ wr = w.drewN q ∧ Hid (eqP8 z z' j = true)) (fun i _ => n - (intOf i).toNat)
    case atStart => exact ⟨0, 0, Nat.zero_le _, rfl, rfl, rfl⟩
    case round =>
      obtain ⟨j, q, hj, rfl, rfl, HJ⟩ := hrel
      by_cases hlt : j < n
      · obtain ⟨ga, oa, rfl, _, hra⟩ := HA.out (by omega)
        obtain ⟨gb, ob, rfl, _, hrb⟩ := HB.out (by omega)
        have b1 : (0 : Int) ≤ (j : Int) := by omega
        have b2 : (j : Int) < (n : Int) := by omega
        have hca0 := hra (j * 8) (by omega)
        have hcb0 := hrb (j * 8) (by omega)
        obtain ⟨x0, hx0⟩ : ∃ x, x = z (j * 8) := ⟨_, rfl⟩
        obtain ⟨y0, hy0⟩ : ∃ y, y = z' (j * 8) := ⟨_, rfl⟩
        simp only [← hx0] at hca0
        simp only [← hy0] at hcb0
        have hca1 := hra (j * 8 + 1) (by omega)
        have hcb1 := hrb (j * 8 + 1) (by omega)
        obtain ⟨x1, hx1⟩ : ∃ x, x = z (j * 8 + 1) := ⟨_, rfl⟩
        obtain ⟨y1, hy1⟩ : ∃ y, y = z' (j * 8 + 1) := ⟨_, rfl⟩
        simp only [← hx1, ← Nat.add_assoc] at hca1
        simp only [← hy1, ← Nat.add_assoc] at hcb1
        have hca2 := hra (j * 8 + 2) (by omega)
        have hcb2 := hrb (j * 8 + 2) (by omega)
        obtain ⟨x2, hx2⟩ : ∃ x, x = z (j * 8 + 2) := ⟨_, rfl⟩
        obtain ⟨y2, hy2⟩ : ∃ y, y = z' (j * 8 + 2) := ⟨_, rfl⟩
        simp only [← hx2, ← Nat.add_assoc] at hca2
        simp only [← hy2, ← Nat.add_assoc] at hcb2
        have hca3 := hra (j * 8 + 3) (by omega)
        have hcb3 := hrb (j * 8 + 3) (by omega)
        obtain ⟨x3, hx3⟩ : ∃ x, x = z (j * 8 + 3) := ⟨_, rfl⟩
        obtain ⟨y3, hy3⟩ : ∃ y, y = z' (j * 8 + 3) := ⟨_, rfl⟩
        simp only [← hx3, ← Nat.add_assoc] at hca3
        simp only [← hy3, ← Nat.add_assoc] at hcb3
        have hca4 := hra (j * 8 + 4) (by omega)
        have hcb4 := hrb (j * 8 + 4) (by omega)
        obtain ⟨x4, hx4⟩ : ∃ x, x = z (j * 8 + 4) := ⟨_, rfl⟩
        obtain ⟨y4, hy4⟩ : ∃ y, y = z' (j * 8 + 4) := ⟨_, rfl⟩
        simp only [← hx4, ← Nat.add_assoc] at hca4
        simp only [← hy4, ← Nat.add_assoc] at hcb4
        have hca5 := hra (j * 8 + 5) (by omega)
        have hcb5 := hrb (j * 8 + 5) (by omega)
        obtain ⟨x5, hx5⟩ : ∃ x, x = z (j * 8 + 5) := ⟨_, rfl⟩
        obtain ⟨y5, hy5⟩ : ∃ y, y = z' (j * 8 + 5) := ⟨_, rfl⟩
        simp only [← hx5, ← Nat.add_assoc] at hca5
        simp only [← hy5, ← Nat.add_assoc] at hcb5
        have hca6 := hra (j * 8 + 6) (by omega)
        have hcb6 := hrb (j * 8 + 6) (by omega)
        obtain ⟨x6, hx6⟩ : ∃ x, x = z (j * 8 + 6) := ⟨_, rfl⟩
        obtain ⟨y6, hy6⟩ : ∃ y, y = z' (j * 8 + 6) := ⟨_, rfl⟩
        simp only [← hx6, ← Nat.add_assoc] at hca6
        simp only [← hy6, ← Nat.add_assoc] at hcb6
        have hca7 := hra (j * 8 + 7) (by omega)
        have hcb7 := hrb (j * 8 + 7) (by omega)
        obtain ⟨x7, hx7⟩ : ∃ x, x = z (j * 8 + 7) := ⟨_, rfl⟩
        obtain ⟨y7, hy7⟩ : ∃ y, y = z' (j * 8 + 7) := ⟨_, rfl⟩
        simp only [← hx7, ← Nat.add_assoc] at hca7
        simp only [← hy7, ← Nat.add_assoc] at hcb7
        by_cases he0 : x0 = y0
        · subst he0
          by_cases he1 : x1 = y1
          · subst he1
            by_cases he2 : x2 = y2
            · subst he2
              by_cases he3 : x3 = y3
              · subst he3
                by_cases he4 : x4 = y4
                · subst he4
                  by_cases he5 : x5 = y5
                  · subst he5
                    by_cases he6 : x6 = y6
                    · subst he6
                      by_cases he7 : x7 = y7
                      · subst he7
                        have HN : Hid (eqP8 z z' (j + 1) = true) := by
                          show eqP8 z z' (j + 1) = true
                          simp only [eqP8]
                          rw [HJ.out]; simp only [Nat.add_zero, ← hx0, ← hy0, ← hx1, ← hy1, ← hx2, ← hy2, ← hx3, ← hy3, ← hx4, ← hy4, ← hx5, ← hy5, ← hx6, ← hy6, ← hx7, ← hy7]; simp
                        clear hra hrb hx0 hy0 hx1 hy1 hx2 hy2 hx3 hy3 hx4 hy4 hx5 hy5 hx6 hy6 hx7 hy7
                        go_wp2_with fail
                        go_quiet (fail)
                        go_wp2
                        go_roundw
                        case rel => exact ⟨j + 1, q + nq, by omega, by go_num, rfl, HN.out⟩
                        case measure => simp [intOf] <;> omega
                      · have hne : (x7 == y7) = false := by simpa using he7
                        have HNo : Hid (eqL8 n z n z' = false) := eqL8_no hlt ⟨7, by omega, by rw [← hx7, ← hy7]; exact he7⟩
                        clear hra hrb hx0 hy0 hx1 hy1 hx2 hy2 hx3 hy3 hx4 hy4 hx5 hy5 hx6 hy6 hx7 hy7 he7
                        go_wp2_with fail
                        go_quiet (fail)
                        go_wp2
                        go_ret
                        exact ⟨by rw [HNo.out]; rfl, q + nq, by simp [World.drewN, Nat.add_assoc]⟩
                    · have hne : (x6 == y6) = false := by simpa using he6
                      have HNo : Hid (eqL8 n z n z' = false) := eqL8_no hlt ⟨6, by omega, by rw [← hx6, ← hy6]; exact he6⟩
                      clear hra hrb hx0 hy0 hx1 hy1 hx2 hy2 hx3 hy3 hx4 hy4 hx5 hy5 hx6 hy6 hx7 hy7 he6
                      go_wp2_with fail
                      go_quiet (fail)
                      go_wp2
                      go_ret
                      exact ⟨by rw [HNo.out]; rfl, q + nq, by simp [World.drewN, Nat.add_assoc]⟩
                  · have hne : (x5 == y5) = false := by simpa using he5
                    have HNo : Hid (eqL8 n z n z' = false) := eqL8_no hlt ⟨5, by omega, by rw [← hx5, ← hy5]; exact he5⟩
                    clear hra hrb hx0 hy0 hx1 hy1 hx2 hy2 hx3 hy3 hx4 hy4 hx5 hy5 hx6 hy6 hx7 hy7 he5
                    go_wp2_with fail
                    go_quiet (fail)
                    go_wp2
                    go_ret
                    exact ⟨by rw [HNo.out]; rfl, q + nq, by simp [World.drewN, Nat.add_assoc]⟩
                · have hne : (x4 == y4) = false := by simpa using he4
                  have HNo : Hid (eqL8 n z n z' = false) := eqL8_no hlt ⟨4, by omega, by rw [← hx4, ← hy4]; exact he4⟩
                  clear hra hrb hx0 hy0 hx1 hy1 hx2 hy2 hx3 hy3 hx4 hy4 hx5 hy5 hx6 hy6 hx7 hy7 he4
                  go_wp2_with fail
                  go_quiet (fail)
                  go_wp2
                  go_ret
                  exact ⟨by rw [HNo.out]; rfl, q + nq, by simp [World.drewN, Nat.add_assoc]⟩
              · have hne : (x3 == y3) = false := by simpa using he3
                have HNo : Hid (eqL8 n z n z' = false) := eqL8_no hlt ⟨3, by omega, by rw [← hx3, ← hy3]; exact he3⟩
                clear hra hrb hx0 hy0 hx1 hy1 hx2 hy2 hx3 hy3 hx4 hy4 hx5 hy5 hx6 hy6 hx7 hy7 he3
                go_wp2_with fail
                go_quiet (fail)
                go_wp2
                go_ret
                exact ⟨by rw [HNo.out]; rfl, q + nq, by simp [World.drewN, Nat.add_assoc]⟩
            · have hne : (x2 == y2) = false := by simpa using he2
              have HNo : Hid (eqL8 n z n z' = false) := eqL8_no hlt ⟨2, by omega, by rw [← hx2, ← hy2]; exact he2⟩
              clear hra hrb hx0 hy0 hx1 hy1 hx2 hy2 hx3 hy3 hx4 hy4 hx5 hy5 hx6 hy6 hx7 hy7 he2
              go_wp2_with fail
              go_quiet (fail)
              go_wp2
              go_ret
              exact ⟨by rw [HNo.out]; rfl, q + nq, by simp [World.drewN, Nat.add_assoc]⟩
          · have hne : (x1 == y1) = false := by simpa using he1
            have HNo : Hid (eqL8 n z n z' = false) := eqL8_no hlt ⟨1, by omega, by rw [← hx1, ← hy1]; exact he1⟩
            clear hra hrb hx0 hy0 hx1 hy1 hx2 hy2 hx3 hy3 hx4 hy4 hx5 hy5 hx6 hy6 hx7 hy7 he1
            go_wp2_with fail
            go_quiet (fail)
            go_wp2
            go_ret
            exact ⟨by rw [HNo.out]; rfl, q + nq, by simp [World.drewN, Nat.add_assoc]⟩
        · have hne : (x0 == y0) = false := by simpa using he0
          have HNo : Hid (eqL8 n z n z' = false) := eqL8_no hlt ⟨0, by omega, by rw [Nat.add_zero, ← hx0, ← hy0]; exact he0⟩
          clear hra hrb hx0 hy0 hx1 hy1 hx2 hy2 hx3 hy3 hx4 hy4 hx5 hy5 hx6 hy6 hx7 hy7 he0
          go_wp2_with fail
          go_quiet (fail)
          go_wp2
          go_ret
          exact ⟨by rw [HNo.out]; rfl, q + nq, by simp [World.drewN, Nat.add_assoc]⟩
      · obtain rfl : j = n := by omega
        go_wp2
        go_ret
        exact ⟨by unfold eqL8; rw [HJ.out]; simp, q, rfl⟩
  · have hne' : ((n : Int) == (n' : Int)) = false := by simp; omega
    have HNo : Hid (eqL8 n z n' z' = false) := by show _ = _; unfold eqL8; simp [hne]
    go_enter Try.func80, Try.ntmps80
    go_wp2
    go_ret
    exact ⟨by rw [HNo.out]; rfl, 0, rfl⟩

set_option maxHeartbeats 4000000 in
theorem eqOG_any (A A' : Option Addr) (n n' c c' : Nat) (z z' : Nat → Int) (w : World) (ha : Rd w A (n * 8) (fun j => .int .i64 (z j))) (hb : Rd w A' (n' * 8) (fun j => .int .i64 (z' j))) (hn : n ≤ 1048576) (hn' : n' ≤ 1048576) :
    Calls Try.prog 86 #[.slice A n c, .slice A' n' c'] w fun e w' => e = .returned (.bool (eqL8 n z n' z')) ∧ ∃ q, w' = w.drewN q := by
  by_cases hne : n = n'
  · subst hne
    have HA := Lib.hid ha
    have HB := Lib.hid hb
    clear ha hb
    go_enter Try.func86, Try.ntmps86
    go_wp2_with fail
    go_loopw [13] (fun i wr => ∃ j q : Nat, j ≤ n ∧ i = .int .i64 j ∧ wr = w.drewN q ∧ Hid (eqP8 z z' j = true)) (fun i _ => n - (intOf i).toNat)
    case atStart => exact ⟨0, 0, Nat.zero_le _, rfl, rfl, rfl⟩
    case round =>
      obtain ⟨j, q, hj, rfl, rfl, HJ⟩ := hrel
      by_cases hlt : j < n
      · obtain ⟨ga, oa, rfl, _, hra⟩ := HA.out (by omega)
        obtain ⟨gb, ob, rfl, _, hrb⟩ := HB.out (by omega)
        have b1 : (0 : Int) ≤ (j : Int) := by omega
        have b2 : (j : Int) < (n : Int) := by omega
        have hca0 := hra (j * 8) (by omega)
        have hcb0 := hrb (j * 8) (by omega)
        obtain ⟨x0, hx0⟩ : ∃ x, x = z (j * 8) := ⟨_, rfl⟩
        obtain ⟨y0, hy0⟩ : ∃ y, y = z' (j * 8) := ⟨_, rfl⟩
        simp only [← hx0] at hca0
        simp only [← hy0] at hcb0
        have hca1 := hra (j * 8 + 1) (by omega)
        have hcb1 := hrb (j * 8 + 1) (by omega)
        obtain ⟨x1, hx1⟩ : ∃ x, x = z (j * 8 + 1) := ⟨_, rfl⟩
        obtain ⟨y1, hy1⟩ : ∃ y, y = z' (j * 8 + 1) := ⟨_, rfl⟩
        simp only [← hx1, ← Nat.add_assoc] at hca1
        simp only [← hy1, ← Nat.add_assoc] at hcb1
        have hca2 := hra (j * 8 + 2) (by omega)
        have hcb2 := hrb (j * 8 + 2) (by omega)
        obtain ⟨x2, hx2⟩ : ∃ x, x = z (j * 8 + 2) := ⟨_, rfl⟩
        obtain ⟨y2, hy2⟩ : ∃ y, y = z' (j * 8 + 2) := ⟨_, rfl⟩
        simp only [← hx2, ← Nat.add_assoc] at hca2
        simp only [← hy2, ← Nat.add_assoc] at hcb2
        have hca3 := hra (j * 8 + 3) (by omega)
        have hcb3 := hrb (j * 8 + 3) (by omega)
        obtain ⟨x3, hx3⟩ : ∃ x, x = z (j * 8 + 3) := ⟨_, rfl⟩
        obtain ⟨y3, hy3⟩ : ∃ y, y = z' (j * 8 + 3) := ⟨_, rfl⟩
        simp only [← hx3, ← Nat.add_assoc] at hca3
        simp only [← hy3, ← Nat.add_assoc] at hcb3
        have hca4 := hra (j * 8 + 4) (by omega)
        have hcb4 := hrb (j * 8 + 4) (by omega)
        obtain ⟨x4, hx4⟩ : ∃ x, x = z (j * 8 + 4) := ⟨_, rfl⟩
        obtain ⟨y4, hy4⟩ : ∃ y, y = z' (j * 8 + 4) := ⟨_, rfl⟩
        simp only [← hx4, ← Nat.add_assoc] at hca4
        simp only [← hy4, ← Nat.add_assoc] at hcb4
        have hca5 := hra (j * 8 + 5) (by omega)
        have hcb5 := hrb (j * 8 + 5) (by omega)
        obtain ⟨x5, hx5⟩ : ∃ x, x = z (j * 8 + 5) := ⟨_, rfl⟩
        obtain ⟨y5, hy5⟩ : ∃ y, y = z' (j * 8 + 5) := ⟨_, rfl⟩
        simp only [← hx5, ← Nat.add_assoc] at hca5
        simp only [← hy5, ← Nat.add_assoc] at hcb5
        have hca6 := hra (j * 8 + 6) (by omega)
        have hcb6 := hrb (j * 8 + 6) (by omega)
        obtain ⟨x6, hx6⟩ : ∃ x, x = z (j * 8 + 6) := ⟨_, rfl⟩
        obtain ⟨y6, hy6⟩ : ∃ y, y = z' (j * 8 + 6) := ⟨_, rfl⟩
        simp only [← hx6, ← Nat.add_assoc] at hca6
        simp only [← hy6, ← Nat.add_assoc] at hcb6
        have hca7 := hra (j * 8 + 7) (by omega)
        have hcb7 := hrb (j * 8 + 7) (by omega)
        obtain ⟨x7, hx7⟩ : ∃ x, x = z (j * 8 + 7) := ⟨_, rfl⟩
        obtain ⟨y7, hy7⟩ : ∃ y, y = z' (j * 8 + 7) := ⟨_, rfl⟩
        simp only [← hx7, ← Nat.add_assoc] at hca7
        simp only [← hy7, ← Nat.add_assoc] at hcb7
        by_cases he0 : x0 = y0
        · subst he0
          by_cases he1 : x1 = y1
          · subst he1
            by_cases he2 : x2 = y2
            · subst he2
              by_cases he3 : x3 = y3
              · subst he3
                by_cases he4 : x4 = y4
                · subst he4
                  by_cases he5 : x5 = y5
                  · subst he5
                    by_cases he6 : x6 = y6
                    · subst he6
                      by_cases he7 : x7 = y7
                      · subst he7
                        have HN : Hid (eqP8 z z' (j + 1) = true) := by
                          show eqP8 z z' (j + 1) = true
                          simp only [eqP8]
                          rw [HJ.out]; simp only [Nat.add_zero, ← hx0, ← hy0, ← hx1, ← hy1, ← hx2, ← hy2, ← hx3, ← hy3, ← hx4, ← hy4, ← hx5, ← hy5, ← hx6, ← hy6, ← hx7, ← hy7]; simp
                        clear hra hrb hx0 hy0 hx1 hy1 hx2 hy2 hx3 hy3 hx4 hy4 hx5 hy5 hx6 hy6 hx7 hy7
                        go_wp2_with fail
                        go_quiet (fail)
                        go_wp2
                        go_roundw
                        case rel => exact ⟨j + 1, q + nq, by omega, by go_num, rfl, HN.out⟩
                        case measure => simp [intOf] <;> omega
                      · have hne : (x7 == y7) = false := by simpa using he7
                        have HNo : Hid (eqL8 n z n z' = false) := eqL8_no hlt ⟨7, by omega, by rw [← hx7, ← hy7]; exact he7⟩
                        clear hra hrb hx0 hy0 hx1 hy1 hx2 hy2 hx3 hy3 hx4 hy4 hx5 hy5 hx6 hy6 hx7 hy7 he7
                        go_wp2_with fail
                        go_quiet (fail)
                        go_wp2
                        go_ret
                        exact ⟨by rw [HNo.out]; rfl, q + nq, by simp [World.drewN, Nat.add_assoc]⟩
                    · have hne : (x6 == y6) = false := by simpa using he6
                      have HNo : Hid (eqL8 n z n z' = false) := eqL8_no hlt ⟨6, by omega, by rw [← hx6, ← hy6]; exact he6⟩
                      clear hra hrb hx0 hy0 hx1 hy1 hx2 hy2 hx3 hy3 hx4 hy4 hx5 hy5 hx6 hy6 hx7 hy7 he6
                      go_wp2_with fail
                      go_quiet (fail)
                      go_wp2
                      go_ret
                      exact ⟨by rw [HNo.out]; rfl, q + nq, by simp [World.drewN, Nat.add_assoc]⟩
                  · have hne : (x5 == y5) = false := by simpa using he5
                    have HNo : Hid (eqL8 n z n z' = false) := eqL8_no hlt ⟨5, by omega, by rw [← hx5, ← hy5]; exact he5⟩
                    clear hra hrb hx0 hy0 hx1 hy1 hx2 hy2 hx3 hy3 hx4 hy4 hx5 hy5 hx6 hy6 hx7 hy7 he5
                    go_wp2_with fail
                    go_quiet (fail)
                    go_wp2
                    go_ret
                    exact ⟨by rw [HNo.out]; rfl, q + nq, by simp [World.drewN, Nat.add_assoc]⟩
                · have hne : (x4 == y4) = false := by simpa using he4
                  have HNo : Hid (eqL8 n z n z' = false) := eqL8_no hlt ⟨4, by omega, by rw [← hx4, ← hy4]; exact he4⟩
                  clear hra hrb hx0 hy0 hx1 hy1 hx2 hy2 hx3 hy3 hx4 hy4 hx5 hy5 hx6 hy6 hx7 hy7 he4
                  go_wp2_with fail
                  go_quiet (fail)
                  go_wp2
                  go_ret
                  exact ⟨by rw [HNo.out]; rfl, q + nq, by simp [World.drewN, Nat.add_assoc]⟩
              · have hne : (x3 == y3) = false := by simpa using he3
                have HNo : Hid (eqL8 n z n z' = false) := eqL8_no hlt ⟨3, by omega, by rw [← hx3, ← hy3]; exact he3⟩
                clear hra hrb hx0 hy0 hx1 hy1 hx2 hy2 hx3 hy3 hx4 hy4 hx5 hy5 hx6 hy6 hx7 hy7 he3
                go_wp2_with fail
                go_quiet (fail)
                go_wp2
                go_ret
                exact ⟨by rw [HNo.out]; rfl, q + nq, by simp [World.drewN, Nat.add_assoc]⟩
            · have hne : (x2 == y2) = false := by simpa using he2
              have HNo : Hid (eqL8 n z n z' = false) := eqL8_no hlt ⟨2, by omega, by rw [← hx2, ← hy2]; exact he2⟩
              clear hra hrb hx0 hy0 hx1 hy1 hx2 hy2 hx3 hy3 hx4 hy4 hx5 hy5 hx6 hy6 hx7 hy7 he2
              go_wp2_with fail
              go_quiet (fail)
              go_wp2
              go_ret
              exact ⟨by rw [HNo.out]; rfl, q + nq, by simp [World.drewN, Nat.add_assoc]⟩
          · have hne : (x1 == y1) = false := by simpa using he1
            have HNo : Hid (eqL8 n z n z' = false) := eqL8_no hlt ⟨1, by omega, by rw [← hx1, ← hy1]; exact he1⟩
            clear hra hrb hx0 hy0 hx1 hy1 hx2 hy2 hx3 hy3 hx4 hy4 hx5 hy5 hx6 hy6 hx7 hy7 he1
            go_wp2_with fail
            go_quiet (fail)
            go_wp2
            go_ret
            exact ⟨by rw [HNo.out]; rfl, q + nq, by simp [World.drewN, Nat.add_assoc]⟩
        · have hne : (x0 == y0) = false := by simpa using he0
          have HNo : Hid (eqL8 n z n z' = false) := eqL8_no hlt ⟨0, by omega, by rw [Nat.add_zero, ← hx0, ← hy0]; exact he0⟩
          clear hra hrb hx0 hy0 hx1 hy1 hx2 hy2 hx3 hy3 hx4 hy4 hx5 hy5 hx6 hy6 hx7 hy7 he0
          go_wp2_with fail
          go_quiet (fail)
          go_wp2
          go_ret
          exact ⟨by rw [HNo.out]; rfl, q + nq, by simp [World.drewN, Nat.add_assoc]⟩
      · obtain rfl : j = n := by omega
        go_wp2
        go_ret
        exact ⟨by unfold eqL8; rw [HJ.out]; simp, q, rfl⟩
  · have hne' : ((n : Int) == (n' : Int)) = false := by simp; omega
    have HNo : Hid (eqL8 n z n' z' = false) := by show _ = _; unfold eqL8; simp [hne]
    go_enter Try.func86, Try.ntmps86
    go_wp2
    go_ret
    exact ⟨by rw [HNo.out]; rfl, 0, rfl⟩
end Go.Proofs.Ytjegoffdkmbibaa
