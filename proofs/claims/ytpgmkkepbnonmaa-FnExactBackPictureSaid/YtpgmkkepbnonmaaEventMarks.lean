/- Walks: marks in a line of strands, by the reference; the line of an event, by the reference and by the program. No condition but the bounds. -/
import Derived.Test.YtpgmkkepbnonmaaStrands
import Derived.Test.YtpgmkkepbnonmaaConv
import Derived.Test.YtpgmkkepbnonmaaEventsValid
namespace Go.Proofs.Ytpgmkkepbnonmaa
open Go.RowKit
set_option maxRecDepth 20000

/-- Strands p to p + c - 1 are marked with b. -/
def markZ (f : Nat → Int) (p c : Nat) (b : Int) (j : Nat) : Int := if j % 2 = 0 ∧ 2 * p ≤ j ∧ j < 2 * (p + c) then b else f j
theorem markZ_next (f : Nat → Int) (p k : Nat) (b : Int) (j : Nat) : markZ f p (k + 1) b j = if j = 2 * (p + k) then b else markZ f p k b j := by
  unfold markZ
  by_cases h : j = 2 * (p + k)
  · rw [if_pos (by omega), if_pos h]
  · rw [if_neg h]
    by_cases h2 : j % 2 = 0 ∧ 2 * p ≤ j ∧ j < 2 * (p + k)
    · rw [if_pos (by omega), if_pos h2]
    · rw [if_neg (by omega), if_neg h2]
theorem markZ_zero (f : Nat → Int) (p : Nat) (b : Int) (j : Nat) : markZ f p 0 b j = f j := by
  unfold markZ
  rw [if_neg (by omega)]

set_option maxHeartbeats 1000000 in
theorem l30Mark_any (g o N c p q : Nat) (f : Nat → Int) (b : Int) (w : World) (hw : RowW w g o N) (hr : RowR w g o N (fun j => .int .u8 (f j))) (hp : 0 < q → 2 * (p + q) < N + 2) (hp2 : p ≤ 1000 ∧ q ≤ 1000) (hN : N ≤ 1000000) :
    Calls Try.prog 100 #[.slice (some ⟨g, o, none⟩) N c, .int .i64 p, .int .i64 q, .int .u8 b] w fun e w' => e = .returned (.tuple #[]) ∧ Fr w w' (fun b => b = g) ∧ RowW w' g o N ∧ RowR w' g o N (fun j => .int .u8 (markZ f p q b j)) := by
  have HW := Lib.hid hw
  have HR := Lib.hid hr
  clear hw hr
  go_enter Try.func100, Try.ntmps100
  go_wp2
  go_loopw [8] (fun i wr => ∃ k : Nat, k ≤ q ∧ i = .int .i64 k ∧ Fr w wr (fun b => b = g) ∧ RowW wr g o N ∧ RowR wr g o N (fun j => .int .u8 (markZ f p k b j))) (fun i _ => q - (intOf i).toNat)
  case atStart => exact ⟨0, Nat.zero_le _, rfl, Fr.refl _ _, HW.out, HR.out.congr fun j _ => by rw [markZ_zero]⟩
  case round =>
    obtain ⟨k, hk, rfl, hf, hw, hr⟩ := hrel
    have HF := Lib.hid hf
    have HW := Lib.hid hw
    have HR := Lib.hid hr
    clear hf hw hr
    by_cases hlt : k < q
    · have hpq := hp (by omega)
      obtain ⟨⟨u, hu⟩, hfz⟩ := HW.out (2 * (p + k)) (by omega)
      have b1 : (0 : Int) ≤ 2 * ((p : Int) + k) := by omega
      have b2 : 2 * ((p : Int) + k) < (N : Int) := by omega
      go_wp2
      go_roundw
      case rel =>
        exact ⟨k + 1, by omega, by go_num, HF.out.set rfl _, HW.out.set _ _, (HR.out.upd (k := 2 * (p + k)) (by omega) _).congr fun j hj => by
          rw [markZ_next]
          by_cases h1 : j = 2 * (p + k)
          · rw [if_pos h1, if_pos h1]
          · rw [if_neg h1, if_neg h1]⟩
      case measure => simp [intOf] <;> omega
    · obtain rfl : q = k := by omega
      go_wp2
      go_end0
      exact ⟨rfl, HF.out, HW.out, HR.out⟩
theorem l00Max_any (a b : Int) (w : World) : Calls Try.prog 101 #[.int .i64 a, .int .i64 b] w fun e w' => e = .returned (.int .i64 (max a b)) ∧ w = w' := by
  by_cases h : b < a
  · go_enter Try.func101, Try.ntmps101
    go_wp2
    go_ret
    exact ⟨ret_int (by omega), rfl⟩
  · go_enter Try.func101, Try.ntmps101
    go_wp2
    go_ret
    exact ⟨ret_int (by omega), rfl⟩
end Go.Proofs.Ytpgmkkepbnonmaa
