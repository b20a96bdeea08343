/- Contracts of the laws' helpers over slices of int64: equal, marked, held. (Printed by wip/flatgen.py.) -/
import Derived.Test.YtfncdogbpmiomaaObjs
import Derived.Deep.RegionHeld3
import Derived.Deep.QuietTactic
import Derived.BigQuiet
namespace Go.Proofs.Ytfncdogbpmiomaa
open Go.RowKit

set_option maxHeartbeats 1000000 in
theorem eqInt64S_any (A A' : Option Addr) (n c c' : Nat) (z : Nat → Int) (w : World) (ha : Rd w A (n * 1) (fun j => .int .i64 (z j))) (hb : Rd w A' (n * 1) (fun j => .int .i64 (z j))) (hn : n ≤ 1000000000) :
    Calls Try.prog 74 #[.slice A n c, .slice A' n c'] w fun e w' => e = .returned (.bool true) ∧ Below w.heap.size w w' := by
  have HA := Lib.hid ha
  have HB := Lib.hid hb
  clear ha hb
  go_enter Try.func74, Try.ntmps74
  go_wp2
  go_loopw [5] (fun i wr => ∃ k : Nat, k ≤ n ∧ i = .int .i64 k ∧ Below w.heap.size w wr) (fun i _ => n - (intOf i).toNat)
  case atStart => exact ⟨0, Nat.zero_le _, rfl, Below.refl _ _⟩
  case round =>
    obtain ⟨k, hk, rfl, hbl⟩ := hrel
    have HL := Lib.hid hbl
    clear hbl
    by_cases hlt : k < n
    · obtain ⟨g, o, rfl, hg, hc⟩ := HA.out (by omega)
      obtain ⟨g', o', rfl, hg', hc'⟩ := HB.out (by omega)
      have a0 := ((bcell HL.out).1 g _ hg).trans (hc (k * 1 + 0) (by omega))
      have b0 := ((bcell HL.out).1 g' _ hg').trans (hc' (k * 1 + 0) (by omega))
      simp only [← Nat.add_assoc] at a0 b0
      obtain ⟨y0, hy0⟩ : ∃ y, y = z (k * 1 + 0) := ⟨_, rfl⟩
      simp only [Nat.mul_one, Nat.add_zero] at a0 b0 hy0
      simp only [← hy0] at a0 b0
      clear hy0 hc hc'
      have hgr : g < wr.heap.size := blt HL.out hg
      have hgr' : g' < wr.heap.size := blt HL.out hg'
      go_wp2
      go_quiet (fail)
      go_wp2
      go_roundw
      case rel => exact ⟨k + 1, by omega, by go_num, Below.drewN' HL.out nq⟩
      case measure => simp [intOf] <;> omega
    · obtain rfl : k = n := by omega
      go_wp2
      go_ret
      exact ⟨rfl, HL.out⟩

set_option maxHeartbeats 1000000 in
theorem markInt64S_any (A : Option Addr) (n c : Nat) (k : Int) (w : World) (h : Wr w A (n * 1)) (hn : n ≤ 1000000000) (h0 : 0 ≤ k) (hk : k ≤ 2000000000) :
    Calls Try.prog 78 #[.slice A n c, .int .i64 k] w (MarkP w A (n * 1) (k + n * 1) (fun j => .int .i64 (k + j))) := by
  by_cases hz : n = 0
  · subst hz
    go_enter Try.func78, Try.ntmps78
    go_wp2
    go_loop [1, 5] (fun kk i => kk = .int .i64 k ∧ i = .int .i64 0) (fun _ _ => 0)
    case atStart => exact ⟨rfl, rfl⟩
    case round =>
      obtain ⟨rfl, rfl⟩ := hrel
      go_wp2
      go_ret
      exact ⟨ret_int (by simp), Nat.le_refl _, fun _ => rfl, fun _ _ _ h => absurd h (by omega)⟩
  · obtain ⟨g, o, rfl, hw⟩ := h (by omega)
    clear h
    have hg := hw.lt (by omega)
    have HW := Lib.hid hw
    clear hw
    go_enter Try.func78, Try.ntmps78
    go_wp2
    go_loopw [1, 5] (fun kk i wr => ∃ q : Nat, q ≤ n ∧ i = .int .i64 q ∧ kk = .int .i64 (k + q * 1) ∧ g < wr.heap.size ∧ Only w wr g ∧ RowW wr g o (n * 1) ∧ RowR wr g o (q * 1) (fun j => .int .i64 (k + j))) (fun _ i _ => n - (intOf i).toNat)
    case atStart => exact ⟨0, Nat.zero_le _, rfl, by simp, hg, Only.refl _ _, HW.out, fun j hj => absurd hj (by omega)⟩
    case round =>
      obtain ⟨q, hq, rfl, rfl, hgr, ho, hw, hr⟩ := hrel
      have HO := Lib.hid ho
      have HW' := Lib.hid hw
      have HR := Lib.hid hr
      clear ho hw hr
      by_cases hlt : q < n
      · obtain ⟨⟨u100, hu0⟩, hf0⟩ := HW'.out (q * 1 + 0) (by omega)
        simp only [Nat.add_zero, Nat.mul_one] at hu0 hf0
        go_wp2
        go_roundw
        case rel =>
          refine ⟨q + 1, by omega, by go_num, by go_num, by simp; exact hgr, (HO.out.set _ _), (HW'.out.set _ _), ?_⟩
          have r0 := RowR.step (m := q * 1) (a := o + q) (u := .int .i64 (k + q)) HR.out HW'.out (by omega) (by omega) (by simp only [Value.int.injEq, true_and]; omega)
          exact RowR.cast (by omega) r0
        case measure => simp [intOf] <;> omega
      · obtain rfl : q = n := by omega
        go_wp2
        go_ret
        exact ⟨rfl, HO.out.size, fun h => absurd h (by omega), fun g' o' e _ => by injection e with e; injection e with e1 e2; subst e1 e2; exact ⟨HO.out, HW'.out, HR.out⟩⟩

end Go.Proofs.Ytfncdogbpmiomaa
