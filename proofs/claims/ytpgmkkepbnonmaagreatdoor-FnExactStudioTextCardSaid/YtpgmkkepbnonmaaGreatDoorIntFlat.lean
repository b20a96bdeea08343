/- Contracts of the laws' helpers over slices of int64: equal, marked, held. (Printed by wip/flatgen.py.) -/
import Derived.Test.YtpgmkkepbnonmaaGreatDoorObjs
import Derived.Deep.RegionHeld3
import Derived.Deep.QuietTactic
import Derived.BigQuiet
namespace Go.Proofs.YtpgmkkepbnonmaaGreatDoor
open Go.RowKit

set_option maxHeartbeats 1000000 in
theorem eqInt64S_any (A A' : Option Addr) (n c c' : Nat) (z : Nat → Int) (w : World) (ha : Rd w A (n * 1) (fun j => .int .i64 (z j))) (hb : Rd w A' (n * 1) (fun j => .int .i64 (z j))) (hn : n ≤ 1000000000) :
    Calls Tryz.prog 42 #[.slice A n c, .slice A' n c'] w fun e w' => e = .returned (.bool true) ∧ Below w.heap.size w w' := by
  have HA := Lib.hid ha
  have HB := Lib.hid hb
  clear ha hb
  go_enter Tryz.func42, Tryz.ntmps42
  go_wp2
  go_loopw [5] (fun i wr => ∃ k : Nat, k ≤ n ∧ i = .int .i64 k ∧ Below w.heap.size w wr) (fun i _ => n - (intOf i).toNat)
  case atStart => exact ⟨0, Nat.zero_le _, rfl, Below.refl _ _⟩
  case round =>
    obtain ⟨k, hk, rfl, hbl⟩ := hrel
    have HL := Lib.hid hbl
    clear hbl
    by_cases hlt : k < n
    · obtain ⟨g, o, rfl, hg, hc⟩ := HA.out (by omega)
      obtain ⟨g', o', rfl, hg', hc'⟩ := HB.out (by omega)
      have a0 := ((bcell HL.out).1 g _ hg).trans (hc (k * 1 + 0) (by omega))
      have b0 := ((bcell HL.out).1 g' _ hg').trans (hc' (k * 1 + 0) (by omega))
      simp only [← Nat.add_assoc] at a0 b0
      obtain ⟨y0, hy0⟩ : ∃ y, y = z (k * 1 + 0) := ⟨_, rfl⟩
      simp only [Nat.mul_one, Nat.add_zero] at a0 b0 hy0
      simp only [← hy0] at a0 b0
      clear hy0 hc hc'
      have hgr : g < wr.heap.size := blt HL.out hg
      have hgr' : g' < wr.heap.size := blt HL.out hg'
      go_wp2
      go_quiet (fail)
      go_wp2
      go_roundw
      case rel => exact ⟨k + 1, by omega, by go_num, Below.drewN' HL.out nq⟩
      case measure => simp [intOf] <;> omega
    · obtain rfl : k = n := by omega
      go_wp2
      go_ret
      exact ⟨rfl, HL.out⟩

end Go.Proofs.YtpgmkkepbnonmaaGreatDoor
