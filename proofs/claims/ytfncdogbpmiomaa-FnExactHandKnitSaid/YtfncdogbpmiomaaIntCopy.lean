/- Contracts of the laws' helpers over slices of int64: measured, copied. (Printed by wip/flatgen.py.) -/
import Derived.Test.YtfncdogbpmiomaaObjs
import Derived.Deep.RegionHeld3
import Derived.Deep.QuietTactic
import Derived.BigQuiet
namespace Go.Proofs.Ytfncdogbpmiomaa
open Go.RowKit


/-- What the count of a slice's size says: it ran out, or the slice is not longer than what was left. -/
def SzP (w : World) (L n : Nat) (e : Ending) (w' : World) : Prop := ∃ r : Int, (r < 0 ∨ (n ≤ L ∧ r = L - n)) ∧ e = .returned (.int .i64 r) ∧ w = w'
theorem szInt64S_any (A : Option Addr) (n c L : Nat) (w : World) (hn : n ≤ maxLen) (hL : L ≤ 1048576) :
    Calls Try.prog 58 #[.slice A n c, .int .i64 L] w (SzP w L n) := by
  unfold maxLen at hn
  by_cases hle : n ≤ L
  · go_enter Try.func58, Try.ntmps58
    go_wp2
    go_ret
    exact ⟨(L : Int) - n, .inr ⟨hle, rfl⟩, rfl, rfl⟩
  · go_enter Try.func58, Try.ntmps58
    go_wp2
    go_ret
    exact ⟨-1, .inl (by omega), rfl, rfl⟩
theorem infoInt64' : (Try.prog.info? 2).map (fun i => (i.zero, i.size, i.bytes)) = some (some (.int .i64 0), 1, 8) := by kernel_rfl

set_option maxHeartbeats 400000 in
theorem toInt64S_any (A : Option Addr) (n c : Nat) (z : Nat → Int) (w : World) (ha : Rd w A n (fun j => .int .i64 (z j))) (hn : n ≤ 1048576) :
    Calls Try.prog 65 #[.slice A n c] w (NewP w n n (fun j => .int .i64 (z j))) := by
  have HA := Lib.hid ha
  clear ha
  obtain ⟨i0, hi, hz0, hz1, hz2⟩ := info_parts infoInt64'
  go_enter Try.func65, Try.ntmps65
  go_wp2_with (at_make; refine wpList_make_full _ rfl _ _ 41 rfl w.heap.size 2 i0 (.int .i64 0) 1 Try.underlying41 hi hz0 hz1 .i64 .i64 n n n rfl rfl rfl rfl (by rw [hz2]; omega) (by unfold maxLen; omega) (Nat.le_refl _) ?_; intro w1 hown hg1)
  have hb1 := (Below.refl w.heap.size w).grown hg1 (Nat.le_refl _) (fun k e => by cases e)
  have hw1 := RowW.of_own hown
  have hg1 : w.heap.size < w1.heap.size := (hown.lt _ rfl).2
  have HB := Lib.hid hb1
  have HW := Lib.hid hw1
  clear hb1 hw1 hown
  go_loopw [4] (fun i wr => ∃ k : Nat, k ≤ n ∧ i = .int .i64 k ∧ Below w.heap.size w wr ∧ w.heap.size < wr.heap.size ∧ RowW wr w.heap.size 0 n ∧ RowR wr w.heap.size 0 k (fun j => .int .i64 (z j))) (fun i _ => n - (intOf i).toNat)
  case atStart => exact ⟨0, Nat.zero_le _, rfl, HB.out, hg1, by simpa using HW.out, fun j hj => absurd hj (by omega)⟩
  case round =>
    obtain ⟨k, hk, rfl, hb, hgr, hw, hr⟩ := hrel
    have HB := Lib.hid hb
    have HW := Lib.hid hw
    have HR := Lib.hid hr
    clear hb hw hr
    by_cases hlt : k < n
    · obtain ⟨g, o, rfl, hg, hra⟩ := HA.out (by omega)
      have hc := ((bcell HB.out).1 _ _ hg).trans (hra k hlt)
      obtain ⟨⟨u, hu⟩, hf⟩ := HW.out k hlt
      rw [Nat.zero_add] at hu hf
      obtain ⟨x, hx⟩ : ∃ x, x = z k := ⟨_, rfl⟩
      simp only [← hx] at hc
      have HX := Lib.hid hx
      clear hx hra
      go_wp2
      go_roundw
      case rel =>
        refine ⟨k + 1, by omega, by go_num, HB.out.setCell (Nat.le_refl _) _, by simp; exact hgr, HW.out.set _ _, fun j hj => ?_⟩
        by_cases hjk : j = k
        · subst hjk
          rw [Nat.zero_add]
          exact (World.cell?_setCell_same _ _ _ hu).trans (by rw [HX.out])
        · have := (HR.out.set (Nat.le_refl _) (.int .i64 x)) j (by omega)
          rw [Nat.zero_add] at this
          exact this
      case measure => simp [intOf] <;> omega
    · obtain rfl : k = n := by omega
      go_wp2
      go_ret
      exact ⟨_, _, rfl, New.of_row HB.out (Nat.le_refl _) hgr HW.out HR.out⟩
end Go.Proofs.Ytfncdogbpmiomaa
