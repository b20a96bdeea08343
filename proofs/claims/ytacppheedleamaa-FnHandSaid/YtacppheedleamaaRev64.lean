/- Walk: slices.Reverse at a list of numbers. No condition but the length. -/
import Derived.Test.YtacppheedleamaaObjs
import Derived.BigRegion
namespace Go.Proofs.Ytacppheedleamaa
open Go.RowKit
set_option maxRecDepth 20000

/-- A row of n places of which the first k and the last k have been exchanged. -/
def rv (n k : Nat) (f : Nat → Int) (m : Nat) : Int := if m < k ∨ n - k ≤ m then f (n - 1 - m) else f m

theorem rv_next64 {wr : World} {g n k m : Nat} {f : Nat → Int} (hr : RowR wr g 0 n (fun j => .int .i64 (rv n k f j))) (hm : m = n - 1 - k) (hkm : k < m) (hmn : m < n) {x y : Int} (hx : x = rv n k f k) (hy : y = rv n k f m) :
    RowR ((wr.setCell ⟨g, k, none⟩ (.int .i64 y)).setCell ⟨g, m, none⟩ (.int .i64 x)).drew g 0 n (fun j => .int .i64 (rv n (k + 1) f j)) := by
  intro j hj
  show ((wr.setCell ⟨g, k, none⟩ (.int .i64 y)).setCell ⟨g, m, none⟩ (.int .i64 x)).cell? _ = _
  have h1 := hr j hj
  rw [Nat.zero_add] at h1 ⊢
  by_cases hjm : j = m
  · subst hjm
    obtain ⟨v, hv⟩ := cell?_setCell_some (p := ⟨g, k, none⟩) (x := .int .i64 y) h1
    rw [World.cell?_setCell_same _ _ _ hv, hx]
    simp only [rv]
    rw [if_neg (by omega), if_pos (by omega), show n - 1 - j = k by omega]
  · rw [World.cell?_setCell_other _ _ _ _ (by intro e; injection e; omega)]
    by_cases hjk : j = k
    · subst hjk
      rw [World.cell?_setCell_same _ _ _ h1, hy]
      simp only [rv]
      rw [if_neg (by omega), if_pos (by omega), hm]
    · rw [World.cell?_setCell_other _ _ _ _ (by intro e; injection e; omega), h1]
      simp only [rv]
      by_cases hc : j < k ∨ n - k ≤ j
      · rw [if_pos hc, if_pos (by omega)]
      · rw [if_neg hc, if_neg (by omega)]

set_option maxHeartbeats 400000 in
theorem reverse64_any (g n c : Nat) (f : Nat → Int) (w : World) (hw : RowW w g 0 n) (hr : RowR w g 0 n (fun j => .int .i64 (f j))) (hn : n ≤ 1048576) :
    Calls Try.prog 103 #[.slice (some ⟨g, 0, none⟩) n c] w fun e w' => e = .returned (.tuple #[]) ∧ Only w w' g ∧ RowW w' g 0 n ∧ RowR w' g 0 n (fun j => .int .i64 (f (n - 1 - j))) := by
  have HW := Lib.hid hw
  have HR := Lib.hid hr
  clear hw hr
  go_enter Try.func103, Try.ntmps103
  go_wp2
  go_loopw [2, 3] (fun i j wr => ∃ k : Nat, ∃ z : Int, i = .int .i64 k ∧ j = .int .i64 z ∧ Hid (z = (n : Int) - 1 - k) ∧ -1 ≤ z ∧ z ≤ 1048576 ∧ 2 * k ≤ n + 1 ∧ Only w wr g ∧ RowW wr g 0 n ∧ RowR wr g 0 n (fun j => .int .i64 (rv n k f j))) (fun i _ _ => n - (intOf i).toNat)
  case atStart => exact ⟨0, _, rfl, rfl, by simp [Hid], by omega, by omega, by omega, Only.refl _ _, HW.out, fun j hj => (HR.out j hj).trans (by simp only [rv]; rw [if_neg (by omega)])⟩
  case round =>
    obtain ⟨k, z, rfl, rfl, HZ, hz1, hz2, hk, ho, hw, hr⟩ := hrel
    have HO := Lib.hid ho
    have HW := Lib.hid hw
    have HR := Lib.hid hr
    clear ho hw hr
    by_cases hlt : 2 * k + 1 < n
    · obtain ⟨m, rfl⟩ := Int.eq_ofNat_of_zero_le (show 0 ≤ z by have := HZ.out; omega)
      have hkm : k < m := by have := HZ.out; omega
      have hmn : m < n := by have := HZ.out; omega
      have hmk : Hid (m = n - 1 - k) := by have := HZ.out; unfold Hid; omega
      have hc1 := HR.out k (by omega)
      have hc2 := HR.out m (by omega)
      obtain ⟨x, hx⟩ : ∃ x, x = rv n k f k := ⟨_, rfl⟩
      obtain ⟨y, hy⟩ : ∃ y, y = rv n k f m := ⟨_, rfl⟩
      simp only [← hx, ← hy, Nat.zero_add] at hc1 hc2
      have HX := Lib.hid hx
      have HY := Lib.hid hy
      clear hx hy
      have hf := (HW.out k (by omega)).2
      have hf' := (HW.out m (by omega)).2
      rw [Nat.zero_add] at hf hf'
      have b1 : (0 : Int) ≤ (k : Int) := by omega
      have b2 : (k : Int) < (n : Int) := by omega
      have b3 : (0 : Int) ≤ (m : Int) := by omega
      have b4 : (m : Int) < (n : Int) := by omega
      go_wp2
      go_region
      go_wp2
      go_roundw
      case rel => exact ⟨k + 1, _, by go_num, rfl, by unfold Hid; have := HZ.out; omega, by omega, by omega, by omega, ((HO.out.set _ _).set _ _).drewN 1, (HW.out.set _ _).set _ _, rv_next64 HR.out hmk.out hkm hmn HX.out HY.out⟩
      case measure => simp [intOf] <;> omega
    · have hzk : z ≤ (k : Int) := by have := HZ.out; omega
      go_wp2
      go_end0
      refine ⟨rfl, HO.out, HW.out, fun j hj => (HR.out j hj).trans ?_⟩
      simp only [rv]
      by_cases hc : j < k ∨ n - k ≤ j
      · rw [if_pos hc]
      · rw [if_neg hc]
        rw [show n - 1 - j = j by omega]

end Go.Proofs.Ytacppheedleamaa
