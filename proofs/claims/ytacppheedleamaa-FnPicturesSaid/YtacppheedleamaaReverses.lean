/- Walks: slices reversed in place; a text's bytes from behind. No condition but the bounds. -/
import Derived.Test.YtacppheedleamaaRev64
import Derived.Test.YtacppheedleamaaStrLaw
import Derived.Test.YtacppheedleamaaConv
import Derived.BigRegion
namespace Go.Proofs.Ytacppheedleamaa
open Go.RowKit
set_option maxRecDepth 20000

theorem rv_next {wr : World} {g n k m : Nat} {f : Nat → Int} (hr : RowR wr g 0 n (fun j => .int .u8 (rv n k f j))) (hm : m = n - 1 - k) (hkm : k < m) (hmn : m < n) {x y : Int} (hx : x = rv n k f k) (hy : y = rv n k f m) :
    RowR ((wr.setCell ⟨g, k, none⟩ (.int .u8 y)).setCell ⟨g, m, none⟩ (.int .u8 x)).drew g 0 n (fun j => .int .u8 (rv n (k + 1) f j)) := by
  intro j hj
  show ((wr.setCell ⟨g, k, none⟩ (.int .u8 y)).setCell ⟨g, m, none⟩ (.int .u8 x)).cell? _ = _
  have h1 := hr j hj
  rw [Nat.zero_add] at h1 ⊢
  by_cases hjm : j = m
  · subst hjm
    obtain ⟨v, hv⟩ := cell?_setCell_some (p := ⟨g, k, none⟩) (x := .int .u8 y) h1
    rw [World.cell?_setCell_same _ _ _ hv, hx]
    simp only [rv]
    rw [if_neg (by omega), if_pos (by omega), show n - 1 - j = k by omega]
  · rw [World.cell?_setCell_other _ _ _ _ (by intro e; injection e; omega)]
    by_cases hjk : j = k
    · subst hjk
      rw [World.cell?_setCell_same _ _ _ h1, hy]
      simp only [rv]
      rw [if_neg (by omega), if_pos (by omega), hm]
    · rw [World.cell?_setCell_other _ _ _ _ (by intro e; injection e; omega), h1]
      simp only [rv]
      by_cases hc : j < k ∨ n - k ≤ j
      · rw [if_pos hc, if_pos (by omega)]
      · rw [if_neg hc, if_neg (by omega)]

set_option maxHeartbeats 400000 in
theorem reverse_any (g n c : Nat) (f : Nat → Int) (w : World) (hw : RowW w g 0 n) (hr : RowR w g 0 n (fun j => .int .u8 (f j))) (hn : n ≤ 1048576) :
    Calls Try.prog 73 #[.slice (some ⟨g, 0, none⟩) n c] w fun e w' => e = .returned (.tuple #[]) ∧ Only w w' g ∧ RowW w' g 0 n ∧ RowR w' g 0 n (fun j => .int .u8 (f (n - 1 - j))) := by
  have HW := Lib.hid hw
  have HR := Lib.hid hr
  clear hw hr
  go_enter Try.func73, Try.ntmps73
  go_wp2
  go_loopw [2, 3] (fun i j wr => ∃ k : Nat, ∃ z : Int, i = .int .i64 k ∧ j = .int .i64 z ∧ Hid (z = (n : Int) - 1 - k) ∧ -1 ≤ z ∧ z ≤ 1048576 ∧ 2 * k ≤ n + 1 ∧ Only w wr g ∧ RowW wr g 0 n ∧ RowR wr g 0 n (fun j => .int .u8 (rv n k f j))) (fun i _ _ => n - (intOf i).toNat)
  case atStart => exact ⟨0, _, rfl, rfl, by simp [Hid], by omega, by omega, by omega, Only.refl _ _, HW.out, fun j hj => (HR.out j hj).trans (by simp only [rv]; rw [if_neg (by omega)])⟩
  case round =>
    obtain ⟨k, z, rfl, rfl, HZ, hz1, hz2, hk, ho, hw, hr⟩ := hrel
    have HO := Lib.hid ho
    have HW := Lib.hid hw
    have HR := Lib.hid hr
    clear ho hw hr
    by_cases hlt : 2 * k + 1 < n
    · obtain ⟨m, rfl⟩ := Int.eq_ofNat_of_zero_le (show 0 ≤ z by have := HZ.out; omega)
      have hkm : k < m := by have := HZ.out; omega
      have hmn : m < n := by have := HZ.out; omega
      have hmk : Hid (m = n - 1 - k) := by have := HZ.out; unfold Hid; omega
      have hc1 := HR.out k (by omega)
      have hc2 := HR.out m (by omega)
      obtain ⟨x, hx⟩ : ∃ x, x = rv n k f k := ⟨_, rfl⟩
      obtain ⟨y, hy⟩ : ∃ y, y = rv n k f m := ⟨_, rfl⟩
      simp only [← hx, ← hy, Nat.zero_add] at hc1 hc2
      have HX := Lib.hid hx
      have HY := Lib.hid hy
      clear hx hy
      have hf := (HW.out k (by omega)).2
      have hf' := (HW.out m (by omega)).2
      rw [Nat.zero_add] at hf hf'
      have b1 : (0 : Int) ≤ (k : Int) := by omega
      have b2 : (k : Int) < (n : Int) := by omega
      have b3 : (0 : Int) ≤ (m : Int) := by omega
      have b4 : (m : Int) < (n : Int) := by omega
      go_wp2
      go_region
      go_wp2
      go_roundw
      case rel => exact ⟨k + 1, _, by go_num, rfl, by unfold Hid; have := HZ.out; omega, by omega, by omega, by omega, ((HO.out.set _ _).set _ _).drewN 1, (HW.out.set _ _).set _ _, rv_next HR.out hmk.out hkm hmn HX.out HY.out⟩
      case measure => simp [intOf] <;> omega
    · have hzk : z ≤ (k : Int) := by have := HZ.out; omega
      go_wp2
      go_end0
      refine ⟨rfl, HO.out, HW.out, fun j hj => (HR.out j hj).trans ?_⟩
      simp only [rv]
      by_cases hc : j < k ∨ n - k ≤ j
      · rw [if_pos hc]
      · rw [if_neg hc]
        rw [show n - 1 - j = j by omega]

/-- A text's bytes from behind. -/
def revB (s : ByteArray) (j : Nat) : Int := ((s.data.toList.getD (s.size - 1 - j) 0).toNat : Int)
theorem bytesRow_get (s : ByteArray) (cap j : Nat) (hj : j < s.size) : (bytesRow s cap)[j]? = some (.int .u8 ((s.data.toList.getD j 0).toNat : Int)) := by
  unfold bytesRow
  have hj' : j < s.data.size := hj
  rw [Array.getElem?_append_left (by simpa using hj')]
  simp [List.getD, Array.getElem?_eq_getElem hj']
theorem bytesRow_size (s : ByteArray) (cap : Nat) : s.size ≤ (bytesRow s cap).size := by
  unfold bytesRow
  simp
/-- What '[]byte(s)' lays can be read and written. -/
theorem bytes_block (w : World) (s : ByteArray) (cap : Nat) (t : TypeId) :
    RowW (w.alloc (.cells (bytesRow s cap) t ((bytesRow s cap).size, (bytesRow s cap).size + 1))).drew w.heap.size 0 s.size ∧
    RowR (w.alloc (.cells (bytesRow s cap) t ((bytesRow s cap).size, (bytesRow s cap).size + 1))).drew w.heap.size 0 s.size (fun j => .int .u8 ((s.data.toList.getD j 0).toNat : Int)) := by
  have h := heap_alloc_new w (.cells (bytesRow s cap) t ((bytesRow s cap).size, (bytesRow s cap).size + 1))
  have hc : ∀ j, j < s.size → (w.alloc (.cells (bytesRow s cap) t ((bytesRow s cap).size, (bytesRow s cap).size + 1))).cell? ⟨w.heap.size, 0 + j, none⟩ = some (.int .u8 ((s.data.toList.getD j 0).toNat : Int)) := fun j hj => by
    rw [Nat.zero_add, cell_of_row _ _ _ _ _ _ h, bytesRow_get s cap j hj]
  refine ⟨fun j hj => ⟨⟨_, hc j hj⟩, ?_⟩, hc⟩
  have hs := bytesRow_size s cap
  show World.frozen? _ _ = false
  unfold World.frozen?
  show (match (w.alloc (.cells (bytesRow s cap) t ((bytesRow s cap).size, (bytesRow s cap).size + 1))).heap[w.heap.size]? with | some (.cells _ _ (lo, hi)) => decide (lo ≤ 0 + j) && decide (0 + j < hi) | _ => false) = _
  rw [h]
  simp only [Bool.and_eq_false_iff]
  left
  simp
  omega

set_option maxHeartbeats 400000 in
theorem reversed_any (s : ByteArray) (w : World) (hn : s.size ≤ 1048576) :
    Calls Try.prog 42 #[.string s] w (NewP w s.size s.size (fun j => .int .u8 (revB s j))) := by
  have kc := fun (W : World) => run_bytes_of_string (P := Try.prog) W 9 22 5 s Try.underlying9 Try.underlying22 Try.underlying5
  go_enter Try.func42, Try.ntmps42
  go_wp2_with fail
  obtain ⟨h1, h2⟩ := bytes_block w s (grownCap w s.size 0 5) 5
  refine (reverse_any _ _ _ _ _ h1 h2 hn).mono ?_
  rintro e w2 ⟨rfl, ho, hw, hr⟩
  have hb : Below w.heap.size w w2 := ⟨ho.os, ho.tape, ho.output, by have := ho.size; simp at this; omega, fun k hk => (ho.block k (by simp; omega) (by intro e; injection e with e; omega)).trans (Below.heap_alloc w _ k hk)⟩
  have hlt : w.heap.size < w2.heap.size := by have := ho.size; simp at this; omega
  have H := Lib.hid (New.of_row hb (Nat.le_refl _) hlt hw hr)
  clear h1 h2 ho hw hr hb
  go_wp2_with fail
  go_ret
  exact ⟨_, _, rfl, H.out⟩

end Go.Proofs.Ytacppheedleamaa
