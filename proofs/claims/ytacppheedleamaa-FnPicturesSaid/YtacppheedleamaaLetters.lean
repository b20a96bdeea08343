/- The letter of a line of a picture, as the reference and as the program find it; both find the letter of a letter's own line. -/
import Derived.Test.YtacppheedleamaaConv
import Derived.Test.YtacppheedleamaaLines
import Derived.IntWalk
namespace Go.Proofs.Ytacppheedleamaa
open Go.RowKit
set_option maxRecDepth 20000

/-- Byte k of a text. -/
def byteAt (s : ByteArray) (k : Nat) : Int := ((s.data.toList.getD k 0).toNat : Int)
theorem byteAt_get (s : ByteArray) (k : Nat) (h : k < s.size) : byteAt s k = (s[k].toNat : Int) := by
  unfold byteAt
  have hl : k < s.data.toList.length := by simpa using h
  rw [List.getD_eq_getElem?_getD, List.getElem?_eq_getElem hl]
  rfl
theorem byteAt_strF (n : Nat) (z : Nat → Int) (k : Nat) (hk : k < n) (h0 : 0 ≤ z k) (h1 : z k < 256) : byteAt (strF n z) k = z k := by
  unfold byteAt strF strOfNums
  simp [List.getD, hk]
  omega
/-- The reference: the first letter at an odd place from k on. -/
def l1From (s : ByteArray) : Nat → Nat → Int
  | 0, _ => 0
  | f + 1, k => if k < s.size then (if byteAt s k = 120 then ((k + 1) / 2 : Nat) else if byteAt s k = 121 then -((k + 1) / 2 : Nat) else l1From s f (k + 2)) else 0
/-- The program: the last letter of the first k bytes. -/
def l2Upto (s : ByteArray) : Nat → Int
  | 0 => 0
  | k + 1 => if byteAt s k = 120 then ((k + 1) / 2 : Nat) else if byteAt s k = 121 then -((k + 1) / 2 : Nat) else l2Upto s k
def let1 (s : ByteArray) : Int := l1From s s.size 1
def let2 (s : ByteArray) : Int := l2Upto s s.size
theorem l1_step {s : ByteArray} {f k : Nat} (hk : k < s.size) (h0 : byteAt s k ≠ 120) (h1 : byteAt s k ≠ 121) : l1From s (f + 1) k = l1From s f (k + 2) := by
  rw [l1From, if_pos hk, if_neg h0, if_neg h1]
theorem crossZ_lt (f : Nat → Int) (p : Nat) (b : Bool) (j : Nat) (h : 0 ≤ f j ∧ f j < 256) : 0 ≤ crossZ f p b j ∧ crossZ f p b j < 256 := by
  unfold crossZ
  repeat' split
  all_goals omega
theorem lineZ_cases (j : Nat) : lineZ j = 124 ∨ lineZ j = 32 := by unfold lineZ; split <;> simp
/-- What stands in a letter's line. -/
theorem cross_byte (N p : Nat) (b : Bool) (k : Nat) (_ : 2 * p + 2 < N) (hk : k < N) :
    byteAt (strF N (crossZ lineZ p b)) k = crossZ lineZ p b k := by
  have := lineZ_cases k
  have h := crossZ_lt lineZ p b k (by omega)
  exact byteAt_strF N _ k hk h.1 h.2
theorem cross_at (p : Nat) (b : Bool) : crossZ lineZ p b (2 * p + 1) = if b then 120 else 121 := by
  unfold crossZ
  rw [if_neg (by omega), if_pos rfl]
theorem cross_not (p : Nat) (b : Bool) (k : Nat) (h : k ≠ 2 * p + 1) : crossZ lineZ p b k ≠ 120 ∧ crossZ lineZ p b k ≠ 121 := by
  have := lineZ_cases k
  unfold crossZ
  repeat' split
  all_goals omega
def signed (p : Nat) (b : Bool) : Int := if b then ((p + 1 : Nat) : Int) else -((p + 1 : Nat) : Int)
theorem let1_cross (N p : Nat) (b : Bool) (hp : 2 * p + 2 < N) : let1 (strF N (crossZ lineZ p b)) = signed p b := by
  have hs := strF_size N (crossZ lineZ p b)
  have key : ∀ d f i, i + d = p → d < f → l1From (strF N (crossZ lineZ p b)) f (2 * i + 1) = signed p b := by
    intro d
    induction d with
    | zero =>
      intro f i hi hf
      obtain ⟨f', rfl⟩ : ∃ f', f = f' + 1 := ⟨f - 1, by omega⟩
      obtain rfl : i = p := by omega
      rw [l1From, if_pos (by omega), cross_byte N i b _ hp (by omega), cross_at]
      have h2 : (2 * i + 1 + 1) / 2 = i + 1 := by omega
      cases b
      · simp [signed, h2]
      · simp [signed, h2]
    | succ d ih =>
      intro f i hi hf
      obtain ⟨f', rfl⟩ : ∃ f', f = f' + 1 := ⟨f - 1, by omega⟩
      have hn := cross_not p b (2 * i + 1) (by omega)
      rw [l1_step (by omega) (by rw [cross_byte N p b _ hp (by omega)]; exact hn.1) (by rw [cross_byte N p b _ hp (by omega)]; exact hn.2)]
      exact ih f' (i + 1) (by omega) (by omega)
  have := key p N 0 (by omega) (by omega)
  unfold let1
  rw [hs]
  exact this
theorem let2_cross (N p : Nat) (b : Bool) (hp : 2 * p + 2 < N) : let2 (strF N (crossZ lineZ p b)) = signed p b := by
  have hs := strF_size N (crossZ lineZ p b)
  have key : ∀ k, 2 * p + 1 < k → k ≤ N → l2Upto (strF N (crossZ lineZ p b)) k = signed p b := by
    intro k
    induction k with
    | zero => intro h; omega
    | succ k ih =>
      intro h hk
      rw [l2Upto, cross_byte N p b _ hp (by omega)]
      by_cases he : k = 2 * p + 1
      · subst he
        rw [cross_at]
        have h2 : (2 * p + 1 + 1) / 2 = p + 1 := by omega
        cases b
        · simp [signed, h2]
        · simp [signed, h2]
      · have hn := cross_not p b k he
        rw [if_neg hn.1, if_neg hn.2]
        exact ih (by omega) (by omega)
  unfold let2
  rw [hs]
  exact key N (by omega) (Nat.le_refl _)

theorem half_pos (k : Nat) : ((k : Int) + 1).tdiv 2 = (((k + 1) / 2 : Nat) : Int) := by
  rw [Int.tdiv_eq_ediv_of_nonneg (by omega)]
  omega
theorem neg_half (k : Nat) (h : k ≤ 1048576) : wrap64 (-((k : Int) + 1).tdiv 2) = -(((k + 1) / 2 : Nat) : Int) := by
  rw [half_pos]
  exact IntWalk.wrap64_in _ (by omega)
end Go.Proofs.Ytacppheedleamaa
