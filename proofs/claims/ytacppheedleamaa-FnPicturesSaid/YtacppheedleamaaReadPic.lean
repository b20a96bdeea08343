/- Walks: both ReadBraidPicture. No condition but the bounds. -/
import Derived.Test.YtacppheedleamaaLetters
import Derived.Test.YtacppheedleamaaPictures
import Derived.Test.YtacppheedleamaaObj2
import Derived.Deep.RegionLaw
import Derived.Deep.DrawnRows
namespace Go.Proofs.Ytacppheedleamaa
open Go.RowKit
set_option maxRecDepth 20000
attribute [local go_sem ↓] Go.wp_at_zero Go.wp_at_succ

theorem infoI64 : (Try.prog.info? 2).map (fun i => (i.zero, i.size, i.bytes)) = some (some (.int .i64 0), 1, 8) := by kernel_rfl
def wordV (z : Nat → Int) (m : Nat) : List Value := (List.range m).map fun j => .int .i64 (z j)
theorem wordV_next (z : Nat → Int) (m : Nat) : wordV z (m + 1) = wordV z m ++ [.int .i64 (z m)] := by simp [wordV, List.range_succ]
/-- The lines of a list of texts behind its first. -/
def z1 (l : Nat → ByteArray) (j : Nat) : Int := let1 (l (j + 1))
def z2 (l : Nat → ByteArray) (j : Nat) : Int := let2 (l (j + 1))
def strandsOf (l : Nat → ByteArray) : Nat := ((l 0).size + 1) / 2
/-- Whether the first k lines of the picture of the letters z are those of l. -/
def sameTo (l : Nat → ByteArray) (z : Nat → Int) : Nat → Bool
  | 0 => true
  | k + 1 => sameTo l z k && decide (picF (strandsOf l) z k = l k)
def okL (l : Nat → ByteArray) (m : Nat) (z : Nat → Int) : Bool := decide (1 ≤ m) && decide (m ≤ 41) && braidB (strandsOf l) (m - 1) z && sameTo l z m
theorem sameTo_all {l : Nat → ByteArray} {z : Nat → Int} : ∀ {m : Nat}, sameTo l z m = true → ∀ j, j < m → picF (strandsOf l) z j = l j
  | 0, _, j, hj => absurd hj (by omega)
  | m + 1, h, j, hj => by
    simp only [sameTo, Bool.and_eq_true] at h
    rcases Nat.lt_or_ge j m with hlt | hge
    · exact sameTo_all h.1 j hlt
    · obtain rfl : j = m := by omega
      simpa using h.2
theorem sameTo_of {l : Nat → ByteArray} {z : Nat → Int} : ∀ {m : Nat}, (∀ j, j < m → picF (strandsOf l) z j = l j) → sameTo l z m = true
  | 0, _ => rfl
  | m + 1, h => by
    simp only [sameTo, Bool.and_eq_true]
    exact ⟨sameTo_of fun j hj => h j (by omega), by simpa using h m (by omega)⟩
theorem sameTo_not {l : Nat → ByteArray} {z : Nat → Int} {m j : Nat} (hj : j < m) (h : picF (strandsOf l) z j ≠ l j) : sameTo l z m = false := by
  cases hc : sameTo l z m
  · rfl
  · exact absurd (sameTo_all hc j hj) h
theorem lettersB_congr {s : Int} {z z' : Nat → Int} : ∀ {n : Nat}, (∀ j, j < n → z j = z' j) → lettersB s z n = lettersB s z' n
  | 0, _ => rfl
  | n + 1, h => by
    simp only [lettersB]
    rw [lettersB_congr fun j hj => h j (by omega), h n (by omega)]
theorem signed_natAbs (x : Int) (h : x ≠ 0) : signed (x.natAbs - 1) (decide (0 < x)) = x := by
  unfold signed
  by_cases hp : 0 < x
  · simp [hp]; omega
  · simp [hp]; omega
/-- Where the letters z make the picture l, both readings give z. -/
theorem read_same {l : Nat → ByteArray} {m : Nat} {z : Nat → Int} (h : okL l m z = true) : ∀ j, j < m - 1 → z1 l j = z j ∧ z2 l j = z j := by
  intro j hj
  simp only [okL, Bool.and_eq_true] at h
  obtain ⟨⟨⟨h1, h2⟩, hb⟩, hs⟩ := h
  have h1 : 1 ≤ m := by simpa using h1
  have hl := sameTo_all hs (j + 1) (by omega)
  simp only [braidB, Bool.and_eq_true] at hb
  have hz := lettersB_all hb.2 j hj
  rw [picF_next] at hl
  have hp : 2 * ((z j).natAbs - 1) + 2 < 2 * strandsOf l - 1 := by omega
  unfold z1 z2
  rw [← hl]
  exact ⟨(let1_cross _ _ _ hp).trans (signed_natAbs _ hz.1), (let2_cross _ _ _ hp).trans (signed_natAbs _ hz.1)⟩
theorem okL_congr {l : Nat → ByteArray} {m : Nat} {z z' : Nat → Int} (hm : 1 ≤ m) (h : ∀ j, j < m - 1 → z j = z' j) : okL l m z = okL l m z' := by
  have hs : ∀ k, k ≤ m → sameTo l z k = sameTo l z' k := by
    intro k
    induction k with
    | zero => intro _; rfl
    | succ k ih =>
      intro hk
      simp only [sameTo]
      rw [ih (by omega)]
      congr 2
      cases k with
      | zero => rfl
      | succ k => rw [picF_next, picF_next, h k (by omega)]
  unfold okL braidB
  rw [hs m (Nat.le_refl _), lettersB_congr h]
theorem ok_both (l : Nat → ByteArray) (m : Nat) : okL l m (z1 l) = okL l m (z2 l) := by
  rcases Nat.eq_zero_or_pos m with h0 | h0
  · subst h0; simp [okL]
  cases h1 : okL l m (z1 l)
  · cases h2 : okL l m (z2 l)
    · rfl
    · have := okL_congr (l := l) h0 fun j hj => (read_same h2 j hj).1
      rw [h1, h2] at this
      exact this
  · exact ((okL_congr h0 fun j hj => ((read_same h1 j hj).2 : z2 l j = z1 l j)).trans h1).symm

/-- What both hand back: the braid whose picture the list is, or none. -/
def ReadP (w : World) (l : Nat → ByteArray) (m : Nat) (e : Ending) (w' : World) : Prop :=
  ∃ A c, e = .returned (.tuple #[.agg #[.int .i64 (if okL l m (z1 l) then (strandsOf l : Int) else 0), .slice A (if okL l m (z1 l) then m - 1 else 0) c], .bool (okL l m (z1 l))]) ∧ New w w' A (if okL l m (z1 l) then m - 1 else 0) (fun j => .int .i64 (z1 l j))
theorem ReadP.no {w w' : World} {l : Nat → ByteArray} {m : Nat} {c : Nat} (h : okL l m (z1 l) = false) (hb : Below w.heap.size w w') : ReadP w l m (.returned (.tuple #[.agg #[.int .i64 0, .slice none 0 c], .bool false])) w' := by
  refine ⟨none, c, ?_, ?_⟩
  · simp [h]
  · simp only [h, Bool.false_eq_true, if_false]
    exact New.none_ hb _
theorem ReadP.yes {w w' : World} {l : Nat → ByteArray} {m : Nat} {A : Option Addr} {c : Nat} (h : okL l m (z1 l) = true) (hn : New w w' A (m - 1) (fun j => .int .i64 (z1 l j))) : ReadP w l m (.returned (.tuple #[.agg #[.int .i64 (strandsOf l), .slice A (m - 1) c], .bool true])) w' := by
  refine ⟨A, c, ?_, ?_⟩
  · simp [h]
  · simpa only [h, if_true] using hn
theorem ReadP.end_ {w w' : World} {l z : _} {m S : Nat} {A : Option Addr} {c : Nat} (hS : S = strandsOf l) (hz : okL l m z = true) (h : okL l m (z1 l) = true) (hb : Below w.heap.size w w') (ho : w'.ownsRow (w.heap.size + 2) 2 1 (.slice A (m - 1) c) (m - 1) (wordV z (m - 1))) :
    ReadP w l m (.returned (.tuple #[.agg #[.int .i64 S, .slice A (m - 1) c], .bool true])) w' := by
  subst hS
  obtain ⟨A5, c5, e5, hn5⟩ := New.of_own (w := w) hb (own_base ho (by omega))
  injection e5 with e1 _ e3
  subst e1 e3
  rw [Nat.mul_one] at hn5
  exact ReadP.yes h (hn5.congr fun j hj => by simp [wordV, List.getD, hj, (read_same hz j hj).1])
theorem okL_big {l : Nat → ByteArray} {m : Nat} {z : Nat → Int} (h : m = 0 ∨ 41 < m) : okL l m z = false := by
  unfold okL
  rcases h with h | h
  · simp [h]
  · simp [show ¬ m ≤ 41 by omega]

end Go.Proofs.Ytacppheedleamaa
