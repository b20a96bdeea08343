/- Walks: the front picture of a chart, by the reference. No condition but the bounds. -/
import Derived.Test.YtacppheedleamaaChartH
import Derived.Test.YtacppheedleamaaStrLaw
namespace Go.Proofs.Ytacppheedleamaa
open Go.RowKit
set_option maxRecDepth 20000

/-- The byte of a stitch in pictures. -/
def syB (k : Int) : Int := if k = 1 then 86 else if k = 2 then 45 else if k = 3 then 79 else if k = 4 then 47 else if k = 5 then 92 else if k = 6 then 85 else if k = 7 then 124 else if k = 8 then 120 else if k = 9 then 121 else if k = 10 then 88 else 89
/-- The line of the first stitches. -/
def lnL (z : Nat → Int) : Nat → List Int
  | 0 => []
  | i + 1 => lnL z i ++ List.replicate (mkN (z i)) (syB (z i))
theorem lnL_length (z : Nat → Int) (i : Nat) : (lnL z i).length = segM z i := by
  induction i with
  | zero => rfl
  | succ i ih => simp only [lnL, segM, List.length_append, ih, List.length_replicate]
theorem son_append (a b : List Int) : strOfNums a ++ strOfNums b = strOfNums (a ++ b) := by
  apply ByteArray.ext
  simp [strOfNums]
def fpT (n : Nat) (ns : Nat → Nat) (z : Nat → Nat → Int) (k : Nat) : ByteArray := strOfNums (lnL (z (n - 1 - k)) (ns (n - 1 - k)))
def fpV (n : Nat) (ns : Nat → Nat) (z : Nat → Nat → Int) (m : Nat) : List Value := (List.range m).map fun j => .string (fpT n ns z j)
theorem fpV_next (n : Nat) (ns : Nat → Nat) (z : Nat → Nat → Int) (m : Nat) : fpV n ns z (m + 1) = fpV n ns z m ++ [.string (fpT n ns z m)] := by simp [fpV, List.range_succ]
/-- The stitches of all rows are stitches. -/
def KindsOk (n : Nat) (ns : Nat → Nat) (z : Nat → Nat → Int) : Prop := ∀ r, r < n → stitchesB (z r) (ns r) = true
theorem chartB_of {cols : Int} {n : Nat} {d c : Nat → Int} {ns : Nat → Nat} {z : Nat → Nat → Int} (h : chartB cols n d c ns z = true) : 1 ≤ cols ∧ cols ≤ 8 ∧ 1 ≤ n ∧ n ≤ 8 ∧ KindsOk n ns z := by
  simp only [chartB, Bool.and_eq_true, decide_eq_true_eq] at h
  obtain ⟨⟨h1, h2⟩, h3⟩ := h
  have := inB_of h1
  refine ⟨this.1, this.2, h2.1, h2.2, fun r hr => ?_⟩
  have := rowsB_all h3 r hr
  simp only [rowB, Bool.and_eq_true] at this
  exact this.1.1.2
end Go.Proofs.Ytacppheedleamaa
