/- Walks: the back picture of a chart, by the reference. No condition but the bounds. -/
import Derived.Test.YtacppheedleamaaFrontI
import Derived.Test.YtacppheedleamaaReverses
namespace Go.Proofs.Ytacppheedleamaa
open Go.RowKit
set_option maxRecDepth 20000

/-- A byte of a line, seen from behind. -/
def othB (b : Int) : Int := if b = 86 then 45 else if b = 45 then 86 else b
/-- A row of bytes of which the first k have been turned. -/
def bkM (f : Nat → Int) (k j : Nat) : Int := if j < k then othB (f j) else f j
/-- A line from behind. -/
def bkT (s : ByteArray) : ByteArray := strF s.size fun j => othB (revB s j)
theorem bkT_size (s : ByteArray) : (bkT s).size = s.size := strF_size _ _
theorem revB_byte (s : ByteArray) (j : Nat) : 0 ≤ revB s j ∧ revB s j < 256 := by
  unfold revB
  have := (s.data.toList.getD (s.size - 1 - j) 0).toNat_lt
  omega
theorem byte_strF (n : Nat) (z : Nat → Int) (k : Nat) (hk : k < n) (h0 : 0 ≤ z k) (h1 : z k < 256) : (((strF n z).data.toList.getD k 0).toNat : Int) = z k := by
  unfold strF
  rw [strOfNums_data]
  simp [List.getD, hk]
  omega
theorem strF_congr {n : Nat} {f g : Nat → Int} (h : ∀ j, j < n → f j = g j) : strF n f = strF n g := by
  unfold strF
  congr 1
  exact List.map_congr_left fun j hj => h j (List.mem_range.1 hj)
theorem bkM_self (f : Nat → Int) (k : Nat) : bkM f k k = f k := if_neg (Nat.lt_irrefl _)
theorem bkM_next {w : World} {g o a n k : Nat} {f : Nat → Int} (hr : RowR w g o n (fun j => .int .u8 (bkM f k j))) (hk : k < n) (ha : a = o + k) {y : Int} (hy : y = othB (f k)) :
    RowR (w.setCell ⟨g, a, none⟩ (.int .u8 y)) g o n (fun j => .int .u8 (bkM f (k + 1) j)) := by
  subst ha
  intro j hj
  have h1 := hr j hj
  by_cases hjk : j = k
  · subst hjk
    rw [World.cell?_setCell_same _ _ _ h1]
    simp only [bkM]
    rw [if_pos (by omega), hy]
  · rw [World.cell?_setCell_other _ _ _ _ (by intro e; injection e; omega), h1]
    simp only [bkM]
    by_cases hc : j < k
    · rw [if_pos hc, if_pos (by omega)]
    · rw [if_neg hc, if_neg (by omega)]
theorem bkM_stay {w : World} {g o n k : Nat} {f : Nat → Int} (hr : RowR w g o n (fun j => .int .u8 (bkM f k j))) (hy : f k = othB (f k)) :
    RowR w g o n (fun j => .int .u8 (bkM f (k + 1) j)) := fun j hj => by
  rw [hr j hj]
  simp only [bkM]
  by_cases hjk : j = k
  · subst hjk
    rw [if_neg (by omega), if_pos (by omega), ← hy]
  · by_cases hc : j < k
    · rw [if_pos hc, if_pos (by omega)]
    · rw [if_neg hc, if_neg (by omega)]

/-- The lines of the back picture. -/
def bpT (n : Nat) (ns : Nat → Nat) (z : Nat → Nat → Int) (k : Nat) : ByteArray := bkT (fpT n ns z k)
theorem fpT_size (n : Nat) (ns : Nat → Nat) (z : Nat → Nat → Int) (k : Nat) : (fpT n ns z k).size ≤ 4 * ns (n - 1 - k) := by
  unfold fpT
  rw [strOfNums_size, lnL_length]
  exact segM_le _ _

end Go.Proofs.Ytacppheedleamaa
