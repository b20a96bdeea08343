/- Walks of the laws' helpers on texts: markText, eqStringS, markStringS, heldStringS. -/
import Derived.Test.YtacppheedleamaaBase
import Derived.Deep.RegionHeld3
import Derived.Deep.QuietTactic
import Derived.BigQuiet
import Derived.Laws.BytesArg
import Derived.Lib.Hide
namespace Go.Proofs.Ytacppheedleamaa
open Go.RowKit

/-- The decimal digits of n ahead of s. -/
def mtGo : Nat → Nat → ByteArray → ByteArray
  | 0, _, s => s
  | f + 1, n, s => if n = 0 then s else mtGo f (n / 10) (strOfNums [48 + (n : Int) % 10] ++ s)
/-- The text that the laws mark a place with. -/
def mtS (k : Int) : ByteArray := if k ≤ 0 then ⟨#[109, 48]⟩ else ⟨#[109]⟩ ++ mtGo k.toNat k.toNat ⟨#[]⟩
theorem mtGo_zero (f : Nat) (s : ByteArray) : mtGo f 0 s = s := by cases f <;> simp [mtGo]
theorem mtGo_step {f n : Nat} {s : ByteArray} (hn : 0 < n) : mtGo (f + 1) n s = mtGo f (n / 10) (strOfNums [48 + (n : Int) % 10] ++ s) := by
  rw [mtGo, if_neg (by omega)]

/-- 'string([]byte{x})' of a row that was just laid. -/
theorem conv_one (W : World) (x : Int) : (convert 22 9 (.slice (some ⟨W.heap.size, 0, none⟩) 1 1)).run Try.prog (W.alloc (.cells #[.int .u8 x] 5)) = .ok (.string (strOfNums [x])) (W.alloc (.cells #[.int .u8 x] 5)) :=
  run_convert_bytes_arg (P := Try.prog) _ 22 5 Try.underlying22 Try.underlying5 W.heap.size 0 1 1 [x] rfl (fun i hi => by
    obtain rfl : i = 0 := by omega
    simp [World.cell?_alloc_at]) 9 Try.underlying9

/-- What the count of a text slice's size says: it ran out, or the slice is not long and no text in it is. -/
def SzS (n : Nat) (s : Nat → ByteArray) (r : Int) : Prop := r < 0 ∨ (n ≤ 1048576 ∧ ∀ j, j < n → (s j).size ≤ 1048576)
def SzSP (w : World) (n : Nat) (s : Nat → ByteArray) (e : Ending) (w' : World) : Prop := ∃ r : Int, SzS n s r ∧ e = .returned (.int .i64 r) ∧ w = w'

theorem infoString : (Try.prog.info? 9).map (fun i => (i.zero, i.size, i.bytes)) = some (some (.string ByteArray.empty), 1, 16) := by kernel_rfl
theorem infoByte : (Try.prog.info? 5).map (fun i => (i.zero, i.size, i.bytes)) = some (some (.int .u8 0), 1, 1) := by kernel_rfl

/-- A function that hands back a new slice of n elements without spare room, whose N cells read as f. -/
def FullP (w : World) (n N : Nat) (f : Nat → Value) (e : Ending) (w' : World) : Prop := ∃ A, e = .returned (.slice A n n) ∧ New w w' A N f
end Go.Proofs.Ytacppheedleamaa
