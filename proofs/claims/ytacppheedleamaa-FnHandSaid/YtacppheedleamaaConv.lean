/- Conversions of bytes to a text; a row of the call's own behind writes to another block. -/
import Derived.Test.YtacppheedleamaaObjs
import Derived.Laws.IdiomStrings
namespace Go.Proofs.Ytacppheedleamaa
open Go.RowKit

/-- The text of n bytes z. -/
def strF (n : Nat) (z : Nat → Int) : ByteArray := strOfNums ((List.range n).map z)
theorem conv_rd {W : World} {A : Option Addr} {n c : Nat} {z : Nat → Int} (h : Rd W A n (fun j => .int .u8 (z j))) :
    (convert 22 9 (.slice A n c)).run Try.prog W = .ok (.string (strF n z)) W := by
  rcases Nat.eq_zero_or_pos n with h0 | h0
  · subst h0
    rcases A with _ | ⟨g, o, sp⟩
    · exact run_convert_bytes_nil W 22 5 Try.underlying22 Try.underlying5 0 c 9 Try.underlying9
    · rw [run_convert_bytes_string W 22 9 5 _ 0 c Try.underlying22 Try.underlying5 Try.underlying9]
      have hl := run_loadCells_list (P := Try.prog) W ⟨g, o, sp⟩ [] (fun j v hj => by simp at hj)
      exact run_bytesToString W ⟨g, o, sp⟩ 0 c [] hl
  · obtain ⟨g, o, rfl, _, hr⟩ := h h0
    exact run_convert_bytes_arg W 22 5 Try.underlying22 Try.underlying5 g o n c _ (by simp) (fun i hi => (hr i hi).trans (by simp [List.getD, hi])) 9 Try.underlying9
theorem own_fr {B g : Nat} {w w' : World} {e : TypeId} {size n : Nat} {v : Value} {xs : List Value} (ho : w.ownsRow B e size v n xs) (hf : Fr w w' (fun b => b = g)) (hg : ∀ k, v.ownBlock = some k → k ≠ g) : w'.ownsRow B e size v n xs :=
  ho.kept (row := some g) ⟨hf.os, hf.tape, hf.output, hf.size, fun k hk hne => hf.block k hk (fun e => hne (by rw [e]))⟩ (by
    cases h : v.ownBlock with
    | none => simp
    | some k => have := hg k h; simp; exact this)
theorem strF_size (n : Nat) (z : Nat → Int) : (strF n z).size = n := by simp [strF, strOfNums, ByteArray.size]
end Go.Proofs.Ytacppheedleamaa
