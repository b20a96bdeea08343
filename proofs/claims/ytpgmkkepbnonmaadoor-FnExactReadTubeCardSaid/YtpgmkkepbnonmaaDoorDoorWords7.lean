/- Plain lemmas for the door's rows over strconv's and utf8's tables and strconv's errors: what the listed variables give; a world that holds them. -/
import Derived.Test.YtpgmkkepbnonmaaDoorCards
import Derived.Test.YtpgmkkepbnonmaaDoorTie
import Derived.Test.YtpgmkkepbnonmaaDoorRowWords
import Derived.Test.YtpgmkkepbnonmaaDoorDoorVars
import Derived.Deep.DeepHandedRow
import Derived.Stop.LaidErr
import Derived.Lib.TrailingZeros
import Derived.Shelf.Vars
import Derived.OpenShut
import Derived.ProofKit
namespace Go.Proofs.YtpgmkkepbnonmaaDoor
open Go.ChangeShapes Go.WideShapes Go.ChangeAt Go.RowKit

abbrev L7 : List (String × DataW Unit) := [("math/bits.deBruijn32tab", Rows.laid_math_bits_deBruijn32tab), ("math/bits.deBruijn64tab", Rows.laid_math_bits_deBruijn64tab), ("internal/strconv.uint64pow10", Rows.laid_internal_strconv_uint64pow10), ("unicode/utf8.acceptRanges", Rows.laid_unicode_utf8_acceptRanges), ("strconv.ErrRange", Rows.laid_strconv_ErrRange), ("strconv.ErrSyntax", Rows.laid_strconv_ErrSyntax), ("unicode/utf8.first", Rows.laid_unicode_utf8_first)]
theorem gTabType : (Tryd.prog.globals[3]?).map (·.type) = some 107 := by kernel_rfl
theorem gESType : (Tryd.prog.globals[1]?).map (·.type) = some 53 := by kernel_rfl
theorem gERType : (Tryd.prog.globals[2]?).map (·.type) = some 53 := by kernel_rfl
theorem star : "*" ++ "errors.errorString" = "*errors.errorString" := by decide
theorem rowES (u : TypeId) (h : Tryd.prog.typeName? 3 u = some "*errors.errorString") : u = 103 :=
  typeName_ptr_named (nm := "errors.errorString") (by rw [star]; kernel_rfl) (by kernel_rfl) (by decide) u (by rw [star]; exact h)
theorem cellsES : Tryd.prog.cellsOf 105 = 1 := by kernel_rfl
theorem cellsStr : Tryd.prog.cellsOf 9 = 1 := by kernel_rfl
/-- What the row's list gives, and the world's shape. -/
theorem door {W : World} (h : laidMet Tryd.prog L7 W) (hsh : W.ShapedOpen Tryd.prog) : Door W := by
  have h3 := h.tail.tail
  obtain ⟨a1, s1, v1, _⟩ := laid_sentinel h3.tail.tail gER gERType Tryd.underlying53 rowES Tryd.underlying103 Tryd.underlying105 rfl rfl Tryd.underlying9 cellsES cellsStr
  obtain ⟨a2, s2, v2, _⟩ := laid_sentinel h3.tail.tail.tail gES gESType Tryd.underlying53 rowES Tryd.underlying103 Tryd.underlying105 rfl rfl Tryd.underlying9 cellsES cellsStr
  exact ⟨Lib.tabIs_of_head gTab gTabType Tryd.underlying107 Tryd.underlying72 (by kernel_rfl) (by kernel_rfl) h3, ⟨_, _, v2⟩, ⟨_, _, v1⟩,
    cell_of_shapedOpen_int (zero := #[.int .i64 0]) (t := 3) hsh (of_decide_eq_true (by kernel_rfl)) (by kernel_rfl) rfl (by kernel_rfl) (by kernel_rfl) Tryd.underlying3⟩
/-- The variable of number n holds the values vs. -/
def setTab (n : Nat) (vs : List Value) (h : Array Obj) : Array Obj := h.modify n fun o => match o with
  | .cells _ t frozen => .cells vs.toArray t frozen
  | o => o
/-- So many blocks has the settled world. -/
noncomputable def low : Nat := (World.holding Tryd.prog default ⟨#[], #[], []⟩).heap.size
/-- The settled world with two blocks more: the errors of errors.New. -/
noncomputable def holdE (os : Os) : World := World.holding Tryd.prog os ⟨#[.cells #[.string ⟨#[118, 97, 108, 117, 101, 32, 111, 117, 116, 32, 111, 102, 32, 114, 97, 110, 103, 101]⟩] 105, .cells #[.string ⟨#[105, 110, 118, 97, 108, 105, 100, 32, 115, 121, 110, 116, 97, 120]⟩] 105], #[], []⟩
/-- A world for the witness: the tables hold what their initialisers lay, the errors theirs. -/
noncomputable def laidWorld (os : Os) : World :=
  { holdE os with heap := setTab 4 (Go.Pinned.utf8FirstZ.map fun (z : Nat) => Value.int .u8 z) (setTab 5 [Value.int .u8 128, Value.int .u8 191, Value.int .u8 160, Value.int .u8 191, Value.int .u8 128, Value.int .u8 159, Value.int .u8 144, Value.int .u8 191, Value.int .u8 128, Value.int .u8 143, Value.int .u8 0, Value.int .u8 0, Value.int .u8 0, Value.int .u8 0, Value.int .u8 0, Value.int .u8 0, Value.int .u8 0, Value.int .u8 0, Value.int .u8 0, Value.int .u8 0, Value.int .u8 0, Value.int .u8 0, Value.int .u8 0, Value.int .u8 0, Value.int .u8 0, Value.int .u8 0, Value.int .u8 0, Value.int .u8 0, Value.int .u8 0, Value.int .u8 0, Value.int .u8 0, Value.int .u8 0] (setTab 2 [Value.iface 103 (.pointer (some ⟨low, 0, none⟩))] (setTab 1 [Value.iface 103 (.pointer (some ⟨low + 1, 0, none⟩))] (setTab 3 (Lib.pow10Tab.map fun z => Value.int .u64 z) (setTab 6 (Lib.deBruijn32tab.map fun (z : Nat) => Value.int .u8 z) (setTab 7 (Lib.deBruijn64tab.map fun (z : Nat) => Value.int .u8 z) (holdE os).heap)))))) }
theorem laid_met (os : Os) (args : Array Value) : laidMet Tryd.prog L7 ((laidWorld os).forCall (fun _ _ => 0) ⟨#[], args, []⟩).memory :=
  laidMet_of_run' 8 (by kernel_rfl) (by kernel_rfl)
end Go.Proofs.YtpgmkkepbnonmaaDoor
