/- Plain lemmas for the door's rows: what the listed tables give; a world that holds them. -/
import Derived.Test.YtpgmkkepbnonmaaGreatDoorCards
import Derived.Test.YtpgmkkepbnonmaaGreatDoorTie
import Derived.Test.YtpgmkkepbnonmaaGreatDoorRowWords
import Derived.Test.YtpgmkkepbnonmaaGreatDoorDecI
import Derived.Deep.DeepHandedRow
import Derived.Stop.LaidErr
import Derived.Lib.TrailingZeros
import Derived.OpenShut
import Derived.ProofKit
namespace Go.Proofs.YtpgmkkepbnonmaaGreatDoor
open Go.ChangeShapes Go.WideShapes Go.ChangeAt Go.RowKit

theorem gTabType : (Tryz.prog.globals[0]?).map (·.type) = some 129 := by kernel_rfl
/-- What the row's list gives: strconv's table. -/
theorem table {W : World} (h : laidMet Tryz.prog [("math/bits.deBruijn32tab", Rows.laid_math_bits_deBruijn32tab), ("math/bits.deBruijn64tab", Rows.laid_math_bits_deBruijn64tab), ("internal/strconv.uint64pow10", Rows.laid_internal_strconv_uint64pow10)] W) : Tab W :=
  Lib.tabIs_of_head (rest := []) gTab gTabType Tryz.underlying129 Tryz.underlying110 (by kernel_rfl) (by kernel_rfl) h.tail.tail
/-- The variable of number n holds the values vs. -/
def setTab (n : Nat) (vs : List Value) (h : Array Obj) : Array Obj := h.modify n fun o => match o with
  | .cells _ t frozen => .cells vs.toArray t frozen
  | o => o
/-- A world for the witness: the tables hold what their initialisers lay. -/
noncomputable def laidWorld (os : Os) : World :=
  { World.holding Tryz.prog os ⟨#[], #[], []⟩ with heap := setTab 0 (Lib.pow10Tab.map fun z => Value.int .u64 z) (setTab 1 (Lib.deBruijn32tab.map fun (z : Nat) => Value.int .u8 z) (setTab 2 (Lib.deBruijn64tab.map fun (z : Nat) => Value.int .u8 z) (World.holding Tryz.prog os ⟨#[], #[], []⟩).heap)) }
theorem laid_met (os : Os) (args : Array Value) : laidMet Tryz.prog [("math/bits.deBruijn32tab", Rows.laid_math_bits_deBruijn32tab), ("math/bits.deBruijn64tab", Rows.laid_math_bits_deBruijn64tab), ("internal/strconv.uint64pow10", Rows.laid_internal_strconv_uint64pow10)] ((laidWorld os).forCall (fun _ _ => 0) ⟨#[], args, []⟩).memory :=
  laidMet_of_run' 8 (by kernel_rfl) (by kernel_rfl)
end Go.Proofs.YtpgmkkepbnonmaaGreatDoor
