/- Contracts of the laws' helpers over slices of int64: measured, copied. (Printed by wip/flatgen.py.) -/
import Derived.Test.YtpmfkpehmckgmaaGreatObjs
import Derived.Deep.RegionHeld3
import Derived.Deep.QuietTactic
import Derived.BigQuiet
namespace Go.Proofs.YtpmfkpehmckgmaaGreat
open Go.RowKit


/-- What the count of a slice's size says: it ran out, or the slice is not longer than what was left. -/
def SzP (w : World) (L n : Nat) (e : Ending) (w' : World) : Prop := ∃ r : Int, (r < 0 ∨ (n ≤ L ∧ r = L - n)) ∧ e = .returned (.int .i64 r) ∧ w = w'
theorem infoInt64' : (Tryz.prog.info? 2).map (fun i => (i.zero, i.size, i.bytes)) = some (some (.int .i64 0), 1, 8) := by kernel_rfl

end Go.Proofs.YtpmfkpehmckgmaaGreat
