/- Walk: the reference's line of strands. No condition but the bounds. -/
import Derived.Test.YtacppheedleamaaLines
namespace Go.Proofs.Ytacppheedleamaa
open Go.RowKit
set_option maxRecDepth 20000

def strandV (m : Nat) : List Value := (List.range m).map fun j => .int .u8 (lineZ j)
theorem strandV_next (m : Nat) : strandV (m + 1) = strandV m ++ [.int .u8 (lineZ m)] := by simp [strandV, List.range_succ]
end Go.Proofs.Ytacppheedleamaa
