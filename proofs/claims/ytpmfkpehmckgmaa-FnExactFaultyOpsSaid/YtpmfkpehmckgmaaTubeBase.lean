/- Walks: whether a tube is valid, by the program and by the reference; the law's copy of a tube. No condition. -/
import Derived.Test.YtpmfkpehmckgmaaBounds
namespace Go.Proofs.Ytpmfkpehmckgmaa
open Go.RowKit

def tubeB (n r c : Int) : Bool := inB n 1 6 && inB r 0 8 && inB c 1 4

end Go.Proofs.Ytpmfkpehmckgmaa
