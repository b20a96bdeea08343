/- Walks and plain lemmas. -/
import Derived.Test.YtmnbgjnipbpiaaaGreatDoorP16
set_option linter.unusedVariables false
set_option linter.unusedSimpArgs false
set_option maxRecDepth 20000
namespace Go.Proofs.YtmnbgjnipbpiaaaGreatDoor
open Go.RowKit
section
variable {n N g cap:Nat}{w w':World}{A:Option Addr}{L:List (G.PM n)}{As:Nat→Option Addr}{cs:Nat→Nat}{B:Nat}{v:Value}
end
section
variable {n:Nat}(T:List (G.PM n))
end
end Go.Proofs.YtmnbgjnipbpiaaaGreatDoor
