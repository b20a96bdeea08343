/- Walks and plain lemmas. -/
import Derived.Test.YtmnbgjnipbpiaaaGreatDoorP05
import Derived.Test.YtmnbgjnipbpiaaaGreatDoorP03
set_option linter.unusedVariables false
set_option linter.unusedSimpArgs false
namespace Go.Proofs.YtmnbgjnipbpiaaaGreatDoor
open Go.RowKit
theorem New.drewN {w w':World}{A:Option Addr}{N:Nat}{f:Nat→Value}(h:New w w' A N f)(q:Nat):New w (w'.drewN q) A N f:=⟨Below.drewN' h.bl q,h.ab,h.bb,h.wr,h.rd⟩
end Go.Proofs.YtmnbgjnipbpiaaaGreatDoor
