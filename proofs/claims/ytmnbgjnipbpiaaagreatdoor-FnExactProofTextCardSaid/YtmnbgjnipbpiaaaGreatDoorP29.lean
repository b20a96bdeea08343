/- Walks and plain lemmas. -/
import Derived.Test.YtmnbgjnipbpiaaaGreatDoorP28
set_option linter.unusedVariables false
set_option linter.unusedSimpArgs false
set_option maxRecDepth 20000
namespace Go.Proofs.YtmnbgjnipbpiaaaGreatDoor
open Go.RowKit
def tL (w:World)(v:Value)(o:List bP):Prop:=qI w v o∧∀b∈o,yD b
theorem tL.below {w w':World}{v:Value}{o:List bP}(h:tL w v o)(hb:Below w.heap.size w w'):tL w' v o:=⟨h.1.below hb,h.2⟩
end Go.Proofs.YtmnbgjnipbpiaaaGreatDoor
