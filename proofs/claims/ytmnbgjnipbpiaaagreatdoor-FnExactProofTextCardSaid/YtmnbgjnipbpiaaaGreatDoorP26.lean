/- Walks and plain lemmas. -/
import Derived.Test.YtmnbgjnipbpiaaaGreatDoorP25
set_option linter.unusedVariables false
set_option linter.unusedSimpArgs false
set_option maxRecDepth 20000
namespace Go.Proofs.YtmnbgjnipbpiaaaGreatDoor
open Go.RowKit
def qI (w:World)(v:Value)(o:List bP):Prop:=∃A c d,v=.slice A o.length c∧l0 w A o d∧xP o d
theorem qI.below {w w':World}{v:Value}{o:List bP}(h:qI w v o)(hb:Below w.heap.size w w'):qI w' v o:=by
 obtain⟨A,c,d,e,h1,h2⟩:=h;exact⟨A,c,d,e,h1.below hb,h2⟩
def yD (b:bP):Prop:=0≤b.1∧b.1≤12∧G.Word b.1.toNat b.2.1∧b.2.1.length≤40
end Go.Proofs.YtmnbgjnipbpiaaaGreatDoor
