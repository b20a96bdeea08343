/- Walks and plain lemmas. -/
import Derived.Test.YtmnbgjnipbpiaaaGreatDoorP02
set_option linter.unusedVariables false
set_option linter.unusedSimpArgs false
namespace Go.Proofs.YtmnbgjnipbpiaaaGreatDoor
open Go.RowKit
theorem Fr.own {B:Nat}{w w':World}{e:TypeId}{size n:Nat}{v:Value}{xs:List Value}(h:Fr w w' (fun b=>v.ownBlock=some b))(ho:w.ownsRow B e size v n xs)(hB:B≤w.heap.size):Below B w w':=
 h.below hB fun b hb=>(ho.lt b hb).1
theorem Fr.cells {g:Nat}{w w':World}{F:Nat→Prop}(h:Fr w w' F)(hg:g<w.heap.size)(hF:¬F g)(o:Nat):w'.cell? ⟨g,o,none⟩=w.cell? ⟨g,o,none⟩:=World.cell?_of_block (h.block g hg hF)
end Go.Proofs.YtmnbgjnipbpiaaaGreatDoor
