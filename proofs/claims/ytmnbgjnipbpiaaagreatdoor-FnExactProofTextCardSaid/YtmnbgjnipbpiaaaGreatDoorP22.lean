/- Walks and plain lemmas. -/
import Derived.Test.YtmnbgjnipbpiaaaGreatDoorP21
set_option linter.unusedVariables false
set_option linter.unusedSimpArgs false
set_option maxRecDepth 20000
namespace Go.Proofs.YtmnbgjnipbpiaaaGreatDoor
open Go.RowKit
structure cG where
 W:Nat→Option Addr
 S:Nat→Option Addr
 cw:Nat→Nat
 cs:Nat→Nat
 m:Nat→Nat
def l0 (w:World)(A:OA)(o:List bP)(d:cG):Prop:=0<o.length→∃g off,A=some ⟨g,off,none⟩∧g<w.heap.size∧∀j b,o[j]?=some b→iA w g (off+j*3) b (d.W j) (d.S j) (d.cw j) (d.cs j) (d.m j)
theorem l0.below {w w':World}{A:Option Addr}{o:List bP}{d:cG}(h:l0 w A o d)(hb:Below w.heap.size w w'):l0 w' A o d:=fun h0=>by
 obtain⟨g,off,e,hg,hr⟩:=h h0;exact⟨g,off,e,Nat.lt_of_lt_of_le hg hb.size,fun j b hj=>(hr j b hj).below hb⟩
theorem l0.drewN {w:World}{A:Option Addr}{o:List bP}{d:cG}(h:l0 w A o d)(q:Nat):l0 (w.drewN q) A o d:=fun h0=>by
 obtain⟨g,off,e,hg,hr⟩:=h h0;exact⟨g,off,e,hg,fun j b hj=>(hr j b hj).drewN q⟩
def xP (o:List bP)(d:cG):Prop:=o.length≤1000000∧∀j b,o[j]?=some b→yC b (d.m j)
end Go.Proofs.YtmnbgjnipbpiaaaGreatDoor
