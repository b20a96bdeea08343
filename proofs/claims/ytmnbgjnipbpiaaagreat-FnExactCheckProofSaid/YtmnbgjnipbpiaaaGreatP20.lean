/- Walks and plain lemmas. -/
import Derived.Test.YtmnbgjnipbpiaaaGreatP19
set_option linter.unusedVariables false
set_option linter.unusedSimpArgs false
set_option maxRecDepth 20000
namespace Go.Proofs.YtmnbgjnipbpiaaaGreat
open Go.RowKit
structure nL (w:World)(g o:Nat)(b:aF)(W S:OA)(cw cs m:Nat):Prop where
 c0:w.cell? ⟨g,o,none⟩=some (.int .i64 b.1)
 c1:w.cell? ⟨g,o+1,none⟩=some (.slice W b.2.1.length cw)
 c2:w.cell? ⟨g,o+2,none⟩=some (.slice S m cs)
 rw:aG w W b.2.1
 ln:b.2.2.length=m*6
 rs:Rd w S (m*6) (fun j=>.int .i64 (b.2.2.getD j 0))
theorem nL.lt {w:World}{g o:Nat}{b:aF}{W S:Option Addr}{cw cs m:Nat}(h:nL w g o b W S cw cs m):g<w.heap.size:=World.block_lt_of_cell? w _ h.c0
theorem nL.below {w w':World}{g o:Nat}{b:aF}{W S:Option Addr}{cw cs m:Nat}(h:nL w g o b W S cw cs m)(hb:Below w.heap.size w w'):nL w' g o b W S cw cs m:=
 ⟨a7 hb h.lt h.c0,a7 hb h.lt h.c1,a7 hb h.lt h.c2,h.rw.below hb,h.ln,h.rs.below hb⟩
theorem nL.drewN {w:World}{g o:Nat}{b:aF}{W S:Option Addr}{cw cs m:Nat}(h:nL w g o b W S cw cs m)(q:Nat):nL (w.drewN q) g o b W S cw cs m:=⟨h.c0,h.c1,h.c2,h.rw,h.ln,h.rs⟩
structure Q6 (b:aF)(m:Nat):Prop where
 n0:0≤b.1
 n1:b.1≤1000
 wd:G.Word b.1.toNat b.2.1
 wl:b.2.1.length≤10000
 ml:m≤1000000
structure aV where
 W:Nat→Option Addr
 S:Nat→Option Addr
 cw:Nat→Nat
 cs:Nat→Nat
 m:Nat→Nat
def nC (w:World)(A:OA)(o:List aF)(d:aV):Prop:=0<o.length→∃g off,A=some ⟨g,off,none⟩∧g<w.heap.size∧∀j b,o[j]?=some b→nL w g (off+j*3) b (d.W j) (d.S j) (d.cw j) (d.cs j) (d.m j)
theorem nC.below {w w':World}{A:Option Addr}{o:List aF}{d:aV}(h:nC w A o d)(hb:Below w.heap.size w w'):nC w' A o d:=fun h0=>by
 obtain⟨g,off,e,hg,hr⟩:=h h0;exact⟨g,off,e,Nat.lt_of_lt_of_le hg hb.size,fun j b hj=>(hr j b hj).below hb⟩
theorem nC.drewN {w:World}{A:Option Addr}{o:List aF}{d:aV}(h:nC w A o d)(q:Nat):nC (w.drewN q) A o d:=fun h0=>by
 obtain⟨g,off,e,hg,hr⟩:=h h0;exact⟨g,off,e,hg,fun j b hj=>(hr j b hj).drewN q⟩
def LJ (o:List aF)(d:aV):Prop:=o.length≤1000000∧∀j b,o[j]?=some b→Q6 b (d.m j)
end Go.Proofs.YtmnbgjnipbpiaaaGreat
