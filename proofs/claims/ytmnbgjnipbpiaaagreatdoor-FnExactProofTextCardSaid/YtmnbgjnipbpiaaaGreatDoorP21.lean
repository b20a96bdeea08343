/- Walks and plain lemmas. -/
import Derived.Test.YtmnbgjnipbpiaaaGreatDoorP20
set_option linter.unusedVariables false
set_option linter.unusedSimpArgs false
set_option maxRecDepth 20000
namespace Go.Proofs.YtmnbgjnipbpiaaaGreatDoor
open Go.RowKit
structure iA (w:World)(g o:Nat)(b:bP)(W S:OA)(cw cs m:Nat):Prop where
 c0:w.cell? ⟨g,o,none⟩=some (.int .i64 b.1)
 c1:w.cell? ⟨g,o+1,none⟩=some (.slice W b.2.1.length cw)
 c2:w.cell? ⟨g,o+2,none⟩=some (.slice S m cs)
 rw:aW w W b.2.1
 ln:b.2.2.length=m*6
 rs:Rd w S (m*6) (fun j=>.int .i64 (b.2.2.getD j 0))
theorem iA.lt {w:World}{g o:Nat}{b:bP}{W S:Option Addr}{cw cs m:Nat}(h:iA w g o b W S cw cs m):g<w.heap.size:=World.block_lt_of_cell? w _ h.c0
theorem iA.below {w w':World}{g o:Nat}{b:bP}{W S:Option Addr}{cw cs m:Nat}(h:iA w g o b W S cw cs m)(hb:Below w.heap.size w w'):iA w' g o b W S cw cs m:=
 ⟨a6 hb h.lt h.c0,a6 hb h.lt h.c1,a6 hb h.lt h.c2,h.rw.below hb,h.ln,h.rs.below hb⟩
theorem iA.drewN {w:World}{g o:Nat}{b:bP}{W S:Option Addr}{cw cs m:Nat}(h:iA w g o b W S cw cs m)(q:Nat):iA (w.drewN q) g o b W S cw cs m:=⟨h.c0,h.c1,h.c2,h.rw,h.ln,h.rs⟩
structure yC (b:bP)(m:Nat):Prop where
 n0:0≤b.1
 n1:b.1≤1000
 wd:G.Word b.1.toNat b.2.1
 wl:b.2.1.length≤10000
 ml:m≤1000000
end Go.Proofs.YtmnbgjnipbpiaaaGreatDoor
