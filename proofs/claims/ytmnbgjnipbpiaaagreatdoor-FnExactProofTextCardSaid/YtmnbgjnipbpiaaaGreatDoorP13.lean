/- Walks and plain lemmas. -/
import Derived.Test.YtmnbgjnipbpiaaaGreatDoorP11
set_option linter.unusedVariables false
set_option linter.unusedSimpArgs false
set_option maxRecDepth 20000
namespace Go.Proofs.YtmnbgjnipbpiaaaGreatDoor
open Go.RowKit
theorem jR {n:Nat}(p:G.PM n)(A:OA)(c:Nat)(w:World)(ha:aW w A (G.pl p))(hn:n≤1000):Calls Tryz.prog 139 #[.slice A n c] w (eE w (G.bA p.g n)):=by
 have HA:=qh ha;clear ha
 go_enter Tryz.func139,Tryz.ntmps139
 go_wp2_with fail
 refine(iF p A c _ HA.o hn).mono ?_;rintro e w1 h1;obtain⟨A1,c1,rfl,_,hr1,hb1⟩:=h1.rd;have HR1:=qh hr1;have HB1:=qh hb1;clear h1 hr1 hb1;rw[G.a7]
 go_wp2_with fail
 refine(fO p.inv A1 c1 _ HR1.o hn).mono ?_;rintro e w2 ⟨v2,rfl,ho2,hb2⟩;have aL:=qh ho2;have HB2:=HB1.st hb2;have HZ:=qh HB1.o.size;clear ho2 hb2
 go_wp2
 go_ret
 exact⟨_,rfl,gK aL.o HZ.o,HB2.o⟩
end Go.Proofs.YtmnbgjnipbpiaaaGreatDoor
