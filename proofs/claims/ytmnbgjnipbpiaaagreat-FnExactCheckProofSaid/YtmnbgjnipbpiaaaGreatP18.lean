/- Walks and plain lemmas. -/
import Derived.Test.YtmnbgjnipbpiaaaGreatP17
import Derived.Test.YtmnbgjnipbpiaaaGreatP16
set_option linter.unusedVariables false
set_option linter.unusedSimpArgs false
set_option maxHeartbeats 1000000
set_option maxRecDepth 20000
namespace Go.Proofs.YtmnbgjnipbpiaaaGreat
open Go.RowKit
theorem iK {n:Nat}{W:List Int}(h:G.Word n W):2≤n∨W=[]:=by
 rcases W with _|⟨x,W⟩
 ·exact .inr rfl
 ·have:=h x List.mem_cons_self
  left
  omega
theorem DB {n:Nat}{W:List Int}(h:G.Word n W)(hn:n≤1000):l5 W:=fun x hx=>by
 have:=h x hx;omega
theorem DD {n:Nat}{V W:List Int}(h1:G.Word n V)(h2:G.Word n W):G.Word n (V++W):=fun x hx=>by
 rcases List.mem_append.1 hx with h|h
 ·exact h1 x h
 ·exact h2 x h
theorem AZ {n:Nat}{a b:List Int}(hb:G.Word n b){P:Int}{F:List (G.PM n)}(h:G.acts n (0,[]) (a++G.inv b)=(P,F)):gP n a b=(decide (P=0)&&decide (F.length=0)):=by
 have h1:=G.same_iff (a:=a) hb;rw[h]at h1;unfold gP;rw[Bool.eq_iff_iff]
 simp only[decide_eq_true_eq,Bool.and_eq_true,List.length_eq_zero_iff]
 rw[←h1]
 simp
theorem lV {n:Nat}(V W:List Int)(A B:OA)(c c':Nat)(w:World)(ha:aG w A V)(hb:aG w B W)(hn:n≤1000)(hv:G.Word n V)(hw:G.Word n W)(hlv:V.length≤10000)(I1:W.length≤10000):
 Calls Tryz.prog 34 #[.int .i64 n,.slice A V.length c,.slice B W.length c'] w fun e w'=>e=.returned (.bool (gP n V W))∧Below w.heap.size w w':=by
 obtain⟨i0,hi,iz,is,ib⟩:=info_parts info64;have HA:=qh ha;have j6:=qh hb;have HV:=qh hv;have HW:=qh hw;clear ha hb hv hw
 go_enter Tryz.func34,Tryz.ntmps34
 go_wp2_with fail
 refine(jR A c V w HA.o qo).mono ?_;rintro e w1 h1;obtain⟨A1,c1,rfl,ho1,_,hb1⟩:=h1.rd;have cJ:=qh ho1;have HB1:=qh hb1;clear h1 ho1 hb1
 go_wp2_with fail
 refine(pM W B c' w1 (j6.o.below HB1.o) qo (DB HW.o hn)).mono ?_;rintro e w2 h2;obtain⟨A2,c2,rfl,_,hr2,hb2⟩:=h2.rd;have a9:=qh (own_below cJ.o hb2);have HB2:=HB1.st hb2;have HR2:=qh (show Rd w2 A2 W.length (fun j=>.int .i64 ((G.inv W).getD j 0))from by
  have h1:=hr2;unfold aG at h1;rwa[eV]at h1)
 have hil:=eV W;clear h2 hr2 hb2 cJ HB1
 go_wp2_with (at_builtin;go_must (refine gO w2 rfl (.tmp 10) (.tmp 12) _ rfl w.heap.size 2 i0 _ 1 8 Tryz.underlying74 hi iz is ib rfl qo (.slice A1 V.length c1) V.length _ rfl a9.o A2 W.length c2 (fun j=>.int .i64 ((G.inv W).getD j 0)) rfl (by rw[Nat.mul_one];exact HR2.o) (fun j=>rfl) qm qo HB2.o.size ?_);intro v' w' hown' hfr;have HOWN':=qh hown';have gF:=qh hfr;clear hown' hfr)
 have HB3:=qh (HB2.o.trans (gF.o.own a9.o HB2.o.size));have eC:=qh (show w'.ownsRow w.heap.size 2 1 v' (V++G.inv W).length (ints (V++G.inv W))from by
  have ho:=HOWN'.o;rw[Nat.mul_one,kZ (G.inv W) _ (eV W)]at ho;rw[List.length_append,eV,show ints (V++G.inv W)=ints V++ints (G.inv W)by simp[ints]];exact ho)
 obtain⟨A3,c3,rfl⟩:=aD eC.o;have HR3:=qh (bI eC.o);have hH:=qh (DD HV.o (G.sC HW.o));obtain⟨s,hs⟩:=qx (G.acts n (0,[]) (V++G.inv W));obtain⟨P,F⟩:=s;have yN:=qh (AZ HW.o hs.symm);have M8:=qh (rR (V++G.inv W) A3 c3 w' HR3.o (iK hH.o) hn hH.o (by rw[List.length_append];omega));rw[←hs]at M8;clear HOWN' gF hs
 go_wp2_with fail
 refine M8.o.mono ?_;rintro e w4 ⟨v4,Cs,es,he,hl4,hb4⟩;have he:e=.returned (.agg #[.int .i64 n,.int .i64 P,v4]):=he;have hl4:aT w'.heap.size v4 (F.map G.pl) Cs es w4:=hl4;subst he;obtain⟨A4,c4,rfl⟩:=fI hl4;have bQ:=qh ((HB3.o.trans (hb4.mono HB3.o.size)).alloc (by have h1:=HB3.o.size;have h2:=hb4.size;omega) (.cells #[.int .i64 n,.int .i64 P,.slice A4 F.length c4] 72));clear hl4 hb4
 by_cases hp:P=0
 ·subst hp
  have hd:decide ((0:Int)=0)=true:=rfl
  by_cases hf:F.length=0
  ·have hf2:((F.length:Int)==0)=true:=by simp[hf]
   have hf3:(F.length:Int)=0:=qo
   go_wp2
   go_ret
   exact⟨by rw[yN.o];simp[hf],by have h1:=bQ.o;rwa[hf]at h1⟩
  ·have hf2:((F.length:Int)==0)=false:=by rw[beq_eq_false_iff_ne];omega
   have hf3:¬(F.length:Int)=0:=qo
   go_wp2
   go_ret
   exact⟨by rw[yN.o];simp[hf],bQ.o⟩
 ·have hp2:(P==0)=false:=by rw[beq_eq_false_iff_ne];exact hp
  go_wp2
  go_ret
  exact⟨by rw[yN.o];simp[hp],bQ.o⟩
end Go.Proofs.YtmnbgjnipbpiaaaGreat
