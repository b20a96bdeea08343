/- Walks and plain lemmas. -/
import Derived.Test.YtmnbgjnipbpiaaaGreatP30
set_option linter.unusedVariables false
set_option linter.unusedSimpArgs false
set_option maxHeartbeats 4000000
set_option maxRecDepth 20000
namespace Go.Proofs.YtmnbgjnipbpiaaaGreat
open Go.RowKit
theorem zT {α:Type}{L:List α}{k:Nat}(h:k<L.length):∃x,L[k]?=some x:=⟨_,List.getElem?_eq_getElem h⟩
open Classical in
theorem BQ (g o:Nat)(f:aP)(A:OA)(c:Nat)(w:World)(h:rC true w g o f A c)(hb:i5 f):
 Calls Tryz.prog 32 #[.pointer (some ⟨g,o,none⟩)] w fun e w'=>e=.returned (.bool (decide (bF f)))∧Below w.heap.size w w':=by
 obtain⟨s,p,Ls⟩:=f;have H:=qh h;have cV:=qh hb;have h0:=h.c0;have h1:=h.c1;have h2:=h.c2
 simp only at h0 h1 h2
 have hbn:=hb.n
 simp only at hbn
 clear h hb
 by_cases hs:0≤s∧s≤12
 case neg=>
  have dM:=qh (fun W=>eN (oE.2 hs) W);have HD:=qh (show decide (bF (s,p,Ls))=false from decide_eq_false fun h=>hs h.s);clear hs
  go_enter Tryz.func32,Tryz.ntmps32
  go_wp2_with fail
  refine(dM.o _).mono ?_;rintro e w1 ⟨rfl,rfl⟩
  go_wp2_with fail
  go_ret
  exact⟨by rw[HD.o];rfl,Below.refl _ _⟩
 have dM:=qh (fun W=>eN (kD.2 hs) W);obtain⟨n,rfl⟩:∃n:Nat,s=n:=⟨s.toNat,(Int.toNat_of_nonneg hs.1).symm⟩;have tH:n≤12:=qo
 by_cases hp: -100≤p∧p≤100
 case neg=>
  have lI:=qh (fun W=>eN (oE.2 hp) W);have HD:=qh (show decide (bF (n,p,Ls))=false from decide_eq_false fun h=>hp h.p);clear hs hp
  go_enter Tryz.func32,Tryz.ntmps32
  go_wp2_with fail
  refine(dM.o _).mono ?_;rintro e w1 ⟨rfl,rfl⟩
  go_wp2_with fail
  refine(lI.o _).mono ?_;rintro e w1 ⟨rfl,rfl⟩
  go_wp2_with fail
  go_ret
  exact⟨by rw[HD.o];rfl,Below.refl _ _⟩
 have lI:=qh (fun W=>eN (kD.2 hp) W);have HP:=qh hp;clear hs hp
 by_cases hl:Ls.length≤100
 case neg=>
  have HD:=qh (show decide (bF (n,p,Ls))=false from decide_eq_false fun h=>hl h.l);have hl2:(100:Int)<(Ls.length:Int):=qo
  go_enter Tryz.func32,Tryz.ntmps32
  go_wp2_with fail
  refine(dM.o _).mono ?_;rintro e w1 ⟨rfl,rfl⟩
  go_wp2_with fail
  refine(lI.o _).mono ?_;rintro e w1 ⟨rfl,rfl⟩
  go_wp2_with fail
  go_ret
  exact⟨by rw[HD.o];rfl,Below.refl _ _⟩
 have hl2:¬(100:Int)<(Ls.length:Int):=qo
 go_enter Tryz.func32,Tryz.ntmps32
 go_wp2_with fail
 refine(dM.o _).mono ?_;rintro e w1 ⟨rfl,rfl⟩
 go_wp2_with fail
 refine(lI.o _).mono ?_;rintro e w1 ⟨rfl,rfl⟩
 by_cases hz:n<2∧(p≠0∨0<Ls.length)
 ·have HD:=qh (show decide (bF (n,p,Ls))=false from decide_eq_false fun h=>by
   obtain⟨h1,h2⟩:=h.z (by show(n:Int)<2;omega)
   rcases hz.2 with h3|h3
   ·exact h3 h1
   ·simp only at h2
    omega)
  have hz1:(n:Int)<2:=qo
  by_cases hp0:p=0
  ·have hpb:(p==0)=true:=by simp[hp0]
   have hl0:(0:Int)<(Ls.length:Int):=by rcases hz.2 with h|h;exact absurd hp0 h;omega
   go_wp2_with fail
   go_ret
   exact⟨by rw[HD.o];rfl,Below.refl _ _⟩
  ·have hpb:(p==0)=false:=by simp[hp0]
   go_wp2_with fail
   go_ret
   exact⟨by rw[HD.o];rfl,Below.refl _ _⟩
 have HZ:=qh (show(n:Int)<2→p=0∧Ls.length=0 from fun h=>by omega);obtain⟨N,hN⟩:=qx (Ls.length);have HN:=qh hN;rw[←hN]at h2 hl hl2 hbn hz;clear hN;have hgz:g<w1.heap.size:=World.block_lt_of_cell? w1 _ h0
 by_cases hn2:n<2
 ·have hz0:p=0:=qo
  have hz1:N=0:=qo;subst hz0 hz1;have HD:=qh (show decide (bF ((n:Int),0,Ls))=true from decide_eq_true ⟨⟨by show(0:Int)≤(n:Int);omega,by show(n:Int)≤12;omega⟩,by simp,by simp only;rw[←HN.o];omega,fun h=>⟨rfl,HN.o.symm⟩,fun j hj=>absurd hj (by simp only;rw[←HN.o];omega)⟩);have N3:(n:Int)<2:=qo;clear hz
  go_wp2_with fail
  go_loopw [3,4] (fun x _ wr=>x=.int .i64 0∧wr=w1) (fun _ _ _=>0)
  case atStart=>exact⟨rfl,rfl⟩
  case round=>
   obtain⟨rfl,rfl⟩:=hrel
   go_wp2_with fail
   go_ret
   exact⟨by rw[HD.o];rfl,Below.refl _ _⟩
 have N3:¬(n:Int)<2:=qo;clear hz
 go_wp2_with fail
 go_loopw [3,4] (fun x _ wr=>∃k:Nat,k≤N∧x=.int .i64 k∧Hq (aQ n Ls k)∧Hq (Below w1.heap.size w1 wr)) (fun x _ _=>N-(intOf x).toNat)
 case atStart=>exact⟨0,Nat.zero_le _,rfl,qh aQ.zero,qh (Below.refl _ _)⟩
 case round=>
  obtain⟨k,hk,rfl,HX,HB⟩:=hrel;have c0:=a7 HB.o hgz h0;have c2:=a7 HB.o hgz h2;have hgw:g<wr.heap.size:=Nat.lt_of_lt_of_le hgz HB.o.size
  by_cases hlt:k<N
  ·obtain⟨L,hL⟩:=zT (L:=Ls) (k:=k) (by have:=HN.o;omega)
   obtain⟨gl,ol,Bl,cl,rfl,hgl,hlc,hlr,hcap⟩:=(H.o.rd.below HB.o).at hL;have tN:=cV.o.l L (List.mem_of_getElem? hL);have j3:=qh (wW Bl cl L wr hlr tN (hcap rfl));have b1:(0:Int)≤(k:Int):=qo;have b2:(k:Int)<(N:Int):=qo;have JL:=qh hlr;clear hlr hcap
   by_cases hln:L.length=n
   case neg=>
    have HD:=qh (show decide (bF ((n:Int),p,Ls))=false from decide_eq_false fun h=>aQ.BJ (n:=n) hL hln h.f);have hlb:((L.length:Int)==(n:Int))=false:=by rw[beq_eq_false_iff_ne];omega
    have N4:¬(L.length:Int)=(n:Int):=qo;clear hL
    go_wp2_with fail
    go_ret
    exact⟨by rw[HD.o];rfl,HB.o⟩
   by_cases hpm:eH L
   case neg=>
    have HD:=qh (show decide (bF ((n:Int),p,Ls))=false from decide_eq_false fun h=>aQ.xS (n:=n) hL tH hpm h.f);rw[decide_eq_false hpm]at j3;rw[hln]at hlc j3;clear hL hpm
    go_wp2_with fail
    refine j3.o.mono ?_;rintro e w2 ⟨rfl,q2,rfl⟩
    go_wp2_with fail
    go_ret
    exact⟨by rw[HD.o];rfl,Below.drewN' HB.o q2⟩
   rw[decide_eq_true hpm]at j3;obtain⟨pp,rfl⟩:=sU hpm hln;rw[hln]at hlc j3;have HL:=qh hL;clear hL hpm tN
   go_wp2_with fail
   refine j3.o.mono ?_;rintro e w2 ⟨rfl,q2,rfl⟩
   go_wp2_with fail
   refine(fS n _ qo).mono ?_;rintro e w3 h3;obtain⟨A3,c3,rfl,_,hr3,hb3⟩:=h3.rd;rw[G.a6];have HB3:=qh ((Below.drewN' HB.o q2).trans (hb3.mono HB.o.size));have vX:=qh (Rd.below (JL.o.drewN q2) hb3);have c0:=a7 hb3 hgw c0;have c2:=a7 hb3 hgw c2;clear h3 hb3
   go_wp2_with fail
   refine(jG pp G.one Bl A3 cl c3 w3 vX.o hr3 qo).mono ?_;rintro e w4 ⟨rfl,q4,rfl⟩
   by_cases h1:pp=G.one
   ·have HD:=qh (show decide (bF ((n:Int),p,Ls))=false from decide_eq_false fun h=>aQ.BI (n:=n) HL.o h1 h.f)
    rw[decide_eq_true h1];clear h1
    go_wp2_with fail
    go_ret
    exact⟨by rw[HD.o];rfl,Below.drewN' HB3.o q4⟩
   rw[decide_eq_false h1]
   go_wp2_with fail
   refine(jQ n _ qo).mono ?_;rintro e w5 h5;obtain⟨A5,c5,rfl,_,gW,hb5⟩:=h5.rd;rw[G.a6];have bP:=qh ((Below.drewN' HB3.o q4).trans (hb5.mono HB3.o.size));have vW:=qh (Rd.below (vX.o.drewN q4) hb5);have pP:g<w3.heap.size:=Nat.lt_of_lt_of_le hgz HB3.o.size;have c0:=a7 hb5 pP c0;have c2:=a7 hb5 pP c2;clear h5 hb5 hr3
   go_wp2_with fail
   refine(jG pp G.del Bl A5 cl c5 w5 vW.o gW qo).mono ?_;rintro e w6 ⟨rfl,q6,rfl⟩
   by_cases h2:pp=G.del
   ·have HD:=qh (show decide (bF ((n:Int),p,Ls))=false from decide_eq_false fun h=>aQ.BL (n:=n) HL.o h2 h.f)
    rw[decide_eq_true h2];clear h2
    go_wp2_with fail
    go_ret
    exact⟨by rw[HD.o];rfl,Below.drewN' bP.o q6⟩
   rw[decide_eq_false h2];have cL:=qh (Below.drewN' bP.o q6);have H12:=qh (And.intro h1 h2);clear h1 h2 gW
   rcases k with _|j
   ·have dE:=qh (HX.o.next HL.o H12.o.1 H12.o.2 (fun i hi=>absurd hi qo))
    go_wp2_with fail
    go_roundw
    case rel=>exact⟨1,by omega,qg,dE,cL⟩
    case measure=>exact qs
   ·obtain⟨qq,hq,_⟩:=HX.o j qo
    obtain⟨g7,o7,B7,c7,e7,OM,IA,eP,_⟩:=(H.o.rd.below cL.o).at hq;injection e7 with e7;injection e7 with e7 e8;subst e7 e8;rw[G.a6]at IA;have i3:=qh (iO qq pp B7 Bl c7 cl (w5.drewN q6) eP (vW.o.drewN q6) qo);have HQ:=qh hq;have e9:((j+1:Nat):Int)-1=(j:Int):=qo;have b4:(0:Int)<((j+1:Nat):Int):=qo;have b5:(0:Int)≤(j:Int):=qo;have b6:(j:Int)<(N:Int):=qo;clear hq eP
    go_wp2_with fail
    refine i3.o.mono ?_;rintro e w8 ⟨rfl,cH⟩;have kR:=cL.st cH;clear cH
    by_cases hx:G.ext qq pp=0
    ·have hxb:(G.ext qq pp==0)=true:=by simp[hx]
     have dE:=qh (HX.o.next HL.o H12.o.1 H12.o.2 (fun i hi=>by
      obtain rfl:i=j:=qo;exact⟨qq,HQ.o,hx⟩))
     clear hx
     go_wp2_with fail
     go_roundw
     case rel=>exact⟨j+1+1,by omega,qg,dE,kR⟩
     case measure=>exact qs
    ·have hxb:(G.ext qq pp==0)=false:=by simp[hx]
     have HD:=qh (show decide (bF ((n:Int),p,Ls))=false from decide_eq_false fun h=>aQ.BK (n:=n) HL.o HQ.o hx h.f)
     go_wp2_with fail
     go_ret
     exact⟨by rw[HD.o];rfl,kR.o⟩
  ·obtain rfl:N=k:=qo
   have HD:=qh (show decide (bF ((n:Int),p,Ls))=true from decide_eq_true ⟨⟨by show(0:Int)≤(n:Int);omega,by show(n:Int)≤12;omega⟩,HP.o,by simp only;rw[←HN.o];omega,HZ.o,by
    show aQ n Ls Ls.length;rw[←HN.o];exact HX.o⟩)
   go_wp2_with fail
   go_ret
   exact⟨by rw[HD.o];rfl,HB.o⟩
end Go.Proofs.YtmnbgjnipbpiaaaGreat
