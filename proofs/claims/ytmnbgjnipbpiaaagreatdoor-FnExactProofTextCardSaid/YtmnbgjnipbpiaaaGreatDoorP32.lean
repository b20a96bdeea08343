/- Walks and plain lemmas. -/
import Derived.Test.YtmnbgjnipbpiaaaGreatDoorP31
set_option linter.unusedVariables false
set_option linter.unusedSimpArgs false
set_option maxHeartbeats 4000000
set_option maxRecDepth 20000
namespace Go.Proofs.YtmnbgjnipbpiaaaGreatDoor
open Go.RowKit
theorem dT {α:Type}{L:List α}{k:Nat}(h:k<L.length):∃x,L[k]?=some x:=⟨_,List.getElem?_eq_getElem h⟩
open Classical in
theorem o8 (g o:Nat)(f:aF)(A:OA)(c:Nat)(w:World)(h:jG true w g o f A c)(hb:gG f):
 Calls Tryz.prog 52 #[.pointer (some ⟨g,o,none⟩)] w fun e w'=>e=.returned (.bool (decide (aT f)))∧Below w.heap.size w w':=by
 obtain⟨s,p,Ls⟩:=f;have H:=qh h;have bQ:=qh hb;have h0:=h.c0;have h1:=h.c1;have h2:=h.c2
 simp only at h0 h1 h2
 have hbn:=hb.n
 simp only at hbn
 clear h hb
 by_cases hs:0≤s∧s≤12
 case neg=>
  have cF:=qh (fun W=>cL (gV.2 hs) W);have HD:=qh (show decide (aT (s,p,Ls))=false from decide_eq_false fun h=>hs h.s);clear hs
  go_enter Tryz.func52,Tryz.ntmps52
  go_wp2_with fail
  refine(cF.o _).mono ?_;rintro e w1 ⟨rfl,rfl⟩
  go_wp2_with fail
  go_ret
  exact⟨by rw[HD.o];rfl,Below.refl _ _⟩
 have cF:=qh (fun W=>cL (eR.2 hs) W);obtain⟨n,rfl⟩:∃n:Nat,s=n:=⟨s.toNat,(Int.toNat_of_nonneg hs.1).symm⟩;have pK:n≤12:=qo
 by_cases hp: -100≤p∧p≤100
 case neg=>
  have fI:=qh (fun W=>cL (gV.2 hp) W);have HD:=qh (show decide (aT (n,p,Ls))=false from decide_eq_false fun h=>hp h.p);clear hs hp
  go_enter Tryz.func52,Tryz.ntmps52
  go_wp2_with fail
  refine(cF.o _).mono ?_;rintro e w1 ⟨rfl,rfl⟩
  go_wp2_with fail
  refine(fI.o _).mono ?_;rintro e w1 ⟨rfl,rfl⟩
  go_wp2_with fail
  go_ret
  exact⟨by rw[HD.o];rfl,Below.refl _ _⟩
 have fI:=qh (fun W=>cL (eR.2 hp) W);have HP:=qh hp;clear hs hp
 by_cases hl:Ls.length≤100
 case neg=>
  have HD:=qh (show decide (aT (n,p,Ls))=false from decide_eq_false fun h=>hl h.l);have hl2:(100:Int)<(Ls.length:Int):=qo
  go_enter Tryz.func52,Tryz.ntmps52
  go_wp2_with fail
  refine(cF.o _).mono ?_;rintro e w1 ⟨rfl,rfl⟩
  go_wp2_with fail
  refine(fI.o _).mono ?_;rintro e w1 ⟨rfl,rfl⟩
  go_wp2_with fail
  go_ret
  exact⟨by rw[HD.o];rfl,Below.refl _ _⟩
 have hl2:¬(100:Int)<(Ls.length:Int):=qo
 go_enter Tryz.func52,Tryz.ntmps52
 go_wp2_with fail
 refine(cF.o _).mono ?_;rintro e w1 ⟨rfl,rfl⟩
 go_wp2_with fail
 refine(fI.o _).mono ?_;rintro e w1 ⟨rfl,rfl⟩
 by_cases hz:n<2∧(p≠0∨0<Ls.length)
 ·have HD:=qh (show decide (aT (n,p,Ls))=false from decide_eq_false fun h=>by
   obtain⟨h1,h2⟩:=h.z (by show(n:Int)<2;omega)
   rcases hz.2 with h3|h3
   ·exact h3 h1
   ·simp only at h2
    omega)
  have hz1:(n:Int)<2:=qo
  by_cases hp0:p=0
  ·have hpb:(p==0)=true:=by simp[hp0]
   have hl0:(0:Int)<(Ls.length:Int):=by rcases hz.2 with h|h;exact absurd hp0 h;omega
   go_wp2_with fail
   go_ret
   exact⟨by rw[HD.o];rfl,Below.refl _ _⟩
  ·have hpb:(p==0)=false:=by simp[hp0]
   go_wp2_with fail
   go_ret
   exact⟨by rw[HD.o];rfl,Below.refl _ _⟩
 have HZ:=qh (show(n:Int)<2→p=0∧Ls.length=0 from fun h=>by omega);obtain⟨N,hN⟩:=qx (Ls.length);have HN:=qh hN;rw[←hN]at h2 hl hl2 hbn hz;clear hN;have hgz:g<w1.heap.size:=World.block_lt_of_cell? w1 _ h0
 by_cases hn2:n<2
 ·have hz0:p=0:=qo
  have hz1:N=0:=qo;subst hz0 hz1;have HD:=qh (show decide (aT ((n:Int),0,Ls))=true from decide_eq_true ⟨⟨by show(0:Int)≤(n:Int);omega,by show(n:Int)≤12;omega⟩,by simp,by simp only;rw[←HN.o];omega,fun h=>⟨rfl,HN.o.symm⟩,fun j hj=>absurd hj (by simp only;rw[←HN.o];omega)⟩);have wC:(n:Int)<2:=qo;clear hz
  go_wp2_with fail
  go_loopw [3,4] (fun x _ wr=>x=.int .i64 0∧wr=w1) (fun _ _ _=>0)
  case atStart=>exact⟨rfl,rfl⟩
  case round=>
   obtain⟨rfl,rfl⟩:=hrel
   go_wp2_with fail
   go_ret
   exact⟨by rw[HD.o];rfl,Below.refl _ _⟩
 have wC:¬(n:Int)<2:=qo;clear hz
 go_wp2_with fail
 go_loopw [3,4] (fun x _ wr=>∃k:Nat,k≤N∧x=.int .i64 k∧Hq (aG n Ls k)∧Hq (Below w1.heap.size w1 wr)) (fun x _ _=>N-(intOf x).toNat)
 case atStart=>exact⟨0,Nat.zero_le _,rfl,qh aG.zero,qh (Below.refl _ _)⟩
 case round=>
  obtain⟨k,hk,rfl,HX,HB⟩:=hrel;have c0:=a6 HB.o hgz h0;have c2:=a6 HB.o hgz h2;have hgw:g<wr.heap.size:=Nat.lt_of_lt_of_le hgz HB.o.size
  by_cases hlt:k<N
  ·obtain⟨L,hL⟩:=dT (L:=Ls) (k:=k) (by have:=HN.o;omega)
   obtain⟨gl,ol,Bl,cl,rfl,hgl,hlc,hlr,hcap⟩:=(H.o.rd.below HB.o).at hL;have oJ:=bQ.o.l L (List.mem_of_getElem? hL);have eU:=qh (lN Bl cl L wr hlr oJ (hcap rfl));have b1:(0:Int)≤(k:Int):=qo;have b2:(k:Int)<(N:Int):=qo;have l7:=qh hlr;clear hlr hcap
   by_cases hln:L.length=n
   case neg=>
    have HD:=qh (show decide (aT ((n:Int),p,Ls))=false from decide_eq_false fun h=>aG.nZ (n:=n) hL hln h.f);have hlb:((L.length:Int)==(n:Int))=false:=by rw[beq_eq_false_iff_ne];omega
    have wD:¬(L.length:Int)=(n:Int):=qo;clear hL
    go_wp2_with fail
    go_ret
    exact⟨by rw[HD.o];rfl,HB.o⟩
   by_cases hpm:cJ L
   case neg=>
    have HD:=qh (show decide (aT ((n:Int),p,Ls))=false from decide_eq_false fun h=>aG.m3 (n:=n) hL pK hpm h.f);rw[decide_eq_false hpm]at eU;rw[hln]at hlc eU;clear hL hpm
    go_wp2_with fail
    refine eU.o.mono ?_;rintro e w2 ⟨rfl,q2,rfl⟩
    go_wp2_with fail
    go_ret
    exact⟨by rw[HD.o];rfl,Below.drewN' HB.o q2⟩
   rw[decide_eq_true hpm]at eU;obtain⟨pp,rfl⟩:=kE hpm hln;rw[hln]at hlc eU;have HL:=qh hL;clear hL hpm oJ
   go_wp2_with fail
   refine eU.o.mono ?_;rintro e w2 ⟨rfl,q2,rfl⟩
   go_wp2_with fail
   refine(gU n _ qo).mono ?_;rintro e w3 h3;obtain⟨A3,c3,rfl,_,hr3,hb3⟩:=h3.rd;rw[G.a7];have HB3:=qh ((Below.drewN' HB.o q2).trans (hb3.mono HB.o.size));have l6:=qh (Rd.below (l7.o.drewN q2) hb3);have c0:=a6 hb3 hgw c0;have c2:=a6 hb3 hgw c2;clear h3 hb3
   go_wp2_with fail
   refine(j3 pp G.one Bl A3 cl c3 w3 l6.o hr3 qo).mono ?_;rintro e w4 ⟨rfl,q4,rfl⟩
   by_cases h1:pp=G.one
   ·have HD:=qh (show decide (aT ((n:Int),p,Ls))=false from decide_eq_false fun h=>aG.nY (n:=n) HL.o h1 h.f)
    rw[decide_eq_true h1];clear h1
    go_wp2_with fail
    go_ret
    exact⟨by rw[HD.o];rfl,Below.drewN' HB3.o q4⟩
   rw[decide_eq_false h1]
   go_wp2_with fail
   refine(lO n _ qo).mono ?_;rintro e w5 h5;obtain⟨A5,c5,rfl,_,oH,hb5⟩:=h5.rd;rw[G.a7];have aX:=qh ((Below.drewN' HB3.o q4).trans (hb5.mono HB3.o.size));have l5:=qh (Rd.below (l6.o.drewN q4) hb5);have iJ:g<w3.heap.size:=Nat.lt_of_lt_of_le hgz HB3.o.size;have c0:=a6 hb5 iJ c0;have c2:=a6 hb5 iJ c2;clear h5 hb5 hr3
   go_wp2_with fail
   refine(j3 pp G.del Bl A5 cl c5 w5 l5.o oH qo).mono ?_;rintro e w6 ⟨rfl,q6,rfl⟩
   by_cases h2:pp=G.del
   ·have HD:=qh (show decide (aT ((n:Int),p,Ls))=false from decide_eq_false fun h=>aG.o4 (n:=n) HL.o h2 h.f)
    rw[decide_eq_true h2];clear h2
    go_wp2_with fail
    go_ret
    exact⟨by rw[HD.o];rfl,Below.drewN' aX.o q6⟩
   rw[decide_eq_false h2];have eG:=qh (Below.drewN' aX.o q6);have H12:=qh (And.intro h1 h2);clear h1 h2 oH
   rcases k with _|j
   ·have dN:=qh (HX.o.next HL.o H12.o.1 H12.o.2 (fun i hi=>absurd hi qo))
    go_wp2_with fail
    go_roundw
    case rel=>exact⟨1,by omega,qg,dN,eG⟩
    case measure=>exact qs
   ·obtain⟨qq,hq,_⟩:=HX.o j qo
    obtain⟨g7,o7,B7,c7,e7,xE,sC,oG,_⟩:=(H.o.rd.below eG.o).at hq;injection e7 with e7;injection e7 with e7 e8;subst e7 e8;rw[G.a7]at sC;have fU:=qh (kM qq pp B7 Bl c7 cl (w5.drewN q6) oG (l5.o.drewN q6) qo);have HQ:=qh hq;have e9:((j+1:Nat):Int)-1=(j:Int):=qo;have b4:(0:Int)<((j+1:Nat):Int):=qo;have b5:(0:Int)≤(j:Int):=qo;have b6:(j:Int)<(N:Int):=qo;clear hq oG
    go_wp2_with fail
    refine fU.o.mono ?_;rintro e w8 ⟨rfl,dM⟩;have p3:=eG.st dM;clear dM
    by_cases hx:G.ext qq pp=0
    ·have hxb:(G.ext qq pp==0)=true:=by simp[hx]
     have dN:=qh (HX.o.next HL.o H12.o.1 H12.o.2 (fun i hi=>by
      obtain rfl:i=j:=qo;exact⟨qq,HQ.o,hx⟩))
     clear hx
     go_wp2_with fail
     go_roundw
     case rel=>exact⟨j+1+1,by omega,qg,dN,p3⟩
     case measure=>exact qs
    ·have hxb:(G.ext qq pp==0)=false:=by simp[hx]
     have HD:=qh (show decide (aT ((n:Int),p,Ls))=false from decide_eq_false fun h=>aG.o3 (n:=n) HL.o HQ.o hx h.f)
     go_wp2_with fail
     go_ret
     exact⟨by rw[HD.o];rfl,p3.o⟩
  ·obtain rfl:N=k:=qo
   have HD:=qh (show decide (aT ((n:Int),p,Ls))=true from decide_eq_true ⟨⟨by show(0:Int)≤(n:Int);omega,by show(n:Int)≤12;omega⟩,HP.o,by simp only;rw[←HN.o];omega,HZ.o,by
    show aG n Ls Ls.length;rw[←HN.o];exact HX.o⟩)
   go_wp2_with fail
   go_ret
   exact⟨by rw[HD.o];rfl,HB.o⟩
end Go.Proofs.YtmnbgjnipbpiaaaGreatDoor
