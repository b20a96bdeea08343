/- Walks and plain lemmas. -/
import Derived.Test.YtmnbgjnipbpiaaaGreatDoorP30
set_option linter.unusedVariables false
set_option linter.unusedSimpArgs false
set_option maxHeartbeats 8000000
set_option maxRecDepth 20000
namespace Go.Proofs.YtmnbgjnipbpiaaaGreatDoor
open Go.RowKit
theorem n9 {α:Type}{L:List α}{k:Nat}(h:k<L.length):∃x,L[k]?=some x:=⟨_,List.getElem?_eq_getElem h⟩
end Go.Proofs.YtmnbgjnipbpiaaaGreatDoor
namespace Go.Proofs.YtmnbgjnipbpiaaaGreatDoor
open Go.RowKit
theorem eI {n lo hi:Int}{b:Bool}(h:a8 n lo hi=b)(w:World):Calls Tryz.prog 104 #[.int .i64 n,.int .i64 lo,.int .i64 hi] w fun e w'=>e=.returned (.bool b)∧w=w':=h▸aR n lo hi w
theorem iH {n lo hi:Int}(h:lo≤n∧n≤hi):a8 n lo hi=true:=by simp[a8,h.1,h.2]
theorem iI {n lo hi:Int}(h:¬(lo≤n∧n≤hi)):a8 n lo hi=false:=by
 rw[←Bool.not_eq_true];intro h2;exact h (by simpa [a8]using h2)
def nI (g:Nat)(L:List Int)(k:Nat)(w:World):Prop:=g<w.heap.size∧∀i,i<12→w.cell? ⟨g,i,none⟩=some (.bool (decide ((i:Int)∈L.take k)))∧w.frozen? ⟨g,i,none⟩=false
theorem p7 {L:List Int}{k:Nat}(hk:k<L.length)(x:Int):x∈L.take (k+1)↔x∈L.take k∨x=L.getD k 0:=dP hk x
theorem qX {L:List Int}{k:Nat}(hk:k≤L.length){x:Int}(h:x∈L.take k):∃j,j<k∧L.getD j 0=x:=by
 obtain⟨j,hj⟩:=List.getElem?_of_mem h;have hjl:=(List.getElem?_eq_some_iff.1 hj).1;rw[List.length_take]at hjl;refine⟨j,by omega,?_⟩;rw[List.getElem?_take,if_pos qo]at hj
 simp[List.getD,hj]
theorem qW {L:List Int}{k j:Nat}(hk:k≤L.length)(hj:j<k):L.getD j 0∈L.take k:=by
 refine List.mem_of_getElem? (i:=j) ?_;rw[List.getElem?_take,if_pos hj]
 simp[List.getD,show j<L.length by omega]
open Classical in
theorem kO (A:OA)(c:Nat)(L:List Int)(w:World)(ha:aW w A L)(hn:L.length≤1048576):
 Calls Tryz.prog 105 #[.slice A L.length c] w fun e w'=>e=.returned (.bool (decide (cJ L)))∧Below w.heap.size w w':=by
 have HA:=qh ha;clear ha
 by_cases h12:L.length≤12
 case neg=>
  have HD:=qh (show decide (cJ L)=false from decide_eq_false fun h=>h12 h.1);have h13:(12:Int)<(L.length:Int):=qo
  go_enter Tryz.func105,Tryz.ntmps105
  go_wp2_with fail
  go_ret
  exact⟨by rw[HD.o];rfl,Below.refl _ _⟩
 have h13:¬(12:Int)<(L.length:Int):=qo
 go_enter Tryz.func105,Tryz.ntmps105
 go_wp2_with fail
 obtain⟨w0,hw0⟩:=qx (w.alloc (.cells #[.bool false,.bool false,.bool false,.bool false,.bool false,.bool false,.bool false,.bool false,.bool false,.bool false,.bool false,.bool false] 159));have vN:=qh (show nI w.heap.size L 0 w0 from by
  subst hw0;refine⟨by simp,fun i hi=>?_⟩;have hb:=aJ.at_ w 159 #[.bool false,.bool false,.bool false,.bool false,.bool false,.bool false,.bool false,.bool false,.bool false,.bool false,.bool false,.bool false] rfl;refine⟨(hb.cell i).trans ?_,hb.frozen i⟩;rw[List.take_zero]
  rcases(show i=0∨i=1∨i=2∨i=3∨i=4∨i=5∨i=6∨i=7∨i=8∨i=9∨i=10∨i=11 by omega)with h|h|h|h|h|h|h|h|h|h|h|h<;>subst h<;>simp)
 have HB0:=qh (show Below w.heap.size w w0 from by rw[hw0];exact qb);rw[←hw0];clear hw0
 go_loopw [5,11] (fun _ x wr=>∃k:Nat,k≤L.length∧x=.int .i64 k∧Hq (nI w.heap.size L k wr)∧Hq (Below w.heap.size w wr)∧Hq (G.dL L k)) (fun _ x _=>L.length-(intOf x).toNat)
 case atStart=>exact⟨0,Nat.zero_le _,rfl,vN,HB0,qh (fun i hi=>absurd hi (Nat.not_lt_zero i))⟩
 case round=>
  clear vN HB0;obtain⟨k,hk,rfl,HS,HB,HX⟩:=hrel
  by_cases hlt:k<L.length
  ·obtain⟨ga,o,rfl,hg,hr⟩:=HA.o qo
   have hck:=a6 HB.o hg (hr k hlt);have HY:=qh (show L.getD k 0=L.getD k 0 from rfl);have dR:=qh (fun x=>p7 hlt x);obtain⟨y,hy⟩:=qx (L.getD k 0)
   simp only[←hy]at hck dR
   have jB:=qh hy;have b1:(0:Int)≤(k:Int):=qo;have b2:(k:Int)<(L.length:Int):=qo;clear hr hy HY
   by_cases hin:0≤y∧y≤(L.length:Int)-1
   case neg=>
    have cF:=qh (fun W=>eI (n:=y) (lo:=0) (hi:=(L.length:Int)-1) (b:=false) (iI hin) W);have HD:=qh (show decide (cJ L)=false from decide_eq_false fun h=>by
     have:=(h.2 k hlt).1;rw[←jB.o]at this;omega)
    clear hin
    go_wp2_with fail
    refine(cF.o _).mono ?_;rintro e w1 ⟨rfl,rfl⟩
    go_wp2_with fail
    go_ret
    exact⟨by rw[HD.o];rfl,HB.o⟩
   have cF:=qh (fun W=>eI (n:=y) (lo:=0) (hi:=(L.length:Int)-1) (b:=true) (iH hin) W);obtain⟨Y,rfl⟩:∃Y:Nat,y=Y:=⟨y.toNat,(Int.toNat_of_nonneg hin.1).symm⟩;have hY:Y<12:=qo;obtain⟨hsc,hsf⟩:=HS.o.2 Y hY;have b3:(0:Int)≤(Y:Int):=qo;have b4:(Y:Int)<12:=qo;have hYL:Y<L.length:=qo;clear hin
   by_cases hm:(Y:Int)∈L.take k
   ·rw[decide_eq_true hm]at hsc
    have HD:=qh (show decide (cJ L)=false from decide_eq_false fun h=>by
     obtain⟨j,hj,e⟩:=qX hk hm;exact(h.2 k hlt).2 j hj (e.trans jB.o))
    clear hm
    go_wp2_with fail
    refine(cF.o _).mono ?_;rintro e w1 ⟨rfl,rfl⟩
    go_wp2_with fail
    go_ret
    exact⟨by rw[HD.o];rfl,HB.o⟩
   ·rw[decide_eq_false hm]at hsc
    have dN:=qh (HX.o.next (by rw[←jB.o];omega) (fun j hj e=>hm (by rw[jB.o,←e];exact qW hk hj)));have HS2:=qh (show nI w.heap.size L (k+1) (wr.setCell ⟨w.heap.size,Y,none⟩ (.bool true))from by
     refine⟨by simp;exact HS.o.1,fun i hi=>?_⟩;obtain⟨h1,h2⟩:=HS.o.2 i hi;refine⟨?_,by simpa using h2⟩
     by_cases e:i=Y
     ·subst e
      rw[World.cell?_setCell_same _ _ _ hsc];rw[decide_eq_true ((dR.o _).2 (.inr rfl))]
     ·rw[World.cell?_setCell_other _ _ _ _ (by intro e2;injection e2;omega),h1]
      congr 2
      exact decide_eq_decide.2 ⟨fun h=>(dR.o _).2 (.inl h),fun h=>((dR.o _).1 h).resolve_right qo⟩)
    have HB2:=qh (HB.o.setCell (p:=⟨w.heap.size,Y,none⟩) ql (.bool true));clear hm
    go_wp2_with fail
    refine(cF.o _).mono ?_;rintro e w1 ⟨rfl,rfl⟩
    go_wp2_with fail
    go_roundw
    case rel=>exact⟨k+1,by omega,qg,HS2,HB2,dN⟩
    case measure=>exact qs
  ·obtain rfl:L.length=k:=qo
   have HD:=qh (show decide (cJ L)=true from decide_eq_true ⟨h12,HX.o⟩)
   go_wp2_with fail
   go_ret
   exact⟨by rw[HD.o];rfl,HB.o⟩
end Go.Proofs.YtmnbgjnipbpiaaaGreatDoor
namespace Go.Proofs.YtmnbgjnipbpiaaaGreatDoor
open Go.RowKit
theorem gQ {n:Int}{b:Bool}(h:a8 n 0 12=b)(w:World):Calls Tryz.prog 103 #[.int .i64 n] w fun e w'=>e=.returned (.bool b)∧w=w':=h▸jT n w
open Classical in
theorem gM {q:Bool}(f:aF)(A:OA)(c:Nat)(w:World)(ha:bD q w A f.2.2)(hb:gG f):
 Calls Tryz.prog 57 #[.agg #[.int .i64 f.1,.int .i64 f.2.1,.slice A f.2.2.length c]] w fun e w'=>e=.returned (.bool (decide (aT f)))∧Below w.heap.size w w':=by
 obtain⟨s,p,Ls⟩:=f;have bQ:=qh hb;have hbn:=hb.n
 simp only at hbn
 have HW0:=qh ((Below.refl w.heap.size w).alloc ql (.cells #[.int .i64 s,.int .i64 p,.slice A Ls.length c] 54));have HA:=qh (ha.below HW0.o);clear ha hb
 by_cases hs:0≤s∧s≤12
 case neg=>
  have cF:=qh (fun W=>gQ (iI hs) W);have HD:=qh (show decide (aT (s,p,Ls))=false from decide_eq_false fun h=>hs h.s);clear hs
  go_enter Tryz.func57,Tryz.ntmps57
  go_wp2_with fail
  refine(cF.o _).mono ?_;rintro e w1 ⟨rfl,rfl⟩
  go_wp2_with fail
  go_ret
  exact⟨by rw[HD.o];rfl,HW0.o⟩
 have cF:=qh (fun W=>gQ (iH hs) W);obtain⟨n,rfl⟩:∃n:Nat,s=n:=⟨s.toNat,(Int.toNat_of_nonneg hs.1).symm⟩;have pK:n≤12:=qo
 by_cases hp: -100≤p∧p≤100
 case neg=>
  have fI:=qh (fun W=>eI (iI hp) W);have HD:=qh (show decide (aT (n,p,Ls))=false from decide_eq_false fun h=>hp h.p);clear hs hp
  go_enter Tryz.func57,Tryz.ntmps57
  go_wp2_with fail
  refine(cF.o _).mono ?_;rintro e w1 ⟨rfl,rfl⟩
  go_wp2_with fail
  refine(fI.o _).mono ?_;rintro e w1 ⟨rfl,rfl⟩
  go_wp2_with fail
  go_ret
  exact⟨by rw[HD.o];rfl,HW0.o⟩
 have fI:=qh (fun W=>eI (iH hp) W);have HP:=qh hp;clear hs hp
 by_cases hl:Ls.length≤100
 case neg=>
  have HD:=qh (show decide (aT (n,p,Ls))=false from decide_eq_false fun h=>hl h.l);have hl2:(100:Int)<(Ls.length:Int):=qo
  go_enter Tryz.func57,Tryz.ntmps57
  go_wp2_with fail
  refine(cF.o _).mono ?_;rintro e w1 ⟨rfl,rfl⟩
  go_wp2_with fail
  refine(fI.o _).mono ?_;rintro e w1 ⟨rfl,rfl⟩
  go_wp2_with fail
  go_ret
  exact⟨by rw[HD.o];rfl,HW0.o⟩
 have hl2:¬(100:Int)<(Ls.length:Int):=qo;obtain⟨N,hN⟩:=qx (Ls.length);have HN:=qh hN;obtain⟨w1,hw1⟩:=qx (w.alloc (.cells #[.int .i64 n,.int .i64 p,.slice A Ls.length c] 54));rw[←hw1]at HA HW0;have hb0:aJ w1 w.heap.size 54 #[.int .i64 n,.int .i64 p,.slice A Ls.length c]:=by rw[hw1];exact aJ.at_ w _ _ rfl
 rw[←hN]at hb0 hl hl2 hbn;have h0:w1.cell? ⟨w.heap.size,0,none⟩=some (.int .i64 n):=hb0.cell 0;have h1:w1.cell? ⟨w.heap.size,1,none⟩=some (.int .i64 p):=hb0.cell 1;have h2:w1.cell? ⟨w.heap.size,2,none⟩=some (.slice A N c):=hb0.cell 2;have hgz:w.heap.size<w1.heap.size:=hb0.lt;rw[←hN]at hw1;rw[←hN];clear hN hb0
 go_enter Tryz.func57,Tryz.ntmps57
 go_wp2_with fail
 refine(cF.o _).mono ?_;rintro e wy ⟨rfl,rfl⟩
 go_wp2_with fail
 refine(fI.o _).mono ?_;rintro e wy ⟨rfl,rfl⟩
 go_wp2_with fail
 rw[←hw1];clear hw1
 go_loopw [3,4,24] (fun _ _ x wr=>∃k:Nat,k≤N∧x=.int .i64 k∧Hq (aG n Ls k)∧Hq (Below w1.heap.size w1 wr)) (fun _ _ x _=>N-(intOf x).toNat)
 case atStart=>exact⟨0,Nat.zero_le _,rfl,qh aG.zero,qh (Below.refl _ _)⟩
 case round=>
  obtain⟨k,hk,rfl,HX,HB⟩:=hrel;have c0:=a6 HB.o hgz h0;have c1:=a6 HB.o hgz h1;have c2:=a6 HB.o hgz h2;have hgw:w.heap.size<wr.heap.size:=Nat.lt_of_lt_of_le hgz HB.o.size;have cT:=qh (HW0.o.trans (HB.o.mono HW0.o.size))
  by_cases hlt:k<N
  ·obtain⟨L,hL⟩:=n9 (L:=Ls) (k:=k) (by have:=HN.o;omega)
   obtain⟨gl,ol,Bl,cl,rfl,hgl,hlc,hlr,_⟩:=(HA.o.below HB.o).at hL;have oJ:=bQ.o.l L (List.mem_of_getElem? hL);have eU:=qh (kO Bl cl L wr hlr oJ);have b1:(0:Int)≤(k:Int):=qo;have b2:(k:Int)<(N:Int):=qo;have l7:=qh hlr;clear hlr
   by_cases hpm:cJ L
   case neg=>
    have HD:=qh (show decide (aT ((n:Int),p,Ls))=false from decide_eq_false fun h=>aG.m3 (n:=n) hL pK hpm h.f);rw[decide_eq_false hpm]at eU;clear hL hpm
    go_wp2_with fail
    refine eU.o.mono ?_;rintro e w2 ⟨rfl,hb2⟩;have HB2:=cT.st hb2;clear hb2
    go_wp2_with fail
    go_ret
    exact⟨by rw[HD.o];rfl,HB2.o⟩
   rw[decide_eq_true hpm]at eU
   by_cases hln:L.length=n
   case neg=>
    have HD:=qh (show decide (aT ((n:Int),p,Ls))=false from decide_eq_false fun h=>aG.nZ (n:=n) hL hln h.f);have hlb:((L.length:Int)==(n:Int))=false:=by rw[beq_eq_false_iff_ne];omega
    have wD:¬(L.length:Int)=(n:Int):=qo;clear hL hpm
    go_wp2_with fail
    refine eU.o.mono ?_;rintro e w2 ⟨rfl,hb2⟩;have HB2:=cT.st hb2;have c0:=a6 hb2 hgw c0;clear hb2
    go_wp2_with fail
    go_ret
    exact⟨by rw[HD.o];rfl,HB2.o⟩
   obtain⟨pp,rfl⟩:=kE hpm hln;rw[hln]at hlc eU;have HL:=qh hL;clear hL hpm oJ
   go_wp2_with fail
   refine eU.o.mono ?_;rintro e w2 ⟨rfl,hb2⟩;have HB2:=HB.st hb2;have wS:=qh (Rd.below l7.o hb2);have c0:=a6 hb2 hgw c0;have c1:=a6 hb2 hgw c1;have c2:=a6 hb2 hgw c2;have pM:w.heap.size<w2.heap.size:=Nat.lt_of_lt_of_le hgz HB2.o.size;clear hb2
   go_wp2_with fail
   refine(m7 n _ qo).mono ?_;rintro e w3 h3;obtain⟨A3,c3,rfl,_,hr3,hb3⟩:=h3.rd;rw[G.a7];have HB3:=HB2.st hb3;have l6:=qh (Rd.below wS.o hb3);have c0:=a6 hb3 pM c0;have c1:=a6 hb3 pM c1;have c2:=a6 hb3 pM c2;have iJ:w.heap.size<w3.heap.size:=Nat.lt_of_lt_of_le hgz HB3.o.size;have hq3:=h9 Bl A3 cl c3 (G.pl pp) (G.pl G.one) w3 l6.o hr3 (by rw[G.a7];omega) (by rw[G.a7];omega);rw[G.a7,G.a7]at hq3;have xW:=qh hq3;clear h3 hb3 hr3 hq3
   go_wp2_with fail
   refine xW.o.mono ?_;rintro e w4 ⟨rfl,q4,rfl⟩
   by_cases h1:pp=G.one
   ·have HD:=qh (show decide (aT ((n:Int),p,Ls))=false from decide_eq_false fun h=>aG.nY (n:=n) HL.o h1 h.f)
    rw[decide_eq_true (show G.pl pp=G.pl G.one by rw[h1])];have eX:=qh (Below.drewN' (HW0.o.trans (HB3.o.mono HW0.o.size)) q4);clear h1
    go_wp2_with fail
    go_ret
    exact⟨by rw[HD.o];rfl,eX.o⟩
   rw[decide_eq_false (show¬G.pl pp=G.pl G.one from fun h=>h1 (G.dZ h))];have hn1:1≤n:=Decidable.byContradiction fun hz=>h1 (G.PM.jY fun i hi=>absurd hi qo)
   go_wp2_with fail
   refine(jV n _ qo hn1).mono ?_;rintro e w5 ⟨A5,c5,rfl,oH,hb5,_⟩;have aX:=qh ((Below.drewN' HB3.o q4).trans (hb5.mono HB3.o.size));have l5:=qh (Rd.below (l6.o.drewN q4) hb5);have c0:=a6 hb5 iJ c0;have c1:=a6 hb5 iJ c1;have c2:=a6 hb5 iJ c2;have qH:=h9 Bl A5 cl c5 (G.pl pp) (G.pl G.del) w5 l5.o oH (by rw[G.a7];omega) (by rw[G.a7];omega);rw[G.a7,G.a7]at qH;have qO:=qh qH;clear hb5 oH qH
   go_wp2_with fail
   refine qO.o.mono ?_;rintro e w6 ⟨rfl,q6,rfl⟩;have eG:=qh (Below.drewN' aX.o q6);have eX:=qh (HW0.o.trans (eG.o.mono HW0.o.size))
   by_cases h2:pp=G.del
   ·have HD:=qh (show decide (aT ((n:Int),p,Ls))=false from decide_eq_false fun h=>aG.o4 (n:=n) HL.o h2 h.f)
    rw[decide_eq_true (show G.pl pp=G.pl G.del by rw[h2])];clear h2
    go_wp2_with fail
    go_ret
    exact⟨by rw[HD.o];rfl,eX.o⟩
   rw[decide_eq_false (show¬G.pl pp=G.pl G.del from fun h=>h2 (G.dZ h))];have H12:=qh (And.intro h1 h2);clear h1 h2
   rcases k with _|j
   ·have dN:=qh (HX.o.next HL.o H12.o.1 H12.o.2 (fun i hi=>absurd hi qo))
    go_wp2_with fail
    go_roundw
    case rel=>exact⟨1,by omega,qg,dN,eG⟩
    case measure=>exact qs
   ·obtain⟨qq,hq,_⟩:=HX.o j qo
    obtain⟨g7,o7,B7,c7,e7,xE,sC,oG,_⟩:=(HA.o.below eG.o).at hq;injection e7 with e7;injection e7 with e7 e8;subst e7 e8;rw[G.a7]at sC;have fU:=qh (lK qq pp B7 Bl c7 cl (w5.drewN q6) oG (l5.o.drewN q6) qo);have HQ:=qh hq;have e9:((j+1:Nat):Int)-1=(j:Int):=qo;have b4:(0:Int)<((j+1:Nat):Int):=qo;have b5:(0:Int)≤(j:Int):=qo;have b6:(j:Int)<(N:Int):=qo;clear hq oG
    go_wp2_with fail
    refine fU.o.mono ?_;rintro e w8 ⟨rfl,dM⟩;have p3:=eG.st dM;have tG:=qh (HW0.o.trans (p3.o.mono HW0.o.size));clear dM
    by_cases hx:G.ext qq pp=0
    ·have hxb:(G.ext qq pp==0)=true:=by simp[hx]
     have dN:=qh (HX.o.next HL.o H12.o.1 H12.o.2 (fun i hi=>by
      obtain rfl:i=j:=qo;exact⟨qq,HQ.o,hx⟩))
     clear hx
     go_wp2_with fail
     go_roundw
     case rel=>exact⟨j+1+1,by omega,qg,dN,p3⟩
     case measure=>exact qs
    ·have hxb:(G.ext qq pp==0)=false:=by simp[hx]
     have HD:=qh (show decide (aT ((n:Int),p,Ls))=false from decide_eq_false fun h=>aG.o3 (n:=n) HL.o HQ.o hx h.f)
     go_wp2_with fail
     go_ret
     exact⟨by rw[HD.o];rfl,tG.o⟩
  ·obtain rfl:N=k:=qo
   by_cases hn2:n<2
   ·have xD:¬(2:Int)≤(n:Int):=qo
    have hN0:N=0:=Decidable.byContradiction fun hz=>by
     obtain⟨pp,_,h1,_⟩:=HX.o 0 qo;exact h1 (G.PM.jY fun i hi=>by
      have:=pp.lt hi;show pp.f i=i;omega)
    by_cases hp0:p=0
    ·subst hp0
     have HD:=qh (show decide (aT ((n:Int),0,Ls))=true from decide_eq_true ⟨⟨by show(0:Int)≤(n:Int);omega,by show(n:Int)≤12;omega⟩,HP.o,by simp only;rw[←HN.o];omega,fun _=>⟨rfl,by simp only;rw[←HN.o];omega⟩,by
      show aG n Ls Ls.length;rw[←HN.o];exact HX.o⟩)
     go_wp2_with fail
     go_ret
     exact⟨by rw[HD.o];rfl,cT.o⟩
    ·have hpb:(p==0)=false:=by simp[hp0]
     have HD:=qh (show decide (aT ((n:Int),p,Ls))=false from decide_eq_false fun h=>hp0 (h.z (by show(n:Int)<2;omega)).1)
     go_wp2_with fail
     go_ret
     exact⟨by rw[HD.o];rfl,cT.o⟩
   ·have xD:(2:Int)≤(n:Int):=qo
    have HD:=qh (show decide (aT ((n:Int),p,Ls))=true from decide_eq_true ⟨⟨by show(0:Int)≤(n:Int);omega,by show(n:Int)≤12;omega⟩,HP.o,by simp only;rw[←HN.o];omega,fun h=>absurd h (by show¬(n:Int)<2;omega),by
     show aG n Ls Ls.length;rw[←HN.o];exact HX.o⟩)
    go_wp2_with fail
    go_ret
    exact⟨by rw[HD.o];rfl,cT.o⟩
end Go.Proofs.YtmnbgjnipbpiaaaGreatDoor
namespace Go.Proofs.YtmnbgjnipbpiaaaGreatDoor
open Go.RowKit
theorem gR (s:Int)(hs:0≤s∧s≤12)(A:OA)(n c:Nat)(z:Nat→Int)(w:World)(ha:Rd w A (n*6) (fun j=>.int .i64 (z j)))(hn:n≤1048576):
 Calls Tryz.prog 60 #[.int .i64 s,.slice A n c] w fun e w'=>∃v,e=.returned (.tuple #[.int .i64 v,.bool (cnt z s n).isSome])∧(∀m,cnt z s n=some m→v=m)∧Below w.heap.size w w':=by
 have HA:=qh ha;clear ha
 go_enter Tryz.func60,Tryz.ntmps60
 go_wp2
 go_loopw [0,10] (fun m i wr=>∃k:Nat,k≤n∧i=.int .i64 k∧(∃x,Hq (cnt z s k=some x)∧m=.int .i64 x)∧Below w.heap.size w wr) (fun _ i _=>n-(intOf i).toNat)
 case atStart=>exact⟨0,Nat.zero_le _,rfl,⟨s,qh rfl,rfl⟩,Below.refl _ _⟩
 case round=>
  obtain⟨k,hk,rfl,⟨x,HX,rfl⟩,hbl⟩:=hrel;have HB:=qh hbl;clear hbl;have hxb:=dK hs HX.o
  by_cases hlt:k<n
  ·obtain⟨g,o,rfl,hg,hev⟩:=kZ (HA.o.below HB.o) hlt
   obtain⟨k0,hk0⟩:=qx (z (k*6));obtain⟨p0,hp0⟩:=qx (z (k*6+1));obtain⟨c0,hc0⟩:=qx (z (k*6+2));obtain⟨b0,hb0⟩:=qx (z (k*6+3));obtain⟨y0,hy0⟩:=qx (z (k*6+4));obtain⟨d0,hd0⟩:=qx (z (k*6+5));rw[←hk0,←hp0,←hc0,←hb0,←hy0,←hd0]at hev;have mK:=qh (j9 HX.o);have jE:=qh (fR HX.o);rw[←hk0,←hp0,←hc0,←hb0,←hy0,←hd0]at mK jE;have a0:=hev.c0;have a1:=hev.c1;have a2:=hev.c2;have a3:=hev.c3;have a4:=hev.c4;have a5:=hev.c5;clear hev hk0 hp0 hc0 hb0 hy0 hd0;obtain⟨E,hE⟩:=qx (bE k0 p0 c0 b0 y0 d0 x);have hb:=fun h=>dH (k:=k0) (p:=p0) (c:=c0) (b:=b0) (y:=y0) (d:=d0) (n:=x) h;have HE:=qh hE;have bQ:=qh hb;clear hE hb
   go_wp2_with fail
   refine(nL k0 p0 c0 b0 y0 d0 x _ ⟨by omega,by omega⟩).mono ?_;rintro e w1 ⟨rfl,hb1⟩;rw[←HE.o];have x1:=fun o=>((aA hb1).1 wr.heap.size o qj).trans (aZ rfl o);have HB1:=qh (HB.o.trans (Below.trans ((Below.refl _ _).alloc HB.o.size _) (hb1.mono (by simp;have:=HB.o.size;omega))));clear hb1
   cases E
   ·go_wp2
    go_ret2
    have hno:=eD z s (show k+1≤n by omega) (jE.o (fun h=>by rw[←HE.o]at h;exact absurd h.1 qj));exact⟨_,gS rfl (by rw[hno];rfl),fun m hm=>by(rw[hno]at hm;cases hm),HB1.o⟩
   ·have hb:=bQ.o HE.o.symm
    go_wp2_with fail
    refine(oV k0 p0 c0 b0 y0 d0 x _ ⟨by omega,by omega⟩ ⟨by omega,by omega⟩).mono ?_;rintro e w2 ⟨rfl,hb2⟩;have HB2:=HB1.st hb2;clear hb2 x1;obtain⟨F,hF⟩:=qx (aM k0 c0 x);rw[←hF]at hb ⊢;have HF:=qh hF;clear hF
    by_cases h12:12<F
    ·go_wp2
     go_ret2
     have hno:=eD z s (show k+1≤n by omega) (jE.o (fun h=>by rw[←HF.o]at h;omega));exact⟨_,gS rfl (by rw[hno];rfl),fun m hm=>by(rw[hno]at hm;cases hm),HB2.o⟩
    ·go_wp2
     go_roundw
     case rel=>exact⟨k+1,by omega,qg,⟨F,qh (by rw[HF.o];exact mK.o HE.o.symm (by rw[←HF.o];omega)),rfl⟩,HB2.o⟩
     case measure=>exact qs
  ·obtain rfl:n=k:=qo
   have qK:=qh HX.o
   go_wp2
   go_ret2
   exact⟨_,gS rfl (by rw[HX.o];rfl),fun m hm=>by(have h1:=HX.o;rw[hm]at h1;injection h1 with h1;exact h1.symm),HB.o⟩
end Go.Proofs.YtmnbgjnipbpiaaaGreatDoor
namespace Go.Proofs.YtmnbgjnipbpiaaaGreatDoor
open Go.RowKit
theorem lX (k p c b y d:Int)(w:World):Calls Tryz.prog 59 #[.agg #[.int .i64 k,.int .i64 p,.int .i64 c,.int .i64 b,.int .i64 y,.int .i64 d]] w fun e w'=>e=.returned (.bool (k==1))∧Below w.heap.size w w':=by
 go_enter Tryz.func59,Tryz.ntmps59
 go_wp2
 go_ret
 exact⟨rfl,qz⟩
open Classical in
theorem lR (A:OA)(m c:Nat)(L:List Int)(w:World)(ha:Rd w A (m*6) (fun j=>.int .i64 (L.getD j 0)))(hm:m≤1048576):
 Calls Tryz.prog 109 #[.slice A m c,.func (.func 59) #[] #[]] w fun e w'=>(∃i:Int,e=.returned (.int .i64 i)∧decide (0≤i)=decide (¬dQ L m)∧ -1≤i∧i≤2000000)∧Below w.heap.size w w':=by
 have HA:=qh ha;clear ha
 go_enter Tryz.func109,Tryz.ntmps109
 go_wp2_with fail
 go_loopw [5,8] (fun _ x wr=>∃k:Nat,k≤m∧x=.int .i64 k∧Hq (dQ L k)∧Hq (Below w.heap.size w wr)) (fun _ x _=>m-(intOf x).toNat)
 case atStart=>exact⟨0,Nat.zero_le _,rfl,qh (fun j hj=>absurd hj (Nat.not_lt_zero j)),qh (Below.refl _ _)⟩
 case round=>
  obtain⟨k,hk,rfl,HX,HB⟩:=hrel
  by_cases hlt:k<m
  ·obtain⟨g,o,rfl,hg,hev⟩:=kZ (HA.o.below HB.o) hlt
   have HN:=qh (show dQ L (k+1)↔dQ L k∧L.getD (k*6) 0≠1 from⟨fun h=>⟨fun i hi=>h i qo,h k qo⟩,fun h i hi=>by
    rcases Nat.lt_or_ge i k with h'|h'
    ·exact h.1 i h'
    ·obtain rfl:i=k:=qo
     exact h.2⟩)
   obtain⟨k0,hk0⟩:=qx (L.getD (k*6) 0);obtain⟨p0,hp0⟩:=qx (L.getD (k*6+1) 0);obtain⟨c0,hc0⟩:=qx (L.getD (k*6+2) 0);obtain⟨b0,hb0⟩:=qx (L.getD (k*6+3) 0);obtain⟨y0,hy0⟩:=qx (L.getD (k*6+4) 0);obtain⟨d0,hd0⟩:=qx (L.getD (k*6+5) 0)
   simp only[←hk0,←hp0,←hc0,←hb0,←hy0,←hd0]at hev HN
   have a0:=hev.c0;have a1:=hev.c1;have a2:=hev.c2;have a3:=hev.c3;have a4:=hev.c4;have a5:=hev.c5;have b1:(0:Int)≤(k:Int):=qo;have b2:(k:Int)<(m:Int):=qo;clear hev hk0 hp0 hc0 hb0 hy0 hd0
   go_wp2_with fail
   refine(lX k0 p0 c0 b0 y0 d0 _).mono ?_;rintro e w1 ⟨rfl,hb1⟩;have HB1:=HB.st hb1;clear hb1 a0 a1 a2 a3 a4 a5
   by_cases h1:k0=1
   ·have h1b:(k0==1)=true:=by simp[h1]
    rw[h1b];have HD:=qh (show¬dQ L m from fun h=>(HN.o.1 (fun i hi=>h i qo)).2 h1);clear h1 h1b
    go_wp2_with fail
    go_ret
    exact⟨⟨k,rfl,by rw[decide_eq_true (show(0:Int)≤(k:Int)by omega),decide_eq_true HD.o],by omega,by omega⟩,HB1.o⟩
   ·have h1b:(k0==1)=false:=by simp[h1]
    rw[h1b];have dN:=qh (HN.o.2 ⟨HX.o,h1⟩);clear h1 h1b
    go_wp2_with fail
    go_roundw
    case rel=>exact⟨k+1,by omega,qg,dN,HB1⟩
    case measure=>exact qs
  ·obtain rfl:m=k:=qo
   go_wp2_with fail
   go_ret
   exact⟨⟨-1,rfl,by rw[decide_eq_false (show¬(0:Int)≤ -1 by omega),decide_eq_false (fun h=>h HX.o)],by omega,by omega⟩,HB.o⟩
open Classical in
theorem iP (A:OA)(m c:Nat)(L:List Int)(w:World)(ha:Rd w A (m*6) (fun j=>.int .i64 (L.getD j 0)))(hm:m≤1048576):
 Calls Tryz.prog 58 #[.slice A m c,.func (.func 59) #[] #[]] w fun e w'=>e=.returned (.bool (decide (¬dQ L m)))∧Below w.heap.size w w':=by
 obtain⟨V,hV⟩:=qx (decide (¬dQ L m));have HC:=qh (lR A m c L w ha hm);rw[←hV]at HC ⊢;clear ha hV
 go_enter Tryz.func58,Tryz.ntmps58
 go_wp2_with fail
 refine HC.o.mono ?_;rintro e w1 ⟨⟨i,rfl,hi,h1,h2⟩,hb1⟩;have HI:=qh hi;have HB1:=qh hb1;clear hi hb1
 go_wp2_with fail
 go_ret
 exact⟨by rw[←HI.o];first|rfl|simp,HB1.o⟩
open Classical in
theorem gW {q:Bool}(A B:OA)(c d:Nat)(F:List aF)(S:List (List Int))(w:World)(hp:cN q w A B F S)(hb:l1 F S):
 Calls Tryz.prog 27 #[.agg #[.slice A F.length c,.slice B S.length d]] w fun e w'=>e=.returned (.bool (decide (bO F S)))∧Below w.heap.size w w':=by
 have bQ:=qh hb;have HW0:=qh ((Below.refl w.heap.size w).alloc ql (.cells #[.slice A F.length c,.slice B S.length d] 31));have HP:=qh (hp.below HW0.o);have hfl:=hb.f.1;have hsl:=hb.s.1;clear hp hb
 by_cases hin:1≤F.length∧F.length≤60
 case neg=>
  have HD:=qh (show decide (bO F S)=false from decide_eq_false fun h=>hin h.1)
  by_cases h1:1≤F.length
  ·have h2:(60:Int)<(F.length:Int):=qo
   have h3:¬(F.length:Int)<1:=qo
   go_enter Tryz.func27,Tryz.ntmps27
   go_wp2_with fail
   go_ret
   exact⟨by rw[HD.o];rfl,HW0.o⟩
  ·have h3:(F.length:Int)<1:=qo
   go_enter Tryz.func27,Tryz.ntmps27
   go_wp2_with fail
   go_ret
   exact⟨by rw[HD.o];rfl,HW0.o⟩
 have h1:¬(F.length:Int)<1:=qo;have h2:¬(60:Int)<(F.length:Int):=qo
 by_cases hl:S.length=F.length
 case neg=>
  have HD:=qh (show decide (bO F S)=false from decide_eq_false fun h=>hl h.2.1);have hlb:((S.length:Int)==(F.length:Int))=false:=by rw[beq_eq_false_iff_ne];omega
  have hlc:¬(S.length:Int)=(F.length:Int):=qo
  go_enter Tryz.func27,Tryz.ntmps27
  go_wp2_with fail
  go_ret
  exact⟨by rw[HD.o];rfl,HW0.o⟩
 obtain⟨N,hN⟩:=qx (F.length);have dO:=qh hN;have hZ:=qh (show S.length=N by omega);obtain⟨w1,hw1⟩:=qx (w.alloc (.cells #[.slice A N c,.slice B N d] 31));rw[hl,←hN,←hw1]at HP HW0;rw[←hN]at hfl h1 h2 hin;rw[hl,←hN];have hb0:aJ w1 w.heap.size 31 #[.slice A N c,.slice B N d]:=by rw[hw1];exact aJ.at_ w _ _ rfl
 have h3:w1.cell? ⟨w.heap.size,0,none⟩=some (.slice A N c):=hb0.cell 0;have h4:w1.cell? ⟨w.heap.size,1,none⟩=some (.slice B N d):=hb0.cell 1;have hgz:w.heap.size<w1.heap.size:=hb0.lt;clear hl hN hsl hb0
 go_enter Tryz.func27,Tryz.ntmps27
 go_wp2_with fail
 rw[←hw1];clear hw1
 go_loopg [3,4,5,6,7,8,31] N (fun q nv _ _ _ _ _ x wr=>∃(k:Nat) (m:Int),k≤N∧q+k=N∧x=.int .i64 k∧nv=.int .i64 m∧Hq (cS F S k=some m)∧Hq (Below w1.heap.size w1 wr))
 case atStart=>exact⟨0,0,Nat.zero_le _,rfl,rfl,rfl,qh rfl,qh (Below.refl _ _)⟩
 case round=>
  obtain⟨k,m,hk,hq,rfl,rfl,HT,HB⟩:=hrel;have hmb:=eZ HT.o;have hgw:=Nat.lt_of_lt_of_le hgz HB.o.size;have d0:=a6 HB.o hgz h3;have d1:=a6 HB.o hgz h4;have cT:=qh (HW0.o.trans (HB.o.mono HW0.o.size))
  by_cases hlt:k<N
  ·obtain⟨f,hf⟩:=n9 (L:=F) (k:=k) (by have:=dO.o;omega)
   obtain⟨L,hL⟩:=n9 (L:=S) (k:=k) (by have:=hZ.o;omega);obtain⟨gf,off,Af,cf,rfl,hgf,bM⟩:=(HP.o.f.below HB.o).at hf;obtain⟨gs,os,As,ms,cs,rfl,hgs,hsc,hll,hsr⟩:=(HP.o.s.below HB.o).at hL;have gX:=bQ.o.f.2 f (List.mem_of_getElem? hf);have hsb:=bQ.o.s.2 L (List.mem_of_getElem? hL);have hfn:=gX.n;have hms:ms≤1048576:=qo;obtain⟨fs,fp,fl⟩:=f;have jF:=qh ((Below.refl wr.heap.size wr).alloc ql (.cells #[.int .i64 fs,.int .i64 fp,.slice Af fl.length cf] 54));have fS:=qh (gM (fs,fp,fl) Af cf _ (bM.rd.below jF.o) gX);have eT:=qh hsr;have eV:=qh (fun hn=>decide_eq_false (nS HT.o hf hL hn));have bZ:=qh (fun a b c d e f=>nT HT.o hf hL a b c d e f);have hdiv:L.length/6=ms:=qo;rw[hdiv]at eV bZ;have eK:=qh hll;have c0:=bM.c0;have c1:=bM.c1;have c2:=bM.c2
   simp only at c0 c1 c2 hfn eV bZ
   have b1:(0:Int)≤(k:Int):=qo;have b2:(k:Int)<(N:Int):=qo;obtain⟨BAD,gP⟩:∃b:Bool,b=decide (¬(aT (fs,fp,fl)∧fs=m∧(0<k→¬(fp=0∧fl.length=0)))):=⟨_,rfl⟩;have gF:=qh (fun h=>gP.trans (decide_eq_true h));have l8:=qh (fun h=>gP.trans (decide_eq_false h));clear hf hL bM gX hsr hsb hdiv hll gP
   go_upto_region 8 with fail
   go_cut [64]from 32 to 94 (fun s wx=>s=.bool BAD∧Hq (Below wr.heap.size wr wx))
   case first=>
    go_wp2_with fail
    refine fS.o.mono ?_;rintro e w2 ⟨rfl,hb2⟩;have HB1:=jF.st hb2;have y0:=fun o=>((aA hb2).1 wr.heap.size o qj).trans (aZ rfl o);clear hb2 fS
    by_cases hnf:aT (fs,fp,fl)
    case neg=>
     have HX:=qh (gF.o fun h=>hnf h.1);rw[decide_eq_false hnf];clear hnf
     go_wp2_with fail
     go_meet
     exact⟨by rw[HX.o],HB1⟩
    rw[decide_eq_true hnf]
    by_cases hfm:fs=m
    case neg=>
     have HX:=qh (gF.o fun h=>hfm h.2.1);have gX:(fs==m)=false:=by simp[hfm]
     clear hnf
     go_wp2_with fail
     go_meet
     exact⟨by rw[HX.o],HB1⟩
    subst hfm
    by_cases hz:0<k∧fp=0∧fl.length=0
    ·have HX:=qh (gF.o fun h=>h.2.2 hz.1 hz.2)
     obtain⟨z1,rfl,z3⟩:=hz;have z1':(0:Int)<(k:Int):=qo;rw[z3]at y0;clear hnf
     go_wp2_with fail
     go_meet
     exact⟨by rw[HX.o],HB1⟩
    have HX:=qh (l8.o fun h=>h ⟨hnf,rfl,fun h h2=>hz ⟨h,h2⟩⟩);have hcase:(¬(0:Int)<(k:Int))∨((0:Int)<(k:Int)∧(fp==0)=false)∨((0:Int)<(k:Int)∧(fp==0)=true∧((fl.length:Int)==0)=false∧¬(fl.length:Int)=0):=by
     by_cases h1:0<k
     ·by_cases h2:fp=0
      ·have h3:¬fl.length=0:=fun h=>hz ⟨h1,h2,h⟩
       exact .inr (.inr ⟨by omega,by simp[h2],by rw[beq_eq_false_iff_ne];omega,by omega⟩)
      ·exact .inr (.inl ⟨by omega,by simp[h2]⟩)
     ·exact .inl qo
    clear hnf hz
    rcases hcase with z1|⟨z1,z2⟩|⟨z1,z2,z3,z4⟩
    all_goals(go_wp2_with fail;go_meet;exact⟨by rw[HX.o],HB1⟩)
   case rest=>
    obtain⟨rfl,HB1⟩:=hcut;have HB2:=qh (HB.o.trans (HB1.o.mono HB.o.size));have eX:=qh (HW0.o.trans (HB2.o.mono HW0.o.size))
    by_cases hg:aT (fs,fp,fl)∧fs=m∧(0<k→¬(fp=0∧fl.length=0))
    case neg=>
     have hx:=gF.o hg;subst hx;have HD:=qh (eV.o fun h=>hg ⟨h.1,h.2.1,h.2.2.1⟩);clear hg
     go_wp2_with fail
     go_ret
     exact⟨by rw[HD.o];rfl,eX.o⟩
    have hx:=l8.o (fun h=>h hg);subst hx;have HG:=qh hg;have e0:=a6 HB1.o hgw d0;have nJ:=qh (eT.o.below HB1.o);have wE:=Nat.lt_of_lt_of_le hgw HB1.o.size;clear hg d0 d1 hsc c0 c1 c2;obtain⟨sL,gO⟩:∃b:Bool,b=decide (¬(ms≤2000∧(k+1<N→ms≠0)∧dQ L ms)):=⟨_,rfl⟩;have l4:=qh (fun h=>gO.trans (decide_eq_true h));have mI:=qh (fun h=>gO.trans (decide_eq_false h));have qQ:=qh (iP As ms cs L wc nJ.o hms);clear gO
    go_upto_region 10 with fail
    go_cut [84]from 32 to 94 (fun s wx=>s=.bool sL∧Hq (Below wc.heap.size wc wx))
    case first=>
     by_cases hm2:ms≤2000
     case neg=>
      have s8:(2000:Int)<(ms:Int):=qo;have HX:=qh (l4.o fun h=>hm2 h.1)
      go_wp2_with fail
      go_meet
      exact⟨by rw[HX.o],qh (Below.refl _ _)⟩
     have s8:¬(2000:Int)<(ms:Int):=qo
     by_cases hl:k+1<N∧ms=0
     ·have HX:=qh (l4.o fun h=>h.2.1 hl.1 hl.2)
      obtain⟨hl1,rfl⟩:=hl;have hl2:(k:Int)<(N:Int)-1:=qo
      go_wp2_with fail
      go_meet
      exact⟨by rw[HX.o],qh (Below.refl _ _)⟩
     by_cases hnx:dQ L ms
     ·have HX:=qh (mI.o fun h=>h ⟨hm2,fun h1 h2=>hl ⟨h1,h2⟩,hnx⟩)
      rw[decide_eq_false (fun h=>h hnx)]at qQ;have hcase:((ms:Int)==0)=false∨(((ms:Int)==0)=true∧¬(k:Int)<(N:Int)-1):=by
       by_cases h1:ms=0
       ·exact .inr ⟨by simp[h1],by omega⟩
       ·exact .inl (by rw[beq_eq_false_iff_ne];omega)
      clear hl hnx
      rcases hcase with z1|⟨z1,z2⟩
      all_goals
       go_wp2_with fail
       refine qQ.o.mono ?_;rintro e w5 ⟨rfl,hb5⟩;have aX:=qh hb5;clear hb5
       go_wp2_with fail
       go_meet
       exact⟨by rw[HX.o],aX⟩
     ·have HX:=qh (l4.o fun h=>hnx h.2.2)
      rw[decide_eq_true hnx]at qQ;have hcase:((ms:Int)==0)=false∨(((ms:Int)==0)=true∧¬(k:Int)<(N:Int)-1):=by
       by_cases h1:ms=0
       ·exact .inr ⟨by simp[h1],by omega⟩
       ·exact .inl (by rw[beq_eq_false_iff_ne];omega)
      clear hl hnx
      rcases hcase with z1|⟨z1,z2⟩
      all_goals
       go_wp2_with fail
       refine qQ.o.mono ?_;rintro e w5 ⟨rfl,hb5⟩;have aX:=qh hb5;clear hb5
       go_wp2_with fail
       go_meet
       exact⟨by rw[HX.o],aX⟩
    case rest=>
     obtain⟨rfl,aX⟩:=hcut;have eG:=qh (HB2.o.trans (aX.o.mono HB2.o.size));have eX:=qh (HW0.o.trans (eG.o.mono HW0.o.size))
     by_cases hl:ms≤2000∧(k+1<N→ms≠0)∧dQ L ms
     case neg=>
      have hx:=l4.o hl;subst hx;have HD:=qh (eV.o fun h=>hl ⟨by have:=h.2.2.2.1;have:=eK.o;omega,fun h1 h2=>h.2.2.2.2.1 (by rw[←dO.o];exact h1) (by have:=eK.o;omega),h.2.2.2.2.2.1⟩);clear hl
      go_wp2_with fail
      go_ret
      exact⟨by rw[HD.o];rfl,eX.o⟩
     have hx:=mI.o (fun h=>h hl);subst hx;have oZ:=qh hl;obtain⟨hg1,hg2,hg3⟩:=HG.o;subst hg2;have sW:=qh (gR fs hmb As ms cs (fun i=>L.getD i 0) _ (nJ.o.below aX.o) hms);clear hl hg1 hg3;obtain⟨R,hR⟩:=qx (cnt (fun i=>L.getD i 0) fs ms);rw[←hR]at sW bZ eV;clear hR
     go_wp2_with fail
     refine sW.o.mono ?_;rintro e w7 ⟨v7,rfl,hv7,oI⟩;have qS:=eG.st oI;have tG:=qh (HW0.o.trans (qS.o.mono HW0.o.size));have xU:=qh hv7;clear oI hv7 sW
     cases R with
     |none=>
      have HD:=qh (eV.o fun h=>h.2.2.2.2.2.2 rfl)
      go_wp2_with fail
      go_ret
      exact⟨by rw[HD.o];rfl,tG.o⟩
     |some y=>
      obtain rfl:=xU.o y rfl;have sU:=qh (bZ.o HG.o.1 (by first|rfl|trivial) HG.o.2.2 (by have:=eK.o;have:=oZ.o.1;omega) (fun h h2=>oZ.o.2.1 (by rw[dO.o];exact h) (by have:=eK.o;omega)) oZ.o.2.2)
      go_wp2_with fail
      go_roundg (gk-1)
      case rel=>exact⟨k+1,_,by omega,by omega,qg,rfl,sU,qS⟩
      case measure=>omega
  ·obtain rfl:N=k:=qo
   have HD:=qh (show decide (bO F S)=true from decide_eq_true ⟨by rw[←dO.o];exact hin,by rw[←dO.o];exact hZ.o,by rw[←dO.o,HT.o];rfl⟩)
   go_wp2_with fail
   go_ret
   exact⟨by rw[HD.o];rfl,cT.o⟩
end Go.Proofs.YtmnbgjnipbpiaaaGreatDoor
