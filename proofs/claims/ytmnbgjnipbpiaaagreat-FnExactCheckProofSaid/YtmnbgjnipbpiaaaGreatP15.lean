/- Walks and plain lemmas. -/
import Derived.Test.YtmnbgjnipbpiaaaGreatP14
set_option linter.unusedVariables false
set_option linter.unusedSimpArgs false
set_option maxHeartbeats 4000000
set_option maxRecDepth 20000
namespace Go.Proofs.YtmnbgjnipbpiaaaGreat
open Go.RowKit
section
variable {n N g cap:Nat}{w w':World}{A:Option Addr}{L:List (G.PM n)}{As:Nat→Option Addr}{cs:Nat→Nat}{B:Nat}{v:Value}
theorem FZ:((List.range (L.map G.pl).length).map fun j=>Value.slice (As j) ((L.map G.pl).getD j []).length (cs j))=(List.range L.length).map fun j=>Value.slice (As j) n (cs j):=by
 rw[List.length_map];exact List.map_congr_left fun j hj=>by rw[pI (List.mem_range.1 hj)]
theorem GW (ho:w'.ownsRow B 74 1 v L.length ((List.range L.length).map fun j=>Value.slice (As j) n (cs j)))(hr:∀j p,L[j]?=some p→aG w (As j) (G.pl p))(hb:Below w.heap.size w w')(hB:w.heap.size≤B):aT B v (L.map G.pl) As cs w':=by
 have hj':∀j,j<(L.map G.pl).length→j<L.length:=fun j hj=>by rwa[List.length_map]at hj
 refine⟨by rw[FZ,List.length_map];exact ho,fun j hj=>?_,fun j hj b hF he=>?_⟩
 ·have hp:=List.getElem?_eq_getElem (hj' j hj)
  rw[gH hp];exact(hr j _ hp).below hb
 ·have hp:=List.getElem?_eq_getElem (hj' j hj)
  rw[gH hp]at hF;have h1:=(aB _ _ _).2 w b (hr j _ hp) hF;have h2:=(ho.lt b he).1;omega
theorem eM (h:aT B (.slice (some ⟨g,0,none⟩) N cap) (L.map G.pl) As cs w)(hN:L.length=N){j:Nat}{p:G.PM n}(hp:L[j]?=some p):w.cell? ⟨g,j,none⟩=some (.slice (As j) n (cs j))∧aG w (As j) (G.pl p)∧w.frozen? ⟨g,j,none⟩=false:=by
 subst hN;have hj:j<L.length:=(List.getElem?_eq_some_iff.1 hp).1;have h':aT B (.slice (some ⟨g,0,none⟩) (L.map G.pl).length cap) (L.map G.pl) As cs w:=by rw[List.length_map];exact h
 have h1:=h'.cell (j:=j) (by rw[List.length_map];exact hj);rw[pI hj]at h1;have h2:=h.rd j (by rw[List.length_map];exact hj);rw[gH hp]at h2;exact⟨h1,h2,h'.frozen j⟩
theorem xU (h:aT B (.slice (some ⟨g,0,none⟩) N cap) (L.map G.pl) As cs w)(hN:L.length=N){i:Nat}(hi:i<N){A:Option Addr}{p:G.PM n}{c:Nat}(hA:aG w A (G.pl p))(hv:∀b,Fb A n b→b≠g):
 aT B (.slice (some ⟨g,0,none⟩) N cap) ((L.set i p).map G.pl) (fun j=>if j=i then A else As j) (fun j=>if j=i then c else cs j) (w.setCell ⟨g,i,none⟩ (.slice A n c)):=by
 subst hN;have h':aT B (.slice (some ⟨g,0,none⟩) (L.map G.pl).length cap) (L.map G.pl) As cs w:=by rw[List.length_map];exact h
 have h1:=h'.put (c:=c) (i:=i) (by rw[List.length_map];exact hi) hA (by rw[G.a6];exact hv);rw[G.a6,List.length_map]at h1;rw[List.map_set];exact h1
end
theorem sQ {n:Nat}{L:List (G.PM n)}{i:Nat}{p q:G.PM n}(h:G.gM L i)(hp:L[i]?=some p)(hq:L[i+1]?=some q)(he:G.ext p q=0):G.gM L (i+1):=fun j hj hji p' q' hp' hq'=>by
 by_cases N5:j<i
 ·exact h j hj N5 p' q' hp' hq'
 ·obtain rfl:j=i:=qo
  rw[hp]at hp';rw[hq]at hq';injection hp' with hp';injection hq' with hq';rw[←hp',←hq',he]
theorem wP {n:Nat}{L:List (G.PM n)}{i:Nat}(h:G.gM L i)(hi:L.length≤i+1):G.Still L:=G.mZ fun j hj _=>h j hj qo
section
variable {n:Nat}(T:List (G.PM n))
theorem B6:G.strip (T++[G.one])=G.strip T∧G.cnt (T++[G.one])=G.cnt T:=by
 constructor
 ·simp[G.strip]
 ·simp[G.cnt]
theorem BA (h:(G.del:G.PM n)≠G.one):G.strip (T++[G.del])=G.strip T∧G.cnt (T++[G.del])=G.cnt T+1:=by
 constructor
 ·simp[G.strip]
 ·simp[G.cnt,h]
theorem B9 {p:G.PM n}(h:p≠G.one)(h2:p≠G.del):G.strip (T++[p])=G.strip T++[p]∧G.cnt (T++[p])=G.cnt T:=by
 constructor
 ·simp[G.strip,h,h2]
 ·simp[G.cnt,h2]
theorem CB:G.cnt T≤T.length:=by
 unfold G.cnt;exact List.length_filter_le _ _
end
def KH {n:Nat}(C:Nat)(w:World)(M:List (G.PM n))(e:Ending)(w':World):Prop:=∃v As cs,e=.returned (.tuple #[.int .i64 (G.cnt M:Nat),v])∧aT w.heap.size v ((G.strip M).map G.pl) As cs w'∧Up C n (G.strip M).length As∧Below w.heap.size w w'
theorem rQ {n:Nat}(L:List (G.PM n))(A:OA)(c:Nat)(As:Nat→OA)(cs:Nat→Nat)(w:World)(h:oU w A L As cs)(hn:n≤1000)(hl:L.length≤1000000)(C:Nat)(hC:C≤w.heap.size)(hU:Up C n L.length As):
 Calls Tryz.prog 66 #[.int .i64 n,.slice A L.length c] w (KH C w (G.nf L)):=by
 obtain⟨i0,hi,iz,is,ib⟩:=info_parts oD;have HO:=qh (World.ownsRow_made (e:=74) (size:=1) w #[] 0 ql qm rfl);have HB:=qh ((Below.refl w.heap.size w).alloc ql (.cells #[] 74));have HR:=qh h;have HR1:=qh (h.below HB.o);have HU:=qh hU;clear h hU
 go_enter Tryz.func66,Tryz.ntmps66
 go_wp2_with (at_builtin;go_must (refine gO (w.alloc (.cells #[] 74)) rfl (.tmp 13) (.tmp 14) _ rfl w.heap.size 74 i0 _ 1 24 Tryz.underlying65 hi iz is ib rfl qo _ 0 [] rfl HO.o A L.length c (fun j=>.slice (As j) n (cs j)) rfl (by rw[Nat.mul_one];exact HR1.o.cell) (fun j=>rfl) qm qo qj ?_);intro v' w' hown' hfr;have HOWN':=qh hown';have gF:=qh hfr;clear hown' hfr)
 have HB1:=qh (HB.o.trans (gF.o.own HO.o qj));have ME:=qh (GW (L:=L) (As:=As) (cs:=cs) (v:=v') (by
  have ho:=HOWN'.o;rw[Nat.zero_add,List.nil_append,Nat.mul_one]at ho;exact ho) HR.o.rd HB1.o ql)
 obtain⟨A6,c6,rfl⟩:∃A6 c6,v'=.slice A6 L.length c6:=by
  have ho:=HOWN'.o;rw[Nat.zero_add]at ho;exact aD ho
 clear HOWN' gF HR1 HR HO HB
 go_wp2_with fail
 go_loopg [7,8,9] (G.mu L+1) (fun q b i l wr=>∃(L1:List (G.PM n)) (jP:Nat→OA) (cs1:Nat→Nat) (ch:Bool),b=.bool ch∧q=(if ch then G.mu L1+1 else 0)∧Hq (ch=false→G.Still L1)∧Hq (G.Steps L L1)∧Hq (aT w.heap.size (.slice A6 L.length c6) (L1.map G.pl) jP cs1 wr)∧Hq (Up C n L.length jP)∧Hq (Below w.heap.size w wr))
 case atStart=>exact⟨L,As,cs,true,rfl,rfl,qh (fun h=>by cases h),qh (.refl _),ME,HU,HB1⟩
 case round=>
  obtain⟨L1,jP,cs1,ch,rfl,hq,HST,FC,HL,LP,eY⟩:=hrel;have nF:=qh FC.o.length
  cases ch with
  |true=>
   clear HST
   go_wp2_with fail
   go_loopg [7,8,9] L.length (fun q b i l wr=>∃(k:Nat) (L2:List (G.PM n)) (pA:Nat→OA) (cs2:Nat→Nat) (ch:Bool),k≤L.length∧q=L.length-k∧i=.int .i64 k∧b=.bool ch∧Hq (G.Steps L1 L2)∧Hq ((ch=false∧L2=L1∧G.gM L1 k)∨(ch=true∧G.mu L2<G.mu L1))∧Hq (aT w.heap.size (.slice A6 L.length c6) (L2.map G.pl) pA cs2 wr)∧Hq (Up C n L.length pA)∧Hq (Below w.heap.size w wr))
   case atStart=>exact⟨0,L1,jP,cs1,false,Nat.zero_le _,rfl,rfl,rfl,qh (.refl _),qh (.inl ⟨rfl,rfl,fun j _ h=>absurd h (Nat.not_lt_zero j)⟩),HL,LP,eY⟩
   case round=>
    obtain⟨k,L2,pA,cs2,ch,hk,hq2,rfl,rfl,HS2,kQ,HL2,iZ,HB2⟩:=hrel;have bT:=qh (HS2.o.length.trans nF.o)
    by_cases hlt:k+1<L.length
    ·have hlt1:k<L.length:=qo
     obtain⟨p,hp⟩:∃p,L2[k]?=some p:=⟨_,List.getElem?_eq_getElem (by have:=bT.o;omega)⟩;obtain⟨r,hr⟩:∃r,L2[k+1]?=some r:=⟨_,List.getElem?_eq_getElem (by have:=bT.o;omega)⟩;obtain⟨g6,rfl⟩:∃g6,A6=some ⟨g6,0,none⟩:=by
      obtain⟨g6,_,e,_⟩:=HL2.o.form (by rw[List.length_map];have:=bT.o;omega);injection e with e _ _;exact⟨g6,e⟩
     obtain⟨k1,r1,_⟩:=eM HL2.o bT.o hp;obtain⟨k2,r2,_⟩:=eM HL2.o bT.o hr;have i3:=qh (iO p r (pA k) (pA (k+1)) (cs2 k) (cs2 (k+1)) wr.drew (r1.drewN 1) (r2.drewN 1) hn);have M5:=qh hp;have HRR:=qh hr;have b1:(0:Int)≤(k:Int):=qo;have b2:(k:Int)<(L.length:Int):=qo;have b3:(0:Int)≤(k:Int)+1:=qo;have b4:(k:Int)+1<(L.length:Int):=qo;clear hp hr r1 r2
     go_wp2_with fail
     have s1:IntKind.i64.wrap ((k:Int)+1)=(k:Int)+1:=IntWalk.i64_in _ qo
     go_region_held3 (fun w'=>w'.cell? ⟨g6,k,none⟩=some (.slice (pA k) n (cs2 k))∧w'.cell? ⟨g6,k+1,none⟩=some (.slice (pA (k+1)) n (cs2 (k+1)))) (go_keep) ((go_at_call 59;refine i3.o.mono ?_;rintro e w4 ⟨rfl,hb4⟩;have hb5:Below wr.heap.size wr w4:=(Below.refl wr.heap.size wr).drew.trans hb4;have rA:=qh (HL2.o.below hb5);have bQ:=HB2.st hb5;have k1:=a7 hb5 (World.block_lt_of_cell? wr _ k1) k1;have k2:=a7 hb5 (World.block_lt_of_cell? wr _ k2) k2;clear hb4 hb5))
     rename_i hHeld
     clear hHeld k1 k2 i3 s1
     rename World=>w4
     go_wp2_with fail
     go_loopg [7,9] (G.mu L2) (fun q b l wr=>∃(L3:List (G.PM n)) (yX:Nat→OA) (C8:Nat→Nat) (ch:Bool) (p r:G.PM n),b=.bool ch∧q=G.mu L3∧Hq (L3[k]?=some p)∧Hq (L3[k+1]?=some r)∧l=.int .i64 (G.ext p r)∧Hq (G.Steps L1 L3)∧Hq ((ch=false∧L3=L1∧G.gM L1 k)∨(ch=true∧G.mu L3<G.mu L1))∧Hq (aT w.heap.size (.slice (some ⟨g6,0,none⟩) L.length c6) (L3.map G.pl) yX C8 wr)∧Hq (Up C n L.length yX)∧Hq (Below w.heap.size w wr))
     case atStart=>exact⟨L2,pA,cs2,ch,p,r,rfl,rfl,M5,HRR,rfl,HS2,kQ,rA,iZ,bQ⟩
     case round=>
      clear rA bQ HL2 kQ HS2 M5 HRR bT;obtain⟨L3,yX,C8,LD,p,r,rfl,hq3,lG,HR3,rfl,qW,JS,kN,LO,HB3⟩:=hrel;have yS:=qh (qW.o.length.trans nF.o)
      by_cases hx:G.ext p r=0
      ·have J5:=qh (show LD=false→G.gM L1 (k+1)from fun hc=>by
        rcases JS.o with⟨_,h2,h3⟩|⟨h1,_⟩
        ·exact sQ h3 (h2▸lG.o) (h2▸HR3.o) hx
        ·rw[hc]at h1
         cases h1)
       rw[hx]
       go_wp2_with fail
       go_roundg (L.length-(k+1))
       case rel=>exact⟨k+1,L3,yX,C8,LD,by omega,rfl,qg,rfl,qW,qh (by
        rcases JS.o with⟨h1,h2,h3⟩|h
        ·exact .inl ⟨h1,h2,J5.o h1⟩
        ·exact .inr h),kN,LO,HB3⟩
       case measure=>omega
      obtain⟨m,hm,hcan⟩:=G.yB hx;rw[hm];have hm1:=hcan.1;have hm2:=hcan.2.1;have hx1:¬(m:Int)=0:=qo;have hx2:((m:Int)==0)=false:=by rw[beq_eq_false_iff_ne];omega
      obtain⟨k1,r1,f1⟩:=eM kN.o yS.o lG.o;have F7:=World.block_lt_of_cell? wr _ k1
      simp only at F7
      have EP:=qh (G.FU lG.o HR3.o hcan);have MN:=qh (i7 p m (yX k) (C8 k) wr r1 hn hm1 hm2);clear r1 hx hm hcan
      go_wp2_with fail
      refine MN.o.mono ?_;rintro e w5 h5;obtain⟨A5,c5,rfl,y6,gW,hb5⟩:=h5.rd;have kK:=qh (xU (i:=k) (c:=c5) (kN.o.below hb5) yS.o hlt1 gW (fun b hb he=>by
       rw[←G.a6 (p:=p.aM m)]at hb;have:=fA y6 hb;omega))
      have bP:=qh (((HB3.o.trans (hb5.mono HB3.o.size)).setCell (p:=⟨g6,k,none⟩) (kN.o.own.lt g6 rfl).1 (.slice A5 n c5)));have FM:=qh (show∀b,Fb A5 n b→C≤b from fun b hb=>by
       rw[←G.a6 (p:=p.aM m)]at hb;have h1:=fA y6 hb;have h2:=HB3.o.size;omega)
      have k5:=a7 hb5 F7 k1;have f5:=(World.frozen?_of_block (a:=⟨g6,k,none⟩) (hb5.block _ F7)).trans f1;rw[G.a6];have CU:=qh (show(L3.set k (p.aM m)).length=L.length by rw[List.length_set];exact yS.o);have jM:=qh (show(L3.set k (p.aM m))[k+1]?=some r by rw[List.getElem?_set_ne qo];exact HR3.o);obtain⟨k2,_,_⟩:=eM kN.o yS.o HR3.o;have k6:=a7 hb5 F7 k2;obtain⟨k66,r6,f6⟩:=eM kK.o CU.o jM.o
      simp only[show¬(k+1=k)by omega,if_false]at r6 k66
      have dN:=qh (rT r m (yX (k+1)) (C8 (k+1)) _ r6 hn hm1 hm2);have tE:g6<(w5.setCell ⟨g6,k,none⟩ (.slice A5 n c5)).heap.size:=World.block_lt_of_cell? _ _ k66;clear h5 y6 gW hb5 k1 k2 f1 MN kN HB3 r6
      go_wp2_with fail
      refine dN.o.mono ?_;rintro e w7 h7;obtain⟨A7,c7,rfl,lX,eP,aY⟩:=h7.rd;have hJ:=qh (xU (i:=k+1) (c:=c7) (kK.o.below aY) CU.o hlt eP (fun b hb he=>by
       rw[←G.a6 (p:=r.aU m)]at hb;have:=fA lX hb;omega))
      have fF:=qh ((bP.o.trans (aY.mono bP.o.size)).setCell (p:=⟨g6,k+1,none⟩) (kK.o.own.lt g6 rfl).1 (.slice A7 n c7));have FL:=qh (show∀b,Fb A7 n b→C≤b from fun b hb=>by
       rw[←G.a6 (p:=r.aU m)]at hb;have h1:=fA lX hb;have h2:=bP.o.size;omega)
      have k7:=a7 aY tE k66;have f7:=(World.frozen?_of_block (a:=⟨g6,k+1,none⟩) (aY.block _ tE)).trans f6;have hka:(w5.setCell ⟨g6,k,none⟩ (.slice A5 n c5)).cell? ⟨g6,k,none⟩=some (.slice A5 n c5):=by
       have:=(eM kK.o CU.o (j:=k) (p:=p.aM m) (by rw[List.getElem?_set_self (by have:=yS.o;omega)])).1
       simpa only[if_true]using this
      have ka:=a7 aY tE hka;rw[G.a6];clear h7 lX eP aY k5 k6 k66 f5 f6 hka dN
      go_wp2_with fail
      have M9:=qh (show((L3.set k (p.aM m)).set (k+1) (r.aU m)).length=L.length by rw[List.length_set];exact CU.o);have nE:=qh (show((L3.set k (p.aM m)).set (k+1) (r.aU m))[k]?=some (p.aM m)by rw[List.getElem?_set_ne qo,List.getElem?_set_self (by have:=yS.o;omega)]);have vT:=qh (show((L3.set k (p.aM m)).set (k+1) (r.aU m))[k+1]?=some (r.aU m)by rw[List.getElem?_set_self (by have:=CU.o;omega)]);obtain⟨k8,r8,_⟩:=eM hJ.o M9.o nE.o;obtain⟨k9,r9,_⟩:=eM hJ.o M9.o vT.o
      simp only[show¬(k+1=k)by omega,show¬(k=k+1)by omega,if_false,if_true]at r8 k8 r9 k9
      obtain⟨w8,hw8⟩:=qx (w7.setCell ⟨g6,k+1,none⟩ (.slice A7 n c7));rw[←hw8]at hJ fF k8 k9 r8 r9 ⊢;have i3:=qh (iO (p.aM m) (r.aU m) A5 A7 c5 c7 w8.drew (r8.drewN 1) (r9.drewN 1) hn);have s1:IntKind.i64.wrap ((k:Int)+1)=(k:Int)+1:=IntWalk.i64_in _ qo;clear hw8 r8 r9 ka k7 f7
      go_region_held3 (fun w'=>w'.cell? ⟨g6,k,none⟩=some (.slice A5 n c5)∧w'.cell? ⟨g6,k+1,none⟩=some (.slice A7 n c7)) (go_keep) ((go_at_call 59;refine i3.o.mono ?_;rintro e w9 ⟨rfl,gB⟩;have hb5:Below w8.heap.size w8 w9:=(Below.refl w8.heap.size w8).drew.trans gB;have PS:=qh (hJ.o.below hb5);have D7:=fF.st hb5;have k8:=a7 hb5 (World.block_lt_of_cell? w8 _ k8) k8;have k9:=a7 hb5 (World.block_lt_of_cell? w8 _ k9) k9;clear gB hb5))
      rename_i hHeld
      clear hHeld i3 s1
      go_wp2_with fail
      go_roundg (G.mu ((L3.set k (p.aM m)).set (k+1) (r.aU m)))
      case rel=>exact⟨_,_,_,true,p.aM m,r.aU m,rfl,rfl,nE,vT,rfl,qh (qW.o.trans (.one EP.o)),qh (.inr ⟨rfl,by
       have h1:=G.mu_step EP.o
       rcases JS.o with⟨_,h2,_⟩|⟨_,h2⟩
       ·rw[h2]at h1 ⊢
        exact h1
       ·omega⟩),PS,qh ((LO.o.put FM.o k).put FL.o (k+1)),D7⟩
      case measure=>
       rw[hq3];exact G.mu_step EP.o
    ·have PJ:=qh (show ch=false→G.Still L2 from fun hc=>by
      rcases kQ.o with⟨_,h2,h3⟩|⟨h1,_⟩
      ·rw[h2]
       exact wP h3 (by have:=nF.o;omega)
      ·rw[hc]at h1
       cases h1)
     have b4:¬(k:Int)+1<(L.length:Int):=qo
     go_wp2_with fail
     go_roundg (if ch then G.mu L2+1 else 0)
     case rel=>exact⟨L2,pA,cs2,ch,rfl,rfl,PJ,qh (FC.o.trans HS2.o),HL2,iZ,HB2⟩
     case measure=>
      rcases kQ.o with⟨h1,_,_⟩|⟨h1,h2⟩
      ·rw[h1]
       simp at hq ⊢
       first|done|omega
      ·rw[h1]
       simp at hq ⊢
       first|done|omega
  |false=>
   have dQ:=qh (HST.o rfl);have lH:=qh (G.kX FC.o dQ.o);have J6:=qh (show oU wr A6 L1 jP cs1 from by
    have h1:=HL.o;rw[←nF.o]at h1;exact h1.F3)
   have eI:=qh (show∀k,(G.strip (L1.take k)).length≤k from fun k=>by
    have h1:(G.strip (L1.take k)).length≤(L1.take k).length:=List.length_filter_le _ _;have h2:(L1.take k).length≤k:=by rw[List.length_take];omega
    omega)
   have FH:=qh (show∀k,G.cnt (L1.take k)≤k from fun k=>by
    have h1:=CB (L1.take k);have h2:(L1.take k).length≤k:=by rw[List.length_take];omega
    omega)
   have kL:=qh (World.ownsRow_made (e:=74) (size:=1) wr #[] 0 ql qm rfl);have bQ:=qh ((Below.refl wr.heap.size wr).alloc ql (.cells #[] 74));clear hq HST dQ FC HL HB1 ME
   go_wp2_with fail
   rename World=>w0
   go_loopw [10,11,12] (fun pw v x wq=>∃(k:Nat) (Bs:Nat→OA) (ds:Nat→Nat),k≤L.length∧x=.int .i64 k∧pw=.int .i64 (G.cnt (L1.take k):Nat)∧Hq (aT w0.heap.size v ((G.strip (L1.take k)).map G.pl) Bs ds wq)∧Hq (Up C n (G.strip (L1.take k)).length Bs)∧Hq (Below w0.heap.size w0 wq)) (fun _ _ x _=>L.length-(intOf x).toNat)
   case atStart=>exact⟨0,fun _=>none,fun _=>0,Nat.zero_le _,rfl,rfl,qh (aT.nil kL.o _ _),qh (fun j hj=>absurd hj (Nat.not_lt_zero j)),bQ⟩
   case round=>
    obtain⟨k,Bs,ds,hk,rfl,rfl,HL,CM,HB2⟩:=hrel;have hcl:=FH.o k
    by_cases hlt:k<L.length
    ·obtain⟨g6,o6,p,rfl,hg,hp,hc0,hrd⟩:=J6.o.at (j:=k) (by have:=nF.o;omega)
     have k1:=a7 HB2.o hg hc0;have fM:=qh hrd;have LX:=qh ((aB _ _ _).2 w0 · hrd);have lE:=qh (show L1.take (k+1)=L1.take k++[p]by rw[List.take_add_one,hp];rfl);have hll:=eI.o k;obtain⟨T,hT⟩:=qx (L1.take k);rw[←hT]at HL hcl lE hll CM
     simp only[←hT]
     have b1:(0:Int)≤(k:Int):=qo;have b2:(k:Int)<(L.length:Int):=qo;clear hc0 hrd hT hp;obtain⟨bo,L7⟩:=qx (@decide (p=G.one) (Classical.propDecidable _));have mK:=qh L7;obtain⟨bd,hbd⟩:=qx (@decide (p=G.del) (Classical.propDecidable _));have cV:=qh hbd;clear L7 hbd
     go_wp2_with fail
     go_region_held3 (fun w'=>w'.cell? ⟨g6,o6+k,none⟩=some (.slice (jP k) n (cs1 k))) (go_keep) (first
      |(go_at_call 57;refine(fS n _ hn).mono ?_;rintro e w5 h5;obtain⟨A5,c5,rfl,_,gW,hb5⟩:=h5.rd;rw[G.a6];have jM:=qh gW;have hb6:Below wr.heap.size wr w5:=(Below.refl wr.heap.size wr).drew.trans hb5;have bP:=HB2.st hb6;have D0:=qh (HL.o.below hb6);have k1:=a7 hb6 (World.block_lt_of_cell? wr _ k1) k1;have HRW:=qh (show aG w5 (jP k) (G.pl p)from(aB _ _ _).1 _ _ fM.o fun b hb=>bP.o.block b ((aB _ _ _).2 w0 b fM.o hb));clear h5 hb5 hb6 gW)
      |(go_at_call 56;refine(jG p G.one (jP k) A5 (cs1 k) c5 _ HRW.o jM.o hn).mono ?_;rintro e w6 ⟨rfl,q6,gA⟩;rw[←mK.o];have cL:=qh (show Below w0.heap.size w0 w6 by rw[gA];exact Below.drewN' bP.o q6);have CZ:=qh (show aT w0.heap.size u11 ((G.strip T).map G.pl) Bs ds w6 by rw[gA];exact D0.o.drewN q6);have k1:w6.cell? ⟨g6,o6+k,none⟩=some (.slice (jP k) n (cs1 k)):=(by rw[gA];exact k1);clear gA))
     rename_i hHeld
     clear hHeld
     rename World=>wX
     have fE:=cL;have JJ:=CZ;clear cL CZ bP D0 jM HRW HB2 HL
     cases bo with
     |true=>
      have yP:=qh (show p=G.one from @of_decide_eq_true _ (Classical.propDecidable _) mK.o.symm);have mE:=qh (B6 T)
      go_wp2_with fail
      go_roundw
      case rel=>exact⟨k+1,Bs,ds,by omega,qg,by rw[lE.o,yP.o,mE.o.2],qh (by rw[lE.o,yP.o,mE.o.1];exact JJ.o),qh (by rw[lE.o,yP.o,mE.o.1];exact CM.o),fE⟩
      case measure=>exact qs
     |false=>
      have yP:=qh (show p≠G.one from @of_decide_eq_false _ (Classical.propDecidable _) mK.o.symm)
      go_wp2_with fail
      go_region_held3 (fun w'=>w'.cell? ⟨g6,o6+k,none⟩=some (.slice (jP k) n (cs1 k))) (go_keep) (first
      |(go_at_call 58;refine(jQ n _ hn).mono ?_;rintro e w5 h5;obtain⟨A5,c5,rfl,_,gW,hb5⟩:=h5.rd;rw[G.a6];have jM:=qh gW;have hb6:Below wX.heap.size wX w5:=(Below.refl wX.heap.size wX).drew.trans hb5;have bP:=fE.st hb6;have D0:=qh (JJ.o.below hb6);have k1:=a7 hb6 (World.block_lt_of_cell? wX _ k1) k1;have HRW:=qh (show aG w5 (jP k) (G.pl p)from(aB _ _ _).1 _ _ fM.o fun b hb=>bP.o.block b ((aB _ _ _).2 w0 b fM.o hb));clear h5 hb5 hb6 gW)
      |(go_at_call 56;refine(jG p G.del (jP k) A5 (cs1 k) c5 _ HRW.o jM.o hn).mono ?_;rintro e w6 ⟨rfl,q6,gA⟩;rw[←cV.o];have cL:=qh (show Below w0.heap.size w0 w6 by rw[gA];exact Below.drewN' bP.o q6);have CZ:=qh (show aT w0.heap.size u11 ((G.strip T).map G.pl) Bs ds w6 by rw[gA];exact D0.o.drewN q6);have k1:w6.cell? ⟨g6,o6+k,none⟩=some (.slice (jP k) n (cs1 k)):=(by rw[gA];exact k1);clear gA))
      rename_i hHeld
      clear hHeld
      rename World=>wY
      have cI:=cL;have yT:=CZ;clear cL CZ bP D0 jM HRW fE JJ
      cases bd with
      |true=>
       have yQ:=qh (show p=G.del from @of_decide_eq_true _ (Classical.propDecidable _) cV.o.symm);have mE:=qh (BA T (yQ.o▸yP.o))
       go_wp2_with fail
       go_roundw
       case rel=>exact⟨k+1,Bs,ds,by omega,qg,by rw[lE.o,yQ.o,mE.o.2];rfl,qh (by rw[lE.o,yQ.o,mE.o.1];exact yT.o),qh (by rw[lE.o,yQ.o,mE.o.1];exact CM.o),cI⟩
       case measure=>exact qs
      |false=>
       have yQ:=qh (show p≠G.del from @of_decide_eq_false _ (Classical.propDecidable _) cV.o.symm);have mE:=qh (B9 T yP.o yQ.o);have PK:=qh (show aG wY (jP k) (G.pl p)from(aB _ _ _).1 _ _ fM.o fun b hb=>cI.o.block b ((aB _ _ _).2 w0 b fM.o hb));have eX:=qh (show((G.strip T).map G.pl).length=(G.strip T).length from List.length_map _);have hsp:=eX.o;obtain⟨Ls,jI⟩:∃Ls,Ls=(G.strip T).map G.pl:=⟨_,rfl⟩;rw[←jI]at yT hsp;have CX:=qh jI;have PI:=qh hsp;clear jI
       go_wp2_with (at_builtin;go_must (refine eJ wY rfl (.tmp 73) (.tmp 78) _ rfl w0.heap.size 74 i0 _ 1 24 Tryz.underlying65 hi iz is ib rfl qo u11 Ls.length _ rfl yT.o.own _ 1 1 _ rfl rfl (by simp[Value.oneCell']) qm qo cI.o.size ?_);intro v' w' hown' hf' hat';have HOWN':=qh hown';have bL:=qh hf';have dT:=qh hat';clear hown' hf' hat')
       have dK:=qh (yT.o.snoc PK.o (c:=cs1 k) (fun b hb he=>by
        have h1:=(aB _ _ _).2 w0 b fM.o hb;have h2:=(yT.o.own.lt b he).1;omega) (by rw[G.a6];exact HOWN'.o) bL.o dT.o)
       have wD:=qh (cI.o.trans (bL.o.own yT.o.own cI.o.size))
       go_wp2_with fail
       go_roundw
       case rel=>exact⟨k+1,_,_,by omega,qg,by rw[lE.o,mE.o.2],qh (by rw[lE.o,mE.o.1,List.map_append,←CX.o];exact dK.o),qh (by rw[lE.o,mE.o.1,List.length_append];exact CM.o.snoc (LP.o k hlt) PI.o),wD⟩
       case measure=>exact qs
    ·obtain rfl:L.length=k:=qo
     have vR:=qh (show L1.take L.length=L1 by rw[←nF.o,List.take_length])
     go_wp2
     go_ret2
     have h1:=HL.o;rw[vR.o]at h1;rw[lH.o];have h2:=CM.o;rw[vR.o]at h2;refine⟨_,Bs,ds,?_,h1.mono eY.o.size,h2,eY.o.trans (HB2.o.mono eY.o.size)⟩;rw[vR.o]
     rfl
end Go.Proofs.YtmnbgjnipbpiaaaGreat
