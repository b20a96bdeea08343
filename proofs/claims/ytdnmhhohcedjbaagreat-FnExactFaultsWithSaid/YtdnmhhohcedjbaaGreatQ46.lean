/- Walks and plain lemmas. -/
import Derived.Test.YtdnmhhohcedjbaaGreatQ44
import Derived.Test.YtdnmhhohcedjbaaGreatQ45
set_option linter.unusedVariables false
set_option linter.unusedSimpArgs false
set_option maxHeartbeats 4000000
set_option maxRecDepth 20000
namespace Go.Proofs.YtdnmhhohcedjbaaGreat
open Go.RowKit
def RB (B0 g6:Nat)(F:Nat→List Int)(k:Nat)(C:Nat→Prop)(W:World):Prop:=
 ∃v m,aB W g6 41 #[v]∧W.ownsRow B0 30 2 v m (ints (F k))∧(F k).length=2*m∧m≤k∧(∀b,v.ownBlock=some b→b≠g6)∧C=fun b=>b=g6∨v.ownBlock=some b
theorem Rl {B0 g6:Nat}{F:Nat→List Int}(h6:B0≤g6):FC (RB B0 g6 F) B0 where
 lt:=fun⟨v,m,b6,ho,hl,hm,hd,hC⟩ b hb=>by
  rw[hC]at hb
  rcases hb with hb|hb
  ·exact⟨by omega,by have:=b6.lt;omega⟩
  ·exact ho.lt b hb
 keep:=fun⟨v,m,b6,ho,hl,hm,hd,hC⟩ hs hk=>by
  rw[hC]at hk;exact⟨v,m,(hk g6 (.inl rfl)).trans b6,cU ho fun b hb=>hk b (.inr hb),hl,hm,hd,hC⟩
theorem Kj {B0 g6:Nat}{F:Nat→List Int}{k:Nat}{C:Nat→Prop}{w w':World}(h:RB B0 g6 F k C w)(hb:Below w.heap.size w w')(he:F (k+1)=F k):∃C',RB B0 g6 F (k+1) C' w'∧Fr w w' C∧∀b,C' b→C b∨w.heap.size≤b:=by
 obtain⟨v,m,b6,ho,hl,hm,hd,hC⟩:=h;exact⟨C,⟨v,m,b6.below hb b6.lt,own_below (by rw[he];exact ho) hb,by rw[he];exact hl,by omega,hd,hC⟩,Fr.of_below hb _,fun b h=>.inl h⟩
section
variable (W:Int)(A:OA)(n q:Nat)(z:Nat→Int)(w:World)
end
theorem ac1 (n:Nat)(a b:List Int):mP n a b=mP n b a:=by
 unfold mP;exact decide_eq_decide.2 eq_comm
theorem adr (a b:aV):G0 a b=G0 b a:=by
 unfold G0
 by_cases h:a.1=b.1
 ·rw[decide_eq_true h,decide_eq_true h.symm,h,ac1,decide_eq_decide.2 (eq_comm (a:=a.2.2) (b:=b.2.2))]
 ·rw[decide_eq_false h,decide_eq_false (p:=b.1=a.1) fun e=>h e.symm]
  rfl
theorem abP (L M:List aV):∀i,cZ L M i=cZ M L i:=by
 induction L generalizing M with
 |nil=>
  intro i
  cases M with
  |nil=>rfl
  |cons b M=>rfl
 |cons a L ih=>
  intro i
  cases M with
  |nil=>rfl
  |cons b M=>
   show(if G0 a b=true then cZ L M (i+1)else(i:Int))=(if G0 b a=true then cZ M L (i+1)else(i:Int));rw[adr a b,ih]
theorem abV (L M:List aV):(kR L M).1=0↔cZ L M 0<0:=by
 unfold kR
 split
 ·exact⟨fun _=>‹_›,fun _=>rfl⟩
 ·split
  ·exact⟨fun h=>absurd (show(2:Int)=0 from h) (by decide),fun h=>absurd h ‹_›⟩
  ·exact⟨fun h=>absurd (show(1:Int)=0 from h) (by decide),fun h=>absurd h ‹_›⟩
noncomputable def abE (y:Nat→Int)(m:Nat):List aV:=(iI y m).getD []
noncomputable def R0 (W:Int)(z:Nat→Int)(n:Nat)(y:Nat→Int)(m:Nat):Int:=
 if codeOf W z n=0 then(if(R5 y m).isSome=true then(if(iI y m).isSome=true∧(lE W.toNat z n).isSome=true∧qN W.toNat z n (kI z n)=true then 0 else 5)else 1)else codeOf W z n
noncomputable def fwL (W:Int)(z:Nat→Int)(n:Nat)(y:Nat→Int)(m:Nat):List Int:=if R0 W z n y m=0 then hfs W.toNat z n (abE y m) (kI z n)else []
noncomputable def fwN (W:Int)(z:Nat→Int)(n:Nat)(y:Nat→Int)(m:Nat):Nat:=(fwL W z n y m).length/2
theorem adq {W:Int}{z:Nat→Int}{n:Nat}{y:Nat→Int}{m:Nat}(h:R0 W z n y m=0):n≤1500:=by
 unfold R0 at h
 split at h
 ·rename_i hc
  obtain⟨_,_,_,_,h15,_⟩:=wR hc;exact h15
 ·exact absurd h ‹_›
theorem aeY (W:Int)(z:Nat→Int)(n:Nat)(y:Nat→Int)(m:Nat):fwN W z n y m≤6000:=by
 unfold fwN fwL
 split
 ·rename_i h
  obtain⟨k,h1,h2⟩:=aa1 W.toNat z n (abE y m) (kI z n);have:=IL (z:=z) (adq h);omega
 ·simp
abbrev FwP (w:World)(W:Int)(z:Nat→Int)(n:Nat)(y:Nat→Int)(m:Nat):Ending→World→Prop:=q7 w (fwN W z n y m) (fwN W z n y m*2) (fun j=>.int .i64 ((fwL W z n y m).getD j 0)) (R0 W z n y m)
theorem FwP.no {w w':World}{W:Int}{z:Nat→Int}{n:Nat}{y:Nat→Int}{m:Nat}{cd:Int}{e:Ending}(hC:R0 W z n y m=cd)(h0:cd≠0)(he:e=.returned (.tuple #[.slice none 0 0,.int .i64 cd]))(hb:Below w.heap.size w w'):FwP w W z n y m e w':=
 NS (by unfold fwN fwL;rw[if_neg (by rw[hC];exact h0)];rfl) hC he hb
theorem FwP.ok {w w':World}{W:Int}{z:Nat→Int}{n:Nat}{y:Nat→Int}{m:Nat}{L:List Int}{M c:Nat}{A:Option Addr}{e:Ending}(hC:R0 W z n y m=0)(hL:hfs W.toNat z n (abE y m) (kI z n)=L)(hl:L.length=2*M)(he:e=.returned (.tuple #[.slice A M c,.int .i64 0]))(ho:w'.ownsRow w.heap.size 30 2 (.slice A M c) M (ints L))(hb:Below w.heap.size w w'):FwP w W z n y m e w':=by
 have h1:fwL W z n y m=L:=(if_pos hC).trans hL;exact NR h1 (by unfold fwN;rw[h1];omega) hC he ho hb
section
variable (W:Int)(A:OA)(n q:Nat)(z:Nat→Int)(B:OA)(m p:Nat)(y:Nat→Int)(w:World)
theorem abI (ha:Rd w A (n*8) (fun j=>.int .i64 (z j)))(hb:Rd w B (m*6) (fun j=>.int .i64 (y j)))(hn:n≤1048576)(hm:m≤1048576):Calls Tryz.prog 25 #[.int .i64 W,.slice A n q,.slice B m p] w (FwP w W z n y m):=by
 obtain⟨i0,hi,iz,is,ib⟩:=info_parts OD;have hr:=wE W A n q z w ha hn;unfold TL at hr;have HA:=qh ha;have HB:=qh hb;clear ha hb
 by_cases hc:codeOf W z n=0
 ·obtain⟨W,rfl,hW1,hW2,oG,hops,hok⟩:=wR hc
  have HFC:=qh (show R0 (W:Int) z n y m=if(R5 y m).isSome=true then(if(iI y m).isSome=true∧(lE (W:Int).toNat z n).isSome=true∧qN (W:Int).toNat z n (kI z n)=true then 0 else 5)else 1 from if_pos hc);rw[Int.toNat_natCast]at HFC;rw[hc]at hr;have HR:=qh hr;have dT:=qh hops;have iV:=qh hok;have HKK:Hq (∀i,i<n→1≤z (i*8)∧z (i*8)≤9):=qh fun i hi=>⟨(gC hW1 (hops i hi)).k1,(gC hW1 (hops i hi)).k9⟩;have hfm:=IL (z:=z) oG;clear hc hr hops hok
  go_enter Tryz.func25,Tryz.ntmps25
  go_wp2_with fail
  refine HR.o.mono ?_;rintro e w1 ⟨v,kk,⟨x0,y0,A1,B1,C1,D1,E1,a,b,c,d,e1,a',b',c',d',e',rfl⟩,rfl,hb1⟩;have HB1:=qh hb1;clear hb1
  go_upto_region 4 with(fail)
  obtain⟨w2,hw2⟩:=qx (w1.alloc (.cells #[.int .i64 x0,.int .i64 y0,.slice A1 a a',.slice B1 b b',.slice C1 c c',.slice D1 d d',.slice E1 e1 e'] 58));rw[←hw2];have HB2:Hq (Below w.heap.size w w2):=qh (hw2▸HB1.o.alloc HB1.o.size _);have HVE:=qh (abH B m p y w2 (HB.o.below HB2.o) hm);clear hw2
  cases hcn:(R5 y m).isSome with
  |false=>
   rw[hcn]at HVE HFC;have R2:=qh (show R0 (W:Int) z n y m=1 from HFC.o.trans (if_neg (by decide)));clear hcn
   go_wp2_with fail
   refine HVE.o.mono ?_;rintro e w3 ⟨rfl,q3,rfl⟩;have HB3:=qh (Below.drewN' HB2.o q3)
   go_wp2_with fail
   go_ret2
   exact FwP.no R2.o (by decide) rfl HB3.o
  |true=>
   obtain⟨hm2,hcv⟩:=acP hcn;have HCV:=qh hcv;rw[hcn]at HVE HFC;have R2:=qh (show R0 (W:Int) z n y m=if(iI y m).isSome=true∧(lE W z n).isSome=true∧qN W z n (kI z n)=true then 0 else 5 from HFC.o.trans (if_pos rfl));clear hcn hcv HFC
   go_wp2_with fail
   refine HVE.o.mono ?_;rintro e w3 ⟨rfl,q3,rfl⟩;obtain⟨w4,hw4⟩:=qx (w2.drewN q3);rw[←hw4];have HB3:Hq (Below w.heap.size w w4):=qh (hw4▸Below.drewN' HB2.o q3);have CM:=qh (LL B m p y w4 (HB.o.below HB3.o) hm2 HCV.o);clear hw4
   go_wp2_with fail
   refine CM.o.mono ?_;rintro e w5 ⟨hb5,qW⟩;have aZ:=HB3.st hb5;clear hb5
   cases hF:iI y m with
   |none=>
    rw[hF]at qW R2;have Qi:=qh (show R0 (W:Int) z n y m=5 from R2.o.trans (if_neg fun h=>by cases h.1));obtain rfl:e=.returned (.tuple #[.slice none 0 0,.int .i64 5]):=qW;clear hF
    go_wp2_with fail
    go_ret2
    exact FwP.no Qi.o (by decide) rfl aZ.o
   |some goal=>
    have mN:=qh (show abE y m=goal from by unfold abE;rw[hF];rfl);rw[hF]at qW R2;obtain⟨A5,c5,he,hk5⟩:=qW;subst he;have xD:=qh hk5;have jA:=qh (xL W A n q z w5 (HA.o.below aZ.o) hW1 hW2 oG dT.o iV.o);clear hF hk5
    go_wp2_with fail
    refine jA.o.mono ?_;rintro e w6 ⟨hb6,SQ⟩;have bG:=aZ.st hb6;have J9:=qh (xD.o.below hb6);have ags:=qh hb6.size;clear hb6
    cases hF:lE W z n with
    |none=>
     rw[hF]at SQ R2;have Qi:=qh (show R0 (W:Int) z n y m=5 from R2.o.trans (if_neg fun h=>by cases h.2.1));obtain rfl:e=.returned (.tuple #[.slice none 0 0,.int .i64 5]):=SQ;clear hF
     go_wp2_with fail
     go_ret2
     exact FwP.no Qi.o (by decide) rfl bG.o
    |some own=>
     rw[hF]at SQ R2;obtain⟨A7,c7,he,_⟩:=SQ;subst he;clear hF
     go_wp2_with fail
     refine(U9 A n q z w6 (HA.o.below bG.o) oG HKK.o).mono ?_;rintro e w7 ⟨v,M,rfl,hl,hM,hown,bQ⟩;obtain⟨A8,c8,rfl⟩:=aF hown;have hmm:kI z n=M:=by unfold kI;omega
     have CH:=qh (QJ hown);have aS:=bG.st bQ;have Py:=qh (J9.o.below (bQ.mono ags.o));have agr:=qh (Nat.le_trans ags.o bQ.size);have HM:=qh hmm;rw[hmm]at hfm R2;have H0:Hq ((w7.alloc (.cells #[] 30)).ownsRow w7.heap.size 30 2 (.slice (some ⟨w7.heap.size,0,none⟩) 0 0) 0 (ints (hfs W z n goal 0))):=qh (oA w7 [] 0 ql (Nat.zero_le _) rfl);clear hown hl hM bQ hmm xD J9
     go_wp2_with fail
     go_loopw [13,14] (fun ov x wr=>∃(k m':Nat) (L:List Int),k≤M∧x=.int .i64 k∧L=hfs W z n goal k∧L.length=2*m'∧m'≤k∧Hq (qN W z n k=true)∧wr.ownsRow w7.heap.size 30 2 ov m' (ints L)∧Below w7.heap.size w7 wr) (fun _ x _=>M-(intOf x).toNat)
     case atStart=>exact⟨0,0,_,Nat.zero_le _,rfl,rfl,rfl,Nat.le_refl _,qh rfl,H0.o,qb⟩
     case round=>
      clear H0;obtain⟨k,m',L,hkm,rfl,hL,hl,hmk,iX,ho,hb⟩:=hrel;have Zv:=qh hL;have lA:=qh hl;have HOWN:=qh ho;have cS:=qh hb;obtain⟨A9,c9,rfl⟩:=aF HOWN.o;clear hL hl ho hb
      by_cases hlt:k<M
      ·obtain⟨hx1,hx2,hx3⟩:=En (z:=z) (n:=n) (k:=k) (by rw[HM.o];exact hlt)
       obtain⟨gf,of,rfl,hgf,hrf⟩:=CH.o qo;have m0:wr.cell? ⟨gf,of+k*2,none⟩=some (.int .i64 (fF z n k)):=aD cS.o hgf (hrf (k*2) qo);have m1:wr.cell? ⟨gf,of+k*2+1,none⟩=some (.int .i64 (fX z n k)):=by
        have h:=aD cS.o hgf (hrf (k*2+1) qo)
        simp only[←Nat.add_assoc]at h
        rw[h,hx1]
       have LA:=qh (aS.o.trans (cS.o.mono aS.o.size));have gV:=qh (NY W A n q z (fF z n k) (fX z n k) wr goal A5 c5 (HA.o.below LA.o) hW1 hW2 oG dT.o hx2 hx3 fun W' hb=>(Py.o.below ((cS.o.mono agr.o).trans (hb.mono (Nat.le_trans agr.o cS.o.size)))).goK);obtain⟨ff,pE⟩:=qx (fF z n k);obtain⟨fx,hfx⟩:=qx (fX z n k);have Fz:=qh (show EN W z n k=lD W z n ff fx from by rw[pE,hfx];rfl);have HFK:=qh (show l3 W z n goal k=(CR goal (lD W z n ff fx)).1 from by rw[pE,hfx];rfl);have HQ:=qh (show hfs W z n goal (k+1)=if l3 W z n goal k=0 then hfs W z n goal k++[ff,(fx:Int)]else hfs W z n goal k from by rw[pE,hfx];rfl);rw[←pE,←hfx]at gV;rw[←pE]at m0;rw[←hfx]at m1;have b0:(k:Int)<(M:Int):=qo;have b1:(0:Int)≤(k:Int):=qo;have HGF:=qh hgf;have HRW:=qh hrf;clear hrf hgf hx1 hx2 hx3 pE hfx
       cases hG:lD W z n ff fx with
       |none=>
        have Qi:=qh (show R0 (W:Int) z n y m=5 from R2.o.trans (if_neg fun h=>by
         have h2:=za (W:=W) (z:=z) (n:=n) hlt (Fz.o.trans hG);rw[h2]at h
         cases h.2.2))
        rw[hG]at gV;have cI:Hq (Calls Tryz.prog 34 #[.int .i64 W,.slice A n q,.agg #[.int .i64 ff,.int .i64 fx],.slice A5 goal.length c5] wr fun e w'=>e=.returned (.tuple #[.int .i64 0,.int .i64 0,.int .i64 5])∧Below wr.heap.size wr w'):=gV;clear hG gV
        go_wp2_with fail
        refine cI.o.mono ?_;rintro e wx ⟨rfl,hbx⟩;have bA:=LA.st hbx;clear hbx m0 m1
        go_wp2_with fail
        go_ret2
        exact FwP.no Qi.o (by decide) rfl bA.o
       |some o1=>
        rw[hG]at gV HFK;obtain⟨r,hr⟩:=qx (kR goal o1);have cI:Hq (Calls Tryz.prog 34 #[.int .i64 W,.slice A n q,.agg #[.int .i64 ff,.int .i64 fx],.slice A5 goal.length c5] wr fun e w'=>e=.returned (.tuple #[.int .i64 r.1,.int .i64 r.2,.int .i64 0])∧Below wr.heap.size wr w'):=by rw[hr];exact gV
        have HFQ:=qh (show l3 W z n goal k=r.1 from by rw[hr];exact HFK.o);have Vs:=qh (TK iX.o (Fz.o.trans hG));rw[HFQ.o,←Zv.o]at HQ;clear hG gV hr HFK
        by_cases h0:r.1=0
        ·rw[if_pos h0]at HQ
         have h0b:(r.1==0)=true:=by rw[h0];rfl
         clear h0
         go_wp2_with fail
         refine cI.o.mono ?_;rintro e wx ⟨rfl,hbx⟩;have bA:=cS.st hbx;have PQ:=qh (own_below HOWN.o hbx);have k0:=aD bA.o HGF.o (HRW.o (k*2) qo);have k1:=aD bA.o HGF.o (HRW.o (k*2+1) qo);have k2:wx.cell? ⟨gf,of+k*2,none⟩=some (.int .i64 ff):=(aD hbx (World.block_lt_of_cell? wr _ m0) m0);have k3:wx.cell? ⟨gf,of+k*2+1,none⟩=some (.int .i64 fx):=(aD hbx (World.block_lt_of_cell? wr _ m1) m1);clear hbx m0 m1 k0 k1
         go_wp2_with (at_builtin;go_must (refine bV _ rfl (.tmp 74) (.tmp 79) _ rfl w7.heap.size 30 i0 _ 2 16 Tryz.underlying41 hi iz is ib rfl qo (.slice A9 m' c9) m' _ (by rfl) PQ.o _ 1 1 (ints [ff,(fx:Int)]) rfl rfl (iP _) qm qo bA.o.size ?_);intro v' w' hown' hb';rw[←aT,←HQ.o]at hown';have f9:=qh hown';have HB9:=qh (bA.o.trans hb');clear hown' hb')
         go_wp2_with fail
         go_roundw
         case rel=>exact⟨k+1,m'+1,_,by omega,qg,rfl,by rw[HQ.o];have:=lA.o;simp;omega,by omega,Vs,f9.o,HB9.o⟩
         case measure=>exact qs
        ·rw[if_neg h0]at HQ
         have h0b:(r.1==0)=false:=by rw[beq_eq_false_iff_ne];exact h0
         clear h0
         go_wp2_with fail
         refine cI.o.mono ?_;rintro e wx ⟨rfl,hbx⟩;have bA:=cS.st hbx;have PQ:=qh (own_below HOWN.o hbx);clear hbx m0 m1
         go_wp2_with fail
         go_roundw
         case rel=>exact⟨k+1,m',_,by omega,qg,HQ.o.symm,lA.o,by omega,Vs,PQ.o,bA.o⟩
         case measure=>exact qs
      ·obtain rfl:k=M:=qo
       have b0:¬(k:Int)<(k:Int):=qo;have jH:=qh (show R0 (W:Int) z n y m=0 from R2.o.trans (if_pos ⟨rfl,rfl,iX.o⟩))
       go_wp2_with fail
       go_ret2
       exact FwP.ok jH.o (by rw[mN.o,HM.o,Int.toNat_natCast,←Zv.o]) lA.o rfl (eF HOWN.o aS.o.size) (aS.o.trans (cS.o.mono aS.o.size))
 ·obtain⟨cd,hcd⟩:=qx (codeOf W z n)
  have HC:=qh (show R0 W z n y m=cd from(if_neg hc).trans hcd.symm);rw[←hcd]at hr hc;have hc1:(cd==0)=false:=by simpa using hc
  have jH:=qh hc;have HR:=qh hr;clear hc hr hcd
  go_enter Tryz.func25,Tryz.ntmps25
  go_wp2_with fail
  refine HR.o.mono ?_;rintro e w1 ⟨v,kk,⟨x,y,A1,B1,C1,D1,E1,a,b,c,d,e1,a',b',c',d',e',rfl⟩,rfl,hb1⟩;have HB1:=qh hb1;clear hb1
  go_wp2_with fail
  go_ret2
  exact FwP.no HC.o jH.o rfl (HB1.o.alloc HB1.o.size _)
end
end Go.Proofs.YtdnmhhohcedjbaaGreat
