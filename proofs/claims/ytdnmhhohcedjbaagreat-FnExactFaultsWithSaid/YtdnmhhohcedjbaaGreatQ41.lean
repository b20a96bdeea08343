/- Walks and plain lemmas. -/
import Derived.Test.YtdnmhhohcedjbaaGreatQ40
import Derived.Test.YtdnmhhohcedjbaaGreatQ34
set_option linter.unusedVariables false
set_option linter.unusedSimpArgs false
set_option maxHeartbeats 8000000
set_option maxRecDepth 20000
namespace Go.Proofs.YtdnmhhohcedjbaaGreat
open Go.RowKit
theorem Rz (L:List Int)(t:Nat)(h:t*6+6≤L.length):ints (L.take ((t+1)*6))=ints (L.take (t*6))++[.int .i64 (T.evs L (t*6)),.int .i64 (T.evs L (t*6+1)),.int .i64 (T.evs L (t*6+2)),.int .i64 (T.evs L (t*6+3)),.int .i64 (T.evs L (t*6+4)),.int .i64 (T.evs L (t*6+5))]:=by
 rw[zD h,aT]
 rfl
theorem zQ41x0 {p:Prop}(h:p:=by
 go_wp2_with fail
 go_ret2
 exact EvC.bad j9.o (by unfold nF;rw[if_neg (by rw[j9.o];omega)]) rfl HR9.o.b):p:=h
theorem Hl (W:Nat)(A:OA)(n q:Nat)(z:Nat→Int)(w:World)(ha:Rd w A (n*8) (fun j=>.int .i64 (z j)))(h1:1≤W)(h2:W≤24)(hn:n≤1500)(hops:∀i,i<n→dR W z i=true):
 Calls Tryz.prog 68 #[.int .i64 W,.slice A n q] w (EvC w (mT W z 0 n) (nF W z n)):=by
 obtain⟨i0,hi,iz,is,ib⟩:=info_parts iF;have HA:=qh ha;have dT:=qh hops;have HW:=qh (show 1≤W∧W≤24 from⟨h1,h2⟩);clear ha hops h1 h2
 go_enter Tryz.func68,Tryz.ntmps68
 go_wp2_with fail
 refine(DJ W _ HW.o.2).mono ?_;rintro e w2 ⟨v,rfl,⟨iM,⟨g0,gf,cf,gk,ck,gc,cc,F0,K0,L0,D0⟩,rfl,hlo,gK,⟨⟨AL,nL,cL,hL⟩,⟨AD,nD,cD,hD⟩⟩,hmk⟩,hb2⟩;obtain rfl:L0=_:=hL;obtain rfl:D0=_:=hD;have HB2:Hq (Below w.heap.size w w2):=qh hb2;have hr0:Runs w (eX iM w2.heap.size) ⟨w2.heap.size,gf,cf,gk,ck,gc,cc,F0,K0,.slice AL nL cL,.slice AD nD cD⟩ (bB W z 0) (w2.alloc (.cells (dM ⟨g0,gf,cf,gk,ck,gc,cc,F0,K0,.slice AL nL cL,.slice AD nD cD⟩ (jC W)) 58)):=⟨hmk _ _ (Decidable.byContradiction fun hn=>Nat.lt_irrefl _ (gK _ hn)) (fun b hb=>Below.heap_alloc _ _ b (gK b hb)) qj (aB.at_ _ _ _ rfl),
  HB2.o.alloc HB2.o.size _,fun q hq=>by
   unfold eX at hq
   split at hq
   ·have:=HB2.o.size;omega
   ·exact hlo q hq⟩
 obtain⟨w3,hw3⟩:=qx (w2.alloc (.cells (dM ⟨g0,gf,cf,gk,ck,gc,cc,F0,K0,.slice AL nL cL,.slice AD nD cD⟩ (jC W)) 58));rw[←hw3]at hr0;have HT0:Hq (zl w w2.heap.size W z 0 (.slice (some ⟨w3.heap.size,0,none⟩) 0 0) (w3.alloc (.cells #[] 91))):=qh ⟨0,_,_,rfl,hr0.below (qb),fun i hi=>absurd hi (Nat.not_lt_zero i),Nat.zero_le _,World.ownsRow_made _ #[] 0 hr0.b.size qm rfl,fun q hq=>by
  injection hq with hq;exact Decidable.byContradiction fun hn=>by
   have h:=hr0.m.lt q hn;have hq:w3.heap.size=q:=hq;omega⟩
 have HW3:=qh hw3;have HL0:=qh (M3 W);clear hlo gK hmk hb2 hr0 hw3
 simp only[dM,jC]at HW3 ⊢
 go_upto_region 2 with(fail)
 rw[←HW3.o]
 go_wp2_with fail
 go_loopw [7,8,19] (fun v m y wr=>∃i:Nat,i≤n∧y=.int .i64 i∧m=.int .i64 (live (bB W z i):Nat)∧Hq (zl w w2.heap.size W z i v wr)) (fun _ _ y _=>n-(intOf y).toNat)
 case atStart=>exact⟨0,Nat.zero_le _,rfl,by show _=Value.int .i64 ((live (jC W):Nat):Int);rw[HL0.o];rfl,HT0⟩
 case round=>
  clear HT0;obtain⟨i,hile,rfl,rfl,HT⟩:=hrel;obtain⟨N,tg,a,hg,hr,hok,hN,ho,hfree⟩:=HT.o;have HR:=qh hr;have iV:=qh hok;have HO:=qh ho;have t7:=qh hfree;have HG:=qh hg;obtain⟨Lv,XB⟩:=qx (live (bB W z i));rw[←XB];have hs:=zI HW.o.1 HW.o.2 i (fun q hq=>dT.o q qo) hok.ok;have ahG:=JU hs;rw[←XB,BU]at ahG;have hW24:=HW.o.2;have ZE:=qh XB
  by_cases hlt:i<n
  ·have dC:=qh hlt
   obtain⟨ga,o,rfl,hga,hra⟩:=HA.o qo;have hce:=lR (hra.below hga HR.o.b) hlt;have hp:=gC HW.o.1 (dT.o i hlt);rw[←BU W z i]at hp;have hbd:=LW (dT.o i hlt);have bK:=JZ (dT.o i hlt);have hbb:=Wq (dT.o i hlt);have hlive:=fun(h0:kC (bB W z i) z i=0) (a:Nat) (hl:(kE (bB W z i) z i).length=a*6)=>(show IM (T.evs (kE (bB W z i) z i)) (live (bB W z i)) a=live (bB W z (i+1))from adM hs hp hbb h0 hl);have hcnt:=fun(a:Nat) (hl:(kE (bB W z i) z i).length=a*6) (t:Nat) (ht:t<a)=>(show-4≤T.evs (kE (bB W z i) z i) (t*6+2)∧T.evs (kE (bB W z i) z i) (t*6+2)≤4 from aaH hs hp.f0 hp.f1 hl ht);have Ec:=fun(a:Nat) (hl:(kE (bB W z i) z i).length=a*6) (t:Nat) (ht:t<a)=>(show IM (T.evs (kE (bB W z i) z i)) (live (bB W z i)) t=live (bB W z i)from Uh hl _ ht);obtain⟨E,hE⟩:=qx (kE (bB W z i) z i);obtain⟨C,hC⟩:=qx (kC (bB W z i) z i);obtain⟨Lv',Sr⟩:∃x,x=live (bB W z (i+1)):=⟨_,rfl⟩;rw[←hE,←hC,←XB,←Sr]at hlive;rw[←hE]at hcnt;rw[←hE,←XB]at Ec;have afV:=qh hlive;have aiG:=qh hcnt;have afR:=qh Ec;obtain⟨w4,hw4⟩:=qx (wr.alloc (.cells #[.int .i64 (z (i*8)),.int .i64 (z (i*8+1)),.int .i64 (z (i*8+2)),.int .i64 (z (i*8+3)),.int .i64 (z (i*8+4)),.int .i64 (z (i*8+5)),.int .i64 (z (i*8+6)),.int .i64 (z (i*8+7))] 67));have hb4:Below wr.heap.size wr w4:=hw4▸qb;have aR:=qh hb4;have HR4:=qh (HR.o.below hb4);have B5:=qh (show aB w4 wr.heap.size 67 #[.int .i64 (z (i*8)),.int .i64 (z (i*8+1)),.int .i64 (z (i*8+2)),.int .i64 (z (i*8+3)),.int .i64 (z (i*8+4)),.int .i64 (z (i*8+5)),.int .i64 (z (i*8+6)),.int .i64 (z (i*8+7))]from hw4▸aB.at_ (g':=wr.heap.size) wr _ _ rfl);have hoc:=jI HR4.o.m hs hp hbd bK;rw[hg,show aX (bB W z i) (z (i*8)) (z (i*8+1)) (z (i*8+2)) (z (i*8+3)) (z (i*8+4)) (z (i*8+5)) (z (i*8+6)-1).toNat=C from hC.symm]at hoc;have l9:=qh hoc;have HC:=qh hC;have HE:=qh hE;have Ux:=qh Sr;have HS:=qh hs;have HP:=qh hp;have BI:=qh hbd;have CM:=qh bK;have dX:=qh hbb;have CF:=qh hw4;have o0:=hce.c0;have o1:=hce.c1;have o2:=hce.c2;have o3:wr.cell? ⟨ga,o+i*8+3,none⟩=some (.int .i64 (z (i*8+3))):=hce.c3;have o4:=hce.c4;have o5:wr.cell? ⟨ga,o+i*8+5,none⟩=some (.int .i64 (z (i*8+5))):=hce.c5;have o6:=hce.c6;have o7:=hce.c7;clear hg hr hok ho hfree hce hp hs hbd bK hbb hoc hC hE XB Sr hw4 hb4 hga hra HT hlive hcnt Ec;obtain⟨k0,hk0⟩:=qx (z (i*8));obtain⟨k1,hk1⟩:=qx (z (i*8+1));obtain⟨k2,hk2⟩:=qx (z (i*8+2));obtain⟨k3,hk3⟩:=qx (z (i*8+3));obtain⟨k4,hk4⟩:=qx (z (i*8+4));obtain⟨k5,hk5⟩:=qx (z (i*8+5));obtain⟨k6,zR⟩:=qx (z (i*8+6));obtain⟨k7,ST⟩:=qx (z (i*8+7));have HK:=qh (show kE (bB W z i) z i=hZ (bB W z i) k0 k1 k2 k3 k6 k7 from by rw[hk0,hk1,hk2,hk3,zR,ST];rfl);have pN:=qh (show kC (bB W z i) z i=aX (bB W z i) k0 k1 k2 k3 k4 k5 (k6-1).toNat from by rw[hk0,hk1,hk2,hk3,hk4,hk5,zR];rfl);have HKS:=qh (show bB W z (i+1)=cV (bB W z i) k0 k1 k2 k3 k4 k5 k7 (k6-1).toNat from by rw[hk0,hk1,hk2,hk3,hk4,hk5,zR,ST];rfl);rw[←hk0]at o0;rw[←hk1]at o1;rw[←hk2]at o2;rw[←hk3]at o3;rw[←hk4]at o4;rw[←hk5]at o5;rw[←zR]at o6;rw[←ST]at o7;rw[←hk0,←hk1,←hk2,←hk3,←hk4,←hk5,←zR,←ST]at B5 l9 HP dX CF;rw[←hk0,←hk2,←hk4]at BI;rw[←hk0,←hk2]at CM;clear hk0 hk1 hk2 hk3 hk4 hk5 zR ST
   go_upto_region 7 with(fail)
   rw[←CF.o];have y0:w4.cell? ⟨wr.heap.size,0,none⟩=some (.int .i64 k0):=B5.o.cell 0;have y1:w4.cell? ⟨wr.heap.size,1,none⟩=some (.int .i64 k1):=B5.o.cell 1;have y2:w4.cell? ⟨wr.heap.size,2,none⟩=some (.int .i64 k2):=B5.o.cell 2;have y3:w4.cell? ⟨wr.heap.size,3,none⟩=some (.int .i64 k3):=B5.o.cell 3;have y4:w4.cell? ⟨wr.heap.size,4,none⟩=some (.int .i64 k4):=B5.o.cell 4;have y5:w4.cell? ⟨wr.heap.size,5,none⟩=some (.int .i64 k5):=B5.o.cell 5;have y6:w4.cell? ⟨wr.heap.size,6,none⟩=some (.int .i64 k6):=B5.o.cell 6;have y7:w4.cell? ⟨wr.heap.size,7,none⟩=some (.int .i64 k7):=B5.o.cell 7;clear o0 o1 o2 o3 o4 o5 o6 o7
   go_wp2_with fail
   refine l9.o.mono ?_;rintro e w5 ⟨rfl,hb5⟩;have kV:=qh (HR4.o.below hb5);have aZ:=aR.st hb5;have B4:=qh (B5.o.below hb5 B5.o.lt);clear y0 y1 y2 y3 y4 y5 y6 y7 hb5 l9
   by_cases hc0:C=0
   case neg=>
    have hc1:(C==0)=false:=by rw[beq_eq_false_iff_ne];exact hc0
    have j9:=qh ((oz dC.o iV.o (by rw[←HC.o];exact hc0)).trans HC.o.symm);have HNZ:=qh hc0;clear hc0
    go_wp2_with fail
    go_ret2
    exact EvC.bad j9.o (by unfold nF;rw[if_neg (by rw[j9.o];exact HNZ.o)]) rfl kV.o.b
   subst hc0;have y0:w5.cell? ⟨wr.heap.size,0,none⟩=some (.int .i64 k0):=B4.o.cell 0;have y1:w5.cell? ⟨wr.heap.size,1,none⟩=some (.int .i64 k1):=B4.o.cell 1;have y2:w5.cell? ⟨wr.heap.size,2,none⟩=some (.int .i64 k2):=B4.o.cell 2;have y3:w5.cell? ⟨wr.heap.size,3,none⟩=some (.int .i64 k3):=B4.o.cell 3;have y4:w5.cell? ⟨wr.heap.size,4,none⟩=some (.int .i64 k4):=B4.o.cell 4;have y5:w5.cell? ⟨wr.heap.size,5,none⟩=some (.int .i64 k5):=B4.o.cell 5;have y6:w5.cell? ⟨wr.heap.size,6,none⟩=some (.int .i64 k6):=B4.o.cell 6;have y7:w5.cell? ⟨wr.heap.size,7,none⟩=some (.int .i64 k7):=B4.o.cell 7;have hev:=W6 kV.o.m HS.o HP.o dX.o;rw[HG.o,←HK.o,←HE.o]at hev;have oT:=qh hev;clear hev
   go_wp2_with fail
   refine oT.o.mono ?_;rintro e w6 ⟨v6,n6,rfl,y8,Lj,hb6⟩;obtain⟨A6,c6,rfl⟩:=aF Lj;have mC:=qh (kV.o.below hb6);have bG:=aZ.st hb6;have aie:=qh (B4.o.below hb6 B4.o.lt);have Z8:=qh (own_below (own_below HO.o aZ.o) hb6);have iJ:=qh (rG Lj);have Qg:=qh (show E.length=n6*6 from by have:=Lj.1;simpa [ints]using this);have ais:=qh (JP Lj);have G8:=qh (show wr.heap.size<w5.heap.size from B4.o.lt);clear Lj hb6 oT y0 y1 y2 y3 y4 y5 y6 y7;obtain⟨F7,Yr⟩:∃F:Nat→Prop,∀b,F b↔u7.ownBlock=some b:=⟨_,fun _=>Iff.rfl⟩;have TT:=qh Yr;have Qc:=qh (fun b (hb:F7 b)=>t7.o b ((Yr b).1 hb));have Uq:=qh (fun b (hb':F7 b)=>have hb:=(Yr b).1 hb';(show w.heap.size≤b∧b<wr.heap.size from⟨(HO.o.lt b hb).1,(HO.o.lt b hb).2⟩));clear Yr;have Lc:w.heap.size≤w6.heap.size:=mC.o.b.size;have hz65:=bG.o.size
   go_wp2_with fail
   go_loopw [7,8,31] (fun v m y wi=>∃t:Nat,t≤n6∧y=.int .i64 t∧m=.int .i64 (IM (T.evs E) Lv t)∧Hq (wi.ownsRow w.heap.size 91 6 v (N+t) (ints (wA W z i++E.take (t*6))))∧Hq (Fr w6 wi F7)∧Hq (∀b,v.ownBlock=some b→F7 b∨w6.heap.size≤b)) (fun _ _ y _=>n6-(intOf y).toNat)
   case atStart=>exact⟨0,Nat.zero_le _,rfl,rfl,qh (by
    have h:=Z8.o;rw[Nat.zero_mul,List.take_zero,List.append_nil];exact h),qh (Fr.refl _ _),qh fun b hb=>.inl ((TT.o b).2 hb)⟩
   case round=>
    obtain⟨t,htn,rfl,rfl,Zq,L7,HNi⟩:=hrel
    by_cases htl:t<n6
    ·obtain⟨ge,oe,rfl,hge,hre⟩:=iJ.o qo
     have hgl:=ais.o ge rfl;have hgn:¬F7 ge:=fun e=>by
      have h:=(Uq.o ge e).2;have h2:=aZ.o.size;omega
     have hcell:∀j,j<6→wr.cell? ⟨ge,oe+t*6+j,none⟩=some (.int .i64 (T.evs E (t*6+j))):=fun j hj=>(L7.o.cells hge hgn (oe+t*6+j)).trans (by
      rw[Nat.add_assoc];exact hre (t*6+j) qo)
     have e0:=hcell 0 qo;have e1:=hcell 1 qo;have e2:=hcell 2 qo;have e3:=hcell 3 qo;have e4:=hcell 4 qo;have e5:=hcell 5 qo
     simp only[Nat.add_zero]at e0
     have hst:=afR.o n6 Qg.o t htl;have hct:=aiG.o n6 Qg.o t htl;have HSX:=qh (Rz E t (by have:=Qg.o;omega));have TW:=qh (show IM (T.evs E) Lv (t+1)=bD (T.evs E (t*6)) (T.evs E (t*6+2)) Lv from by
      show bD (T.evs E (t*6)) (T.evs E (t*6+2)) (IM (T.evs E) Lv t)=_;rw[hst])
     rw[hst];obtain⟨x0,hx0⟩:=qx (T.evs E (t*6));obtain⟨x1,hx1⟩:=qx (T.evs E (t*6+1));obtain⟨x2,hx2⟩:=qx (T.evs E (t*6+2));obtain⟨x3,hx3⟩:=qx (T.evs E (t*6+3));obtain⟨x4,hx4⟩:=qx (T.evs E (t*6+4));obtain⟨x5,hx5⟩:=qx (T.evs E (t*6+5));rw[←hx0]at e0;rw[←hx1]at e1;rw[←hx2]at e2 hct;rw[←hx3]at e3;rw[←hx4]at e4;rw[←hx5]at e5;rw[←hx0,←hx1,←hx2,←hx3,←hx4,←hx5]at HSX;rw[←hx0,←hx2]at TW;have HXB:=qh ((Below.refl wr.heap.size wr).alloc ql (.cells #[.int .i64 x0,.int .i64 x1,.int .i64 x2,.int .i64 x3,.int .i64 x4,.int .i64 x5] 91));have HOX:=qh (own_below Zq.o HXB.o);have aiL:=qh (aB.at_ (g':=wr.heap.size) wr 91 #[.int .i64 x0,.int .i64 x1,.int .i64 x2,.int .i64 x3,.int .i64 x4,.int .i64 x5] rfl);have aiR:=qh (fun W=>CC x0 x1 x2 x3 x4 x5 (Lv:Int) W qo qo);have hzi:w.heap.size≤(wr.alloc (.cells #[.int .i64 x0,.int .i64 x1,.int .i64 x2,.int .i64 x3,.int .i64 x4,.int .i64 x5] 91)).heap.size:=by
      have:=L7.o.size
      simp
      omega
     have HZI:=qh hzi;have HVL:=qh (fun b hb=>(Zq.o.lt b hb).2);clear hcell hst hx0 hx1 hx2 hx3 hx4 hx5 hre hge hgl hgn hzi
     go_wp2_with (at_builtin;go_must (refine mR (wr.alloc (.cells #[.int .i64 x0,.int .i64 x1,.int .i64 x2,.int .i64 x3,.int .i64 x4,.int .i64 x5] 91)) rfl (.tmp 35) (.tmp 37) _ rfl w.heap.size 91 i0 _ 6 48 Tryz.underlying49 hi iz is ib rfl qo u7 (N+t) _ rfl HOX.o _ 1 1 [.int .i64 x0,.int .i64 x1,.int .i64 x2,.int .i64 x3,.int .i64 x4,.int .i64 x5] (wr.heap.size+1) qj rfl rfl (by simp[Value.oneCell']) qm qo HZI.o ?_);intro v' w' hown' hf' hat';have TP:=qh hown';have Qf:=qh hf';have BK:=qh hat';have hbk:=aiL.o.fr Qf.o (fun e=>Nat.lt_irrefl _ (HVL.o wr.heap.size e));have p0:=(qc hbk 0 rfl);have p1:=(qc hbk 1 rfl);have p2:=(qc hbk 2 rfl);have p3:=(qc hbk 3 rfl);have p4:=(qc hbk 4 rfl);have p5:=(qc hbk 5 rfl);clear hown' hf' hat' hbk)
     refine(aiR.o w').mono ?_;rintro e w8 ⟨rfl,qC⟩;have eW:=qh qC;have HF8:=qh (show Fr w6 w8 F7 from((L7.o.eL (HXB.o.mono L7.o.size)).next Qf.o HNi.o).eL (qC.mono (Nat.le_trans L7.o.size (Nat.le_trans HXB.o.size Qf.o.size))));clear p0 p1 p2 p3 p4 p5 qC e0 e1 e2 e3 e4 e5
     go_wp2_with fail
     go_roundw
     case rel=>exact⟨t+1,htl,qg,by rw[TW.o],qh (by
      have h:=own_below TP.o eW.o;rw[aT]at h;rw[aT,HSX.o,←List.append_assoc];exact h),HF8,qh fun b hb=>by
      rcases BK.o with h|h
      ·rw[h]at hb
       exact HNi.o b hb
      ·rw[h]at hb
       injection hb with hb;have:=L7.o.size;exact .inr qo⟩
     case measure=>exact qs
    ·obtain rfl:t=n6:=qo
     have aiq:=qh (afV.o (by trivial) t Qg.o);rw[aiq.o];obtain⟨A7,c7,rfl⟩:=aF Zq.o;have tA:=qh (show wA W z (i+1)=wA W z i++E from by rw[HE.o];rfl);have Pj:=qh (show wr.ownsRow w.heap.size 91 6 (.slice A7 (N+t) c7) (N+t) (ints (wA W z (i+1)))from by
      have h:=Zq.o;rw[List.take_of_length_le (by rw[Qg.o];omega)]at h;rw[tA.o];exact h)
     have HLEN:=qh (show(wA W z (i+1)).length=(N+t)*6 from by
      have h:=Pj.o.1
      simpa [ints]using h)
     have HMi:=qh (mC.o.m.same (fun b hb=>L7.o.block b (mC.o.m.lt b hb) fun e=>hb (Qc.o b e)) L7.o.size);have jX:=qh (mC.o.b.trans (L7.o.below Lc fun b hb=>(Uq.o b hb).1));have HRi:=qh (show Runs w tg a (bB W z i) wr from⟨HMi.o,jX.o,mC.o.lo⟩);have J4:=qh (aie.o.fr L7.o fun e=>by
      have h:=(Uq.o _ e).2;omega)
     have y0:=(show _=some (Value.int .i64 k0)from J4.o.cell 0);have y1:=(show _=some (Value.int .i64 k1)from J4.o.cell 1);have y2:=(show _=some (Value.int .i64 k2)from J4.o.cell 2);have y3:=(show _=some (Value.int .i64 k3)from J4.o.cell 3);have y4:=(show _=some (Value.int .i64 k4)from J4.o.cell 4);have y5:=(show _=some (Value.int .i64 k5)from J4.o.cell 5);have y6:=(show _=some (Value.int .i64 k6)from J4.o.cell 6);have y7:=(show _=some (Value.int .i64 k7)from J4.o.cell 7);have HDC:=qh (show aX (bB W z i) k0 k1 k2 k3 k4 k5 (k6-1).toNat=0 from by rw[←pN.o,←HC.o]);have hex:=D3 HMi.o HS.o qo HP.o BI.o CM.o;rw[HG.o,HDC.o,←HKS.o]at hex;have aeO:=qh hex;clear hex
     go_wp2_with fail
     refine aeO.o.mono ?_;rintro e w9 ⟨rfl,_,hmv⟩;obtain⟨tg9,a9,hg9,hr9,zQ⟩:=HRi.o.step (by rw[HG.o];exact hmv (by trivial));have HR9:=qh hr9;have HG9:=qh (hg9.trans HG.o);have Ae:=qh (fun b (hb:(Value.slice A7 (N+t) c7).ownBlock=some b)=>(show tg9 b=0∧w9.heap[b]?=_ from zQ b (Pj.o.lt b hb).2 (Decidable.byContradiction fun hn=>by
      rcases HNi.o b hb with h|h
      ·exact hn (Qc.o b h)
      ·have:=mC.o.m.lt b hn
       omega)))
     have Z7:=qh (cU Pj.o fun b hb=>(Ae.o b hb).2);clear hmv hg9 hr9 zQ y0 y1 y2 y3 y4 y5 y6 y7 aeO
     by_cases hbig:N+t≤2000
     ·have hb1:¬(2000:Int)<((N+t:Nat):Int):=qo
      by_cases hv:Lv'≤12
      ·have hv1:¬(12:Int)<(Lv':Int):=qo
       have HT9:=qh (show zl w w2.heap.size W z (i+1) (.slice A7 (N+t) c7) w9 from⟨N+t,tg9,a9,HG9.o,HR9.o,RM iV.o HC.o.symm (fun h=>by
        rcases h with h|h
        ·rw[HLEN.o]at h;omega
        ·rw[←Ux.o]at h;omega),hbig,Z7.o,fun q hq=>(Ae.o q hq).1⟩)
       go_wp2_with fail
       go_roundw
       case rel=>exact⟨i+1,dC.o,qg,by rw[Ux.o],HT9⟩
       case measure=>exact qs
      ·have hv1:(12:Int)<(Lv':Int):=qo
       have j9:=qh (EE dC.o iV.o HC.o.symm (.inr (by rw[←Ux.o];omega)))
       exact zQ41x0
     ·have hb1:(2000:Int)<((N+t:Nat):Int):=qo
      have j9:=qh (EE dC.o iV.o HC.o.symm (.inl (by rw[HLEN.o];omega)))
      exact zQ41x0
  ·obtain rfl:n=i:=qo
   have j9:=qh (RO iV.o);clear hg hr hok ho hfree hs XB
   go_wp2_with fail
   go_ret2
   exact⟨_,N,by rw[j9.o];rfl,hN,by unfold nF;rw[if_pos j9.o];exact HO.o,HR.o.b⟩
end Go.Proofs.YtdnmhhohcedjbaaGreat
