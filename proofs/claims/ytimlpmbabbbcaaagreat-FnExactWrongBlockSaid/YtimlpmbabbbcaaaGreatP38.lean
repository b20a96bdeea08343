/- Walks and plain lemmas. -/
import Derived.Test.YtimlpmbabbbcaaaGreatP37
import Derived.Test.YtimlpmbabbbcaaaGreatP32
set_option linter.unusedVariables false
set_option linter.unusedSimpArgs false
set_option maxHeartbeats 8000000
set_option maxRecDepth 20000
namespace Go.Proofs.YtimlpmbabbbcaaaGreat
open Go.RowKit
theorem Qi (L:List Int)(t:Nat)(h:t*6+6≤L.length):ints (L.take ((t+1)*6))=ints (L.take (t*6))++[.int .i64 (T.evs L (t*6)),.int .i64 (T.evs L (t*6+1)),.int .i64 (T.evs L (t*6+2)),.int .i64 (T.evs L (t*6+3)),.int .i64 (T.evs L (t*6+4)),.int .i64 (T.evs L (t*6+5))]:=by
 rw[AV h,aL]
 rfl
theorem zP38x0 {p:Prop}(h:p:=by
 go_wp2_with fail
 go_ret2
 exact EvC.bad j8.o (by unfold zA;rw[if_neg (by rw[j8.o];omega)]) rfl HR9.o.b):p:=h
theorem Ga (W:Nat)(A:OA)(n q:Nat)(z:Nat→Int)(w:World)(ha:Rd w A (n*8) (fun j=>.int .i64 (z j)))(h1:1≤W)(h2:W≤24)(hn:n≤1500)(hops:∀i,i<n→xS W z i=true):
 Calls Tryz.prog 37 #[.int .i64 W,.slice A n q] w (EvC w (vV W z 0 n) (zA W z n)):=by
 obtain⟨i0,hi,iz,is,ib⟩:=info_parts dQ;have HA:=qh ha;have oW:=qh hops;have HW:=qh (show 1≤W∧W≤24 from⟨h1,h2⟩);clear ha hops h1 h2
 go_enter Tryz.func37,Tryz.ntmps37
 go_wp2_with fail
 refine(RA W _ HW.o.2).mono ?_;rintro e w2 ⟨v,rfl,⟨p8,⟨g0,gf,cf,gk,ck,gc,cc,F0,K0,L0,D0⟩,rfl,hlo,nU,⟨⟨AL,nL,cL,hL⟩,⟨AD,nD,cD,hD⟩⟩,hmk⟩,hb2⟩;obtain rfl:L0=_:=hL;obtain rfl:D0=_:=hD;have HB2:Hq (Below w.heap.size w w2):=qh hb2;have hr0:Runs w (tS p8 w2.heap.size) ⟨w2.heap.size,gf,cf,gk,ck,gc,cc,F0,K0,.slice AL nL cL,.slice AD nD cD⟩ (fA W z 0) (w2.alloc (.cells (jP ⟨g0,gf,cf,gk,ck,gc,cc,F0,K0,.slice AL nL cL,.slice AD nD cD⟩ (pX W)) 93)):=⟨hmk _ _ (Decidable.byContradiction fun hn=>Nat.lt_irrefl _ (nU _ hn)) (fun b hb=>Below.heap_alloc _ _ b (nU b hb)) qj (aG.at_ _ _ _ rfl),
  HB2.o.alloc HB2.o.size _,fun q hq=>by
   unfold tS at hq
   split at hq
   ·have:=HB2.o.size;omega
   ·exact hlo q hq⟩
 obtain⟨w3,hw3⟩:=qx (w2.alloc (.cells (jP ⟨g0,gf,cf,gk,ck,gc,cc,F0,K0,.slice AL nL cL,.slice AD nD cD⟩ (pX W)) 93));rw[←hw3]at hr0;have HT0:Hq (yu w w2.heap.size W z 0 (.slice (some ⟨w3.heap.size,0,none⟩) 0 0) (w3.alloc (.cells #[] 116))):=qh ⟨0,_,_,rfl,hr0.below (qb),fun i hi=>absurd hi (Nat.not_lt_zero i),Nat.zero_le _,World.ownsRow_made _ #[] 0 hr0.b.size qm rfl,fun q hq=>by
  injection hq with hq;exact Decidable.byContradiction fun hn=>by
   have h:=hr0.m.lt q hn;have hq:w3.heap.size=q:=hq;omega⟩
 have HW3:=qh hw3;have HL0:=qh (Pw W);clear hlo nU hmk hb2 hr0 hw3
 simp only[jP,pX]at HW3 ⊢
 go_upto_region 2 with(fail)
 rw[←HW3.o]
 go_wp2_with fail
 go_loopw [7,8,19] (fun v m y wr=>∃i:Nat,i≤n∧y=.int .i64 i∧m=.int .i64 (live (fA W z i):Nat)∧Hq (yu w w2.heap.size W z i v wr)) (fun _ _ y _=>n-(intOf y).toNat)
 case atStart=>exact⟨0,Nat.zero_le _,rfl,by show _=Value.int .i64 ((live (pX W):Nat):Int);rw[HL0.o];rfl,HT0⟩
 case round=>
  clear HT0;obtain⟨i,hile,rfl,rfl,HT⟩:=hrel;obtain⟨N,tg,a,hg,hr,hok,hN,ho,hfree⟩:=HT.o;have HR:=qh hr;have I8:=qh hok;have HO:=qh ho;have vQ:=qh hfree;have HG:=qh hg;obtain⟨Lv,XM⟩:=qx (live (fA W z i));rw[←XM];have hs:=W7 HW.o.1 HW.o.2 i (fun q hq=>oW.o q qo) hok.ok;have afy:=L4 hs;rw[←XM,V0]at afy;have hW24:=HW.o.2;have ZB:=qh XM
  by_cases hlt:i<n
  ·have iO:=qh hlt
   obtain⟨ga,o,rfl,hga,hra⟩:=HA.o qo;have hce:=ny (hra.below hga HR.o.b) hlt;have hp:=R7 HW.o.1 (oW.o i hlt);rw[←V0 W z i]at hp;have hbd:=Po (oW.o i hlt);have cQ:=Zu (oW.o i hlt);have hbb:=adC (oW.o i hlt);have hlive:=fun(h0:kC (fA W z i) z i=0) (a:Nat) (hl:(kE (fA W z i) z i).length=a*6)=>(show JV (T.evs (kE (fA W z i) z i)) (live (fA W z i)) a=live (fA W z (i+1))from abX hs hp hbb h0 hl);have hcnt:=fun(a:Nat) (hl:(kE (fA W z i) z i).length=a*6) (t:Nat) (ht:t<a)=>(show-4≤T.evs (kE (fA W z i) z i) (t*6+2)∧T.evs (kE (fA W z i) z i) (t*6+2)≤4 from Yi hs hp.f0 hp.f1 hl ht);have Dr:=fun(a:Nat) (hl:(kE (fA W z i) z i).length=a*6) (t:Nat) (ht:t<a)=>(show JV (T.evs (kE (fA W z i) z i)) (live (fA W z i)) t=live (fA W z i)from Tc hl _ ht);obtain⟨E,hE⟩:=qx (kE (fA W z i) z i);obtain⟨C,hC⟩:=qx (kC (fA W z i) z i);obtain⟨Lv',Rm⟩:∃x,x=live (fA W z (i+1)):=⟨_,rfl⟩;rw[←hE,←hC,←XM,←Rm]at hlive;rw[←hE]at hcnt;rw[←hE,←XM]at Dr;have ad6:=qh hlive;have agP:=qh hcnt;have ad3:=qh Dr;obtain⟨w4,hw4⟩:=qx (wr.alloc (.cells #[.int .i64 (z (i*8)),.int .i64 (z (i*8+1)),.int .i64 (z (i*8+2)),.int .i64 (z (i*8+3)),.int .i64 (z (i*8+4)),.int .i64 (z (i*8+5)),.int .i64 (z (i*8+6)),.int .i64 (z (i*8+7))] 51));have hb4:Below wr.heap.size wr w4:=hw4▸qb;have aW:=qh hb4;have HR4:=qh (HR.o.below hb4);have CE:=qh (show aG w4 wr.heap.size 51 #[.int .i64 (z (i*8)),.int .i64 (z (i*8+1)),.int .i64 (z (i*8+2)),.int .i64 (z (i*8+3)),.int .i64 (z (i*8+4)),.int .i64 (z (i*8+5)),.int .i64 (z (i*8+6)),.int .i64 (z (i*8+7))]from hw4▸aG.at_ (g':=wr.heap.size) wr _ _ rfl);have hoc:=kU HR4.o.m hs hp hbd cQ;rw[hg,show bJ (fA W z i) (z (i*8)) (z (i*8+1)) (z (i*8+2)) (z (i*8+3)) (z (i*8+4)) (z (i*8+5)) (z (i*8+6)-1).toNat=C from hC.symm]at hoc;have lZ:=qh hoc;have HC:=qh hC;have HE:=qh hE;have Uc:=qh Rm;have HS:=qh hs;have HP:=qh hp;have yR:=qh hbd;have ML:=qh cQ;have fK:=qh hbb;have zH:=qh hw4;have o0:=hce.c0;have o1:=hce.c1;have o2:=hce.c2;have o3:wr.cell? ⟨ga,o+i*8+3,none⟩=some (.int .i64 (z (i*8+3))):=hce.c3;have o4:=hce.c4;have o5:wr.cell? ⟨ga,o+i*8+5,none⟩=some (.int .i64 (z (i*8+5))):=hce.c5;have o6:=hce.c6;have o7:=hce.c7;clear hg hr hok ho hfree hce hp hs hbd cQ hbb hoc hC hE XM Rm hw4 hb4 hga hra HT hlive hcnt Dr;obtain⟨k0,hk0⟩:=qx (z (i*8));obtain⟨k1,hk1⟩:=qx (z (i*8+1));obtain⟨k2,hk2⟩:=qx (z (i*8+2));obtain⟨k3,hk3⟩:=qx (z (i*8+3));obtain⟨k4,hk4⟩:=qx (z (i*8+4));obtain⟨k5,hk5⟩:=qx (z (i*8+5));obtain⟨k6,M7⟩:=qx (z (i*8+6));obtain⟨k7,Jt⟩:=qx (z (i*8+7));have HK:=qh (show kE (fA W z i) z i=jC (fA W z i) k0 k1 k2 k3 k6 k7 from by rw[hk0,hk1,hk2,hk3,M7,Jt];rfl);have HKC:=qh (show kC (fA W z i) z i=bJ (fA W z i) k0 k1 k2 k3 k4 k5 (k6-1).toNat from by rw[hk0,hk1,hk2,hk3,hk4,hk5,M7];rfl);have HKS:=qh (show fA W z (i+1)=eM (fA W z i) k0 k1 k2 k3 k4 k5 k7 (k6-1).toNat from by rw[hk0,hk1,hk2,hk3,hk4,hk5,M7,Jt];rfl);rw[←hk0]at o0;rw[←hk1]at o1;rw[←hk2]at o2;rw[←hk3]at o3;rw[←hk4]at o4;rw[←hk5]at o5;rw[←M7]at o6;rw[←Jt]at o7;rw[←hk0,←hk1,←hk2,←hk3,←hk4,←hk5,←M7,←Jt]at CE lZ HP fK zH;rw[←hk0,←hk2,←hk4]at yR;rw[←hk0,←hk2]at ML;clear hk0 hk1 hk2 hk3 hk4 hk5 M7 Jt
   go_upto_region 7 with(fail)
   rw[←zH.o];have y0:w4.cell? ⟨wr.heap.size,0,none⟩=some (.int .i64 k0):=CE.o.cell 0;have y1:w4.cell? ⟨wr.heap.size,1,none⟩=some (.int .i64 k1):=CE.o.cell 1;have y2:w4.cell? ⟨wr.heap.size,2,none⟩=some (.int .i64 k2):=CE.o.cell 2;have y3:w4.cell? ⟨wr.heap.size,3,none⟩=some (.int .i64 k3):=CE.o.cell 3;have y4:w4.cell? ⟨wr.heap.size,4,none⟩=some (.int .i64 k4):=CE.o.cell 4;have y5:w4.cell? ⟨wr.heap.size,5,none⟩=some (.int .i64 k5):=CE.o.cell 5;have y6:w4.cell? ⟨wr.heap.size,6,none⟩=some (.int .i64 k6):=CE.o.cell 6;have y7:w4.cell? ⟨wr.heap.size,7,none⟩=some (.int .i64 k7):=CE.o.cell 7;clear o0 o1 o2 o3 o4 o5 o6 o7
   go_wp2_with fail
   refine lZ.o.mono ?_;rintro e w5 ⟨rfl,hb5⟩;have vJ:=qh (HR4.o.below hb5);have bG:=aW.st hb5;have CD:=qh (CE.o.below hb5 CE.o.lt);clear y0 y1 y2 y3 y4 y5 y6 y7 hb5 lZ
   by_cases hc0:C=0
   case neg=>
    have hc1:(C==0)=false:=by rw[beq_eq_false_iff_ne];exact hc0
    have j8:=qh ((mh iO.o I8.o (by rw[←HC.o];exact hc0)).trans HC.o.symm);have HNZ:=qh hc0;clear hc0
    go_wp2_with fail
    go_ret2
    exact EvC.bad j8.o (by unfold zA;rw[if_neg (by rw[j8.o];exact HNZ.o)]) rfl vJ.o.b
   subst hc0;have y0:w5.cell? ⟨wr.heap.size,0,none⟩=some (.int .i64 k0):=CD.o.cell 0;have y1:w5.cell? ⟨wr.heap.size,1,none⟩=some (.int .i64 k1):=CD.o.cell 1;have y2:w5.cell? ⟨wr.heap.size,2,none⟩=some (.int .i64 k2):=CD.o.cell 2;have y3:w5.cell? ⟨wr.heap.size,3,none⟩=some (.int .i64 k3):=CD.o.cell 3;have y4:w5.cell? ⟨wr.heap.size,4,none⟩=some (.int .i64 k4):=CD.o.cell 4;have y5:w5.cell? ⟨wr.heap.size,5,none⟩=some (.int .i64 k5):=CD.o.cell 5;have y6:w5.cell? ⟨wr.heap.size,6,none⟩=some (.int .i64 k6):=CD.o.cell 6;have y7:w5.cell? ⟨wr.heap.size,7,none⟩=some (.int .i64 k7):=CD.o.cell 7;have hev:=VU vJ.o.m HS.o HP.o fK.o;rw[HG.o,←HK.o,←HE.o]at hev;have pP:=qh hev;clear hev
   go_wp2_with fail
   refine pP.o.mono ?_;rintro e w6 ⟨v6,n6,rfl,q8,Jr,hb6⟩;obtain⟨A6,c6,rfl⟩:=aE Jr;have K8:=qh (vJ.o.below hb6);have bE:=bG.st hb6;have agq:=qh (CD.o.below hb6 CD.o.lt);have CG:=qh (own_below (own_below HO.o bG.o) hb6);have hJ:=qh (rU Jr);have QK:=qh (show E.length=n6*6 from by have:=Jr.1;simpa [ints]using this);have agC:=qh (KU Jr);have HZ5:=qh (show wr.heap.size<w5.heap.size from CD.o.lt);clear Jr hb6 pP y0 y1 y2 y3 y4 y5 y6 y7;obtain⟨F7,Wi⟩:∃F:Nat→Prop,∀b,F b↔u7.ownBlock=some b:=⟨_,fun _=>Iff.rfl⟩;have pO:=qh Wi;have Oc:=qh (fun b (hb:F7 b)=>vQ.o b ((Wi b).1 hb));have Tt:=qh (fun b (hb':F7 b)=>have hb:=(Wi b).1 hb';(show w.heap.size≤b∧b<wr.heap.size from⟨(HO.o.lt b hb).1,(HO.o.lt b hb).2⟩));clear Wi;have Jj:w.heap.size≤w6.heap.size:=K8.o.b.size;have hz65:=bE.o.size
   go_wp2_with fail
   go_loopw [7,8,31] (fun v m y wi=>∃t:Nat,t≤n6∧y=.int .i64 t∧m=.int .i64 (JV (T.evs E) Lv t)∧Hq (wi.ownsRow w.heap.size 116 6 v (N+t) (ints (CS W z i++E.take (t*6))))∧Hq (Fr w6 wi F7)∧Hq (∀b,v.ownBlock=some b→F7 b∨w6.heap.size≤b)) (fun _ _ y _=>n6-(intOf y).toNat)
   case atStart=>exact⟨0,Nat.zero_le _,rfl,rfl,qh (by
    have h:=CG.o;rw[Nat.zero_mul,List.take_zero,List.append_nil];exact h),qh (Fr.refl _ _),qh fun b hb=>.inl ((pO.o b).2 hb)⟩
   case round=>
    obtain⟨t,htn,rfl,rfl,Xf,MJ,HNi⟩:=hrel
    by_cases htl:t<n6
    ·obtain⟨ge,oe,rfl,hge,hre⟩:=hJ.o qo
     have hgl:=agC.o ge rfl;have hgn:¬F7 ge:=fun e=>by
      have h:=(Tt.o ge e).2;have h2:=bG.o.size;omega
     have hcell:∀j,j<6→wr.cell? ⟨ge,oe+t*6+j,none⟩=some (.int .i64 (T.evs E (t*6+j))):=fun j hj=>(MJ.o.cells hge hgn (oe+t*6+j)).trans (by
      rw[Nat.add_assoc];exact hre (t*6+j) qo)
     have e0:=hcell 0 qo;have e1:=hcell 1 qo;have e2:=hcell 2 qo;have e3:=hcell 3 qo;have e4:=hcell 4 qo;have e5:=hcell 5 qo
     simp only[Nat.add_zero]at e0
     have hst:=ad3.o n6 QK.o t htl;have hct:=agP.o n6 QK.o t htl;have HSX:=qh (Qi E t (by have:=QK.o;omega));have TT:=qh (show JV (T.evs E) Lv (t+1)=bU (T.evs E (t*6)) (T.evs E (t*6+2)) Lv from by
      show bU (T.evs E (t*6)) (T.evs E (t*6+2)) (JV (T.evs E) Lv t)=_;rw[hst])
     rw[hst];obtain⟨x0,hx0⟩:=qx (T.evs E (t*6));obtain⟨x1,hx1⟩:=qx (T.evs E (t*6+1));obtain⟨x2,hx2⟩:=qx (T.evs E (t*6+2));obtain⟨x3,hx3⟩:=qx (T.evs E (t*6+3));obtain⟨x4,hx4⟩:=qx (T.evs E (t*6+4));obtain⟨x5,hx5⟩:=qx (T.evs E (t*6+5));rw[←hx0]at e0;rw[←hx1]at e1;rw[←hx2]at e2 hct;rw[←hx3]at e3;rw[←hx4]at e4;rw[←hx5]at e5;rw[←hx0,←hx1,←hx2,←hx3,←hx4,←hx5]at HSX;rw[←hx0,←hx2]at TT;have HXB:=qh ((Below.refl wr.heap.size wr).alloc ql (.cells #[.int .i64 x0,.int .i64 x1,.int .i64 x2,.int .i64 x3,.int .i64 x4,.int .i64 x5] 116));have Q9:=qh (own_below Xf.o HXB.o);have agS:=qh (aG.at_ (g':=wr.heap.size) wr 116 #[.int .i64 x0,.int .i64 x1,.int .i64 x2,.int .i64 x3,.int .i64 x4,.int .i64 x5] rfl);have agX:=qh (fun W=>yE x0 x1 x2 x3 x4 x5 (Lv:Int) W qo qo);have hzi:w.heap.size≤(wr.alloc (.cells #[.int .i64 x0,.int .i64 x1,.int .i64 x2,.int .i64 x3,.int .i64 x4,.int .i64 x5] 116)).heap.size:=by
      have:=MJ.o.size
      simp
      omega
     have HZI:=qh hzi;have HVL:=qh (fun b hb=>(Xf.o.lt b hb).2);clear hcell hst hx0 hx1 hx2 hx3 hx4 hx5 hre hge hgl hgn hzi
     go_wp2_with (at_builtin;go_must (refine nM (wr.alloc (.cells #[.int .i64 x0,.int .i64 x1,.int .i64 x2,.int .i64 x3,.int .i64 x4,.int .i64 x5] 116)) rfl (.tmp 35) (.tmp 37) _ rfl w.heap.size 116 i0 _ 6 48 Tryz.underlying42 hi iz is ib rfl qo u7 (N+t) _ rfl Q9.o _ 1 1 [.int .i64 x0,.int .i64 x1,.int .i64 x2,.int .i64 x3,.int .i64 x4,.int .i64 x5] (wr.heap.size+1) qj rfl rfl (by simp[Value.oneCell']) qm qo HZI.o ?_);intro v' w' hown' hf' hat';have pC:=qh hown';have Oe:=qh hf';have CO:=qh hat';have hbk:=agS.o.fr Oe.o (fun e=>Nat.lt_irrefl _ (HVL.o wr.heap.size e));have p0:=(qc hbk 0 rfl);have p1:=(qc hbk 1 rfl);have p2:=(qc hbk 2 rfl);have p3:=(qc hbk 3 rfl);have p4:=(qc hbk 4 rfl);have p5:=(qc hbk 5 rfl);clear hown' hf' hat' hbk)
     refine(agX.o w').mono ?_;rintro e w8 ⟨rfl,gY⟩;have dV:=qh gY;have HF8:=qh (show Fr w6 w8 F7 from((MJ.o.fM (HXB.o.mono MJ.o.size)).next Oe.o HNi.o).fM (gY.mono (Nat.le_trans MJ.o.size (Nat.le_trans HXB.o.size Oe.o.size))));clear p0 p1 p2 p3 p4 p5 gY e0 e1 e2 e3 e4 e5
     go_wp2_with fail
     go_roundw
     case rel=>exact⟨t+1,htl,qg,by rw[TT.o],qh (by
      have h:=own_below pC.o dV.o;rw[aL]at h;rw[aL,HSX.o,←List.append_assoc];exact h),HF8,qh fun b hb=>by
      rcases CO.o with h|h
      ·rw[h]at hb
       exact HNi.o b hb
      ·rw[h]at hb
       injection hb with hb;have:=MJ.o.size;exact .inr qo⟩
     case measure=>exact qs
    ·obtain rfl:t=n6:=qo
     have agA:=qh (ad6.o (by trivial) t QK.o);rw[agA.o];obtain⟨A7,c7,rfl⟩:=aE Xf.o;have CM:=qh (show CS W z (i+1)=CS W z i++E from by rw[HE.o];rfl);have HOF:=qh (show wr.ownsRow w.heap.size 116 6 (.slice A7 (N+t) c7) (N+t) (ints (CS W z (i+1)))from by
      have h:=Xf.o;rw[List.take_of_length_le (by rw[QK.o];omega)]at h;rw[CM.o];exact h)
     have HLEN:=qh (show(CS W z (i+1)).length=(N+t)*6 from by
      have h:=HOF.o.1
      simpa [ints]using h)
     have HMi:=qh (K8.o.m.same (fun b hb=>MJ.o.block b (K8.o.m.lt b hb) fun e=>hb (Oc.o b e)) MJ.o.size);have lH:=qh (K8.o.b.trans (MJ.o.below Jj fun b hb=>(Tt.o b hb).1));have HRi:=qh (show Runs w tg a (fA W z i) wr from⟨HMi.o,lH.o,K8.o.lo⟩);have KB:=qh (agq.o.fr MJ.o fun e=>by
      have h:=(Tt.o _ e).2;omega)
     have y0:=(show _=some (Value.int .i64 k0)from KB.o.cell 0);have y1:=(show _=some (Value.int .i64 k1)from KB.o.cell 1);have y2:=(show _=some (Value.int .i64 k2)from KB.o.cell 2);have y3:=(show _=some (Value.int .i64 k3)from KB.o.cell 3);have y4:=(show _=some (Value.int .i64 k4)from KB.o.cell 4);have y5:=(show _=some (Value.int .i64 k5)from KB.o.cell 5);have y6:=(show _=some (Value.int .i64 k6)from KB.o.cell 6);have y7:=(show _=some (Value.int .i64 k7)from KB.o.cell 7);have HDC:=qh (show bJ (fA W z i) k0 k1 k2 k3 k4 k5 (k6-1).toNat=0 from by rw[←HKC.o,←HC.o]);have hex:=jq HMi.o HS.o qo HP.o yR.o ML.o;rw[HG.o,HDC.o,←HKS.o]at hex;have ac3:=qh hex;clear hex
     go_wp2_with fail
     refine ac3.o.mono ?_;rintro e w9 ⟨rfl,_,hmv⟩;obtain⟨mo,a9,Jw,Vv,hk9⟩:=HRi.o.step (by rw[HG.o];exact hmv (by trivial));have HR9:=qh Vv;have HG9:=qh (Jw.trans HG.o);have HK9:=qh (fun b (hb:(Value.slice A7 (N+t) c7).ownBlock=some b)=>(show mo b=0∧w9.heap[b]?=_ from hk9 b (HOF.o.lt b hb).2 (Decidable.byContradiction fun hn=>by
      rcases HNi.o b hb with h|h
      ·exact hn (Oc.o b h)
      ·have:=K8.o.m.lt b hn
       omega)))
     have CF:=qh (eE HOF.o fun b hb=>(HK9.o b hb).2);clear hmv Jw Vv hk9 y0 y1 y2 y3 y4 y5 y6 y7 ac3
     by_cases hbig:N+t≤2000
     ·have hb1:¬(2000:Int)<((N+t:Nat):Int):=qo
      by_cases hv:Lv'≤12
      ·have hv1:¬(12:Int)<(Lv':Int):=qo
       have HT9:=qh (show yu w w2.heap.size W z (i+1) (.slice A7 (N+t) c7) w9 from⟨N+t,mo,a9,HG9.o,HR9.o,RZ I8.o HC.o.symm (fun h=>by
        rcases h with h|h
        ·rw[HLEN.o]at h;omega
        ·rw[←Uc.o]at h;omega),hbig,CF.o,fun q hq=>(HK9.o q hq).1⟩)
       go_wp2_with fail
       go_roundw
       case rel=>exact⟨i+1,iO.o,qg,by rw[Uc.o],HT9⟩
       case measure=>exact qs
      ·have hv1:(12:Int)<(Lv':Int):=qo
       have j8:=qh (FK iO.o I8.o HC.o.symm (.inr (by rw[←Uc.o];omega)))
       exact zP38x0
     ·have hb1:(2000:Int)<((N+t:Nat):Int):=qo
      have j8:=qh (FK iO.o I8.o HC.o.symm (.inl (by rw[HLEN.o];omega)))
      exact zP38x0
  ·obtain rfl:n=i:=qo
   have j8:=qh (S1 I8.o);clear hg hr hok ho hfree hs XM
   go_wp2_with fail
   go_ret2
   exact⟨_,N,by rw[j8.o];rfl,hN,by unfold zA;rw[if_pos j8.o];exact HO.o,HR.o.b⟩
end Go.Proofs.YtimlpmbabbbcaaaGreat
