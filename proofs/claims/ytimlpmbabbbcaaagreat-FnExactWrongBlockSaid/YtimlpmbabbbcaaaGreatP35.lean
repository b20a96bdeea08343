/- Walks and plain lemmas. -/
import Derived.Test.YtimlpmbabbbcaaaGreatP33
set_option linter.unusedVariables false
set_option linter.unusedSimpArgs false
set_option maxHeartbeats 8000000
set_option maxRecDepth 20000
namespace Go.Proofs.YtimlpmbabbbcaaaGreat
open Go.RowKit
section
variable {tg:Nat→Nat}{a:bV}{s:aP}{D:Nat}{w:World}
theorem zP35x0 {p:Prop}(h:p:=by
 go_wp2_with fail
 go_quiet (fail)
 rename_i nq
 have Z5:=qh (own_drewN cI.o nq);have Z0:=qh (show gS (w3.drewN nq) g6 (T.mB s.W s.rk (i+1))from by rw[yQ.o,←nH.o];exact qH.o.below (Below.drewN' (Below.refl _ _) nq));have ZR:=qh (Below.drewN' HB3.o nq)
 go_wp2_with fail
 go_roundw
 case rel=>exact⟨i+1,N,by omega,qg,by omega,qh (by rw[cB.o,HI.o,List.append_nil];exact Z5.o),Z0,qh (by rw[yQ.o,←nH.o];exact gK.o),ZR,lO⟩
 case measure=>exact qs):p:=h
theorem N1 (H:Mem tg a s w)(hs:d8 s D):
 Calls Tryz.prog 153 #[.pointer (some ⟨a.g,0,none⟩),.int .i64 (-1)] w fun e w'=>∃v N,e=.returned v∧N≤400∧w'.ownsRow w.heap.size 116 6 v N (ints (T.i6 s.W s.rk (-1) s.f s.k s.W))∧Below w.heap.size w w':=by
 obtain⟨i0,hi,iz,is,ib⟩:=info_parts dQ;have hg:Below w.heap.size w (w.alloc (.cells #[] 116)):=qb;have HM:=qh H;have HS:=qh hs;have hw1:=hs.w1;have hw2:=hs.w2;have hr1:=hs.r1;have hr2:=hs.r2;have HB1:=qh hg;have aT:=qh (World.ownsRow_made (e:=116) (size:=6) w #[] 0 ql qm rfl);have vM:=qh (DU (H.below hg) hs);have hle:=KZ s.W s.rk (s.W+6);have h0:=T.Ht s.W s.rk;rw[←h0]at vM hle;have O9:=qh (show 0<(T.mB s.W s.rk 0).length from by
  rw[T.KX (show 0<s.W by omega)]
  simp
  omega)
 have rD:=qh (fun i n (hn:n∈T.mB s.W s.rk i)=>T.Yg hn);have C9:=qh (fun i=>show T.i6 s.W s.rk (-1) s.f s.k (i+1)=T.i6 s.W s.rk (-1) s.f s.k i++T.pU s.W s.rk (-1) s.f s.k i from rfl);have HZ:=qh (show T.i6 s.W s.rk (-1) s.f s.k 0=[]from rfl);clear hg H hs h0
 go_enter Tryz.func153,Tryz.ntmps153
 go_wp2_with fail
 refine vM.o.mono ?_;rintro e w1 ⟨v,rfl,ho,hb⟩;obtain⟨A6,c6,rfl⟩:=aE ho;obtain⟨n6,q8⟩:∃n,n=(T.mB s.W s.rk 0).length:=⟨_,rfl⟩;have HP6:=qh (show 0<n6 from by rw[q8];exact O9.o);rw[←q8]at ho hle ⊢;obtain⟨g6,rfl⟩:∃g,A6=some ⟨g,0,none⟩:=by
  rcases ho.2 with⟨_,h1⟩|⟨g',cap,_,hg,_⟩
  ·have:=HP6.o
   omega
  ·injection hg with hA
   exact⟨g',hA⟩
 have CG:=qh (gS.lQ ho q8.symm);have QD:=qh q8;have X4:=(ho.lt g6 rfl).1;have Ob:=qh (show w.heap.size<g6 from by
  have h:=X4
  simp at h
  omega)
 have hc6:=(KV ho).1;have afH:=(KV ho).2;have ZS:=HB1.st hb;have Nq:=qh (own_below aT.o hb);have m0:w1.cell? ⟨a.g,0,none⟩=some (.int .i64 s.W):=(HM.o.below ZS.o).m.cell 0;clear ho hb vM aT HB1 O9 X4 q8
 go_wp2_with fail
 go_loopw [5,23] (fun v y wr=>∃i N:Nat,i≤s.W∧y=.int .i64 i∧N≤16*i∧Hq (wr.ownsRow w.heap.size 116 6 v N (ints (T.i6 s.W s.rk (-1) s.f s.k i)))∧Hq (gS wr g6 (T.mB s.W s.rk i))∧Hq ((T.mB s.W s.rk i).length=n6)∧Hq (Below w.heap.size w wr)∧Hq (∀b,v.ownBlock=some b→b≠g6)) (fun _ y _=>s.W-(intOf y).toNat)
 case atStart=>exact⟨0,0,Nat.zero_le _,rfl,Nat.zero_le _,qh (by rw[HZ.o];exact Nq.o),CG,qh QD.o.symm,ZS,qh fun b hb e=>by
  injection hb with hb;have h:=Ob.o;have hb:w.heap.size=b:=hb;omega⟩
 case round=>
  clear Nq CG ZS m0;obtain⟨i,N,hiW,rfl,hN,HO,HOR,gK,HB,lO⟩:=hrel;have jT:=qh (HM.o.below HB.o)
  by_cases hlt:i<s.W
  case neg=>
   obtain rfl:i=s.W:=qo
   go_wp2_with fail
   go_ret
   exact⟨_,N,rfl,by omega,HO.o,HB.o⟩
  have cB:=qh (C9.o i);have b2:(i:Int)<(s.W:Int):=qo;have hF:=HS.o.fb i hlt;obtain⟨y,hy⟩:∃y:Int,y=(i:Int)-s.rk:=⟨_,rfl⟩;have hyb: -30≤y∧y≤30:=qo;have iO:=qh hlt;obtain⟨W2,hW2⟩:∃x,x=(wr.alloc (.cells #[.int .i64 1,.int .i64 i] 49)).alloc (.cells #[.int .i64 2,.int .i64 ((i:Int)-s.rk)] 49):=⟨_,rfl⟩;have hb2':Below wr.heap.size wr W2:=hW2▸(qb).alloc qj _;have HB2:=qh (HB.o.trans (hb2'.mono HB.o.size));have ZU:=qh (show aG W2 wr.heap.size 49 #[.int .i64 1,.int .i64 i]from hW2▸(aG.at_ (g':=wr.heap.size) wr 49 #[.int .i64 1,.int .i64 i] rfl).alloc _);have GP:=qh (show aG W2 (wr.heap.size+1) 49 #[.int .i64 2,.int .i64 y]from by rw[hW2,hy];exact aG.at_ (g':=wr.heap.size+1) _ 49 #[.int .i64 2,.int .i64 ((i:Int)-s.rk)] qj);have aI:=qh (own_below HO.o hb2');have CC:=qh (HOR.o.below hb2');have n1:(wr.alloc (.cells #[.int .i64 1,.int .i64 i] 49)).cell? ⟨a.g,1,none⟩=some (.int .i64 s.rk):=(jT.o.below (qb)).m.cell 1;have HW2:=qh hW2;clear hb2' hW2;obtain⟨L,hL⟩:=qx (T.mB s.W s.rk i);have nH:=qh hL;have rK:=qh (fun n (hn:n∈L)=>rD.o i n (by rw[←hL];exact hn));rw[←hL]at CC gK
  go_upto_region 10 with(fail)
  rw[←HW2.o];have f0:W2.cell? ⟨wr.heap.size,0,none⟩=some (.int .i64 1):=ZU.o.cell 0;have f1:W2.cell? ⟨wr.heap.size,1,none⟩=some (.int .i64 i):=ZU.o.cell 1
  by_cases hin:0≤y∧y<s.W
  ·have c1:0≤y:=hin.1
   have c2:y<s.W:=hin.2;obtain⟨P,R,e0,e1,e2,e3⟩:=T.Ry (r:=s.rk) s.f s.k hlt qo (by rw[←hy];exact hin);rw[←hL,←hy]at e0;rw[←hy]at e1;obtain⟨S,hS⟩:=qx (T.gD s.f s.k P);obtain⟨FL,PE⟩:=qx (aU s 1 i);obtain⟨FR,PD⟩:=qx (aU s 2 y);have HI:=qh (show T.pU s.W s.rk (-1) s.f s.k i=bL 1 (bY (S:Nat) FL FR)from by
    unfold T.pU;rw[if_neg qo,if_pos (by rw[←hy];exact hin),hS,e3,PE,PD,←hy]
    simp[aU,T.rJ])
   have DK:=qh hS;have Od:=qh PE;have jZ:=qh PD;have l4:FL≤4:=by rw[PE];exact cY HS.o qo qo
   have r4:FR≤4:=by rw[PD];exact cY HS.o qo qo
   have yQ:=qh e1;have hix:=xG (L:=L) (c:=c6) e0 e2 CC.o.rd (by rw[gK.o];omega);rw[gK.o]at hix;have KG:=qh hix;have tG:=qh e0;clear e0 e1 e2 e3 hin hL hS PE PD hy;clear hix
   go_wp2_with fail
   refine KG.o.mono ?_;rintro e w3 ⟨rfl,hb3⟩;have HB3:=HB2.st hb3;have cI:=qh (own_below aI.o hb3);have qH:=qh (CC.o.below hb3);have CN:=qh (GP.o.below hb3 GP.o.lt);have k0:w3.cell? ⟨wr.heap.size+1,0,none⟩=some (.int .i64 2):=CN.o.cell 0;have k1:w3.cell? ⟨wr.heap.size+1,1,none⟩=some (.int .i64 y):=CN.o.cell 1;clear hb3 KG f0 f1 n1;obtain⟨K,hK⟩:=qx (P.length);rw[←hK];have zE:L[K]?=some ((1,i):T.fU):=by
    rw[tG.o,hK]
    simp
   have y9:L[K+1]?=some ((2,y):T.fU):=by
    rw[tG.o,hK,List.getElem?_append_right qo]
    simp
   have HKK:=qh hK;have Ny:=qh zE;have Nv:=qh y9;have hlt2:K+1<n6:=by
    rw[←gK.o];exact(List.getElem?_eq_some_iff.1 y9).1
   obtain⟨⟨r0,r1⟩,_⟩:=qH.o.cells zE;obtain⟨⟨t0,t1⟩,_⟩:=qH.o.cells y9;have r0:w3.cell? ⟨g6,K*2,none⟩=some (.int .i64 1):=r0;have r1:w3.cell? ⟨g6,K*2+1,none⟩=some (.int .i64 i):=r1;have t0:w3.cell? ⟨g6,(K+1)*2,none⟩=some (.int .i64 2):=t0;have t1:w3.cell? ⟨g6,(K+1)*2+1,none⟩=some (.int .i64 y):=t1;have gJ:=fun W=>(xT 1 i 2 y W).trans (by rw[decide_eq_false qj]);have cT:=fun W=>(xT 2 y 2 y W).trans (by rw[decide_eq_true rfl]);have b0:decide ((K:Int)<0)=false:=decide_eq_false qo;have z2:IntKind.i64.wrap ((K:Int)+1)=(K:Int)+1:=IntWalk.i64_in _ qo;have b1:decide ((n6:Int)≤(K:Int)+1)=false:=decide_eq_false qo;have b3:(K:Int)<(n6:Int):=qo;have b4:(K:Int)+1<(n6:Int):=qo;have b5:(0:Int)≤(K:Int)+1:=qo;have b6:(0:Int)≤(K:Int):=qo;have b7:(K:Int)≤(c6:Int):=qo;have b8:K≤c6:=qo;clear hK zE y9
   go_wp2_with fail
   go_quiet (fail)
   rename_i nq
   obtain⟨w4,hw4⟩:=qx (w3.drewN nq);rw[←hw4];have bS:=qh (show w4.ownsRow w.heap.size 116 6 u5 N _ from hw4▸own_drewN cI.o nq);have CB:=qh (show gS w4 g6 L from hw4▸qH.o.below (Below.drewN' (Below.refl _ _) nq));have aW:=qh (show Below w.heap.size w w4 from hw4▸Below.drewN' HB3.o nq);have fV:=qh (HM.o.below aW.o);clear hw4 r0 r1 t0 t1 gJ cT k0 k1
   go_wp2_with fail
   go_loopw [11,78] (fun v y wi=>∃m:Nat,m≤K∧y=.int .i64 m∧v=.int .i64 (T.gD s.f s.k (L.take m):Nat)∧Hq (Below w4.heap.size w4 wi)) (fun _ y _=>K-(intOf y).toNat)
   case atStart=>exact⟨0,Nat.zero_le _,rfl,rfl,qh (Below.refl _ _)⟩
   case round=>
    obtain⟨m,hmK,rfl,rfl,lH⟩:=hrel;have hml:m<L.length:=by rw[gK.o];omega
    have hsum:=N6 HS.o (L:=L.take m) (fun x hx=>rK.o x (List.mem_of_mem_take hx));have hmin:(L.take m).length≤n6:=by simp[gK.o];omega
    obtain⟨V,hV⟩:=qx (T.gD s.f s.k (L.take m));have HV:=qh hV;rw[←hV]at hsum ⊢
    by_cases hlm:m<K
    ·obtain⟨n,hn⟩:∃n,L[m]?=some n:=⟨_,List.getElem?_eq_getElem hml⟩
     have qI:=qh (FV (f:=s.f) (k:=s.k) hn);have n7:=qh (rK.o n (List.mem_of_getElem? hn));have rQ:=qh (FW n7.o);obtain⟨⟨r0,r1⟩,_⟩:=(CB.o.below lH.o).cells hn;obtain⟨nb,na⟩:=n;have r0:wr.cell? ⟨g6,m*2,none⟩=some (.int .i64 nb):=r0;have r1:wr.cell? ⟨g6,m*2+1,none⟩=some (.int .i64 na):=r1;have mT:=qh (fV.o.below (lH.o.alloc lH.o.size (.cells #[.int .i64 nb,.int .i64 na] 49)));have hon:=dJ nb na mT.o n7.o.1 n7.o.2.1 n7.o.2.2;have TM:=qh hon;obtain⟨AF,cF,nS⟩:=(mT.o.nP (b:=nb) n7.o.2.1 n7.o.2.2).form;have hb4:=cY (b:=nb) HS.o n7.o.2.1 n7.o.2.2;have lF:=qh nS;have TO:=qh hlm;clear hV hn hon nS
     go_wp2_with fail
     refine TM.o.mono ?_;rintro e w5 ⟨rfl,hb5⟩;have nG:=qh (mT.o.below hb5);have kc:=nG.o.eL (b:=nb) n7.o.2.1 n7.o.2.2;rw[lF.o]at kc;have bG:=qh ((lH.o.alloc lH.o.size (.cells #[.int .i64 nb,.int .i64 na] 49)).trans (hb5.mono (Nat.le_trans lH.o.size qj)));have yY:=qh (show aU s nb na=T.FX s.f s.k (nb,na)from rQ.o.symm);obtain⟨Q,hQ⟩:=qx (aU s nb na);rw[←hQ]at kc hb4 yY;clear hb5 hQ TM
     go_wp2_with fail
     go_roundw
     case rel=>exact⟨m+1,TO.o,qg,by rw[qI.o,←yY.o,←HV.o];go_num,bG⟩
     case measure=>exact qs
    ·obtain rfl:m=K:=qo
     have Na:=qh (show V=S from by rw[HV.o,DK.o,tG.o,HKK.o];simp);have hSb:S≤4*n6:=by rw[←Na.o];omega
     clear hV;rw[Na.o];obtain⟨⟨r0,r1⟩,_⟩:=(CB.o.below lH.o).cells Ny.o;obtain⟨⟨t0,t1⟩,_⟩:=(CB.o.below lH.o).cells Nv.o;have r0:wr.cell? ⟨g6,m*2,none⟩=some (.int .i64 1):=r0;have r1:wr.cell? ⟨g6,m*2+1,none⟩=some (.int .i64 i):=r1;have t0:wr.cell? ⟨g6,(m+1)*2,none⟩=some (.int .i64 2):=t0;have t1:wr.cell? ⟨g6,(m+1)*2+1,none⟩=some (.int .i64 y):=t1;have hgz:g6<wr.heap.size:=(CB.o.below lH.o).l
     go_upto_region 20 with(fail)
     go_cut [14,15,23]from 23 to 127 (fun s14 s15 s23 wx=>∃b14 b15:Nat,s14=.pointer (some ⟨b14,0,none⟩)∧s15=.pointer (some ⟨b15,0,none⟩)∧s23=.int .i64 i∧Hq (aG wx b14 49 #[.int .i64 1,.int .i64 (i:Int)])∧Hq (aG wx b15 49 #[.int .i64 2,.int .i64 y])∧Hq (Below wr.heap.size wr wx)∧wr.heap.size≤b14∧wr.heap.size≤b15)
     case first=>
      have e1:¬g6=wr.heap.size:=qo;have e2:¬g6=wr.heap.size+1:=qo
      go_region_held3 (fun w'=>w'.cell? ⟨g6,m*2,none⟩=some (.int .i64 1)∧w'.cell? ⟨g6,m*2+1,none⟩=some (.int .i64 (i:Int))∧w'.cell? ⟨g6,(m+1)*2,none⟩=some (.int .i64 2)∧w'.cell? ⟨g6,(m+1)*2+1,none⟩=some (.int .i64 y)) (go_keep) (fail)
      all_goals
       go_wp2_with fail
       go_meet
       first
        |exact⟨_,_,rfl,rfl,rfl,qh ((aG.at_ _ _ _ qj).alloc _),qh (aG.at_ _ _ _ qj),qh (((Below.drewN' (Below.refl wr.heap.size wr) _).alloc qj _).alloc qj _),by simp,by simp⟩
        |exact⟨_,_,rfl,rfl,rfl,qh (aG.at_ _ _ _ qj),qh ((aG.at_ _ _ _ qj).alloc _),qh (((Below.drewN' (Below.refl wr.heap.size wr) _).alloc qj _).alloc qj _),by simp,by simp⟩
     case rest=>
      obtain⟨b14,b15,rfl,rfl,rfl,iH,iG,ZQ,Rh,Rf⟩:=hcut;have KJ:=qh ((aW.o.trans (lH.o.mono aW.o.size)).trans (ZQ.o.mono (Nat.le_trans aW.o.size lH.o.size)));have hz1:w.heap.size≤wr.heap.size:=Nat.le_trans aW.o.size lH.o.size;have HOc:=qh (own_below (own_below bS.o lH.o) ZQ.o);have OC:=qh ((CB.o.below lH.o).below ZQ.o);have yL:=qh (HM.o.below KJ.o);have oX:=qh (fun b (hb:u5.ownBlock=some b)=>(show w.heap.size≤b∧b<wr.heap.size from⟨(bS.o.lt b hb).1,Nat.lt_of_lt_of_le (bS.o.lt b hb).2 lH.o.size⟩));obtain⟨gL,P9⟩:=qx (cA a 1);obtain⟨gR,hgR⟩:=qx (cA a 2);obtain⟨oL,X0⟩:∃g,g=((i:Int):Int).toNat:=⟨_,rfl⟩;obtain⟨oR,WZ⟩:∃g,g=(y:Int).toNat:=⟨_,rfl⟩;obtain⟨AL,cL,Jl⟩:=(yL.o.nP (b:=1) (x:=(i:Int)) qo qo).form;obtain⟨AR,cR,Jk⟩:=(yL.o.nP (b:=2) (x:=y) qo qo).form;have JP:=yL.o.eL (b:=1) (x:=(i:Int)) qo qo;have P7:=yL.o.eL (b:=2) (x:=y) qo qo;rw[Jl,←P9,←X0,←Od.o]at JP;rw[Jk,←hgR,←WZ,←jZ.o]at P7;have Uj:=qh JP;have Ui:=qh P7;have xA:=qh (World.block_lt_of_cell? wc _ JP);have x9:=qh (World.block_lt_of_cell? wc _ P7);have NK:=fun(W:World) (h:Mem tg a s W)=>dJ 1 (i:Int) h qo qo qo;have NJ:=fun(W:World) (h:Mem tg a s W)=>dJ 2 y h qo qo qo;rw[←P9,←X0]at NK;rw[←hgR,←WZ]at NJ;have vT:=qh NK;have ZO:=qh NJ;have Ul:=qh (show gL<w.heap.size from by
       have h:=HM.o.eL (b:=1) (x:=(i:Int)) qo qo;rw[←P9]at h;exact World.block_lt_of_cell? w _ h)
      have Uk:=qh (show gR<w.heap.size from by
       have h:=HM.o.eL (b:=2) (x:=y) qo qo;rw[←hgR]at h;exact World.block_lt_of_cell? w _ h)
      have qN:=qh (fun W=>rV (S:Int) FL FR 1 W qo qo qo);have Rl:FR*FL≤16:=Nat.le_trans (Nat.mul_le_mul r4 l4) qo;obtain⟨Q,hQ⟩:=qx (FR*FL);rw[←hQ]at qN Rl;have sL:=qh Rh;have yZ:=qh Rf;have p0:wc.cell? ⟨b14,0,none⟩=some (.int .i64 1):=iH.o.cell 0;have p1:wc.cell? ⟨b14,1,none⟩=some (.int .i64 (i:Int)):=iH.o.cell 1;have p2:wc.cell? ⟨b15,0,none⟩=some (.int .i64 2):=iG.o.cell 0;have p3:wc.cell? ⟨b15,1,none⟩=some (.int .i64 y):=iG.o.cell 1;clear P9 hgR X0 WZ Jl Jk NK NJ hQ JP P7;have p4:=Uj.o;have p5:=Ui.o
      go_upto_region 21 with(fail)
      go_cut [5,23]from 23 to 127 (fun s5 s23 wx=>s23=.int .i64 i∧∃A5 c5,s5=.slice A5 (N+Q) c5∧Hq (wx.ownsRow w.heap.size 116 6 (.slice A5 (N+Q) c5) (N+Q) (ints (T.i6 s.W s.rk (-1) s.f s.k (i+1))))∧Hq (gS wx g6 L)∧Hq (aG wx b14 49 #[.int .i64 1,.int .i64 (i:Int)])∧Hq (aG wx b15 49 #[.int .i64 2,.int .i64 y])∧Hq (Below w.heap.size w wx)∧Hq (∀b,(Value.slice A5 (N+Q) c5).ownBlock=some b→b≠g6))
      case first=>
       go_region_held3 (fun w'=>w'.cell? ⟨b14,0,none⟩=some (.int .i64 1)∧w'.cell? ⟨b14,1,none⟩=some (.int .i64 (i:Int))∧w'.cell? ⟨b15,0,none⟩=some (.int .i64 2)∧w'.cell? ⟨b15,1,none⟩=some (.int .i64 y)∧w'.cell? ⟨gL,oL,none⟩=some (.slice AL FL cL)∧w'.cell? ⟨gR,oR,none⟩=some (.slice AR FR cR)) (go_keep)
        (first
         |(go_at_call_of 102 (Value.agg #[.int .i64 1,.int .i64 (i:Int)]);refine(vT.o _ (yL.o.below ((Below.refl wc.heap.size wc).drew))).mono ?_;rintro e w6 ⟨rfl,hb6⟩;have bE:Hq (Below wc.heap.size wc w6):=qh (((Below.refl wc.heap.size wc).drew).trans hb6);have q60:=aD bE.o iH.o.lt p0;have q61:=aD bE.o iH.o.lt p1;have q62:=aD bE.o iG.o.lt p2;have q63:=aD bE.o iG.o.lt p3;have q64:=aD bE.o xA.o p4;have q65:=aD bE.o x9.o p5;clear hb6)
         |(go_at_call_of 102 (Value.agg #[.int .i64 2,.int .i64 y]);refine(ZO.o _ (yL.o.below ((Below.refl wc.heap.size wc).drew))).mono ?_;rintro e w6 ⟨rfl,hb6⟩;have bE:Hq (Below wc.heap.size wc w6):=qh (((Below.refl wc.heap.size wc).drew).trans hb6);have q60:=aD bE.o iH.o.lt p0;have q61:=aD bE.o iH.o.lt p1;have q62:=aD bE.o iG.o.lt p2;have q63:=aD bE.o iG.o.lt p3;have q64:=aD bE.o xA.o p4;have q65:=aD bE.o x9.o p5;clear hb6)
         |(go_at_call_of 102 (Value.agg #[.int .i64 1,.int .i64 (i:Int)]);refine(vT.o _ (yL.o.below bE.o)).mono ?_;rintro e w7 ⟨rfl,bM⟩;have aR:Hq (Below wc.heap.size wc w7):=bE.st bM;have q70:=aD aR.o iH.o.lt p0;have q71:=aD aR.o iH.o.lt p1;have q72:=aD aR.o iG.o.lt p2;have q73:=aD aR.o iG.o.lt p3;have q74:=aD aR.o xA.o p4;have q75:=aD aR.o x9.o p5;clear bM)
         |(go_at_call_of 102 (Value.agg #[.int .i64 2,.int .i64 y]);refine(ZO.o _ (yL.o.below bE.o)).mono ?_;rintro e w7 ⟨rfl,bM⟩;have aR:Hq (Below wc.heap.size wc w7):=bE.st bM;have q70:=aD aR.o iH.o.lt p0;have q71:=aD aR.o iH.o.lt p1;have q72:=aD aR.o iG.o.lt p2;have q73:=aD aR.o iG.o.lt p3;have q74:=aD aR.o xA.o p4;have q75:=aD aR.o x9.o p5;clear bM)
         |(go_at_call 187;refine(qN.o w7).mono ?_;rintro e w8 ⟨v8,rfl,gC,gY⟩;obtain⟨A8,c8,rfl⟩:=aE gC;have dV:Hq (Below wc.heap.size wc w8):=aR.st gY;have rP:=qh (own_below HOc.o dV.o);have I7:=qh (rU gC);have HL8:=qh (show(bL 1 (bY (S:Int) FL FR)).length=Q*6 from(by have h:=gC.1;simpa [ints]using h));have q80:=aD dV.o iH.o.lt p0;have q81:=aD dV.o iH.o.lt p1;have q82:=aD dV.o iG.o.lt p2;have q83:=aD dV.o iG.o.lt p3;have q84:=aD dV.o xA.o p4;have q85:=aD dV.o x9.o p5;clear gC gY)
         |(refine OH w8 (by rfl) (.tmp 100) (.tmp 116) _ (by rfl) w.heap.size 116 i0 _ 6 48 Tryz.underlying42 hi iz is ib rfl qo u5 N _ (by rfl) rP.o A8 Q c8 _ (by rfl) I7.o (fun j=>rfl) qm qo (Nat.le_trans KJ.o.size dV.o.size) ?_;intro v9 w9 FZ X7 XG;obtain⟨A9,c9,rfl⟩:=aE FZ;have CF:=qh FZ;have jU:=qh X7;have IC:=qh XG;have q90:=(jU.o.cells (Nat.lt_of_lt_of_le iH.o.lt dV.o.size) (fun e=>(by have h1:=oX.o _ e;have h2:=sL.o;omega)) 0).trans q80;have q91:=(jU.o.cells (Nat.lt_of_lt_of_le iH.o.lt dV.o.size) (fun e=>(by have h1:=oX.o _ e;have h2:=sL.o;omega)) 1).trans q81;have q92:=(jU.o.cells (Nat.lt_of_lt_of_le iG.o.lt dV.o.size) (fun e=>(by have h1:=oX.o _ e;have h2:=yZ.o;omega)) 0).trans q82;have q93:=(jU.o.cells (Nat.lt_of_lt_of_le iG.o.lt dV.o.size) (fun e=>(by have h1:=oX.o _ e;have h2:=yZ.o;omega)) 1).trans q83;have q94:=(jU.o.cells (Nat.lt_of_lt_of_le xA.o dV.o.size) (fun e=>(by have h1:=oX.o _ e;have h2:=Ul.o;omega)) oL).trans q84;have q95:=(jU.o.cells (Nat.lt_of_lt_of_le x9.o dV.o.size) (fun e=>(by have h1:=oX.o _ e;have h2:=Uk.o;omega)) oR).trans q85;clear FZ X7 XG))
       all_goals
        rename_i hHeld
        clear hHeld
        go_wp2_with fail
        go_meet
        exact⟨rfl,A9,c9,rfl,qh (by
         have h:=CF.o;rw[mL _ _ HL8.o,←aL]at h;rw[cB.o,HI.o];exact h),qh ((OC.o.below dV.o).blk (jU.o.block g6 (OC.o.below dV.o).l (lO.o g6 · rfl)) jU.o.size),qh ((iH.o.below dV.o iH.o.lt).fr jU.o fun e=>by have h1:=oX.o _ e;have h2:=sL.o;omega),qh ((iG.o.below dV.o iG.o.lt).fr jU.o fun e=>by have h1:=oX.o _ e;have h2:=yZ.o;omega),qh ((KJ.o.trans (dV.o.mono KJ.o.size)).trans (jU.o.below (Nat.le_trans KJ.o.size dV.o.size) fun b hb=>(oX.o b hb).1)),qh fun b hb e=>by
         rcases IC.o with h|h
         ·rw[h]at hb
          exact lO.o b hb e
         ·rw[h]at hb
          injection hb with hb;have h1:=(OC.o.below dV.o).l;have hb:w8.heap.size=b:=hb;omega⟩
      case rest=>
       obtain⟨rfl,A5,c5,rfl,HOd,OB,QH,QG,HBd,Z9⟩:=hcut;have Tm:=qh (show w.heap.size≤g6 from Nat.le_of_lt Ob.o);have r0:wc.cell? ⟨b14,0,none⟩=some (.int .i64 1):=QH.o.cell 0;have r1:wc.cell? ⟨b14,1,none⟩=some (.int .i64 (i:Int)):=QH.o.cell 1;have r2:wc.cell? ⟨b15,0,none⟩=some (.int .i64 2):=QG.o.cell 0;have r3:wc.cell? ⟨b15,1,none⟩=some (.int .i64 y):=QG.o.cell 1;obtain⟨_,f0,f1⟩:=OB.o.cells Ny.o;obtain⟨_,f2,f3⟩:=OB.o.cells Nv.o;have e1:¬b14=g6:=qo;have e2:¬b15=g6:=qo;have Z7:=qh (show gS wc g6 (P++(1,(i:Int))::(2,y)::R)from by rw[←tG.o];exact OB.o);have Ug:=qh (show(T.mB s.W s.rk (i+1)).length=n6 from by
        rw[yQ.o,←gK.o,tG.o]
        simp)
       clear p0 p1 p2 p3 p4 p5
       go_upto_region 22 with(fail)
       go_region_held3 (fun w'=>w'.cell? ⟨b14,0,none⟩=some (.int .i64 1)∧w'.cell? ⟨b14,1,none⟩=some (.int .i64 (i:Int))∧w'.cell? ⟨b15,0,none⟩=some (.int .i64 2)∧w'.cell? ⟨b15,1,none⟩=some (.int .i64 y)) (first|exact⟨r0,r1,r2,r3⟩|exact⟨st2 r0 e1,st2 r1 e1,st2 r2 e2,st2 r3 e2⟩|exact⟨st2 (st2 r0 e1) e1,st2 (st2 r1 e1) e1,st2 (st2 r2 e2) e2,st2 (st2 r3 e2) e2⟩) (fail)
       all_goals
        rename_i hHeld
        clear hHeld
        go_wp2_with fail
        go_roundw
        case rel=>exact⟨i+1,N+Q,iO.o,qg,by omega,qh (Hl HOd.o Z9.o _ _ _ _ _ _ _ _),qh (by
         rw[yQ.o]
         first
          |exact(SE Z7.o HKK.o).drew
          |exact(SD Z7.o HKK.o).drew),Ug,qh (YG HBd.o Tm.o _ _ _ _ _ _ _ _),Z9⟩
        case measure=>exact qs
  ·have HI:=qh (show T.pU s.W s.rk (-1) s.f s.k i=[]from by
    unfold T.pU;rw[if_neg qo,if_neg (by rw[←hy];exact hin)])
   obtain⟨P,R,e0,e1,e2,e3⟩:=T.Zh (r:=s.rk) hlt (by rw[←hy];exact hin);rw[←hL]at e0;rw[←hy]at e3;have yQ:=qh e1;have hix:=xG (L:=L) (c:=c6) e0 e2 CC.o.rd (by rw[gK.o];omega);rw[gK.o]at hix;have KG:=qh hix;have tG:=qh e0;have qM:=qh e3;clear e0 e1 e2 e3 hin hL hy;clear hix
   go_wp2_with fail
   refine KG.o.mono ?_;rintro e w3 ⟨rfl,hb3⟩;have HB3:=HB2.st hb3;have cI:=qh (own_below aI.o hb3);have qH:=qh (CC.o.below hb3);have CN:=qh (GP.o.below hb3 GP.o.lt);have k0:w3.cell? ⟨wr.heap.size+1,0,none⟩=some (.int .i64 2):=CN.o.cell 0;have k1:w3.cell? ⟨wr.heap.size+1,1,none⟩=some (.int .i64 y):=CN.o.cell 1;clear hb3 KG f0 f1 n1;obtain⟨K,hK⟩:=qx (P.length);rw[←hK];have zE:L[K]?=some ((1,(i:Int)):T.fU):=by
    rw[tG.o,hK]
    simp
   have hlt1:K<n6:=by
    rw[←gK.o];exact(List.getElem?_eq_some_iff.1 zE).1
   obtain⟨⟨r0,r1⟩,_⟩:=qH.o.cells zE;have r0:w3.cell? ⟨g6,K*2,none⟩=some (.int .i64 1):=r0;have r1:w3.cell? ⟨g6,K*2+1,none⟩=some (.int .i64 i):=r1;have gJ:=fun W=>(xT 1 i 2 y W).trans (by rw[decide_eq_false qj]);have b0:decide ((K:Int)<0)=false:=decide_eq_false qo;have z2:IntKind.i64.wrap ((K:Int)+1)=(K:Int)+1:=IntWalk.i64_in _ qo;have b3:(K:Int)<(n6:Int):=qo;have b5:(0:Int)≤(K:Int)+1:=qo;have b6:(0:Int)≤(K:Int):=qo
   rcases R with _|⟨m,R⟩
   ·have hn:n6=K+1:=by
     rw[←gK.o,tG.o,hK]
     simp
    have b1:decide ((n6:Int)≤(K:Int)+1)=true:=decide_eq_true qo;clear hK zE hn
    exact zP35x0
   ·have y9:L[K+1]?=some m:=by
     rw[tG.o,hK,List.getElem?_append_right qo]
     simp
    have CH:=qh (show m≠(2,y)from qM.o m qj);have hlt2:K+1<n6:=by
     rw[←gK.o];exact(List.getElem?_eq_some_iff.1 y9).1
    obtain⟨⟨t0,t1⟩,_⟩:=qH.o.cells y9;obtain⟨mb,ma⟩:=m;have t0:w3.cell? ⟨g6,(K+1)*2,none⟩=some (.int .i64 mb):=t0;have t1:w3.cell? ⟨g6,(K+1)*2+1,none⟩=some (.int .i64 ma):=t1;have cT:=fun W=>(xT mb ma 2 y W).trans (by rw[decide_eq_false CH.o]);have b1:decide ((n6:Int)≤(K:Int)+1)=false:=decide_eq_false qo;have b4:(K:Int)+1<(n6:Int):=qo;clear hK zE y9
    exact zP35x0
end
end Go.Proofs.YtimlpmbabbbcaaaGreat
