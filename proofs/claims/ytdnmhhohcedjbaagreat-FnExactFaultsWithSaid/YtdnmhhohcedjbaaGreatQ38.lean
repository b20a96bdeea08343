/- Walks and plain lemmas. -/
import Derived.Test.YtdnmhhohcedjbaaGreatQ36
set_option linter.unusedVariables false
set_option linter.unusedSimpArgs false
set_option maxHeartbeats 8000000
set_option maxRecDepth 20000
namespace Go.Proofs.YtdnmhhohcedjbaaGreat
open Go.RowKit
section
variable {tg:Nat→Nat}{a:bC}{s:aI}{D:Nat}{w:World}
theorem zQ38x0 {p:Prop}(h:p:=by
 go_wp2_with fail
 go_quiet (fail)
 rename_i nq
 have Z2:=qh (own_drewN bS.o nq);have YV:=qh (show fO (w3.drewN nq) g6 (T.lC s.W s.rk (i+1))from by rw[xG.o,←lA.o];exact pI.o.below (Below.drewN' (Below.refl _ _) nq));have aj:=qh (Below.drewN' HB3.o nq)
 go_wp2_with fail
 go_roundw
 case rel=>exact⟨i+1,N,by omega,qg,by omega,qh (by rw[bN.o,HI.o,List.append_nil];exact Z2.o),YV,qh (by rw[xG.o,←lA.o];exact jG.o),aj,mE⟩
 case measure=>exact qs):p:=h
theorem LQ (H:Mem tg a s w)(hs:bW s D):
 Calls Tryz.prog 157 #[.pointer (some ⟨a.g,0,none⟩),.int .i64 (-1)] w fun e w'=>∃v N,e=.returned v∧N≤400∧w'.ownsRow w.heap.size 91 6 v N (ints (T.fS s.W s.rk (-1) s.f s.k s.W))∧Below w.heap.size w w':=by
 obtain⟨i0,hi,iz,is,ib⟩:=info_parts iF;have hg:Below w.heap.size w (w.alloc (.cells #[] 91)):=qb;have HM:=qh H;have HS:=qh hs;have hw1:=hs.w1;have hw2:=hs.w2;have hr1:=hs.r1;have hr2:=hs.r2;have HB1:=qh hg;have aO:=qh (World.ownsRow_made (e:=91) (size:=6) w #[] 0 ql qm rfl);have eR:=qh (CS (H.below hg) hs);have hle:=JT s.W s.rk (s.W+6);have h0:=T.Iz s.W s.rk;rw[←h0]at eR hle;have YZ:=qh (show 0<(T.lC s.W s.rk 0).length from by
  rw[T.JS (show 0<s.W by omega)]
  simp
  omega)
 have gV:=qh (fun i n (hn:n∈T.lC s.W s.rk i)=>T.aaF hn);have AY:=qh (fun i=>show T.fS s.W s.rk (-1) s.f s.k (i+1)=T.fS s.W s.rk (-1) s.f s.k i++T.nW s.W s.rk (-1) s.f s.k i from rfl);have HZ:=qh (show T.fS s.W s.rk (-1) s.f s.k 0=[]from rfl);clear hg H hs h0
 go_enter Tryz.func157,Tryz.ntmps157
 go_wp2_with fail
 refine eR.o.mono ?_;rintro e w1 ⟨v,rfl,ho,hb⟩;obtain⟨A6,c6,rfl⟩:=aF ho;obtain⟨n6,y8⟩:∃n,n=(T.lC s.W s.rk 0).length:=⟨_,rfl⟩;have HP6:=qh (show 0<n6 from by rw[y8];exact YZ.o);rw[←y8]at ho hle ⊢;obtain⟨g6,rfl⟩:∃g,A6=some ⟨g,0,none⟩:=by
  rcases ho.2 with⟨_,h1⟩|⟨g',cap,_,hg,_⟩
  ·have:=HP6.o
   omega
  ·injection hg with hA
   exact⟨g',hA⟩
 have Z8:=qh (fO.kM ho y8.symm);have PR:=qh y8;have WX:=(ho.lt g6 rfl).1;have PY:=qh (show w.heap.size<g6 from by
  have h:=WX
  simp at h
  omega)
 have hc6:=(JQ ho).1;have ahN:=(JQ ho).2;have au:=HB1.st hb;have Ph:=qh (own_below aO.o hb);have m0:w1.cell? ⟨a.g,0,none⟩=some (.int .i64 s.W):=(HM.o.below au.o).m.cell 0;clear ho hb eR aO HB1 YZ WX y8
 go_wp2_with fail
 go_loopw [5,23] (fun v y wr=>∃i N:Nat,i≤s.W∧y=.int .i64 i∧N≤16*i∧Hq (wr.ownsRow w.heap.size 91 6 v N (ints (T.fS s.W s.rk (-1) s.f s.k i)))∧Hq (fO wr g6 (T.lC s.W s.rk i))∧Hq ((T.lC s.W s.rk i).length=n6)∧Hq (Below w.heap.size w wr)∧Hq (∀b,v.ownBlock=some b→b≠g6)) (fun _ y _=>s.W-(intOf y).toNat)
 case atStart=>exact⟨0,0,Nat.zero_le _,rfl,Nat.zero_le _,qh (by rw[HZ.o];exact Ph.o),Z8,qh PR.o.symm,au,qh fun b hb e=>by
  injection hb with hb;have h:=PY.o;have hb:w.heap.size=b:=hb;omega⟩
 case round=>
  clear Ph Z8 au m0;obtain⟨i,N,hiW,rfl,hN,HO,Z5,jG,HB,mE⟩:=hrel;have iR:=qh (HM.o.below HB.o)
  by_cases hlt:i<s.W
  case neg=>
   obtain rfl:i=s.W:=qo
   go_wp2_with fail
   go_ret
   exact⟨_,N,rfl,by omega,HO.o,HB.o⟩
  have bN:=qh (AY.o i);have b2:(i:Int)<(s.W:Int):=qo;have hF:=HS.o.fb i hlt;obtain⟨y,hy⟩:∃y:Int,y=(i:Int)-s.rk:=⟨_,rfl⟩;have hyb: -30≤y∧y≤30:=qo;have dC:=qh hlt;obtain⟨W2,hW2⟩:∃x,x=(wr.alloc (.cells #[.int .i64 1,.int .i64 i] 65)).alloc (.cells #[.int .i64 2,.int .i64 ((i:Int)-s.rk)] 65):=⟨_,rfl⟩;have hb2':Below wr.heap.size wr W2:=hW2▸(qb).alloc qj _;have HB2:=qh (HB.o.trans (hb2'.mono HB.o.size));have bf:=qh (show aB W2 wr.heap.size 65 #[.int .i64 1,.int .i64 i]from hW2▸(aB.at_ (g':=wr.heap.size) wr 65 #[.int .i64 1,.int .i64 i] rfl).alloc _);have FU:=qh (show aB W2 (wr.heap.size+1) 65 #[.int .i64 2,.int .i64 y]from by rw[hW2,hy];exact aB.at_ (g':=wr.heap.size+1) _ 65 #[.int .i64 2,.int .i64 ((i:Int)-s.rk)] qj);have aH:=qh (own_below HO.o hb2');have B3:=qh (Z5.o.below hb2');have n1:(wr.alloc (.cells #[.int .i64 1,.int .i64 i] 65)).cell? ⟨a.g,1,none⟩=some (.int .i64 s.rk):=(iR.o.below (qb)).m.cell 1;have HW2:=qh hW2;clear hb2' hW2;obtain⟨L,hL⟩:=qx (T.lC s.W s.rk i);have lA:=qh hL;have qR:=qh (fun n (hn:n∈L)=>gV.o i n (by rw[←hL];exact hn));rw[←hL]at B3 jG
  go_upto_region 10 with(fail)
  rw[←HW2.o];have f0:W2.cell? ⟨wr.heap.size,0,none⟩=some (.int .i64 1):=bf.o.cell 0;have f1:W2.cell? ⟨wr.heap.size,1,none⟩=some (.int .i64 i):=bf.o.cell 1
  by_cases hin:0≤y∧y<s.W
  ·have c1:0≤y:=hin.1
   have c2:y<s.W:=hin.2;obtain⟨P,R,e0,e1,e2,e3⟩:=T.Tq (r:=s.rk) s.f s.k hlt qo (by rw[←hy];exact hin);rw[←hL,←hy]at e0;rw[←hy]at e1;obtain⟨S,hS⟩:=qx (T.fG s.f s.k P);obtain⟨FL,OP⟩:=qx (aM s 1 i);obtain⟨FR,OO⟩:=qx (aM s 2 y);have HI:=qh (show T.nW s.W s.rk (-1) s.f s.k i=cE 1 (hJ (S:Nat) FL FR)from by
    unfold T.nW;rw[if_neg qo,if_pos (by rw[←hy];exact hin),hS,e3,OP,OO,←hy]
    simp[aM,T.n7])
   have KY:=qh hS;have Qd:=qh OP;have iL:=qh OO;have l4:FL≤4:=by rw[OP];exact bT HS.o qo qo
   have r4:FR≤4:=by rw[OO];exact bT HS.o qo qo
   have xG:=qh e1;have hix:=vV (L:=L) (c:=c6) e0 e2 B3.o.rd (by rw[jG.o];omega);rw[jG.o]at hix;have JA:=qh hix;have sC:=qh e0;clear e0 e1 e2 e3 hin hL hS OP OO hy;clear hix
   go_wp2_with fail
   refine JA.o.mono ?_;rintro e w3 ⟨rfl,hb3⟩;have HB3:=HB2.st hb3;have bS:=qh (own_below aH.o hb3);have pI:=qh (B3.o.below hb3);have BH:=qh (FU.o.below hb3 FU.o.lt);have k0:w3.cell? ⟨wr.heap.size+1,0,none⟩=some (.int .i64 2):=BH.o.cell 0;have k1:w3.cell? ⟨wr.heap.size+1,1,none⟩=some (.int .i64 y):=BH.o.cell 1;clear hb3 JA f0 f1 n1;obtain⟨K,hK⟩:=qx (P.length);rw[←hK];have yA:L[K]?=some ((1,i):T.eV):=by
    rw[sC.o,hK]
    simp
   have wP:L[K+1]?=some ((2,y):T.eV):=by
    rw[sC.o,hK,List.getElem?_append_right qo]
    simp
   have HKK:=qh hK;have Pw:=qh yA;have Pv:=qh wP;have hlt2:K+1<n6:=by
    rw[←jG.o];exact(List.getElem?_eq_some_iff.1 wP).1
   obtain⟨⟨r0,r1⟩,_⟩:=pI.o.cells yA;obtain⟨⟨t0,t1⟩,_⟩:=pI.o.cells wP;have r0:w3.cell? ⟨g6,K*2,none⟩=some (.int .i64 1):=r0;have r1:w3.cell? ⟨g6,K*2+1,none⟩=some (.int .i64 i):=r1;have t0:w3.cell? ⟨g6,(K+1)*2,none⟩=some (.int .i64 2):=t0;have t1:w3.cell? ⟨g6,(K+1)*2+1,none⟩=some (.int .i64 y):=t1;have rA:=fun W=>(wI 1 i 2 y W).trans (by rw[decide_eq_false qj]);have eS:=fun W=>(wI 2 y 2 y W).trans (by rw[decide_eq_true rfl]);have b0:decide ((K:Int)<0)=false:=decide_eq_false qo;have z2:IntKind.i64.wrap ((K:Int)+1)=(K:Int)+1:=IntWalk.i64_in _ qo;have b1:decide ((n6:Int)≤(K:Int)+1)=false:=decide_eq_false qo;have b3:(K:Int)<(n6:Int):=qo;have b4:(K:Int)+1<(n6:Int):=qo;have b5:(0:Int)≤(K:Int)+1:=qo;have b6:(0:Int)≤(K:Int):=qo;have b7:(K:Int)≤(c6:Int):=qo;have b8:K≤c6:=qo;clear hK yA wP
   go_wp2_with fail
   go_quiet (fail)
   rename_i nq
   obtain⟨w4,hw4⟩:=qx (w3.drewN nq);rw[←hw4];have bP:=qh (show w4.ownsRow w.heap.size 91 6 u5 N _ from hw4▸own_drewN bS.o nq);have AZ:=qh (show fO w4 g6 L from hw4▸pI.o.below (Below.drewN' (Below.refl _ _) nq));have aR:=qh (show Below w.heap.size w w4 from hw4▸Below.drewN' HB3.o nq);have fQ:=qh (HM.o.below aR.o);clear hw4 r0 r1 t0 t1 rA eS k0 k1
   go_wp2_with fail
   go_loopw [11,78] (fun v y wi=>∃m:Nat,m≤K∧y=.int .i64 m∧v=.int .i64 (T.fG s.f s.k (L.take m):Nat)∧Hq (Below w4.heap.size w4 wi)) (fun _ y _=>K-(intOf y).toNat)
   case atStart=>exact⟨0,Nat.zero_le _,rfl,rfl,qh (Below.refl _ _)⟩
   case round=>
    obtain⟨m,hmK,rfl,rfl,jX⟩:=hrel;have hml:m<L.length:=by rw[jG.o];omega
    have hsum:=M7 HS.o (L:=L.take m) (fun x hx=>qR.o x (List.mem_of_mem_take hx));have hmin:(L.take m).length≤n6:=by simp[jG.o];omega
    obtain⟨V,hV⟩:=qx (T.fG s.f s.k (L.take m));have HV:=qh hV;rw[←hV]at hsum ⊢
    by_cases hlm:m<K
    ·obtain⟨n,hn⟩:∃n,L[m]?=some n:=⟨_,List.getElem?_eq_getElem hml⟩
     have pK:=qh (EQ (f:=s.f) (k:=s.k) hn);have mI:=qh (qR.o n (List.mem_of_getElem? hn));have qZ:=qh (ER mI.o);obtain⟨⟨r0,r1⟩,_⟩:=(AZ.o.below jX.o).cells hn;obtain⟨nb,na⟩:=n;have r0:wr.cell? ⟨g6,m*2,none⟩=some (.int .i64 nb):=r0;have r1:wr.cell? ⟨g6,m*2+1,none⟩=some (.int .i64 na):=r1;have mF:=qh (fQ.o.below (jX.o.alloc jX.o.size (.cells #[.int .i64 nb,.int .i64 na] 65)));have hon:=cG nb na mF.o mI.o.1 mI.o.2.1 mI.o.2.2;have TO:=qh hon;obtain⟨AF,cF,mW⟩:=(mF.o.lU (b:=nb) mI.o.2.1 mI.o.2.2).form;have hb4:=bT (b:=nb) HS.o mI.o.2.1 mI.o.2.2;have jV:=qh mW;have HLM:=qh hlm;clear hV hn hon mW
     go_wp2_with fail
     refine TO.o.mono ?_;rintro e w5 ⟨rfl,hb5⟩;have oQ:=qh (mF.o.below hb5);have kc:=oQ.o.dE (b:=nb) mI.o.2.1 mI.o.2.2;rw[jV.o]at kc;have aZ:=qh ((jX.o.alloc jX.o.size (.cells #[.int .i64 nb,.int .i64 na] 65)).trans (hb5.mono (Nat.le_trans jX.o.size qj)));have xU:=qh (show aM s nb na=T.ES s.f s.k (nb,na)from qZ.o.symm);obtain⟨Q,hQ⟩:=qx (aM s nb na);rw[←hQ]at kc hb4 xU;clear hb5 hQ TO
     go_wp2_with fail
     go_roundw
     case rel=>exact⟨m+1,HLM.o,qg,by rw[pK.o,←xU.o,←HV.o];go_num,aZ⟩
     case measure=>exact qs
    ·obtain rfl:m=K:=qo
     have Ov:=qh (show V=S from by rw[HV.o,KY.o,sC.o,HKK.o];simp);have hSb:S≤4*n6:=by rw[←Ov.o];omega
     clear hV;rw[Ov.o];obtain⟨⟨r0,r1⟩,_⟩:=(AZ.o.below jX.o).cells Pw.o;obtain⟨⟨t0,t1⟩,_⟩:=(AZ.o.below jX.o).cells Pv.o;have r0:wr.cell? ⟨g6,m*2,none⟩=some (.int .i64 1):=r0;have r1:wr.cell? ⟨g6,m*2+1,none⟩=some (.int .i64 i):=r1;have t0:wr.cell? ⟨g6,(m+1)*2,none⟩=some (.int .i64 2):=t0;have t1:wr.cell? ⟨g6,(m+1)*2+1,none⟩=some (.int .i64 y):=t1;have hgz:g6<wr.heap.size:=(AZ.o.below jX.o).l
     go_upto_region 20 with(fail)
     go_cut [14,15,23]from 23 to 127 (fun s14 s15 s23 wx=>∃b14 b15:Nat,s14=.pointer (some ⟨b14,0,none⟩)∧s15=.pointer (some ⟨b15,0,none⟩)∧s23=.int .i64 i∧Hq (aB wx b14 65 #[.int .i64 1,.int .i64 (i:Int)])∧Hq (aB wx b15 65 #[.int .i64 2,.int .i64 y])∧Hq (Below wr.heap.size wr wx)∧wr.heap.size≤b14∧wr.heap.size≤b15)
     case first=>
      have e1:¬g6=wr.heap.size:=qo;have e2:¬g6=wr.heap.size+1:=qo
      go_region_held3 (fun w'=>w'.cell? ⟨g6,m*2,none⟩=some (.int .i64 1)∧w'.cell? ⟨g6,m*2+1,none⟩=some (.int .i64 (i:Int))∧w'.cell? ⟨g6,(m+1)*2,none⟩=some (.int .i64 2)∧w'.cell? ⟨g6,(m+1)*2+1,none⟩=some (.int .i64 y)) (go_keep) (fail)
      all_goals
       go_wp2_with fail
       go_meet
       first
        |exact⟨_,_,rfl,rfl,rfl,qh ((aB.at_ _ _ _ qj).alloc _),qh (aB.at_ _ _ _ qj),qh (((Below.drewN' (Below.refl wr.heap.size wr) _).alloc qj _).alloc qj _),by simp,by simp⟩
        |exact⟨_,_,rfl,rfl,rfl,qh (aB.at_ _ _ _ qj),qh ((aB.at_ _ _ _ qj).alloc _),qh (((Below.drewN' (Below.refl wr.heap.size wr) _).alloc qj _).alloc qj _),by simp,by simp⟩
     case rest=>
      obtain⟨b14,b15,rfl,rfl,rfl,gN,gM,GJ,Sm,Sl⟩:=hcut;have JD:=qh ((aR.o.trans (jX.o.mono aR.o.size)).trans (GJ.o.mono (Nat.le_trans aR.o.size jX.o.size)));have hz1:w.heap.size≤wr.heap.size:=Nat.le_trans aR.o.size jX.o.size;have HOc:=qh (own_below (own_below bP.o jX.o) GJ.o);have N7:=qh ((AZ.o.below jX.o).below GJ.o);have xB:=qh (HM.o.below JD.o);have nP:=qh (fun b (hb:u5.ownBlock=some b)=>(show w.heap.size≤b∧b<wr.heap.size from⟨(bP.o.lt b hb).1,Nat.lt_of_lt_of_le (bP.o.lt b hb).2 jX.o.size⟩));obtain⟨gL,OL⟩:=qx (bO a 1);obtain⟨gR,hgR⟩:=qx (bO a 2);obtain⟨oL,WV⟩:∃g,g=((i:Int):Int).toNat:=⟨_,rfl⟩;obtain⟨oR,WU⟩:∃g,g=(y:Int).toNat:=⟨_,rfl⟩;obtain⟨AL,cL,Le⟩:=(xB.o.lU (b:=1) (x:=(i:Int)) qo qo).form;obtain⟨AR,cR,Ld⟩:=(xB.o.lU (b:=2) (x:=y) qo qo).form;have OJ:=xB.o.dE (b:=1) (x:=(i:Int)) qo qo;have OI:=xB.o.dE (b:=2) (x:=y) qo qo;rw[Le,←OL,←WV,←Qd.o]at OJ;rw[Ld,←hgR,←WU,←iL.o]at OI;have Vf:=qh OJ;have Ve:=qh OI;have vT:=qh (World.block_lt_of_cell? wc _ OJ);have vS:=qh (World.block_lt_of_cell? wc _ OI);have MK:=fun(W:World) (h:Mem tg a s W)=>cG 1 (i:Int) h qo qo qo;have MJ:=fun(W:World) (h:Mem tg a s W)=>cG 2 y h qo qo qo;rw[←OL,←WV]at MK;rw[←hgR,←WU]at MJ;have L9:=qh MK;have ZZ:=qh MJ;have Vj:=qh (show gL<w.heap.size from by
       have h:=HM.o.dE (b:=1) (x:=(i:Int)) qo qo;rw[←OL]at h;exact World.block_lt_of_cell? w _ h)
      have Vg:=qh (show gR<w.heap.size from by
       have h:=HM.o.dE (b:=2) (x:=y) qo qo;rw[←hgR]at h;exact World.block_lt_of_cell? w _ h)
      have xH:=qh (fun W=>G4 (S:Int) FL FR 1 W qo qo qo);have Sq:FR*FL≤16:=Nat.le_trans (Nat.mul_le_mul r4 l4) qo;obtain⟨Q,hQ⟩:=qx (FR*FL);rw[←hQ]at xH Sq;have rO:=qh Sm;have xW:=qh Sl;have p0:wc.cell? ⟨b14,0,none⟩=some (.int .i64 1):=gN.o.cell 0;have p1:wc.cell? ⟨b14,1,none⟩=some (.int .i64 (i:Int)):=gN.o.cell 1;have p2:wc.cell? ⟨b15,0,none⟩=some (.int .i64 2):=gM.o.cell 0;have p3:wc.cell? ⟨b15,1,none⟩=some (.int .i64 y):=gM.o.cell 1;clear OL hgR WV WU Le Ld MK MJ hQ OJ OI;have p4:=Vf.o;have p5:=Ve.o
      go_upto_region 21 with(fail)
      go_cut [5,23]from 23 to 127 (fun s5 s23 wx=>s23=.int .i64 i∧∃A5 c5,s5=.slice A5 (N+Q) c5∧Hq (wx.ownsRow w.heap.size 91 6 (.slice A5 (N+Q) c5) (N+Q) (ints (T.fS s.W s.rk (-1) s.f s.k (i+1))))∧Hq (fO wx g6 L)∧Hq (aB wx b14 65 #[.int .i64 1,.int .i64 (i:Int)])∧Hq (aB wx b15 65 #[.int .i64 2,.int .i64 y])∧Hq (Below w.heap.size w wx)∧Hq (∀b,(Value.slice A5 (N+Q) c5).ownBlock=some b→b≠g6))
      case first=>
       go_region_held3 (fun w'=>w'.cell? ⟨b14,0,none⟩=some (.int .i64 1)∧w'.cell? ⟨b14,1,none⟩=some (.int .i64 (i:Int))∧w'.cell? ⟨b15,0,none⟩=some (.int .i64 2)∧w'.cell? ⟨b15,1,none⟩=some (.int .i64 y)∧w'.cell? ⟨gL,oL,none⟩=some (.slice AL FL cL)∧w'.cell? ⟨gR,oR,none⟩=some (.slice AR FR cR)) (go_keep)
        (first
         |(go_at_call_of 124 (Value.agg #[.int .i64 1,.int .i64 (i:Int)]);refine(L9.o _ (xB.o.below ((Below.refl wc.heap.size wc).drew))).mono ?_;rintro e w6 ⟨rfl,hb6⟩;have bG:Hq (Below wc.heap.size wc w6):=qh (((Below.refl wc.heap.size wc).drew).trans hb6);have q60:=aD bG.o gN.o.lt p0;have q61:=aD bG.o gN.o.lt p1;have q62:=aD bG.o gM.o.lt p2;have q63:=aD bG.o gM.o.lt p3;have q64:=aD bG.o vT.o p4;have q65:=aD bG.o vS.o p5;clear hb6)
         |(go_at_call_of 124 (Value.agg #[.int .i64 2,.int .i64 y]);refine(ZZ.o _ (xB.o.below ((Below.refl wc.heap.size wc).drew))).mono ?_;rintro e w6 ⟨rfl,hb6⟩;have bG:Hq (Below wc.heap.size wc w6):=qh (((Below.refl wc.heap.size wc).drew).trans hb6);have q60:=aD bG.o gN.o.lt p0;have q61:=aD bG.o gN.o.lt p1;have q62:=aD bG.o gM.o.lt p2;have q63:=aD bG.o gM.o.lt p3;have q64:=aD bG.o vT.o p4;have q65:=aD bG.o vS.o p5;clear hb6)
         |(go_at_call_of 124 (Value.agg #[.int .i64 1,.int .i64 (i:Int)]);refine(L9.o _ (xB.o.below bG.o)).mono ?_;rintro e w7 ⟨rfl,bQ⟩;have aS:Hq (Below wc.heap.size wc w7):=bG.st bQ;have q70:=aD aS.o gN.o.lt p0;have q71:=aD aS.o gN.o.lt p1;have q72:=aD aS.o gM.o.lt p2;have q73:=aD aS.o gM.o.lt p3;have q74:=aD aS.o vT.o p4;have q75:=aD aS.o vS.o p5;clear bQ)
         |(go_at_call_of 124 (Value.agg #[.int .i64 2,.int .i64 y]);refine(ZZ.o _ (xB.o.below bG.o)).mono ?_;rintro e w7 ⟨rfl,bQ⟩;have aS:Hq (Below wc.heap.size wc w7):=bG.st bQ;have q70:=aD aS.o gN.o.lt p0;have q71:=aD aS.o gN.o.lt p1;have q72:=aD aS.o gM.o.lt p2;have q73:=aD aS.o gM.o.lt p3;have q74:=aD aS.o vT.o p4;have q75:=aD aS.o vS.o p5;clear bQ)
         |(go_at_call 178;refine(xH.o w7).mono ?_;rintro e w8 ⟨v8,rfl,tJ,qC⟩;obtain⟨A8,c8,rfl⟩:=aF tJ;have eW:Hq (Below wc.heap.size wc w8):=aS.st qC;have PQ:=qh (own_below HOc.o eW.o);have KZ:=qh (rG tJ);have Pt:=qh (show(cE 1 (hJ (S:Int) FL FR)).length=Q*6 from(by have h:=tJ.1;simpa [ints]using h));have q80:=aD eW.o gN.o.lt p0;have q81:=aD eW.o gN.o.lt p1;have q82:=aD eW.o gM.o.lt p2;have q83:=aD eW.o gM.o.lt p3;have q84:=aD eW.o vT.o p4;have q85:=aD eW.o vS.o p5;clear tJ qC)
         |(refine NE w8 (by rfl) (.tmp 100) (.tmp 116) _ (by rfl) w.heap.size 91 i0 _ 6 48 Tryz.underlying49 hi iz is ib rfl qo u5 N _ (by rfl) PQ.o A8 Q c8 _ (by rfl) KZ.o (fun j=>rfl) qm qo (Nat.le_trans JD.o.size eW.o.size) ?_;intro v9 w9 EZ X0 X8;obtain⟨A9,c9,rfl⟩:=aF EZ;have Z7:=qh EZ;have pR:=qh X0;have Aj:=qh X8;have q90:=(pR.o.cells (Nat.lt_of_lt_of_le gN.o.lt eW.o.size) (fun e=>(by have h1:=nP.o _ e;have h2:=rO.o;omega)) 0).trans q80;have q91:=(pR.o.cells (Nat.lt_of_lt_of_le gN.o.lt eW.o.size) (fun e=>(by have h1:=nP.o _ e;have h2:=rO.o;omega)) 1).trans q81;have q92:=(pR.o.cells (Nat.lt_of_lt_of_le gM.o.lt eW.o.size) (fun e=>(by have h1:=nP.o _ e;have h2:=xW.o;omega)) 0).trans q82;have q93:=(pR.o.cells (Nat.lt_of_lt_of_le gM.o.lt eW.o.size) (fun e=>(by have h1:=nP.o _ e;have h2:=xW.o;omega)) 1).trans q83;have q94:=(pR.o.cells (Nat.lt_of_lt_of_le vT.o eW.o.size) (fun e=>(by have h1:=nP.o _ e;have h2:=Vj.o;omega)) oL).trans q84;have q95:=(pR.o.cells (Nat.lt_of_lt_of_le vS.o eW.o.size) (fun e=>(by have h1:=nP.o _ e;have h2:=Vg.o;omega)) oR).trans q85;clear EZ X0 X8))
       all_goals
        rename_i hHeld
        clear hHeld
        go_wp2_with fail
        go_meet
        exact⟨rfl,A9,c9,rfl,qh (by
         have h:=Z7.o;rw[lX _ _ Pt.o,←aT]at h;rw[bN.o,HI.o];exact h),qh ((N7.o.below eW.o).blk (pR.o.block g6 (N7.o.below eW.o).l (mE.o g6 · rfl)) pR.o.size),qh ((gN.o.below eW.o gN.o.lt).fr pR.o fun e=>by have h1:=nP.o _ e;have h2:=rO.o;omega),qh ((gM.o.below eW.o gM.o.lt).fr pR.o fun e=>by have h1:=nP.o _ e;have h2:=xW.o;omega),qh ((JD.o.trans (eW.o.mono JD.o.size)).trans (pR.o.below (Nat.le_trans JD.o.size eW.o.size) fun b hb=>(nP.o b hb).1)),qh fun b hb e=>by
         rcases Aj.o with h|h
         ·rw[h]at hb
          exact mE.o b hb e
         ·rw[h]at hb
          injection hb with hb;have h1:=(N7.o.below eW.o).l;have hb:w8.heap.size=b:=hb;omega⟩
      case rest=>
       obtain⟨rfl,A5,c5,rfl,HOd,N6,PX,PW,JC,ZA⟩:=hcut;have Um:=qh (show w.heap.size≤g6 from Nat.le_of_lt PY.o);have r0:wc.cell? ⟨b14,0,none⟩=some (.int .i64 1):=PX.o.cell 0;have r1:wc.cell? ⟨b14,1,none⟩=some (.int .i64 (i:Int)):=PX.o.cell 1;have r2:wc.cell? ⟨b15,0,none⟩=some (.int .i64 2):=PW.o.cell 0;have r3:wc.cell? ⟨b15,1,none⟩=some (.int .i64 y):=PW.o.cell 1;obtain⟨_,f0,f1⟩:=N6.o.cells Pw.o;obtain⟨_,f2,f3⟩:=N6.o.cells Pv.o;have e1:¬b14=g6:=qo;have e2:¬b15=g6:=qo;have Z4:=qh (show fO wc g6 (P++(1,(i:Int))::(2,y)::R)from by rw[←sC.o];exact N6.o);have Vb:=qh (show(T.lC s.W s.rk (i+1)).length=n6 from by
        rw[xG.o,←jG.o,sC.o]
        simp)
       clear p0 p1 p2 p3 p4 p5
       go_upto_region 22 with(fail)
       go_region_held3 (fun w'=>w'.cell? ⟨b14,0,none⟩=some (.int .i64 1)∧w'.cell? ⟨b14,1,none⟩=some (.int .i64 (i:Int))∧w'.cell? ⟨b15,0,none⟩=some (.int .i64 2)∧w'.cell? ⟨b15,1,none⟩=some (.int .i64 y)) (first|exact⟨r0,r1,r2,r3⟩|exact⟨st2 r0 e1,st2 r1 e1,st2 r2 e2,st2 r3 e2⟩|exact⟨st2 (st2 r0 e1) e1,st2 (st2 r1 e1) e1,st2 (st2 r2 e2) e2,st2 (st2 r3 e2) e2⟩) (fail)
       all_goals
        rename_i hHeld
        clear hHeld
        go_wp2_with fail
        go_roundw
        case rel=>exact⟨i+1,N+Q,dC.o,qg,by omega,qh (Iw HOd.o ZA.o _ _ _ _ _ _ _ _),qh (by
         rw[xG.o]
         first
          |exact(S4 Z4.o HKK.o).drew
          |exact(S3 Z4.o HKK.o).drew),Vb,qh (YC JC.o Um.o _ _ _ _ _ _ _ _),ZA⟩
        case measure=>exact qs
  ·have HI:=qh (show T.nW s.W s.rk (-1) s.f s.k i=[]from by
    unfold T.nW;rw[if_neg qo,if_neg (by rw[←hy];exact hin)])
   obtain⟨P,R,e0,e1,e2,e3⟩:=T.aa8 (r:=s.rk) hlt (by rw[←hy];exact hin);rw[←hL]at e0;rw[←hy]at e3;have xG:=qh e1;have hix:=vV (L:=L) (c:=c6) e0 e2 B3.o.rd (by rw[jG.o];omega);rw[jG.o]at hix;have JA:=qh hix;have sC:=qh e0;have nC:=qh e3;clear e0 e1 e2 e3 hin hL hy;clear hix
   go_wp2_with fail
   refine JA.o.mono ?_;rintro e w3 ⟨rfl,hb3⟩;have HB3:=HB2.st hb3;have bS:=qh (own_below aH.o hb3);have pI:=qh (B3.o.below hb3);have BH:=qh (FU.o.below hb3 FU.o.lt);have k0:w3.cell? ⟨wr.heap.size+1,0,none⟩=some (.int .i64 2):=BH.o.cell 0;have k1:w3.cell? ⟨wr.heap.size+1,1,none⟩=some (.int .i64 y):=BH.o.cell 1;clear hb3 JA f0 f1 n1;obtain⟨K,hK⟩:=qx (P.length);rw[←hK];have yA:L[K]?=some ((1,(i:Int)):T.eV):=by
    rw[sC.o,hK]
    simp
   have hlt1:K<n6:=by
    rw[←jG.o];exact(List.getElem?_eq_some_iff.1 yA).1
   obtain⟨⟨r0,r1⟩,_⟩:=pI.o.cells yA;have r0:w3.cell? ⟨g6,K*2,none⟩=some (.int .i64 1):=r0;have r1:w3.cell? ⟨g6,K*2+1,none⟩=some (.int .i64 i):=r1;have rA:=fun W=>(wI 1 i 2 y W).trans (by rw[decide_eq_false qj]);have b0:decide ((K:Int)<0)=false:=decide_eq_false qo;have z2:IntKind.i64.wrap ((K:Int)+1)=(K:Int)+1:=IntWalk.i64_in _ qo;have b3:(K:Int)<(n6:Int):=qo;have b5:(0:Int)≤(K:Int)+1:=qo;have b6:(0:Int)≤(K:Int):=qo
   rcases R with _|⟨m,R⟩
   ·have hn:n6=K+1:=by
     rw[←jG.o,sC.o,hK]
     simp
    have b1:decide ((n6:Int)≤(K:Int)+1)=true:=decide_eq_true qo;clear hK yA hn
    exact zQ38x0
   ·have wP:L[K+1]?=some m:=by
     rw[sC.o,hK,List.getElem?_append_right qo]
     simp
    have PT:=qh (show m≠(2,y)from nC.o m qj);have hlt2:K+1<n6:=by
     rw[←jG.o];exact(List.getElem?_eq_some_iff.1 wP).1
    obtain⟨⟨t0,t1⟩,_⟩:=pI.o.cells wP;obtain⟨mb,ma⟩:=m;have t0:w3.cell? ⟨g6,(K+1)*2,none⟩=some (.int .i64 mb):=t0;have t1:w3.cell? ⟨g6,(K+1)*2+1,none⟩=some (.int .i64 ma):=t1;have eS:=fun W=>(wI mb ma 2 y W).trans (by rw[decide_eq_false PT.o]);have b1:decide ((n6:Int)≤(K:Int)+1)=false:=decide_eq_false qo;have b4:(K:Int)+1<(n6:Int):=qo;clear hK yA wP
    exact zQ38x0
end
end Go.Proofs.YtdnmhhohcedjbaaGreat
