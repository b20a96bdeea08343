/- Walks and plain lemmas. -/
import Derived.Test.YtmnbgjnipbpiaaaGreatP26
set_option linter.unusedVariables false
set_option linter.unusedSimpArgs false
set_option maxHeartbeats 8000000
set_option maxRecDepth 20000
namespace Go.Proofs.YtmnbgjnipbpiaaaGreat
open Go.RowKit
theorem zU {k p c b y d n:Int}(h:bE k p c b y d n=true): -1≤c∧c≤4:=by
 unfold bE at h
 by_cases hp:p<0
 ·rw[if_pos hp]at h;cases h
 rw[if_neg hp]at h
 by_cases h1:k=1
 ·rw[if_pos h1]at h;simp at h;omega
 rw[if_neg h1]at h
 by_cases h2:k=2
 ·rw[if_pos h2]at h;simp[aC]at h;omega
 rw[if_neg h2]at h
 by_cases h3:k=3
 ·rw[if_pos h3]at h;simp at h;omega
 rw[if_neg h3]at h
 by_cases h4:k=4
 ·rw[if_pos h4]at h;simp[aC]at h;omega
 rw[if_neg h4]at h
 by_cases h5:k=5
 ·rw[if_pos h5]at h;simp[aC]at h;omega
 rw[if_neg h5]at h
 cases h
theorem z6 (z:Nat→Int)(k:Nat):(jY z k).length≤k:=by
 induction k with
 |zero=>exact Nat.le_refl _
 |succ k ih=>
  simp only[jY]
  split
  ·rw[List.length_append,List.length_singleton]
   omega
  ·exact Nat.zero_le _
theorem FR {z:Nat→Int}{N:Nat}(hv:(cnt z 0 N).isSome=true){k:Nat}(hk:k≤N):l5 (jY z k):=by
 induction k with
 |zero=>intro x hx;cases hx
 |succ k ih=>
  intro x hx
  simp only[jY]at hx
  by_cases h:z (k*6)=1
  ·rw[if_pos h]at hx
   rcases List.mem_append.1 hx with hx|hx
   ·exact ih qo x hx
   ·have h1:=vC hv (show k<N by omega)
    have h2:=h1.1;rw[h]at h2;obtain⟨p0,p1,p2⟩:=jJ h2;rw[List.mem_singleton.1 hx];have h3:=t7 (c:=z (k*6+2)) (x:=z (k*6+1)+1) p2 qo;unfold oA;omega
  ·rw[if_neg h]at hx
   cases hx
theorem BB {B n:Nat}{w:World}{e:TypeId}{v:Value}{xs:List Value}(h:w.ownsRow B e 3 v (n+1) xs):∃g c,v=.slice (some ⟨g,0,none⟩) (n+1) c:=by
 rcases h.2 with⟨_,h1⟩|⟨g,cap,_,e,_⟩
 ·omega
 ·exact⟨g,cap,e⟩
theorem zY (A:OA)(N c:Nat)(z:Nat→Int)(w:World)(ha:Rd w A (N*6) (fun j=>.int .i64 (z j)))(hN:N≤2000)(hv:(cnt z 0 N).isSome=true):
 Calls Tryz.prog 78 #[.slice A N c] w (K8 w (cA z N)):=by
 obtain⟨i0,hi,iz,is,ib⟩:=info_parts info64;obtain⟨j0,hj0,jz,js,jb⟩:=info_parts xY;obtain⟨k0,hk0,kz,ks,kb⟩:=info_parts xX;have HA:=qh ha;have HV:=qh hv;have CW:=qh ((jK w).below ((Below.refl _ _).alloc ql (.cells #[] 2)));have oY:=qh (jK w);have HB1:=qh (((Below.refl w.heap.size w).alloc ql (.cells #[.int .i64 0,.slice none 0 0,.slice none 0 0] 78)).alloc qj (.cells #[] 2));have HW1:=qh (World.ownsRow_made (base:=w.heap.size) (e:=2) (size:=1) (w.alloc (.cells #[.int .i64 0,.slice none 0 0,.slice none 0 0] 78)) #[] 0 qj qm rfl);clear ha hv
 go_enter Tryz.func78,Tryz.ntmps78
 go_wp2_with fail
 go_loopw [4,5,6,7,8] (fun ov nv wv x _ wr=>∃(k:Nat) (o:List aF) (d:aV) (A4:OA) (c4:Nat) (nI:Int),k≤N+1∧x=.int .i64 k∧ov=.slice A4 o.length c4∧nv=.int .i64 nI∧Hq (k≤N→cG z k=some o∧nI=bC z k∧wr.ownsRow w.heap.size 2 1 wv (jY z k).length (ints (jY z k))∧∀x,wv.ownBlock=some x→¬kJ (.slice A4 o.length c4) o d x)∧Hq (k=N+1→cA z N=some o)∧Hq (cB w.heap.size (.slice A4 o.length c4) o d wr)∧1≤o.length∧o.length≤60∧Hq (Below w.heap.size w wr)) (fun _ _ _ x _ _=>N+2-(intOf x).toNat)
 case atStart=>exact⟨0,[(0,[],[])],_,_,_,0,by omega,rfl,rfl,rfl,qh (fun _=>⟨rfl,rfl,by have h:=HW1.o;simp only[World.size_alloc]at h;exact h,fun x hx hi=>by
  have h1:=oY.o.jS (Nat.zero_lt_one) hi;injection hx with hx;rw[World.size_alloc]at h1
  simp at hx
  omega⟩),qh (fun h=>by omega),CW,by simp,by simp,HB1⟩
 case round=>
  clear CW oY HB1 HW1;obtain⟨k,o,d,A4,c4,nI,hk,rfl,rfl,rfl,dM,ML,HM,hlo1,rY,HB⟩:=hrel
  by_cases hkN:k≤N
  case neg=>
   obtain rfl:k=N+1:=qo;have b0:¬((N+1:Nat):Int)≤(N:Int):=qo;have FG:=qh (ML.o rfl)
   go_wp2_with fail
   go_ret2
   exact⟨HB.o,by rw[FG.o];exact⟨A4,c4,d,rfl,HM.o⟩⟩
  obtain⟨ht0,rfl,hw0,hs0⟩:=dM.o hkN;have HT:=qh ht0;have eW:=qh hw0;have eX:=qh hs0;clear ht0 hw0 hs0 dM ML;have kP:=qh (gQ HV.o hkN);have hwl:=z6 z k;have hH:=qh (kS HV.o hkN);have FB:=qh (FR HV.o hkN);have lF:=qh (FQ z k);have p5:=qh (fun x hx=>HM.o.jS (by omega:0<o.length) (x:=x) hx);have b0:(k:Int)≤(N:Int):=qo;have b1:(0:Int)≤(k:Int):=qo
  by_cases hlt:k<N
  ·obtain⟨ga,off,rfl,hg,hr⟩:=HA.o qo
   have r0:=a7 HB.o hg (hr (k*6) qo);have r1:=a7 HB.o hg (hr (k*6+1) qo);have r2:=a7 HB.o hg (hr (k*6+2) qo);have r3:=a7 HB.o hg (hr (k*6+3) qo);have r4:=a7 HB.o hg (hr (k*6+4) qo);have r5:=a7 HB.o hg (hr (k*6+5) qo);have dS:=qh (vC HV.o hlt);have iB:=qh (show oA z k=z (k*6+2)*(z (k*6+1)+1)from rfl);have iY:=qh (show jY z (k+1)=if z (k*6)=1 then jY z k++[oA z k]else []from rfl);have fB:=qh (show cG z (k+1)=if z (k*6)=1 then cG z k else(cG z k).bind fun o=>(flush (bC z k) (dC z k) o).map fun o'=>aR o' (eQ z k)from rfl);have nJ:=qh (show eQ z k=[z (k*6),z (k*6+1),z (k*6+2),z (k*6+3),z (k*6+4),z (k*6+5)]from rfl);have HST:=qh (vH HT.o);rw[HT.o]at fB;obtain⟨z0,hz0⟩:=qx (z (k*6));obtain⟨z1,hz1⟩:=qx (z (k*6+1));obtain⟨z2,hz2⟩:=qx (z (k*6+2));obtain⟨z3,hz3⟩:=qx (z (k*6+3));obtain⟨z4,eA⟩:=qx (z (k*6+4));obtain⟨z5,gV⟩:=qx (z (k*6+5))
   simp only[←hz0,←Nat.add_assoc]at r0
   simp only[←hz1,←Nat.add_assoc]at r1
   simp only[←hz2,←Nat.add_assoc]at r2
   simp only[←hz3,←Nat.add_assoc]at r3
   simp only[←eA,←Nat.add_assoc]at r4
   simp only[←gV,←Nat.add_assoc]at r5
   rw[←hz0,←hz1,←hz2,←hz3,←eA,←gV]at dS nJ;rw[←hz1,←hz2]at iB;rw[←hz0]at iY fB;clear hr hz0 hz1 hz2 hz3 eA gV;obtain⟨n,hn⟩:=qx (bC z k);obtain⟨L,hL⟩:=qx (dC z k);obtain⟨R,hR⟩:=qx (jY z k);rw[←hn]at dS fB kP hH ⊢;rw[←hL]at fB hH lF;rw[←hR]at iY eW hwl FB lF;clear hn hL hR;have hcn:=kP.o;have hgw:ga<wr.heap.size:=Nat.lt_of_lt_of_le hg HB.o.size;have b2:(k:Int)<(N:Int):=qo
   by_cases hc1:z0=1
   ·subst hc1
    obtain⟨p0,p1,p2⟩:=jJ dS.o.1;obtain⟨s1,s2,s3⟩:=t7 (c:=z2) (x:=z1+1) p2 qo;have s0:IntKind.i64.wrap (z1+1)=z1+1:=IntWalk.i64_in _ qo;rw[if_pos rfl,iB.o]at iY;rw[if_pos rfl]at fB;have kQ:=qh (show bC z (k+1)=n by rw[dS.o.2.1];simp[aH])
    go_wp2_with fail
    refine aW (S:=fun w'=>w'.cell? ⟨ga,off+k*6+1,none⟩=some (.int .i64 z1)∧w'.cell? ⟨ga,off+k*6+2,none⟩=some (.int .i64 z2)) _ qj qk qk ⟨r1,r2⟩ (fun hHeld=>?_)
    simp only[List.dropLast,List.getLast_cons_cons,List.getLast_singleton,List.length_cons,List.length_nil]
    refine qt 0 hHeld ?_;refine qt 1 hHeld ?_;refine qt 2 hHeld ?_;refine qt 3 hHeld ?_;refine qt 4 hHeld ?_;refine qt 5 hHeld ?_;refine qt 6 hHeld ?_;refine qt 7 hHeld ?_;refine qt 8 hHeld ?_;refine qt 9 hHeld ?_;refine qt 10 hHeld ?_;refine qt 11 hHeld ?_;refine qt 12 hHeld ?_
    simp only[List.getElem_toArray,List.getElem_cons_succ,List.getElem_cons_zero,Act.put,List.setIfInBounds_toArray,List.set_cons_zero,List.set_cons_succ]
    refine wpAnyH_ready (rs:=[13]) qk qj ?_;refine AllReadyH.cons rfl (fun K hK=>?_) AllReadyH.nil
    simp only[List.getElem_toArray,List.getElem_cons_succ,List.getElem_cons_zero]
    go_simp
    refine hK.out _ _ (by go_keep) (fun bW=>?_);clear hK K hHeld;refine wpAnyH_ready (rs:=[14]) qk qj ?_;refine AllReadyH.cons rfl (fun K hK=>?_) AllReadyH.nil
    simp only[List.getElem_toArray,List.getElem_cons_succ,List.getElem_cons_zero]
    refine cR wr.drew (by rfl) (.tmp 30) (.tmp 43) _ (by rfl) w.heap.size 2 i0 _ 1 8 Tryz.underlying74 hi iz is ib rfl qo u6 R.length (ints R) (by rfl) (own_drewN eW.o 1) _ 1 1 [.int .i64 (z2*(z1+1))] (by rfl) rfl (by simp[Value.oneCell']) qm qo HB.o.size ?_;intro v8 w8 aZ a8 cN;obtain⟨A8,c8,rfl⟩:=aD aZ;have JC:=qh aZ;have JI:=qh ((HM.o.drewN 1).fr qo a8 (fun x hx he=>eX.o x he hx));have kR:=qh (HB.o.drew.trans (a8.own (w:=wr.drew) (own_drewN eW.o 1) HB.o.size));have J4:=qh (show∀x,(Value.slice A8 (R.length+1) c8).ownBlock=some x→¬kJ (.slice A4 o.length c4) o d x from fun x hx hi=>by
     rcases cN with h1|h1
     ·exact eX.o x (h1.symm.trans hx) hi
     ·rw[h1]at hx
      injection hx with hx;have h2:=p5.o x hi;have h3:wr.drew.heap.size=wr.heap.size:=rfl;omega)
    have hag:¬u6.ownBlock=some ga:=fun e=>by
     have:=(eW.o.lt ga e).1;omega
    have q1:=(a8.cells (g:=ga) hgw hag (off+k*6+1)).trans r1;have q2:=(a8.cells (g:=ga) hgw hag (off+k*6+2)).trans r2;refine hK.out _ _ ⟨q1,q2⟩ (fun aN=>?_);clear hK K bW;refine wpAnyH_done qk ?_ _;refine b8.of ?_
    go_simp
    clear aN q1 q2 a8 aZ cN
    go_wp2_with fail
    go_roundw
    case rel=>exact⟨k+1,o,d,A4,c4,n,by omega,qg,rfl,rfl,qh (fun _=>⟨fB.o,kQ.o.symm,by rw[iY.o,dI,List.length_append];exact JC.o,J4.o⟩),qh (fun h=>by omega),JI,hlo1,rY,kR⟩
    case measure=>exact qs
   ·have htn:=fB.o.trans (if_neg hc1)
    rw[Option.bind_some]at htn;have l7:=qh htn;have pW:=qh (iY.o.trans (if_neg hc1));have hcb:(z0==1)=false:=by rw[beq_eq_false_iff_ne];exact hc1
    clear htn iY fB iB;obtain⟨A6,c6,rfl⟩:=aD eW.o;have fM:=qh (n3 R A6 c6 wr (bI eW.o) qo FB.o);rw[lF.o]at fM
    go_wp2_with fail
    refine fM.o.mono ?_;rintro e w1 h1;obtain⟨A7,c7,rfl,lX,eP,aY⟩:=h1.rd;have fF:=HB.st aY;have r7:=qh (HM.o.below aY);have gD:=qh eP;have yO:=qh (show∀x,(Value.slice A7 L.length c7).ownBlock=some x→¬kJ (.slice A4 o.length c4) o d x from fun x hx hi=>by
     have h1:=(lX.lt x hx).1;have h2:=p5.o x hi;omega)
    have JO:=qh (show∀x,(Value.slice A7 L.length c7).ownBlock=some x→w.heap.size≤x from fun x hx=>Nat.le_trans HB.o.size (lX.lt x hx).1);have tN:L.length≤R.length:=by have:=G.fQ R;rw[lF.o]at this;exact this
    have oG:wr.heap.size≤w1.heap.size:=aY.size;have q0:=a7 aY hgw r0;have q1:=a7 aY hgw r1;have q2:=a7 aY hgw r2;have q3:=a7 aY hgw r3;have q4:=a7 aY hgw r4;have q5:=a7 aY hgw r5;clear r0 r1 r2 r3 r4 r5;clear h1 lX eP aY fM HM eW HB eX
    by_cases hlen:40<L.length
    ·have bX:=qh (show cA z N=none from vJ (j:=k+1) hlt (by rw[l7.o];unfold flush;rw[if_pos hlen];rfl))
     have hl2:(40:Int)<(L.length:Int):=qo
     go_wp2_with fail
     go_ret2
     exact⟨fF.o,by rw[bX.o];rfl⟩
    have hl2:¬(40:Int)<(L.length:Int):=qo;obtain⟨nn,rfl⟩:∃nn:Nat,n=nn:=⟨n.toNat,(Int.toNat_of_nonneg kP.o.1).symm⟩
    by_cases hL0:L.length=0
    ·have ht:triv nn L=true:=by rw[List.length_eq_zero_iff.1 hL0];exact sH nn
     have b7:¬(0:Int)<(L.length:Int):=qo;have mH:=qh (show∀b∈o,b.2.2.length≤k*6 from HST.o);have cJ:=qh (show flush nn L o=some o by unfold flush;rw[if_neg hlen];exact if_pos ht);obtain⟨wy,tF⟩:=qx (w1);subst tF;obtain⟨o1,ho1⟩:=qx (o);subst ho1;obtain⟨d1,hd1⟩:=qx (d);subst hd1;have cZ:=r7;have cI:=fF;clear r7 fF gD yO;have HT1:=qh (show cG z (k+1)=some (aR o1 (eQ z k))by rw[l7.o,cJ.o];rfl);obtain⟨q,hq⟩:∃q,o1.length=q+1:=⟨o1.length-1,by omega⟩;obtain⟨b,hb⟩:∃b,o1[q]?=some b:=⟨_,List.getElem?_eq_getElem qo⟩;have iC:=qh (show o1.getLast?=some b by rw[List.getLast?_eq_getElem?,hq];exact hb);obtain⟨g5,c5,hv5,hg5,jT⟩:=cZ.o.form qo;injection hv5 with hv5 hv6 lC;clear hv6;subst hv5 lC;obtain⟨_,_,m2⟩:=kH cZ.o hb;have b4:(0:Int)≤(q:Int):=qo;have b5:(q:Int)<((q+1:Nat):Int):=qo;have e7:((q+1:Nat):Int)-1=(q:Int):=qo;have fL:ga<wy.heap.size:=World.block_lt_of_cell? wy _ q0;rw[hq]
     go_wp2_with fail
     refine aW (S:=fun w'=>w'.cell? ⟨g5,q*3+2,none⟩=some (.slice (d1.S q) (d1.m q) (d1.cs q))∧w'.cell? ⟨ga,off+k*6,none⟩=some (.int .i64 z0)∧w'.cell? ⟨ga,off+k*6+1,none⟩=some (.int .i64 z1)∧w'.cell? ⟨ga,off+k*6+2,none⟩=some (.int .i64 z2)∧w'.cell? ⟨ga,off+k*6+3,none⟩=some (.int .i64 z3)∧w'.cell? ⟨ga,off+k*6+4,none⟩=some (.int .i64 z4)∧w'.cell? ⟨ga,off+k*6+5,none⟩=some (.int .i64 z5)) _ qj qk qk ⟨m2,q0,q1,q2,q3,q4,q5⟩ (fun hHeld=>?_)
     simp only[List.dropLast,List.getLast_cons_cons,List.getLast_singleton,List.length_cons,List.length_nil]
     refine qt 0 hHeld ?_;refine qt 1 hHeld ?_;refine qt 2 hHeld ?_;refine qt 3 hHeld ?_;refine qt 4 hHeld ?_;refine qt 5 hHeld ?_;refine qt 6 hHeld ?_;refine qt 7 hHeld ?_;refine qt 8 hHeld ?_
     simp only[List.getElem_toArray,List.getElem_cons_succ,List.getElem_cons_zero,Act.put,List.setIfInBounds_toArray,List.set_cons_zero,List.set_cons_succ]
     refine wpAnyH_ready (rs:=[9]) qk qj ?_;refine AllReadyH.cons rfl (fun K hK=>?_) AllReadyH.nil
     simp only[List.getElem_toArray,List.getElem_cons_succ,List.getElem_cons_zero]
     go_simp
     refine hK.out _ _ (by go_keep) (fun bW=>?_);clear hK K hHeld;refine wpAnyH_ready (rs:=[10]) qk qj ?_;refine AllReadyH.cons rfl (fun K hK=>?_) AllReadyH.nil
     simp only[List.getElem_toArray,List.getElem_cons_succ,List.getElem_cons_zero]
     have hlo1:=cZ.o.lo b iC.o;have hq2:o1.length-1=q:=qo;have hlv:bB o1.length d1=.slice (d1.S q) (d1.m q) (d1.cs q):=by unfold bB;rw[hq2]
     rw[hlv,hq2]at hlo1;have F6:d1.m q≤3000:=by
      have h1:=cZ.o.ln q b hb;have h2:=mH.o b (List.mem_of_getElem? hb);omega
     refine cR wy.drew (by rfl) (.tmp 82) (.tmp 87) _ (by rfl) w.heap.size 52 k0 _ 6 48 Tryz.underlying31 hk0 kz ks kb rfl qo (.slice (d1.S q) (d1.m q) (d1.cs q)) (d1.m q) (ints b.2.2) (by rfl) hlo1 _ 1 1 [.int .i64 z0,.int .i64 z1,.int .i64 z2,.int .i64 z3,.int .i64 z4,.int .i64 z5] (by rfl) rfl (by simp[Value.oneCell']) qm qo cI.o.size ?_;intro v8 w8 aZ a8 cN;obtain⟨A8,c8,rfl⟩:=aD aZ;have hl5:¬(Value.slice (d1.S q) (d1.m q) (d1.cs q)).ownBlock=some g5:=fun e=>cZ.o.lv g5 rfl (by rw[hlv];exact e);have fK:¬(Value.slice (d1.S q) (d1.m q) (d1.cs q)).ownBlock=some ga:=fun e=>by
      have:=(hlo1.lt ga e).1;omega
     have u2:=(a8.cells (g:=g5) jT hl5 (q*3+2)).trans m2;have v0:=(a8.cells (g:=ga) fL fK (off+k*6)).trans q0;have v1:=(a8.cells (g:=ga) fL fK (off+k*6+1)).trans q1;have v2:=(a8.cells (g:=ga) fL fK (off+k*6+2)).trans q2;have v3:=(a8.cells (g:=ga) fL fK (off+k*6+3)).trans q3;have v4:=(a8.cells (g:=ga) fL fK (off+k*6+4)).trans q4;have v5:=(a8.cells (g:=ga) fL fK (off+k*6+5)).trans q5;have f5:w8.frozen? ⟨g5,q*3+2,none⟩=false:=(World.frozen?_of_block (w:=wy.drew) (a:=⟨g5,q*3+2,none⟩) (a8.block g5 jT hl5)).trans (cZ.o.own.frozenAt (q*3+2));refine hK.out _ _ ⟨u2,v0,v1,v2,v3,v4,v5⟩ (fun aN=>?_);clear hK K bW;have hZ:=qh ((cZ.o.drewN 1).add iC.o (A':=A8) (c':=c8) (s:=[z0,z1,z2,z3,z4,z5]) rfl (by rw[hq2];exact aZ) (by rw[hlv];exact a8) (by rw[hlv,hq2];exact cN));rw[hq2]at hZ;have j7:=qh (Below.setCell (p:=⟨g5,q*3+2,none⟩) (cI.o.drew.trans (a8.own (w:=wy.drew) hlo1 cI.o.size)) hg5 (.slice A8 (d1.m q+1) c8));refine qt 11 aN ?_;refine qt 12 aN ?_
     simp only[List.getElem_toArray,List.getElem_cons_succ,List.getElem_cons_zero,Act.put,List.setIfInBounds_toArray,List.set_cons_zero,List.set_cons_succ]
     refine wpAnyH_done qk ?_ _;refine b8.of ?_
     go_simp
     have dO:ga≠g5:=qo;have x0:(w8.setCell ⟨g5,q*3+2,none⟩ (.slice A8 (d1.m q+1) c8)).cell? ⟨ga,off+k*6,none⟩=some (.int .i64 z0):=(World.cell?_of_block (Below.heap_setCell w8 _ _ ga dO)).trans v0;have x1:(w8.setCell ⟨g5,q*3+2,none⟩ (.slice A8 (d1.m q+1) c8)).cell? ⟨ga,off+k*6+1,none⟩=some (.int .i64 z1):=(World.cell?_of_block (Below.heap_setCell w8 _ _ ga dO)).trans v1;have x2:(w8.setCell ⟨g5,q*3+2,none⟩ (.slice A8 (d1.m q+1) c8)).cell? ⟨ga,off+k*6+2,none⟩=some (.int .i64 z2):=(World.cell?_of_block (Below.heap_setCell w8 _ _ ga dO)).trans v2;have x3:(w8.setCell ⟨g5,q*3+2,none⟩ (.slice A8 (d1.m q+1) c8)).cell? ⟨ga,off+k*6+3,none⟩=some (.int .i64 z3):=(World.cell?_of_block (Below.heap_setCell w8 _ _ ga dO)).trans v3;have x4:(w8.setCell ⟨g5,q*3+2,none⟩ (.slice A8 (d1.m q+1) c8)).cell? ⟨ga,off+k*6+4,none⟩=some (.int .i64 z4):=(World.cell?_of_block (Below.heap_setCell w8 _ _ ga dO)).trans v4;have x5:(w8.setCell ⟨g5,q*3+2,none⟩ (.slice A8 (d1.m q+1) c8)).cell? ⟨ga,off+k*6+5,none⟩=some (.int .i64 z5):=(World.cell?_of_block (Below.heap_setCell w8 _ _ ga dO)).trans v5;clear aN v0 v1 v2 v3 v4 v5 u2 f5 a8 aZ cN hlo1 m2 q0 q1 q2 q3 q4 q5;obtain⟨w9,dJ⟩:=qx (w8.setCell ⟨g5,q*3+2,none⟩ (.slice A8 (d1.m q+1) c8));rw[←dJ]at hZ j7 x0 x1 x2 x3 x4 x5 ⊢;clear dJ;have hz2:=zU dS.o.1;have D9:=qh (h9 z0 z1 z2 z3 z4 z5 nn w9 qo qo)
     go_wp2_with fail
     refine D9.o.mono ?_;rintro e w10 ⟨rfl,cY⟩;have CV:=qh (hZ.o.below cY);have j6:=j7.st cY;clear cY
     go_wp2_with fail
     go_roundw
     case rel=>exact⟨k+1,aR o1 (eQ z k),d1.add q A8 c8,some ⟨g5,0,none⟩,c4,aH z0 z2 nn,by omega,qg,by rw[aI,hq],rfl,qh (fun _=>⟨HT1.o,dS.o.2.1.symm,by rw[pW.o];exact World.ownsRow_nil _ _ _ _,fun x hx=>by cases hx⟩),qh (fun h=>by omega),qh (by rw[aI,nJ.o];exact CV.o),by rw[aI];omega,by rw[aI];omega,j6⟩
     case measure=>exact qs
    have mD:=qh (show Calls Tryz.prog 100 #[.int .i64 nn,.slice A7 L.length c7,.slice none 0 0] w1 _ from kF (n:=nn) L [] A7 none c7 0 w1 gD.o (fun h0=>absurd h0 (Nat.lt_irrefl 0)) qo hH.o (fun x hx=>by cases hx) qo qj);have b7:(0:Int)<(L.length:Int):=qo
    go_wp2_with fail
    refine mD.o.mono ?_;rintro e w2 ⟨rfl,hb2⟩;rw[jD];have HB2:=fF.st hb2;have dR:=qh (r7.o.below hb2);have HR2:=qh (Rd.below gD.o hb2);have nR:ga<w1.heap.size:=World.block_lt_of_cell? w1 _ q0;replace q0:=a7 hb2 nR q0;replace q1:=a7 hb2 nR q1;replace q2:=a7 hb2 nR q2;replace q3:=a7 hb2 nR q3;replace q4:=a7 hb2 nR q4;replace q5:=a7 hb2 nR q5;clear hb2 mD fF r7 gD nR
    by_cases ht:triv nn L=true
    ·rw[ht]
     have mH:=qh (show∀b∈o,b.2.2.length≤k*6 from HST.o);have cJ:=qh (show flush nn L o=some o by unfold flush;rw[if_neg hlen];exact if_pos ht);obtain⟨wy,tF⟩:=qx (w2);subst tF;obtain⟨o1,ho1⟩:=qx (o);subst ho1;obtain⟨d1,hd1⟩:=qx (d);subst hd1;have cZ:=dR;have cI:=HB2;clear dR HB2 HR2 yO;have HT1:=qh (show cG z (k+1)=some (aR o1 (eQ z k))by rw[l7.o,cJ.o];rfl);obtain⟨q,hq⟩:∃q,o1.length=q+1:=⟨o1.length-1,by omega⟩;obtain⟨b,hb⟩:∃b,o1[q]?=some b:=⟨_,List.getElem?_eq_getElem qo⟩;have iC:=qh (show o1.getLast?=some b by rw[List.getLast?_eq_getElem?,hq];exact hb);obtain⟨g5,c5,hv5,hg5,jT⟩:=cZ.o.form qo;injection hv5 with hv5 hv6 lC;clear hv6;subst hv5 lC;obtain⟨_,_,m2⟩:=kH cZ.o hb;have b4:(0:Int)≤(q:Int):=qo;have b5:(q:Int)<((q+1:Nat):Int):=qo;have e7:((q+1:Nat):Int)-1=(q:Int):=qo;have fL:ga<wy.heap.size:=World.block_lt_of_cell? wy _ q0;rw[hq]
     go_wp2_with fail
     refine aW (S:=fun w'=>w'.cell? ⟨g5,q*3+2,none⟩=some (.slice (d1.S q) (d1.m q) (d1.cs q))∧w'.cell? ⟨ga,off+k*6,none⟩=some (.int .i64 z0)∧w'.cell? ⟨ga,off+k*6+1,none⟩=some (.int .i64 z1)∧w'.cell? ⟨ga,off+k*6+2,none⟩=some (.int .i64 z2)∧w'.cell? ⟨ga,off+k*6+3,none⟩=some (.int .i64 z3)∧w'.cell? ⟨ga,off+k*6+4,none⟩=some (.int .i64 z4)∧w'.cell? ⟨ga,off+k*6+5,none⟩=some (.int .i64 z5)) _ qj qk qk ⟨m2,q0,q1,q2,q3,q4,q5⟩ (fun hHeld=>?_)
     simp only[List.dropLast,List.getLast_cons_cons,List.getLast_singleton,List.length_cons,List.length_nil]
     refine qt 0 hHeld ?_;refine qt 1 hHeld ?_;refine qt 2 hHeld ?_;refine qt 3 hHeld ?_;refine qt 4 hHeld ?_;refine qt 5 hHeld ?_;refine qt 6 hHeld ?_;refine qt 7 hHeld ?_;refine qt 8 hHeld ?_
     simp only[List.getElem_toArray,List.getElem_cons_succ,List.getElem_cons_zero,Act.put,List.setIfInBounds_toArray,List.set_cons_zero,List.set_cons_succ]
     refine wpAnyH_ready (rs:=[9]) qk qj ?_;refine AllReadyH.cons rfl (fun K hK=>?_) AllReadyH.nil
     simp only[List.getElem_toArray,List.getElem_cons_succ,List.getElem_cons_zero]
     go_simp
     refine hK.out _ _ (by go_keep) (fun bW=>?_);clear hK K hHeld;refine wpAnyH_ready (rs:=[10]) qk qj ?_;refine AllReadyH.cons rfl (fun K hK=>?_) AllReadyH.nil
     simp only[List.getElem_toArray,List.getElem_cons_succ,List.getElem_cons_zero]
     have hlo1:=cZ.o.lo b iC.o;have hq2:o1.length-1=q:=qo;have hlv:bB o1.length d1=.slice (d1.S q) (d1.m q) (d1.cs q):=by unfold bB;rw[hq2]
     rw[hlv,hq2]at hlo1;have F6:d1.m q≤3000:=by
      have h1:=cZ.o.ln q b hb;have h2:=mH.o b (List.mem_of_getElem? hb);omega
     refine cR wy.drew (by rfl) (.tmp 82) (.tmp 87) _ (by rfl) w.heap.size 52 k0 _ 6 48 Tryz.underlying31 hk0 kz ks kb rfl qo (.slice (d1.S q) (d1.m q) (d1.cs q)) (d1.m q) (ints b.2.2) (by rfl) hlo1 _ 1 1 [.int .i64 z0,.int .i64 z1,.int .i64 z2,.int .i64 z3,.int .i64 z4,.int .i64 z5] (by rfl) rfl (by simp[Value.oneCell']) qm qo cI.o.size ?_;intro v8 w8 aZ a8 cN;obtain⟨A8,c8,rfl⟩:=aD aZ;have hl5:¬(Value.slice (d1.S q) (d1.m q) (d1.cs q)).ownBlock=some g5:=fun e=>cZ.o.lv g5 rfl (by rw[hlv];exact e);have fK:¬(Value.slice (d1.S q) (d1.m q) (d1.cs q)).ownBlock=some ga:=fun e=>by
      have:=(hlo1.lt ga e).1;omega
     have u2:=(a8.cells (g:=g5) jT hl5 (q*3+2)).trans m2;have v0:=(a8.cells (g:=ga) fL fK (off+k*6)).trans q0;have v1:=(a8.cells (g:=ga) fL fK (off+k*6+1)).trans q1;have v2:=(a8.cells (g:=ga) fL fK (off+k*6+2)).trans q2;have v3:=(a8.cells (g:=ga) fL fK (off+k*6+3)).trans q3;have v4:=(a8.cells (g:=ga) fL fK (off+k*6+4)).trans q4;have v5:=(a8.cells (g:=ga) fL fK (off+k*6+5)).trans q5;have f5:w8.frozen? ⟨g5,q*3+2,none⟩=false:=(World.frozen?_of_block (w:=wy.drew) (a:=⟨g5,q*3+2,none⟩) (a8.block g5 jT hl5)).trans (cZ.o.own.frozenAt (q*3+2));refine hK.out _ _ ⟨u2,v0,v1,v2,v3,v4,v5⟩ (fun aN=>?_);clear hK K bW;have hZ:=qh ((cZ.o.drewN 1).add iC.o (A':=A8) (c':=c8) (s:=[z0,z1,z2,z3,z4,z5]) rfl (by rw[hq2];exact aZ) (by rw[hlv];exact a8) (by rw[hlv,hq2];exact cN));rw[hq2]at hZ;have j7:=qh (Below.setCell (p:=⟨g5,q*3+2,none⟩) (cI.o.drew.trans (a8.own (w:=wy.drew) hlo1 cI.o.size)) hg5 (.slice A8 (d1.m q+1) c8));refine qt 11 aN ?_;refine qt 12 aN ?_
     simp only[List.getElem_toArray,List.getElem_cons_succ,List.getElem_cons_zero,Act.put,List.setIfInBounds_toArray,List.set_cons_zero,List.set_cons_succ]
     refine wpAnyH_done qk ?_ _;refine b8.of ?_
     go_simp
     have dO:ga≠g5:=qo;have x0:(w8.setCell ⟨g5,q*3+2,none⟩ (.slice A8 (d1.m q+1) c8)).cell? ⟨ga,off+k*6,none⟩=some (.int .i64 z0):=(World.cell?_of_block (Below.heap_setCell w8 _ _ ga dO)).trans v0;have x1:(w8.setCell ⟨g5,q*3+2,none⟩ (.slice A8 (d1.m q+1) c8)).cell? ⟨ga,off+k*6+1,none⟩=some (.int .i64 z1):=(World.cell?_of_block (Below.heap_setCell w8 _ _ ga dO)).trans v1;have x2:(w8.setCell ⟨g5,q*3+2,none⟩ (.slice A8 (d1.m q+1) c8)).cell? ⟨ga,off+k*6+2,none⟩=some (.int .i64 z2):=(World.cell?_of_block (Below.heap_setCell w8 _ _ ga dO)).trans v2;have x3:(w8.setCell ⟨g5,q*3+2,none⟩ (.slice A8 (d1.m q+1) c8)).cell? ⟨ga,off+k*6+3,none⟩=some (.int .i64 z3):=(World.cell?_of_block (Below.heap_setCell w8 _ _ ga dO)).trans v3;have x4:(w8.setCell ⟨g5,q*3+2,none⟩ (.slice A8 (d1.m q+1) c8)).cell? ⟨ga,off+k*6+4,none⟩=some (.int .i64 z4):=(World.cell?_of_block (Below.heap_setCell w8 _ _ ga dO)).trans v4;have x5:(w8.setCell ⟨g5,q*3+2,none⟩ (.slice A8 (d1.m q+1) c8)).cell? ⟨ga,off+k*6+5,none⟩=some (.int .i64 z5):=(World.cell?_of_block (Below.heap_setCell w8 _ _ ga dO)).trans v5;clear aN v0 v1 v2 v3 v4 v5 u2 f5 a8 aZ cN hlo1 m2 q0 q1 q2 q3 q4 q5;obtain⟨w9,dJ⟩:=qx (w8.setCell ⟨g5,q*3+2,none⟩ (.slice A8 (d1.m q+1) c8));rw[←dJ]at hZ j7 x0 x1 x2 x3 x4 x5 ⊢;clear dJ;have hz2:=zU dS.o.1;have D9:=qh (h9 z0 z1 z2 z3 z4 z5 nn w9 qo qo)
     go_wp2_with fail
     refine D9.o.mono ?_;rintro e w10 ⟨rfl,cY⟩;have CV:=qh (hZ.o.below cY);have j6:=j7.st cY;clear cY
     go_wp2_with fail
     go_roundw
     case rel=>exact⟨k+1,aR o1 (eQ z k),d1.add q A8 c8,some ⟨g5,0,none⟩,c4,aH z0 z2 nn,by omega,qg,by rw[aI,hq],rfl,qh (fun _=>⟨HT1.o,dS.o.2.1.symm,by rw[pW.o];exact World.ownsRow_nil _ _ _ _,fun x hx=>by cases hx⟩),qh (fun h=>by omega),qh (by rw[aI,nJ.o];exact CV.o),by rw[aI];omega,by rw[aI];omega,j6⟩
     case measure=>exact qs
    ·rw[Bool.not_eq_true]at ht
     rw[ht];have oH:¬triv nn L=true:=by rw[ht];exact Bool.false_ne_true
     have cJ:=qh (show flush nn L o=some (o++[((nn:Int),L,[])])by unfold flush;rw[if_neg hlen];exact if_neg oH)
     by_cases h60:o.length=60
     ·have bX:=qh (show cA z N=none from EK (j:=k+1) hlt (o:=aR (o++[((nn:Int),L,[])]) (eQ z k)) (by rw[l7.o,cJ.o];rfl) (by rw[aI];simp;omega))
      have h61:((o.length:Int)==60)=true:=by simp;omega
      have h62:(o.length:Int)=60:=qo
      go_wp2_with fail
      go_ret2
      exact⟨HB2.o,by rw[bX.o];rfl⟩
     ·have h61:((o.length:Int)==60)=false:=by rw[beq_eq_false_iff_ne];omega
      have h62:¬(o.length:Int)=60:=qo;have bo1:(0:Int)≤(o.length:Int):=qo;have bo2:(o.length:Int)<(o.length:Int)+1:=qo
      go_wp2_with (at_builtin;go_must (refine cW w2 rfl (.tmp 62) (.tmp 67) _ rfl w.heap.size 78 j0 _ 3 56 Tryz.underlying47 hj0 jz js jb rfl qo (.slice A4 o.length c4) o.length _ rfl dR.o.own _ 1 1 [.int .i64 nn,.slice A7 L.length c7,.slice none 0 0] w2.heap.size rfl rfl rfl (by simp[Value.oneCell']) qm qo HB2.o.size ?_);intro v' w' hown' hf' hat';have HOWN':=qh hown';have bL:=qh hf';have dT:=qh hat';clear hown' hf' hat';obtain⟨g9,c9,rfl⟩:=BB HOWN'.o)
      have nD:=qh (dR.o.push (A:=A7) (W:=L) (c:=c7) (n:=nn) HR2.o (fun x hx e=>by
       obtain⟨_,a,rfl,rfl⟩:=hx;exact yO.o _ rfl (.inl e)) (fun x hx=>by obtain⟨_,a,rfl,rfl⟩:=hx;exact JO.o _ rfl) HOWN'.o bL.o dT.o)
      have cI:=qh (HB2.o.trans (bL.o.own dR.o.own HB2.o.size));have hol:(o++[((nn:Int),L,[])]).length=o.length+1:=by simp
      have mH:=qh (show∀b∈o++[((nn:Int),L,[])],b.2.2.length≤k*6 from fun b hb=>by
       rcases List.mem_append.1 hb with hb|hb
       ·exact HST.o b hb
       ·rw[List.mem_singleton.1 hb]
        exact Nat.zero_le _)
      have hag:¬(Value.slice A4 o.length c4).ownBlock=some ga:=fun e=>by
       have:=(dR.o.own.lt ga e).1;omega
      have nS:ga<w2.heap.size:=World.block_lt_of_cell? w2 _ q0;replace q0:=(bL.o.cells (g:=ga) nS hag _).trans q0;replace q1:=(bL.o.cells (g:=ga) nS hag _).trans q1;replace q2:=(bL.o.cells (g:=ga) nS hag _).trans q2;replace q3:=(bL.o.cells (g:=ga) nS hag _).trans q3;replace q4:=(bL.o.cells (g:=ga) nS hag _).trans q4;replace q5:=(bL.o.cells (g:=ga) nS hag _).trans q5;obtain⟨d1,hd1⟩:=qx (d.push o.length A7 c7);obtain⟨o1,ho1⟩:=qx (o++[((nn:Int),L,[])]);have cZ:=qh (show cB w.heap.size (.slice (some ⟨g9,0,none⟩) o1.length c9) o1 d1 w' from by rw[hd1,ho1,hol];exact nD.o);rw[←ho1]at cJ mH hol;have hlo1':1≤o1.length:=qo;have hlo60':o1.length≤60:=qo;clear nS hag hd1 ho1 nD HOWN' bL dT dR HB2 HR2 yO hlo1 rY
      rename World=>wy
      have HT1:=qh (show cG z (k+1)=some (aR o1 (eQ z k))by rw[l7.o,cJ.o];rfl);obtain⟨q,hqo⟩:=qx (o.length);have hq:o1.length=q+1:=qo;rw[←hqo];clear hqo;obtain⟨b,hb⟩:∃b,o1[q]?=some b:=⟨_,List.getElem?_eq_getElem qo⟩;have iC:=qh (show o1.getLast?=some b by rw[List.getLast?_eq_getElem?,hq];exact hb);obtain⟨g5,c5,hv5,hg5,jT⟩:=cZ.o.form qo;injection hv5 with hv5 hv6 lC;clear hv6;injection hv5 with hv5;injection hv5 with hv5 hv7 OJ;clear hv7 OJ;have lB:=hv5.symm;clear hv5;subst lB lC;obtain⟨_,_,m2⟩:=kH cZ.o hb;have b4:(0:Int)≤(q:Int):=qo;have b5:(q:Int)<((q+1:Nat):Int):=qo;have e7:((q+1:Nat):Int)-1=(q:Int):=qo;have fL:ga<wy.heap.size:=World.block_lt_of_cell? wy _ q0;refine aW (S:=fun w'=>w'.cell? ⟨g5,q*3+2,none⟩=some (.slice (d1.S q) (d1.m q) (d1.cs q))∧w'.cell? ⟨ga,off+k*6,none⟩=some (.int .i64 z0)∧w'.cell? ⟨ga,off+k*6+1,none⟩=some (.int .i64 z1)∧w'.cell? ⟨ga,off+k*6+2,none⟩=some (.int .i64 z2)∧w'.cell? ⟨ga,off+k*6+3,none⟩=some (.int .i64 z3)∧w'.cell? ⟨ga,off+k*6+4,none⟩=some (.int .i64 z4)∧w'.cell? ⟨ga,off+k*6+5,none⟩=some (.int .i64 z5)) _ qj qk qk ⟨m2,q0,q1,q2,q3,q4,q5⟩ (fun hHeld=>?_)
      simp only[List.dropLast,List.getLast_cons_cons,List.getLast_singleton,List.length_cons,List.length_nil]
      refine qt 0 hHeld ?_;refine qt 1 hHeld ?_;refine qt 2 hHeld ?_;refine qt 3 hHeld ?_;refine qt 4 hHeld ?_;refine qt 5 hHeld ?_;refine qt 6 hHeld ?_;refine qt 7 hHeld ?_;refine qt 8 hHeld ?_
      simp only[List.getElem_toArray,List.getElem_cons_succ,List.getElem_cons_zero,Act.put,List.setIfInBounds_toArray,List.set_cons_zero,List.set_cons_succ]
      refine wpAnyH_ready (rs:=[9]) qk qj ?_;refine AllReadyH.cons rfl (fun K hK=>?_) AllReadyH.nil
      simp only[List.getElem_toArray,List.getElem_cons_succ,List.getElem_cons_zero]
      go_simp
      refine hK.out _ _ (by go_keep) (fun bW=>?_);clear hK K hHeld;refine wpAnyH_ready (rs:=[10]) qk qj ?_;refine AllReadyH.cons rfl (fun K hK=>?_) AllReadyH.nil
      simp only[List.getElem_toArray,List.getElem_cons_succ,List.getElem_cons_zero]
      have hlo1:=cZ.o.lo b iC.o;have hq2:o1.length-1=q:=qo;have hlv:bB o1.length d1=.slice (d1.S q) (d1.m q) (d1.cs q):=by unfold bB;rw[hq2]
      rw[hlv,hq2]at hlo1;have F6:d1.m q≤3000:=by
       have h1:=cZ.o.ln q b hb;have h2:=mH.o b (List.mem_of_getElem? hb);omega
      refine cR wy.drew (by rfl) (.tmp 82) (.tmp 87) _ (by rfl) w.heap.size 52 k0 _ 6 48 Tryz.underlying31 hk0 kz ks kb rfl qo (.slice (d1.S q) (d1.m q) (d1.cs q)) (d1.m q) (ints b.2.2) (by rfl) hlo1 _ 1 1 [.int .i64 z0,.int .i64 z1,.int .i64 z2,.int .i64 z3,.int .i64 z4,.int .i64 z5] (by rfl) rfl (by simp[Value.oneCell']) qm qo cI.o.size ?_;intro v8 w8 aZ a8 cN;obtain⟨A8,c8,rfl⟩:=aD aZ;have hl5:¬(Value.slice (d1.S q) (d1.m q) (d1.cs q)).ownBlock=some g5:=fun e=>cZ.o.lv g5 rfl (by rw[hlv];exact e);have fK:¬(Value.slice (d1.S q) (d1.m q) (d1.cs q)).ownBlock=some ga:=fun e=>by
       have:=(hlo1.lt ga e).1;omega
      have u2:=(a8.cells (g:=g5) jT hl5 (q*3+2)).trans m2;have v0:=(a8.cells (g:=ga) fL fK (off+k*6)).trans q0;have v1:=(a8.cells (g:=ga) fL fK (off+k*6+1)).trans q1;have v2:=(a8.cells (g:=ga) fL fK (off+k*6+2)).trans q2;have v3:=(a8.cells (g:=ga) fL fK (off+k*6+3)).trans q3;have v4:=(a8.cells (g:=ga) fL fK (off+k*6+4)).trans q4;have v5:=(a8.cells (g:=ga) fL fK (off+k*6+5)).trans q5;have f5:w8.frozen? ⟨g5,q*3+2,none⟩=false:=(World.frozen?_of_block (w:=wy.drew) (a:=⟨g5,q*3+2,none⟩) (a8.block g5 jT hl5)).trans (cZ.o.own.frozenAt (q*3+2));refine hK.out _ _ ⟨u2,v0,v1,v2,v3,v4,v5⟩ (fun aN=>?_);clear hK K bW;have hZ:=qh ((cZ.o.drewN 1).add iC.o (A':=A8) (c':=c8) (s:=[z0,z1,z2,z3,z4,z5]) rfl (by rw[hq2];exact aZ) (by rw[hlv];exact a8) (by rw[hlv,hq2];exact cN));rw[hq2]at hZ;have j7:=qh (Below.setCell (p:=⟨g5,q*3+2,none⟩) (cI.o.drew.trans (a8.own (w:=wy.drew) hlo1 cI.o.size)) hg5 (.slice A8 (d1.m q+1) c8));refine qt 11 aN ?_;refine qt 12 aN ?_
      simp only[List.getElem_toArray,List.getElem_cons_succ,List.getElem_cons_zero,Act.put,List.setIfInBounds_toArray,List.set_cons_zero,List.set_cons_succ]
      refine wpAnyH_done qk ?_ _;refine b8.of ?_
      go_simp
      have dO:ga≠g5:=qo;have x0:(w8.setCell ⟨g5,q*3+2,none⟩ (.slice A8 (d1.m q+1) c8)).cell? ⟨ga,off+k*6,none⟩=some (.int .i64 z0):=(World.cell?_of_block (Below.heap_setCell w8 _ _ ga dO)).trans v0;have x1:(w8.setCell ⟨g5,q*3+2,none⟩ (.slice A8 (d1.m q+1) c8)).cell? ⟨ga,off+k*6+1,none⟩=some (.int .i64 z1):=(World.cell?_of_block (Below.heap_setCell w8 _ _ ga dO)).trans v1;have x2:(w8.setCell ⟨g5,q*3+2,none⟩ (.slice A8 (d1.m q+1) c8)).cell? ⟨ga,off+k*6+2,none⟩=some (.int .i64 z2):=(World.cell?_of_block (Below.heap_setCell w8 _ _ ga dO)).trans v2;have x3:(w8.setCell ⟨g5,q*3+2,none⟩ (.slice A8 (d1.m q+1) c8)).cell? ⟨ga,off+k*6+3,none⟩=some (.int .i64 z3):=(World.cell?_of_block (Below.heap_setCell w8 _ _ ga dO)).trans v3;have x4:(w8.setCell ⟨g5,q*3+2,none⟩ (.slice A8 (d1.m q+1) c8)).cell? ⟨ga,off+k*6+4,none⟩=some (.int .i64 z4):=(World.cell?_of_block (Below.heap_setCell w8 _ _ ga dO)).trans v4;have x5:(w8.setCell ⟨g5,q*3+2,none⟩ (.slice A8 (d1.m q+1) c8)).cell? ⟨ga,off+k*6+5,none⟩=some (.int .i64 z5):=(World.cell?_of_block (Below.heap_setCell w8 _ _ ga dO)).trans v5;clear aN v0 v1 v2 v3 v4 v5 u2 f5 a8 aZ cN hlo1 m2 q0 q1 q2 q3 q4 q5;obtain⟨w9,dJ⟩:=qx (w8.setCell ⟨g5,q*3+2,none⟩ (.slice A8 (d1.m q+1) c8));rw[←dJ]at hZ j7 x0 x1 x2 x3 x4 x5 ⊢;clear dJ;have hz2:=zU dS.o.1;have D9:=qh (h9 z0 z1 z2 z3 z4 z5 nn w9 qo qo)
      go_wp2_with fail
      refine D9.o.mono ?_;rintro e w10 ⟨rfl,cY⟩;have CV:=qh (hZ.o.below cY);have j6:=j7.st cY;clear cY
      go_wp2_with fail
      go_roundw
      case rel=>exact⟨k+1,aR o1 (eQ z k),d1.add q A8 c8,some ⟨g5,0,none⟩,c9,aH z0 z2 nn,by omega,qg,by rw[aI,hq],rfl,qh (fun _=>⟨HT1.o,dS.o.2.1.symm,by rw[pW.o];exact World.ownsRow_nil _ _ _ _,fun x hx=>by cases hx⟩),qh (fun h=>by omega),qh (by rw[aI,nJ.o];exact CV.o),by rw[aI];omega,by rw[aI];omega,j6⟩
      case measure=>exact qs
  ·obtain rfl:N=k:=qo
   have cK:=qh (show cA z N=(flush (bC z N) (dC z N) o).bind fun o=>if o.length≤60 then some o else none from by unfold cA;rw[HT.o];rfl);obtain⟨n,hn⟩:=qx (bC z N);obtain⟨L,hL⟩:=qx (dC z N);obtain⟨R,hR⟩:=qx (jY z N);rw[←hn]at kP hH cK ⊢;rw[←hL]at cK hH lF;rw[←hR]at eW hwl FB lF;clear hn hL hR;have hcn:=kP.o;have b2:¬(N:Int)<(N:Int):=qo;obtain⟨A6,c6,rfl⟩:=aD eW.o;have fM:=qh (n3 R A6 c6 wr (bI eW.o) qo FB.o);rw[lF.o]at fM
   go_wp2_with fail
   refine fM.o.mono ?_;rintro e w1 h1;obtain⟨A7,c7,rfl,lX,eP,aY⟩:=h1.rd;have fF:=HB.st aY;have r7:=qh (HM.o.below aY);have gD:=qh eP;have yO:=qh (show∀x,(Value.slice A7 L.length c7).ownBlock=some x→¬kJ (.slice A4 o.length c4) o d x from fun x hx hi=>by
    have h1:=(lX.lt x hx).1;have h2:=p5.o x hi;omega)
   have JO:=qh (show∀x,(Value.slice A7 L.length c7).ownBlock=some x→w.heap.size≤x from fun x hx=>Nat.le_trans HB.o.size (lX.lt x hx).1);have tN:L.length≤R.length:=by have:=G.fQ R;rw[lF.o]at this;exact this
   clear h1 lX eP aY fM HM eW HB eX
   by_cases hlen:40<L.length
   ·have bX:=qh (show cA z N=none from by rw[cK.o];unfold flush;rw[if_pos hlen];rfl)
    have hl2:(40:Int)<(L.length:Int):=qo
    go_wp2_with fail
    go_ret2
    exact⟨fF.o,by rw[bX.o];rfl⟩
   have hl2:¬(40:Int)<(L.length:Int):=qo;obtain⟨nn,rfl⟩:∃nn:Nat,n=nn:=⟨n.toNat,(Int.toNat_of_nonneg kP.o.1).symm⟩
   by_cases hL0:L.length=0
   ·have ht:triv nn L=true:=by rw[List.length_eq_zero_iff.1 hL0];exact sH nn
    have b7:¬(0:Int)<(L.length:Int):=qo;have cJ:=qh (show flush nn L o=some o by unfold flush;rw[if_neg hlen];exact if_pos ht);have bX:=qh (show cA z N=some o from by rw[cK.o,cJ.o,Option.bind_some];exact if_pos qo)
    go_wp2_with fail
    go_roundw
    case rel=>exact⟨N+1,o,d,A4,c4,nn,by omega,qg,rfl,rfl,qh (fun h=>by omega),qh (fun _=>bX.o),r7,hlo1,rY,fF⟩
    case measure=>exact qs
   have mD:=qh (show Calls Tryz.prog 100 #[.int .i64 nn,.slice A7 L.length c7,.slice none 0 0] w1 _ from kF (n:=nn) L [] A7 none c7 0 w1 gD.o (fun h0=>absurd h0 (Nat.lt_irrefl 0)) qo hH.o (fun x hx=>by cases hx) qo qj);have b7:(0:Int)<(L.length:Int):=qo
   go_wp2_with fail
   refine mD.o.mono ?_;rintro e w2 ⟨rfl,hb2⟩;rw[jD];have HB2:=fF.st hb2;have dR:=qh (r7.o.below hb2);have HR2:=qh (Rd.below gD.o hb2);clear hb2 mD fF r7 gD
   by_cases ht:triv nn L=true
   ·rw[ht]
    have cJ:=qh (show flush nn L o=some o by unfold flush;rw[if_neg hlen];exact if_pos ht);have bX:=qh (show cA z N=some o from by rw[cK.o,cJ.o,Option.bind_some];exact if_pos qo)
    go_wp2_with fail
    go_roundw
    case rel=>exact⟨N+1,o,d,A4,c4,nn,by omega,qg,rfl,rfl,qh (fun h=>by omega),qh (fun _=>bX.o),dR,hlo1,rY,HB2⟩
    case measure=>exact qs
   ·rw[Bool.not_eq_true]at ht
    rw[ht];have oH:¬triv nn L=true:=by rw[ht];exact Bool.false_ne_true
    have cJ:=qh (show flush nn L o=some (o++[((nn:Int),L,[])])by unfold flush;rw[if_neg hlen];exact if_neg oH)
    by_cases h60:o.length=60
    ·have bX:=qh (show cA z N=none from by rw[cK.o,cJ.o,Option.bind_some];exact if_neg (by simp;omega))
     have h61:((o.length:Int)==60)=true:=by simp;omega
     have h62:(o.length:Int)=60:=qo
     go_wp2_with fail
     go_ret2
     exact⟨HB2.o,by rw[bX.o];rfl⟩
    ·have h61:((o.length:Int)==60)=false:=by rw[beq_eq_false_iff_ne];omega
     have h62:¬(o.length:Int)=60:=qo;have bX:=qh (show cA z N=some (o++[((nn:Int),L,[])])from by rw[cK.o,cJ.o,Option.bind_some];exact if_pos (by simp;omega))
     go_wp2_with (at_builtin;go_must (refine cW w2 rfl (.tmp 62) (.tmp 67) _ rfl w.heap.size 78 j0 _ 3 56 Tryz.underlying47 hj0 jz js jb rfl qo (.slice A4 o.length c4) o.length _ rfl dR.o.own _ 1 1 [.int .i64 nn,.slice A7 L.length c7,.slice none 0 0] w2.heap.size rfl rfl rfl (by simp[Value.oneCell']) qm qo HB2.o.size ?_);intro v' w' hown' hf' hat';have HOWN':=qh hown';have bL:=qh hf';have dT:=qh hat';clear hown' hf' hat';obtain⟨A9,c9,rfl⟩:=aD HOWN'.o)
     have nD:=qh (dR.o.push (A:=A7) (W:=L) (c:=c7) (n:=nn) HR2.o (fun x hx e=>by
      obtain⟨_,a,rfl,rfl⟩:=hx;exact yO.o _ rfl (.inl e)) (fun x hx=>by obtain⟨_,a,rfl,rfl⟩:=hx;exact JO.o _ rfl) HOWN'.o bL.o dT.o)
     have cI:=qh (HB2.o.trans (bL.o.own dR.o.own HB2.o.size));have hol:(o++[((nn:Int),L,[])]).length=o.length+1:=by simp
     go_roundw
     case rel=>exact⟨N+1,o++[((nn:Int),L,[])],d.push o.length A7 c7,A9,c9,nn,by omega,qg,by rw[hol],rfl,qh (fun h=>by omega),qh (fun _=>bX.o),qh (by rw[hol];exact nD.o),by omega,by omega,cI⟩
     case measure=>exact qs
end Go.Proofs.YtmnbgjnipbpiaaaGreat
