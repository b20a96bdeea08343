/- Walks and plain lemmas. -/
import Derived.Test.YtmnbgjnipbpiaaaGreatP21
set_option linter.unusedVariables false
set_option linter.unusedSimpArgs false
set_option maxHeartbeats 4000000
set_option maxRecDepth 20000
namespace Go.Proofs.YtmnbgjnipbpiaaaGreat
open Go.RowKit
theorem xY:(Tryz.prog.info? 78).map (fun i=>(i.zero,i.size,i.bytes))=some (some (.agg #[.int .i64 0,.slice none 0 0,.slice none 0 0]),3,56):=by kernel_rfl
theorem xX:(Tryz.prog.info? 52).map (fun i=>(i.zero,i.size,i.bytes))=some (some (.agg #[.int .i64 0,.int .i64 0,.int .i64 0,.int .i64 0,.int .i64 0,.int .i64 0]),6,48):=by kernel_rfl
def K8 (w:World)(r:Option (List aF))(e:Ending)(w':World):Prop:=Below w.heap.size w w'∧match r with
 |none=>e=.returned (.tuple #[.slice none 0 0,.int .i64 5])
 |some o=>∃A c d,e=.returned (.tuple #[.slice A o.length c,.int .i64 0])∧cB w.heap.size (.slice A o.length c) o d w'
theorem jK (w:World):cB w.heap.size (.slice (some ⟨w.heap.size,0,none⟩) 1 1) [(0,[],[])] ⟨fun _=>none,fun _=>none,fun _=>0,fun _=>0,fun _=>0⟩ (w.alloc (.cells #[.int .i64 0,.slice none 0 0,.slice none 0 0] 78)):=by
 have hc:∀j b,([((0:Int),([]:List Int),([]:List Int))]:List aF)[j]?=some b→j=0∧b=(0,[],[]):=fun j b h=>by
  rcases j with _|j
  ·simp at h
   exact⟨rfl,h.symm⟩
  ·simp at h
 refine⟨?_,fun j b hj=>?_,fun j b hj=>?_,fun j b hj=>?_,fun j b hj x hx=>?_,fun j b hj x hx=>?_,fun b hb=>?_,fun x hx=>?_,fun j b hj x hx=>?_,fun j b hj x hx=>?_⟩
 ·exact World.ownsRow_lit (base:=w.heap.size) (e:=78) (size:=3) w #[.int .i64 0,.slice none 0 0,.slice none 0 0] 1 ql qm rfl
 ·obtain⟨_,rfl⟩:=hc j b hj
  intro h0
  cases h0
 ·obtain⟨_,rfl⟩:=hc j b hj
  rfl
 ·obtain⟨_,rfl⟩:=hc j b hj
  intro h0
  simp at h0
 ·obtain⟨h0,_⟩:=hx
  obtain⟨_,rfl⟩:=hc j b hj
  cases h0
 ·obtain⟨h0,_⟩:=hx
  simp at h0
 ·simp at hb
  subst hb;exact World.ownsRow_nil _ _ _ _
 ·intro e
  cases e
 ·obtain⟨h0,_⟩:=hx
  obtain⟨_,rfl⟩:=hc j b hj
  cases h0
 ·obtain⟨h0,_⟩:=hx
  simp at h0
theorem vC {z:Nat→Int}{N:Nat}(hv:(cnt z 0 N).isSome=true){k:Nat}(hk:k<N):bE (z (k*6)) (z (k*6+1)) (z (k*6+2)) (z (k*6+3)) (z (k*6+4)) (z (k*6+5)) (bC z k)=true∧bC z (k+1)=aH (z (k*6)) (z (k*6+2)) (bC z k)∧0≤bC z k∧bC z k≤12:=by
 obtain⟨m0,hm0⟩:∃m,cnt z 0 k=some m:=by
  cases h2:cnt z 0 k with
  |none=>rw[cO z 0 qo h2]at hv;cases hv
  |some m=>exact⟨m,rfl⟩
 have tG:bE (z (k*6)) (z (k*6+1)) (z (k*6+2)) (z (k*6+3)) (z (k*6+4)) (z (k*6+5)) m0=true∧aH (z (k*6)) (z (k*6+2)) m0≤12:=Decidable.byContradiction fun hn=>by
  have h2:=iV hm0 hn;rw[cO z 0 (show k+1≤N by omega) h2]at hv
  cases hv
 have hb:=iE hm0;have h3:=l1 hm0 tG.1 tG.2
 simp only[bC,hm0,h3,Option.getD_some]
 exact⟨tG.1,trivial,hb.1,hb.2⟩
theorem gQ {z:Nat→Int}{N:Nat}(hv:(cnt z 0 N).isSome=true){k:Nat}(hk:k≤N):0≤bC z k∧bC z k≤12:=by
 obtain⟨m0,hm0⟩:∃m,cnt z 0 k=some m:=by
  cases h2:cnt z 0 k with
  |none=>rw[cO z 0 qo h2]at hv;cases hv
  |some m=>exact⟨m,rfl⟩
 simp only[bC,hm0,Option.getD_some]
 exact iE hm0
theorem yZ (z:Nat→Int)(k:Nat):(dC z k).length≤k:=by
 induction k with
 |zero=>exact Nat.le_refl _
 |succ k ih=>
  simp only[dC]
  split
  ·have:=G.fQ (dC z k++[oA z k])
   rw[List.length_append,List.length_singleton]at this;omega
  ·exact Nat.zero_le _
theorem xJ {o:List aF}{s:List Int}{b:aF}(h:b∈aR o s):∃b0∈o,b=b0∨b.2.2=b0.2.2++s:=by
 unfold aR at h
 cases hl:o.getLast? with
 |none=>rw[hl]at h;cases h
 |some b0=>
  rw[hl]at h
  rcases List.mem_append.1 h with h|h
  ·exact⟨b,(by rw[List.dropLast_eq_take]at h;exact List.mem_of_mem_take h),.inl rfl⟩
  ·rw[List.mem_singleton.1 h]
   exact⟨b0,List.mem_of_getLast? hl,.inr rfl⟩
theorem qL {n:Int}{W:List Int}{o o':List aF}(h:flush n W o=some o'){b:aF}(hb:b∈o'):b∈o∨b.2.2=[]:=by
 unfold flush at h
 split at h
 ·cases h
 ·split at h
  ·injection h with h
   rw[←h]at hb;exact .inl hb
  ·injection h with h
   rw[←h]at hb
   rcases List.mem_append.1 hb with hb|hb
   ·exact .inl hb
   ·rw[List.mem_singleton.1 hb]
    exact .inr rfl
theorem vH {z:Nat→Int}{k:Nat}{o:List aF}(h:cG z k=some o):∀b∈o,b.2.2.length≤k*6:=by
 induction k generalizing o with
 |zero=>
  injection h with h;rw[←h];intro b hb;rw[List.mem_singleton.1 hb]
  simp
 |succ k ih=>
  simp only[cG]at h
  split at h
  ·intro b hb
   have:=ih h b hb;omega
  ·cases hk:cG z k with
   |none=>rw[hk]at h;cases h
   |some o1=>
    rw[hk]at h
    simp only[Option.bind_some]at h
    cases hf:flush (bC z k) (dC z k) o1 with
    |none=>rw[hf]at h;cases h
    |some o2=>
     rw[hf]at h;injection h with h;intro b hb;rw[←h]at hb;obtain⟨b0,hb0,he⟩:=xJ hb;have h0:b0.2.2.length≤k*6:=by
      rcases qL hf hb0 with h1|h1
      ·exact ih hk b0 h1
      ·rw[h1]
       simp
     rcases he with rfl|he
     ·omega
     ·rw[he,List.length_append]
      simp[eQ]
      omega
theorem t7 {c x:Int}(h:c=1∨c= -1)(hx:0≤x∧x≤100):IntKind.i64.wrap (c*x)=c*x∧ -100≤c*x∧c*x≤100:=by
 rcases h with rfl|rfl
 ·rw[Int.one_mul]
  exact⟨IntWalk.i64_in _ qo,by omega,by omega⟩
 ·rw[Int.neg_one_mul]
  exact⟨IntWalk.i64_in _ qo,by omega,by omega⟩
theorem rJ (A:OA)(N c:Nat)(z:Nat→Int)(w:World)(ha:Rd w A (N*6) (fun j=>.int .i64 (z j)))(hN:N≤2000)(hv:(cnt z 0 N).isSome=true):
 Calls Tryz.prog 16 #[.slice A N c] w (K8 w (cA z N)):=by
 obtain⟨i0,hi,iz,is,ib⟩:=info_parts info64;obtain⟨j0,hj0,jz,js,jb⟩:=info_parts xY;obtain⟨k0,hk0,kz,ks,kb⟩:=info_parts xX;have HA:=qh ha;have HV:=qh hv;have CW:=qh ((jK w).below ((Below.refl _ _).alloc ql (.cells #[] 2)));have oY:=qh (jK w);have HB1:=qh (((Below.refl w.heap.size w).alloc ql (.cells #[.int .i64 0,.slice none 0 0,.slice none 0 0] 78)).alloc qj (.cells #[] 2));have HW1:=qh (World.ownsRow_made (base:=w.heap.size) (e:=2) (size:=1) (w.alloc (.cells #[.int .i64 0,.slice none 0 0,.slice none 0 0] 78)) #[] 0 qj qm rfl);clear ha hv
 go_enter Tryz.func16,Tryz.ntmps16
 go_wp2_with fail
 go_loopw [4,5,6,7,8,9] (fun ov nv wv x _ _ wr=>∃(k:Nat) (o:List aF) (d:aV) (A4:OA) (c4:Nat),k≤N∧x=.int .i64 k∧Hq (cG z k=some o)∧ov=.slice A4 o.length c4∧nv=.int .i64 (bC z k)∧Hq (cB w.heap.size (.slice A4 o.length c4) o d wr)∧Hq (wr.ownsRow w.heap.size 2 1 wv (dC z k).length (ints (dC z k)))∧Hq (∀x,wv.ownBlock=some x→¬kJ (.slice A4 o.length c4) o d x)∧Hq (Below w.heap.size w wr)) (fun _ _ _ x _ _ _=>N-(intOf x).toNat)
 case atStart=>exact⟨0,[(0,[],[])],_,_,_,Nat.zero_le _,rfl,qh rfl,rfl,rfl,CW,qh (by have h:=HW1.o;simp only[World.size_alloc]at h;exact h),qh (fun x hx hi=>by
  have h1:=oY.o.jS (Nat.zero_lt_one) hi;injection hx with hx;rw[World.size_alloc]at h1
  simp at hx
  omega),HB1⟩
 case round=>
  clear CW oY HB1 HW1;obtain⟨k,o,d,A4,c4,hk,rfl,HT,rfl,rfl,HM,eW,eX,HB⟩:=hrel;have hlo:=GH HT.o;have kP:=qh (gQ HV.o hk);have hwl:=yZ z k;have hH:=qh (kS HV.o hk)
  by_cases hlt:k<N
  ·obtain⟨ga,off,rfl,hg,hr⟩:=HA.o qo
   have r0:=a7 HB.o hg (hr (k*6) qo);have r1:=a7 HB.o hg (hr (k*6+1) qo);have r2:=a7 HB.o hg (hr (k*6+2) qo);have r3:=a7 HB.o hg (hr (k*6+3) qo);have r4:=a7 HB.o hg (hr (k*6+4) qo);have r5:=a7 HB.o hg (hr (k*6+5) qo);have dS:=qh (vC HV.o hlt);have iB:=qh (show oA z k=z (k*6+2)*(z (k*6+1)+1)from rfl);have iY:=qh (show dC z (k+1)=if z (k*6)=1 then G.red (dC z k++[oA z k])else []from rfl);have fB:=qh (show cG z (k+1)=if z (k*6)=1 then cG z k else(cG z k).bind fun o=>(flush (bC z k) (dC z k) o).map fun o'=>aR o' (eQ z k)from rfl);have nJ:=qh (show eQ z k=[z (k*6),z (k*6+1),z (k*6+2),z (k*6+3),z (k*6+4),z (k*6+5)]from rfl);rw[HT.o]at fB;obtain⟨z0,hz0⟩:=qx (z (k*6));obtain⟨z1,hz1⟩:=qx (z (k*6+1));obtain⟨z2,hz2⟩:=qx (z (k*6+2));obtain⟨z3,hz3⟩:=qx (z (k*6+3));obtain⟨z4,eA⟩:=qx (z (k*6+4));obtain⟨z5,gV⟩:=qx (z (k*6+5))
   simp only[←hz0,←Nat.add_assoc]at r0
   simp only[←hz1,←Nat.add_assoc]at r1
   simp only[←hz2,←Nat.add_assoc]at r2
   simp only[←hz3,←Nat.add_assoc]at r3
   simp only[←eA,←Nat.add_assoc]at r4
   simp only[←gV,←Nat.add_assoc]at r5
   rw[←hz0,←hz1,←hz2,←hz3,←eA,←gV]at dS nJ;rw[←hz1,←hz2]at iB;rw[←hz0]at iY fB;clear hr hz0 hz1 hz2 hz3 eA gV;obtain⟨n,hn⟩:=qx (bC z k);obtain⟨L,hL⟩:=qx (dC z k);rw[←hn]at dS fB kP hH ⊢;rw[←hL]at iY fB eW hwl hH;clear hn hL;have hcn:=kP.o;have b1:(0:Int)≤(k:Int):=qo;have b2:(k:Int)<(N:Int):=qo;have hBW:=HB.o.size;have yW:=qh (HB.o.alloc hBW (.cells #[.int .i64 z0,.int .i64 z1,.int .i64 z2,.int .i64 z3,.int .i64 z4,.int .i64 z5] 52));have EW:=qh ((Below.refl wr.heap.size wr).alloc ql (.cells #[.int .i64 z0,.int .i64 z1,.int .i64 z2,.int .i64 z3,.int .i64 z4,.int .i64 z5] 52));have JH:=qh (HM.o.below EW.o);have yK:=qh (own_below eW.o EW.o)
   by_cases hc1:z0=1
   ·subst hc1
    obtain⟨p0,p1,p2⟩:=jJ dS.o.1;obtain⟨s1,s2,s3⟩:=t7 (c:=z2) (x:=z1+1) p2 qo;obtain⟨X,hX⟩:=qx (z2*(z1+1));rw[←hX]at iB s1 s2 s3;rw[if_pos rfl,iB.o]at iY;rw[if_pos rfl]at fB;have kQ:=qh (show bC z (k+1)=n by rw[dS.o.2.1];simp[aH]);have HX:=qh hX;rw[hX]at s1;clear hX
    go_wp2_with (at_builtin;go_must (refine cW (wr.alloc (.cells #[.int .i64 1,.int .i64 z1,.int .i64 z2,.int .i64 z3,.int .i64 z4,.int .i64 z5] 52)) rfl (.tmp 27) (.tmp 34) _ rfl w.heap.size 2 i0 _ 1 8 Tryz.underlying74 hi iz is ib rfl qo u6 L.length _ rfl yK.o _ 1 1 [.int .i64 (z2*(z1+1))] (wr.heap.size+1) qj rfl rfl (by simp[Value.oneCell']) qm qo yW.o.size ?_);intro v' w' hown' hf' hat';have HOWN':=qh hown';have bL:=qh hf';clear hown' hf' hat')
    have MA:=qh (JH.o.fr qo bL.o (fun x hx he=>eX.o x he hx));have HB2:=qh (yW.o.trans (bL.o.own yK.o yW.o.size));obtain⟨A7,c7,rfl⟩:=aD HOWN'.o;have gD:=qh (show aG w' A7 (L++[X])from bI (n:=L.length+1) (c:=c7) (B:=w.heap.size) (by rw[dI,HX.o];exact HOWN'.o));have fM:=qh (rU (L++[X]) A7 c7 w' gD.o (by rw[List.length_append,List.length_singleton];omega) (fun y hy=>by
     rcases List.mem_append.1 hy with hy|hy
     ·have:=hH.o y hy
      omega
     ·rw[List.mem_singleton.1 hy]
      omega))
    rw[List.length_append,List.length_singleton]at fM;clear HOWN' bL
    go_wp2_with fail
    refine fM.o.mono ?_;rintro e w3 h3;obtain⟨A8,c8,rfl,qK,_,cH⟩:=h3.rd;have JC:=qh (eK qK HB2.o.size);have JI:=qh (MA.o.below cH);have kR:=HB2.st cH;have J4:=qh (show∀x,(Value.slice A8 (G.red (L++[X])).length c8).ownBlock=some x→¬kJ (.slice A4 o.length c4) o d x from fun x hx hi=>by
     have h1:=(qK.lt x hx).1;have h2:=MA.o.jS qo hi;omega)
    clear h3 qK cH
    go_wp2_with fail
    go_roundw
    case rel=>exact⟨k+1,o,d,A4,c4,by omega,qg,fB,rfl,by rw[kQ.o],JI,qh (by rw[iY.o];exact JC.o),J4,kR⟩
    case measure=>exact qs
   ·have hwn:dC z (k+1)=[]:=iY.o.trans (if_neg hc1)
    have htn:=fB.o.trans (if_neg hc1);rw[Option.bind_some]at htn;have pW:=qh hwn;have l7:=qh htn;have hcb:(z0==1)=false:=by rw[beq_eq_false_iff_ne];exact hc1
    have eS:=qh (aA.at_ (g':=wr.heap.size) wr 52 #[.int .i64 z0,.int .i64 z1,.int .i64 z2,.int .i64 z3,.int .i64 z4,.int .i64 z5] rfl);obtain⟨A6,c6,rfl⟩:=aD yK.o;have p5:=qh (fun x hx=>HM.o.jS (by omega:0<o.length) (x:=x) hx);have HST:=qh (vH HT.o);clear hwn htn iY fB iB HM eW
    by_cases hlen:40<L.length
    ·have bX:=qh (show cA z N=none from vJ (j:=k+1) hlt (by rw[l7.o];unfold flush;rw[if_pos hlen];rfl))
     have hl2:(40:Int)<(L.length:Int):=qo
     go_wp2_with fail
     go_ret2
     exact⟨yW.o,by rw[bX.o];rfl⟩
    have hl2:¬(40:Int)<(L.length:Int):=qo;obtain⟨nn,rfl⟩:∃nn:Nat,n=nn:=⟨n.toNat,(Int.toNat_of_nonneg kP.o.1).symm⟩;have mD:=qh (show Calls Tryz.prog 34 #[.int .i64 nn,.slice A6 L.length c6,.slice none 0 0] (wr.alloc (.cells #[.int .i64 z0,.int .i64 z1,.int .i64 z2,.int .i64 z3,.int .i64 z4,.int .i64 z5] 52)) _ from lV (n:=nn) L [] A6 none c6 0 _ (bI yK.o) (fun h0=>absurd h0 (Nat.lt_irrefl 0)) qo hH.o (fun x hx=>by cases hx) qo qj)
    go_wp2_with fail
    refine mD.o.mono ?_;rintro e w2 ⟨rfl,hb2⟩;rw[jD];have HB2:=yW.st hb2;have dR:=qh (JH.o.below hb2);have D3:=qh (eS.o.below hb2 eS.o.lt);have HW2:=qh (own_below yK.o hb2);clear hb2 mD yW JH eS yK EW
    by_cases ht:triv nn L=true
    ·rw[ht]
     have cJ:=qh (show flush nn L o=some o by unfold flush;rw[if_neg hlen];exact if_pos ht);obtain⟨wy,tF⟩:=qx (w2);subst tF;obtain⟨o1,ho1⟩:=qx (o);subst ho1;obtain⟨d1,hd1⟩:=qx (d);subst hd1;have mH:=qh (show∀b∈o1,b.2.2.length≤k*6 from HST.o);have CY:=qh (show¬(bB o1.length d1).ownBlock=some wr.heap.size from fun e=>Nat.lt_irrefl _ (p5.o _ (.inr (.inl e))));have FF:=qh (show∀g,(Value.slice A4 o1.length c4).ownBlock=some g→g≠wr.heap.size from fun g hg e=>Nat.lt_irrefl _ (e▸p5.o g (.inl hg)));have cZ:=dR;have cI:=HB2;have JN:=D3;clear dR HB2 D3 HW2 eX;have HT1:=qh (show cG z (k+1)=some (aR o1 (eQ z k))by rw[l7.o,cJ.o];rfl);obtain⟨q,hq⟩:∃q,o1.length=q+1:=⟨o1.length-1,by omega⟩;obtain⟨b,hb⟩:∃b,o1[q]?=some b:=⟨_,List.getElem?_eq_getElem qo⟩;have iC:=qh (show o1.getLast?=some b by rw[List.getLast?_eq_getElem?,hq];exact hb);obtain⟨g5,c5,hv5,hg5,jT⟩:=cZ.o.form qo;injection hv5 with hv5 _ lC;subst hv5 lC;have j4:=qh (cZ.o.below ((Below.refl _ _).alloc ql (.cells #[] 2)));have fZ:=qh (JN.o.alloc (.cells #[] 2));have p8:=qh (cI.o.alloc cI.o.size (.cells #[] 2));have CK:=qh (World.ownsRow_made (base:=w.heap.size) (e:=2) (size:=1) wy #[] 0 cI.o.size qm rfl);have oV:=qh (show(wy.alloc (.cells #[] 2)).heap.size=wy.heap.size+1 by simp);have vY:=qh (fun x hx=>cZ.o.jS (by omega:0<o1.length) (x:=x) hx);have hq1:q≤3000:=qo;have b4:(0:Int)≤(q:Int):=qo;have b5:(q:Int)<((q+1:Nat):Int):=qo;have e7:((q+1:Nat):Int)-1=(q:Int):=qo;rw[hq]
     go_wp2_with fail
     obtain⟨wz,hwz⟩:=qx (wy.alloc (.cells #[] 2));rw[←hwz]at j4 fZ p8 CK oV ⊢;obtain⟨_,_,m2⟩:=kH j4.o hb;have t0:=fZ.o.cell 0;have t1:=fZ.o.cell 1;have t2:=fZ.o.cell 2;have t3:=fZ.o.cell 3;have t4:=fZ.o.cell 4;have t5:=fZ.o.cell 5;have t0:wz.cell? ⟨wr.heap.size,0,none⟩=some (.int .i64 z0):=t0;have t1:wz.cell? ⟨wr.heap.size,1,none⟩=some (.int .i64 z1):=t1;have t2:wz.cell? ⟨wr.heap.size,2,none⟩=some (.int .i64 z2):=t2;have t3:wz.cell? ⟨wr.heap.size,3,none⟩=some (.int .i64 z3):=t3;have t4:wz.cell? ⟨wr.heap.size,4,none⟩=some (.int .i64 z4):=t4;have t5:wz.cell? ⟨wr.heap.size,5,none⟩=some (.int .i64 z5):=t5;clear hwz;refine aW (S:=fun w'=>w'.cell? ⟨g5,q*3+2,none⟩=some (.slice (d1.S q) (d1.m q) (d1.cs q))∧w'.cell? ⟨wr.heap.size,0,none⟩=some (.int .i64 z0)∧w'.cell? ⟨wr.heap.size,1,none⟩=some (.int .i64 z1)∧w'.cell? ⟨wr.heap.size,2,none⟩=some (.int .i64 z2)∧w'.cell? ⟨wr.heap.size,3,none⟩=some (.int .i64 z3)∧w'.cell? ⟨wr.heap.size,4,none⟩=some (.int .i64 z4)∧w'.cell? ⟨wr.heap.size,5,none⟩=some (.int .i64 z5)) _ qj qk qk ⟨m2,t0,t1,t2,t3,t4,t5⟩ (fun hHeld=>?_)
     simp only[List.dropLast,List.getLast_cons_cons,List.getLast_singleton,List.length_cons,List.length_nil]
     refine qt 0 hHeld ?_;refine qt 1 hHeld ?_;refine qt 2 hHeld ?_;refine qt 3 hHeld ?_;refine qt 4 hHeld ?_;refine qt 5 hHeld ?_
     simp only[List.getElem_toArray,List.getElem_cons_succ,List.getElem_cons_zero,Act.put,List.setIfInBounds_toArray,List.set_cons_zero,List.set_cons_succ]
     refine wpAnyH_ready (rs:=[6]) qk qj ?_;refine AllReadyH.cons rfl (fun K hK=>?_) AllReadyH.nil
     simp only[List.getElem_toArray,List.getElem_cons_succ,List.getElem_cons_zero]
     go_simp
     refine hK.out _ _ (by go_keep) (fun bW=>?_);clear hK K hHeld;refine wpAnyH_ready (rs:=[7]) qk qj ?_;refine AllReadyH.cons rfl (fun K hK=>?_) AllReadyH.nil
     simp only[List.getElem_toArray,List.getElem_cons_succ,List.getElem_cons_zero]
     have hlo1:=j4.o.lo b iC.o;have hq2:o1.length-1=q:=qo;have hlv:bB o1.length d1=.slice (d1.S q) (d1.m q) (d1.cs q):=by unfold bB;rw[hq2]
     rw[hlv,hq2]at hlo1;have F6:d1.m q≤3000:=by
      have h1:=j4.o.ln q b hb;have h2:=mH.o b (List.mem_of_getElem? hb);omega
     refine cR wz.drew (by rfl) (.tmp 61) (.tmp 63) _ (by rfl) w.heap.size 52 k0 _ 6 48 Tryz.underlying31 hk0 kz ks kb rfl qo (.slice (d1.S q) (d1.m q) (d1.cs q)) (d1.m q) (ints b.2.2) (by rfl) hlo1 _ 1 1 [.int .i64 z0,.int .i64 z1,.int .i64 z2,.int .i64 z3,.int .i64 z4,.int .i64 z5] (by rfl) rfl (by simp[Value.oneCell']) qm qo p8.o.size ?_;intro v8 w8 aZ a8 cN;obtain⟨A8,c8,rfl⟩:=aD aZ;have hge:=FF.o g5 rfl;have gX:=CY.o;rw[hlv]at gX;have hl5:¬(Value.slice (d1.S q) (d1.m q) (d1.cs q)).ownBlock=some g5:=fun e=>j4.o.lv g5 rfl (by rw[hlv];exact e);have gV:g5<wz.heap.size:=by rw[oV.o];omega
     have kE:wr.heap.size<wz.heap.size:=fZ.o.lt;have u2:=(a8.cells (g:=g5) gV hl5 (q*3+2)).trans m2;have v0:=(a8.cells kE gX 0).trans t0;have v1:=(a8.cells kE gX 1).trans t1;have v2:=(a8.cells kE gX 2).trans t2;have v3:=(a8.cells kE gX 3).trans t3;have v4:=(a8.cells kE gX 4).trans t4;have v5:=(a8.cells kE gX 5).trans t5;have f5:w8.frozen? ⟨g5,q*3+2,none⟩=false:=(World.frozen?_of_block (w:=wz.drew) (a:=⟨g5,q*3+2,none⟩) (a8.block g5 gV hl5)).trans (j4.o.own.frozenAt (q*3+2));refine hK.out _ _ ⟨u2,v0,v1,v2,v3,v4,v5⟩ (fun aN=>?_);clear hK K bW;have hZ:=qh ((j4.o.drewN 1).add iC.o (A':=A8) (c':=c8) (s:=[z0,z1,z2,z3,z4,z5]) rfl (by rw[hq2];exact aZ) (by rw[hlv];exact a8) (by rw[hlv,hq2];exact cN));rw[hq2]at hZ;have j7:=qh (Below.setCell (p:=⟨g5,q*3+2,none⟩) (p8.o.drew.trans (a8.own (w:=wz.drew) hlo1 p8.o.size)) hg5 (.slice A8 (d1.m q+1) c8));have kO:=qh ((show aA w8 wr.heap.size 52 #[.int .i64 z0,.int .i64 z1,.int .i64 z2,.int .i64 z3,.int .i64 z4,.int .i64 z5]from aA.fr (w:=wz.drew) (fZ.o.drewN 1) a8 gX).far (p:=⟨g5,q*3+2,none⟩) (fun e=>hge e.symm) (.slice A8 (d1.m q+1) c8));have IY:=qh (show(w8.setCell ⟨g5,q*3+2,none⟩ (.slice A8 (d1.m q+1) c8)).ownsRow w.heap.size 2 1 (.slice (some ⟨wy.heap.size,0,none⟩) 0 0) 0 []from b9 CK.o fun x hx=>by
      injection hx with hx;have hx:wy.heap.size=x:=hx;subst hx;refine(Below.heap_setCell w8 _ _ _ (fun e=>by have e:wy.heap.size=g5:=e;omega)).trans (a8.block _ (by have h4:wz.drew.heap.size=wz.heap.size:=rfl;have h5:=oV.o;omega) (fun e=>by
       have h1:=vY.o _ (.inr (.inl (by rw[hlv];exact e)));omega)))
     have fC:=qh (show∀x,(Value.slice (some ⟨wy.heap.size,0,none⟩) 0 0).ownBlock=some x→¬kJ (.slice (some ⟨g5,0,none⟩) o1.length c4) (aR o1 [z0,z1,z2,z3,z4,z5]) (d1.add q A8 c8) x from fun x hx hi=>by
      injection hx with hx;have hx:wy.heap.size=x:=hx;subst hx;rw[←hq2]at hi
      rcases BU iC.o hi with h1|h1
      ·rw[hq2]at h1
       rcases cN with h2|h2
       ·have h3:=vY.o _ (.inr (.inl (by rw[hlv];exact h2.symm.trans h1)))
        omega
       ·rw[h2]at h1
        injection h1 with h1;have h4:wz.drew.heap.size=wz.heap.size:=rfl;have h5:=oV.o;omega
      ·have h3:=vY.o _ h1
       omega)
     have D6:=qh (fR z0 z1 z2 z3 z4 z5 nn wr.heap.size 0 (w8.setCell ⟨g5,q*3+2,none⟩ (.slice A8 (d1.m q+1) c8)) (qh ⟨kO.o.cell 0,kO.o.cell 1,kO.o.cell 2,kO.o.cell 3,kO.o.cell 4,kO.o.cell 5⟩) qo);rw[dS.o.1]at D6;refine qt 8 aN ?_;refine qt 9 aN ?_
     simp only[List.getElem_toArray,List.getElem_cons_succ,List.getElem_cons_zero,Act.put,List.setIfInBounds_toArray,List.set_cons_zero,List.set_cons_succ]
     refine wpAnyH_done qk ?_ _;refine b8.of ?_
     go_simp
     clear aN v0 v1 v2 v3 v4 v5 u2 f5 a8 aZ cN hlo1
     go_wp2_with fail
     refine D6.o.mono ?_;rintro e w9 ⟨v9,q9,rfl,lB,rfl⟩;rw[lB rfl]
     go_wp2_with fail
     go_roundw
     case rel=>exact⟨k+1,aR o1 (eQ z k),d1.add q A8 c8,some ⟨g5,0,none⟩,c4,by omega,qg,HT1,by rw[aI,hq],by rw[dS.o.2.1],qh (by rw[aI,nJ.o];exact hZ.o.drewN q9),qh (by rw[pW.o];exact own_drewN IY.o q9),qh (by rw[aI,nJ.o];exact fC.o),qh (Below.drewN' j7.o q9)⟩
     case measure=>exact qs
    ·rw[Bool.not_eq_true]at ht
     rw[ht];have oH:¬triv nn L=true:=by rw[ht];exact Bool.false_ne_true
     have cJ:=qh (show flush nn L o=some (o++[((nn:Int),L,[])])by unfold flush;rw[if_neg hlen];exact if_neg oH)
     go_wp2_with (at_builtin;go_must (refine cW w2 rfl (.tmp 44) (.tmp 49) _ rfl w.heap.size 78 j0 _ 3 56 Tryz.underlying47 hj0 jz js jb rfl qo (.slice A4 o.length c4) o.length _ rfl dR.o.own _ 1 1 [.int .i64 nn,.slice A6 L.length c6,.slice none 0 0] w2.heap.size rfl rfl rfl (by simp[Value.oneCell']) qm qo HB2.o.size ?_);intro v' w' hown' hf' hat';have HOWN':=qh hown';have bL:=qh hf';have dT:=qh hat';clear hown' hf' hat')
     obtain⟨A7,c7,rfl⟩:=aD HOWN'.o;have nD:=qh (dR.o.push (A:=A6) (W:=L) (c:=c6) (n:=nn) (bI HW2.o) (fun x hx e=>by
      obtain⟨_,a,rfl,rfl⟩:=hx;exact eX.o _ rfl (.inl e)) (fun x hx=>by obtain⟨_,a,rfl,rfl⟩:=hx;exact(HW2.o.lt _ rfl).1) HOWN'.o bL.o dT.o)
     have cI:=qh (HB2.o.trans (bL.o.own dR.o.own HB2.o.size));have JN:=qh (D3.o.fr bL.o (fun e=>Nat.lt_irrefl _ (p5.o _ (.inl e))));have mH:=qh (show∀b∈o++[((nn:Int),L,[])],b.2.2.length≤k*6 from fun b hb=>by
      rcases List.mem_append.1 hb with hb|hb
      ·exact HST.o b hb
      ·rw[List.mem_singleton.1 hb]
       exact Nat.zero_le _)
     have CY:=qh (show¬(bB (o++[((nn:Int),L,[])]).length (d.push o.length A6 c6)).ownBlock=some wr.heap.size from fun e=>by
      simp[bB,aV.push,Value.ownBlock]at e)
     have FF:=qh (show∀g,(Value.slice A7 (o.length+1) c7).ownBlock=some g→g≠wr.heap.size from fun g hg e=>by
      rcases dT.o with h1|h1
      ·exact Nat.lt_irrefl _ (e▸p5.o g (.inl (h1.symm.trans hg)))
      ·rw[h1]at hg
       injection hg with hg;have h2:=D3.o.lt;omega)
     have hol:(o++[((nn:Int),L,[])]).length=o.length+1:=by simp
     obtain⟨d1,hd1⟩:=qx (d.push o.length A6 c6);obtain⟨o1,ho1⟩:=qx (o++[((nn:Int),L,[])]);have cZ:=qh (show cB w.heap.size (.slice A7 o1.length c7) o1 d1 w' from by rw[hd1,ho1,hol];exact nD.o);rw[←ho1]at cJ mH CY hol;rw[←hd1]at CY;rw[←hol]at FF;clear ho1 hd1 nD HOWN' bL dT dR HB2 D3 HW2 eX;obtain⟨wy,tF⟩:=qx (w');subst tF;have HT1:=qh (show cG z (k+1)=some (aR o1 (eQ z k))by rw[l7.o,cJ.o];rfl);obtain⟨q,hq⟩:∃q,o1.length=q+1:=⟨o1.length-1,by omega⟩;obtain⟨b,hb⟩:∃b,o1[q]?=some b:=⟨_,List.getElem?_eq_getElem qo⟩;have iC:=qh (show o1.getLast?=some b by rw[List.getLast?_eq_getElem?,hq];exact hb);obtain⟨g5,c5,hv5,hg5,jT⟩:=cZ.o.form qo;injection hv5 with hv5 _ lC;subst hv5 lC;have j4:=qh (cZ.o.below ((Below.refl _ _).alloc ql (.cells #[] 2)));have fZ:=qh (JN.o.alloc (.cells #[] 2));have p8:=qh (cI.o.alloc cI.o.size (.cells #[] 2));have CK:=qh (World.ownsRow_made (base:=w.heap.size) (e:=2) (size:=1) wy #[] 0 cI.o.size qm rfl);have oV:=qh (show(wy.alloc (.cells #[] 2)).heap.size=wy.heap.size+1 by simp);have vY:=qh (fun x hx=>cZ.o.jS (by omega:0<o1.length) (x:=x) hx);have hq1:q≤3000:=qo;have b4:(0:Int)≤(q:Int):=qo;have b5:(q:Int)<((q+1:Nat):Int):=qo;have e7:((q+1:Nat):Int)-1=(q:Int):=qo;rw[show o.length+1=q+1 by omega]
     go_wp2_with fail
     obtain⟨wz,hwz⟩:=qx (wy.alloc (.cells #[] 2));rw[←hwz]at j4 fZ p8 CK oV ⊢;obtain⟨_,_,m2⟩:=kH j4.o hb;have t0:=fZ.o.cell 0;have t1:=fZ.o.cell 1;have t2:=fZ.o.cell 2;have t3:=fZ.o.cell 3;have t4:=fZ.o.cell 4;have t5:=fZ.o.cell 5;have t0:wz.cell? ⟨wr.heap.size,0,none⟩=some (.int .i64 z0):=t0;have t1:wz.cell? ⟨wr.heap.size,1,none⟩=some (.int .i64 z1):=t1;have t2:wz.cell? ⟨wr.heap.size,2,none⟩=some (.int .i64 z2):=t2;have t3:wz.cell? ⟨wr.heap.size,3,none⟩=some (.int .i64 z3):=t3;have t4:wz.cell? ⟨wr.heap.size,4,none⟩=some (.int .i64 z4):=t4;have t5:wz.cell? ⟨wr.heap.size,5,none⟩=some (.int .i64 z5):=t5;clear hwz;refine aW (S:=fun w'=>w'.cell? ⟨g5,q*3+2,none⟩=some (.slice (d1.S q) (d1.m q) (d1.cs q))∧w'.cell? ⟨wr.heap.size,0,none⟩=some (.int .i64 z0)∧w'.cell? ⟨wr.heap.size,1,none⟩=some (.int .i64 z1)∧w'.cell? ⟨wr.heap.size,2,none⟩=some (.int .i64 z2)∧w'.cell? ⟨wr.heap.size,3,none⟩=some (.int .i64 z3)∧w'.cell? ⟨wr.heap.size,4,none⟩=some (.int .i64 z4)∧w'.cell? ⟨wr.heap.size,5,none⟩=some (.int .i64 z5)) _ qj qk qk ⟨m2,t0,t1,t2,t3,t4,t5⟩ (fun hHeld=>?_)
     simp only[List.dropLast,List.getLast_cons_cons,List.getLast_singleton,List.length_cons,List.length_nil]
     refine qt 0 hHeld ?_;refine qt 1 hHeld ?_;refine qt 2 hHeld ?_;refine qt 3 hHeld ?_;refine qt 4 hHeld ?_;refine qt 5 hHeld ?_
     simp only[List.getElem_toArray,List.getElem_cons_succ,List.getElem_cons_zero,Act.put,List.setIfInBounds_toArray,List.set_cons_zero,List.set_cons_succ]
     refine wpAnyH_ready (rs:=[6]) qk qj ?_;refine AllReadyH.cons rfl (fun K hK=>?_) AllReadyH.nil
     simp only[List.getElem_toArray,List.getElem_cons_succ,List.getElem_cons_zero]
     go_simp
     refine hK.out _ _ (by go_keep) (fun bW=>?_);clear hK K hHeld;refine wpAnyH_ready (rs:=[7]) qk qj ?_;refine AllReadyH.cons rfl (fun K hK=>?_) AllReadyH.nil
     simp only[List.getElem_toArray,List.getElem_cons_succ,List.getElem_cons_zero]
     have hlo1:=j4.o.lo b iC.o;have hq2:o1.length-1=q:=qo;have hlv:bB o1.length d1=.slice (d1.S q) (d1.m q) (d1.cs q):=by unfold bB;rw[hq2]
     rw[hlv,hq2]at hlo1;have F6:d1.m q≤3000:=by
      have h1:=j4.o.ln q b hb;have h2:=mH.o b (List.mem_of_getElem? hb);omega
     refine cR wz.drew (by rfl) (.tmp 61) (.tmp 63) _ (by rfl) w.heap.size 52 k0 _ 6 48 Tryz.underlying31 hk0 kz ks kb rfl qo (.slice (d1.S q) (d1.m q) (d1.cs q)) (d1.m q) (ints b.2.2) (by rfl) hlo1 _ 1 1 [.int .i64 z0,.int .i64 z1,.int .i64 z2,.int .i64 z3,.int .i64 z4,.int .i64 z5] (by rfl) rfl (by simp[Value.oneCell']) qm qo p8.o.size ?_;intro v8 w8 aZ a8 cN;obtain⟨A8,c8,rfl⟩:=aD aZ;have hge:=FF.o g5 rfl;have gX:=CY.o;rw[hlv]at gX;have hl5:¬(Value.slice (d1.S q) (d1.m q) (d1.cs q)).ownBlock=some g5:=fun e=>j4.o.lv g5 rfl (by rw[hlv];exact e);have gV:g5<wz.heap.size:=by rw[oV.o];omega
     have kE:wr.heap.size<wz.heap.size:=fZ.o.lt;have u2:=(a8.cells (g:=g5) gV hl5 (q*3+2)).trans m2;have v0:=(a8.cells kE gX 0).trans t0;have v1:=(a8.cells kE gX 1).trans t1;have v2:=(a8.cells kE gX 2).trans t2;have v3:=(a8.cells kE gX 3).trans t3;have v4:=(a8.cells kE gX 4).trans t4;have v5:=(a8.cells kE gX 5).trans t5;have f5:w8.frozen? ⟨g5,q*3+2,none⟩=false:=(World.frozen?_of_block (w:=wz.drew) (a:=⟨g5,q*3+2,none⟩) (a8.block g5 gV hl5)).trans (j4.o.own.frozenAt (q*3+2));refine hK.out _ _ ⟨u2,v0,v1,v2,v3,v4,v5⟩ (fun aN=>?_);clear hK K bW;have hZ:=qh ((j4.o.drewN 1).add iC.o (A':=A8) (c':=c8) (s:=[z0,z1,z2,z3,z4,z5]) rfl (by rw[hq2];exact aZ) (by rw[hlv];exact a8) (by rw[hlv,hq2];exact cN));rw[hq2]at hZ;have j7:=qh (Below.setCell (p:=⟨g5,q*3+2,none⟩) (p8.o.drew.trans (a8.own (w:=wz.drew) hlo1 p8.o.size)) hg5 (.slice A8 (d1.m q+1) c8));have kO:=qh ((show aA w8 wr.heap.size 52 #[.int .i64 z0,.int .i64 z1,.int .i64 z2,.int .i64 z3,.int .i64 z4,.int .i64 z5]from aA.fr (w:=wz.drew) (fZ.o.drewN 1) a8 gX).far (p:=⟨g5,q*3+2,none⟩) (fun e=>hge e.symm) (.slice A8 (d1.m q+1) c8));have IY:=qh (show(w8.setCell ⟨g5,q*3+2,none⟩ (.slice A8 (d1.m q+1) c8)).ownsRow w.heap.size 2 1 (.slice (some ⟨wy.heap.size,0,none⟩) 0 0) 0 []from b9 CK.o fun x hx=>by
      injection hx with hx;have hx:wy.heap.size=x:=hx;subst hx;refine(Below.heap_setCell w8 _ _ _ (fun e=>by have e:wy.heap.size=g5:=e;omega)).trans (a8.block _ (by have h4:wz.drew.heap.size=wz.heap.size:=rfl;have h5:=oV.o;omega) (fun e=>by
       have h1:=vY.o _ (.inr (.inl (by rw[hlv];exact e)));omega)))
     have fC:=qh (show∀x,(Value.slice (some ⟨wy.heap.size,0,none⟩) 0 0).ownBlock=some x→¬kJ (.slice (some ⟨g5,0,none⟩) o1.length c7) (aR o1 [z0,z1,z2,z3,z4,z5]) (d1.add q A8 c8) x from fun x hx hi=>by
      injection hx with hx;have hx:wy.heap.size=x:=hx;subst hx;rw[←hq2]at hi
      rcases BU iC.o hi with h1|h1
      ·rw[hq2]at h1
       rcases cN with h2|h2
       ·have h3:=vY.o _ (.inr (.inl (by rw[hlv];exact h2.symm.trans h1)))
        omega
       ·rw[h2]at h1
        injection h1 with h1;have h4:wz.drew.heap.size=wz.heap.size:=rfl;have h5:=oV.o;omega
      ·have h3:=vY.o _ h1
       omega)
     have D6:=qh (fR z0 z1 z2 z3 z4 z5 nn wr.heap.size 0 (w8.setCell ⟨g5,q*3+2,none⟩ (.slice A8 (d1.m q+1) c8)) (qh ⟨kO.o.cell 0,kO.o.cell 1,kO.o.cell 2,kO.o.cell 3,kO.o.cell 4,kO.o.cell 5⟩) qo);rw[dS.o.1]at D6;refine qt 8 aN ?_;refine qt 9 aN ?_
     simp only[List.getElem_toArray,List.getElem_cons_succ,List.getElem_cons_zero,Act.put,List.setIfInBounds_toArray,List.set_cons_zero,List.set_cons_succ]
     refine wpAnyH_done qk ?_ _;refine b8.of ?_
     go_simp
     clear aN v0 v1 v2 v3 v4 v5 u2 f5 a8 aZ cN hlo1
     go_wp2_with fail
     refine D6.o.mono ?_;rintro e w9 ⟨v9,q9,rfl,lB,rfl⟩;rw[lB rfl]
     go_wp2_with fail
     go_roundw
     case rel=>exact⟨k+1,aR o1 (eQ z k),d1.add q A8 c8,some ⟨g5,0,none⟩,c7,by omega,qg,HT1,by rw[aI,hq],by rw[dS.o.2.1],qh (by rw[aI,nJ.o];exact hZ.o.drewN q9),qh (by rw[pW.o];exact own_drewN IY.o q9),qh (by rw[aI,nJ.o];exact fC.o),qh (Below.drewN' j7.o q9)⟩
     case measure=>exact qs
  ·obtain rfl:N=k:=qo
   have cK:=qh (show cA z N=(flush (bC z N) (dC z N) o).bind fun o=>if o.length≤60 then some o else none from by unfold cA;rw[HT.o];rfl);have p5:=qh (fun x hx=>HM.o.jS (by omega:0<o.length) (x:=x) hx);obtain⟨n,hn⟩:=qx (bC z N);obtain⟨L,hL⟩:=qx (dC z N);rw[←hn]at kP hH cK ⊢;rw[←hL]at eW hwl hH cK;clear hn hL;have hcn:=kP.o;obtain⟨A6,c6,rfl⟩:=aD eW.o
   by_cases hlen:40<L.length
   ·have bX:=qh (show cA z N=none from by rw[cK.o];unfold flush;rw[if_pos hlen];rfl)
    have hl2:(40:Int)<(L.length:Int):=qo
    go_wp2_with fail
    go_ret2
    exact⟨HB.o,by rw[bX.o];rfl⟩
   have hl2:¬(40:Int)<(L.length:Int):=qo;obtain⟨nn,rfl⟩:∃nn:Nat,n=nn:=⟨n.toNat,(Int.toNat_of_nonneg kP.o.1).symm⟩;have mD:=qh (show Calls Tryz.prog 34 #[.int .i64 nn,.slice A6 L.length c6,.slice none 0 0] wr _ from lV (n:=nn) L [] A6 none c6 0 _ (bI eW.o) (fun h0=>absurd h0 (Nat.lt_irrefl 0)) qo hH.o (fun x hx=>by cases hx) qo qj)
   go_wp2_with fail
   refine mD.o.mono ?_;rintro e w2 ⟨rfl,hb2⟩;rw[jD];have HB2:=HB.st hb2;have dR:=qh (HM.o.below hb2);have HW2:=qh (own_below eW.o hb2);clear hb2 mD HB HM eW
   by_cases ht:triv nn L=true
   ·rw[ht]
    have cJ:=qh (show flush nn L o=some o by unfold flush;rw[if_neg hlen];exact if_pos ht)
    by_cases h60:60<o.length
    ·have bX:=qh (show cA z N=none from by rw[cK.o,cJ.o,Option.bind_some];exact if_neg qo)
     have h61:(60:Int)<(o.length:Int):=qo
     go_wp2_with fail
     go_ret2
     exact⟨HB2.o,by rw[bX.o];rfl⟩
    ·have bX:=qh (show cA z N=some o from by rw[cK.o,cJ.o,Option.bind_some];exact if_pos qo)
     have h61:¬(60:Int)<(o.length:Int):=qo
     go_wp2_with fail
     go_ret2
     exact⟨HB2.o,by rw[bX.o];exact⟨A4,c4,d,rfl,dR.o⟩⟩
   ·have hol:(o++[((nn:Int),L,[])]).length=o.length+1:=by simp
    have HOL:=qh hol;clear hol
    by_cases h60:60<o.length+1
    ·have h62:(60:Int)<(o.length:Int)+1:=qo
     rw[Bool.not_eq_true]at ht;rw[ht];have oH:¬triv nn L=true:=by rw[ht];exact Bool.false_ne_true
     have cJ:=qh (show flush nn L o=some (o++[((nn:Int),L,[])])by unfold flush;rw[if_neg hlen];exact if_neg oH)
     go_wp2_with (at_builtin;go_must (refine cW w2 rfl (.tmp 79) (.tmp 84) _ rfl w.heap.size 78 j0 _ 3 56 Tryz.underlying47 hj0 jz js jb rfl qo (.slice A4 o.length c4) o.length _ rfl dR.o.own _ 1 1 [.int .i64 nn,.slice A6 L.length c6,.slice none 0 0] w2.heap.size rfl rfl rfl (by simp[Value.oneCell']) qm qo HB2.o.size ?_);intro v' w' hown' hf' hat';obtain⟨A7,c7,rfl⟩:=aD hown';have HOWN':=qh hown';have bL:=qh hf';have dT:=qh hat';clear hown' hf' hat')
     have nD:=qh (dR.o.push (A:=A6) (W:=L) (c:=c6) (n:=nn) (bI HW2.o) (fun x hx e=>by
      obtain⟨_,a,rfl,rfl⟩:=hx;exact eX.o _ rfl (.inl e)) (fun x hx=>by obtain⟨_,a,rfl,rfl⟩:=hx;exact(HW2.o.lt _ rfl).1) HOWN'.o bL.o dT.o)
     have cI:=qh (HB2.o.trans (bL.o.own dR.o.own HB2.o.size));have bX:=qh (show cA z N=none from by rw[cK.o,cJ.o,Option.bind_some];exact if_neg (by have:=HOL.o;omega))
     go_wp2_with fail
     go_ret2
     exact⟨cI.o,by rw[bX.o];rfl⟩
    ·have h62:¬(60:Int)<(o.length:Int)+1:=qo
     rw[Bool.not_eq_true]at ht;rw[ht];have oH:¬triv nn L=true:=by rw[ht];exact Bool.false_ne_true
     have cJ:=qh (show flush nn L o=some (o++[((nn:Int),L,[])])by unfold flush;rw[if_neg hlen];exact if_neg oH)
     go_wp2_with (at_builtin;go_must (refine cW w2 rfl (.tmp 79) (.tmp 84) _ rfl w.heap.size 78 j0 _ 3 56 Tryz.underlying47 hj0 jz js jb rfl qo (.slice A4 o.length c4) o.length _ rfl dR.o.own _ 1 1 [.int .i64 nn,.slice A6 L.length c6,.slice none 0 0] w2.heap.size rfl rfl rfl (by simp[Value.oneCell']) qm qo HB2.o.size ?_);intro v' w' hown' hf' hat';obtain⟨A7,c7,rfl⟩:=aD hown';have HOWN':=qh hown';have bL:=qh hf';have dT:=qh hat';clear hown' hf' hat')
     have nD:=qh (dR.o.push (A:=A6) (W:=L) (c:=c6) (n:=nn) (bI HW2.o) (fun x hx e=>by
      obtain⟨_,a,rfl,rfl⟩:=hx;exact eX.o _ rfl (.inl e)) (fun x hx=>by obtain⟨_,a,rfl,rfl⟩:=hx;exact(HW2.o.lt _ rfl).1) HOWN'.o bL.o dT.o)
     have cI:=qh (HB2.o.trans (bL.o.own dR.o.own HB2.o.size));have bX:=qh (show cA z N=some (o++[((nn:Int),L,[])])from by rw[cK.o,cJ.o,Option.bind_some];exact if_pos (by have:=HOL.o;omega))
     go_wp2_with fail
     go_ret2
     exact⟨cI.o,by rw[bX.o];exact⟨A7,c7,d.push o.length A6 c6,(by rw[HOL.o];rfl),by rw[HOL.o];exact nD.o⟩⟩
end Go.Proofs.YtmnbgjnipbpiaaaGreat
