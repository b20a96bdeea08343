/- Walks and plain lemmas. -/
import Derived.Test.YtmnbgjnipbpiaaaGreatP36
import Derived.Test.YtmnbgjnipbpiaaaGreatP34
set_option linter.unusedVariables false
set_option linter.unusedSimpArgs false
set_option maxHeartbeats 8000000
set_option maxRecDepth 20000
namespace Go.Proofs.YtmnbgjnipbpiaaaGreat
open Go.RowKit
theorem cB.base {B B':Nat}{v:Value}{o:List aF}{d:aV}{w:World}(h:cB B v o d w)(hB:B'≤B):cB B' v o d w:=⟨eK h.own hB,h.rw,h.ln,h.rs,h.fw,h.fs,fun b hl=>eK (h.lo b hl) hB,h.lv,fun j b hj x hx=>Nat.le_trans hB (h.bw j b hj x hx),fun j b hj x hx=>Nat.le_trans hB (h.bs j b hj x hx)⟩
def Q5 (w:World)(z:Nat→Int)(n:Nat)(e:Ending)(w':World):Prop:=Below w.heap.size w w'∧if(dY z n).isSome=true then(match cA z n with
 |none=>∃v,e=.returned (.tuple #[v,.int .i64 5])
 |some o=>∃A c d,e=.returned (.tuple #[.slice A o.length c,.int .i64 0])∧cB w.heap.size (.slice A o.length c) o d w')else∃v,e=.returned (.tuple #[v,.int .i64 1])
theorem vG (A:OA)(n c:Nat)(z:Nat→Int)(w:World)(ha:Rd w A (n*6) (fun j=>.int .i64 (z j)))(hn:n≤1048576):
 Calls Tryz.prog 43 #[.slice A n c] w (Q5 w z n):=by
 have HA:=qh ha;clear ha
 go_enter Tryz.func43,Tryz.ntmps43
 go_wp2_with fail
 refine(jA A n c z w HA.o hn).mono ?_;rintro e w1 ⟨rfl,hb1⟩;have HA1:=qh (HA.o.below hb1);have HW1:=qh hb1;clear hb1
 cases h1:(dY z n).isSome with
 |false=>
  have HC:=qh h1;clear h1
  go_wp2_with fail
  go_ret2
  exact⟨HW1.o,by rw[if_neg (by rw[HC.o];exact Bool.false_ne_true)];exact⟨_,rfl⟩⟩
 |true=>
  have HC:=qh h1;obtain⟨hN,hv⟩:=mQ h1;have HX:=qh (zY A n c z w1 HA1.o hN hv);clear h1 hv
  go_wp2_with fail
  refine HX.o.mono ?_;rintro e w3 ⟨hb3,h3⟩;have HW3:=HW1.st hb3;clear hb3 HX
  cases hF:cA z n with
  |none=>
   rw[hF]at h3;have h3:e=.returned (.tuple #[.slice none 0 0,.int .i64 5]):=h3;subst h3;have HF:=qh hF;clear hF
   go_wp2_with fail
   go_ret2
   exact⟨HW3.o,by rw[if_pos HC.o,HF.o];exact⟨_,rfl⟩⟩
  |some o=>
   rw[hF]at h3;obtain⟨A3,c3,d3,I9,y7⟩:=h3;subst I9;have HM:=qh y7;have HF:=qh hF;have hsz:=HW1.o.size;clear hF y7
   go_wp2_with fail
   go_ret2
   exact⟨HW3.o,by rw[if_pos HC.o,HF.o];exact⟨A3,c3,d3,rfl,HM.o.base hsz⟩⟩
def P6 (w:World)(z:Nat→Int)(n:Nat)(e:Ending)(w':World):Prop:=Below w.heap.size w w'∧if(dY z n).isSome=true then(match cA z n with
 |none=>e=.returned (.tuple #[.agg #[.slice none 0 0,.slice none 0 0],.int .i64 5])
 |some o=>∃A c B d,e=.returned (.tuple #[.agg #[.slice A (bS o).length c,.slice B (bR o).length d],.int .i64 0])∧cE true w' A B (bS o) (bR o))else e=.returned (.tuple #[.agg #[.slice none 0 0,.slice none 0 0],.int .i64 1])
theorem wT (A:OA)(n c:Nat)(z:Nat→Int)(w:World)(ha:Rd w A (n*6) (fun j=>.int .i64 (z j)))(hn:n≤1048576):
 Calls Tryz.prog 24 #[.slice A n c] w (P6 w z n):=by
 obtain⟨i0,hi,iz,is,ib⟩:=info_parts xV;obtain⟨j0,hj,jz,js,jb⟩:=info_parts xW;have DA:=qh ((Below.refl w.heap.size w).alloc ql (.cells #[.slice none 0 0,.slice none 0 0] 36));have yV:=qh (vG A n c z _ (ha.below DA.o) hn);have IV:=qh (aA.at_ w 36 #[.slice none 0 0,.slice none 0 0] rfl);clear ha
 go_enter Tryz.func24,Tryz.ntmps24
 go_wp2_with fail
 refine yV.o.mono ?_;rintro e w1 ⟨hb1,h1⟩;have HB1:=DA.st hb1;have vP:=qh (IV.o.below hb1 IV.o.lt);clear yV IV;have hz1:w.heap.size<w1.heap.size:=vP.o.lt;have FIN:=qh (show∀v0 v1:Value,aA ((w1.setCell ⟨w.heap.size,0,none⟩ v0).setCell ⟨w.heap.size,1,none⟩ v1) w.heap.size 36 #[v0,v1]from fun v0 v1=>(vP.o.cM 0 v0).cM 1 v1);have y0:w1.cell? ⟨w.heap.size,0,none⟩=some (.slice none 0 0):=vP.o.cell 0;have y1:w1.cell? ⟨w.heap.size,1,none⟩=some (.slice none 0 0):=vP.o.cell 1;have GM:=vP.o.frozen 0;have GL:=vP.o.frozen 1
 by_cases hC:(dY z n).isSome=true
 case neg=>
  rw[if_neg hC]at h1;obtain⟨v,rfl⟩:=h1;have HC:=qh hC;clear hb1 hC
  go_wp2_with fail
  have k0:=(FIN.out (.slice none 0 0) (.slice none 0 0)).cell 0;have k1:=(FIN.out (.slice none 0 0) (.slice none 0 0)).cell 1;have dN:=qh ((HB1.o.setCell (p:=⟨w.heap.size,0,none⟩) qj (.slice none 0 0)).setCell (p:=⟨w.heap.size,1,none⟩) qj (.slice none 0 0));obtain⟨w9,dJ⟩:∃w9,w9=((w1.setCell ⟨w.heap.size,0,none⟩ (.slice none 0 0)).setCell ⟨w.heap.size,1,none⟩ (.slice none 0 0)):=⟨_,rfl⟩;rw[←dJ]at k0 k1 dN ⊢;have k0:w9.cell? ⟨w.heap.size,0,none⟩=some (.slice none 0 0):=k0;have k1:w9.cell? ⟨w.heap.size,1,none⟩=some (.slice none 0 0):=k1;clear dJ y0 y1 GM GL
  (try simp only[Exit.inBlock,Exit.then])
  refine bodyPost_ret (by simp[results,Tryz.results24,go_sem,k0,k1];try rfl) rfl ?_;exact⟨dN.o,by rw[if_neg HC.o]⟩
 rw[if_pos hC]at h1;have HC:=qh hC;clear hC
 cases hF:cA z n with
 |none=>
  rw[hF]at h1;obtain⟨v,rfl⟩:=h1;have HF:=qh hF;clear hb1 hF
  go_wp2_with fail
  have k0:=(FIN.out (.slice none 0 0) (.slice none 0 0)).cell 0;have k1:=(FIN.out (.slice none 0 0) (.slice none 0 0)).cell 1;have dN:=qh ((HB1.o.setCell (p:=⟨w.heap.size,0,none⟩) qj (.slice none 0 0)).setCell (p:=⟨w.heap.size,1,none⟩) qj (.slice none 0 0));obtain⟨w9,dJ⟩:∃w9,w9=((w1.setCell ⟨w.heap.size,0,none⟩ (.slice none 0 0)).setCell ⟨w.heap.size,1,none⟩ (.slice none 0 0)):=⟨_,rfl⟩;rw[←dJ]at k0 k1 dN ⊢;have k0:w9.cell? ⟨w.heap.size,0,none⟩=some (.slice none 0 0):=k0;have k1:w9.cell? ⟨w.heap.size,1,none⟩=some (.slice none 0 0):=k1;clear dJ y0 y1 GM GL
  (try simp only[Exit.inBlock,Exit.then])
  refine bodyPost_ret (by simp[results,Tryz.results24,go_sem,k0,k1];try rfl) rfl ?_;exact⟨dN.o,by rw[if_pos HC.o,HF.o]⟩
 |some o=>
 rw[hF]at h1;obtain⟨A3,c3,d,rfl,hm⟩:=h1;have HF:=qh hF;have HM:=qh hm;obtain⟨hN,hv⟩:=mQ HC.o;have nH:=qh (oS hv hF);have hol:=(oS hv hF).2;have hds:(w.alloc (.cells #[.slice none 0 0,.slice none 0 0] 36)).heap.size=w.heap.size+1:=by simp
 rw[hds]at HM;obtain⟨N,IB⟩:=qx (o.length);have HN:=qh IB;rw[←IB]at hol ⊢;have LX:=qh (show nC w1 A3 o d from hm.KT);have mJ:=qh (HB1.o.alloc (Nat.le_of_lt hz1) (.cells #[.slice none 0 0,.slice none 0 0] 36));have HZ0:=qh (aA.at_ w1 36 #[.slice none 0 0,.slice none 0 0] rfl);have yJ:=qh (vP.o.alloc (.cells #[.slice none 0 0,.slice none 0 0] 36));clear hb1 hF hm hv hds IB y0 y1 GM GL FIN hN
 go_wp2_with fail
 obtain⟨w0,hw0⟩:∃w0,w0=(w1.alloc (.cells #[.slice none 0 0,.slice none 0 0] 36)):=⟨_,rfl⟩;rw[←hw0]at mJ HZ0 yJ ⊢;have HP:=qh (PrM.nil (q:=true) (fun b=>b=w.heap.size∨b=w1.heap.size) (w1.heap.size+1) (fun b hb=>by omega) w0);have JX:=qh (show Below w1.heap.size w1 w0 from by rw[hw0];exact qb);clear hw0
 go_loopw [8,21] (fun _ x wr=>∃(k:Nat) (GA:List rB) (KA:List CF) (v1 v2:Value),k≤N∧x=.int .i64 k∧Hq (GA.map (·.1)=bS (o.take k))∧Hq (KA.map (·.1)=bR (o.take k))∧Hq (PrM true (fun b=>b=w.heap.size∨b=w1.heap.size) (w1.heap.size+1) v1 v2 GA KA wr)∧Hq (aA wr w1.heap.size 36 #[v1,v2])∧Hq (aA wr w.heap.size 36 #[.slice none 0 0,.slice none 0 0])∧Hq (Below w1.heap.size w1 wr)) (fun _ x _=>N-(intOf x).toNat)
 case atStart=>exact⟨0,[],[],_,_,Nat.zero_le _,rfl,qh rfl,qh rfl,HP,HZ0,yJ,JX⟩
 case round=>
  clear HP HZ0 yJ JX mJ;obtain⟨k,GA,KA,v1,v2,hk,rfl,p6,p4,HP,HZ,HY,HB⟩:=hrel;have D4:=qh (show GA.length=k from by rw[fJ p6.o,yA o k (by rw[←HN.o];exact hk)]);have D1:=qh (show KA.length=k from by rw[fJ p4.o,xK o k (by rw[←HN.o];exact hk)]);have BV:=HZ.o.lt
  by_cases hlt:k<N
  ·obtain⟨b,hb⟩:=dD (L:=o) (k:=k) (by have:=HN.o;omega)
   have mK:=qh hb;obtain⟨g,off,rfl,hg,hr⟩:=LX.o (by have:=HN.o;omega);have hbt:=(hr k b hb).below HB.o;have jO:=qh hbt;obtain⟨hgo,N8⟩:=nH.o.1 b (List.mem_of_getElem? hb);obtain⟨n2,hn2⟩:∃n:Nat,b.1=n:=⟨b.1.toNat,(Int.toNat_of_nonneg hgo.1).symm⟩;have hbn:b.1.toNat=n2:=qo;have tH:n2≤12:=by have:=hgo.2.1;omega
   have hwd:G.Word n2 b.2.1:=by rw[←hbn];exact hgo.2.2.1
   have hwl:=hgo.2.2.2;have bT:=qh (fun w' (hr:aG w' (d.W k) b.2.1)=>iN (n:=n2) b.2.1 (d.W k) (d.cw k) w' hr (iK hwd) qo hwd qo);have wA:=qh (show n9 b=((n2:Int),(G.acts n2 ((0,[]):Int×List (G.PM n2)) b.2.1).1,(G.acts n2 ((0,[]):Int×List (G.PM n2)) b.2.1).2.map G.pl)from by unfold n9;rw[hn2];rfl);have c0:=hbt.c0;have c1:=hbt.c1;have c2:=hbt.c2;rw[hn2]at c0;have fN:=qh hbt.ln;have PH:=qh (fun x hx=>HM.o.bs k b hb x hx);have HSL:=qh (fun x hx=>(aB (d.S k) (d.m k*6) _).2 w1 x (HM.o.rs k b hb) hx);obtain⟨A1,q1,rfl⟩:=aD HP.o.o1;obtain⟨A2,q2,rfl⟩:=aD HP.o.o2;have hbz:=HB.o.size;have b1:(0:Int)≤(k:Int):=qo;have b2:(k:Int)<(N:Int):=qo;have eS:=qh (aA.at_ wr 78 #[.int .i64 n2,.slice (d.W k) b.2.1.length (d.cw k),.slice (d.S k) (d.m k) (d.cs k)] rfl);have HA2:=qh ((Below.refl wr.heap.size wr).alloc ql (.cells #[.int .i64 n2,.slice (d.W k) b.2.1.length (d.cw k),.slice (d.S k) (d.m k) (d.cs k)] 78));clear hb hr hbt hgo hg N8
   go_upto_region 8 with fail
   obtain⟨wa,xZ⟩:=qx (wr.alloc (.cells #[.int .i64 n2,.slice (d.W k) b.2.1.length (d.cw k),.slice (d.S k) (d.m k) (d.cs k)] 78));rw[←xZ]at eS HA2 ⊢;have hwaz:wa.heap.size=wr.heap.size+1:=by rw[xZ];simp
   clear xZ;have JA:=qh (HP.o.below HA2.o);have FA:=qh (HZ.o.below HA2.o BV);have yJ:=qh (HY.o.below HA2.o HY.o.lt);have j7:=qh (HB.o.trans (HA2.o.mono HB.o.size));have HRW:=qh (Rd.below jO.o.rw HA2.o);have z0:wa.cell? ⟨w1.heap.size,0,none⟩=some (.slice A1 GA.length q1):=FA.o.cell 0;have s0:wa.cell? ⟨wr.heap.size,0,none⟩=some (.int .i64 n2):=eS.o.cell 0;have s1:wa.cell? ⟨wr.heap.size,1,none⟩=some (.slice (d.W k) b.2.1.length (d.cw k)):=eS.o.cell 1;have zf:=FA.o.frozen 0;have hza:=FA.o.lt;have hba:=eS.o.lt;have PP:=qh (show¬(Value.slice A1 GA.length q1).ownBlock=some wr.heap.size from fun e=>by have:=(HP.o.o1.lt _ e).2;omega);clear HP HZ HY HB c0 c1 c2;refine aW (S:=fun w'=>w'.cell? ⟨w1.heap.size,0,none⟩=some (.slice A1 GA.length q1)∧w'.cell? ⟨wr.heap.size,0,none⟩=some (.int .i64 n2)∧w'.cell? ⟨wr.heap.size,1,none⟩=some (.slice (d.W k) b.2.1.length (d.cw k))) _ qj qk qk ⟨z0,s0,s1⟩ (fun hHeld=>?_)
   simp only[List.dropLast,List.getLast_cons_cons,List.getLast_singleton,List.length_cons,List.length_nil]
   refine qt 0 hHeld ?_;refine qt 1 hHeld ?_;refine qt 2 hHeld ?_;refine qt 3 hHeld ?_;refine qt 4 hHeld ?_;refine qt 5 hHeld ?_;refine qt 6 hHeld ?_;refine qt 7 hHeld ?_
   simp only[List.getElem_toArray,List.getElem_cons_succ,List.getElem_cons_zero,Act.put,List.setIfInBounds_toArray,List.set_cons_zero,List.set_cons_succ]
   refine wpAnyH_ready (rs:=[8]) qk qj ?_;refine AllReadyH.cons rfl (fun K hK=>?_) AllReadyH.nil
   simp only[List.getElem_toArray,List.getElem_cons_succ,List.getElem_cons_zero]
   go_simp
   refine(bT.o wa.drew (HRW.o.drewN 1)).mono ?_;rintro e w4 ⟨v4,bs4,OZ,rfl,hl4,hb4⟩;obtain⟨A4,c4,rfl⟩:=hl4.own.sl;have s9:=a7 hb4 hza z0;have GR:=a7 hb4 hba s0;have GQ:=a7 hb4 hba s1;refine hK.out _ _ ⟨s9,GR,GQ⟩ (fun iR=>?_);clear hK K hHeld;refine wpAnyH_ready (rs:=[9]) qk qj ?_;refine AllReadyH.cons rfl (fun K hK=>?_) AllReadyH.nil
   simp only[List.getElem_toArray,List.getElem_cons_succ,List.getElem_cons_zero]
   go_simp
   refine hK.out _ _ (by go_keep) (fun bW=>?_);clear hK K iR;refine wpAnyH_ready (rs:=[10]) qk qj ?_;refine AllReadyH.cons rfl (fun K hK=>?_) AllReadyH.nil
   simp only[List.getElem_toArray,List.getElem_cons_succ,List.getElem_cons_zero]
   have fY:=qh ((JA.o.drewN 1).below hb4);have hsz1:wa.heap.size≤w4.heap.size:=hb4.size;obtain⟨P,hP⟩:=qx (G.acts n2 ((0,[]):Int×List (G.PM n2)) b.2.1);rw[←hP]at wA hl4 ⊢;clear hP;refine cR w4 (by rfl) (.tmp 26) (.tmp 34) _ (by rfl) (w1.heap.size+1) 72 i0 _ 3 40 Tryz.underlying33 hi iz is ib rfl qo (.slice A1 GA.length q1) GA.length _ (by rfl) fY.o.o1 _ 1 1 [.int .i64 n2,.int .i64 P.1,.slice A4 P.2.length c4] (by rfl) rfl (by simp[Value.oneCell']) (by have:=D4.o;unfold maxLen;omega) (by have:=D4.o;omega) qo ?_;intro v5 w5 hown5 cX lZ;obtain⟨A5,c5,rfl⟩:=aD hown5;have hne1:¬(Value.slice A1 GA.length q1).ownBlock=some w1.heap.size:=fun e=>by have:=(fY.o.o1.lt _ e).1;omega
   have hne2:¬(Value.slice A1 GA.length q1).ownBlock=some wr.heap.size:=fun e=>PP.o e;have AN:=gR cX s9 hne1;have KS:=gR cX GR hne2;have KR:=gR cX GQ hne2;have hZ1:aA w4 w1.heap.size 36 #[.slice A1 GA.length q1,.slice A2 KA.length q2]:=(FA.o.drewN 1).below hb4 hza;have vO:=qh (hZ1.fr cX hne1);have hK1:aA w4 wr.heap.size 78 #[.int .i64 n2,.slice (d.W k) b.2.1.length (d.cw k),.slice (d.S k) (d.m k) (d.cs k)]:=(eS.o.drewN 1).below hb4 hba;have D2:=qh (hK1.fr cX hne2);have GJ:=vO.o.frozen 0;refine hK.out _ _ ⟨AN,KS,KR⟩ (fun aN=>?_);clear hK K bW;refine qt 11 aN ?_
   simp only[List.getElem_toArray,List.getElem_cons_succ,List.getElem_cons_zero,Act.put,List.setIfInBounds_toArray,List.set_cons_zero,List.set_cons_succ]
   have kK:=qh (fY.o.IQ (f:=n9 b) (A:=A4) (c:=c4) (sG:=.slice A5 (GA.length+1) c5) (N:=w4.heap.size+1) (by
    rw[wA.o];refine aK.GP hl4 (fun x hx=>?_);show x<wa.heap.size
    rcases hx with hx|hx|hx
    ·have hx:x=w.heap.size∨x=w1.heap.size:=hx
     omega
    ·exact(JA.o.o1.lt x hx).2
    ·exact(JA.o.o2.lt x hx).2) (by rw[wA.o];simp only[List.length_map];exact hown5) cX lZ qo)
   have CI:=qh (((yJ.o.drewN 1).below hb4 yJ.o.lt).fr cX (fun e=>by have:=(fY.o.o1.lt _ e).1;omega));have bP:=qh ((j7.o.drew.trans (hb4.mono j7.o.size)).trans (cX.below (show w1.heap.size≤w4.heap.size by omega) (fun x hx=>by have:=(fY.o.o1.lt _ hx).1;omega)));refine wpAnyH_done qk ?_ _;refine b8.of ?_
   go_simp
   have iA:=qh (kK.o.set (p:=⟨w1.heap.size,0,none⟩) (.inr rfl) (.slice A5 (GA.length+1) c5));have m8:=qh (vO.o.cM 0 (.slice A5 (GA.length+1) c5));have CH:=qh (CI.o.far (p:=⟨w1.heap.size,0,none⟩) (by show w.heap.size≠w1.heap.size;omega) (.slice A5 (GA.length+1) c5));have MF:=qh (D2.o.far (p:=⟨w1.heap.size,0,none⟩) (by show wr.heap.size≠w1.heap.size;omega) (.slice A5 (GA.length+1) c5));have cL:=qh (bP.o.setCell (p:=⟨w1.heap.size,0,none⟩) ql (.slice A5 (GA.length+1) c5));obtain⟨w6,gA⟩:=qx (w5.setCell ⟨w1.heap.size,0,none⟩ (.slice A5 (GA.length+1) c5));rw[←gA]at iA m8 CH MF cL ⊢;have F1:w6.cell? ⟨w1.heap.size,1,none⟩=some (.slice A2 KA.length q2):=m8.o.cell 1;have s2y:w6.cell? ⟨wr.heap.size,2,none⟩=some (.slice (d.S k) (d.m k) (d.cs k)):=MF.o.cell 2;have MV:=m8.o.lt;have KQ:=m8.o.frozen 1;have N9:=cL.o.size;clear gA aN AN KS KR GJ cX hown5 lZ hl4 hb4 s9 GR GQ fY kK vO CI bP hZ1 hK1 hne1 hne2 z0 s0 s1 zf D2
   go_wp2_with (at_builtin;go_must (refine cW w6 rfl (.tmp 38) (.tmp 41) _ rfl (w1.heap.size+1) 31 j0 _ 1 24 Tryz.underlying34 hj jz js jb rfl qo (.slice A2 KA.length q2) KA.length _ rfl iA.o.o2 _ 1 1 [.slice (d.S k) (d.m k) (d.cs k)] w6.heap.size rfl rfl rfl (by simp[Value.oneCell']) (by have:=D1.o;unfold maxLen;omega) (by have:=D1.o;omega) qo ?_);intro v8 w8 aZ a8 cN;obtain⟨A8,c8,rfl⟩:=aD aZ;have N2:¬(Value.slice A2 KA.length q2).ownBlock=some w1.heap.size:=(fun e=>by have:=(iA.o.o2.lt _ e).1;omega);have yI:=qh (m8.o.fr a8 N2);have KP:=yI.o.frozen 1;have AM:=yI.o.cell 1;have AM:w8.cell? ⟨w1.heap.size,1,none⟩=some (.slice A2 KA.length q2):=AM;have KO:=qh aZ;have EU:=qh a8;have O7:=qh cN;clear aZ a8 cN)
   have nE:=qh (iA.o.IP (S:=b.2.2) (A:=d.S k) (m:=d.m k) (c:=d.cs k) (sF:=.slice A8 (KA.length+1) c8) (N:=w6.heap.size+1) fN.o (d4.sY (aB (d.S k) (d.m k*6) _) (Rd.below (HM.o.rs k b mK.o) cL.o) (fun x hx hm=>by
    have h1:=PH.o x hx;have h2:=HSL.o x hx
    rcases hm with hm|hm|hm
    ·have hm:x=w.heap.size∨x=w1.heap.size:=hm
     omega
    ·have:=(iA.o.o1.lt _ hm).1
     omega
    ·have:=(iA.o.o2.lt _ hm).1
     omega)) KO.o EU.o O7.o qo)
   have IU:=qh (CH.o.fr EU.o (fun e=>by have:=(iA.o.o2.lt _ e).1;omega));have kR:=qh (cL.o.trans (EU.o.below (show w1.heap.size≤w6.heap.size by omega) (fun x hx=>by have:=(iA.o.o2.lt _ hx).1;omega)));have yR:=qh (nE.o.set (p:=⟨w1.heap.size,1,none⟩) (.inr rfl) (.slice A8 (KA.length+1) c8));have IS:=qh (yI.o.cM 1 (.slice A8 (KA.length+1) c8));have IT:=qh (IU.o.far (p:=⟨w1.heap.size,1,none⟩) (by show w.heap.size≠w1.heap.size;omega) (.slice A8 (KA.length+1) c8));have D7:=qh (kR.o.setCell (p:=⟨w1.heap.size,1,none⟩) ql (.slice A8 (KA.length+1) c8))
   go_roundw
   case rel=>exact⟨k+1,_,_,_,_,by omega,qg,qh (by rw[List.map_append,p6.o,tS mK.o];rfl),qh (by rw[List.map_append,p4.o,sM mK.o];rfl),yR,IS,IT,D7⟩
   case measure=>exact qs
  ·obtain rfl:N=k:=qo
   obtain⟨A1,q1,rfl⟩:=aD HP.o.o1;obtain⟨A2,q2,rfl⟩:=aD HP.o.o2;have z0:wr.cell? ⟨w1.heap.size,0,none⟩=some (.slice A1 GA.length q1):=HZ.o.cell 0;have z1:wr.cell? ⟨w1.heap.size,1,none⟩=some (.slice A2 KA.length q2):=HZ.o.cell 1;have y0:wr.cell? ⟨w.heap.size,0,none⟩=some (.slice none 0 0):=HY.o.cell 0;have y1:wr.cell? ⟨w.heap.size,1,none⟩=some (.slice none 0 0):=HY.o.cell 1;have f0:=HY.o.frozen 0;have f1:=HY.o.frozen 1
   go_wp2_with fail
   have oW:=((HY.o.cM 0 (.slice A1 GA.length q1)).cM 1 (.slice A2 KA.length q2));have dN:=qh (((HB1.o.trans (HB.o.mono (Nat.le_of_lt hz1))).setCell (p:=⟨w.heap.size,0,none⟩) qj (.slice A1 GA.length q1)).setCell (p:=⟨w.heap.size,1,none⟩) qj (.slice A2 KA.length q2));obtain⟨w9,dJ⟩:∃w9,w9=((wr.setCell ⟨w.heap.size,0,none⟩ (.slice A1 GA.length q1)).setCell ⟨w.heap.size,1,none⟩ (.slice A2 KA.length q2)):=⟨_,rfl⟩;rw[←dJ]at oW dN ⊢;have k0:w9.cell? ⟨w.heap.size,0,none⟩=some (.slice A1 GA.length q1):=oW.cell 0;have k1:w9.cell? ⟨w.heap.size,1,none⟩=some (.slice A2 KA.length q2):=oW.cell 1;have J7:=qh (show cE true w9 A1 A2 (bS o) (bR o)from by
    have hp:=(HP.o.set (p:=⟨w.heap.size,0,none⟩) (.inl rfl) (.slice A1 GA.length q1)).set (p:=⟨w.heap.size,1,none⟩) (.inl rfl) (.slice A2 KA.length q2);rw[←dJ]at hp;have h1:=hp.forms;have h2:=hp.AU;rw[p6.o,List.take_of_length_le (by rw[←HN.o];exact Nat.le_refl _)]at h1;rw[p4.o,List.take_of_length_le (by rw[←HN.o];exact Nat.le_refl _)]at h2;exact⟨h1,h2⟩)
   clear dJ oW y0 y1 z0 z1 f0 f1
   (try simp only[Exit.inBlock,Exit.then])
   refine bodyPost_ret (by simp[results,Tryz.results24,go_sem,k0,k1];try rfl) rfl ?_;exact⟨dN.o,by rw[if_pos HC.o,HF.o];exact⟨A1,q1,A2,q2,by rw[←fJ (p6.o.trans (by rw[List.take_of_length_le (by rw[←HN.o];exact Nat.le_refl _)])),←fJ (p4.o.trans (by rw[List.take_of_length_le (by rw[←HN.o];exact Nat.le_refl _)]))],J7.o⟩⟩
end Go.Proofs.YtmnbgjnipbpiaaaGreat
