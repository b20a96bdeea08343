/- Walks and plain lemmas. -/
import Derived.Test.YtmnbgjnipbpiaaaGreatP35
set_option linter.unusedVariables false
set_option linter.unusedSimpArgs false
set_option maxHeartbeats 8000000
set_option maxRecDepth 20000
namespace Go.Proofs.YtmnbgjnipbpiaaaGreat
open Go.RowKit
def KE (w:World)(F:List aP)(S:List (List Int))(e:Ending)(w':World):Prop:=∃q A c B d,e=.returned (.agg #[.slice A F.length c,.slice B S.length d])∧cE q w' A B F S∧Below w.heap.size w w'
theorem tS {o:List aF}{k:Nat}{b:aF}(h:o[k]?=some b):bS (o.take (k+1))=bS (o.take k)++[n9 b]:=by rw[bG h];simp[bS]
theorem sM {o:List aF}{k:Nat}{b:aF}(h:o[k]?=some b):bR (o.take (k+1))=bR (o.take k)++[b.2.2]:=by rw[bG h];simp[bR]
theorem fJ {α β:Type}{G:List α}{f:α→β}{M:List β}(h:G.map f=M):G.length=M.length:=by rw[←h,List.length_map]
theorem yA (o:List aF)(k:Nat)(hk:k≤o.length):(bS (o.take k)).length=k:=by simp[bS];omega
theorem xK (o:List aF)(k:Nat)(hk:k≤o.length):(bR (o.take k)).length=k:=by simp[bR];omega
theorem xV:(Tryz.prog.info? 72).map (fun i=>(i.zero,i.size,i.bytes))=some (some (.agg #[.int .i64 0,.int .i64 0,.slice none 0 0]),3,40):=by kernel_rfl
theorem xW:(Tryz.prog.info? 31).map (fun i=>(i.zero,i.size,i.bytes))=some (some (.slice none 0 0),1,24):=by kernel_rfl
theorem G9:(Tryz.prog.info? 52).map (fun i=>(i.zero,i.size,i.bytes))=some (some (.agg #[.int .i64 0,.int .i64 0,.int .i64 0,.int .i64 0,.int .i64 0,.int .i64 0]),6,48):=by kernel_rfl
theorem gR {w w':World}{X:Nat→Prop}{g i:Nat}{v:Value}(hf:Fr w w' X)(h:w.cell? ⟨g,i,none⟩=some v)(hX:¬X g):w'.cell? ⟨g,i,none⟩=some v:=(hf.cells (World.block_lt_of_cell? w _ h) hX i).trans h
theorem tA (A:OA)(c:Nat)(o:List aF)(d:aV)(w:World)(h:nC w A o d)(hk:LJ o d)(hg:∀b∈o,p9 b):
 Calls Tryz.prog 18 #[.slice A o.length c] w (KE w (bS o) (bR o)):=by
 obtain⟨i0,hi,iz,is,ib⟩:=info_parts xV;obtain⟨j0,hj,jz,js,jb⟩:=info_parts xW;obtain⟨e0,he,ez,es,eb⟩:=info_parts G9;have H:=qh h;have HK:=qh hk;have HG:=qh hg;have hol:=hk.1;obtain⟨N,hN⟩:=qx (o.length);have HN:=qh hN;rw[←hN]at hol ⊢;have HY:=qh ((aA.at_ w 36 #[.slice none 0 0,.slice none 0 0] rfl).alloc (.cells #[.slice none 0 0,.slice none 0 0] 36));have HZ:=qh (aA.at_ (g':=w.heap.size+1) (w.alloc (.cells #[.slice none 0 0,.slice none 0 0] 36)) 36 #[.slice none 0 0,.slice none 0 0] qj);have HB:=qh (((Below.refl w.heap.size w).alloc ql (.cells #[.slice none 0 0,.slice none 0 0] 36)).alloc qj (.cells #[.slice none 0 0,.slice none 0 0] 36));clear h hk hg hN
 go_enter Tryz.func18,Tryz.ntmps18
 go_wp2_with fail
 obtain⟨w0,hw0⟩:∃w0,w0=((w.alloc (.cells #[.slice none 0 0,.slice none 0 0] 36)).alloc (.cells #[.slice none 0 0,.slice none 0 0] 36)):=⟨_,rfl⟩;rw[←hw0]at HY HZ HB ⊢;have HP:=qh (PrM.nil (q:=false) (fun b=>w.heap.size≤b∧b<w.heap.size+1+1) (w.heap.size+1+1) (fun b hb=>by omega) w0);clear hw0
 go_loopw [4] (fun x wr=>∃(k:Nat) (GA:List rB) (KA:List CF) (v1 v2:Value),k≤N∧x=.int .i64 k∧Hq (GA.map (·.1)=bS (o.take k))∧Hq (KA.map (·.1)=bR (o.take k))∧Hq (PrM false (fun b=>w.heap.size≤b∧b<w.heap.size+1+1) (w.heap.size+1+1) v1 v2 GA KA wr)∧Hq (aA wr (w.heap.size+1) 36 #[v1,v2])∧Hq (aA wr w.heap.size 36 #[.slice none 0 0,.slice none 0 0])∧Hq (Below w.heap.size w wr)) (fun x _=>N-(intOf x).toNat)
 case atStart=>exact⟨0,[],[],_,_,Nat.zero_le _,rfl,qh rfl,qh rfl,HP,HZ,HY,HB⟩
 case round=>
  clear HP HZ HY HB;obtain⟨k,GA,KA,v1,v2,hk,rfl,p6,p4,HP,HZ,HY,HB⟩:=hrel;have D4:=qh (show GA.length=k from by rw[fJ p6.o,yA o k (by rw[←HN.o];exact hk)]);have D1:=qh (show KA.length=k from by rw[fJ p4.o,xK o k (by rw[←HN.o];exact hk)]);have BV:=HZ.o.lt
  by_cases hlt:k<N
  ·obtain⟨b,hb⟩:=dD (L:=o) (k:=k) (by have:=HN.o;omega)
   have mK:=qh hb;obtain⟨g,off,rfl,hg,hr⟩:=H.o (by have:=HN.o;omega);have hbt:=(hr k b hb).below HB.o;have jO:=qh hbt;have hgo:=HG.o b (List.mem_of_getElem? hb);have hbk:=HK.o.2 k b hb;obtain⟨n,hn⟩:∃n:Nat,b.1=n:=⟨b.1.toNat,(Int.toNat_of_nonneg hgo.1).symm⟩;have hbn:b.1.toNat=n:=qo;have tH:n≤12:=by have:=hgo.2.1;omega
   have hwd:G.Word n b.2.1:=by rw[←hbn];exact hgo.2.2.1
   have hwl:=hgo.2.2.2;have hml:=hbk.ml;have bT:=qh (fun w' (hr:aG w' (d.W k) b.2.1)=>kC (n:=n) b.2.1 (d.W k) (d.cw k) w' hr (iK hwd) qo hwd qo);have wA:=qh (show n9 b=((n:Int),(G.acts n ((0,[]):Int×List (G.PM n)) b.2.1).1,(G.acts n ((0,[]):Int×List (G.PM n)) b.2.1).2.map G.pl)from by unfold n9;rw[hn];rfl);have c0:=hbt.c0;have c1:=hbt.c1;have c2:=hbt.c2;rw[hn]at c0;obtain⟨A1,q1,rfl⟩:=aD HP.o.o1;obtain⟨A2,q2,rfl⟩:=aD HP.o.o2;have z0:=HZ.o.cell 0;have z1:=HZ.o.cell 1;have z0:wr.cell? ⟨w.heap.size+1,0,none⟩=some (.slice A1 GA.length q1):=z0;have z1:wr.cell? ⟨w.heap.size+1,1,none⟩=some (.slice A2 KA.length q2):=z1;have zf:=HZ.o.frozen 0;have O8:=HZ.o.frozen 1;have hgB:g<w.heap.size:=hg;have b1:(0:Int)≤(k:Int):=qo;have b2:(k:Int)<(N:Int):=qo;have hbz:=HB.o.size;have hz2:w.heap.size+1+1≤wr.heap.size:=BV;clear hb hr hbt hgo hbk hg
   go_wp2_with fail
   refine aW (S:=fun w'=>w'.cell? ⟨w.heap.size+1,0,none⟩=some (.slice A1 GA.length q1)∧w'.cell? ⟨g,off+k*3,none⟩=some (.int .i64 n)∧w'.cell? ⟨g,off+k*3+1,none⟩=some (.slice (d.W k) b.2.1.length (d.cw k))) _ qj qk qk ⟨z0,c0,c1⟩ (fun hHeld=>?_)
   simp only[List.dropLast,List.getLast_cons_cons,List.getLast_singleton,List.length_cons,List.length_nil]
   refine qt 0 hHeld ?_;refine qt 1 hHeld ?_;refine qt 2 hHeld ?_;refine qt 3 hHeld ?_;refine qt 4 hHeld ?_;refine qt 5 hHeld ?_;refine qt 6 hHeld ?_;refine qt 7 hHeld ?_;refine qt 8 hHeld ?_;refine qt 9 hHeld ?_;refine qt 10 hHeld ?_;refine qt 11 hHeld ?_;refine qt 12 hHeld ?_;refine qt 13 hHeld ?_
   simp only[List.getElem_toArray,List.getElem_cons_succ,List.getElem_cons_zero,Act.put,List.setIfInBounds_toArray,List.set_cons_zero,List.set_cons_succ]
   refine wpAnyH_ready (rs:=[14]) qk qj ?_;refine AllReadyH.cons rfl (fun K hK=>?_) AllReadyH.nil
   simp only[List.getElem_toArray,List.getElem_cons_succ,List.getElem_cons_zero]
   go_simp
   refine(bT.o wr.drew jO.o.rw).mono ?_;rintro e w1 ⟨v4,As4,OZ,rfl,hl4,BX,hb4⟩;obtain⟨A4,c4,rfl⟩:=fI hl4;have s9:=a7 hb4 BV z0;have IL:=a7 hb4 (Nat.lt_of_lt_of_le hgB hbz) c0;have IK:=a7 hb4 (Nat.lt_of_lt_of_le hgB hbz) c1;refine hK.out _ _ ⟨s9,IL,IK⟩ (fun iR=>?_);clear hK K hHeld;refine wpAnyH_ready (rs:=[15]) qk qj ?_;refine AllReadyH.cons rfl (fun K hK=>?_) AllReadyH.nil
   simp only[List.getElem_toArray,List.getElem_cons_succ,List.getElem_cons_zero]
   go_simp
   refine hK.out _ _ (by go_keep) (fun bW=>?_);clear hK K iR;refine wpAnyH_ready (rs:=[16]) qk qj ?_;refine AllReadyH.cons rfl (fun K hK=>?_) AllReadyH.nil
   simp only[List.getElem_toArray,List.getElem_cons_succ,List.getElem_cons_zero]
   have fY:=qh ((HP.o.drewN 1).below hb4);have hsz1:wr.heap.size≤w1.heap.size:=hb4.size;obtain⟨P,hP⟩:=qx (G.acts n ((0,[]):Int×List (G.PM n)) b.2.1);rw[←hP]at wA hl4 BX ⊢;clear hP;refine cR w1 (by rfl) (.tmp 13) (.tmp 27) _ (by rfl) (w.heap.size+1+1) 72 i0 _ 3 40 Tryz.underlying33 hi iz is ib rfl qo (.slice A1 GA.length q1) GA.length _ (by rfl) fY.o.o1 _ 1 1 [.int .i64 n,.int .i64 P.1,.slice A4 P.2.length c4] (by rfl) rfl (by simp[Value.oneCell']) (by have:=D4.o;unfold maxLen;omega) (by have:=D4.o;omega) qo ?_;intro v5 w5 hown5 cX lZ;obtain⟨A5,c5,rfl⟩:=aD hown5;have hne1:¬(Value.slice A1 GA.length q1).ownBlock=some (w.heap.size+1):=fun e=>by have:=(fY.o.o1.lt _ e).1;omega
   have hne2:¬(Value.slice A1 GA.length q1).ownBlock=some g:=fun e=>by have:=(fY.o.o1.lt _ e).1;omega
   have AN:=gR cX s9 hne1;have LH:=gR cX IL hne2;have LG:=gR cX IK hne2;have hZ1:aA w1 (w.heap.size+1) 36 #[.slice A1 GA.length q1,.slice A2 KA.length q2]:=(HZ.o.drewN 1).below hb4 BV;have vO:=qh (hZ1.fr cX hne1);have GJ:=vO.o.frozen 0;refine hK.out _ _ ⟨AN,LH,LG⟩ (fun aN=>?_);clear hK K bW;refine qt 17 aN ?_
   simp only[List.getElem_toArray,List.getElem_cons_succ,List.getElem_cons_zero,Act.put,List.setIfInBounds_toArray,List.set_cons_zero,List.set_cons_succ]
   have kK:=qh (fY.o.IQ (f:=n9 b) (A:=A4) (c:=c4) (sG:=.slice A5 (GA.length+1) c5) (N:=w1.heap.size+1) (by
    rw[wA.o];refine aT.GP hl4 (fun x hx=>?_) (fun j hj x hx=>?_)
    ·show x<wr.heap.size
     rcases hx with hx|hx|hx
     ·have hx:w.heap.size≤x∧x<w.heap.size+1+1:=hx
      omega
     ·exact(HP.o.o1.lt x hx).2
     ·exact(HP.o.o2.lt x hx).2
    ·rw[List.length_map]at hj
     rw[gH (List.getElem?_eq_getElem hj),G.a6]at hx;exact BX j hj x hx) (by rw[wA.o];simp only[List.length_map];exact hown5) cX lZ qo)
   have CI:=qh (((HY.o.drewN 1).below hb4 HY.o.lt).fr cX (fun e=>by have:=(fY.o.o1.lt _ e).1;omega));have bP:=qh ((HB.o.drew.trans (hb4.mono HB.o.size)).trans (cX.below (show w.heap.size≤w1.heap.size by omega) (fun x hx=>by have:=(fY.o.o1.lt _ hx).1;omega)));refine wpAnyH_done qk ?_ _;refine b8.of ?_
   go_simp
   have iA:=qh (kK.o.set (p:=⟨w.heap.size+1,0,none⟩) ⟨Nat.le_succ _,Nat.lt_succ_self _⟩ (.slice A5 (GA.length+1) c5));have m8:=qh (vO.o.cM 0 (.slice A5 (GA.length+1) c5));have CH:=qh (CI.o.far (p:=⟨w.heap.size+1,0,none⟩) qj (.slice A5 (GA.length+1) c5));have cL:=qh (bP.o.setCell (p:=⟨w.heap.size+1,0,none⟩) qj (.slice A5 (GA.length+1) c5));obtain⟨w6,gA⟩:=qx (w5.setCell ⟨w.heap.size+1,0,none⟩ (.slice A5 (GA.length+1) c5));rw[←gA]at iA m8 CH cL ⊢;have F1:w6.cell? ⟨w.heap.size+1,1,none⟩=some (.slice A2 KA.length q2):=m8.o.cell 1;have AH:=qh (show nL w6 g (off+k*3) b (d.W k) (d.S k) (d.cw k) (d.cs k) (d.m k)from by
    obtain⟨g',off',e',_,hr'⟩:=H.o (by have:=HN.o;omega);injection e' with e';injection e' with e1 e2;subst e1 e2;exact(hr' k b mK.o).below cL.o)
   have IJ:=AH.o.c2;have MV:=m8.o.lt;have KQ:=m8.o.frozen 1;have N9:=cL.o.size;clear gA aN AN LH LG GJ cX hown5 lZ hl4 BX hb4 s9 IL IK fY kK vO CI bP hZ1 hne1 hne2 z0 z1 c0 c1 c2 zf O8
   go_wp2_with fail
   refine aW (S:=fun w'=>w'.cell? ⟨w.heap.size+1,1,none⟩=some (.slice A2 KA.length q2)∧w'.cell? ⟨g,off+k*3+2,none⟩=some (.slice (d.S k) (d.m k) (d.cs k))) _ qj qk qk ⟨F1,IJ⟩ (fun hHeld=>?_)
   simp only[List.dropLast,List.getLast_cons_cons,List.getLast_singleton,List.length_cons,List.length_nil]
   refine qt 0 hHeld ?_;refine qt 1 hHeld ?_;refine qt 3 hHeld ?_;refine qt 4 hHeld ?_;refine qt 5 hHeld ?_;refine qt 6 hHeld ?_;refine qt 7 hHeld ?_
   simp only[List.getElem_toArray,List.getElem_cons_succ,List.getElem_cons_zero,Act.put,List.setIfInBounds_toArray,List.set_cons_zero,List.set_cons_succ]
   refine wpAnyH_ready (rs:=[2]) qk qj ?_;refine AllReadyH.cons rfl (fun K hK=>?_) AllReadyH.nil
   simp only[List.getElem_toArray,List.getElem_cons_succ,List.getElem_cons_zero]
   go_simp
   refine hK.out _ _ (by go_keep) (fun iR=>?_);clear hK K hHeld;refine wpAnyH_ready (rs:=[8]) qk qj ?_;refine AllReadyH.cons rfl (fun K hK=>?_) AllReadyH.nil
   simp only[List.getElem_toArray,List.getElem_cons_succ,List.getElem_cons_zero]
   have Q0:=qh (World.ownsRow_made (base:=w6.heap.size) (e:=52) (size:=6) w6.drew #[] 0 ql qm rfl);have PL:=qh (show Rd (w6.drew.alloc (.cells #[] 52)) (d.S k) (d.m k*6) (fun i=>.int .i64 (b.2.2.getD i 0))from Rd.below (AH.o.rs.drewN 1) (qb));refine zH (w6.drew.alloc (.cells #[] 52)) (by rfl) (.tmp 32) (.tmp 37) _ (by rfl) w6.heap.size 52 e0 _ 6 48 Tryz.underlying31 he ez es eb rfl qo _ 0 [] (by rfl) Q0.o (d.S k) (d.m k) (d.cs k) _ (by rfl) PL.o (fun _=>rfl) qm qo qj ?_;intro v7 w7 oI pQ;rw[Nat.zero_add,List.nil_append,kZ b.2.2 (d.m k*6) AH.o.ln]at oI;obtain⟨A7,c7,rfl⟩:=aD oI;have hof:Fr w6 w7 (fun _=>False):=⟨pQ.os,pQ.tape,pQ.output,by have:=pQ.size;simp at this;omega,fun x hx _=>(pQ.block x (by simp;omega) (fun e=>by injection e with e;simp at e;omega)).trans (Below.heap_alloc w6.drew _ x hx)⟩;have GK:=gR hof F1 (fun h=>h);have II:=gR hof IJ (fun h=>h);refine hK.out _ _ ⟨GK,II⟩ (fun bW=>?_);clear hK K iR;have hJ:=qh (iA.o.fr hof (fun _ _ h=>h.elim));have LK:=qh (m8.o.fr hof (fun h=>h));have P8:=qh (CH.o.fr hof (fun h=>h));have fF:=qh (cL.o.trans (hof.below (B:=w.heap.size) qo (fun _ h=>h.elim)));have hzw7:=LK.o.lt;refine wpAnyH_ready (rs:=[9]) qk qj ?_;refine AllReadyH.cons rfl (fun K hK=>?_) AllReadyH.nil
   simp only[List.getElem_toArray,List.getElem_cons_succ,List.getElem_cons_zero]
   go_simp
   refine hK.out _ _ (by go_keep) (fun aN=>?_);clear hK K bW;refine wpAnyH_ready (rs:=[10]) qk qj ?_;refine AllReadyH.cons rfl (fun K hK=>?_) AllReadyH.nil
   simp only[List.getElem_toArray,List.getElem_cons_succ,List.getElem_cons_zero]
   refine cR w7 (by rfl) (.tmp 31) (.tmp 39) _ (by rfl) (w.heap.size+1+1) 31 j0 _ 1 24 Tryz.underlying34 hj jz js jb rfl qo (.slice A2 KA.length q2) KA.length _ (by rfl) hJ.o.o2 _ 1 1 [.slice A7 (d.m k) c7] (by rfl) rfl (by simp[Value.oneCell']) (by have:=D1.o;unfold maxLen;omega) (by have:=D1.o;omega) qo ?_;intro v8 w8 aZ a8 cN;obtain⟨A8,c8,rfl⟩:=aD aZ;have hne1:¬(Value.slice A2 KA.length q2).ownBlock=some (w.heap.size+1):=fun e=>by have:=(hJ.o.o2.lt _ e).1;omega
   have hne2:¬(Value.slice A2 KA.length q2).ownBlock=some g:=fun e=>by have:=(hJ.o.o2.lt _ e).1;omega
   have AM:=gR a8 GK hne1;have LF:=gR a8 II hne2;have yI:=qh (LK.o.fr a8 hne1);have KP:=yI.o.frozen 1;refine hK.out _ _ ⟨AM,LF⟩ (fun C1=>?_);clear hK K aN;refine qt 11 C1 ?_
   simp only[List.getElem_toArray,List.getElem_cons_succ,List.getElem_cons_zero,Act.put,List.setIfInBounds_toArray,List.set_cons_zero,List.set_cons_succ]
   have nE:=qh (hJ.o.IP (S:=b.2.2) (A:=A7) (m:=d.m k) (c:=c7) (sF:=.slice A8 (KA.length+1) c8) (N:=w7.heap.size+1) AH.o.ln (d4.sY (aB A7 (d.m k*6) _) (xN oI) (fun x hx hm=>by
    obtain⟨_,a,rfl,rfl⟩:=hx;have h1:=(oI.lt a.block rfl).1
    rcases hm with hm|hm|hm
    ·have hm:w.heap.size≤a.block∧a.block<w.heap.size+1+1:=hm
     omega
    ·have:=(iA.o.o1.lt _ hm).2
     omega
    ·have:=(iA.o.o2.lt _ hm).2
     omega)) aZ a8 cN qo)
   have IU:=qh (P8.o.fr a8 (fun e=>by have:=(hJ.o.o2.lt _ e).1;omega));have kR:=qh (fF.o.trans (a8.below (show w.heap.size≤w7.heap.size by omega) (fun x hx=>by have:=(hJ.o.o2.lt _ hx).1;omega)));refine wpAnyH_done qk ?_ _;refine b8.of ?_
   go_simp
   have yR:=qh (nE.o.set (p:=⟨w.heap.size+1,1,none⟩) ⟨Nat.le_succ _,Nat.lt_succ_self _⟩ (.slice A8 (KA.length+1) c8));have IS:=qh (yI.o.cM 1 (.slice A8 (KA.length+1) c8));have IT:=qh (IU.o.far (p:=⟨w.heap.size+1,1,none⟩) qj (.slice A8 (KA.length+1) c8));have D7:=qh (kR.o.setCell (p:=⟨w.heap.size+1,1,none⟩) qj (.slice A8 (KA.length+1) c8));clear C1 AM LF KP a8 aZ cN oI pQ hof GK II F1 IJ KQ
   go_wp2_with fail
   go_roundw
   case rel=>exact⟨k+1,_,_,_,_,by omega,qg,qh (by rw[List.map_append,p6.o,tS mK.o];rfl),qh (by rw[List.map_append,p4.o,sM mK.o];rfl),yR,IS,IT,D7⟩
   case measure=>exact qs
  ·obtain rfl:N=k:=qo
   obtain⟨A1,q1,rfl⟩:=aD HP.o.o1;obtain⟨A2,q2,rfl⟩:=aD HP.o.o2;have z0:wr.cell? ⟨w.heap.size+1,0,none⟩=some (.slice A1 GA.length q1):=HZ.o.cell 0;have z1:wr.cell? ⟨w.heap.size+1,1,none⟩=some (.slice A2 KA.length q2):=HZ.o.cell 1;have y0:wr.cell? ⟨w.heap.size,0,none⟩=some (.slice none 0 0):=HY.o.cell 0;have y1:wr.cell? ⟨w.heap.size,1,none⟩=some (.slice none 0 0):=HY.o.cell 1;have f0:=HY.o.frozen 0;have f1:=HY.o.frozen 1
   go_wp2_with fail
   have oW:=((HY.o.cM 0 (.slice A1 GA.length q1)).cM 1 (.slice A2 KA.length q2));have dN:=qh ((HB.o.setCell (p:=⟨w.heap.size,0,none⟩) qj (.slice A1 GA.length q1)).setCell (p:=⟨w.heap.size,1,none⟩) qj (.slice A2 KA.length q2));obtain⟨w9,dJ⟩:∃w9,w9=((wr.setCell ⟨w.heap.size,0,none⟩ (.slice A1 GA.length q1)).setCell ⟨w.heap.size,1,none⟩ (.slice A2 KA.length q2)):=⟨_,rfl⟩;rw[←dJ]at oW dN ⊢;have k0:w9.cell? ⟨w.heap.size,0,none⟩=some (.slice A1 GA.length q1):=oW.cell 0;have k1:w9.cell? ⟨w.heap.size,1,none⟩=some (.slice A2 KA.length q2):=oW.cell 1;have J7:=qh (show cE false w9 A1 A2 (bS o) (bR o)from by
    have hp:=(HP.o.set (p:=⟨w.heap.size,0,none⟩) ⟨Nat.le_refl _,by show w.heap.size<w.heap.size+1+1;omega⟩ (.slice A1 GA.length q1)).set (p:=⟨w.heap.size,1,none⟩) ⟨Nat.le_refl _,by show w.heap.size<w.heap.size+1+1;omega⟩ (.slice A2 KA.length q2);rw[←dJ]at hp;have h1:=hp.forms;have h2:=hp.AU;rw[p6.o,List.take_of_length_le (by rw[←HN.o];exact Nat.le_refl _)]at h1;rw[p4.o,List.take_of_length_le (by rw[←HN.o];exact Nat.le_refl _)]at h2;exact⟨h1,h2⟩)
   clear dJ oW y0 y1 z0 z1 f0 f1
   (try simp only[Exit.inBlock,Exit.then])
   refine bodyPost_ret (by simp[results,Tryz.results18,go_sem,k0,k1];try rfl) rfl ?_;exact⟨false,A1,q1,A2,q2,by rw[←fJ (p6.o.trans (by rw[List.take_of_length_le (by rw[←HN.o];exact Nat.le_refl _)])),←fJ (p4.o.trans (by rw[List.take_of_length_le (by rw[←HN.o];exact Nat.le_refl _)]))],J7.o,dN.o⟩
end Go.Proofs.YtmnbgjnipbpiaaaGreat
