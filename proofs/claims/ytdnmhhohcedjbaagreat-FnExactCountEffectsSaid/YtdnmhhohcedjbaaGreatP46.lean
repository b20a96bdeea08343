/- Walks and plain lemmas. -/
import Derived.Test.YtdnmhhohcedjbaaGreatP45
import Derived.Test.YtdnmhhohcedjbaaGreatP44
set_option linter.unusedVariables false
set_option linter.unusedSimpArgs false
set_option maxHeartbeats 2000000
set_option maxRecDepth 20000
namespace Go.Proofs.YtdnmhhohcedjbaaGreat
open Go.RowKit
def RB (B0 g6:Nat)(F:Nat→List Int)(k:Nat)(C:Nat→Prop)(W:World):Prop:=
 ∃v m,aB W g6 41 #[v]∧W.ownsRow B0 30 2 v m (ints (F k))∧(F k).length=2*m∧m≤k∧(∀b,v.ownBlock=some b→b≠g6)∧C=fun b=>b=g6∨v.ownBlock=some b
theorem Rl {B0 g6:Nat}{F:Nat→List Int}(h6:B0≤g6):FC (RB B0 g6 F) B0 where
 lt:=fun⟨v,m,b6,ho,hl,hm,hd,hC⟩ b hb=>by
  rw[hC]at hb
  rcases hb with hb|hb
  ·exact⟨by omega,by have:=b6.lt;omega⟩
  ·exact ho.lt b hb
 keep:=fun⟨v,m,b6,ho,hl,hm,hd,hC⟩ hs hk=>by
  rw[hC]at hk;exact⟨v,m,(hk g6 (.inl rfl)).trans b6,cU ho fun b hb=>hk b (.inr hb),hl,hm,hd,hC⟩
theorem Kj {B0 g6:Nat}{F:Nat→List Int}{k:Nat}{C:Nat→Prop}{w w':World}(h:RB B0 g6 F k C w)(hb:Below w.heap.size w w')(he:F (k+1)=F k):∃C',RB B0 g6 F (k+1) C' w'∧Fr w w' C∧∀b,C' b→C b∨w.heap.size≤b:=by
 obtain⟨v,m,b6,ho,hl,hm,hd,hC⟩:=h;exact⟨C,⟨v,m,b6.below hb b6.lt,own_below (by rw[he];exact ho) hb,by rw[he];exact hl,by omega,hd,hC⟩,Fr.of_below hb _,fun b h=>.inl h⟩
theorem UQ (W:Nat)(z:Nat→Int)(n:Nat)(own:List aV)(B0 g6:Nat)(hB6:B0≤g6)(k:Nat)(C:Nat→Prop)(wc:World)(hk:k≤6000)(hI:RB B0 g6 (hfs W z n own) k C wc):
 Calls Tryz.prog 46 (#[.agg #[.int .i64 (fF z n k),.int .i64 (fX z n k)],.int .i64 (l3 W z n own k)]++#[.pointer (some ⟨g6,0,none⟩)]) wc (R9 (RB B0 g6 (hfs W z n own)) k C wc):=by
 obtain⟨i0,hi,iz,is,ib⟩:=info_parts OD;have HQ:=qh (show hfs W z n own (k+1)=if l3 W z n own k=0 then hfs W z n own k++[fF z n k,(fX z n k:Int)]else hfs W z n own k from rfl);obtain⟨ff,pE⟩:=qx (fF z n k);obtain⟨fx,hfx⟩:=qx (fX z n k);obtain⟨ef,hef⟩:=qx (l3 W z n own k);rw[←pE,←hfx,←hef]at HQ ⊢;obtain⟨wb,hwb⟩:=qx (wc.alloc (.cells #[.int .i64 ff,.int .i64 fx] 30));have hbb:Below wc.heap.size wc wb:=hwb▸qb;have bA:Hq (aB wb wc.heap.size 30 #[.int .i64 ff,.int .i64 fx]):=qh (hwb▸aB.at_ _ _ _ rfl);have dX:=qh hbb;have iT:=qh hwb;have HI:=qh hI;clear pE hfx hef hbb hwb hI
 by_cases h0:ef=0
 ·rw[if_pos h0]at HQ
  have h0b:(ef==0)=true:=by rw[h0];rfl
  obtain⟨v,m,b6,ho,hl,hm,hd,hC⟩:=HI.o;obtain⟨A6,c6,rfl⟩:=aF ho;have H6:=qh (b6.below dX.o b6.lt);have H6L:=qh b6.lt;have HO:=qh (own_below ho dX.o);have HOL:=qh (show∀b,(Value.slice A6 m c6).ownBlock=some b→b<wc.heap.size from fun b hb=>(ho.lt b hb).2);have HD:=qh hd;have HC:=qh hC;have HL:=qh hl;have x6:wb.cell? ⟨g6,0,none⟩=some (.slice A6 m c6):=H6.o.cell 0;have f6:=H6.o.frozen 0;have b0:=(show _=some (Value.int .i64 ff)from bA.o.cell 0);have b1:=(show _=some (Value.int .i64 fx)from bA.o.cell 1);have hBb:B0≤wb.heap.size:=Nat.le_trans (Nat.le_trans hB6 (Nat.le_of_lt b6.lt)) dX.o.size;clear b6 ho hl hd hC h0
  go_enter Tryz.func46,Tryz.ntmps46
  go_upto_region 1 with(fail)
  rw[←iT.o]
  go_wp2_with (at_builtin;go_must (refine cB _ rfl (.tmp 7) (.tmp 9) _ rfl B0 30 i0 _ 2 16 Tryz.underlying41 hi iz is ib rfl qo (.slice A6 m c6) m _ (by rfl) HO.o _ 1 1 (ints [ff,(fx:Int)]) rfl rfl (iP _) qm qo hBb ?_);intro v' w' hown' zS hat';obtain⟨A7,c7,rfl⟩:=aF hown';rw[←aT,←HQ.o]at hown';have f9:=qh hown';have vU:=qh zS;have BJ:=qh hat';have H62:=qh (H6.o.fr zS (fun e=>HD.o _ e rfl));have y6:=H62.o.frozen 0;have y7:=H62.o.cell 0;clear hown' zS hat')
  go_end0
  have hd2:∀b,(Value.slice A7 (m+1) c7).ownBlock=some b→b≠g6:=fun b hb=>by
   rcases BJ.o with h|h
   ·exact HD.o b (h.symm.trans hb)
   ·have h1:=Option.some.inj (hb.symm.trans h)
    have h2:=H6.o.lt;omega
  have hnew:∀b,(Value.slice A7 (m+1) c7).ownBlock=some b→(Value.slice A6 m c6).ownBlock=some b∨wc.heap.size≤b:=fun b hb=>by
   rcases BJ.o with h|h
   ·exact .inl (h.symm.trans hb)
   ·have h1:=Option.some.inj (hb.symm.trans h)
    have h2:=dX.o.size;exact .inr qo
  refine⟨rfl,_,⟨.slice A7 (m+1) c7,m+1,H62.o.bJ 0 _,cU f9.o fun b hb=>Below.heap_setCell _ _ _ b (hd2 b hb),by rw[HQ.o];have:=HL.o;simp;omega,by omega,hd2,rfl⟩,?_,?_⟩
  ·rw[HC.o]
   exact((Fr.of_below dX.o _).trans (vU.o.mono fun b hb=>.inr hb)).set (p:=⟨g6,0,none⟩) (.inl rfl) _
  ·intro b hb
   rw[HC.o]
   rcases hb with hb|hb
   ·exact .inl (.inl hb)
   ·exact(hnew b hb).imp_left .inr
 ·rw[if_neg h0]at HQ
  have h0b:(ef==0)=false:=by rw[beq_eq_false_iff_ne];exact h0
  clear h0
  go_enter Tryz.func46,Tryz.ntmps46
  go_upto_region 1 with(fail)
  rw[←iT.o]
  go_wp2_with fail
  go_end0
  exact⟨rfl,Kj HI.o dX.o HQ.o⟩
def Gr (B0 g6 gA:Nat)(F:Nat→List Int)(k:Nat)(C:Nat→Prop)(W:World):Prop:=
 aB W g6 34 #[.slice (some ⟨gA,0,none⟩) 3 3]∧W.ownsRow B0 2 1 (.slice (some ⟨gA,0,none⟩) 3 3) 3 (ints (F k))∧C=fun b=>b=g6∨b=gA
theorem Tz {B0 g6 gA:Nat}{F:Nat→List Int}(h6:B0≤g6):FC (Gr B0 g6 gA F) B0 where
 lt:=fun⟨b6,ho,hC⟩ b hb=>by
  rw[hC]at hb
  rcases hb with hb|hb
  ·exact⟨by omega,by have:=b6.lt;omega⟩
  ·exact ho.lt b (by rw[hb];rfl)
 keep:=fun⟨b6,ho,hC⟩ hs hk=>by
  rw[hC]at hk;exact⟨(hk g6 (.inl rfl)).trans b6,cU ho fun b hb=>hk b (.inr (Option.some.inj hb).symm),hC⟩
theorem Fa (W:Nat)(z:Nat→Int)(n:Nat)(own:List aV)(B0 g6 gA:Nat)(h6A:g6≠gA)(k:Nat)(C:Nat→Prop)(wc:World)(hk:k≤6000)(hI:Gr B0 g6 gA (CA W z n own) k C wc):
 Calls Tryz.prog 45 (#[.agg #[.int .i64 (fF z n k),.int .i64 (fX z n k)],.int .i64 (l3 W z n own k)]++#[.pointer (some ⟨g6,0,none⟩)]) wc (R9 (Gr B0 g6 gA (CA W z n own)) k C wc):=by
 have h012:=xg W z n own k;have l0:=DW W z n own 0 k;have l1:=DW W z n own 1 k;have l2:=DW W z n own 2 k;have HQ:=qh (show CA W z n own (k+1)=[((l5 W z n own 0 k+(if l3 W z n own k=0 then 1 else 0):Nat):Int),((l5 W z n own 1 k+(if l3 W z n own k=1 then 1 else 0):Nat):Int),((l5 W z n own 2 k+(if l3 W z n own k=2 then 1 else 0):Nat):Int)]from rfl);obtain⟨ff,pE⟩:=qx (fF z n k);obtain⟨fx,hfx⟩:=qx (fX z n k);obtain⟨wb,hwb⟩:=qx (wc.alloc (.cells #[.int .i64 ff,.int .i64 fx] 30));have hbb:Below wc.heap.size wc wb:=hwb▸qb;have dX:=qh hbb;have iT:=qh hwb;obtain⟨b6,ho,hC⟩:=hI;have H6:=qh (b6.below hbb b6.lt);have HO:=qh (own_below ho hbb);have HC:=qh hC;have x6:wb.cell? ⟨g6,0,none⟩=some (.slice (some ⟨gA,0,none⟩) 3 3):=H6.o.cell 0;have n0:wb.cell? ⟨gA,0,none⟩=some (.int .i64 (l5 W z n own 0 k)):=HO.o.cellAt 0 qo;have n1:wb.cell? ⟨gA,1,none⟩=some (.int .i64 (l5 W z n own 1 k)):=HO.o.cellAt 1 qo;have n2:wb.cell? ⟨gA,2,none⟩=some (.int .i64 (l5 W z n own 2 k)):=HO.o.cellAt 2 qo;have hf:=fun o=>HO.o.frozenAt o;have HS:=qh (fun(o:Nat) (u:Value)=>(HO.o.stored o u).1);have HE:Hq (ints (CA W z n own k)=[.int .i64 (l5 W z n own 0 k),.int .i64 (l5 W z n own 1 k),.int .i64 (l5 W z n own 2 k)]):=qh rfl;rw[HE.o]at HS;obtain⟨a0,ha0⟩:=qx (l5 W z n own 0 k);obtain⟨a1,ha1⟩:=qx (l5 W z n own 1 k);obtain⟨a2,ha2⟩:=qx (l5 W z n own 2 k);obtain⟨ef,hef⟩:=qx (l3 W z n own k);rw[←ha0]at n0 l0;rw[←ha1]at n1 l1;rw[←ha2]at n2 l2;rw[←ha0,←ha1,←ha2]at HS;rw[←ha0,←ha1,←ha2,←hef]at HQ;rw[←hef]at h012 ⊢;rw[←pE,←hfx];have iL:=qh (fun(o:Nat) (u:Value)=>(show Fr wc (wb.setCell ⟨gA,o,none⟩ u) C from by
  rw[HC.o];exact(Fr.of_below dX.o _).set (p:=⟨gA,o,none⟩) (.inr rfl) u))
 have Px:=qh (fun(o:Nat) (u:Value)=>(show aB (wb.setCell ⟨gA,o,none⟩ u) g6 34 #[.slice (some ⟨gA,0,none⟩) 3 3]from H6.o.far (p:=⟨gA,o,none⟩) h6A u));clear pE hfx hef ha0 ha1 ha2 HE hbb hwb b6 ho hC
 rcases h012 with rfl|rfl|rfl
 ·have bw:IntKind.i64.wrap ((a0:Int)+1)=((a0+1:Nat):Int):=by rw[IntKind.wrap_i64];omega
  go_enter Tryz.func45,Tryz.ntmps45
  go_upto_region 1 with(fail)
  rw[←iT.o]
  go_wp2_with fail
  go_end0
  exact⟨rfl,C,⟨Px.o 0 _,by rw[HQ.o];exact HS.o 0 _,HC.o⟩,iL.o 0 _,fun b h=>.inl h⟩
 ·have bw:IntKind.i64.wrap ((a1:Int)+1)=((a1+1:Nat):Int):=by rw[IntKind.wrap_i64];omega
  go_enter Tryz.func45,Tryz.ntmps45
  go_upto_region 1 with(fail)
  rw[←iT.o]
  go_wp2_with fail
  go_end0
  exact⟨rfl,C,⟨Px.o 1 _,by rw[HQ.o];exact HS.o 1 _,HC.o⟩,iL.o 1 _,fun b h=>.inl h⟩
 ·have bw:IntKind.i64.wrap ((a2:Int)+1)=((a2+1:Nat):Int):=by rw[IntKind.wrap_i64];omega
  go_enter Tryz.func45,Tryz.ntmps45
  go_upto_region 1 with(fail)
  rw[←iT.o]
  go_wp2_with fail
  go_end0
  exact⟨rfl,C,⟨Px.o 2 _,by rw[HQ.o];exact HS.o 2 _,HC.o⟩,iL.o 2 _,fun b h=>.inl h⟩
section
variable (W:Int)(A:OA)(n q:Nat)(z:Nat→Int)(w:World)
theorem qV (ha:Rd w A (n*8) (fun j=>.int .i64 (z j)))(hn:n≤1048576)(hq:n≤q):Calls Tryz.prog 20 #[.int .i64 W,.slice A n q] w (HfP w W z n):=by
 obtain⟨wa,lZ⟩:=qx (w.alloc (.cells #[] 30));obtain⟨wb,hwb⟩:=qx (wa.alloc (.cells #[.slice (some ⟨w.heap.size,0,none⟩) 0 0] 41));obtain⟨g6,mJ⟩:=qx (w.heap.size+1);have hsa:wa.heap.size=w.heap.size+1:=by rw[lZ];simp
 have hba:Below w.heap.size w wa:=lZ▸qb;have hbb:Below wa.heap.size wa wb:=hwb▸qb;have dX:=qh (hba.trans (hbb.mono hba.size));have ho:wa.ownsRow w.heap.size 30 2 (.slice (some ⟨w.heap.size,0,none⟩) 0 0) 0 (ints []):=lZ▸oA w [] 0 ql (Nat.zero_le _) rfl;have h6:aB wb g6 41 #[.slice (some ⟨w.heap.size,0,none⟩) 0 0]:=hwb▸aB.at_ _ _ _ (by rw[mJ,hsa]);have HI:=qh (show RB w.heap.size g6 (hfs W.toNat z n (ownB W z n)) 0 (fun b=>b=g6∨(Value.slice (some ⟨w.heap.size,0,none⟩) 0 0).ownBlock=some b) wb from⟨_,0,h6,own_below ho hbb,rfl,Nat.le_refl _,fun b hb=>by
  have e:=Option.some.inj hb
  simp only at e
  omega,rfl⟩)
 have iT:=qh (show wb=(w.alloc (.cells #[] 30)).alloc (.cells #[.slice (some ⟨w.heap.size,0,none⟩) 0 0] 41)from by rw[hwb,lZ]);have HG:=qh mJ;have HA:=qh (fun W' (h:Below w.heap.size wb W')=>ha.below (dX.o.trans h));have wh:∀(fn:Fn) (first c:Array Value) (w:World),(Instr.makeFunc fn first c).run Tryz.prog w=.ok (.func fn first c) w:=fun _ _ _ _=>rfl;have PZ:=qh (DT W A n q z wb 46 Tryz.call46 #[.pointer (some ⟨g6,0,none⟩)] _ w.heap.size _ (Rl qo) HI.o dX.o.size (fun k C wc hk h=>UQ W.toNat z n _ w.heap.size g6 qo k C wc hk h) HA.o hn hq);obtain⟨cd,hcd⟩:=qx (l6 W z n);have qG:=qh hcd;unfold Vt at PZ;rw[←hcd]at PZ;clear ha lZ hwb mJ hsa hba hbb ho h6 HI HA hcd
 by_cases h0:cd=0
 ·subst h0
  have HL:=qh (show SU W z n=hfs W.toNat z n (ownB W z n) (kI z n)from if_pos qG.o.symm)
  go_enter Tryz.func20,Tryz.ntmps20
  go_upto_region 2 with(fail)
  rw[←iT.o,←HG.o]
  go_wp2_with fail
  refine PZ.o.mono ?_;rintro e w1 ⟨rfl,hb1,hi1⟩;obtain⟨C,v,m,b6,ho,hl,hm,hd,hC⟩:=hi1 (by trivial);obtain⟨A6,c6,rfl⟩:=aF ho;have HB1:=qh (dX.o.trans hb1);have HO:=qh ho;have lA:=qh hl;have x6:w1.cell? ⟨g6,0,none⟩=some (.slice A6 m c6):=b6.cell 0;clear hb1 hi1 b6 ho hl hm hd hC
  go_wp2_with fail
  go_ret2
  exact NR HL.o (by unfold KN;rw[HL.o,lA.o];omega) qG.o.symm rfl HO.o HB1.o
 ·have jH:=qh (show l6 W z n≠0 from fun h=>h0 (qG.o.trans h))
  have hc1:(cd==0)=false:=by simpa using h0
  clear h0
  go_enter Tryz.func20,Tryz.ntmps20
  go_upto_region 2 with(fail)
  rw[←iT.o,←HG.o]
  go_wp2_with fail
  refine PZ.o.mono ?_;rintro e w1 ⟨rfl,hb1,hi1⟩;have HB1:=qh (dX.o.trans hb1);clear hb1 hi1
  go_wp2_with fail
  go_ret2
  exact NS (by unfold KN SU;rw[if_neg jH.o];rfl) qG.o.symm rfl HB1.o
theorem sP (ha:Rd w A (n*8) (fun j=>.int .i64 (z j)))(hn:n≤1048576)(hq:n≤q):Calls Tryz.prog 14 #[.int .i64 W,.slice A n q] w (CeP w W z n):=by
 obtain⟨cs,hcs,hcv,hmk⟩:=wJ 3 qo;have ahF:∀w:World,(Instr.makeSlice 34 (.int .i64 3) (.int .i64 3)).run Tryz.prog w=.ok (.slice (some ⟨w.heap.size,0,none⟩) 3 3) (w.alloc (.cells cs 2)):=hmk;obtain⟨wa,lZ⟩:=qx (w.alloc (.cells cs 2));obtain⟨wb,hwb⟩:=qx (wa.alloc (.cells #[.slice (some ⟨w.heap.size,0,none⟩) 3 3] 34));obtain⟨g6,mJ⟩:=qx (w.heap.size+1);have hsa:wa.heap.size=w.heap.size+1:=by rw[lZ];simp
 have hba:Below w.heap.size w wa:=lZ▸qb;have hbb:Below wa.heap.size wa wb:=hwb▸qb;have dX:=qh (hba.trans (hbb.mono hba.size));have ho:wa.ownsRow w.heap.size 2 1 (.slice (some ⟨w.heap.size,0,none⟩) 3 3) 3 (ints (CA W.toNat z n (ownB W z n) 0)):=lZ▸p8 w cs 3 qo hcs hcv;have h6:aB wb g6 34 #[.slice (some ⟨w.heap.size,0,none⟩) 3 3]:=hwb▸aB.at_ _ _ _ (by rw[mJ,hsa]);have HI:=qh (show Gr w.heap.size g6 w.heap.size (CA W.toNat z n (ownB W z n)) 0 (fun b=>b=g6∨b=w.heap.size) wb from⟨h6,own_below ho hbb,rfl⟩);have iT:=qh (show wb=(w.alloc (.cells cs 2)).alloc (.cells #[.slice (some ⟨w.heap.size,0,none⟩) 3 3] 34)from by rw[hwb,lZ]);have HG:=qh mJ;have HA:=qh (fun W' (h:Below w.heap.size wb W')=>ha.below (dX.o.trans h));have wh:∀(fn:Fn) (first c:Array Value) (w:World),(Instr.makeFunc fn first c).run Tryz.prog w=.ok (.func fn first c) w:=fun _ _ _ _=>rfl;have PZ:=qh (DT W A n q z wb 45 Tryz.call45 #[.pointer (some ⟨g6,0,none⟩)] _ w.heap.size _ (Tz qo) HI.o dX.o.size (fun k C wc hk h=>Fa W.toNat z n _ w.heap.size g6 _ qo k C wc hk h) HA.o hn hq);obtain⟨cd,hcd⟩:=qx (l6 W z n);have qG:=qh hcd;unfold Vt at PZ;rw[←hcd]at PZ;clear ha lZ hwb mJ hsa hba hbb ho h6 HI HA hcd hcs hcv hmk
 by_cases h0:cd=0
 ·subst h0
  have HL:=qh (show TA W z n=CA W.toNat z n (ownB W z n) (kI z n)from if_pos qG.o.symm)
  go_enter Tryz.func14,Tryz.ntmps14
  go_upto_region 2 with(fail)
  rw[←iT.o,←HG.o]
  go_wp2_with fail
  refine PZ.o.mono ?_;rintro e w1 ⟨rfl,hb1,hi1⟩;obtain⟨C,b6,ho,hC⟩:=hi1 (by trivial);have HB1:=qh (dX.o.trans hb1);have HO:=qh ho;have x6:w1.cell? ⟨g6,0,none⟩=some (.slice (some ⟨w.heap.size,0,none⟩) 3 3):=b6.cell 0;clear hb1 hi1 b6 ho hC
  go_wp2_with fail
  go_ret2
  exact NR HL.o (by unfold KW;rw[HL.o];rfl) qG.o.symm rfl HO.o HB1.o
 ·have jH:=qh (show l6 W z n≠0 from fun h=>h0 (qG.o.trans h))
  have hc1:(cd==0)=false:=by simpa using h0
  clear h0
  go_enter Tryz.func14,Tryz.ntmps14
  go_upto_region 2 with(fail)
  rw[←iT.o,←HG.o]
  go_wp2_with fail
  refine PZ.o.mono ?_;rintro e w1 ⟨rfl,hb1,hi1⟩;have HB1:=qh (dX.o.trans hb1);clear hb1 hi1
  go_wp2_with fail
  go_ret2
  exact NS (by unfold KW TA;rw[if_neg jH.o];rfl) qG.o.symm rfl HB1.o
end
end Go.Proofs.YtdnmhhohcedjbaaGreat
