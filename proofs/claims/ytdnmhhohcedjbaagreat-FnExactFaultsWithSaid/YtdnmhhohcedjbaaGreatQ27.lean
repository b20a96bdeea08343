/- Walks and plain lemmas. -/
import Derived.Test.YtdnmhhohcedjbaaGreatQ25
set_option linter.unusedVariables false
set_option linter.unusedSimpArgs false
set_option maxHeartbeats 4000000
set_option maxRecDepth 20000
namespace Go.Proofs.YtdnmhhohcedjbaaGreat
open Go.RowKit
section
variable {tg:Nat→Nat}{a:bC}{s:aI}{D:Nat}{w:World}
theorem zQ27x0 {p:Prop}(h:p:=by
 have hj0:(0:Int)≤j:=qo;have OK:(j:Int)<4:=qo;obtain⟨x,hx⟩:=qx (aL fb fa s.rk);have hxb:=iC (b:=fb) ha0 (show fa≤23 by omega) hr1 hr2;rw[←hx]at hxb;have HX:=qh hx;clear hx;have hwx:IntKind.i64.wrap (x+1)=x+1:=by rw[IntKind.wrap_i64];omega
 have pC:IntKind.i64.wrap x=x:=by rw[IntKind.wrap_i64];omega
 have hv2:IntKind.i64.wrap ((IntKind.i64.wrap 2).tdiv 2)=1:=by decide
 have hv0:IntKind.i64.wrap ((IntKind.i64.wrap 0).tdiv 2)=0:=by decide
 have hq1:∀(W:World) (x:Nat) (v:Value) (q:Nat),(W.setCell ⟨a5.gc,x,none⟩ v).cell? ⟨a.g,q,none⟩=W.cell? ⟨a.g,q,none⟩:=fun W x v q=>World.cell?_setCell_other W _ _ v (by intro e;injection e with e1 e2;have h1:=cH.o.m.tc;have h2:=cH.o.m.tm;rw[cH.o.g]at h2;rw[e1]at h1;omega);have hq2:∀(W:World) (x:Nat) (v:Value) (q:Nat),(W.setCell ⟨a5.gc,x,none⟩ v).cell? ⟨w.heap.size,q,none⟩=W.cell? ⟨w.heap.size,q,none⟩:=fun W x v q=>World.cell?_setCell_other W _ _ v (by intro e;injection e with e1 e2;have h1:=cH.o.m.tc;have h2:=(cH.o.op bA.o gT.o).2;rw[e1]at h1;omega);have LG:=qh (World.block_lt_of_cell? w5 _ t4);have LO:=qh (World.block_lt_of_cell? w5 _ u1);have KS:=qh (And.intro t4 (And.intro t1 (And.intro u1 (And.intro u2 (And.intro u3 u6)))))
 go_region_held3 (fun w'=>w'.cell? ⟨a.g,4,none⟩=some (.slice (some ⟨a5.gc,0,none⟩) 4 a5.cc)∧w'.cell? ⟨a.g,1,none⟩=some (.int .i64 s.rk)∧w'.cell? ⟨w.heap.size,1,none⟩=some (.int .i64 (1))∧w'.cell? ⟨w.heap.size,2,none⟩=some (.int .i64 fb)∧w'.cell? ⟨w.heap.size,2+1,none⟩=some (.int .i64 fa)∧w'.cell? ⟨w.heap.size,6,none⟩=some (.int .i64 ((j:Int)+1))) (go_keep)
  ((go_at_call 131;refine(lT fb fa s.rk _ ha0 qo hr1 hr2).mono ?_;rintro e w7 ⟨he,bQ⟩;obtain rfl:e=.returned (.int .i64 x):=he.trans (by rw[HX.o]);have aS:Hq (Below w5.heap.size w5 w7):=qh (((Below.refl w5.heap.size w5).drew).trans bQ);have y4:=((aA aS.o).1 a.g 4 LG.out).trans KS.out.1;have y1:=((aA aS.o).1 a.g 1 LG.out).trans KS.out.2.1;have z1:=((aA aS.o).1 w.heap.size 1 LO.out).trans KS.out.2.2.1;have z2:=((aA aS.o).1 w.heap.size 2 LO.out).trans KS.out.2.2.2.1;have z3:=((aA aS.o).1 w.heap.size (2+1) LO.out).trans KS.out.2.2.2.2.1;have z6:=((aA aS.o).1 w.heap.size 6 LO.out).trans KS.out.2.2.2.2.2;have cc:=(cH.o.below aS.o).m.mA HJ.o;have oO:=cc.2.1;have AN:=cc.2.2.2;clear cc bQ he))
 rename_i hHeld
 have iY:=qh ((cH.o.below aS.o).setAt HJ.o (x+1));clear hHeld y4 y1 z1 z2 z3 z6 oO AN hq1 hq2 hwx pC hv2 hv0 wM
 go_wp2_with fail
 go_ret
 exact⟨rfl,fun h=>absurd rfl h,fun _=>Moved.of_below HG.o (by rw[HST.o,←HX.o];have h8:=iY.o.moved;rw[sE.o]at h8;exact h8)⟩):p:=h
theorem zQ27x1 {p:Prop}(h:p:=by
 have hj0:(0:Int)≤j:=qo;have OK:(j:Int)<4:=qo;obtain⟨x,hx⟩:=qx (aL fb fa s.rk);have hxb:=iC (b:=fb) ha0 (show fa≤23 by omega) hr1 hr2;rw[←hx]at hxb;have HX:=qh hx;clear hx;have hwx:IntKind.i64.wrap (x+1)=x+1:=by rw[IntKind.wrap_i64];omega
 have pC:IntKind.i64.wrap x=x:=by rw[IntKind.wrap_i64];omega
 have hv2:IntKind.i64.wrap ((IntKind.i64.wrap 2).tdiv 2)=1:=by decide
 have hv0:IntKind.i64.wrap ((IntKind.i64.wrap 0).tdiv 2)=0:=by decide
 have hq1:∀(W:World) (x:Nat) (v:Value) (q:Nat),(W.setCell ⟨a5.gc,x,none⟩ v).cell? ⟨a.g,q,none⟩=W.cell? ⟨a.g,q,none⟩:=fun W x v q=>World.cell?_setCell_other W _ _ v (by intro e;injection e with e1 e2;have h1:=cH.o.m.tc;have h2:=cH.o.m.tm;rw[cH.o.g]at h2;rw[e1]at h1;omega);have hq2:∀(W:World) (x:Nat) (v:Value) (q:Nat),(W.setCell ⟨a5.gc,x,none⟩ v).cell? ⟨w.heap.size,q,none⟩=W.cell? ⟨w.heap.size,q,none⟩:=fun W x v q=>World.cell?_setCell_other W _ _ v (by intro e;injection e with e1 e2;have h1:=cH.o.m.tc;have h2:=(cH.o.op bA.o gT.o).2;rw[e1]at h1;omega);have LG:=qh (World.block_lt_of_cell? w5 _ t4);have LO:=qh (World.block_lt_of_cell? w5 _ u1);have KS:=qh (And.intro t4 (And.intro t1 (And.intro u1 (And.intro u2 (And.intro u3 u6)))))
 go_region_held3 (fun w'=>w'.cell? ⟨a.g,4,none⟩=some (.slice (some ⟨a5.gc,0,none⟩) 4 a5.cc)∧w'.cell? ⟨a.g,1,none⟩=some (.int .i64 s.rk)∧w'.cell? ⟨w.heap.size,1,none⟩=some (.int .i64 (-1))∧w'.cell? ⟨w.heap.size,2,none⟩=some (.int .i64 fb)∧w'.cell? ⟨w.heap.size,2+1,none⟩=some (.int .i64 fa)∧w'.cell? ⟨w.heap.size,6,none⟩=some (.int .i64 ((j:Int)+1))) (go_keep)
  ((go_at_call 131;refine(lT fb fa s.rk _ ha0 qo hr1 hr2).mono ?_;rintro e w7 ⟨he,bQ⟩;obtain rfl:e=.returned (.int .i64 x):=he.trans (by rw[HX.o]);have aS:Hq (Below w5.heap.size w5 w7):=qh (((Below.refl w5.heap.size w5).drew).trans bQ);have y4:=((aA aS.o).1 a.g 4 LG.out).trans KS.out.1;have y1:=((aA aS.o).1 a.g 1 LG.out).trans KS.out.2.1;have z1:=((aA aS.o).1 w.heap.size 1 LO.out).trans KS.out.2.2.1;have z2:=((aA aS.o).1 w.heap.size 2 LO.out).trans KS.out.2.2.2.1;have z3:=((aA aS.o).1 w.heap.size (2+1) LO.out).trans KS.out.2.2.2.2.1;have z6:=((aA aS.o).1 w.heap.size 6 LO.out).trans KS.out.2.2.2.2.2;have cc:=(cH.o.below aS.o).m.mA HJ.o;have oO:=cc.2.1;have AN:=cc.2.2.2;clear cc bQ he))
 rename_i hHeld
 have iY:=qh ((cH.o.below aS.o).setAt HJ.o (x));clear hHeld y4 y1 z1 z2 z3 z6 oO AN hq1 hq2 hwx pC hv2 hv0 wM
 go_wp2_with fail
 go_ret
 exact⟨rfl,fun h=>absurd rfl h,fun _=>Moved.of_below HG.o (by rw[HST.o,←HX.o];have h8:=iY.o.moved;rw[sE.o]at h8;exact h8)⟩):p:=h
theorem zQ27x2 {p:Prop}(h:p:=by
 have jH:=qh hc0;have HB1:=HG.st hb1;clear hb1 hc0
 go_wp2_with fail
 go_ret
 exact⟨rfl,fun _=>HB1.o,fun h=>absurd h jH.o⟩):p:=h
theorem Nh {d fb fa tb ta c r:Int}{j:Nat}(H:Mem tg a s w)(hs:bW s D)(YJ:D≤1000000)(hp:fP s.W 1 d fb fa tb ta c r j)(hb:nA 1 fb tb)(hf:rI 1 fb):Calls Tryz.prog 100 #[.pointer (some ⟨a.g,0,none⟩),.agg #[.int .i64 1,.int .i64 d,.int .i64 fb,.int .i64 fa,.int .i64 tb,.int .i64 ta,.int .i64 c,.int .i64 r]] w (LC w tg a.g (aX s 1 d fb fa tb ta j) (cV s 1 d fb fa tb ta r j)):=by
 have hg:Below w.heap.size w (w.alloc (.cells #[.int .i64 1,.int .i64 d,.int .i64 fb,.int .i64 fa,.int .i64 tb,.int .i64 ta,.int .i64 c,.int .i64 r] 67)):=qb;have HG:=qh hg;have gB:=qh (At.start (H.below hg));have cM:=kT w 1 d fb fa tb ta c r;have bA:=qh cM;have gT:Hq (tg w.heap.size=0):=qh (Decidable.byContradiction fun hn=>Nat.lt_irrefl _ (H.lt _ hn));have hoc:=jI (H.below hg) hs hp hb hf;obtain⟨code,hcode⟩:=qx (aX s 1 d fb fa tb ta j);rw[←hcode]at hoc ⊢;obtain⟨s9,gP⟩:=qx (cV s 1 d fb fa tb ta r j);rw[←gP];have HC:=qh hcode;have tM:=qh gP;have l9:=qh hoc;have HS:=qh hs;have HP:=qh hp;have HB:=qh hb;have HF:=qh hf;have hlA:∃AL cL,a.L=.slice AL s.n cL:=gB.o.L;have yG:=qh hlA;clear H hs hp hb hf hg hoc hcode gP cM hlA
 go_enter Tryz.func100,Tryz.ntmps100
 go_wp2_with fail
 refine l9.o.mono ?_;rintro e w1 ⟨rfl,hb1⟩
 by_cases hc0:code=0
 ·subst hc0
  have HA1:=qh (gB.o.below hb1);have aO:=qh (HA1.o.op bA.o gT.o).1;clear hb1 l9;obtain⟨rfl,hj⟩:=HP.o.mA qo qo qo;have HJ:=qh hj;have hd:=HP.o.dir qo qo qo qo;have ha0:=HP.o.f0;have ha1:=HP.o.f1;have hw2:=HS.o.w2;have hr1:=HS.o.r1;have hr2:=HS.o.r2;have fB:=HF.o qo;have Lm:=MP HC.o.symm qo;have o0:=aO.o.c0;have o1:=aO.o.c1;have o2:=aO.o.c2;have o3:=aO.o.c3;have o4:=aO.o.c4;have o5:=aO.o.c5;have o6:=aO.o.c6;have o7:=aO.o.c7;rw[Nat.zero_add]at o1 o2 o3 o4 o5 o6 o7;have HST:Hq (s9={gA (more s) fb fa 1 with cat:=newAt s d (aL fb fa s.rk) j}):=qh (by rw[tM.o,adB]);obtain⟨nf,hnf⟩:=qx (aM s fb fa);have fW:nf≤4:=by rw[hnf];exact bT HS.o ha0 ha1
  have hlf:=HA1.o.m.lU (b:=fb) ha0 ha1;rw[←hnf]at hlf;obtain⟨Af,cf,hvf⟩:=hlf.form;have jV:=qh hvf;rw[hvf]at hlf;have ZH:=qh hlf;have AX:Hq (∀q,(Value.slice Af nf cf).ownBlock=some q→tg q=iN fb fa):=qh (by rw[←hvf];exact HA1.o.m.WE ha0 ha1);have FP:Hq (∀b,tg (bO a b)=2∨tg (bO a b)=3):=qh fun b=>by unfold bO;split;exact .inl HA1.o.m.tf;exact .inr HA1.o.m.tk
  clear hlf hvf hnf
  go_wp2_with (first
   |(go_at_call 67;refine(aU _ _ qo qo).mono ?_;rintro e w' ⟨rfl,rfl⟩)
   |(go_at_call 124;(with_reducible refine(cG fb fa HA1.o.m fB ha0 ha1).mono ?_);rintro e w2 ⟨rfl,hb2⟩;have HA2:=qh (HA1.o.below hb2);have aH:=qh (HA2.o.op bA.o gT.o).1;have kc:=HA2.o.m.dE (b:=fb) ha0 ha1;rw[jV.o]at kc;have aeC:=qh (ZH.o.blk fun q hq=>hb2.block q (ZH.o.lt q hq));have x2:=aH.o.c2;have x3:=aH.o.c3;clear hb2 o0 o1 o2 o3 o4 o5 o6 o7)
   |(go_at_call 124;(with_reducible refine(cG fb fa HA2.o.m fB ha0 ha1).mono ?_);rintro e w3 ⟨rfl,hb3⟩;have gY:=qh (HA2.o.below hb3);have aiw:=qh (aeC.o.blk fun q hq=>hb3.block q (aeC.o.lt q hq));have k3:=gY.o.m.dE (b:=fb) ha0 ha1;rw[jV.o]at k3;have f3:=gY.o.m.MN (b:=fb) ha0 ha1;have TX:=qh (gY.o.LR (b:=fb) ha0 ha1 (bE.nil w3) (fun q hq=>by cases hq) (fun q hq=>by cases hq));have bP:=qh (TX.o.op bA.o gT.o).1;have aiv:Hq (bE (w3.setCell ⟨bO a fb,fa.toNat,none⟩ (.slice none 0 0)) (.slice Af nf cf) nf):=qh (aiw.o.blk fun q hq=>aE _ _ _ _ (by intro e;have h1:=AX.o q hq;rw[show q=bO a fb from e]at h1;have h2:=FP.o fb;have:=i8 fb fa;omega));have y0:=bP.o.c0;have y1:=bP.o.c1;have y2:=bP.o.c2;have y3:=bP.o.c3;have y4:=bP.o.c4;have y5:=bP.o.c5;have y6:=bP.o.c6;have y7:=bP.o.c7;rw[Nat.zero_add]at y1 y2 y3 y4 y5 y6 y7;clear hb3 kc x2 x3)
   |(go_at_call 128;have hlp:=LZ 1 d fb fa tb ta ((j:Int)+1) r (.slice Af nf cf) nf TX.o.m (pW HS.o _ _ (Nat.zero_le _)) fB ha0 (by rw[iB];exact ha1) (by rw[GY];exact Lm) aiv.o qo (fun q hq=>⟨by rw[LN rfl,AX.o q hq];exact i8 _ _,by rw[QH];exact fun e=>by cases e⟩);rw[wG]at hlp;refine hlp.mono ?_;rintro e w5 ⟨rfl,qB⟩;clear hlp;rw[WF,Bu]at qB;obtain⟨wB,a5,mY,_,_⟩:=TX.o.next qB;have cH:Hq (At _ tg a.g (gA (more s) fb fa 1) w5 wB a5):=qh mY;have cI:=qh (cH.o.op bA.o gT.o).1;have p0:=cI.o.c0;have sE:Hq ((gA (more s) fb fa 1).cat=s.cat):=qh (wF _ _ _ _);clear qB mY y0 y1 y2 y3 y4 y5 y6 y7 k3 f3))
  rcases hd with rfl|rfl
  ·have t4:=(show _=some (Value.slice (some ⟨a5.gc,0,none⟩) 4 a5.cc)from cH.o.m.m.cell 4)
   have t1:=(show _=some (Value.int .i64 (gA (more s) fb fa 1).rk)from cH.o.m.m.cell 1);rw[cH.o.g]at t4 t1;rw[show(gA (more s) fb fa 1).rk=s.rk from o8 _ _ _ _]at t1;have u1:=cI.o.c1;have u2:=cI.o.c2;have u3:=cI.o.c3;have u6:=cI.o.c6;rw[Nat.zero_add]at u1 u2 u3 u6;have wM:IntKind.i64.wrap (j:Int)=j:=by rw[IntKind.wrap_i64];omega
   exact zQ27x0
  ·have t4:=(show _=some (Value.slice (some ⟨a5.gc,0,none⟩) 4 a5.cc)from cH.o.m.m.cell 4)
   have t1:=(show _=some (Value.int .i64 (gA (more s) fb fa 1).rk)from cH.o.m.m.cell 1);rw[cH.o.g]at t4 t1;rw[show(gA (more s) fb fa 1).rk=s.rk from o8 _ _ _ _]at t1;have u1:=cI.o.c1;have u2:=cI.o.c2;have u3:=cI.o.c3;have u6:=cI.o.c6;rw[Nat.zero_add]at u1 u2 u3 u6;have wM:IntKind.i64.wrap (j:Int)=j:=by rw[IntKind.wrap_i64];omega
   exact zQ27x1
 ·have hc1:(code==0)=false:=by simpa using hc0
  exact zQ27x2
end
section
variable {tg:Nat→Nat}{a:bC}{s:aI}{D:Nat}{w:World}
theorem Nb {d fb fa tb ta c r:Int}{j:Nat}(H:Mem tg a s w)(hs:bW s D)(YJ:D≤1000000)(hp:fP s.W 5 d fb fa tb ta c r j)(hb:nA 5 fb tb)(hf:rI 5 fb):Calls Tryz.prog 100 #[.pointer (some ⟨a.g,0,none⟩),.agg #[.int .i64 5,.int .i64 d,.int .i64 fb,.int .i64 fa,.int .i64 tb,.int .i64 ta,.int .i64 c,.int .i64 r]] w (LC w tg a.g (aX s 5 d fb fa tb ta j) (cV s 5 d fb fa tb ta r j)):=by
 have hg:Below w.heap.size w (w.alloc (.cells #[.int .i64 5,.int .i64 d,.int .i64 fb,.int .i64 fa,.int .i64 tb,.int .i64 ta,.int .i64 c,.int .i64 r] 67)):=qb;have HG:=qh hg;have gB:=qh (At.start (H.below hg));have cM:=kT w 5 d fb fa tb ta c r;have bA:=qh cM;have gT:Hq (tg w.heap.size=0):=qh (Decidable.byContradiction fun hn=>Nat.lt_irrefl _ (H.lt _ hn));have hoc:=jI (H.below hg) hs hp hb hf;obtain⟨code,hcode⟩:=qx (aX s 5 d fb fa tb ta j);rw[←hcode]at hoc ⊢;obtain⟨s9,gP⟩:=qx (cV s 5 d fb fa tb ta r j);rw[←gP];have HC:=qh hcode;have tM:=qh gP;have l9:=qh hoc;have HS:=qh hs;have HP:=qh hp;have HB:=qh hb;have HF:=qh hf;have hlA:∃AL cL,a.L=.slice AL s.n cL:=gB.o.L;have yG:=qh hlA;clear H hs hp hb hf hg hoc hcode gP cM hlA
 go_enter Tryz.func100,Tryz.ntmps100
 go_wp2_with fail
 refine l9.o.mono ?_;rintro e w1 ⟨rfl,hb1⟩
 by_cases hc0:code=0
 ·subst hc0
  have HA1:=qh (gB.o.below hb1);have aO:=qh (HA1.o.op bA.o gT.o).1;clear hb1 l9;obtain⟨rfl,hj⟩:=HP.o.mA qo qo qo;have HJ:=qh hj;have hd:=HP.o.dir qo qo qo qo;have ha0:=HP.o.f0;have ha1:=HP.o.f1;have hw2:=HS.o.w2;have hr1:=HS.o.r1;have hr2:=HS.o.r2;have fB:=HF.o qo;have hbb:=HB.o (.inr rfl);have Lm:=MP HC.o.symm qo;have fC:=HP.o.t0;have i9:=HP.o.t1;have hmc:eG s fb fa tb ta=0:=by
   have h:=HC.o;unfold aX at h;rw[if_pos qo]at h;unfold eH at h
   split at h
   ·rw[if_neg qo,if_neg qo,if_neg qo]at h
    exact h.symm
   ·omega
  have hnz:aM s fb fa≠0:=by
   have h:=hmc;unfold eG at h;intro h0;rw[if_pos h0]at h
   split at h<;>omega
  have h4f:=bT (b:=fb) HS.o ha0 ha1;have tN:Hq (bW (aY s fb fa tb ta) D):=qh (by
   have h:=hmc;unfold eG at h;unfold aY;refine pW (pW HS.o _ _ ?_) _ _ (Nat.zero_le _)
   by_cases hpl:aL fb fa s.rk=aL tb ta s.rk
   ·rw[if_pos hpl,if_neg hnz]at h
    by_cases hov:4<aM s fb fa+aM s tb ta
    ·rw[if_pos hov]at h;omega
    ·omega
   ·rw[if_neg hpl]at h;omega)
  have htr:=GP fb fa tb ta (HA1.o.below ((Below.refl w1.heap.size w1).drew)).m HS.o hbb ha0 ha1 fC i9 hnz;have HTR:=qh htr;clear htr hbb hnz hmc;have o0:=aO.o.c0;have o1:=aO.o.c1;have o2:=aO.o.c2;have o3:=aO.o.c3;have o4:=aO.o.c4;have o5:=aO.o.c5;have o6:=aO.o.c6;have o7:=aO.o.c7;rw[Nat.zero_add]at o1 o2 o3 o4 o5 o6 o7;have HST:Hq (s9={gA (more (aY s fb fa tb ta)) fb fa 1 with cat:=newAt s d (aL fb fa s.rk) j}):=qh (by rw[tM.o,adz]);have x3:w1.cell? ⟨w.heap.size,3,none⟩=some (.int .i64 fa):=o3;have x5:w1.cell? ⟨w.heap.size,5,none⟩=some (.int .i64 ta):=o5;have LO:=qh (World.block_lt_of_cell? w1 _ o0);have KS:=qh (And.intro o0 (And.intro o1 (And.intro o2 (And.intro x3 (And.intro o4 (And.intro x5 (And.intro o6 o7)))))));clear x3 x5
  go_wp2_with fail
  go_region_held3 (fun w'=>w'.cell? ⟨w.heap.size,0,none⟩=some (.int .i64 (5))∧w'.cell? ⟨w.heap.size,1,none⟩=some (.int .i64 (d))∧w'.cell? ⟨w.heap.size,2,none⟩=some (.int .i64 (fb))∧w'.cell? ⟨w.heap.size,3,none⟩=some (.int .i64 (fa))∧w'.cell? ⟨w.heap.size,4,none⟩=some (.int .i64 (tb))∧w'.cell? ⟨w.heap.size,5,none⟩=some (.int .i64 (ta))∧w'.cell? ⟨w.heap.size,6,none⟩=some (.int .i64 ((j:Int)+1))∧w'.cell? ⟨w.heap.size,7,none⟩=some (.int .i64 (r))) (go_keep)
   (first
    |(go_at_call 129;refine HTR.o.mono ?_;rintro e w2 ⟨v,xY,a2,rfl,gF,hlv,hnil,h8⟩;obtain⟨Av,cv,rfl⟩:=hlv.form;have HA2:=qh ((HA1.o.below ((Below.refl w1.heap.size w1).drew)).comp gF);have ZE:=qh hlv;have aij:=qh hnil;have H8:=qh h8;have aH:=qh (HA2.o.op bA.o gT.o).1;have y0:=aH.o.c0;have y1:=aH.o.c1;have y2:=aH.o.c2;have y3:w2.cell? ⟨w.heap.size,3,none⟩=some (.int .i64 fa):=aH.o.c3;have y4:=aH.o.c4;have y5:w2.cell? ⟨w.heap.size,5,none⟩=some (.int .i64 ta):=aH.o.c5;have y6:=aH.o.c6;have y7:=aH.o.c7;rw[Nat.zero_add]at y1 y2 y4 y6 y7;clear gF hlv hnil h8 o0 o1 o2 o3 o4 o5 o6 o7)
    |(go_at_call 128;have hlp:=LZ 5 d fb fa tb ta ((j:Int)+1) r (.slice Av (aM s fb fa) cv) (aM s fb fa) HA2.o.m tN.o fB ha0 (by rw[tX];exact ha1) (by rw[LY];exact Lm) ZE.o qo (fun q hq=>⟨H8.o q hq,by rw[aij.o];exact fun e=>by cases e⟩);rw[HA2.o.g]at hlp;refine hlp.mono ?_;rintro e w5 ⟨rfl,qB⟩;clear hlp;rw[show aM (aY s fb fa tb ta) fb fa=0 from WF _ _ _ _]at qB;obtain⟨wB,a5,mY,_,_⟩:=HA2.o.next qB;have cH:Hq (At _ tg a.g (gA (more (aY s fb fa tb ta)) fb fa 1) w5 wB a5):=qh mY;have cI:=qh (cH.o.op bA.o gT.o).1;have p0:=cI.o.c0;have p1:=cI.o.c1;have p2:=cI.o.c2;have p3:w5.cell? ⟨w.heap.size,3,none⟩=some (.int .i64 fa):=cI.o.c3;have p4:=cI.o.c4;have p5:w5.cell? ⟨w.heap.size,5,none⟩=some (.int .i64 ta):=cI.o.c5;have p6:=cI.o.c6;have p7:=cI.o.c7;rw[Nat.zero_add]at p1 p2 p4 p6 p7;have sE:Hq ((gA (more (aY s fb fa tb ta)) fb fa 1).cat=s.cat):=qh (by rw[wF];show(aY s fb fa tb ta).cat=_;unfold aY;rw[wF,wF]);clear qB mY y0 y1 y2 y3 y4 y5 y6 y7))
  rename_i hHeld
  clear hHeld p1 p2 p3 p4 p5 p6 p7 KS LO
  go_wp2_with (go_at_call 67;refine(aU _ _ qo qo).mono ?_;rintro e w' ⟨rfl,rfl⟩)
  rcases hd with rfl|rfl
  ·have t4:=(show _=some (Value.slice (some ⟨a5.gc,0,none⟩) 4 a5.cc)from cH.o.m.m.cell 4)
   have t1:=(show _=some (Value.int .i64 (gA (more (aY s fb fa tb ta)) fb fa 1).rk)from cH.o.m.m.cell 1);rw[cH.o.g]at t4 t1;rw[show(gA (more (aY s fb fa tb ta)) fb fa 1).rk=s.rk by(rw[o8];show(aY s fb fa tb ta).rk=_;unfold aY;rw[o8,o8])]at t1;have u1:=cI.o.c1;have u2:=cI.o.c2;have u3:=cI.o.c3;have u6:=cI.o.c6;rw[Nat.zero_add]at u1 u2 u3 u6;have wM:IntKind.i64.wrap (j:Int)=j:=by rw[IntKind.wrap_i64];omega
   exact zQ27x0
  ·have t4:=(show _=some (Value.slice (some ⟨a5.gc,0,none⟩) 4 a5.cc)from cH.o.m.m.cell 4)
   have t1:=(show _=some (Value.int .i64 (gA (more (aY s fb fa tb ta)) fb fa 1).rk)from cH.o.m.m.cell 1);rw[cH.o.g]at t4 t1;rw[show(gA (more (aY s fb fa tb ta)) fb fa 1).rk=s.rk by(rw[o8];show(aY s fb fa tb ta).rk=_;unfold aY;rw[o8,o8])]at t1;have u1:=cI.o.c1;have u2:=cI.o.c2;have u3:=cI.o.c3;have u6:=cI.o.c6;rw[Nat.zero_add]at u1 u2 u3 u6;have wM:IntKind.i64.wrap (j:Int)=j:=by rw[IntKind.wrap_i64];omega
   exact zQ27x1
 ·have hc1:(code==0)=false:=by simpa using hc0
  exact zQ27x2
end
end Go.Proofs.YtdnmhhohcedjbaaGreat
