/- Walks and plain lemmas. -/
import Derived.Test.YtimlpmbabbbcaaaGreatP22
set_option linter.unusedVariables false
set_option linter.unusedSimpArgs false
set_option maxHeartbeats 4000000
set_option maxRecDepth 20000
namespace Go.Proofs.YtimlpmbabbbcaaaGreat
open Go.RowKit
section
variable {tg:Nat→Nat}{a:bV}{s:aP}{D:Nat}{w:World}
theorem zP26x0 {p:Prop}(h:p:=by
 have hj0:(0:Int)≤j:=qo;have P8:(j:Int)<4:=qo;obtain⟨x,hx⟩:=qx (aO fb fa s.rk);have hxb:=j4 (b:=fb) ha0 (show fa≤23 by omega) hr1 hr2;rw[←hx]at hxb;have HX:=qh hx;clear hx;have hwx:IntKind.i64.wrap (x+1)=x+1:=by rw[IntKind.wrap_i64];omega
 have q7:IntKind.i64.wrap x=x:=by rw[IntKind.wrap_i64];omega
 have hv2:IntKind.i64.wrap ((IntKind.i64.wrap 2).tdiv 2)=1:=by decide
 have hv0:IntKind.i64.wrap ((IntKind.i64.wrap 0).tdiv 2)=0:=by decide
 have hq1:∀(W:World) (x:Nat) (v:Value) (q:Nat),(W.setCell ⟨a5.gc,x,none⟩ v).cell? ⟨a.g,q,none⟩=W.cell? ⟨a.g,q,none⟩:=fun W x v q=>World.cell?_setCell_other W _ _ v (by intro e;injection e with e1 e2;have h1:=dC.o.m.tc;have h2:=dC.o.m.tm;rw[dC.o.g]at h2;rw[e1]at h1;omega);have hq2:∀(W:World) (x:Nat) (v:Value) (q:Nat),(W.setCell ⟨a5.gc,x,none⟩ v).cell? ⟨w.heap.size,q,none⟩=W.cell? ⟨w.heap.size,q,none⟩:=fun W x v q=>World.cell?_setCell_other W _ _ v (by intro e;injection e with e1 e2;have h1:=dC.o.m.tc;have h2:=(dC.o.op dE.o iN.o).2;rw[e1]at h1;omega);have LG:=qh (World.block_lt_of_cell? w5 _ t4);have LO:=qh (World.block_lt_of_cell? w5 _ u1);have KS:=qh (And.intro t4 (And.intro t1 (And.intro u1 (And.intro u2 (And.intro u3 u6)))))
 go_region_held3 (fun w'=>w'.cell? ⟨a.g,4,none⟩=some (.slice (some ⟨a5.gc,0,none⟩) 4 a5.cc)∧w'.cell? ⟨a.g,1,none⟩=some (.int .i64 s.rk)∧w'.cell? ⟨w.heap.size,1,none⟩=some (.int .i64 (1))∧w'.cell? ⟨w.heap.size,2,none⟩=some (.int .i64 fb)∧w'.cell? ⟨w.heap.size,2+1,none⟩=some (.int .i64 fa)∧w'.cell? ⟨w.heap.size,6,none⟩=some (.int .i64 ((j:Int)+1))) (go_keep)
  ((go_at_call 109;refine(mH fb fa s.rk _ ha0 qo hr1 hr2).mono ?_;rintro e w7 ⟨he,bM⟩;obtain rfl:e=.returned (.int .i64 x):=he.trans (by rw[HX.o]);have aR:Hq (Below w5.heap.size w5 w7):=qh (((Below.refl w5.heap.size w5).drew).trans bM);have y4:=((aC aR.o).1 a.g 4 LG.out).trans KS.out.1;have y1:=((aC aR.o).1 a.g 1 LG.out).trans KS.out.2.1;have z1:=((aC aR.o).1 w.heap.size 1 LO.out).trans KS.out.2.2.1;have z2:=((aC aR.o).1 w.heap.size 2 LO.out).trans KS.out.2.2.2.1;have z3:=((aC aR.o).1 w.heap.size (2+1) LO.out).trans KS.out.2.2.2.2.1;have z6:=((aC aR.o).1 w.heap.size 6 LO.out).trans KS.out.2.2.2.2.2;have cc:=(dC.o.below aR.o).m.mP HJ.o;have BZ:=cc.2.1;have BY:=cc.2.2.2;clear cc bM he))
 rename_i hHeld
 have kA:=qh ((dC.o.below aR.o).setAt HJ.o (x+1));clear hHeld y4 y1 z1 z2 z3 z6 BZ BY hq1 hq2 hwx q7 hv2 hv0 xY
 go_wp2_with fail
 go_ret
 exact⟨rfl,fun h=>absurd rfl h,fun _=>Moved.of_below HG.o (by rw[HST.o,←HX.o];have h8:=kA.o.moved;rw[FB.o]at h8;exact h8)⟩):p:=h
theorem zP26x1 {p:Prop}(h:p:=by
 have hj0:(0:Int)≤j:=qo;have P8:(j:Int)<4:=qo;obtain⟨x,hx⟩:=qx (aO fb fa s.rk);have hxb:=j4 (b:=fb) ha0 (show fa≤23 by omega) hr1 hr2;rw[←hx]at hxb;have HX:=qh hx;clear hx;have hwx:IntKind.i64.wrap (x+1)=x+1:=by rw[IntKind.wrap_i64];omega
 have q7:IntKind.i64.wrap x=x:=by rw[IntKind.wrap_i64];omega
 have hv2:IntKind.i64.wrap ((IntKind.i64.wrap 2).tdiv 2)=1:=by decide
 have hv0:IntKind.i64.wrap ((IntKind.i64.wrap 0).tdiv 2)=0:=by decide
 have hq1:∀(W:World) (x:Nat) (v:Value) (q:Nat),(W.setCell ⟨a5.gc,x,none⟩ v).cell? ⟨a.g,q,none⟩=W.cell? ⟨a.g,q,none⟩:=fun W x v q=>World.cell?_setCell_other W _ _ v (by intro e;injection e with e1 e2;have h1:=dC.o.m.tc;have h2:=dC.o.m.tm;rw[dC.o.g]at h2;rw[e1]at h1;omega);have hq2:∀(W:World) (x:Nat) (v:Value) (q:Nat),(W.setCell ⟨a5.gc,x,none⟩ v).cell? ⟨w.heap.size,q,none⟩=W.cell? ⟨w.heap.size,q,none⟩:=fun W x v q=>World.cell?_setCell_other W _ _ v (by intro e;injection e with e1 e2;have h1:=dC.o.m.tc;have h2:=(dC.o.op dE.o iN.o).2;rw[e1]at h1;omega);have LG:=qh (World.block_lt_of_cell? w5 _ t4);have LO:=qh (World.block_lt_of_cell? w5 _ u1);have KS:=qh (And.intro t4 (And.intro t1 (And.intro u1 (And.intro u2 (And.intro u3 u6)))))
 go_region_held3 (fun w'=>w'.cell? ⟨a.g,4,none⟩=some (.slice (some ⟨a5.gc,0,none⟩) 4 a5.cc)∧w'.cell? ⟨a.g,1,none⟩=some (.int .i64 s.rk)∧w'.cell? ⟨w.heap.size,1,none⟩=some (.int .i64 (-1))∧w'.cell? ⟨w.heap.size,2,none⟩=some (.int .i64 fb)∧w'.cell? ⟨w.heap.size,2+1,none⟩=some (.int .i64 fa)∧w'.cell? ⟨w.heap.size,6,none⟩=some (.int .i64 ((j:Int)+1))) (go_keep)
  ((go_at_call 109;refine(mH fb fa s.rk _ ha0 qo hr1 hr2).mono ?_;rintro e w7 ⟨he,bM⟩;obtain rfl:e=.returned (.int .i64 x):=he.trans (by rw[HX.o]);have aR:Hq (Below w5.heap.size w5 w7):=qh (((Below.refl w5.heap.size w5).drew).trans bM);have y4:=((aC aR.o).1 a.g 4 LG.out).trans KS.out.1;have y1:=((aC aR.o).1 a.g 1 LG.out).trans KS.out.2.1;have z1:=((aC aR.o).1 w.heap.size 1 LO.out).trans KS.out.2.2.1;have z2:=((aC aR.o).1 w.heap.size 2 LO.out).trans KS.out.2.2.2.1;have z3:=((aC aR.o).1 w.heap.size (2+1) LO.out).trans KS.out.2.2.2.2.1;have z6:=((aC aR.o).1 w.heap.size 6 LO.out).trans KS.out.2.2.2.2.2;have cc:=(dC.o.below aR.o).m.mP HJ.o;have BZ:=cc.2.1;have BY:=cc.2.2.2;clear cc bM he))
 rename_i hHeld
 have kA:=qh ((dC.o.below aR.o).setAt HJ.o (x));clear hHeld y4 y1 z1 z2 z3 z6 BZ BY hq1 hq2 hwx q7 hv2 hv0 xY
 go_wp2_with fail
 go_ret
 exact⟨rfl,fun h=>absurd rfl h,fun _=>Moved.of_below HG.o (by rw[HST.o,←HX.o];have h8:=kA.o.moved;rw[FB.o]at h8;exact h8)⟩):p:=h
theorem zP26x2 {p:Prop}(h:p:=by
 have pR:=qh hc0;have HB1:=HG.st hb1;clear hb1 hc0
 go_wp2_with fail
 go_ret
 exact⟨rfl,fun _=>HB1.o,fun h=>absurd h pR.o⟩):p:=h
theorem Lb {d fb fa tb ta c r:Int}{j:Nat}(H:Mem tg a s w)(hs:d8 s D)(YM:D≤1000000)(hp:gZ s.W 1 d fb fa tb ta c r j)(hb:nZ 1 fb tb)(hf:rY 1 fb):Calls Tryz.prog 66 #[.pointer (some ⟨a.g,0,none⟩),.agg #[.int .i64 1,.int .i64 d,.int .i64 fb,.int .i64 fa,.int .i64 tb,.int .i64 ta,.int .i64 c,.int .i64 r]] w (MN w tg a.g (bJ s 1 d fb fa tb ta j) (eM s 1 d fb fa tb ta r j)):=by
 have hg:Below w.heap.size w (w.alloc (.cells #[.int .i64 1,.int .i64 d,.int .i64 fb,.int .i64 fa,.int .i64 tb,.int .i64 ta,.int .i64 c,.int .i64 r] 51)):=qb;have HG:=qh hg;have lI:=qh (At.start (H.below hg));have dG:=lU w 1 d fb fa tb ta c r;have dE:=qh dG;have iN:Hq (tg w.heap.size=0):=qh (Decidable.byContradiction fun hn=>Nat.lt_irrefl _ (H.lt _ hn));have hoc:=kU (H.below hg) hs hp hb hf;obtain⟨code,hcode⟩:=qx (bJ s 1 d fb fa tb ta j);rw[←hcode]at hoc ⊢;obtain⟨s9,iJ⟩:=qx (eM s 1 d fb fa tb ta r j);rw[←iJ];have HC:=qh hcode;have vZ:=qh iJ;have lZ:=qh hoc;have HS:=qh hs;have HP:=qh hp;have HB:=qh hb;have HF:=qh hf;have hlA:∃AL cL,a.L=.slice AL s.n cL:=lI.o.L;have zL:=qh hlA;clear H hs hp hb hf hg hoc hcode iJ dG hlA
 go_enter Tryz.func66,Tryz.ntmps66
 go_wp2_with fail
 refine lZ.o.mono ?_;rintro e w1 ⟨rfl,hb1⟩
 by_cases hc0:code=0
 ·subst hc0
  have HA1:=qh (lI.o.below hb1);have aT:=qh (HA1.o.op dE.o iN.o).1;clear hb1 lZ;obtain⟨rfl,hj⟩:=HP.o.mP qo qo qo;have HJ:=qh hj;have hd:=HP.o.dir qo qo qo qo;have ha0:=HP.o.f0;have ha1:=HP.o.f1;have hw2:=HS.o.w2;have hr1:=HS.o.r1;have hr2:=HS.o.r2;have j7:=HF.o qo;have sX:=NQ HC.o.symm qo;have o0:=aT.o.c0;have o1:=aT.o.c1;have o2:=aT.o.c2;have o3:=aT.o.c3;have o4:=aT.o.c4;have o5:=aT.o.c5;have o6:=aT.o.c6;have o7:=aT.o.c7;rw[Nat.zero_add]at o1 o2 o3 o4 o5 o6 o7;have HST:Hq (s9={bB (more s) fb fa 1 with cat:=newAt s d (aO fb fa s.rk) j}):=qh (by rw[vZ.o,abK]);obtain⟨nf,hnf⟩:=qx (aU s fb fa);have lT:nf≤4:=by rw[hnf];exact cY HS.o ha0 ha1
  have hlf:=HA1.o.m.nP (b:=fb) ha0 ha1;rw[←hnf]at hlf;obtain⟨Af,cf,hvf⟩:=hlf.form;have lF:=qh hvf;rw[hvf]at hlf;have ZF:=qh hlf;have C8:Hq (∀q,(Value.slice Af nf cf).ownBlock=some q→tg q=jH fb fa):=qh (by rw[←hvf];exact HA1.o.m.W8 ha0 ha1);have GO:Hq (∀b,tg (cA a b)=2∨tg (cA a b)=3):=qh fun b=>by unfold cA;split;exact .inl HA1.o.m.tf;exact .inr HA1.o.m.tk
  clear hlf hvf hnf
  go_wp2_with (first
   |(go_at_call 101;refine(bA _ _ qo qo).mono ?_;rintro e w' ⟨rfl,rfl⟩)
   |(go_at_call 102;(with_reducible refine(dJ fb fa HA1.o.m j7 ha0 ha1).mono ?_);rintro e w2 ⟨rfl,hb2⟩;have HA2:=qh (HA1.o.below hb2);have aI:=qh (HA2.o.op dE.o iN.o).1;have kc:=HA2.o.m.eL (b:=fb) ha0 ha1;rw[lF.o]at kc;have acM:=qh (ZF.o.blk fun q hq=>hb2.block q (ZF.o.lt q hq));have x2:=aI.o.c2;have x3:=aI.o.c3;clear hb2 o0 o1 o2 o3 o4 o5 o6 o7)
   |(go_at_call 102;(with_reducible refine(dJ fb fa HA2.o.m j7 ha0 ha1).mono ?_);rintro e w3 ⟨rfl,hb3⟩;have g7:=qh (HA2.o.below hb3);have agE:=qh (acM.o.blk fun q hq=>hb3.block q (acM.o.lt q hq));have k3:=g7.o.m.eL (b:=fb) ha0 ha1;rw[lF.o]at k3;have f3:=g7.o.m.NP (b:=fb) ha0 ha1;have TU:=qh (g7.o.N2 (b:=fb) ha0 ha1 (bR.nil w3) (fun q hq=>by cases hq) (fun q hq=>by cases hq));have bS:=qh (TU.o.op dE.o iN.o).1;have agD:Hq (bR (w3.setCell ⟨cA a fb,fa.toNat,none⟩ (.slice none 0 0)) (.slice Af nf cf) nf):=qh (agE.o.blk fun q hq=>bI _ _ _ _ (by intro e;have h1:=C8.o q hq;rw[show q=cA a fb from e]at h1;have h2:=GO.o fb;have:=iX fb fa;omega));have y0:=bS.o.c0;have y1:=bS.o.c1;have y2:=bS.o.c2;have y3:=bS.o.c3;have y4:=bS.o.c4;have y5:=bS.o.c5;have y6:=bS.o.c6;have y7:=bS.o.c7;rw[Nat.zero_add]at y1 y2 y3 y4 y5 y6 y7;clear hb3 kc x2 x3)
   |(go_at_call 106;have hlp:=N4 1 d fb fa tb ta ((j:Int)+1) r (.slice Af nf cf) nf TU.o.m (qP HS.o _ _ (Nat.zero_le _)) j7 ha0 (by rw[j3];exact ha1) (by rw[IX];exact sX) agD.o qo (fun q hq=>⟨by rw[MY rfl,C8.o q hq];exact iX _ _,by rw[R5];exact fun e=>by cases e⟩);rw[xQ]at hlp;refine hlp.mono ?_;rintro e w5 ⟨rfl,X3⟩;clear hlp;rw[W9,Bt]at X3;obtain⟨IL,a5,l0,_,_⟩:=TU.o.next X3;have dC:Hq (At _ tg a.g (bB (more s) fb fa 1) w5 IL a5):=qh l0;have d9:=qh (dC.o.op dE.o iN.o).1;have p0:=d9.o.c0;have FB:Hq ((bB (more s) fb fa 1).cat=s.cat):=qh (xO _ _ _ _);clear X3 l0 y0 y1 y2 y3 y4 y5 y6 y7 k3 f3))
  rcases hd with rfl|rfl
  ·have t4:=(show _=some (Value.slice (some ⟨a5.gc,0,none⟩) 4 a5.cc)from dC.o.m.m.cell 4)
   have t1:=(show _=some (Value.int .i64 (bB (more s) fb fa 1).rk)from dC.o.m.m.cell 1);rw[dC.o.g]at t4 t1;rw[show(bB (more s) fb fa 1).rk=s.rk from pF _ _ _ _]at t1;have u1:=d9.o.c1;have u2:=d9.o.c2;have u3:=d9.o.c3;have u6:=d9.o.c6;rw[Nat.zero_add]at u1 u2 u3 u6;have xY:IntKind.i64.wrap (j:Int)=j:=by rw[IntKind.wrap_i64];omega
   exact zP26x0
  ·have t4:=(show _=some (Value.slice (some ⟨a5.gc,0,none⟩) 4 a5.cc)from dC.o.m.m.cell 4)
   have t1:=(show _=some (Value.int .i64 (bB (more s) fb fa 1).rk)from dC.o.m.m.cell 1);rw[dC.o.g]at t4 t1;rw[show(bB (more s) fb fa 1).rk=s.rk from pF _ _ _ _]at t1;have u1:=d9.o.c1;have u2:=d9.o.c2;have u3:=d9.o.c3;have u6:=d9.o.c6;rw[Nat.zero_add]at u1 u2 u3 u6;have xY:IntKind.i64.wrap (j:Int)=j:=by rw[IntKind.wrap_i64];omega
   exact zP26x1
 ·have hc1:(code==0)=false:=by simpa using hc0
  exact zP26x2
end
section
variable {tg:Nat→Nat}{a:bV}{s:aP}{D:Nat}{w:World}
theorem Kw {d fb fa tb ta c r:Int}{j:Nat}(H:Mem tg a s w)(hs:d8 s D)(YM:D≤1000000)(hp:gZ s.W 5 d fb fa tb ta c r j)(hb:nZ 5 fb tb)(hf:rY 5 fb):Calls Tryz.prog 66 #[.pointer (some ⟨a.g,0,none⟩),.agg #[.int .i64 5,.int .i64 d,.int .i64 fb,.int .i64 fa,.int .i64 tb,.int .i64 ta,.int .i64 c,.int .i64 r]] w (MN w tg a.g (bJ s 5 d fb fa tb ta j) (eM s 5 d fb fa tb ta r j)):=by
 have hg:Below w.heap.size w (w.alloc (.cells #[.int .i64 5,.int .i64 d,.int .i64 fb,.int .i64 fa,.int .i64 tb,.int .i64 ta,.int .i64 c,.int .i64 r] 51)):=qb;have HG:=qh hg;have lI:=qh (At.start (H.below hg));have dG:=lU w 5 d fb fa tb ta c r;have dE:=qh dG;have iN:Hq (tg w.heap.size=0):=qh (Decidable.byContradiction fun hn=>Nat.lt_irrefl _ (H.lt _ hn));have hoc:=kU (H.below hg) hs hp hb hf;obtain⟨code,hcode⟩:=qx (bJ s 5 d fb fa tb ta j);rw[←hcode]at hoc ⊢;obtain⟨s9,iJ⟩:=qx (eM s 5 d fb fa tb ta r j);rw[←iJ];have HC:=qh hcode;have vZ:=qh iJ;have lZ:=qh hoc;have HS:=qh hs;have HP:=qh hp;have HB:=qh hb;have HF:=qh hf;have hlA:∃AL cL,a.L=.slice AL s.n cL:=lI.o.L;have zL:=qh hlA;clear H hs hp hb hf hg hoc hcode iJ dG hlA
 go_enter Tryz.func66,Tryz.ntmps66
 go_wp2_with fail
 refine lZ.o.mono ?_;rintro e w1 ⟨rfl,hb1⟩
 by_cases hc0:code=0
 ·subst hc0
  have HA1:=qh (lI.o.below hb1);have aT:=qh (HA1.o.op dE.o iN.o).1;clear hb1 lZ;obtain⟨rfl,hj⟩:=HP.o.mP qo qo qo;have HJ:=qh hj;have hd:=HP.o.dir qo qo qo qo;have ha0:=HP.o.f0;have ha1:=HP.o.f1;have hw2:=HS.o.w2;have hr1:=HS.o.r1;have hr2:=HS.o.r2;have j7:=HF.o qo;have hbb:=HB.o (.inr rfl);have sX:=NQ HC.o.symm qo;have gB:=HP.o.t0;have iY:=HP.o.t1;have hmc:fO s fb fa tb ta=0:=by
   have h:=HC.o;unfold bJ at h;rw[if_pos qo]at h;unfold fQ at h
   split at h
   ·rw[if_neg qo,if_neg qo,if_neg qo]at h
    exact h.symm
   ·omega
  have hnz:aU s fb fa≠0:=by
   have h:=hmc;unfold fO at h;intro h0;rw[if_pos h0]at h
   split at h<;>omega
  have h4f:=cY (b:=fb) HS.o ha0 ha1;have rE:Hq (d8 (bO s fb fa tb ta) D):=qh (by
   have h:=hmc;unfold fO at h;unfold bO;refine qP (qP HS.o _ _ ?_) _ _ (Nat.zero_le _)
   by_cases hpl:aO fb fa s.rk=aO tb ta s.rk
   ·rw[if_pos hpl,if_neg hnz]at h
    by_cases hov:4<aU s fb fa+aU s tb ta
    ·rw[if_pos hov]at h;omega
    ·omega
   ·rw[if_neg hpl]at h;omega)
  have htr:=IJ fb fa tb ta (HA1.o.below ((Below.refl w1.heap.size w1).drew)).m HS.o hbb ha0 ha1 gB iY hnz;have YU:=qh htr;clear htr hbb hnz hmc;have o0:=aT.o.c0;have o1:=aT.o.c1;have o2:=aT.o.c2;have o3:=aT.o.c3;have o4:=aT.o.c4;have o5:=aT.o.c5;have o6:=aT.o.c6;have o7:=aT.o.c7;rw[Nat.zero_add]at o1 o2 o3 o4 o5 o6 o7;have HST:Hq (s9={bB (more (bO s fb fa tb ta)) fb fa 1 with cat:=newAt s d (aO fb fa s.rk) j}):=qh (by rw[vZ.o,abI]);have x3:w1.cell? ⟨w.heap.size,3,none⟩=some (.int .i64 fa):=o3;have x5:w1.cell? ⟨w.heap.size,5,none⟩=some (.int .i64 ta):=o5;have LO:=qh (World.block_lt_of_cell? w1 _ o0);have KS:=qh (And.intro o0 (And.intro o1 (And.intro o2 (And.intro x3 (And.intro o4 (And.intro x5 (And.intro o6 o7)))))));clear x3 x5
  go_wp2_with fail
  go_region_held3 (fun w'=>w'.cell? ⟨w.heap.size,0,none⟩=some (.int .i64 (5))∧w'.cell? ⟨w.heap.size,1,none⟩=some (.int .i64 (d))∧w'.cell? ⟨w.heap.size,2,none⟩=some (.int .i64 (fb))∧w'.cell? ⟨w.heap.size,3,none⟩=some (.int .i64 (fa))∧w'.cell? ⟨w.heap.size,4,none⟩=some (.int .i64 (tb))∧w'.cell? ⟨w.heap.size,5,none⟩=some (.int .i64 (ta))∧w'.cell? ⟨w.heap.size,6,none⟩=some (.int .i64 ((j:Int)+1))∧w'.cell? ⟨w.heap.size,7,none⟩=some (.int .i64 (r))) (go_keep)
   (first
    |(go_at_call 107;refine YU.o.mono ?_;rintro e w2 ⟨v,xM,a2,rfl,fI,hlv,hnil,h8⟩;obtain⟨Av,cv,rfl⟩:=hlv.form;have HA2:=qh ((HA1.o.below ((Below.refl w1.heap.size w1).drew)).comp fI);have ZB:=qh hlv;have agv:=qh hnil;have H8:=qh h8;have aI:=qh (HA2.o.op dE.o iN.o).1;have y0:=aI.o.c0;have y1:=aI.o.c1;have y2:=aI.o.c2;have y3:w2.cell? ⟨w.heap.size,3,none⟩=some (.int .i64 fa):=aI.o.c3;have y4:=aI.o.c4;have y5:w2.cell? ⟨w.heap.size,5,none⟩=some (.int .i64 ta):=aI.o.c5;have y6:=aI.o.c6;have y7:=aI.o.c7;rw[Nat.zero_add]at y1 y2 y4 y6 y7;clear fI hlv hnil h8 o0 o1 o2 o3 o4 o5 o6 o7)
    |(go_at_call 106;have hlp:=N4 5 d fb fa tb ta ((j:Int)+1) r (.slice Av (aU s fb fa) cv) (aU s fb fa) HA2.o.m rE.o j7 ha0 (by rw[BA];exact ha1) (by rw[N3];exact sX) ZB.o qo (fun q hq=>⟨H8.o q hq,by rw[agv.o];exact fun e=>by cases e⟩);rw[HA2.o.g]at hlp;refine hlp.mono ?_;rintro e w5 ⟨rfl,X3⟩;clear hlp;rw[show aU (bO s fb fa tb ta) fb fa=0 from W9 _ _ _ _]at X3;obtain⟨IL,a5,l0,_,_⟩:=HA2.o.next X3;have dC:Hq (At _ tg a.g (bB (more (bO s fb fa tb ta)) fb fa 1) w5 IL a5):=qh l0;have d9:=qh (dC.o.op dE.o iN.o).1;have p0:=d9.o.c0;have p1:=d9.o.c1;have p2:=d9.o.c2;have p3:w5.cell? ⟨w.heap.size,3,none⟩=some (.int .i64 fa):=d9.o.c3;have p4:=d9.o.c4;have p5:w5.cell? ⟨w.heap.size,5,none⟩=some (.int .i64 ta):=d9.o.c5;have p6:=d9.o.c6;have p7:=d9.o.c7;rw[Nat.zero_add]at p1 p2 p4 p6 p7;have FB:Hq ((bB (more (bO s fb fa tb ta)) fb fa 1).cat=s.cat):=qh (by rw[xO];show(bO s fb fa tb ta).cat=_;unfold bO;rw[xO,xO]);clear X3 l0 y0 y1 y2 y3 y4 y5 y6 y7))
  rename_i hHeld
  clear hHeld p1 p2 p3 p4 p5 p6 p7 KS LO
  go_wp2_with (go_at_call 101;refine(bA _ _ qo qo).mono ?_;rintro e w' ⟨rfl,rfl⟩)
  rcases hd with rfl|rfl
  ·have t4:=(show _=some (Value.slice (some ⟨a5.gc,0,none⟩) 4 a5.cc)from dC.o.m.m.cell 4)
   have t1:=(show _=some (Value.int .i64 (bB (more (bO s fb fa tb ta)) fb fa 1).rk)from dC.o.m.m.cell 1);rw[dC.o.g]at t4 t1;rw[show(bB (more (bO s fb fa tb ta)) fb fa 1).rk=s.rk by(rw[pF];show(bO s fb fa tb ta).rk=_;unfold bO;rw[pF,pF])]at t1;have u1:=d9.o.c1;have u2:=d9.o.c2;have u3:=d9.o.c3;have u6:=d9.o.c6;rw[Nat.zero_add]at u1 u2 u3 u6;have xY:IntKind.i64.wrap (j:Int)=j:=by rw[IntKind.wrap_i64];omega
   exact zP26x0
  ·have t4:=(show _=some (Value.slice (some ⟨a5.gc,0,none⟩) 4 a5.cc)from dC.o.m.m.cell 4)
   have t1:=(show _=some (Value.int .i64 (bB (more (bO s fb fa tb ta)) fb fa 1).rk)from dC.o.m.m.cell 1);rw[dC.o.g]at t4 t1;rw[show(bB (more (bO s fb fa tb ta)) fb fa 1).rk=s.rk by(rw[pF];show(bO s fb fa tb ta).rk=_;unfold bO;rw[pF,pF])]at t1;have u1:=d9.o.c1;have u2:=d9.o.c2;have u3:=d9.o.c3;have u6:=d9.o.c6;rw[Nat.zero_add]at u1 u2 u3 u6;have xY:IntKind.i64.wrap (j:Int)=j:=by rw[IntKind.wrap_i64];omega
   exact zP26x1
 ·have hc1:(code==0)=false:=by simpa using hc0
  exact zP26x2
end
end Go.Proofs.YtimlpmbabbbcaaaGreat
