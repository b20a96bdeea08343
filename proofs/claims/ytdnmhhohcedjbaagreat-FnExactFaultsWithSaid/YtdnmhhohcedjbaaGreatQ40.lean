/- Walks and plain lemmas. -/
import Derived.Test.YtdnmhhohcedjbaaGreatQ39
set_option linter.unusedVariables false
set_option linter.unusedSimpArgs false
set_option maxHeartbeats 1600000
set_option maxRecDepth 20000
namespace Go.Proofs.YtdnmhhohcedjbaaGreat
open Go.RowKit
theorem aB.other {w:World}{g g':Nat}{t:TypeId}{cs:Array Value}(h:aB w g t cs)(hg:g≠g')(o:Nat)(u:Value):aB (w.setCell ⟨g',o,none⟩ u) g t cs:=(aE _ _ _ _ hg).trans h
theorem zH {base:Nat}{e:TypeId}{size:Nat}(w:World)(g:Nat)(hg:g=w.heap.size)(cs:List Value)(n:Nat)(hb:base≤w.heap.size)(hn:n≤maxLen)(hl:cs.length=n*size):
 (w.alloc (.cells cs.toArray e)).ownsRow base e size (.slice (some ⟨g,0,none⟩) n n) n cs:=by
 subst hg;exact oA w cs n hb hn hl
section
variable {tg:Nat→Nat}{a:bC}{s:aI}{D:Nat}{w:World}
theorem Jd {d fb fa tb ta c r:Int}{j:Nat}(H:Mem tg a s w)(hs:bW s D)(hp:fP s.W 1 d fb fa tb ta c r j)(hB:aW 1 d fb fa tb ta c r=true):
 Calls Tryz.prog 99 #[.pointer (some ⟨a.g,0,none⟩),.agg #[.int .i64 1,.int .i64 d,.int .i64 fb,.int .i64 fa,.int .i64 tb,.int .i64 ta,.int .i64 c,.int .i64 r]] w (Q4 w 2400 (hZ s 1 d fb fa c r)):=by
 have hf0:=hp.f0;have hf1:=hp.f1;have hw2:=hs.w2;obtain⟨w1,hw1⟩:=qx (w.alloc (.cells #[.int .i64 1,.int .i64 d,.int .i64 fb,.int .i64 fa,.int .i64 tb,.int .i64 ta,.int .i64 c,.int .i64 r] 67));obtain⟨w2,fU⟩:=qx (w1.alloc (.cells #[.int .i64 0,.int .i64 0,.int .i64 0,.int .i64 fb,.int .i64 c,.int .i64 d] 91));have hz1:w1.heap.size=w.heap.size+1:=by rw[hw1];simp
 have hb1:Below w.heap.size w w1:=hw1▸qb;have hb2:Below w.heap.size w w2:=fU▸hb1.alloc hb1.size _;have HB2:=qh hb2;have aH:=qh (show aB w2 w.heap.size 67 #[.int .i64 1,.int .i64 d,.int .i64 fb,.int .i64 fa,.int .i64 tb,.int .i64 ta,.int .i64 c,.int .i64 r]from by rw[fU,hw1];exact(aB.at_ (g':=w.heap.size) w _ _ rfl).alloc _);have HE2:=qh (show aB w2 (w.heap.size+1) 91 #[.int .i64 0,.int .i64 0,.int .i64 0,.int .i64 fb,.int .i64 c,.int .i64 d]from by rw[fU];exact aB.at_ (g':=w.heap.size+1) w1 _ _ hz1.symm);have HM:=qh H;have dW:=qh (H.below hb2);have HW2:=qh (show w2=(w.alloc (.cells #[.int .i64 1,.int .i64 d,.int .i64 fb,.int .i64 fa,.int .i64 tb,.int .i64 ta,.int .i64 c,.int .i64 r] 67)).alloc (.cells #[.int .i64 0,.int .i64 0,.int .i64 0,.int .i64 fb,.int .i64 c,.int .i64 d] 91)from by rw[fU,hw1]);have HS:=qh hs;have HP:=qh hp;have dX:=qh hB;clear hw1 fU hz1 hb1 hb2 H hs hp hB;have hbl:iH s fb fa≤8*s.W:=by
  have:=rZ HS.o fb fa (i:=s.W) ql;rw[pG]at this;exact this
 have FY:=bT (b:=fb) HS.o hf0 hf1;have fB:fb=1∨fb=2:=(tW (.inl rfl) dX.o).1;obtain⟨P,hP⟩:=qx (iH s fb fa);obtain⟨M,hM⟩:=qx (aM s fb fa);have hbf:=qY fb fa dW.o HS.o fB hf0 hf1;rw[←hP]at hbf hbl;rw[←hM]at FY;have dU:=qh hbf;have HL:=qh (show hZ s 1 d fb fa c r=jQ 2 P M fb c d from by
  rw[hP,hM]
  rfl)
 have GE:=qh hM;have tP:=qh fB;clear hbf hP hM
 go_enter Tryz.func99,Tryz.ntmps99
 go_upto_region 2 with(fail)
 rw[←HW2.o];have o0:w2.cell? ⟨w.heap.size,0,none⟩=some (.int .i64 1):=aH.o.cell 0;have o2:w2.cell? ⟨w.heap.size,2,none⟩=some (.int .i64 fb):=aH.o.cell 2;have o3:w2.cell? ⟨w.heap.size,2+1,none⟩=some (.int .i64 fa):=aH.o.cell 3
 go_wp2_with fail
 refine(aU _ _ qo qo).mono ?_;rintro e w' ⟨rfl,rfl⟩
 go_wp2_with fail
 refine dU.o.mono ?_;rintro e w3 ⟨rfl,hb3⟩;have HB3:=HB2.st hb3;have nC:=qh (HE2.o.below hb3 HE2.o.lt);have bS:=qh (aH.o.below hb3 aH.o.lt);have c3:w3.cell? ⟨w.heap.size+1,1,none⟩=some (.int .i64 0):=nC.o.cell 1;have f3:=nC.o.frozen 1;have tE:Hq (aB (w3.setCell ⟨w.heap.size+1,1,none⟩ (.int .i64 (P:Nat))) (w.heap.size+1) 91 #[.int .i64 0,.int .i64 (P:Nat),.int .i64 0,.int .i64 fb,.int .i64 c,.int .i64 d]):=qh (nC.o.bJ 1 _);have kD:=qh (bS.o.other (g':=w.heap.size+1) qo 1 (.int .i64 (P:Nat)));have tH:=qh (HB3.o.setCell (p:=⟨w.heap.size+1,1,none⟩) (by show w.heap.size≤w.heap.size+1;omega) (.int .i64 (P:Nat)));have gV:=qh (cG fb fa (HM.o.below tH.o) tP.o hf0 hf1);have p2:(w3.setCell ⟨w.heap.size+1,1,none⟩ (.int .i64 (P:Nat))).cell? ⟨w.heap.size,2,none⟩=some (.int .i64 fb):=kD.o.cell 2;have p3:(w3.setCell ⟨w.heap.size+1,1,none⟩ (.int .i64 (P:Nat))).cell? ⟨w.heap.size,2+1,none⟩=some (.int .i64 fa):=kD.o.cell 3;clear hb3 dU o0 o2 o3
 go_wp2_with fail
 refine gV.o.mono ?_;rintro e w4 ⟨rfl,hb4⟩;have aR:=tH.st hb4;have fQ:=qh (HM.o.below aR.o);have tC:=qh (tE.o.below hb4 tE.o.lt);have bP:=qh (kD.o.below hb4 kD.o.lt);obtain⟨AF,cF,mW⟩:=(fQ.o.lU (b:=fb) hf0 hf1).form;have kc:=fQ.o.dE (b:=fb) hf0 hf1;rw[mW,←GE.o]at kc;have c4:w4.cell? ⟨w.heap.size+1,2,none⟩=some (.int .i64 0):=tC.o.cell 2;have f4:=tC.o.frozen 2;clear hb4 mW gV p2 p3 c3 f3
 go_upto_region 5 with(fail)
 obtain⟨w5,j7⟩:=qx (w4.setCell ⟨w.heap.size+1,2,none⟩ (.int .i64 (M:Nat)));rw[←j7];have iS:Hq (aB w5 (w.heap.size+1) 91 #[.int .i64 0,.int .i64 (P:Nat),.int .i64 (M:Nat),.int .i64 fb,.int .i64 c,.int .i64 d]):=qh (j7▸tC.o.bJ 2 _);have cI:=qh (j7▸bP.o.other (g':=w.heap.size+1) qo 2 (.int .i64 (M:Nat)));have aZ:=qh (show Below w.heap.size w w5 from j7▸aR.o.setCell (p:=⟨w.heap.size+1,2,none⟩) (by show w.heap.size≤w.heap.size+1;omega) (.int .i64 (M:Nat)));have x0:w5.cell? ⟨w.heap.size+1,0,none⟩=some (.int .i64 0):=iS.o.cell 0;have x1:w5.cell? ⟨w.heap.size+1,1,none⟩=some (.int .i64 (P:Nat)):=iS.o.cell 1;have x2:w5.cell? ⟨w.heap.size+1,2,none⟩=some (.int .i64 (M:Nat)):=iS.o.cell 2;have x3:w5.cell? ⟨w.heap.size+1,3,none⟩=some (.int .i64 fb):=iS.o.cell 3;have x4:w5.cell? ⟨w.heap.size+1,4,none⟩=some (.int .i64 c):=iS.o.cell 4;have x5:w5.cell? ⟨w.heap.size+1,5,none⟩=some (.int .i64 d):=iS.o.cell 5;have xf:=fun o=>iS.o.frozen o;have y0:w5.cell? ⟨w.heap.size,0,none⟩=some (.int .i64 1):=cI.o.cell 0;have y2:w5.cell? ⟨w.heap.size,2,none⟩=some (.int .i64 fb):=cI.o.cell 2;have hs5:w.heap.size≤w5.heap.size:=aZ.o.size;clear j7 c4 f4 kc
 go_wp2_with fail
 go_ret
 refine⟨_,1,rfl,by omega,by rw[HL.o];exact zH (base:=w.heap.size) _ _ qj [.int .i64 2,.int .i64 P,.int .i64 M,.int .i64 fb,.int .i64 c,.int .i64 d] 1 (by simpa using hs5) qm rfl,?_⟩;refine Below.alloc ?_ (by simpa using hs5) _
 iterate 1 (refine Below.setCell ?_ (by show w.heap.size≤w.heap.size+1;omega) _)
 exact aZ.o
theorem Jc {d fb fa tb ta c r:Int}{j:Nat}(H:Mem tg a s w)(hs:bW s D)(hp:fP s.W 2 d fb fa tb ta c r j)(hB:aW 2 d fb fa tb ta c r=true):
 Calls Tryz.prog 99 #[.pointer (some ⟨a.g,0,none⟩),.agg #[.int .i64 2,.int .i64 d,.int .i64 fb,.int .i64 fa,.int .i64 tb,.int .i64 ta,.int .i64 c,.int .i64 r]] w (Q4 w 2400 (hZ s 2 d fb fa c r)):=by
 have hf0:=hp.f0;have hf1:=hp.f1;have hw2:=hs.w2;obtain⟨w1,hw1⟩:=qx (w.alloc (.cells #[.int .i64 2,.int .i64 d,.int .i64 fb,.int .i64 fa,.int .i64 tb,.int .i64 ta,.int .i64 c,.int .i64 r] 67));obtain⟨w2,fU⟩:=qx (w1.alloc (.cells #[.int .i64 0,.int .i64 0,.int .i64 0,.int .i64 fb,.int .i64 c,.int .i64 d] 91));have hz1:w1.heap.size=w.heap.size+1:=by rw[hw1];simp
 have hb1:Below w.heap.size w w1:=hw1▸qb;have hb2:Below w.heap.size w w2:=fU▸hb1.alloc hb1.size _;have HB2:=qh hb2;have aH:=qh (show aB w2 w.heap.size 67 #[.int .i64 2,.int .i64 d,.int .i64 fb,.int .i64 fa,.int .i64 tb,.int .i64 ta,.int .i64 c,.int .i64 r]from by rw[fU,hw1];exact(aB.at_ (g':=w.heap.size) w _ _ rfl).alloc _);have HE2:=qh (show aB w2 (w.heap.size+1) 91 #[.int .i64 0,.int .i64 0,.int .i64 0,.int .i64 fb,.int .i64 c,.int .i64 d]from by rw[fU];exact aB.at_ (g':=w.heap.size+1) w1 _ _ hz1.symm);have HM:=qh H;have dW:=qh (H.below hb2);have HW2:=qh (show w2=(w.alloc (.cells #[.int .i64 2,.int .i64 d,.int .i64 fb,.int .i64 fa,.int .i64 tb,.int .i64 ta,.int .i64 c,.int .i64 r] 67)).alloc (.cells #[.int .i64 0,.int .i64 0,.int .i64 0,.int .i64 fb,.int .i64 c,.int .i64 d] 91)from by rw[fU,hw1]);have HS:=qh hs;have HP:=qh hp;have dX:=qh hB;clear hw1 fU hz1 hb1 hb2 H hs hp hB;have hbl:iH s fb fa≤8*s.W:=by
  have:=rZ HS.o fb fa (i:=s.W) ql;rw[pG]at this;exact this
 have FY:=bT (b:=fb) HS.o hf0 hf1;have fB:fb=1∨fb=2:=(tW (.inr (.inl rfl)) dX.o).1;obtain⟨P,hP⟩:=qx (iH s fb fa);obtain⟨M,hM⟩:=qx (aM s fb fa);have hbf:=qY fb fa dW.o HS.o fB hf0 hf1;rw[←hP]at hbf hbl;rw[←hM]at FY;have dU:=qh hbf;have HL:=qh (show hZ s 2 d fb fa c r=jQ 3 ((P:Int)+M) 0 fb c d from by
  rw[hP,hM]
  rfl)
 have GE:=qh hM;have tP:=qh fB;clear hbf hP hM
 go_enter Tryz.func99,Tryz.ntmps99
 go_upto_region 2 with(fail)
 rw[←HW2.o];have o0:w2.cell? ⟨w.heap.size,0,none⟩=some (.int .i64 2):=aH.o.cell 0;have o2:w2.cell? ⟨w.heap.size,2,none⟩=some (.int .i64 fb):=aH.o.cell 2;have o3:w2.cell? ⟨w.heap.size,2+1,none⟩=some (.int .i64 fa):=aH.o.cell 3
 go_wp2_with fail
 refine(aU _ _ qo qo).mono ?_;rintro e w' ⟨rfl,rfl⟩
 go_wp2_with fail
 refine dU.o.mono ?_;rintro e w3 ⟨rfl,hb3⟩;have HB3:=HB2.st hb3;have nC:=qh (HE2.o.below hb3 HE2.o.lt);have bS:=qh (aH.o.below hb3 aH.o.lt);have c3:w3.cell? ⟨w.heap.size+1,1,none⟩=some (.int .i64 0):=nC.o.cell 1;have f3:=nC.o.frozen 1;have tE:Hq (aB (w3.setCell ⟨w.heap.size+1,1,none⟩ (.int .i64 (P:Nat))) (w.heap.size+1) 91 #[.int .i64 0,.int .i64 (P:Nat),.int .i64 0,.int .i64 fb,.int .i64 c,.int .i64 d]):=qh (nC.o.bJ 1 _);have kD:=qh (bS.o.other (g':=w.heap.size+1) qo 1 (.int .i64 (P:Nat)));have tH:=qh (HB3.o.setCell (p:=⟨w.heap.size+1,1,none⟩) (by show w.heap.size≤w.heap.size+1;omega) (.int .i64 (P:Nat)));have gV:=qh (cG fb fa (HM.o.below tH.o) tP.o hf0 hf1);have p2:(w3.setCell ⟨w.heap.size+1,1,none⟩ (.int .i64 (P:Nat))).cell? ⟨w.heap.size,2,none⟩=some (.int .i64 fb):=kD.o.cell 2;have p3:(w3.setCell ⟨w.heap.size+1,1,none⟩ (.int .i64 (P:Nat))).cell? ⟨w.heap.size,2+1,none⟩=some (.int .i64 fa):=kD.o.cell 3;clear hb3 dU o0 o2 o3
 go_wp2_with fail
 refine gV.o.mono ?_;rintro e w4 ⟨rfl,hb4⟩;have aR:=tH.st hb4;have fQ:=qh (HM.o.below aR.o);have tC:=qh (tE.o.below hb4 tE.o.lt);have bP:=qh (kD.o.below hb4 kD.o.lt);obtain⟨AF,cF,mW⟩:=(fQ.o.lU (b:=fb) hf0 hf1).form;have kc:=fQ.o.dE (b:=fb) hf0 hf1;rw[mW,←GE.o]at kc;have c4:w4.cell? ⟨w.heap.size+1,2,none⟩=some (.int .i64 0):=tC.o.cell 2;have f4:=tC.o.frozen 2;clear hb4 mW gV p2 p3 c3 f3
 go_upto_region 5 with(fail)
 obtain⟨w5,j7⟩:=qx (w4.setCell ⟨w.heap.size+1,2,none⟩ (.int .i64 (M:Nat)));rw[←j7];have iS:Hq (aB w5 (w.heap.size+1) 91 #[.int .i64 0,.int .i64 (P:Nat),.int .i64 (M:Nat),.int .i64 fb,.int .i64 c,.int .i64 d]):=qh (j7▸tC.o.bJ 2 _);have cI:=qh (j7▸bP.o.other (g':=w.heap.size+1) qo 2 (.int .i64 (M:Nat)));have aZ:=qh (show Below w.heap.size w w5 from j7▸aR.o.setCell (p:=⟨w.heap.size+1,2,none⟩) (by show w.heap.size≤w.heap.size+1;omega) (.int .i64 (M:Nat)));have x0:w5.cell? ⟨w.heap.size+1,0,none⟩=some (.int .i64 0):=iS.o.cell 0;have x1:w5.cell? ⟨w.heap.size+1,1,none⟩=some (.int .i64 (P:Nat)):=iS.o.cell 1;have x2:w5.cell? ⟨w.heap.size+1,2,none⟩=some (.int .i64 (M:Nat)):=iS.o.cell 2;have x3:w5.cell? ⟨w.heap.size+1,3,none⟩=some (.int .i64 fb):=iS.o.cell 3;have x4:w5.cell? ⟨w.heap.size+1,4,none⟩=some (.int .i64 c):=iS.o.cell 4;have x5:w5.cell? ⟨w.heap.size+1,5,none⟩=some (.int .i64 d):=iS.o.cell 5;have xf:=fun o=>iS.o.frozen o;have y0:w5.cell? ⟨w.heap.size,0,none⟩=some (.int .i64 2):=cI.o.cell 0;have y2:w5.cell? ⟨w.heap.size,2,none⟩=some (.int .i64 fb):=cI.o.cell 2;have hs5:w.heap.size≤w5.heap.size:=aZ.o.size;clear j7 c4 f4 kc
 go_wp2_with fail
 go_ret
 refine⟨_,1,rfl,by omega,by rw[HL.o];exact zH (base:=w.heap.size) _ _ qj [.int .i64 3,.int .i64 ((P:Int)+M),.int .i64 0,.int .i64 fb,.int .i64 c,.int .i64 d] 1 (by simpa using hs5) qm rfl,?_⟩;refine Below.alloc ?_ (by simpa using hs5) _
 iterate 3 (refine Below.setCell ?_ (by show w.heap.size≤w.heap.size+1;omega) _)
 exact aZ.o
theorem Ck {d fb fa tb ta c r:Int}{j:Nat}(H:Mem tg a s w)(hs:bW s D)(hp:fP s.W 5 d fb fa tb ta c r j)(h2:fb=2)(hB:aW 5 d fb fa tb ta c r=true):
 Calls Tryz.prog 99 #[.pointer (some ⟨a.g,0,none⟩),.agg #[.int .i64 5,.int .i64 d,.int .i64 fb,.int .i64 fa,.int .i64 tb,.int .i64 ta,.int .i64 c,.int .i64 r]] w (Q4 w 2400 (hZ s 5 d fb fa c r)):=by
 have hf0:=hp.f0;have hf1:=hp.f1;have hw2:=hs.w2;obtain⟨w1,hw1⟩:=qx (w.alloc (.cells #[.int .i64 5,.int .i64 d,.int .i64 fb,.int .i64 fa,.int .i64 tb,.int .i64 ta,.int .i64 c,.int .i64 r] 67));obtain⟨w2,fU⟩:=qx (w1.alloc (.cells #[.int .i64 0,.int .i64 0,.int .i64 0,.int .i64 fb,.int .i64 c,.int .i64 d] 91));have hz1:w1.heap.size=w.heap.size+1:=by rw[hw1];simp
 have hb1:Below w.heap.size w w1:=hw1▸qb;have hb2:Below w.heap.size w w2:=fU▸hb1.alloc hb1.size _;have HB2:=qh hb2;have aH:=qh (show aB w2 w.heap.size 67 #[.int .i64 5,.int .i64 d,.int .i64 fb,.int .i64 fa,.int .i64 tb,.int .i64 ta,.int .i64 c,.int .i64 r]from by rw[fU,hw1];exact(aB.at_ (g':=w.heap.size) w _ _ rfl).alloc _);have HE2:=qh (show aB w2 (w.heap.size+1) 91 #[.int .i64 0,.int .i64 0,.int .i64 0,.int .i64 fb,.int .i64 c,.int .i64 d]from by rw[fU];exact aB.at_ (g':=w.heap.size+1) w1 _ _ hz1.symm);have HM:=qh H;have dW:=qh (H.below hb2);have HW2:=qh (show w2=(w.alloc (.cells #[.int .i64 5,.int .i64 d,.int .i64 fb,.int .i64 fa,.int .i64 tb,.int .i64 ta,.int .i64 c,.int .i64 r] 67)).alloc (.cells #[.int .i64 0,.int .i64 0,.int .i64 0,.int .i64 fb,.int .i64 c,.int .i64 d] 91)from by rw[fU,hw1]);have HS:=qh hs;have HP:=qh hp;have dX:=qh hB;clear hw1 fU hz1 hb1 hb2 H hs hp hB;have hbl:iH s fb fa≤8*s.W:=by
  have:=rZ HS.o fb fa (i:=s.W) ql;rw[pG]at this;exact this
 have FY:=bT (b:=fb) HS.o hf0 hf1;have fB:fb=1∨fb=2:=(tW (.inr (.inr rfl)) dX.o).1;obtain⟨P,hP⟩:=qx (iH s fb fa);obtain⟨M,hM⟩:=qx (aM s fb fa);have hbf:=qY fb fa dW.o HS.o fB hf0 hf1;rw[←hP]at hbf hbl;rw[←hM]at FY;have dU:=qh hbf;have HL:=qh (show hZ s 5 d fb fa c r=jQ 5 ((P:Int)+M) M fb c d from by
  rw[hP,hM]
  simp[hZ,h2])
 have GE:=qh hM;have tP:=qh fB;have XI:(fb==2)=true:=by simp[h2]
 have H2:=qh h2;clear hbf hP hM h2
 go_enter Tryz.func99,Tryz.ntmps99
 go_upto_region 2 with(fail)
 rw[←HW2.o];have o0:w2.cell? ⟨w.heap.size,0,none⟩=some (.int .i64 5):=aH.o.cell 0;have o2:w2.cell? ⟨w.heap.size,2,none⟩=some (.int .i64 fb):=aH.o.cell 2;have o3:w2.cell? ⟨w.heap.size,2+1,none⟩=some (.int .i64 fa):=aH.o.cell 3
 go_wp2_with fail
 refine(aU _ _ qo qo).mono ?_;rintro e w' ⟨rfl,rfl⟩
 go_wp2_with fail
 refine dU.o.mono ?_;rintro e w3 ⟨rfl,hb3⟩;have HB3:=HB2.st hb3;have nC:=qh (HE2.o.below hb3 HE2.o.lt);have bS:=qh (aH.o.below hb3 aH.o.lt);have c3:w3.cell? ⟨w.heap.size+1,1,none⟩=some (.int .i64 0):=nC.o.cell 1;have f3:=nC.o.frozen 1;have tE:Hq (aB (w3.setCell ⟨w.heap.size+1,1,none⟩ (.int .i64 (P:Nat))) (w.heap.size+1) 91 #[.int .i64 0,.int .i64 (P:Nat),.int .i64 0,.int .i64 fb,.int .i64 c,.int .i64 d]):=qh (nC.o.bJ 1 _);have kD:=qh (bS.o.other (g':=w.heap.size+1) qo 1 (.int .i64 (P:Nat)));have tH:=qh (HB3.o.setCell (p:=⟨w.heap.size+1,1,none⟩) (by show w.heap.size≤w.heap.size+1;omega) (.int .i64 (P:Nat)));have gV:=qh (cG fb fa (HM.o.below tH.o) tP.o hf0 hf1);have p2:(w3.setCell ⟨w.heap.size+1,1,none⟩ (.int .i64 (P:Nat))).cell? ⟨w.heap.size,2,none⟩=some (.int .i64 fb):=kD.o.cell 2;have p3:(w3.setCell ⟨w.heap.size+1,1,none⟩ (.int .i64 (P:Nat))).cell? ⟨w.heap.size,2+1,none⟩=some (.int .i64 fa):=kD.o.cell 3;clear hb3 dU o0 o2 o3
 go_wp2_with fail
 refine gV.o.mono ?_;rintro e w4 ⟨rfl,hb4⟩;have aR:=tH.st hb4;have fQ:=qh (HM.o.below aR.o);have tC:=qh (tE.o.below hb4 tE.o.lt);have bP:=qh (kD.o.below hb4 kD.o.lt);obtain⟨AF,cF,mW⟩:=(fQ.o.lU (b:=fb) hf0 hf1).form;have kc:=fQ.o.dE (b:=fb) hf0 hf1;rw[mW,←GE.o]at kc;have c4:w4.cell? ⟨w.heap.size+1,2,none⟩=some (.int .i64 0):=tC.o.cell 2;have f4:=tC.o.frozen 2;clear hb4 mW gV p2 p3 c3 f3
 go_upto_region 5 with(fail)
 obtain⟨w5,j7⟩:=qx (w4.setCell ⟨w.heap.size+1,2,none⟩ (.int .i64 (M:Nat)));rw[←j7];have iS:Hq (aB w5 (w.heap.size+1) 91 #[.int .i64 0,.int .i64 (P:Nat),.int .i64 (M:Nat),.int .i64 fb,.int .i64 c,.int .i64 d]):=qh (j7▸tC.o.bJ 2 _);have cI:=qh (j7▸bP.o.other (g':=w.heap.size+1) qo 2 (.int .i64 (M:Nat)));have aZ:=qh (show Below w.heap.size w w5 from j7▸aR.o.setCell (p:=⟨w.heap.size+1,2,none⟩) (by show w.heap.size≤w.heap.size+1;omega) (.int .i64 (M:Nat)));have x0:w5.cell? ⟨w.heap.size+1,0,none⟩=some (.int .i64 0):=iS.o.cell 0;have x1:w5.cell? ⟨w.heap.size+1,1,none⟩=some (.int .i64 (P:Nat)):=iS.o.cell 1;have x2:w5.cell? ⟨w.heap.size+1,2,none⟩=some (.int .i64 (M:Nat)):=iS.o.cell 2;have x3:w5.cell? ⟨w.heap.size+1,3,none⟩=some (.int .i64 fb):=iS.o.cell 3;have x4:w5.cell? ⟨w.heap.size+1,4,none⟩=some (.int .i64 c):=iS.o.cell 4;have x5:w5.cell? ⟨w.heap.size+1,5,none⟩=some (.int .i64 d):=iS.o.cell 5;have xf:=fun o=>iS.o.frozen o;have y0:w5.cell? ⟨w.heap.size,0,none⟩=some (.int .i64 5):=cI.o.cell 0;have y2:w5.cell? ⟨w.heap.size,2,none⟩=some (.int .i64 fb):=cI.o.cell 2;have hs5:w.heap.size≤w5.heap.size:=aZ.o.size;clear j7 c4 f4 kc
 go_wp2_with fail
 go_ret
 refine⟨_,1,rfl,by omega,by rw[HL.o];exact zH (base:=w.heap.size) _ _ qj [.int .i64 5,.int .i64 ((P:Int)+M),.int .i64 M,.int .i64 fb,.int .i64 c,.int .i64 d] 1 (by simpa using hs5) qm rfl,?_⟩;refine Below.alloc ?_ (by simpa using hs5) _
 iterate 2 (refine Below.setCell ?_ (by show w.heap.size≤w.heap.size+1;omega) _)
 exact aZ.o
theorem Cj {d fb fa tb ta c r:Int}{j:Nat}(H:Mem tg a s w)(hs:bW s D)(hp:fP s.W 5 d fb fa tb ta c r j)(h2:¬fb=2)(hB:aW 5 d fb fa tb ta c r=true):
 Calls Tryz.prog 99 #[.pointer (some ⟨a.g,0,none⟩),.agg #[.int .i64 5,.int .i64 d,.int .i64 fb,.int .i64 fa,.int .i64 tb,.int .i64 ta,.int .i64 c,.int .i64 r]] w (Q4 w 2400 (hZ s 5 d fb fa c r)):=by
 have hf0:=hp.f0;have hf1:=hp.f1;have hw2:=hs.w2;obtain⟨w1,hw1⟩:=qx (w.alloc (.cells #[.int .i64 5,.int .i64 d,.int .i64 fb,.int .i64 fa,.int .i64 tb,.int .i64 ta,.int .i64 c,.int .i64 r] 67));obtain⟨w2,fU⟩:=qx (w1.alloc (.cells #[.int .i64 0,.int .i64 0,.int .i64 0,.int .i64 fb,.int .i64 c,.int .i64 d] 91));have hz1:w1.heap.size=w.heap.size+1:=by rw[hw1];simp
 have hb1:Below w.heap.size w w1:=hw1▸qb;have hb2:Below w.heap.size w w2:=fU▸hb1.alloc hb1.size _;have HB2:=qh hb2;have aH:=qh (show aB w2 w.heap.size 67 #[.int .i64 5,.int .i64 d,.int .i64 fb,.int .i64 fa,.int .i64 tb,.int .i64 ta,.int .i64 c,.int .i64 r]from by rw[fU,hw1];exact(aB.at_ (g':=w.heap.size) w _ _ rfl).alloc _);have HE2:=qh (show aB w2 (w.heap.size+1) 91 #[.int .i64 0,.int .i64 0,.int .i64 0,.int .i64 fb,.int .i64 c,.int .i64 d]from by rw[fU];exact aB.at_ (g':=w.heap.size+1) w1 _ _ hz1.symm);have HM:=qh H;have dW:=qh (H.below hb2);have HW2:=qh (show w2=(w.alloc (.cells #[.int .i64 5,.int .i64 d,.int .i64 fb,.int .i64 fa,.int .i64 tb,.int .i64 ta,.int .i64 c,.int .i64 r] 67)).alloc (.cells #[.int .i64 0,.int .i64 0,.int .i64 0,.int .i64 fb,.int .i64 c,.int .i64 d] 91)from by rw[fU,hw1]);have HS:=qh hs;have HP:=qh hp;have dX:=qh hB;clear hw1 fU hz1 hb1 hb2 H hs hp hB;have hbl:iH s fb fa≤8*s.W:=by
  have:=rZ HS.o fb fa (i:=s.W) ql;rw[pG]at this;exact this
 have FY:=bT (b:=fb) HS.o hf0 hf1;have fB:fb=1∨fb=2:=(tW (.inr (.inr rfl)) dX.o).1;obtain⟨P,hP⟩:=qx (iH s fb fa);obtain⟨M,hM⟩:=qx (aM s fb fa);have hbf:=qY fb fa dW.o HS.o fB hf0 hf1;rw[←hP]at hbf hbl;rw[←hM]at FY;have dU:=qh hbf;have HL:=qh (show hZ s 5 d fb fa c r=jQ 5 P M fb c d from by
  rw[hP,hM]
  simp[hZ,h2])
 have GE:=qh hM;have tP:=qh fB;have XI:(fb==2)=false:=by rw[beq_eq_false_iff_ne];exact h2
 have H2:=qh h2;clear hbf hP hM h2
 go_enter Tryz.func99,Tryz.ntmps99
 go_upto_region 2 with(fail)
 rw[←HW2.o];have o0:w2.cell? ⟨w.heap.size,0,none⟩=some (.int .i64 5):=aH.o.cell 0;have o2:w2.cell? ⟨w.heap.size,2,none⟩=some (.int .i64 fb):=aH.o.cell 2;have o3:w2.cell? ⟨w.heap.size,2+1,none⟩=some (.int .i64 fa):=aH.o.cell 3
 go_wp2_with fail
 refine(aU _ _ qo qo).mono ?_;rintro e w' ⟨rfl,rfl⟩
 go_wp2_with fail
 refine dU.o.mono ?_;rintro e w3 ⟨rfl,hb3⟩;have HB3:=HB2.st hb3;have nC:=qh (HE2.o.below hb3 HE2.o.lt);have bS:=qh (aH.o.below hb3 aH.o.lt);have c3:w3.cell? ⟨w.heap.size+1,1,none⟩=some (.int .i64 0):=nC.o.cell 1;have f3:=nC.o.frozen 1;have tE:Hq (aB (w3.setCell ⟨w.heap.size+1,1,none⟩ (.int .i64 (P:Nat))) (w.heap.size+1) 91 #[.int .i64 0,.int .i64 (P:Nat),.int .i64 0,.int .i64 fb,.int .i64 c,.int .i64 d]):=qh (nC.o.bJ 1 _);have kD:=qh (bS.o.other (g':=w.heap.size+1) qo 1 (.int .i64 (P:Nat)));have tH:=qh (HB3.o.setCell (p:=⟨w.heap.size+1,1,none⟩) (by show w.heap.size≤w.heap.size+1;omega) (.int .i64 (P:Nat)));have gV:=qh (cG fb fa (HM.o.below tH.o) tP.o hf0 hf1);have p2:(w3.setCell ⟨w.heap.size+1,1,none⟩ (.int .i64 (P:Nat))).cell? ⟨w.heap.size,2,none⟩=some (.int .i64 fb):=kD.o.cell 2;have p3:(w3.setCell ⟨w.heap.size+1,1,none⟩ (.int .i64 (P:Nat))).cell? ⟨w.heap.size,2+1,none⟩=some (.int .i64 fa):=kD.o.cell 3;clear hb3 dU o0 o2 o3
 go_wp2_with fail
 refine gV.o.mono ?_;rintro e w4 ⟨rfl,hb4⟩;have aR:=tH.st hb4;have fQ:=qh (HM.o.below aR.o);have tC:=qh (tE.o.below hb4 tE.o.lt);have bP:=qh (kD.o.below hb4 kD.o.lt);obtain⟨AF,cF,mW⟩:=(fQ.o.lU (b:=fb) hf0 hf1).form;have kc:=fQ.o.dE (b:=fb) hf0 hf1;rw[mW,←GE.o]at kc;have c4:w4.cell? ⟨w.heap.size+1,2,none⟩=some (.int .i64 0):=tC.o.cell 2;have f4:=tC.o.frozen 2;clear hb4 mW gV p2 p3 c3 f3
 go_upto_region 5 with(fail)
 obtain⟨w5,j7⟩:=qx (w4.setCell ⟨w.heap.size+1,2,none⟩ (.int .i64 (M:Nat)));rw[←j7];have iS:Hq (aB w5 (w.heap.size+1) 91 #[.int .i64 0,.int .i64 (P:Nat),.int .i64 (M:Nat),.int .i64 fb,.int .i64 c,.int .i64 d]):=qh (j7▸tC.o.bJ 2 _);have cI:=qh (j7▸bP.o.other (g':=w.heap.size+1) qo 2 (.int .i64 (M:Nat)));have aZ:=qh (show Below w.heap.size w w5 from j7▸aR.o.setCell (p:=⟨w.heap.size+1,2,none⟩) (by show w.heap.size≤w.heap.size+1;omega) (.int .i64 (M:Nat)));have x0:w5.cell? ⟨w.heap.size+1,0,none⟩=some (.int .i64 0):=iS.o.cell 0;have x1:w5.cell? ⟨w.heap.size+1,1,none⟩=some (.int .i64 (P:Nat)):=iS.o.cell 1;have x2:w5.cell? ⟨w.heap.size+1,2,none⟩=some (.int .i64 (M:Nat)):=iS.o.cell 2;have x3:w5.cell? ⟨w.heap.size+1,3,none⟩=some (.int .i64 fb):=iS.o.cell 3;have x4:w5.cell? ⟨w.heap.size+1,4,none⟩=some (.int .i64 c):=iS.o.cell 4;have x5:w5.cell? ⟨w.heap.size+1,5,none⟩=some (.int .i64 d):=iS.o.cell 5;have xf:=fun o=>iS.o.frozen o;have y0:w5.cell? ⟨w.heap.size,0,none⟩=some (.int .i64 5):=cI.o.cell 0;have y2:w5.cell? ⟨w.heap.size,2,none⟩=some (.int .i64 fb):=cI.o.cell 2;have hs5:w.heap.size≤w5.heap.size:=aZ.o.size;clear j7 c4 f4 kc
 go_wp2_with fail
 go_ret
 refine⟨_,1,rfl,by omega,by rw[HL.o];exact zH (base:=w.heap.size) _ _ qj [.int .i64 5,.int .i64 P,.int .i64 M,.int .i64 fb,.int .i64 c,.int .i64 d] 1 (by simpa using hs5) qm rfl,?_⟩;refine Below.alloc ?_ (by simpa using hs5) _
 iterate 1 (refine Below.setCell ?_ (by show w.heap.size≤w.heap.size+1;omega) _)
 exact aZ.o
theorem Jb {d fb fa tb ta c r:Int}{j:Nat}(H:Mem tg a s w)(hs:bW s D)(hp:fP s.W 6 d fb fa tb ta c r j)(hB:aW 6 d fb fa tb ta c r=true):
 Calls Tryz.prog 99 #[.pointer (some ⟨a.g,0,none⟩),.agg #[.int .i64 6,.int .i64 d,.int .i64 fb,.int .i64 fa,.int .i64 tb,.int .i64 ta,.int .i64 c,.int .i64 r]] w (Q4 w 2400 (hZ s 6 d fb fa c r)):=by
 have hf0:=hp.f0;have hf1:=hp.f1;have hw2:=hs.w2;obtain⟨w1,hw1⟩:=qx (w.alloc (.cells #[.int .i64 6,.int .i64 d,.int .i64 fb,.int .i64 fa,.int .i64 tb,.int .i64 ta,.int .i64 c,.int .i64 r] 67));obtain⟨w2,fU⟩:=qx (w1.alloc (.cells #[.int .i64 0,.int .i64 0,.int .i64 0,.int .i64 fb,.int .i64 c,.int .i64 d] 91));have hz1:w1.heap.size=w.heap.size+1:=by rw[hw1];simp
 have hb1:Below w.heap.size w w1:=hw1▸qb;have hb2:Below w.heap.size w w2:=fU▸hb1.alloc hb1.size _;have HB2:=qh hb2;have aH:=qh (show aB w2 w.heap.size 67 #[.int .i64 6,.int .i64 d,.int .i64 fb,.int .i64 fa,.int .i64 tb,.int .i64 ta,.int .i64 c,.int .i64 r]from by rw[fU,hw1];exact(aB.at_ (g':=w.heap.size) w _ _ rfl).alloc _);have HE2:=qh (show aB w2 (w.heap.size+1) 91 #[.int .i64 0,.int .i64 0,.int .i64 0,.int .i64 fb,.int .i64 c,.int .i64 d]from by rw[fU];exact aB.at_ (g':=w.heap.size+1) w1 _ _ hz1.symm);have HM:=qh H;have dW:=qh (H.below hb2);have HW2:=qh (show w2=(w.alloc (.cells #[.int .i64 6,.int .i64 d,.int .i64 fb,.int .i64 fa,.int .i64 tb,.int .i64 ta,.int .i64 c,.int .i64 r] 67)).alloc (.cells #[.int .i64 0,.int .i64 0,.int .i64 0,.int .i64 fb,.int .i64 c,.int .i64 d] 91)from by rw[fU,hw1]);have HS:=qh hs;have HP:=qh hp;have dX:=qh hB;clear hw1 fU hz1 hb1 hb2 H hs hp hB;have hbl:iH s fb fa≤8*s.W:=by
  have:=rZ HS.o fb fa (i:=s.W) ql;rw[pG]at this;exact this
 have FY:=bT (b:=fb) HS.o hf0 hf1;have fB:fb=1∨fb=2:=LX dX.o;obtain⟨P,hP⟩:=qx (iH s fb fa);obtain⟨M,hM⟩:=qx (aM s fb fa);have hbf:=qY fb fa dW.o HS.o fB hf0 hf1;rw[←hP]at hbf hbl;rw[←hM]at FY;have dU:=qh hbf;have HL:=qh (show hZ s 6 d fb fa c r=jQ 4 P M 0 0 0 from by
  rw[hP,hM]
  rfl)
 have GE:=qh hM;have tP:=qh fB;clear hbf hP hM
 go_enter Tryz.func99,Tryz.ntmps99
 go_upto_region 2 with(fail)
 rw[←HW2.o];have o0:w2.cell? ⟨w.heap.size,0,none⟩=some (.int .i64 6):=aH.o.cell 0;have o2:w2.cell? ⟨w.heap.size,2,none⟩=some (.int .i64 fb):=aH.o.cell 2;have o3:w2.cell? ⟨w.heap.size,2+1,none⟩=some (.int .i64 fa):=aH.o.cell 3
 go_wp2_with fail
 refine(aU _ _ qo qo).mono ?_;rintro e w' ⟨rfl,rfl⟩
 go_wp2_with fail
 refine dU.o.mono ?_;rintro e w3 ⟨rfl,hb3⟩;have HB3:=HB2.st hb3;have nC:=qh (HE2.o.below hb3 HE2.o.lt);have bS:=qh (aH.o.below hb3 aH.o.lt);have c3:w3.cell? ⟨w.heap.size+1,1,none⟩=some (.int .i64 0):=nC.o.cell 1;have f3:=nC.o.frozen 1;have tE:Hq (aB (w3.setCell ⟨w.heap.size+1,1,none⟩ (.int .i64 (P:Nat))) (w.heap.size+1) 91 #[.int .i64 0,.int .i64 (P:Nat),.int .i64 0,.int .i64 fb,.int .i64 c,.int .i64 d]):=qh (nC.o.bJ 1 _);have kD:=qh (bS.o.other (g':=w.heap.size+1) qo 1 (.int .i64 (P:Nat)));have tH:=qh (HB3.o.setCell (p:=⟨w.heap.size+1,1,none⟩) (by show w.heap.size≤w.heap.size+1;omega) (.int .i64 (P:Nat)));have gV:=qh (cG fb fa (HM.o.below tH.o) tP.o hf0 hf1);have p2:(w3.setCell ⟨w.heap.size+1,1,none⟩ (.int .i64 (P:Nat))).cell? ⟨w.heap.size,2,none⟩=some (.int .i64 fb):=kD.o.cell 2;have p3:(w3.setCell ⟨w.heap.size+1,1,none⟩ (.int .i64 (P:Nat))).cell? ⟨w.heap.size,2+1,none⟩=some (.int .i64 fa):=kD.o.cell 3;clear hb3 dU o0 o2 o3
 go_wp2_with fail
 refine gV.o.mono ?_;rintro e w4 ⟨rfl,hb4⟩;have aR:=tH.st hb4;have fQ:=qh (HM.o.below aR.o);have tC:=qh (tE.o.below hb4 tE.o.lt);have bP:=qh (kD.o.below hb4 kD.o.lt);obtain⟨AF,cF,mW⟩:=(fQ.o.lU (b:=fb) hf0 hf1).form;have kc:=fQ.o.dE (b:=fb) hf0 hf1;rw[mW,←GE.o]at kc;have c4:w4.cell? ⟨w.heap.size+1,2,none⟩=some (.int .i64 0):=tC.o.cell 2;have f4:=tC.o.frozen 2;clear hb4 mW gV p2 p3 c3 f3
 go_upto_region 5 with(fail)
 obtain⟨w5,j7⟩:=qx (w4.setCell ⟨w.heap.size+1,2,none⟩ (.int .i64 (M:Nat)));rw[←j7];have iS:Hq (aB w5 (w.heap.size+1) 91 #[.int .i64 0,.int .i64 (P:Nat),.int .i64 (M:Nat),.int .i64 fb,.int .i64 c,.int .i64 d]):=qh (j7▸tC.o.bJ 2 _);have cI:=qh (j7▸bP.o.other (g':=w.heap.size+1) qo 2 (.int .i64 (M:Nat)));have aZ:=qh (show Below w.heap.size w w5 from j7▸aR.o.setCell (p:=⟨w.heap.size+1,2,none⟩) (by show w.heap.size≤w.heap.size+1;omega) (.int .i64 (M:Nat)));have x0:w5.cell? ⟨w.heap.size+1,0,none⟩=some (.int .i64 0):=iS.o.cell 0;have x1:w5.cell? ⟨w.heap.size+1,1,none⟩=some (.int .i64 (P:Nat)):=iS.o.cell 1;have x2:w5.cell? ⟨w.heap.size+1,2,none⟩=some (.int .i64 (M:Nat)):=iS.o.cell 2;have x3:w5.cell? ⟨w.heap.size+1,3,none⟩=some (.int .i64 fb):=iS.o.cell 3;have x4:w5.cell? ⟨w.heap.size+1,4,none⟩=some (.int .i64 c):=iS.o.cell 4;have x5:w5.cell? ⟨w.heap.size+1,5,none⟩=some (.int .i64 d):=iS.o.cell 5;have xf:=fun o=>iS.o.frozen o;have y0:w5.cell? ⟨w.heap.size,0,none⟩=some (.int .i64 6):=cI.o.cell 0;have y2:w5.cell? ⟨w.heap.size,2,none⟩=some (.int .i64 fb):=cI.o.cell 2;have hs5:w.heap.size≤w5.heap.size:=aZ.o.size;clear j7 c4 f4 kc
 go_wp2_with fail
 go_ret
 refine⟨_,1,rfl,by omega,by rw[HL.o];exact zH (base:=w.heap.size) _ _ qj [.int .i64 4,.int .i64 P,.int .i64 M,.int .i64 0,.int .i64 0,.int .i64 0] 1 (by simpa using hs5) qm rfl,?_⟩;refine Below.alloc ?_ (by simpa using hs5) _
 iterate 6 (refine Below.setCell ?_ (by show w.heap.size≤w.heap.size+1;omega) _)
 exact aZ.o
theorem W6 {k d fb fa tb ta c r:Int}{j:Nat}(H:Mem tg a s w)(hs:bW s D)(hp:fP s.W k d fb fa tb ta c r j)(hB:aW k d fb fa tb ta c r=true):
 Calls Tryz.prog 99 #[.pointer (some ⟨a.g,0,none⟩),.agg #[.int .i64 k,.int .i64 d,.int .i64 fb,.int .i64 fa,.int .i64 tb,.int .i64 ta,.int .i64 c,.int .i64 r]] w (Q4 w 2400 (hZ s k d fb fa c r)):=by
 have hf0:=hp.f0;have hf1:=hp.f1;have hw2:=hs.w2;obtain⟨w1,hw1⟩:=qx (w.alloc (.cells #[.int .i64 k,.int .i64 d,.int .i64 fb,.int .i64 fa,.int .i64 tb,.int .i64 ta,.int .i64 c,.int .i64 r] 67));obtain⟨w2,fU⟩:=qx (w1.alloc (.cells #[.int .i64 0,.int .i64 0,.int .i64 0,.int .i64 fb,.int .i64 c,.int .i64 d] 91));have hz1:w1.heap.size=w.heap.size+1:=by rw[hw1];simp
 have hb1:Below w.heap.size w w1:=hw1▸qb;have hb2:Below w.heap.size w w2:=fU▸hb1.alloc hb1.size _;have HB2:=qh hb2;have aH:=qh (show aB w2 w.heap.size 67 #[.int .i64 k,.int .i64 d,.int .i64 fb,.int .i64 fa,.int .i64 tb,.int .i64 ta,.int .i64 c,.int .i64 r]from by rw[fU,hw1];exact(aB.at_ (g':=w.heap.size) w _ _ rfl).alloc _);have HE2:=qh (show aB w2 (w.heap.size+1) 91 #[.int .i64 0,.int .i64 0,.int .i64 0,.int .i64 fb,.int .i64 c,.int .i64 d]from by rw[fU];exact aB.at_ (g':=w.heap.size+1) w1 _ _ hz1.symm);have HM:=qh H;have dW:=qh (H.below hb2);have HW2:=qh (show w2=(w.alloc (.cells #[.int .i64 k,.int .i64 d,.int .i64 fb,.int .i64 fa,.int .i64 tb,.int .i64 ta,.int .i64 c,.int .i64 r] 67)).alloc (.cells #[.int .i64 0,.int .i64 0,.int .i64 0,.int .i64 fb,.int .i64 c,.int .i64 d] 91)from by rw[fU,hw1]);have HS:=qh hs;have HP:=qh hp;have dX:=qh hB;clear hw1 fU hz1 hb1 hb2 H hs hp hB;have hbl:iH s fb fa≤8*s.W:=by
  have:=rZ HS.o fb fa (i:=s.W) ql;rw[pG]at this;exact this
 have FY:=bT (b:=fb) HS.o hf0 hf1
 by_cases k1:k=1
 ·subst k1
  exact Jd HM.o HS.o HP.o dX.o
 by_cases k2:k=2
 ·subst k2
  exact Jc HM.o HS.o HP.o dX.o
 by_cases k5:k=5
 ·subst k5
  by_cases h2:fb=2
  ·exact Ck HM.o HS.o HP.o h2 dX.o
  ·exact Cj HM.o HS.o HP.o h2 dX.o
 by_cases k6:k=6
 ·subst k6
  exact Jb HM.o HS.o HP.o dX.o
 by_cases k7:k=7
 ·subst k7
  have HRA:=qh (iq r dW.o HS.o HP.o.r0 HP.o.r1);have HL:=qh (show hZ s 7 d fb fa c r=T.xZ s.W s.rk r s.f s.k from rfl)
  go_enter Tryz.func99,Tryz.ntmps99
  go_upto_region 2 with(fail)
  rw[←HW2.o];have o0:w2.cell? ⟨w.heap.size,0,none⟩=some (.int .i64 7):=aH.o.cell 0;have o5:w2.cell? ⟨w.heap.size,7,none⟩=some (.int .i64 r):=aH.o.cell 7
  go_wp2_with fail
  refine(aU _ _ qo qo).mono ?_;rintro e w' ⟨rfl,rfl⟩
  go_wp2_with fail
  refine HRA.o.mono ?_;rintro e w3 ⟨v,N,rfl,hN,ho,hb⟩;have bS:=qh (eF ho HB2.o.size);have HB3:=HB2.st hb;clear ho hb
  go_wp2_with fail
  go_ret
  exact⟨v,N,rfl,hN,by rw[HL.o];exact bS.o,HB3.o⟩
 have q1:=HP.o.k1;have q9:=HP.o.k9;have HL:=qh (show hZ s k d fb fa c r=[]from by
  unfold hZ;rw[if_neg k7,if_neg k1,if_neg k2,if_neg k5,if_neg k6])
 have e1:(k==1)=false:=by rw[beq_eq_false_iff_ne];exact k1
 have e2:(k==2)=false:=by rw[beq_eq_false_iff_ne];exact k2
 have e5:(k==5)=false:=by rw[beq_eq_false_iff_ne];exact k5
 have e6:(k==6)=false:=by rw[beq_eq_false_iff_ne];exact k6
 have e7:(k==7)=false:=by rw[beq_eq_false_iff_ne];exact k7
 have mM:=qh (fun W=>aU k W q1 q9);have hmk:eM k=false:=by unfold eM;rw[e1,e2,e5];rfl
 rw[hmk]at mM;clear hmk
 go_enter Tryz.func99,Tryz.ntmps99
 go_upto_region 2 with(fail)
 rw[←HW2.o];have o0:w2.cell? ⟨w.heap.size,0,none⟩=some (.int .i64 k):=aH.o.cell 0
 go_wp2_with fail
 refine(mM.o _).mono ?_;rintro e w' ⟨rfl,rfl⟩
 go_wp2_with fail
 go_ret
 exact⟨_,0,rfl,by omega,by rw[HL.o];exact⟨rfl,.inl ⟨rfl,rfl⟩⟩,HB2.o⟩
end
end Go.Proofs.YtdnmhhohcedjbaaGreat
