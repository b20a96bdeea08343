/- Walks and plain lemmas. -/
import Derived.Test.YtimlpmbabbbcaaaGreatP36
set_option linter.unusedVariables false
set_option linter.unusedSimpArgs false
set_option maxHeartbeats 1600000
set_option maxRecDepth 20000
namespace Go.Proofs.YtimlpmbabbbcaaaGreat
open Go.RowKit
theorem aG.other {w:World}{g g':Nat}{t:TypeId}{cs:Array Value}(h:aG w g t cs)(hg:g≠g')(o:Nat)(u:Value):aG (w.setCell ⟨g',o,none⟩ u) g t cs:=(bI _ _ _ _ hg).trans h
theorem B6 {base:Nat}{e:TypeId}{size:Nat}(w:World)(g:Nat)(hg:g=w.heap.size)(cs:List Value)(n:Nat)(hb:base≤w.heap.size)(hn:n≤maxLen)(hl:cs.length=n*size):
 (w.alloc (.cells cs.toArray e)).ownsRow base e size (.slice (some ⟨g,0,none⟩) n n) n cs:=by
 subst hg;exact Yd w cs n hb hn hl
section
variable {tg:Nat→Nat}{a:bV}{s:aP}{D:Nat}{w:World}
theorem Hz {d fb fa tb ta c r:Int}{j:Nat}(H:Mem tg a s w)(hs:d8 s D)(hp:gZ s.W 1 d fb fa tb ta c r j)(hB:bD 1 d fb fa tb ta c r=true):
 Calls Tryz.prog 64 #[.pointer (some ⟨a.g,0,none⟩),.agg #[.int .i64 1,.int .i64 d,.int .i64 fb,.int .i64 fa,.int .i64 tb,.int .i64 ta,.int .i64 c,.int .i64 r]] w (QM w 2400 (jC s 1 d fb fa c r)):=by
 have hf0:=hp.f0;have hf1:=hp.f1;have hw2:=hs.w2;obtain⟨w1,hw1⟩:=qx (w.alloc (.cells #[.int .i64 1,.int .i64 d,.int .i64 fb,.int .i64 fa,.int .i64 tb,.int .i64 ta,.int .i64 c,.int .i64 r] 51));obtain⟨w2,gW⟩:=qx (w1.alloc (.cells #[.int .i64 0,.int .i64 0,.int .i64 0,.int .i64 fb,.int .i64 c,.int .i64 d] 116));have hz1:w1.heap.size=w.heap.size+1:=by rw[hw1];simp
 have hb1:Below w.heap.size w w1:=hw1▸qb;have hb2:Below w.heap.size w w2:=gW▸hb1.alloc hb1.size _;have HB2:=qh hb2;have aI:=qh (show aG w2 w.heap.size 51 #[.int .i64 1,.int .i64 d,.int .i64 fb,.int .i64 fa,.int .i64 tb,.int .i64 ta,.int .i64 c,.int .i64 r]from by rw[gW,hw1];exact(aG.at_ (g':=w.heap.size) w _ _ rfl).alloc _);have HE2:=qh (show aG w2 (w.heap.size+1) 116 #[.int .i64 0,.int .i64 0,.int .i64 0,.int .i64 fb,.int .i64 c,.int .i64 d]from by rw[gW];exact aG.at_ (g':=w.heap.size+1) w1 _ _ hz1.symm);have HM:=qh H;have dA:=qh (H.below hb2);have HW2:=qh (show w2=(w.alloc (.cells #[.int .i64 1,.int .i64 d,.int .i64 fb,.int .i64 fa,.int .i64 tb,.int .i64 ta,.int .i64 c,.int .i64 r] 51)).alloc (.cells #[.int .i64 0,.int .i64 0,.int .i64 0,.int .i64 fb,.int .i64 c,.int .i64 d] 116)from by rw[gW,hw1]);have HS:=qh hs;have HP:=qh hp;have fK:=qh hB;clear hw1 gW hz1 hb1 hb2 H hs hp hB;have hbl:jA s fb fa≤8*s.W:=by
  have:=t8 HS.o fb fa (i:=s.W) ql;rw[qE]at this;exact this
 have I0:=cY (b:=fb) HS.o hf0 hf1;have j7:fb=1∨fb=2:=(B8 (.inl rfl) fK.o).1;obtain⟨P,hP⟩:=qx (jA s fb fa);obtain⟨M,hM⟩:=qx (aU s fb fa);have hbf:=rN fb fa dA.o HS.o j7 hf0 hf1;rw[←hP]at hbf hbl;rw[←hM]at I0;have fW:=qh hbf;have HL:=qh (show jC s 1 d fb fa c r=gH 2 P M fb c d from by
  rw[hP,hM]
  rfl)
 have KD:=qh hM;have CL:=qh j7;clear hbf hP hM
 go_enter Tryz.func64,Tryz.ntmps64
 go_upto_region 2 with(fail)
 rw[←HW2.o];have o0:w2.cell? ⟨w.heap.size,0,none⟩=some (.int .i64 1):=aI.o.cell 0;have o2:w2.cell? ⟨w.heap.size,2,none⟩=some (.int .i64 fb):=aI.o.cell 2;have o3:w2.cell? ⟨w.heap.size,2+1,none⟩=some (.int .i64 fa):=aI.o.cell 3
 go_wp2_with fail
 refine(bA _ _ qo qo).mono ?_;rintro e w' ⟨rfl,rfl⟩
 go_wp2_with fail
 refine fW.o.mono ?_;rintro e w3 ⟨rfl,hb3⟩;have HB3:=HB2.st hb3;have qM:=qh (HE2.o.below hb3 HE2.o.lt);have cI:=qh (aI.o.below hb3 aI.o.lt);have c3:w3.cell? ⟨w.heap.size+1,1,none⟩=some (.int .i64 0):=qM.o.cell 1;have f3:=qM.o.frozen 1;have vS:Hq (aG (w3.setCell ⟨w.heap.size+1,1,none⟩ (.int .i64 (P:Nat))) (w.heap.size+1) 116 #[.int .i64 0,.int .i64 (P:Nat),.int .i64 0,.int .i64 fb,.int .i64 c,.int .i64 d]):=qh (qM.o.fH 1 _);have lM:=qh (cI.o.other (g':=w.heap.size+1) qo 1 (.int .i64 (P:Nat)));have vU:=qh (HB3.o.setCell (p:=⟨w.heap.size+1,1,none⟩) (by show w.heap.size≤w.heap.size+1;omega) (.int .i64 (P:Nat)));have rD:=qh (dJ fb fa (HM.o.below vU.o) CL.o hf0 hf1);have p2:(w3.setCell ⟨w.heap.size+1,1,none⟩ (.int .i64 (P:Nat))).cell? ⟨w.heap.size,2,none⟩=some (.int .i64 fb):=lM.o.cell 2;have p3:(w3.setCell ⟨w.heap.size+1,1,none⟩ (.int .i64 (P:Nat))).cell? ⟨w.heap.size,2+1,none⟩=some (.int .i64 fa):=lM.o.cell 3;clear hb3 fW o0 o2 o3
 go_wp2_with fail
 refine rD.o.mono ?_;rintro e w4 ⟨rfl,hb4⟩;have aW:=vU.st hb4;have fV:=qh (HM.o.below aW.o);have vR:=qh (vS.o.below hb4 vS.o.lt);have bS:=qh (lM.o.below hb4 lM.o.lt);obtain⟨AF,cF,nS⟩:=(fV.o.nP (b:=fb) hf0 hf1).form;have kc:=fV.o.eL (b:=fb) hf0 hf1;rw[nS,←KD.o]at kc;have c4:w4.cell? ⟨w.heap.size+1,2,none⟩=some (.int .i64 0):=vR.o.cell 2;have f4:=vR.o.frozen 2;clear hb4 nS rD p2 p3 c3 f3
 go_upto_region 5 with(fail)
 obtain⟨w5,lN⟩:=qx (w4.setCell ⟨w.heap.size+1,2,none⟩ (.int .i64 (M:Nat)));rw[←lN];have jV:Hq (aG w5 (w.heap.size+1) 116 #[.int .i64 0,.int .i64 (P:Nat),.int .i64 (M:Nat),.int .i64 fb,.int .i64 c,.int .i64 d]):=qh (lN▸vR.o.fH 2 _);have d9:=qh (lN▸bS.o.other (g':=w.heap.size+1) qo 2 (.int .i64 (M:Nat)));have bG:=qh (show Below w.heap.size w w5 from lN▸aW.o.setCell (p:=⟨w.heap.size+1,2,none⟩) (by show w.heap.size≤w.heap.size+1;omega) (.int .i64 (M:Nat)));have x0:w5.cell? ⟨w.heap.size+1,0,none⟩=some (.int .i64 0):=jV.o.cell 0;have x1:w5.cell? ⟨w.heap.size+1,1,none⟩=some (.int .i64 (P:Nat)):=jV.o.cell 1;have x2:w5.cell? ⟨w.heap.size+1,2,none⟩=some (.int .i64 (M:Nat)):=jV.o.cell 2;have x3:w5.cell? ⟨w.heap.size+1,3,none⟩=some (.int .i64 fb):=jV.o.cell 3;have x4:w5.cell? ⟨w.heap.size+1,4,none⟩=some (.int .i64 c):=jV.o.cell 4;have x5:w5.cell? ⟨w.heap.size+1,5,none⟩=some (.int .i64 d):=jV.o.cell 5;have xf:=fun o=>jV.o.frozen o;have y0:w5.cell? ⟨w.heap.size,0,none⟩=some (.int .i64 1):=d9.o.cell 0;have y2:w5.cell? ⟨w.heap.size,2,none⟩=some (.int .i64 fb):=d9.o.cell 2;have hs5:w.heap.size≤w5.heap.size:=bG.o.size;clear lN c4 f4 kc
 go_wp2_with fail
 go_ret
 refine⟨_,1,rfl,by omega,by rw[HL.o];exact B6 (base:=w.heap.size) _ _ qj [.int .i64 2,.int .i64 P,.int .i64 M,.int .i64 fb,.int .i64 c,.int .i64 d] 1 (by simpa using hs5) qm rfl,?_⟩;refine Below.alloc ?_ (by simpa using hs5) _
 iterate 1 (refine Below.setCell ?_ (by show w.heap.size≤w.heap.size+1;omega) _)
 exact bG.o
theorem Hy {d fb fa tb ta c r:Int}{j:Nat}(H:Mem tg a s w)(hs:d8 s D)(hp:gZ s.W 2 d fb fa tb ta c r j)(hB:bD 2 d fb fa tb ta c r=true):
 Calls Tryz.prog 64 #[.pointer (some ⟨a.g,0,none⟩),.agg #[.int .i64 2,.int .i64 d,.int .i64 fb,.int .i64 fa,.int .i64 tb,.int .i64 ta,.int .i64 c,.int .i64 r]] w (QM w 2400 (jC s 2 d fb fa c r)):=by
 have hf0:=hp.f0;have hf1:=hp.f1;have hw2:=hs.w2;obtain⟨w1,hw1⟩:=qx (w.alloc (.cells #[.int .i64 2,.int .i64 d,.int .i64 fb,.int .i64 fa,.int .i64 tb,.int .i64 ta,.int .i64 c,.int .i64 r] 51));obtain⟨w2,gW⟩:=qx (w1.alloc (.cells #[.int .i64 0,.int .i64 0,.int .i64 0,.int .i64 fb,.int .i64 c,.int .i64 d] 116));have hz1:w1.heap.size=w.heap.size+1:=by rw[hw1];simp
 have hb1:Below w.heap.size w w1:=hw1▸qb;have hb2:Below w.heap.size w w2:=gW▸hb1.alloc hb1.size _;have HB2:=qh hb2;have aI:=qh (show aG w2 w.heap.size 51 #[.int .i64 2,.int .i64 d,.int .i64 fb,.int .i64 fa,.int .i64 tb,.int .i64 ta,.int .i64 c,.int .i64 r]from by rw[gW,hw1];exact(aG.at_ (g':=w.heap.size) w _ _ rfl).alloc _);have HE2:=qh (show aG w2 (w.heap.size+1) 116 #[.int .i64 0,.int .i64 0,.int .i64 0,.int .i64 fb,.int .i64 c,.int .i64 d]from by rw[gW];exact aG.at_ (g':=w.heap.size+1) w1 _ _ hz1.symm);have HM:=qh H;have dA:=qh (H.below hb2);have HW2:=qh (show w2=(w.alloc (.cells #[.int .i64 2,.int .i64 d,.int .i64 fb,.int .i64 fa,.int .i64 tb,.int .i64 ta,.int .i64 c,.int .i64 r] 51)).alloc (.cells #[.int .i64 0,.int .i64 0,.int .i64 0,.int .i64 fb,.int .i64 c,.int .i64 d] 116)from by rw[gW,hw1]);have HS:=qh hs;have HP:=qh hp;have fK:=qh hB;clear hw1 gW hz1 hb1 hb2 H hs hp hB;have hbl:jA s fb fa≤8*s.W:=by
  have:=t8 HS.o fb fa (i:=s.W) ql;rw[qE]at this;exact this
 have I0:=cY (b:=fb) HS.o hf0 hf1;have j7:fb=1∨fb=2:=(B8 (.inr (.inl rfl)) fK.o).1;obtain⟨P,hP⟩:=qx (jA s fb fa);obtain⟨M,hM⟩:=qx (aU s fb fa);have hbf:=rN fb fa dA.o HS.o j7 hf0 hf1;rw[←hP]at hbf hbl;rw[←hM]at I0;have fW:=qh hbf;have HL:=qh (show jC s 2 d fb fa c r=gH 3 ((P:Int)+M) 0 fb c d from by
  rw[hP,hM]
  rfl)
 have KD:=qh hM;have CL:=qh j7;clear hbf hP hM
 go_enter Tryz.func64,Tryz.ntmps64
 go_upto_region 2 with(fail)
 rw[←HW2.o];have o0:w2.cell? ⟨w.heap.size,0,none⟩=some (.int .i64 2):=aI.o.cell 0;have o2:w2.cell? ⟨w.heap.size,2,none⟩=some (.int .i64 fb):=aI.o.cell 2;have o3:w2.cell? ⟨w.heap.size,2+1,none⟩=some (.int .i64 fa):=aI.o.cell 3
 go_wp2_with fail
 refine(bA _ _ qo qo).mono ?_;rintro e w' ⟨rfl,rfl⟩
 go_wp2_with fail
 refine fW.o.mono ?_;rintro e w3 ⟨rfl,hb3⟩;have HB3:=HB2.st hb3;have qM:=qh (HE2.o.below hb3 HE2.o.lt);have cI:=qh (aI.o.below hb3 aI.o.lt);have c3:w3.cell? ⟨w.heap.size+1,1,none⟩=some (.int .i64 0):=qM.o.cell 1;have f3:=qM.o.frozen 1;have vS:Hq (aG (w3.setCell ⟨w.heap.size+1,1,none⟩ (.int .i64 (P:Nat))) (w.heap.size+1) 116 #[.int .i64 0,.int .i64 (P:Nat),.int .i64 0,.int .i64 fb,.int .i64 c,.int .i64 d]):=qh (qM.o.fH 1 _);have lM:=qh (cI.o.other (g':=w.heap.size+1) qo 1 (.int .i64 (P:Nat)));have vU:=qh (HB3.o.setCell (p:=⟨w.heap.size+1,1,none⟩) (by show w.heap.size≤w.heap.size+1;omega) (.int .i64 (P:Nat)));have rD:=qh (dJ fb fa (HM.o.below vU.o) CL.o hf0 hf1);have p2:(w3.setCell ⟨w.heap.size+1,1,none⟩ (.int .i64 (P:Nat))).cell? ⟨w.heap.size,2,none⟩=some (.int .i64 fb):=lM.o.cell 2;have p3:(w3.setCell ⟨w.heap.size+1,1,none⟩ (.int .i64 (P:Nat))).cell? ⟨w.heap.size,2+1,none⟩=some (.int .i64 fa):=lM.o.cell 3;clear hb3 fW o0 o2 o3
 go_wp2_with fail
 refine rD.o.mono ?_;rintro e w4 ⟨rfl,hb4⟩;have aW:=vU.st hb4;have fV:=qh (HM.o.below aW.o);have vR:=qh (vS.o.below hb4 vS.o.lt);have bS:=qh (lM.o.below hb4 lM.o.lt);obtain⟨AF,cF,nS⟩:=(fV.o.nP (b:=fb) hf0 hf1).form;have kc:=fV.o.eL (b:=fb) hf0 hf1;rw[nS,←KD.o]at kc;have c4:w4.cell? ⟨w.heap.size+1,2,none⟩=some (.int .i64 0):=vR.o.cell 2;have f4:=vR.o.frozen 2;clear hb4 nS rD p2 p3 c3 f3
 go_upto_region 5 with(fail)
 obtain⟨w5,lN⟩:=qx (w4.setCell ⟨w.heap.size+1,2,none⟩ (.int .i64 (M:Nat)));rw[←lN];have jV:Hq (aG w5 (w.heap.size+1) 116 #[.int .i64 0,.int .i64 (P:Nat),.int .i64 (M:Nat),.int .i64 fb,.int .i64 c,.int .i64 d]):=qh (lN▸vR.o.fH 2 _);have d9:=qh (lN▸bS.o.other (g':=w.heap.size+1) qo 2 (.int .i64 (M:Nat)));have bG:=qh (show Below w.heap.size w w5 from lN▸aW.o.setCell (p:=⟨w.heap.size+1,2,none⟩) (by show w.heap.size≤w.heap.size+1;omega) (.int .i64 (M:Nat)));have x0:w5.cell? ⟨w.heap.size+1,0,none⟩=some (.int .i64 0):=jV.o.cell 0;have x1:w5.cell? ⟨w.heap.size+1,1,none⟩=some (.int .i64 (P:Nat)):=jV.o.cell 1;have x2:w5.cell? ⟨w.heap.size+1,2,none⟩=some (.int .i64 (M:Nat)):=jV.o.cell 2;have x3:w5.cell? ⟨w.heap.size+1,3,none⟩=some (.int .i64 fb):=jV.o.cell 3;have x4:w5.cell? ⟨w.heap.size+1,4,none⟩=some (.int .i64 c):=jV.o.cell 4;have x5:w5.cell? ⟨w.heap.size+1,5,none⟩=some (.int .i64 d):=jV.o.cell 5;have xf:=fun o=>jV.o.frozen o;have y0:w5.cell? ⟨w.heap.size,0,none⟩=some (.int .i64 2):=d9.o.cell 0;have y2:w5.cell? ⟨w.heap.size,2,none⟩=some (.int .i64 fb):=d9.o.cell 2;have hs5:w.heap.size≤w5.heap.size:=bG.o.size;clear lN c4 f4 kc
 go_wp2_with fail
 go_ret
 refine⟨_,1,rfl,by omega,by rw[HL.o];exact B6 (base:=w.heap.size) _ _ qj [.int .i64 3,.int .i64 ((P:Int)+M),.int .i64 0,.int .i64 fb,.int .i64 c,.int .i64 d] 1 (by simpa using hs5) qm rfl,?_⟩;refine Below.alloc ?_ (by simpa using hs5) _
 iterate 3 (refine Below.setCell ?_ (by show w.heap.size≤w.heap.size+1;omega) _)
 exact bG.o
theorem Ch {d fb fa tb ta c r:Int}{j:Nat}(H:Mem tg a s w)(hs:d8 s D)(hp:gZ s.W 5 d fb fa tb ta c r j)(h2:fb=2)(hB:bD 5 d fb fa tb ta c r=true):
 Calls Tryz.prog 64 #[.pointer (some ⟨a.g,0,none⟩),.agg #[.int .i64 5,.int .i64 d,.int .i64 fb,.int .i64 fa,.int .i64 tb,.int .i64 ta,.int .i64 c,.int .i64 r]] w (QM w 2400 (jC s 5 d fb fa c r)):=by
 have hf0:=hp.f0;have hf1:=hp.f1;have hw2:=hs.w2;obtain⟨w1,hw1⟩:=qx (w.alloc (.cells #[.int .i64 5,.int .i64 d,.int .i64 fb,.int .i64 fa,.int .i64 tb,.int .i64 ta,.int .i64 c,.int .i64 r] 51));obtain⟨w2,gW⟩:=qx (w1.alloc (.cells #[.int .i64 0,.int .i64 0,.int .i64 0,.int .i64 fb,.int .i64 c,.int .i64 d] 116));have hz1:w1.heap.size=w.heap.size+1:=by rw[hw1];simp
 have hb1:Below w.heap.size w w1:=hw1▸qb;have hb2:Below w.heap.size w w2:=gW▸hb1.alloc hb1.size _;have HB2:=qh hb2;have aI:=qh (show aG w2 w.heap.size 51 #[.int .i64 5,.int .i64 d,.int .i64 fb,.int .i64 fa,.int .i64 tb,.int .i64 ta,.int .i64 c,.int .i64 r]from by rw[gW,hw1];exact(aG.at_ (g':=w.heap.size) w _ _ rfl).alloc _);have HE2:=qh (show aG w2 (w.heap.size+1) 116 #[.int .i64 0,.int .i64 0,.int .i64 0,.int .i64 fb,.int .i64 c,.int .i64 d]from by rw[gW];exact aG.at_ (g':=w.heap.size+1) w1 _ _ hz1.symm);have HM:=qh H;have dA:=qh (H.below hb2);have HW2:=qh (show w2=(w.alloc (.cells #[.int .i64 5,.int .i64 d,.int .i64 fb,.int .i64 fa,.int .i64 tb,.int .i64 ta,.int .i64 c,.int .i64 r] 51)).alloc (.cells #[.int .i64 0,.int .i64 0,.int .i64 0,.int .i64 fb,.int .i64 c,.int .i64 d] 116)from by rw[gW,hw1]);have HS:=qh hs;have HP:=qh hp;have fK:=qh hB;clear hw1 gW hz1 hb1 hb2 H hs hp hB;have hbl:jA s fb fa≤8*s.W:=by
  have:=t8 HS.o fb fa (i:=s.W) ql;rw[qE]at this;exact this
 have I0:=cY (b:=fb) HS.o hf0 hf1;have j7:fb=1∨fb=2:=(B8 (.inr (.inr rfl)) fK.o).1;obtain⟨P,hP⟩:=qx (jA s fb fa);obtain⟨M,hM⟩:=qx (aU s fb fa);have hbf:=rN fb fa dA.o HS.o j7 hf0 hf1;rw[←hP]at hbf hbl;rw[←hM]at I0;have fW:=qh hbf;have HL:=qh (show jC s 5 d fb fa c r=gH 5 ((P:Int)+M) M fb c d from by
  rw[hP,hM]
  simp[jC,h2])
 have KD:=qh hM;have CL:=qh j7;have XQ:(fb==2)=true:=by simp[h2]
 have H2:=qh h2;clear hbf hP hM h2
 go_enter Tryz.func64,Tryz.ntmps64
 go_upto_region 2 with(fail)
 rw[←HW2.o];have o0:w2.cell? ⟨w.heap.size,0,none⟩=some (.int .i64 5):=aI.o.cell 0;have o2:w2.cell? ⟨w.heap.size,2,none⟩=some (.int .i64 fb):=aI.o.cell 2;have o3:w2.cell? ⟨w.heap.size,2+1,none⟩=some (.int .i64 fa):=aI.o.cell 3
 go_wp2_with fail
 refine(bA _ _ qo qo).mono ?_;rintro e w' ⟨rfl,rfl⟩
 go_wp2_with fail
 refine fW.o.mono ?_;rintro e w3 ⟨rfl,hb3⟩;have HB3:=HB2.st hb3;have qM:=qh (HE2.o.below hb3 HE2.o.lt);have cI:=qh (aI.o.below hb3 aI.o.lt);have c3:w3.cell? ⟨w.heap.size+1,1,none⟩=some (.int .i64 0):=qM.o.cell 1;have f3:=qM.o.frozen 1;have vS:Hq (aG (w3.setCell ⟨w.heap.size+1,1,none⟩ (.int .i64 (P:Nat))) (w.heap.size+1) 116 #[.int .i64 0,.int .i64 (P:Nat),.int .i64 0,.int .i64 fb,.int .i64 c,.int .i64 d]):=qh (qM.o.fH 1 _);have lM:=qh (cI.o.other (g':=w.heap.size+1) qo 1 (.int .i64 (P:Nat)));have vU:=qh (HB3.o.setCell (p:=⟨w.heap.size+1,1,none⟩) (by show w.heap.size≤w.heap.size+1;omega) (.int .i64 (P:Nat)));have rD:=qh (dJ fb fa (HM.o.below vU.o) CL.o hf0 hf1);have p2:(w3.setCell ⟨w.heap.size+1,1,none⟩ (.int .i64 (P:Nat))).cell? ⟨w.heap.size,2,none⟩=some (.int .i64 fb):=lM.o.cell 2;have p3:(w3.setCell ⟨w.heap.size+1,1,none⟩ (.int .i64 (P:Nat))).cell? ⟨w.heap.size,2+1,none⟩=some (.int .i64 fa):=lM.o.cell 3;clear hb3 fW o0 o2 o3
 go_wp2_with fail
 refine rD.o.mono ?_;rintro e w4 ⟨rfl,hb4⟩;have aW:=vU.st hb4;have fV:=qh (HM.o.below aW.o);have vR:=qh (vS.o.below hb4 vS.o.lt);have bS:=qh (lM.o.below hb4 lM.o.lt);obtain⟨AF,cF,nS⟩:=(fV.o.nP (b:=fb) hf0 hf1).form;have kc:=fV.o.eL (b:=fb) hf0 hf1;rw[nS,←KD.o]at kc;have c4:w4.cell? ⟨w.heap.size+1,2,none⟩=some (.int .i64 0):=vR.o.cell 2;have f4:=vR.o.frozen 2;clear hb4 nS rD p2 p3 c3 f3
 go_upto_region 5 with(fail)
 obtain⟨w5,lN⟩:=qx (w4.setCell ⟨w.heap.size+1,2,none⟩ (.int .i64 (M:Nat)));rw[←lN];have jV:Hq (aG w5 (w.heap.size+1) 116 #[.int .i64 0,.int .i64 (P:Nat),.int .i64 (M:Nat),.int .i64 fb,.int .i64 c,.int .i64 d]):=qh (lN▸vR.o.fH 2 _);have d9:=qh (lN▸bS.o.other (g':=w.heap.size+1) qo 2 (.int .i64 (M:Nat)));have bG:=qh (show Below w.heap.size w w5 from lN▸aW.o.setCell (p:=⟨w.heap.size+1,2,none⟩) (by show w.heap.size≤w.heap.size+1;omega) (.int .i64 (M:Nat)));have x0:w5.cell? ⟨w.heap.size+1,0,none⟩=some (.int .i64 0):=jV.o.cell 0;have x1:w5.cell? ⟨w.heap.size+1,1,none⟩=some (.int .i64 (P:Nat)):=jV.o.cell 1;have x2:w5.cell? ⟨w.heap.size+1,2,none⟩=some (.int .i64 (M:Nat)):=jV.o.cell 2;have x3:w5.cell? ⟨w.heap.size+1,3,none⟩=some (.int .i64 fb):=jV.o.cell 3;have x4:w5.cell? ⟨w.heap.size+1,4,none⟩=some (.int .i64 c):=jV.o.cell 4;have x5:w5.cell? ⟨w.heap.size+1,5,none⟩=some (.int .i64 d):=jV.o.cell 5;have xf:=fun o=>jV.o.frozen o;have y0:w5.cell? ⟨w.heap.size,0,none⟩=some (.int .i64 5):=d9.o.cell 0;have y2:w5.cell? ⟨w.heap.size,2,none⟩=some (.int .i64 fb):=d9.o.cell 2;have hs5:w.heap.size≤w5.heap.size:=bG.o.size;clear lN c4 f4 kc
 go_wp2_with fail
 go_ret
 refine⟨_,1,rfl,by omega,by rw[HL.o];exact B6 (base:=w.heap.size) _ _ qj [.int .i64 5,.int .i64 ((P:Int)+M),.int .i64 M,.int .i64 fb,.int .i64 c,.int .i64 d] 1 (by simpa using hs5) qm rfl,?_⟩;refine Below.alloc ?_ (by simpa using hs5) _
 iterate 2 (refine Below.setCell ?_ (by show w.heap.size≤w.heap.size+1;omega) _)
 exact bG.o
theorem Cg {d fb fa tb ta c r:Int}{j:Nat}(H:Mem tg a s w)(hs:d8 s D)(hp:gZ s.W 5 d fb fa tb ta c r j)(h2:¬fb=2)(hB:bD 5 d fb fa tb ta c r=true):
 Calls Tryz.prog 64 #[.pointer (some ⟨a.g,0,none⟩),.agg #[.int .i64 5,.int .i64 d,.int .i64 fb,.int .i64 fa,.int .i64 tb,.int .i64 ta,.int .i64 c,.int .i64 r]] w (QM w 2400 (jC s 5 d fb fa c r)):=by
 have hf0:=hp.f0;have hf1:=hp.f1;have hw2:=hs.w2;obtain⟨w1,hw1⟩:=qx (w.alloc (.cells #[.int .i64 5,.int .i64 d,.int .i64 fb,.int .i64 fa,.int .i64 tb,.int .i64 ta,.int .i64 c,.int .i64 r] 51));obtain⟨w2,gW⟩:=qx (w1.alloc (.cells #[.int .i64 0,.int .i64 0,.int .i64 0,.int .i64 fb,.int .i64 c,.int .i64 d] 116));have hz1:w1.heap.size=w.heap.size+1:=by rw[hw1];simp
 have hb1:Below w.heap.size w w1:=hw1▸qb;have hb2:Below w.heap.size w w2:=gW▸hb1.alloc hb1.size _;have HB2:=qh hb2;have aI:=qh (show aG w2 w.heap.size 51 #[.int .i64 5,.int .i64 d,.int .i64 fb,.int .i64 fa,.int .i64 tb,.int .i64 ta,.int .i64 c,.int .i64 r]from by rw[gW,hw1];exact(aG.at_ (g':=w.heap.size) w _ _ rfl).alloc _);have HE2:=qh (show aG w2 (w.heap.size+1) 116 #[.int .i64 0,.int .i64 0,.int .i64 0,.int .i64 fb,.int .i64 c,.int .i64 d]from by rw[gW];exact aG.at_ (g':=w.heap.size+1) w1 _ _ hz1.symm);have HM:=qh H;have dA:=qh (H.below hb2);have HW2:=qh (show w2=(w.alloc (.cells #[.int .i64 5,.int .i64 d,.int .i64 fb,.int .i64 fa,.int .i64 tb,.int .i64 ta,.int .i64 c,.int .i64 r] 51)).alloc (.cells #[.int .i64 0,.int .i64 0,.int .i64 0,.int .i64 fb,.int .i64 c,.int .i64 d] 116)from by rw[gW,hw1]);have HS:=qh hs;have HP:=qh hp;have fK:=qh hB;clear hw1 gW hz1 hb1 hb2 H hs hp hB;have hbl:jA s fb fa≤8*s.W:=by
  have:=t8 HS.o fb fa (i:=s.W) ql;rw[qE]at this;exact this
 have I0:=cY (b:=fb) HS.o hf0 hf1;have j7:fb=1∨fb=2:=(B8 (.inr (.inr rfl)) fK.o).1;obtain⟨P,hP⟩:=qx (jA s fb fa);obtain⟨M,hM⟩:=qx (aU s fb fa);have hbf:=rN fb fa dA.o HS.o j7 hf0 hf1;rw[←hP]at hbf hbl;rw[←hM]at I0;have fW:=qh hbf;have HL:=qh (show jC s 5 d fb fa c r=gH 5 P M fb c d from by
  rw[hP,hM]
  simp[jC,h2])
 have KD:=qh hM;have CL:=qh j7;have XQ:(fb==2)=false:=by rw[beq_eq_false_iff_ne];exact h2
 have H2:=qh h2;clear hbf hP hM h2
 go_enter Tryz.func64,Tryz.ntmps64
 go_upto_region 2 with(fail)
 rw[←HW2.o];have o0:w2.cell? ⟨w.heap.size,0,none⟩=some (.int .i64 5):=aI.o.cell 0;have o2:w2.cell? ⟨w.heap.size,2,none⟩=some (.int .i64 fb):=aI.o.cell 2;have o3:w2.cell? ⟨w.heap.size,2+1,none⟩=some (.int .i64 fa):=aI.o.cell 3
 go_wp2_with fail
 refine(bA _ _ qo qo).mono ?_;rintro e w' ⟨rfl,rfl⟩
 go_wp2_with fail
 refine fW.o.mono ?_;rintro e w3 ⟨rfl,hb3⟩;have HB3:=HB2.st hb3;have qM:=qh (HE2.o.below hb3 HE2.o.lt);have cI:=qh (aI.o.below hb3 aI.o.lt);have c3:w3.cell? ⟨w.heap.size+1,1,none⟩=some (.int .i64 0):=qM.o.cell 1;have f3:=qM.o.frozen 1;have vS:Hq (aG (w3.setCell ⟨w.heap.size+1,1,none⟩ (.int .i64 (P:Nat))) (w.heap.size+1) 116 #[.int .i64 0,.int .i64 (P:Nat),.int .i64 0,.int .i64 fb,.int .i64 c,.int .i64 d]):=qh (qM.o.fH 1 _);have lM:=qh (cI.o.other (g':=w.heap.size+1) qo 1 (.int .i64 (P:Nat)));have vU:=qh (HB3.o.setCell (p:=⟨w.heap.size+1,1,none⟩) (by show w.heap.size≤w.heap.size+1;omega) (.int .i64 (P:Nat)));have rD:=qh (dJ fb fa (HM.o.below vU.o) CL.o hf0 hf1);have p2:(w3.setCell ⟨w.heap.size+1,1,none⟩ (.int .i64 (P:Nat))).cell? ⟨w.heap.size,2,none⟩=some (.int .i64 fb):=lM.o.cell 2;have p3:(w3.setCell ⟨w.heap.size+1,1,none⟩ (.int .i64 (P:Nat))).cell? ⟨w.heap.size,2+1,none⟩=some (.int .i64 fa):=lM.o.cell 3;clear hb3 fW o0 o2 o3
 go_wp2_with fail
 refine rD.o.mono ?_;rintro e w4 ⟨rfl,hb4⟩;have aW:=vU.st hb4;have fV:=qh (HM.o.below aW.o);have vR:=qh (vS.o.below hb4 vS.o.lt);have bS:=qh (lM.o.below hb4 lM.o.lt);obtain⟨AF,cF,nS⟩:=(fV.o.nP (b:=fb) hf0 hf1).form;have kc:=fV.o.eL (b:=fb) hf0 hf1;rw[nS,←KD.o]at kc;have c4:w4.cell? ⟨w.heap.size+1,2,none⟩=some (.int .i64 0):=vR.o.cell 2;have f4:=vR.o.frozen 2;clear hb4 nS rD p2 p3 c3 f3
 go_upto_region 5 with(fail)
 obtain⟨w5,lN⟩:=qx (w4.setCell ⟨w.heap.size+1,2,none⟩ (.int .i64 (M:Nat)));rw[←lN];have jV:Hq (aG w5 (w.heap.size+1) 116 #[.int .i64 0,.int .i64 (P:Nat),.int .i64 (M:Nat),.int .i64 fb,.int .i64 c,.int .i64 d]):=qh (lN▸vR.o.fH 2 _);have d9:=qh (lN▸bS.o.other (g':=w.heap.size+1) qo 2 (.int .i64 (M:Nat)));have bG:=qh (show Below w.heap.size w w5 from lN▸aW.o.setCell (p:=⟨w.heap.size+1,2,none⟩) (by show w.heap.size≤w.heap.size+1;omega) (.int .i64 (M:Nat)));have x0:w5.cell? ⟨w.heap.size+1,0,none⟩=some (.int .i64 0):=jV.o.cell 0;have x1:w5.cell? ⟨w.heap.size+1,1,none⟩=some (.int .i64 (P:Nat)):=jV.o.cell 1;have x2:w5.cell? ⟨w.heap.size+1,2,none⟩=some (.int .i64 (M:Nat)):=jV.o.cell 2;have x3:w5.cell? ⟨w.heap.size+1,3,none⟩=some (.int .i64 fb):=jV.o.cell 3;have x4:w5.cell? ⟨w.heap.size+1,4,none⟩=some (.int .i64 c):=jV.o.cell 4;have x5:w5.cell? ⟨w.heap.size+1,5,none⟩=some (.int .i64 d):=jV.o.cell 5;have xf:=fun o=>jV.o.frozen o;have y0:w5.cell? ⟨w.heap.size,0,none⟩=some (.int .i64 5):=d9.o.cell 0;have y2:w5.cell? ⟨w.heap.size,2,none⟩=some (.int .i64 fb):=d9.o.cell 2;have hs5:w.heap.size≤w5.heap.size:=bG.o.size;clear lN c4 f4 kc
 go_wp2_with fail
 go_ret
 refine⟨_,1,rfl,by omega,by rw[HL.o];exact B6 (base:=w.heap.size) _ _ qj [.int .i64 5,.int .i64 P,.int .i64 M,.int .i64 fb,.int .i64 c,.int .i64 d] 1 (by simpa using hs5) qm rfl,?_⟩;refine Below.alloc ?_ (by simpa using hs5) _
 iterate 1 (refine Below.setCell ?_ (by show w.heap.size≤w.heap.size+1;omega) _)
 exact bG.o
theorem Hw {d fb fa tb ta c r:Int}{j:Nat}(H:Mem tg a s w)(hs:d8 s D)(hp:gZ s.W 6 d fb fa tb ta c r j)(hB:bD 6 d fb fa tb ta c r=true):
 Calls Tryz.prog 64 #[.pointer (some ⟨a.g,0,none⟩),.agg #[.int .i64 6,.int .i64 d,.int .i64 fb,.int .i64 fa,.int .i64 tb,.int .i64 ta,.int .i64 c,.int .i64 r]] w (QM w 2400 (jC s 6 d fb fa c r)):=by
 have hf0:=hp.f0;have hf1:=hp.f1;have hw2:=hs.w2;obtain⟨w1,hw1⟩:=qx (w.alloc (.cells #[.int .i64 6,.int .i64 d,.int .i64 fb,.int .i64 fa,.int .i64 tb,.int .i64 ta,.int .i64 c,.int .i64 r] 51));obtain⟨w2,gW⟩:=qx (w1.alloc (.cells #[.int .i64 0,.int .i64 0,.int .i64 0,.int .i64 fb,.int .i64 c,.int .i64 d] 116));have hz1:w1.heap.size=w.heap.size+1:=by rw[hw1];simp
 have hb1:Below w.heap.size w w1:=hw1▸qb;have hb2:Below w.heap.size w w2:=gW▸hb1.alloc hb1.size _;have HB2:=qh hb2;have aI:=qh (show aG w2 w.heap.size 51 #[.int .i64 6,.int .i64 d,.int .i64 fb,.int .i64 fa,.int .i64 tb,.int .i64 ta,.int .i64 c,.int .i64 r]from by rw[gW,hw1];exact(aG.at_ (g':=w.heap.size) w _ _ rfl).alloc _);have HE2:=qh (show aG w2 (w.heap.size+1) 116 #[.int .i64 0,.int .i64 0,.int .i64 0,.int .i64 fb,.int .i64 c,.int .i64 d]from by rw[gW];exact aG.at_ (g':=w.heap.size+1) w1 _ _ hz1.symm);have HM:=qh H;have dA:=qh (H.below hb2);have HW2:=qh (show w2=(w.alloc (.cells #[.int .i64 6,.int .i64 d,.int .i64 fb,.int .i64 fa,.int .i64 tb,.int .i64 ta,.int .i64 c,.int .i64 r] 51)).alloc (.cells #[.int .i64 0,.int .i64 0,.int .i64 0,.int .i64 fb,.int .i64 c,.int .i64 d] 116)from by rw[gW,hw1]);have HS:=qh hs;have HP:=qh hp;have fK:=qh hB;clear hw1 gW hz1 hb1 hb2 H hs hp hB;have hbl:jA s fb fa≤8*s.W:=by
  have:=t8 HS.o fb fa (i:=s.W) ql;rw[qE]at this;exact this
 have I0:=cY (b:=fb) HS.o hf0 hf1;have j7:fb=1∨fb=2:=VW fK.o;obtain⟨P,hP⟩:=qx (jA s fb fa);obtain⟨M,hM⟩:=qx (aU s fb fa);have hbf:=rN fb fa dA.o HS.o j7 hf0 hf1;rw[←hP]at hbf hbl;rw[←hM]at I0;have fW:=qh hbf;have HL:=qh (show jC s 6 d fb fa c r=gH 4 P M 0 0 0 from by
  rw[hP,hM]
  rfl)
 have KD:=qh hM;have CL:=qh j7;clear hbf hP hM
 go_enter Tryz.func64,Tryz.ntmps64
 go_upto_region 2 with(fail)
 rw[←HW2.o];have o0:w2.cell? ⟨w.heap.size,0,none⟩=some (.int .i64 6):=aI.o.cell 0;have o2:w2.cell? ⟨w.heap.size,2,none⟩=some (.int .i64 fb):=aI.o.cell 2;have o3:w2.cell? ⟨w.heap.size,2+1,none⟩=some (.int .i64 fa):=aI.o.cell 3
 go_wp2_with fail
 refine(bA _ _ qo qo).mono ?_;rintro e w' ⟨rfl,rfl⟩
 go_wp2_with fail
 refine fW.o.mono ?_;rintro e w3 ⟨rfl,hb3⟩;have HB3:=HB2.st hb3;have qM:=qh (HE2.o.below hb3 HE2.o.lt);have cI:=qh (aI.o.below hb3 aI.o.lt);have c3:w3.cell? ⟨w.heap.size+1,1,none⟩=some (.int .i64 0):=qM.o.cell 1;have f3:=qM.o.frozen 1;have vS:Hq (aG (w3.setCell ⟨w.heap.size+1,1,none⟩ (.int .i64 (P:Nat))) (w.heap.size+1) 116 #[.int .i64 0,.int .i64 (P:Nat),.int .i64 0,.int .i64 fb,.int .i64 c,.int .i64 d]):=qh (qM.o.fH 1 _);have lM:=qh (cI.o.other (g':=w.heap.size+1) qo 1 (.int .i64 (P:Nat)));have vU:=qh (HB3.o.setCell (p:=⟨w.heap.size+1,1,none⟩) (by show w.heap.size≤w.heap.size+1;omega) (.int .i64 (P:Nat)));have rD:=qh (dJ fb fa (HM.o.below vU.o) CL.o hf0 hf1);have p2:(w3.setCell ⟨w.heap.size+1,1,none⟩ (.int .i64 (P:Nat))).cell? ⟨w.heap.size,2,none⟩=some (.int .i64 fb):=lM.o.cell 2;have p3:(w3.setCell ⟨w.heap.size+1,1,none⟩ (.int .i64 (P:Nat))).cell? ⟨w.heap.size,2+1,none⟩=some (.int .i64 fa):=lM.o.cell 3;clear hb3 fW o0 o2 o3
 go_wp2_with fail
 refine rD.o.mono ?_;rintro e w4 ⟨rfl,hb4⟩;have aW:=vU.st hb4;have fV:=qh (HM.o.below aW.o);have vR:=qh (vS.o.below hb4 vS.o.lt);have bS:=qh (lM.o.below hb4 lM.o.lt);obtain⟨AF,cF,nS⟩:=(fV.o.nP (b:=fb) hf0 hf1).form;have kc:=fV.o.eL (b:=fb) hf0 hf1;rw[nS,←KD.o]at kc;have c4:w4.cell? ⟨w.heap.size+1,2,none⟩=some (.int .i64 0):=vR.o.cell 2;have f4:=vR.o.frozen 2;clear hb4 nS rD p2 p3 c3 f3
 go_upto_region 5 with(fail)
 obtain⟨w5,lN⟩:=qx (w4.setCell ⟨w.heap.size+1,2,none⟩ (.int .i64 (M:Nat)));rw[←lN];have jV:Hq (aG w5 (w.heap.size+1) 116 #[.int .i64 0,.int .i64 (P:Nat),.int .i64 (M:Nat),.int .i64 fb,.int .i64 c,.int .i64 d]):=qh (lN▸vR.o.fH 2 _);have d9:=qh (lN▸bS.o.other (g':=w.heap.size+1) qo 2 (.int .i64 (M:Nat)));have bG:=qh (show Below w.heap.size w w5 from lN▸aW.o.setCell (p:=⟨w.heap.size+1,2,none⟩) (by show w.heap.size≤w.heap.size+1;omega) (.int .i64 (M:Nat)));have x0:w5.cell? ⟨w.heap.size+1,0,none⟩=some (.int .i64 0):=jV.o.cell 0;have x1:w5.cell? ⟨w.heap.size+1,1,none⟩=some (.int .i64 (P:Nat)):=jV.o.cell 1;have x2:w5.cell? ⟨w.heap.size+1,2,none⟩=some (.int .i64 (M:Nat)):=jV.o.cell 2;have x3:w5.cell? ⟨w.heap.size+1,3,none⟩=some (.int .i64 fb):=jV.o.cell 3;have x4:w5.cell? ⟨w.heap.size+1,4,none⟩=some (.int .i64 c):=jV.o.cell 4;have x5:w5.cell? ⟨w.heap.size+1,5,none⟩=some (.int .i64 d):=jV.o.cell 5;have xf:=fun o=>jV.o.frozen o;have y0:w5.cell? ⟨w.heap.size,0,none⟩=some (.int .i64 6):=d9.o.cell 0;have y2:w5.cell? ⟨w.heap.size,2,none⟩=some (.int .i64 fb):=d9.o.cell 2;have hs5:w.heap.size≤w5.heap.size:=bG.o.size;clear lN c4 f4 kc
 go_wp2_with fail
 go_ret
 refine⟨_,1,rfl,by omega,by rw[HL.o];exact B6 (base:=w.heap.size) _ _ qj [.int .i64 4,.int .i64 P,.int .i64 M,.int .i64 0,.int .i64 0,.int .i64 0] 1 (by simpa using hs5) qm rfl,?_⟩;refine Below.alloc ?_ (by simpa using hs5) _
 iterate 6 (refine Below.setCell ?_ (by show w.heap.size≤w.heap.size+1;omega) _)
 exact bG.o
theorem VU {k d fb fa tb ta c r:Int}{j:Nat}(H:Mem tg a s w)(hs:d8 s D)(hp:gZ s.W k d fb fa tb ta c r j)(hB:bD k d fb fa tb ta c r=true):
 Calls Tryz.prog 64 #[.pointer (some ⟨a.g,0,none⟩),.agg #[.int .i64 k,.int .i64 d,.int .i64 fb,.int .i64 fa,.int .i64 tb,.int .i64 ta,.int .i64 c,.int .i64 r]] w (QM w 2400 (jC s k d fb fa c r)):=by
 have hf0:=hp.f0;have hf1:=hp.f1;have hw2:=hs.w2;obtain⟨w1,hw1⟩:=qx (w.alloc (.cells #[.int .i64 k,.int .i64 d,.int .i64 fb,.int .i64 fa,.int .i64 tb,.int .i64 ta,.int .i64 c,.int .i64 r] 51));obtain⟨w2,gW⟩:=qx (w1.alloc (.cells #[.int .i64 0,.int .i64 0,.int .i64 0,.int .i64 fb,.int .i64 c,.int .i64 d] 116));have hz1:w1.heap.size=w.heap.size+1:=by rw[hw1];simp
 have hb1:Below w.heap.size w w1:=hw1▸qb;have hb2:Below w.heap.size w w2:=gW▸hb1.alloc hb1.size _;have HB2:=qh hb2;have aI:=qh (show aG w2 w.heap.size 51 #[.int .i64 k,.int .i64 d,.int .i64 fb,.int .i64 fa,.int .i64 tb,.int .i64 ta,.int .i64 c,.int .i64 r]from by rw[gW,hw1];exact(aG.at_ (g':=w.heap.size) w _ _ rfl).alloc _);have HE2:=qh (show aG w2 (w.heap.size+1) 116 #[.int .i64 0,.int .i64 0,.int .i64 0,.int .i64 fb,.int .i64 c,.int .i64 d]from by rw[gW];exact aG.at_ (g':=w.heap.size+1) w1 _ _ hz1.symm);have HM:=qh H;have dA:=qh (H.below hb2);have HW2:=qh (show w2=(w.alloc (.cells #[.int .i64 k,.int .i64 d,.int .i64 fb,.int .i64 fa,.int .i64 tb,.int .i64 ta,.int .i64 c,.int .i64 r] 51)).alloc (.cells #[.int .i64 0,.int .i64 0,.int .i64 0,.int .i64 fb,.int .i64 c,.int .i64 d] 116)from by rw[gW,hw1]);have HS:=qh hs;have HP:=qh hp;have fK:=qh hB;clear hw1 gW hz1 hb1 hb2 H hs hp hB;have hbl:jA s fb fa≤8*s.W:=by
  have:=t8 HS.o fb fa (i:=s.W) ql;rw[qE]at this;exact this
 have I0:=cY (b:=fb) HS.o hf0 hf1
 by_cases k1:k=1
 ·subst k1
  exact Hz HM.o HS.o HP.o fK.o
 by_cases k2:k=2
 ·subst k2
  exact Hy HM.o HS.o HP.o fK.o
 by_cases k5:k=5
 ·subst k5
  by_cases h2:fb=2
  ·exact Ch HM.o HS.o HP.o h2 fK.o
  ·exact Cg HM.o HS.o HP.o h2 fK.o
 by_cases k6:k=6
 ·subst k6
  exact Hw HM.o HS.o HP.o fK.o
 by_cases k7:k=7
 ·subst k7
  have Nl:=qh (bn r dA.o HS.o HP.o.r0 HP.o.r1);have HL:=qh (show jC s 7 d fb fa c r=T.CZ s.W s.rk r s.f s.k from rfl)
  go_enter Tryz.func64,Tryz.ntmps64
  go_upto_region 2 with(fail)
  rw[←HW2.o];have o0:w2.cell? ⟨w.heap.size,0,none⟩=some (.int .i64 7):=aI.o.cell 0;have o5:w2.cell? ⟨w.heap.size,7,none⟩=some (.int .i64 r):=aI.o.cell 7
  go_wp2_with fail
  refine(bA _ _ qo qo).mono ?_;rintro e w' ⟨rfl,rfl⟩
  go_wp2_with fail
  refine Nl.o.mono ?_;rintro e w3 ⟨v,N,rfl,hN,ho,hb⟩;have cI:=qh (eU ho HB2.o.size);have HB3:=HB2.st hb;clear ho hb
  go_wp2_with fail
  go_ret
  exact⟨v,N,rfl,hN,by rw[HL.o];exact cI.o,HB3.o⟩
 have q1:=HP.o.k1;have q9:=HP.o.k9;have HL:=qh (show jC s k d fb fa c r=[]from by
  unfold jC;rw[if_neg k7,if_neg k1,if_neg k2,if_neg k5,if_neg k6])
 have e1:(k==1)=false:=by rw[beq_eq_false_iff_ne];exact k1
 have e2:(k==2)=false:=by rw[beq_eq_false_iff_ne];exact k2
 have e5:(k==5)=false:=by rw[beq_eq_false_iff_ne];exact k5
 have e6:(k==6)=false:=by rw[beq_eq_false_iff_ne];exact k6
 have e7:(k==7)=false:=by rw[beq_eq_false_iff_ne];exact k7
 have MH:=qh (fun W=>bA k W q1 q9);have hmk:fP k=false:=by unfold fP;rw[e1,e2,e5];rfl
 rw[hmk]at MH;clear hmk
 go_enter Tryz.func64,Tryz.ntmps64
 go_upto_region 2 with(fail)
 rw[←HW2.o];have o0:w2.cell? ⟨w.heap.size,0,none⟩=some (.int .i64 k):=aI.o.cell 0
 go_wp2_with fail
 refine(MH.o _).mono ?_;rintro e w' ⟨rfl,rfl⟩
 go_wp2_with fail
 go_ret
 exact⟨_,0,rfl,by omega,by rw[HL.o];exact⟨rfl,.inl ⟨rfl,rfl⟩⟩,HB2.o⟩
end
end Go.Proofs.YtimlpmbabbbcaaaGreat
