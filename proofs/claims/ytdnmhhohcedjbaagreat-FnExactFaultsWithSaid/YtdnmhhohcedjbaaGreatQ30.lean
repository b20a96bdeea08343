/- Walks and plain lemmas. -/
import Derived.Test.YtdnmhhohcedjbaaGreatQ25
set_option linter.unusedVariables false
set_option linter.unusedSimpArgs false
set_option maxHeartbeats 4000000
set_option maxRecDepth 20000
namespace Go.Proofs.YtdnmhhohcedjbaaGreat
open Go.RowKit
section
variable {tg:Nat→Nat}{a:bC}{s:aI}{D:Nat}{w:World}
theorem zQ30x4 {p:Prop}(h:p:=by
 go_ret
 exact⟨rfl,fun h=>absurd rfl h,fun _=>Moved.of_below HG.o (by rw[HST.o];exact HA2.o.moved)⟩):p:=h
theorem Mx {d fb fa tb ta c r:Int}{j:Nat}(H:Mem tg a s w)(hs:bW s D)(YJ:D≤1000000)(hp:fP s.W 7 d fb fa tb ta c r j)(hb:nA 7 fb tb)(hf:rI 7 fb):Calls Tryz.prog 100 #[.pointer (some ⟨a.g,0,none⟩),.agg #[.int .i64 7,.int .i64 d,.int .i64 fb,.int .i64 fa,.int .i64 tb,.int .i64 ta,.int .i64 c,.int .i64 r]] w (LC w tg a.g (aX s 7 d fb fa tb ta j) (cV s 7 d fb fa tb ta r j)):=by
 have hg:Below w.heap.size w (w.alloc (.cells #[.int .i64 7,.int .i64 d,.int .i64 fb,.int .i64 fa,.int .i64 tb,.int .i64 ta,.int .i64 c,.int .i64 r] 67)):=qb;have HG:=qh hg;have gB:=qh (At.start (H.below hg));have cM:=kT w 7 d fb fa tb ta c r;have bA:=qh cM;have gT:Hq (tg w.heap.size=0):=qh (Decidable.byContradiction fun hn=>Nat.lt_irrefl _ (H.lt _ hn));have hoc:=jI (H.below hg) hs hp hb hf;obtain⟨code,hcode⟩:=qx (aX s 7 d fb fa tb ta j);rw[←hcode]at hoc ⊢;obtain⟨s9,gP⟩:=qx (cV s 7 d fb fa tb ta r j);rw[←gP];have HC:=qh hcode;have tM:=qh gP;have l9:=qh hoc;have HS:=qh hs;have HP:=qh hp;have HB:=qh hb;have HF:=qh hf;have hlA:∃AL cL,a.L=.slice AL s.n cL:=gB.o.L;have yG:=qh hlA;clear H hs hp hb hf hg hoc hcode gP cM hlA
 go_enter Tryz.func100,Tryz.ntmps100
 go_wp2_with fail
 refine l9.o.mono ?_;rintro e w1 ⟨rfl,hb1⟩
 by_cases hc0:code=0
 ·subst hc0
  have HA1:=qh (gB.o.below hb1);have aO:=qh (HA1.o.op bA.o gT.o).1;clear hb1 l9;have o0:=aO.o.c0;have o7:=aO.o.c7;have m1:=(show w1.cell? ⟨a.g,1,none⟩=some (Value.int .i64 s.rk)from HA1.o.m.m.cell 1);have f1:=HA1.o.m.m.frozen 1;have HA2:=qh (HA1.o.rT r);have aH:=qh (HA2.o.op bA.o gT.o).1;have p0:=aH.o.c0;have HST:Hq (s9={s with rk:=r}):=qh (by rw[tM.o];simp[cV])
  go_wp2_with (go_at_call 67;refine(aU _ _ qo qo).mono ?_;rintro e w' ⟨rfl,rfl⟩)
  exact zQ30x4
 ·exact absurd (HC.o.trans (by simp[aX])) hc0
theorem zQ30x0 {p:Prop}(h:p:=by
 have jH:=qh hc0;have HB1:=HG.st hb1;clear hb1 hc0
 go_wp2_with fail
 go_ret
 exact⟨rfl,fun _=>HB1.o,fun h=>absurd h jH.o⟩):p:=h
theorem Nc {d fb fa tb ta c r:Int}{j:Nat}(H:Mem tg a s w)(hs:bW s D)(YJ:D≤1000000)(hp:fP s.W 4 d fb fa tb ta c r j)(hb:nA 4 fb tb)(hf:rI 4 fb):Calls Tryz.prog 100 #[.pointer (some ⟨a.g,0,none⟩),.agg #[.int .i64 4,.int .i64 d,.int .i64 fb,.int .i64 fa,.int .i64 tb,.int .i64 ta,.int .i64 c,.int .i64 r]] w (LC w tg a.g (aX s 4 d fb fa tb ta j) (cV s 4 d fb fa tb ta r j)):=by
 have hg:Below w.heap.size w (w.alloc (.cells #[.int .i64 4,.int .i64 d,.int .i64 fb,.int .i64 fa,.int .i64 tb,.int .i64 ta,.int .i64 c,.int .i64 r] 67)):=qb;have HG:=qh hg;have gB:=qh (At.start (H.below hg));have cM:=kT w 4 d fb fa tb ta c r;have bA:=qh cM;have gT:Hq (tg w.heap.size=0):=qh (Decidable.byContradiction fun hn=>Nat.lt_irrefl _ (H.lt _ hn));have hoc:=jI (H.below hg) hs hp hb hf;obtain⟨code,hcode⟩:=qx (aX s 4 d fb fa tb ta j);rw[←hcode]at hoc ⊢;obtain⟨s9,gP⟩:=qx (cV s 4 d fb fa tb ta r j);rw[←gP];have HC:=qh hcode;have tM:=qh gP;have l9:=qh hoc;have HS:=qh hs;have HP:=qh hp;have HB:=qh hb;have HF:=qh hf;have hlA:∃AL cL,a.L=.slice AL s.n cL:=gB.o.L;have yG:=qh hlA;clear H hs hp hb hf hg hoc hcode gP cM hlA
 go_enter Tryz.func100,Tryz.ntmps100
 go_wp2_with fail
 refine l9.o.mono ?_;rintro e w1 ⟨rfl,hb1⟩
 by_cases hc0:code=0
 ·subst hc0
  have HA1:=qh (gB.o.below hb1);have aO:=qh (HA1.o.op bA.o gT.o).1;clear hb1 l9;have hbb:=HB.o (.inl rfl);have hnz:aM s fb fa≠0:=by
   have h:=HC.o;unfold aX at h;rw[if_neg qo,if_neg qo,if_pos rfl]at h;unfold eG at h;intro h0;rw[if_pos h0]at h
   split at h<;>omega
  have htr:=GP fb fa tb ta HA1.o.m HS.o hbb HP.o.f0 HP.o.f1 HP.o.t0 HP.o.t1 hnz;have HTR:=qh htr;have o0:=aO.o.c0;have o2:=aO.o.c2;have o3:=aO.o.c3;have o4:=aO.o.c4;have o5:=aO.o.c5;have HST:Hq (s9=aY s fb fa tb ta):=qh (by rw[tM.o];simp[cV]);clear htr hbb hnz
  go_wp2_with (first
   |(go_at_call 67;refine(aU _ _ qo qo).mono ?_;rintro e w' ⟨rfl,rfl⟩)
   |(go_at_call 129;refine HTR.o.mono ?_;rintro e w2 ⟨v,xY,a2,rfl,gF,_,_,_⟩;have HA2:=qh (HA1.o.comp gF);have aH:=qh (HA2.o.op bA.o gT.o).1;have p0:=aH.o.c0;clear gF))
  exact zQ30x4
 ·have hc1:(code==0)=false:=by simpa using hc0
  exact zQ30x0
theorem zQ30x1 {p:Prop}(h:p:=by
 go_wp2_with fail
 go_region
 all_goals
  go_wp2_with (go_at_call 67;refine(aU _ _ qo qo).mono ?_;rintro e w' ⟨rfl,rfl⟩)
  go_ret
  exact⟨rfl,fun h=>absurd rfl h,fun _=>Moved.of_below HG.o (by rw[HST.o];first|exact HA2.o.moved|exact(HA2.o.below ((Below.refl _ _).drew)).moved|exact(HA2.o.below (((Below.refl _ _).drew).drew)).moved)⟩):p:=h
theorem Mv {d fb fa tb ta c r:Int}{j:Nat}(H:Mem tg a s w)(hs:bW s D)(YJ:D≤1000000)(hp:fP s.W 9 d fb fa tb ta c r j)(hb:nA 9 fb tb)(hf:rI 9 fb):Calls Tryz.prog 100 #[.pointer (some ⟨a.g,0,none⟩),.agg #[.int .i64 9,.int .i64 d,.int .i64 fb,.int .i64 fa,.int .i64 tb,.int .i64 ta,.int .i64 c,.int .i64 r]] w (LC w tg a.g (aX s 9 d fb fa tb ta j) (cV s 9 d fb fa tb ta r j)):=by
 have hg:Below w.heap.size w (w.alloc (.cells #[.int .i64 9,.int .i64 d,.int .i64 fb,.int .i64 fa,.int .i64 tb,.int .i64 ta,.int .i64 c,.int .i64 r] 67)):=qb;have HG:=qh hg;have gB:=qh (At.start (H.below hg));have cM:=kT w 9 d fb fa tb ta c r;have bA:=qh cM;have gT:Hq (tg w.heap.size=0):=qh (Decidable.byContradiction fun hn=>Nat.lt_irrefl _ (H.lt _ hn));have hoc:=jI (H.below hg) hs hp hb hf;obtain⟨code,hcode⟩:=qx (aX s 9 d fb fa tb ta j);rw[←hcode]at hoc ⊢;obtain⟨s9,gP⟩:=qx (cV s 9 d fb fa tb ta r j);rw[←gP];have HC:=qh hcode;have tM:=qh gP;have l9:=qh hoc;have HS:=qh hs;have HP:=qh hp;have HB:=qh hb;have HF:=qh hf;have hlA:∃AL cL,a.L=.slice AL s.n cL:=gB.o.L;have yG:=qh hlA;clear H hs hp hb hf hg hoc hcode gP cM hlA
 go_enter Tryz.func100,Tryz.ntmps100
 go_wp2_with fail
 refine l9.o.mono ?_;rintro e w1 ⟨rfl,hb1⟩
 by_cases hc0:code=0
 ·subst hc0
  have HA1:=qh (gB.o.below hb1);have aO:=qh (HA1.o.op bA.o gT.o).1;clear hb1 l9;obtain⟨rfl,hj⟩:=HP.o.mA qo qo qo;have HJ:=qh hj;have m4:=(show w1.cell? ⟨a.g,4,none⟩=some (Value.slice (some ⟨a.gc,0,none⟩) 4 a.cc)from HA1.o.m.m.cell 4);obtain⟨k0,k1,f0,f1⟩:=HA1.o.m.mA hj;have o0:=aO.o.c0;have o6:=aO.o.c6;have HST:Hq (s9={s with cin:=fun q=>if q=j then false else s.cin q,cat:=fun q=>if q=j then 0 else s.cat q}):=qh (by
   rw[tM.o]
   simp[cV,vA])
  have HA2:=qh ((HA1.o.sJ hj false).setAt hj 0);have aH:=qh (HA2.o.op bA.o gT.o).1;have p0:=aH.o.c0
  exact zQ30x1
 ·have hc1:(code==0)=false:=by simpa using hc0
  exact zQ30x0
theorem Mw {d fb fa tb ta c r:Int}{j:Nat}(H:Mem tg a s w)(hs:bW s D)(YJ:D≤1000000)(hp:fP s.W 8 d fb fa tb ta c r j)(hb:nA 8 fb tb)(hf:rI 8 fb):Calls Tryz.prog 100 #[.pointer (some ⟨a.g,0,none⟩),.agg #[.int .i64 8,.int .i64 d,.int .i64 fb,.int .i64 fa,.int .i64 tb,.int .i64 ta,.int .i64 c,.int .i64 r]] w (LC w tg a.g (aX s 8 d fb fa tb ta j) (cV s 8 d fb fa tb ta r j)):=by
 have hg:Below w.heap.size w (w.alloc (.cells #[.int .i64 8,.int .i64 d,.int .i64 fb,.int .i64 fa,.int .i64 tb,.int .i64 ta,.int .i64 c,.int .i64 r] 67)):=qb;have HG:=qh hg;have gB:=qh (At.start (H.below hg));have cM:=kT w 8 d fb fa tb ta c r;have bA:=qh cM;have gT:Hq (tg w.heap.size=0):=qh (Decidable.byContradiction fun hn=>Nat.lt_irrefl _ (H.lt _ hn));have hoc:=jI (H.below hg) hs hp hb hf;obtain⟨code,hcode⟩:=qx (aX s 8 d fb fa tb ta j);rw[←hcode]at hoc ⊢;obtain⟨s9,gP⟩:=qx (cV s 8 d fb fa tb ta r j);rw[←gP];have HC:=qh hcode;have tM:=qh gP;have l9:=qh hoc;have HS:=qh hs;have HP:=qh hp;have HB:=qh hb;have HF:=qh hf;have hlA:∃AL cL,a.L=.slice AL s.n cL:=gB.o.L;have yG:=qh hlA;clear H hs hp hb hf hg hoc hcode gP cM hlA
 go_enter Tryz.func100,Tryz.ntmps100
 go_wp2_with fail
 refine l9.o.mono ?_;rintro e w1 ⟨rfl,hb1⟩
 by_cases hc0:code=0
 ·subst hc0
  have HA1:=qh (gB.o.below hb1);have aO:=qh (HA1.o.op bA.o gT.o).1;clear hb1 l9;obtain⟨rfl,hj⟩:=HP.o.mA qo qo qo;have HJ:=qh hj;have m4:=(show w1.cell? ⟨a.g,4,none⟩=some (Value.slice (some ⟨a.gc,0,none⟩) 4 a.cc)from HA1.o.m.m.cell 4);obtain⟨k0,k1,f0,f1⟩:=HA1.o.m.mA hj;have hd:=HP.o.dir qo qo qo qo;have o0:=aO.o.c0;have o1:=aO.o.c1;have o6:=aO.o.c6;have hw2:=HS.o.w2;have HA2:=qh ((HA1.o.sJ hj true).setAt hj (-3));have aH:=qh (HA2.o.op bA.o gT.o).1;have p0:=aH.o.c0;have p1:=aH.o.c1;have p6:=aH.o.c6
  rcases hd with rfl|rfl
  ·have HST:Hq (s9={s with cin:=fun q=>if q=j then true else s.cin q,cat:=fun q=>if q=j then-3 else s.cat q}):=qh (by
    rw[tM.o]
    simp[cV,vA])
   exact zQ30x1
  ·have HST:Hq (s9={s with cin:=fun q=>if q=j then true else s.cin q,cat:=fun q=>if q=j then(s.W:Int)+3 else(if q=j then-3 else s.cat q)}):=qh (by
    rw[tM.o]
    simp[cV,vA]
    funext q
    by_cases h:q=j<;>simp[h])
   have gY:=qh (HA2.o.setAt hj ((s.W:Int)+3));have bS:=qh (gY.o.op bA.o gT.o).1;have x0:=bS.o.c0;have n0:=HA2.o.m.m.cell 0;have n4:=(show _=some (Value.slice (some ⟨a.gc,0,none⟩) 4 a.cc)from HA2.o.m.m.cell 4);replace n0:=(show _=some (Value.int .i64 s.W)from n0);obtain⟨kk0,kk1,ff0,ff1⟩:=HA2.o.m.mA hj
   go_wp2_with fail
   go_region
   all_goals
    go_wp2_with fail
    go_region
    all_goals
     go_wp2_with (go_at_call 67;refine(aU _ _ qo qo).mono ?_;rintro e w' ⟨rfl,rfl⟩)
     go_ret
     exact⟨rfl,fun h=>absurd rfl h,fun _=>Moved.of_below HG.o (by rw[HST.o];first|exact gY.o.moved|exact(gY.o.below ((Below.refl _ _).drew)).moved|exact(gY.o.below (((Below.refl _ _).drew).drew)).moved)⟩
 ·have hc1:(code==0)=false:=by simpa using hc0
  exact zQ30x0
theorem zQ30x3 {p:Prop}(h:p:=by
 go_wp2_with fail
 go_ret
 exact⟨rfl,fun h=>absurd rfl h,fun _=>Moved.of_below HG.o (by rw[HST.o,←HX.o];exact iY.o.moved)⟩):p:=h
theorem Nf {d fb fa tb ta c r:Int}{j:Nat}(H:Mem tg a s w)(hs:bW s D)(YJ:D≤1000000)(hp:fP s.W 3 d fb fa tb ta c r j)(hb:nA 3 fb tb)(hf:rI 3 fb):Calls Tryz.prog 100 #[.pointer (some ⟨a.g,0,none⟩),.agg #[.int .i64 3,.int .i64 d,.int .i64 fb,.int .i64 fa,.int .i64 tb,.int .i64 ta,.int .i64 c,.int .i64 r]] w (LC w tg a.g (aX s 3 d fb fa tb ta j) (cV s 3 d fb fa tb ta r j)):=by
 have hg:Below w.heap.size w (w.alloc (.cells #[.int .i64 3,.int .i64 d,.int .i64 fb,.int .i64 fa,.int .i64 tb,.int .i64 ta,.int .i64 c,.int .i64 r] 67)):=qb;have HG:=qh hg;have gB:=qh (At.start (H.below hg));have cM:=kT w 3 d fb fa tb ta c r;have bA:=qh cM;have gT:Hq (tg w.heap.size=0):=qh (Decidable.byContradiction fun hn=>Nat.lt_irrefl _ (H.lt _ hn));have hoc:=jI (H.below hg) hs hp hb hf;obtain⟨code,hcode⟩:=qx (aX s 3 d fb fa tb ta j);rw[←hcode]at hoc ⊢;obtain⟨s9,gP⟩:=qx (cV s 3 d fb fa tb ta r j);rw[←gP];have HC:=qh hcode;have tM:=qh gP;have l9:=qh hoc;have HS:=qh hs;have HP:=qh hp;have HB:=qh hb;have HF:=qh hf;have hlA:∃AL cL,a.L=.slice AL s.n cL:=gB.o.L;have yG:=qh hlA;clear H hs hp hb hf hg hoc hcode gP cM hlA
 go_enter Tryz.func100,Tryz.ntmps100
 go_wp2_with fail
 refine l9.o.mono ?_;rintro e w1 ⟨rfl,hb1⟩
 by_cases hc0:code=0
 ·subst hc0
  have HA1:=qh (gB.o.below hb1);have aO:=qh (HA1.o.op bA.o gT.o).1;clear hb1 l9;obtain⟨rfl,hj⟩:=HP.o.mA qo qo qo;have HJ:=qh hj;have hd:=HP.o.dir qo qo qo qo;have ha0:=HP.o.f0;have ha1:=HP.o.f1;have hw2:=HS.o.w2;have hr1:=HS.o.r1;have hr2:=HS.o.r2;have o0:=aO.o.c0;have HST:Hq (s9={s with cat:=fun q=>if q=j then(if d=1 then aL fb fa s.rk+1 else aL fb fa s.rk)else s.cat q}):=qh (by
   rw[tM.o]
   simp[cV,bM])
  go_wp2_with (go_at_call 67;refine(aU _ _ qo qo).mono ?_;rintro e w' ⟨rfl,rfl⟩)
  rcases hd with rfl|rfl
  ·have t4:=(show _=some (Value.slice (some ⟨a.gc,0,none⟩) 4 a.cc)from HA1.o.m.m.cell 4)
   have t1:=(show _=some (Value.int .i64 (s).rk)from HA1.o.m.m.cell 1);rw[HA1.o.g]at t4 t1;rw[show s.rk=s.rk from rfl]at t1;have u1:=aO.o.c1;have u2:=aO.o.c2;have u3:=aO.o.c3;have u6:=aO.o.c6;rw[Nat.zero_add]at u1 u2 u3 u6;have wM:IntKind.i64.wrap (j:Int)=j:=by rw[IntKind.wrap_i64];omega
   have hj0:(0:Int)≤j:=qo;have OK:(j:Int)<4:=qo;obtain⟨x,hx⟩:=qx (aL fb fa s.rk);have hxb:=iC (b:=fb) ha0 (show fa≤23 by omega) hr1 hr2;rw[←hx]at hxb;have HX:=qh hx;clear hx;have hwx:IntKind.i64.wrap (x+1)=x+1:=by rw[IntKind.wrap_i64];omega
   have pC:IntKind.i64.wrap x=x:=by rw[IntKind.wrap_i64];omega
   have hv2:IntKind.i64.wrap ((IntKind.i64.wrap 2).tdiv 2)=1:=by decide
   have hv0:IntKind.i64.wrap ((IntKind.i64.wrap 0).tdiv 2)=0:=by decide
   have hq1:∀(W:World) (x:Nat) (v:Value) (q:Nat),(W.setCell ⟨a.gc,x,none⟩ v).cell? ⟨a.g,q,none⟩=W.cell? ⟨a.g,q,none⟩:=fun W x v q=>World.cell?_setCell_other W _ _ v (by intro e;injection e with e1 e2;have h1:=HA1.o.m.tc;have h2:=HA1.o.m.tm;rw[HA1.o.g]at h2;rw[e1]at h1;omega);have hq2:∀(W:World) (x:Nat) (v:Value) (q:Nat),(W.setCell ⟨a.gc,x,none⟩ v).cell? ⟨w.heap.size,q,none⟩=W.cell? ⟨w.heap.size,q,none⟩:=fun W x v q=>World.cell?_setCell_other W _ _ v (by intro e;injection e with e1 e2;have h1:=HA1.o.m.tc;have h2:=(HA1.o.op bA.o gT.o).2;rw[e1]at h1;omega);have LG:=qh (World.block_lt_of_cell? w1 _ t4);have LO:=qh (World.block_lt_of_cell? w1 _ u1);have KS:=qh (And.intro t4 (And.intro t1 (And.intro u1 (And.intro u2 (And.intro u3 u6)))))
   go_region_held3 (fun w'=>w'.cell? ⟨a.g,4,none⟩=some (.slice (some ⟨a.gc,0,none⟩) 4 a.cc)∧w'.cell? ⟨a.g,1,none⟩=some (.int .i64 s.rk)∧w'.cell? ⟨w.heap.size,1,none⟩=some (.int .i64 (1))∧w'.cell? ⟨w.heap.size,2,none⟩=some (.int .i64 fb)∧w'.cell? ⟨w.heap.size,2+1,none⟩=some (.int .i64 fa)∧w'.cell? ⟨w.heap.size,6,none⟩=some (.int .i64 ((j:Int)+1))) (go_keep)
    ((go_at_call 131;refine(lT fb fa s.rk _ ha0 qo hr1 hr2).mono ?_;rintro e w7 ⟨he,bQ⟩;obtain rfl:e=.returned (.int .i64 x):=he.trans (by rw[HX.o]);have aS:Hq (Below w1.heap.size w1 w7):=qh (((Below.refl w1.heap.size w1).drew).trans bQ);have y4:=((aA aS.o).1 a.g 4 LG.out).trans KS.out.1;have y1:=((aA aS.o).1 a.g 1 LG.out).trans KS.out.2.1;have z1:=((aA aS.o).1 w.heap.size 1 LO.out).trans KS.out.2.2.1;have z2:=((aA aS.o).1 w.heap.size 2 LO.out).trans KS.out.2.2.2.1;have z3:=((aA aS.o).1 w.heap.size (2+1) LO.out).trans KS.out.2.2.2.2.1;have z6:=((aA aS.o).1 w.heap.size 6 LO.out).trans KS.out.2.2.2.2.2;have cc:=(HA1.o.below aS.o).m.mA HJ.o;have oO:=cc.2.1;have AN:=cc.2.2.2;clear cc bQ he))
   rename_i hHeld
   have iY:=qh ((HA1.o.below aS.o).setAt HJ.o (x+1));clear hHeld y4 y1 z1 z2 z3 z6 oO AN hq1 hq2 hwx pC hv2 hv0 wM
   exact zQ30x3
  ·have t4:=(show _=some (Value.slice (some ⟨a.gc,0,none⟩) 4 a.cc)from HA1.o.m.m.cell 4)
   have t1:=(show _=some (Value.int .i64 (s).rk)from HA1.o.m.m.cell 1);rw[HA1.o.g]at t4 t1;rw[show s.rk=s.rk from rfl]at t1;have u1:=aO.o.c1;have u2:=aO.o.c2;have u3:=aO.o.c3;have u6:=aO.o.c6;rw[Nat.zero_add]at u1 u2 u3 u6;have wM:IntKind.i64.wrap (j:Int)=j:=by rw[IntKind.wrap_i64];omega
   have hj0:(0:Int)≤j:=qo;have OK:(j:Int)<4:=qo;obtain⟨x,hx⟩:=qx (aL fb fa s.rk);have hxb:=iC (b:=fb) ha0 (show fa≤23 by omega) hr1 hr2;rw[←hx]at hxb;have HX:=qh hx;clear hx;have hwx:IntKind.i64.wrap (x+1)=x+1:=by rw[IntKind.wrap_i64];omega
   have pC:IntKind.i64.wrap x=x:=by rw[IntKind.wrap_i64];omega
   have hv2:IntKind.i64.wrap ((IntKind.i64.wrap 2).tdiv 2)=1:=by decide
   have hv0:IntKind.i64.wrap ((IntKind.i64.wrap 0).tdiv 2)=0:=by decide
   have hq1:∀(W:World) (x:Nat) (v:Value) (q:Nat),(W.setCell ⟨a.gc,x,none⟩ v).cell? ⟨a.g,q,none⟩=W.cell? ⟨a.g,q,none⟩:=fun W x v q=>World.cell?_setCell_other W _ _ v (by intro e;injection e with e1 e2;have h1:=HA1.o.m.tc;have h2:=HA1.o.m.tm;rw[HA1.o.g]at h2;rw[e1]at h1;omega);have hq2:∀(W:World) (x:Nat) (v:Value) (q:Nat),(W.setCell ⟨a.gc,x,none⟩ v).cell? ⟨w.heap.size,q,none⟩=W.cell? ⟨w.heap.size,q,none⟩:=fun W x v q=>World.cell?_setCell_other W _ _ v (by intro e;injection e with e1 e2;have h1:=HA1.o.m.tc;have h2:=(HA1.o.op bA.o gT.o).2;rw[e1]at h1;omega);have LG:=qh (World.block_lt_of_cell? w1 _ t4);have LO:=qh (World.block_lt_of_cell? w1 _ u1);have KS:=qh (And.intro t4 (And.intro t1 (And.intro u1 (And.intro u2 (And.intro u3 u6)))))
   go_region_held3 (fun w'=>w'.cell? ⟨a.g,4,none⟩=some (.slice (some ⟨a.gc,0,none⟩) 4 a.cc)∧w'.cell? ⟨a.g,1,none⟩=some (.int .i64 s.rk)∧w'.cell? ⟨w.heap.size,1,none⟩=some (.int .i64 (-1))∧w'.cell? ⟨w.heap.size,2,none⟩=some (.int .i64 fb)∧w'.cell? ⟨w.heap.size,2+1,none⟩=some (.int .i64 fa)∧w'.cell? ⟨w.heap.size,6,none⟩=some (.int .i64 ((j:Int)+1))) (go_keep)
    ((go_at_call 131;refine(lT fb fa s.rk _ ha0 qo hr1 hr2).mono ?_;rintro e w7 ⟨he,bQ⟩;obtain rfl:e=.returned (.int .i64 x):=he.trans (by rw[HX.o]);have aS:Hq (Below w1.heap.size w1 w7):=qh (((Below.refl w1.heap.size w1).drew).trans bQ);have y4:=((aA aS.o).1 a.g 4 LG.out).trans KS.out.1;have y1:=((aA aS.o).1 a.g 1 LG.out).trans KS.out.2.1;have z1:=((aA aS.o).1 w.heap.size 1 LO.out).trans KS.out.2.2.1;have z2:=((aA aS.o).1 w.heap.size 2 LO.out).trans KS.out.2.2.2.1;have z3:=((aA aS.o).1 w.heap.size (2+1) LO.out).trans KS.out.2.2.2.2.1;have z6:=((aA aS.o).1 w.heap.size 6 LO.out).trans KS.out.2.2.2.2.2;have cc:=(HA1.o.below aS.o).m.mA HJ.o;have oO:=cc.2.1;have AN:=cc.2.2.2;clear cc bQ he))
   rename_i hHeld
   have iY:=qh ((HA1.o.below aS.o).setAt HJ.o (x));clear hHeld y4 y1 z1 z2 z3 z6 oO AN hq1 hq2 hwx pC hv2 hv0 wM
   exact zQ30x3
 ·have hc1:(code==0)=false:=by simpa using hc0
  exact zQ30x0
theorem zQ30x2 {p:Prop}(h:p:=by
 go_wp2_with fail
 go_ret
 exact⟨rfl,fun h=>absurd rfl h,fun _=>Moved.of_below HG.o (by rw[HST.o,←HX.o];have h8:=iY.o.moved;rw[sE.o]at h8;exact h8)⟩):p:=h
theorem Ng {d fb fa tb ta c r:Int}{j:Nat}(H:Mem tg a s w)(hs:bW s D)(YJ:D≤1000000)(hp:fP s.W 2 d fb fa tb ta c r j)(hb:nA 2 fb tb)(hf:rI 2 fb):Calls Tryz.prog 100 #[.pointer (some ⟨a.g,0,none⟩),.agg #[.int .i64 2,.int .i64 d,.int .i64 fb,.int .i64 fa,.int .i64 tb,.int .i64 ta,.int .i64 c,.int .i64 r]] w (LC w tg a.g (aX s 2 d fb fa tb ta j) (cV s 2 d fb fa tb ta r j)):=by
 have hg:Below w.heap.size w (w.alloc (.cells #[.int .i64 2,.int .i64 d,.int .i64 fb,.int .i64 fa,.int .i64 tb,.int .i64 ta,.int .i64 c,.int .i64 r] 67)):=qb;have HG:=qh hg;have gB:=qh (At.start (H.below hg));have cM:=kT w 2 d fb fa tb ta c r;have bA:=qh cM;have gT:Hq (tg w.heap.size=0):=qh (Decidable.byContradiction fun hn=>Nat.lt_irrefl _ (H.lt _ hn));have hoc:=jI (H.below hg) hs hp hb hf;obtain⟨code,hcode⟩:=qx (aX s 2 d fb fa tb ta j);rw[←hcode]at hoc ⊢;obtain⟨s9,gP⟩:=qx (cV s 2 d fb fa tb ta r j);rw[←gP];have HC:=qh hcode;have tM:=qh gP;have l9:=qh hoc;have HS:=qh hs;have HP:=qh hp;have HB:=qh hb;have HF:=qh hf;have hlA:∃AL cL,a.L=.slice AL s.n cL:=gB.o.L;have yG:=qh hlA;clear H hs hp hb hf hg hoc hcode gP cM hlA
 go_enter Tryz.func100,Tryz.ntmps100
 go_wp2_with fail
 refine l9.o.mono ?_;rintro e w1 ⟨rfl,hb1⟩
 by_cases hc0:code=0
 ·subst hc0
  have HA1:=qh (gB.o.below hb1);have aO:=qh (HA1.o.op bA.o gT.o).1;clear hb1 l9;obtain⟨rfl,hj⟩:=HP.o.mA qo qo qo;have HJ:=qh hj;have hd:=HP.o.dir qo qo qo qo;have ha0:=HP.o.f0;have ha1:=HP.o.f1;have hw2:=HS.o.w2;have hr1:=HS.o.r1;have hr2:=HS.o.r2;have fB:=HF.o qo;have Lm:=MP HC.o.symm qo;have o0:=aO.o.c0;have o1:=aO.o.c1;have o2:=aO.o.c2;have o3:=aO.o.c3;have o4:=aO.o.c4;have o5:=aO.o.c5;have o6:=aO.o.c6;have o7:=aO.o.c7;rw[Nat.zero_add]at o1 o2 o3 o4 o5 o6 o7;have HST:Hq (s9={gA (more s) fb fa (aM s fb fa+1)with cat:=newAt s d (aL fb fa s.rk) j}):=qh (by rw[tM.o,adA]);have hlp:=LZ 2 d fb fa tb ta ((j:Int)+1) r (.slice none 0 0) 0 HA1.o.m HS.o fB ha0 ha1 Lm (bE.nil w1) qo (fun q hq=>by cases hq);have GF:=qh hlp;clear hlp fB
  go_wp2_with (first
   |(go_at_call 67;refine(aU _ _ qo qo).mono ?_;rintro e w' ⟨rfl,rfl⟩)
   |(go_at_call 128;refine GF.o.mono ?_;rintro e w2 ⟨rfl,hm2⟩;obtain⟨xY,a2,gF,_,_⟩:=HA1.o.next hm2;have HA2:=qh gF;have aH:=qh (HA2.o.op bA.o gT.o).1;have p0:=aH.o.c0;have sE:Hq ((gA (more s) fb fa (aM s fb fa+1)).cat=s.cat):=qh (wF _ _ _ _);clear hm2 gF o0 o1 o2 o3 o4 o5 o6 o7))
  rcases hd with rfl|rfl
  ·have t4:=(show _=some (Value.slice (some ⟨a2.gc,0,none⟩) 4 a2.cc)from HA2.o.m.m.cell 4)
   have t1:=(show _=some (Value.int .i64 (gA (more s) fb fa (aM s fb fa+1)).rk)from HA2.o.m.m.cell 1);rw[HA2.o.g]at t4 t1;rw[show(gA (more s) fb fa (aM s fb fa+1)).rk=s.rk from o8 _ _ _ _]at t1;have u1:=aH.o.c1;have u2:=aH.o.c2;have u3:=aH.o.c3;have u6:=aH.o.c6;rw[Nat.zero_add]at u1 u2 u3 u6;have wM:IntKind.i64.wrap (j:Int)=j:=by rw[IntKind.wrap_i64];omega
   have hj0:(0:Int)≤j:=qo;have OK:(j:Int)<4:=qo;obtain⟨x,hx⟩:=qx (aL fb fa s.rk);have hxb:=iC (b:=fb) ha0 (show fa≤23 by omega) hr1 hr2;rw[←hx]at hxb;have HX:=qh hx;clear hx;have hwx:IntKind.i64.wrap (x+1)=x+1:=by rw[IntKind.wrap_i64];omega
   have pC:IntKind.i64.wrap x=x:=by rw[IntKind.wrap_i64];omega
   have hv2:IntKind.i64.wrap ((IntKind.i64.wrap 2).tdiv 2)=1:=by decide
   have hv0:IntKind.i64.wrap ((IntKind.i64.wrap 0).tdiv 2)=0:=by decide
   have hq1:∀(W:World) (x:Nat) (v:Value) (q:Nat),(W.setCell ⟨a2.gc,x,none⟩ v).cell? ⟨a.g,q,none⟩=W.cell? ⟨a.g,q,none⟩:=fun W x v q=>World.cell?_setCell_other W _ _ v (by intro e;injection e with e1 e2;have h1:=HA2.o.m.tc;have h2:=HA2.o.m.tm;rw[HA2.o.g]at h2;rw[e1]at h1;omega);have hq2:∀(W:World) (x:Nat) (v:Value) (q:Nat),(W.setCell ⟨a2.gc,x,none⟩ v).cell? ⟨w.heap.size,q,none⟩=W.cell? ⟨w.heap.size,q,none⟩:=fun W x v q=>World.cell?_setCell_other W _ _ v (by intro e;injection e with e1 e2;have h1:=HA2.o.m.tc;have h2:=(HA2.o.op bA.o gT.o).2;rw[e1]at h1;omega);have LG:=qh (World.block_lt_of_cell? w2 _ t4);have LO:=qh (World.block_lt_of_cell? w2 _ u1);have KS:=qh (And.intro t4 (And.intro t1 (And.intro u1 (And.intro u2 (And.intro u3 u6)))))
   go_region_held3 (fun w'=>w'.cell? ⟨a.g,4,none⟩=some (.slice (some ⟨a2.gc,0,none⟩) 4 a2.cc)∧w'.cell? ⟨a.g,1,none⟩=some (.int .i64 s.rk)∧w'.cell? ⟨w.heap.size,1,none⟩=some (.int .i64 (1))∧w'.cell? ⟨w.heap.size,2,none⟩=some (.int .i64 fb)∧w'.cell? ⟨w.heap.size,2+1,none⟩=some (.int .i64 fa)∧w'.cell? ⟨w.heap.size,6,none⟩=some (.int .i64 ((j:Int)+1))) (go_keep)
    ((go_at_call 131;refine(lT fb fa s.rk _ ha0 qo hr1 hr2).mono ?_;rintro e w7 ⟨he,bQ⟩;obtain rfl:e=.returned (.int .i64 x):=he.trans (by rw[HX.o]);have aS:Hq (Below w2.heap.size w2 w7):=qh (((Below.refl w2.heap.size w2).drew).trans bQ);have y4:=((aA aS.o).1 a.g 4 LG.out).trans KS.out.1;have y1:=((aA aS.o).1 a.g 1 LG.out).trans KS.out.2.1;have z1:=((aA aS.o).1 w.heap.size 1 LO.out).trans KS.out.2.2.1;have z2:=((aA aS.o).1 w.heap.size 2 LO.out).trans KS.out.2.2.2.1;have z3:=((aA aS.o).1 w.heap.size (2+1) LO.out).trans KS.out.2.2.2.2.1;have z6:=((aA aS.o).1 w.heap.size 6 LO.out).trans KS.out.2.2.2.2.2;have cc:=(HA2.o.below aS.o).m.mA HJ.o;have oO:=cc.2.1;have AN:=cc.2.2.2;clear cc bQ he))
   rename_i hHeld
   have iY:=qh ((HA2.o.below aS.o).setAt HJ.o (x+1));clear hHeld y4 y1 z1 z2 z3 z6 oO AN hq1 hq2 hwx pC hv2 hv0 wM
   exact zQ30x2
  ·have t4:=(show _=some (Value.slice (some ⟨a2.gc,0,none⟩) 4 a2.cc)from HA2.o.m.m.cell 4)
   have t1:=(show _=some (Value.int .i64 (gA (more s) fb fa (aM s fb fa+1)).rk)from HA2.o.m.m.cell 1);rw[HA2.o.g]at t4 t1;rw[show(gA (more s) fb fa (aM s fb fa+1)).rk=s.rk from o8 _ _ _ _]at t1;have u1:=aH.o.c1;have u2:=aH.o.c2;have u3:=aH.o.c3;have u6:=aH.o.c6;rw[Nat.zero_add]at u1 u2 u3 u6;have wM:IntKind.i64.wrap (j:Int)=j:=by rw[IntKind.wrap_i64];omega
   have hj0:(0:Int)≤j:=qo;have OK:(j:Int)<4:=qo;obtain⟨x,hx⟩:=qx (aL fb fa s.rk);have hxb:=iC (b:=fb) ha0 (show fa≤23 by omega) hr1 hr2;rw[←hx]at hxb;have HX:=qh hx;clear hx;have hwx:IntKind.i64.wrap (x+1)=x+1:=by rw[IntKind.wrap_i64];omega
   have pC:IntKind.i64.wrap x=x:=by rw[IntKind.wrap_i64];omega
   have hv2:IntKind.i64.wrap ((IntKind.i64.wrap 2).tdiv 2)=1:=by decide
   have hv0:IntKind.i64.wrap ((IntKind.i64.wrap 0).tdiv 2)=0:=by decide
   have hq1:∀(W:World) (x:Nat) (v:Value) (q:Nat),(W.setCell ⟨a2.gc,x,none⟩ v).cell? ⟨a.g,q,none⟩=W.cell? ⟨a.g,q,none⟩:=fun W x v q=>World.cell?_setCell_other W _ _ v (by intro e;injection e with e1 e2;have h1:=HA2.o.m.tc;have h2:=HA2.o.m.tm;rw[HA2.o.g]at h2;rw[e1]at h1;omega);have hq2:∀(W:World) (x:Nat) (v:Value) (q:Nat),(W.setCell ⟨a2.gc,x,none⟩ v).cell? ⟨w.heap.size,q,none⟩=W.cell? ⟨w.heap.size,q,none⟩:=fun W x v q=>World.cell?_setCell_other W _ _ v (by intro e;injection e with e1 e2;have h1:=HA2.o.m.tc;have h2:=(HA2.o.op bA.o gT.o).2;rw[e1]at h1;omega);have LG:=qh (World.block_lt_of_cell? w2 _ t4);have LO:=qh (World.block_lt_of_cell? w2 _ u1);have KS:=qh (And.intro t4 (And.intro t1 (And.intro u1 (And.intro u2 (And.intro u3 u6)))))
   go_region_held3 (fun w'=>w'.cell? ⟨a.g,4,none⟩=some (.slice (some ⟨a2.gc,0,none⟩) 4 a2.cc)∧w'.cell? ⟨a.g,1,none⟩=some (.int .i64 s.rk)∧w'.cell? ⟨w.heap.size,1,none⟩=some (.int .i64 (-1))∧w'.cell? ⟨w.heap.size,2,none⟩=some (.int .i64 fb)∧w'.cell? ⟨w.heap.size,2+1,none⟩=some (.int .i64 fa)∧w'.cell? ⟨w.heap.size,6,none⟩=some (.int .i64 ((j:Int)+1))) (go_keep)
    ((go_at_call 131;refine(lT fb fa s.rk _ ha0 qo hr1 hr2).mono ?_;rintro e w7 ⟨he,bQ⟩;obtain rfl:e=.returned (.int .i64 x):=he.trans (by rw[HX.o]);have aS:Hq (Below w2.heap.size w2 w7):=qh (((Below.refl w2.heap.size w2).drew).trans bQ);have y4:=((aA aS.o).1 a.g 4 LG.out).trans KS.out.1;have y1:=((aA aS.o).1 a.g 1 LG.out).trans KS.out.2.1;have z1:=((aA aS.o).1 w.heap.size 1 LO.out).trans KS.out.2.2.1;have z2:=((aA aS.o).1 w.heap.size 2 LO.out).trans KS.out.2.2.2.1;have z3:=((aA aS.o).1 w.heap.size (2+1) LO.out).trans KS.out.2.2.2.2.1;have z6:=((aA aS.o).1 w.heap.size 6 LO.out).trans KS.out.2.2.2.2.2;have cc:=(HA2.o.below aS.o).m.mA HJ.o;have oO:=cc.2.1;have AN:=cc.2.2.2;clear cc bQ he))
   rename_i hHeld
   have iY:=qh ((HA2.o.below aS.o).setAt HJ.o (x));clear hHeld y4 y1 z1 z2 z3 z6 oO AN hq1 hq2 hwx pC hv2 hv0 wM
   exact zQ30x2
 ·have hc1:(code==0)=false:=by simpa using hc0
  exact zQ30x0
end
end Go.Proofs.YtdnmhhohcedjbaaGreat
