/- Walks and plain lemmas. -/
import Derived.Test.YtimlpmbabbbcaaaGreatP15
set_option linter.unusedVariables false
set_option linter.unusedSimpArgs false
set_option maxHeartbeats 1000000
set_option maxRecDepth 20000
namespace Go.Proofs.YtimlpmbabbbcaaaGreat
open Go.RowKit
section
variable {tg:Nat→Nat}{a:bV}{s:aP}{D:Nat}{w:World}
theorem lU (w:World)(k d fb fa tb ta c r:Int):kO w.heap.size 0 k d fb fa tb ta c r (w.alloc (.cells #[.int .i64 k,.int .i64 d,.int .i64 fb,.int .i64 fa,.int .i64 tb,.int .i64 ta,.int .i64 c,.int .i64 r] 51)):=
 ⟨(j6 _ _ _ rfl 0).trans rfl,(j6 _ _ _ rfl _).trans rfl,(j6 _ _ _ rfl _).trans rfl,(j6 _ _ _ rfl _).trans rfl,(j6 _ _ _ rfl _).trans rfl,(j6 _ _ _ rfl _).trans rfl,(j6 _ _ _ rfl _).trans rfl,(j6 _ _ _ rfl _).trans rfl⟩
theorem Mem.eL (H:Mem tg a s w){b x:Int}(hx:0≤x)(hx1:x<s.W):w.cell? ⟨cA a b,x.toNat,none⟩=some (lR a b x):=by
 unfold cA lR
 split
 ·have h:=H.f x.toNat qo
  rwa[Nat.zero_add]at h
 ·have h:=H.k x.toNat qo
  rwa[Nat.zero_add]at h
theorem zP16x2 {p:Prop}(h:p:=by
 go_wp2_with ((go_at_call 101;refine(bA _ _ qo qo).mono ?_;rintro e w' ⟨rfl,rfl⟩))
 go_ret
 exact⟨by rw[HZ.o];rfl,HB1.o⟩):p:=h
theorem zP16x3 {p:Prop}(h:p:=by
 clear hfi
 go_wp2_with fail
 go_ret
 exact⟨by rw[HZ.o];rfl,HB1.o⟩):p:=h
theorem U8 {k d fb fa tb ta c r:Int}{j:Nat}(H:Mem tg a s w)(hs:d8 s D)(hp:gZ s.W k d fb fa tb ta c r j)(hk:k=3∨k=7∨k=8∨k=9):Calls Tryz.prog 63 #[.pointer (some ⟨a.g,0,none⟩),.agg #[.int .i64 k,.int .i64 d,.int .i64 fb,.int .i64 fa,.int .i64 tb,.int .i64 ta,.int .i64 c,.int .i64 r]] w fun e w'=>e=.returned (.int .i64 (cX s k d fb fa tb ta j))∧Below w.heap.size w w':=by
 have hg:Below w.heap.size w (w.alloc (.cells #[.int .i64 k,.int .i64 d,.int .i64 fb,.int .i64 fa,.int .i64 tb,.int .i64 ta,.int .i64 c,.int .i64 r] 51)):=qb;have HM:=qh (H.below hg);have HG:=qh hg;have dG:=lU w k d fb fa tb ta c r;have m0:=(show _=some (Value.int .i64 s.W)from HM.o.m.cell 0);have e3:=dG.c3;have e5:=dG.c5;have hf1:=hp.f1;have ht1:=hp.t1;have dE:=qh dG;have HS:=qh hs;have HP:=qh hp;obtain⟨code,hcode⟩:=qx (cX s k d fb fa tb ta j);rw[←hcode];have HC:=qh hcode;clear H hs hp hg dG hcode
 go_enter Tryz.func63,Tryz.ntmps63
 have d1:decide ((s.W:Int)≤fa)=false:=decide_eq_false qo;have d2:decide ((s.W:Int)≤ta)=false:=decide_eq_false qo
 go_wp2_with fail
 go_quiet (fail)
 rename_i nq
 have HB0:Hq (Below w.heap.size w ((w.alloc (.cells #[.int .i64 k,.int .i64 d,.int .i64 fb,.int .i64 fa,.int .i64 tb,.int .i64 ta,.int .i64 c,.int .i64 r] 51)).drewN nq)):=qh (Below.drewN' HG.o nq);have hfit:=BT (HM.o.drewN nq) HS.o HP.o;have HF:=qh hfit;clear hfit m0 e3 e5
 go_wp2_with fail
 refine HF.o.mono ?_;rintro e w1 ⟨rfl,hb1⟩;have HB1:=HB0.st hb1;have aT:Hq (kO w.heap.size 0 k d fb fa tb ta c r w1):=qh ((gN _ _ _ _ _ _ _ _ _ _).1 _ _ dE.o fun q hq=>by subst hq;exact hb1.block _ (World.block_lt_of_cell? _ _ dE.o.c0));clear hb1 HF;have e0:=aT.o.c0
 cases hfi:iL s k d fb fa j
 ·have HZ:=qh (show code=9 by rw[HC.o];unfold cX;rw[if_pos hfi])
  exact zP16x3
 ·have HZ:=qh (show code=0 by rw[HC.o];unfold cX;rw[hfi];rcases hk with rfl|rfl|rfl|rfl<;>simp[fP])
  clear hfi
  rcases hk with rfl|rfl|rfl|rfl
  all_goals
   exact zP16x2
theorem eu {d fb fa tb ta c r:Int}{j:Nat}(H:Mem tg a s w)(hs:d8 s D)(hp:gZ s.W 1 d fb fa tb ta c r j):Calls Tryz.prog 63 #[.pointer (some ⟨a.g,0,none⟩),.agg #[.int .i64 1,.int .i64 d,.int .i64 fb,.int .i64 fa,.int .i64 tb,.int .i64 ta,.int .i64 c,.int .i64 r]] w fun e w'=>e=.returned (.int .i64 (cX s 1 d fb fa tb ta j))∧Below w.heap.size w w':=by
 have hg:Below w.heap.size w (w.alloc (.cells #[.int .i64 1,.int .i64 d,.int .i64 fb,.int .i64 fa,.int .i64 tb,.int .i64 ta,.int .i64 c,.int .i64 r] 51)):=qb;have HM:=qh (H.below hg);have HG:=qh hg;have dG:=lU w 1 d fb fa tb ta c r;have m0:=(show _=some (Value.int .i64 s.W)from HM.o.m.cell 0);have e3:=dG.c3;have e5:=dG.c5;have hf1:=hp.f1;have ht1:=hp.t1;have dE:=qh dG;have HS:=qh hs;have HP:=qh hp;obtain⟨code,hcode⟩:=qx (cX s 1 d fb fa tb ta j);rw[←hcode];have HC:=qh hcode;clear H hs hp hg dG hcode
 go_enter Tryz.func63,Tryz.ntmps63
 have d1:decide ((s.W:Int)≤fa)=false:=decide_eq_false qo;have d2:decide ((s.W:Int)≤ta)=false:=decide_eq_false qo
 go_wp2_with fail
 go_quiet (fail)
 rename_i nq
 have HB0:Hq (Below w.heap.size w ((w.alloc (.cells #[.int .i64 1,.int .i64 d,.int .i64 fb,.int .i64 fa,.int .i64 tb,.int .i64 ta,.int .i64 c,.int .i64 r] 51)).drewN nq)):=qh (Below.drewN' HG.o nq);have hfit:=BT (HM.o.drewN nq) HS.o HP.o;have HF:=qh hfit;clear hfit m0 e3 e5
 go_wp2_with fail
 refine HF.o.mono ?_;rintro e w1 ⟨rfl,hb1⟩;have HB1:=HB0.st hb1;have aT:Hq (kO w.heap.size 0 1 d fb fa tb ta c r w1):=qh ((gN _ _ _ _ _ _ _ _ _ _).1 _ _ dE.o fun q hq=>by subst hq;exact hb1.block _ (World.block_lt_of_cell? _ _ dE.o.c0));have fJ:=qh hb1;clear hb1 HF;have e0:=aT.o.c0
 cases hfi:iL s 1 d fb fa j
 ·have HZ:=qh (show code=9 by rw[HC.o];unfold cX;rw[if_pos hfi])
  exact zP16x3
 ·have hm1:=HM.o.below (Below.trans (Below.drewN' (Below.refl _ _) nq) fJ.o)
  obtain⟨xl,hxl,_⟩:=hm1.l;obtain⟨AL,cL,zF⟩:=aE hxl;have m5:w1.cell? ⟨a.g,5,none⟩=some (.slice AL s.n cL):=(hm1.m.cell 5).trans (by rw[←zF];rfl);have hnb:=HS.o.nb;clear hm1 hxl zF fJ
  by_cases hn:s.n=300
  ·have HZ:=qh (show code=5 by rw[HC.o];unfold cX;rw[hfi];simp[fP,hn])
   clear hfi
   exact zP16x2
  ·have HZ:=qh (show code=0 by rw[HC.o];unfold cX;rw[hfi];simp[fP,hn])
   have hn':((s.n:Int)==300)=false:=by simp;omega
   clear hfi
   exact zP16x2
theorem zP16x1 {p:Prop}(h:p:=by
 go_wp2_with (first
  |(go_at_call 101;refine(bA _ _ qo qo).mono ?_;rintro e w' ⟨rfl,rfl⟩)
  |(go_at_call 102;refine(dJ fb fa fD.o j7 ha0 hf1).mono ?_;rintro e w2 ⟨rfl,hb2⟩;have kc:=(fD.o.below hb2).eL (b:=fb) ha0 hf1;rw[lF.o]at kc;have HB2:=HB1.st hb2;have e0':=((gN _ _ _ _ _ _ _ _ _ _).1 _ _ aT.o fun q hq=>by subst hq;exact hb2.block _ (World.block_lt_of_cell? _ _ aT.o.c0)).c0;clear hb2))
 go_ret
 exact⟨by rw[HZ.o];rfl,HB2.o⟩):p:=h
theorem fq {d fb fa tb ta c r:Int}{j:Nat}(H:Mem tg a s w)(hs:d8 s D)(j7:fb=1∨fb=2)(hp:gZ s.W 6 d fb fa tb ta c r j):Calls Tryz.prog 63 #[.pointer (some ⟨a.g,0,none⟩),.agg #[.int .i64 6,.int .i64 d,.int .i64 fb,.int .i64 fa,.int .i64 tb,.int .i64 ta,.int .i64 c,.int .i64 r]] w fun e w'=>e=.returned (.int .i64 (cX s 6 d fb fa tb ta j))∧Below w.heap.size w w':=by
 have hg:Below w.heap.size w (w.alloc (.cells #[.int .i64 6,.int .i64 d,.int .i64 fb,.int .i64 fa,.int .i64 tb,.int .i64 ta,.int .i64 c,.int .i64 r] 51)):=qb;have HM:=qh (H.below hg);have HG:=qh hg;have dG:=lU w 6 d fb fa tb ta c r;have m0:=(show _=some (Value.int .i64 s.W)from HM.o.m.cell 0);have e3:=dG.c3;have e5:=dG.c5;have hf1:=hp.f1;have ht1:=hp.t1;have dE:=qh dG;have HS:=qh hs;have HP:=qh hp;obtain⟨code,hcode⟩:=qx (cX s 6 d fb fa tb ta j);rw[←hcode];have HC:=qh hcode;clear H hs hp hg dG hcode
 go_enter Tryz.func63,Tryz.ntmps63
 have d1:decide ((s.W:Int)≤fa)=false:=decide_eq_false qo;have d2:decide ((s.W:Int)≤ta)=false:=decide_eq_false qo
 go_wp2_with fail
 go_quiet (fail)
 rename_i nq
 have HB0:Hq (Below w.heap.size w ((w.alloc (.cells #[.int .i64 6,.int .i64 d,.int .i64 fb,.int .i64 fa,.int .i64 tb,.int .i64 ta,.int .i64 c,.int .i64 r] 51)).drewN nq)):=qh (Below.drewN' HG.o nq);have hfit:=BT (HM.o.drewN nq) HS.o HP.o;have HF:=qh hfit;clear hfit m0 e3 e5
 go_wp2_with fail
 refine HF.o.mono ?_;rintro e w1 ⟨rfl,hb1⟩;have HB1:=HB0.st hb1;have aT:Hq (kO w.heap.size 0 6 d fb fa tb ta c r w1):=qh ((gN _ _ _ _ _ _ _ _ _ _).1 _ _ dE.o fun q hq=>by subst hq;exact hb1.block _ (World.block_lt_of_cell? _ _ dE.o.c0));have fJ:=qh hb1;clear hb1 HF;have e0:=aT.o.c0
 cases hfi:iL s 6 d fb fa j
 ·have HZ:=qh (show code=9 by rw[HC.o];unfold cX;rw[if_pos hfi])
  exact zP16x3
 ·have fD:=qh (HM.o.below (Below.trans (Below.drewN' (Below.refl _ _) nq) fJ.o))
  have ha0:=HP.o.f0;obtain⟨nf,hnf⟩:=qx (aU s fb fa);obtain⟨Af,cf,hvf⟩:=(fD.o.nP (b:=fb) ha0 hf1).form;rw[←hnf]at hvf;have jS:=qh hnf;have lF:=qh hvf;have h4:nf≤4:=by rw[hnf];exact cY HS.o ha0 hf1
  have e2:=aT.o.c2;have e3:=aT.o.c3;clear hnf hvf fJ
  by_cases hn:nf=0
  ·have HZ:=qh (show code=7 by rw[HC.o];unfold cX;rw[hfi,←jS.o];simp[fP,hn])
   clear hfi;subst hn
   exact zP16x1
  ·have HZ:=qh (show code=0 by rw[HC.o];unfold cX;rw[hfi,←jS.o];simp[fP,hn])
   have hn':((nf:Int)==0)=false:=by simp;omega
   clear hfi
   exact zP16x1
theorem dw {d fb fa tb ta c r:Int}{j:Nat}(H:Mem tg a s w)(hs:d8 s D)(j7:fb=1∨fb=2)(hp:gZ s.W 2 d fb fa tb ta c r j):Calls Tryz.prog 63 #[.pointer (some ⟨a.g,0,none⟩),.agg #[.int .i64 2,.int .i64 d,.int .i64 fb,.int .i64 fa,.int .i64 tb,.int .i64 ta,.int .i64 c,.int .i64 r]] w fun e w'=>e=.returned (.int .i64 (cX s 2 d fb fa tb ta j))∧Below w.heap.size w w':=by
 have hg:Below w.heap.size w (w.alloc (.cells #[.int .i64 2,.int .i64 d,.int .i64 fb,.int .i64 fa,.int .i64 tb,.int .i64 ta,.int .i64 c,.int .i64 r] 51)):=qb;have HM:=qh (H.below hg);have HG:=qh hg;have dG:=lU w 2 d fb fa tb ta c r;have m0:=(show _=some (Value.int .i64 s.W)from HM.o.m.cell 0);have e3:=dG.c3;have e5:=dG.c5;have hf1:=hp.f1;have ht1:=hp.t1;have dE:=qh dG;have HS:=qh hs;have HP:=qh hp;obtain⟨code,hcode⟩:=qx (cX s 2 d fb fa tb ta j);rw[←hcode];have HC:=qh hcode;clear H hs hp hg dG hcode
 go_enter Tryz.func63,Tryz.ntmps63
 have d1:decide ((s.W:Int)≤fa)=false:=decide_eq_false qo;have d2:decide ((s.W:Int)≤ta)=false:=decide_eq_false qo
 go_wp2_with fail
 go_quiet (fail)
 rename_i nq
 have HB0:Hq (Below w.heap.size w ((w.alloc (.cells #[.int .i64 2,.int .i64 d,.int .i64 fb,.int .i64 fa,.int .i64 tb,.int .i64 ta,.int .i64 c,.int .i64 r] 51)).drewN nq)):=qh (Below.drewN' HG.o nq);have hfit:=BT (HM.o.drewN nq) HS.o HP.o;have HF:=qh hfit;clear hfit m0 e3 e5
 go_wp2_with fail
 refine HF.o.mono ?_;rintro e w1 ⟨rfl,hb1⟩;have HB1:=HB0.st hb1;have aT:Hq (kO w.heap.size 0 2 d fb fa tb ta c r w1):=qh ((gN _ _ _ _ _ _ _ _ _ _).1 _ _ dE.o fun q hq=>by subst hq;exact hb1.block _ (World.block_lt_of_cell? _ _ dE.o.c0));have fJ:=qh hb1;clear hb1 HF;have e0:=aT.o.c0
 cases hfi:iL s 2 d fb fa j
 ·have HZ:=qh (show code=9 by rw[HC.o];unfold cX;rw[if_pos hfi])
  exact zP16x3
 ·have fD:=qh (HM.o.below (Below.trans (Below.drewN' (Below.refl _ _) nq) fJ.o))
  have ha0:=HP.o.f0;obtain⟨nf,hnf⟩:=qx (aU s fb fa);obtain⟨Af,cf,hvf⟩:=(fD.o.nP (b:=fb) ha0 hf1).form;rw[←hnf]at hvf;have jS:=qh hnf;have lF:=qh hvf;have h4:nf≤4:=by rw[hnf];exact cY HS.o ha0 hf1
  have e2:=aT.o.c2;have e3:=aT.o.c3;clear hnf hvf fJ;obtain⟨xl,hxl,_⟩:=fD.o.l;obtain⟨AL,cL,zF⟩:=aE hxl;have m5:w1.cell? ⟨a.g,5,none⟩=some (.slice AL s.n cL):=(fD.o.m.cell 5).trans (by rw[←zF];rfl);have hnb:=HS.o.nb;clear hxl zF
  by_cases hq:s.n=300
  ·have HZ:=qh (show code=5 by rw[HC.o];unfold cX;rw[hfi];simp[fP,hq])
   clear hfi
   exact zP16x2
  have hq':((s.n:Int)==300)=false:=by simp;omega
  by_cases hn:nf=4
  ·have HZ:=qh (show code=5 by rw[HC.o];unfold cX;rw[hfi,←jS.o];simp[fP,hn,hq])
   clear hfi;subst hn
   exact zP16x1
  ·have HZ:=qh (show code=0 by rw[HC.o];unfold cX;rw[hfi,←jS.o];simp[fP,hn,hq])
   have hn':((nf:Int)==4)=false:=by simp;omega
   clear hfi
   exact zP16x1
end
end Go.Proofs.YtimlpmbabbbcaaaGreat
namespace Go.Proofs.YtimlpmbabbbcaaaGreat
open Go.RowKit
section
variable {tg:Nat→Nat}{a:bV}{s:aP}{D:Nat}{w:World}
theorem zP16x0 {p:Prop}(h:p:=by
 go_wp2_with ((go_at_call 101;refine(bA _ _ qo qo).mono ?_;rintro e w' ⟨rfl,rfl⟩))
 refine ac1.o.mono ?_;rintro e w2 ⟨rfl,hb2⟩;have hb3:=(hb2.trans (((Below.refl _ _).alloc ql (.cells #[.int .i64 (3-fb),.int .i64 fx] 49)).mono hb2.size));have HB3:=HB1.st hb3;have cI:=qh ((gN _ _ _ _ _ _ _ _ _ _).1 _ _ aT.o fun q hq=>by subst hq;exact hb3.block _ (World.block_lt_of_cell? _ _ aT.o.c0));have iW:=qh (fD.o.below hb3);have g2:(w2.alloc (.cells #[.int .i64 (3-fb),.int .i64 fx] 49)).cell? ⟨w.heap.size,2,none⟩=some (.int .i64 fb):=cI.o.c2;have g3:(w2.alloc (.cells #[.int .i64 (3-fb),.int .i64 fx] 49)).cell? ⟨w.heap.size,3,none⟩=some (.int .i64 fa):=cI.o.c3;have g4:(w2.alloc (.cells #[.int .i64 (3-fb),.int .i64 fx] 49)).cell? ⟨w.heap.size,4,none⟩=some (.int .i64 (3-fb)):=cI.o.c4;have g5:(w2.alloc (.cells #[.int .i64 (3-fb),.int .i64 fx] 49)).cell? ⟨w.heap.size,5,none⟩=some (.int .i64 ta):=cI.o.c5;clear hb2 hb3 e0 e2 e3 e4 e5 m5;have O8:Hq (code=if¬(Wj=true∧fx=ta)then 8 else if nf=0 then 7 else if 4<nf+nt then 5 else 0):=qh (by rw[acv.o,ac0.o,HFX.o];simp)
 cases Wj
 ·have HZ:Hq (code=8):=qh (O8.o.trans qj)
  go_wp2_with fail
  go_ret
  exact⟨by rw[HZ.o];rfl,HB3.o⟩
 by_cases hft:fx=ta
 ·subst hft
  have O7:Hq (code=if nf=0 then 7 else if 4<nf+nt then 5 else 0):=qh (O8.o.trans qj)
  by_cases hn:nf=0
  ·subst hn
   have HZ:Hq (code=7):=qh (O7.o.trans qj)
   go_wp2_with (go_at_call 102;refine(dJ fb fa iW.o BM ha0 hf1).mono ?_;rintro e w4 ⟨rfl,hb4⟩;have kc:=(iW.o.below hb4).eL (b:=fb) ha0 hf1;rw[lF.o]at kc;have aW:=HB3.st hb4;clear hb4)
   go_ret
   exact⟨by rw[HZ.o];rfl,aW.o⟩
  ·have hn':((nf:Int)==0)=false:=by simp;omega
   go_wp2_with (go_at_call 102;refine(dJ fb fa iW.o BM ha0 hf1).mono ?_;rintro e w4 ⟨rfl,hb4⟩;have kc:=(iW.o.below hb4).eL (b:=fb) ha0 hf1;rw[lF.o]at kc;have aW:=HB3.st hb4;have bS:=qh ((gN _ _ _ _ _ _ _ _ _ _).1 _ _ cI.o fun q hq=>by subst hq;exact hb4.block _ (World.block_lt_of_cell? _ _ cI.o.c0));have fV:=qh (iW.o.below hb4);clear hb4)
   have x2:w4.cell? ⟨w.heap.size,2,none⟩=some (.int .i64 fb):=bS.o.c2;have x3:w4.cell? ⟨w.heap.size,3,none⟩=some (.int .i64 fa):=bS.o.c3;have x4:w4.cell? ⟨w.heap.size,4,none⟩=some (.int .i64 (3-fb)):=bS.o.c4;have x5:w4.cell? ⟨w.heap.size,5,none⟩=some (.int .i64 fx):=bS.o.c5;have kt:=fV.o.eL (b:=3-fb) gB ht1;rw[Q6.o]at kt;clear g2 g3 g4 g5;have rF:=qh (World.block_lt_of_cell? w4 _ x2);have rR:=qh (World.block_lt_of_cell? w4 _ kc);have iO:=qh (World.block_lt_of_cell? w4 _ kt);have HK:=qh (And.intro x2 (And.intro x3 (And.intro x4 (And.intro x5 (And.intro kc kt)))));have hws:IntKind.i64.wrap ((nf:Int)+nt)=(nf:Int)+nt:=by rw[IntKind.wrap_i64];omega
   go_region_held3 (fun w'=>w'.cell? ⟨w.heap.size,2,none⟩=some (.int .i64 fb)∧w'.cell? ⟨w.heap.size,3,none⟩=some (.int .i64 fa)∧w'.cell? ⟨w.heap.size,4,none⟩=some (.int .i64 (3-fb))∧w'.cell? ⟨w.heap.size,5,none⟩=some (.int .i64 fx)∧w'.cell? ⟨cA a fb,fa.toNat,none⟩=some (.slice Af nf cf)∧w'.cell? ⟨cA a (3-fb),fx.toNat,none⟩=some (.slice At nt ct)) (go_keep)
    (first
     |(go_at_call_of 102 fa;refine(dJ fb fa (fV.o.below ((Below.refl w4.heap.size w4).drew)) BM ha0 hf1).mono ?_;rintro e w6 ⟨rfl,hb6⟩;have bE:Hq (Below w4.heap.size w4 w6):=qh (((Below.refl w4.heap.size w4).drew).trans hb6);have y2:=((aC bE.o).1 _ 2 rF.o).trans HK.o.1;have y3:=((aC bE.o).1 _ 3 rF.o).trans HK.o.2.1;have y4:=((aC bE.o).1 _ 4 rF.o).trans HK.o.2.2.1;have y5:=((aC bE.o).1 _ 5 rF.o).trans HK.o.2.2.2.1;have yc:=((aC bE.o).1 _ _ rR.o).trans HK.o.2.2.2.2.1;have yt:=((aC bE.o).1 _ _ iO.o).trans HK.o.2.2.2.2.2;clear hb6 x2 x3 x4 x5 kc kt)
     |(go_at_call_of 102 fx;refine(dJ (3-fb) fx (fV.o.below bE.o) Dq gB ht1).mono ?_;rintro e w7 ⟨rfl,bM⟩;have aR:Hq (Below w4.heap.size w4 w7):=bE.st bM;have z2:=((aC aR.o).1 _ 2 rF.o).trans HK.o.1;have z3:=((aC aR.o).1 _ 3 rF.o).trans HK.o.2.1;have z4:=((aC aR.o).1 _ 4 rF.o).trans HK.o.2.2.1;have z5:=((aC aR.o).1 _ 5 rF.o).trans HK.o.2.2.2.1;have zc:=((aC aR.o).1 _ _ rR.o).trans HK.o.2.2.2.2.1;have zt:=((aC aR.o).1 _ _ iO.o).trans HK.o.2.2.2.2.2;clear bM y2 y3 y4 y5 yc yt))
   rename_i hHeld
   clear hHeld z2 z3 z4 z5 zc zt hws;have fW:=qh (aW.o.trans (aR.o.mono aW.o.size))
   by_cases hov:4<nf+nt
   ·have HZ:Hq (code=5):=qh (O7.o.trans (by simp[hn,hov]))
    go_wp2_with fail
    go_ret
    exact⟨by rw[HZ.o];rfl,fW.o⟩
   ·have HZ:Hq (code=0):=qh (O7.o.trans (by simp[hn,hov]))
    go_wp2_with fail
    go_ret
    exact⟨by rw[HZ.o];rfl,fW.o⟩
 ·have afF:(fx==ta)=false:=by simpa using hft
  have HZ:Hq (code=8):=qh (O8.o.trans (by simp[hft]))
  go_wp2_with fail
  go_ret
  exact⟨by rw[HZ.o];rfl,HB3.o⟩):p:=h
theorem dz {k d fb fa tb ta c r:Int}{j:Nat}(H:Mem tg a s w)(hs:d8 s D)(hk:k=4∨k=5)(j7:fb=1∧tb=2∨fb=2∧tb=1)(hp:gZ s.W k d fb fa tb ta c r j):Calls Tryz.prog 63 #[.pointer (some ⟨a.g,0,none⟩),.agg #[.int .i64 k,.int .i64 d,.int .i64 fb,.int .i64 fa,.int .i64 tb,.int .i64 ta,.int .i64 c,.int .i64 r]] w fun e w'=>e=.returned (.int .i64 (cX s k d fb fa tb ta j))∧Below w.heap.size w w':=by
 have hg:Below w.heap.size w (w.alloc (.cells #[.int .i64 k,.int .i64 d,.int .i64 fb,.int .i64 fa,.int .i64 tb,.int .i64 ta,.int .i64 c,.int .i64 r] 51)):=qb;have HM:=qh (H.below hg);have HG:=qh hg;have dG:=lU w k d fb fa tb ta c r;have m0:=(show _=some (Value.int .i64 s.W)from HM.o.m.cell 0);have e3:=dG.c3;have e5:=dG.c5;have hf1:=hp.f1;have ht1:=hp.t1;have BM:fb=1∨fb=2:=qo;have Dq:tb=1∨tb=2:=qo;have CL:=qh j7;have afG:=hp.f0;have gB:=hp.t0;have hw2:=hs.w2;have hr1:=hs.r1;have hr2:=hs.r2;clear j7;have dE:=qh dG;have HS:=qh hs;have HP:=qh hp;obtain⟨code,hcode⟩:=qx (cX s k d fb fa tb ta j);rw[←hcode];have HC:=qh hcode;clear H hs hp hg dG hcode
 go_enter Tryz.func63,Tryz.ntmps63
 have d1:decide ((s.W:Int)≤fa)=false:=decide_eq_false qo;have d2:decide ((s.W:Int)≤ta)=false:=decide_eq_false qo
 go_wp2_with fail
 go_quiet (fail)
 rename_i nq
 have HB0:Hq (Below w.heap.size w ((w.alloc (.cells #[.int .i64 k,.int .i64 d,.int .i64 fb,.int .i64 fa,.int .i64 tb,.int .i64 ta,.int .i64 c,.int .i64 r] 51)).drewN nq)):=qh (Below.drewN' HG.o nq);have hfit:=BT (HM.o.drewN nq) HS.o HP.o;have HF:=qh hfit;clear hfit m0 e3 e5
 go_wp2_with fail
 refine HF.o.mono ?_;rintro e w1 ⟨rfl,hb1⟩;have HB1:=HB0.st hb1;have aT:Hq (kO w.heap.size 0 k d fb fa tb ta c r w1):=qh ((gN _ _ _ _ _ _ _ _ _ _).1 _ _ dE.o fun q hq=>by subst hq;exact hb1.block _ (World.block_lt_of_cell? _ _ dE.o.c0));have fJ:=qh hb1;clear hb1 HF;have e0:=aT.o.c0
 cases hfi:iL s k d fb fa j
 ·have HZ:=qh (show code=9 by rw[HC.o];unfold cX;rw[if_pos hfi])
  exact zP16x3
 ·have fD:=qh (HM.o.below (Below.trans (Below.drewN' (Below.refl _ _) nq) fJ.o))
  have ha0:=HP.o.f0;obtain⟨nf,hnf⟩:=qx (aU s fb fa);obtain⟨Af,cf,hvf⟩:=(fD.o.nP (b:=fb) ha0 hf1).form;rw[←hnf]at hvf;have jS:=qh hnf;have lF:=qh hvf;have h4:nf≤4:=by rw[hnf];exact cY HS.o ha0 hf1
  obtain⟨nt,hnt⟩:=qx (aU s tb ta);obtain⟨At,ct,JJ⟩:=(fD.o.nP (b:=tb) gB ht1).form;rw[←hnt]at JJ;have TN:=qh hnt;have Q6:=qh JJ;have h4t:nt≤4:=by rw[hnt];exact cY HS.o gB ht1
  have e2:=aT.o.c2;have e3:=aT.o.c3;have e4:=aT.o.c4;have e5:=aT.o.c5;clear hnf hvf hnt JJ fJ;obtain⟨xl,hxl,_⟩:=fD.o.l;obtain⟨AL,cL,zF⟩:=aE hxl;have m5:w1.cell? ⟨a.g,5,none⟩=some (.slice AL s.n cL):=(fD.o.m.cell 5).trans (by rw[←zF];rfl);have hnb:=HS.o.nb;clear hxl zF;have Tv:Hq (code=if fP k=true∧s.n=300 then 5 else if¬(aJ (pK fb fa s.rk) 0 ((s.W:Int)-1)=true∧3-fb=tb∧pK fb fa s.rk=ta)then 8 else if nf=0 then 7 else if 4<nf+nt then 5 else 0):=qh (by
   rw[HC.o,jS.o,TN.o];unfold cX;rw[hfi]
   rcases hk with rfl|rfl<;>simp)
  clear hfi
  by_cases hq:fP k=true∧s.n=300
  ·have HZ:=qh (Tv.o.trans (if_pos hq))
   obtain⟨hq1,hq2⟩:=hq
   rcases hk with rfl|rfl
   ·simp[fP]at hq1
   clear hq1
   exact zP16x2
  have acv:=qh (Tv.o.trans (if_neg hq));have hq':fP k=true→((s.n:Int)==300)=false:=fun h=>by simp;intro h';exact hq ⟨h,by omega⟩
  clear hq Tv;have RO:=Eb (D:=D) fb fa fD.o HS.o BM afG hf1;obtain⟨fx,hfx⟩:=qx (pK fb fa s.rk);obtain⟨Wj,Du⟩:=qx (aJ fx 0 ((s.W:Int)-1));rw[←hfx,←Du]at RO;rw[hfx]at Du;have ac1:=qh RO;have HFX:=qh hfx;have ac0:=qh Du;clear RO hfx Du;obtain rfl:tb=3-fb:=by have:=CL.o;omega
  rcases hk with rfl|rfl
  ·clear hq'
   have hmb:fP 4=false:=rfl
   exact zP16x0
  ·have tq:=hq' rfl
   clear hq';have hmb:fP 5=true:=rfl
   exact zP16x0
end
end Go.Proofs.YtimlpmbabbbcaaaGreat
