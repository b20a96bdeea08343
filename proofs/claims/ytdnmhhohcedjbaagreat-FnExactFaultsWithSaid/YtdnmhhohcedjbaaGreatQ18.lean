/- Walks and plain lemmas. -/
import Derived.Test.YtdnmhhohcedjbaaGreatQ16
set_option linter.unusedVariables false
set_option linter.unusedSimpArgs false
set_option maxHeartbeats 1000000
set_option maxRecDepth 20000
namespace Go.Proofs.YtdnmhhohcedjbaaGreat
open Go.RowKit
section
variable {tg:Nat→Nat}{a:bC}{s:aI}{D:Nat}{w:World}
theorem kT (w:World)(k d fb fa tb ta c r:Int):gI w.heap.size 0 k d fb fa tb ta c r (w.alloc (.cells #[.int .i64 k,.int .i64 d,.int .i64 fb,.int .i64 fa,.int .i64 tb,.int .i64 ta,.int .i64 c,.int .i64 r] 67)):=
 ⟨(iE _ _ _ rfl 0).trans rfl,(iE _ _ _ rfl _).trans rfl,(iE _ _ _ rfl _).trans rfl,(iE _ _ _ rfl _).trans rfl,(iE _ _ _ rfl _).trans rfl,(iE _ _ _ rfl _).trans rfl,(iE _ _ _ rfl _).trans rfl,(iE _ _ _ rfl _).trans rfl⟩
theorem Mem.dE (H:Mem tg a s w){b x:Int}(hx:0≤x)(hx1:x<s.W):w.cell? ⟨bO a b,x.toNat,none⟩=some (kO a b x):=by
 unfold bO kO
 split
 ·have h:=H.f x.toNat qo
  rwa[Nat.zero_add]at h
 ·have h:=H.k x.toNat qo
  rwa[Nat.zero_add]at h
theorem zQ18x2 {p:Prop}(h:p:=by
 go_wp2_with ((go_at_call 67;refine(aU _ _ qo qo).mono ?_;rintro e w' ⟨rfl,rfl⟩))
 go_ret
 exact⟨by rw[HZ.o];rfl,HB1.o⟩):p:=h
theorem zQ18x3 {p:Prop}(h:p:=by
 clear hfi
 go_wp2_with fail
 go_ret
 exact⟨by rw[HZ.o];rfl,HB1.o⟩):p:=h
theorem U7 {k d fb fa tb ta c r:Int}{j:Nat}(H:Mem tg a s w)(hs:bW s D)(hp:fP s.W k d fb fa tb ta c r j)(hk:k=3∨k=7∨k=8∨k=9):Calls Tryz.prog 98 #[.pointer (some ⟨a.g,0,none⟩),.agg #[.int .i64 k,.int .i64 d,.int .i64 fb,.int .i64 fa,.int .i64 tb,.int .i64 ta,.int .i64 c,.int .i64 r]] w fun e w'=>e=.returned (.int .i64 (bY s k d fb fa tb ta j))∧Below w.heap.size w w':=by
 have hg:Below w.heap.size w (w.alloc (.cells #[.int .i64 k,.int .i64 d,.int .i64 fb,.int .i64 fa,.int .i64 tb,.int .i64 ta,.int .i64 c,.int .i64 r] 67)):=qb;have HM:=qh (H.below hg);have HG:=qh hg;have cM:=kT w k d fb fa tb ta c r;have m0:=(show _=some (Value.int .i64 s.W)from HM.o.m.cell 0);have e3:=cM.c3;have e5:=cM.c5;have hf1:=hp.f1;have ht1:=hp.t1;have bA:=qh cM;have HS:=qh hs;have HP:=qh hp;obtain⟨code,hcode⟩:=qx (bY s k d fb fa tb ta j);rw[←hcode];have HC:=qh hcode;clear H hs hp hg cM hcode
 go_enter Tryz.func98,Tryz.ntmps98
 have d1:decide ((s.W:Int)≤fa)=false:=decide_eq_false qo;have d2:decide ((s.W:Int)≤ta)=false:=decide_eq_false qo
 go_wp2_with fail
 go_quiet (fail)
 rename_i nq
 have HB0:Hq (Below w.heap.size w ((w.alloc (.cells #[.int .i64 k,.int .i64 d,.int .i64 fb,.int .i64 fa,.int .i64 tb,.int .i64 ta,.int .i64 c,.int .i64 r] 67)).drewN nq)):=qh (Below.drewN' HG.o nq);have hfit:=AA (HM.o.drewN nq) HS.o HP.o;have HF:=qh hfit;clear hfit m0 e3 e5
 go_wp2_with fail
 refine HF.o.mono ?_;rintro e w1 ⟨rfl,hb1⟩;have HB1:=HB0.st hb1;have aO:Hq (gI w.heap.size 0 k d fb fa tb ta c r w1):=qh ((dA _ _ _ _ _ _ _ _ _ _).1 _ _ bA.o fun q hq=>by subst hq;exact hb1.block _ (World.block_lt_of_cell? _ _ bA.o.c0));clear hb1 HF;have e0:=aO.o.c0
 cases hfi:gS s k d fb fa j
 ·have HZ:=qh (show code=9 by rw[HC.o];unfold bY;rw[if_pos hfi])
  exact zQ18x3
 ·have HZ:=qh (show code=0 by rw[HC.o];unfold bY;rw[hfi];rcases hk with rfl|rfl|rfl|rfl<;>simp[eM])
  clear hfi
  rcases hk with rfl|rfl|rfl|rfl
  all_goals
   exact zQ18x2
theorem jd {d fb fa tb ta c r:Int}{j:Nat}(H:Mem tg a s w)(hs:bW s D)(hp:fP s.W 1 d fb fa tb ta c r j):Calls Tryz.prog 98 #[.pointer (some ⟨a.g,0,none⟩),.agg #[.int .i64 1,.int .i64 d,.int .i64 fb,.int .i64 fa,.int .i64 tb,.int .i64 ta,.int .i64 c,.int .i64 r]] w fun e w'=>e=.returned (.int .i64 (bY s 1 d fb fa tb ta j))∧Below w.heap.size w w':=by
 have hg:Below w.heap.size w (w.alloc (.cells #[.int .i64 1,.int .i64 d,.int .i64 fb,.int .i64 fa,.int .i64 tb,.int .i64 ta,.int .i64 c,.int .i64 r] 67)):=qb;have HM:=qh (H.below hg);have HG:=qh hg;have cM:=kT w 1 d fb fa tb ta c r;have m0:=(show _=some (Value.int .i64 s.W)from HM.o.m.cell 0);have e3:=cM.c3;have e5:=cM.c5;have hf1:=hp.f1;have ht1:=hp.t1;have bA:=qh cM;have HS:=qh hs;have HP:=qh hp;obtain⟨code,hcode⟩:=qx (bY s 1 d fb fa tb ta j);rw[←hcode];have HC:=qh hcode;clear H hs hp hg cM hcode
 go_enter Tryz.func98,Tryz.ntmps98
 have d1:decide ((s.W:Int)≤fa)=false:=decide_eq_false qo;have d2:decide ((s.W:Int)≤ta)=false:=decide_eq_false qo
 go_wp2_with fail
 go_quiet (fail)
 rename_i nq
 have HB0:Hq (Below w.heap.size w ((w.alloc (.cells #[.int .i64 1,.int .i64 d,.int .i64 fb,.int .i64 fa,.int .i64 tb,.int .i64 ta,.int .i64 c,.int .i64 r] 67)).drewN nq)):=qh (Below.drewN' HG.o nq);have hfit:=AA (HM.o.drewN nq) HS.o HP.o;have HF:=qh hfit;clear hfit m0 e3 e5
 go_wp2_with fail
 refine HF.o.mono ?_;rintro e w1 ⟨rfl,hb1⟩;have HB1:=HB0.st hb1;have aO:Hq (gI w.heap.size 0 1 d fb fa tb ta c r w1):=qh ((dA _ _ _ _ _ _ _ _ _ _).1 _ _ bA.o fun q hq=>by subst hq;exact hb1.block _ (World.block_lt_of_cell? _ _ bA.o.c0));have cS:=qh hb1;clear hb1 HF;have e0:=aO.o.c0
 cases hfi:gS s 1 d fb fa j
 ·have HZ:=qh (show code=9 by rw[HC.o];unfold bY;rw[if_pos hfi])
  exact zQ18x3
 ·have hm1:=HM.o.below (Below.trans (Below.drewN' (Below.refl _ _) nq) cS.o)
  obtain⟨xl,hxl,_⟩:=hm1.l;obtain⟨AL,cL,iG⟩:=aF hxl;have m5:w1.cell? ⟨a.g,5,none⟩=some (.slice AL s.n cL):=(hm1.m.cell 5).trans (by rw[←iG];rfl);have hnb:=HS.o.nb;clear hm1 hxl iG cS
  by_cases hn:s.n=300
  ·have HZ:=qh (show code=5 by rw[HC.o];unfold bY;rw[hfi];simp[eM,hn])
   clear hfi
   exact zQ18x2
  ·have HZ:=qh (show code=0 by rw[HC.o];unfold bY;rw[hfi];simp[eM,hn])
   have hn':((s.n:Int)==300)=false:=by simp;omega
   clear hfi
   exact zQ18x2
theorem zQ18x1 {p:Prop}(h:p:=by
 go_wp2_with (first
  |(go_at_call 67;refine(aU _ _ qo qo).mono ?_;rintro e w' ⟨rfl,rfl⟩)
  |(go_at_call 124;refine(cG fb fa bZ.o fB ha0 hf1).mono ?_;rintro e w2 ⟨rfl,hb2⟩;have kc:=(bZ.o.below hb2).dE (b:=fb) ha0 hf1;rw[jV.o]at kc;have HB2:=HB1.st hb2;have e0':=((dA _ _ _ _ _ _ _ _ _ _).1 _ _ aO.o fun q hq=>by subst hq;exact hb2.block _ (World.block_lt_of_cell? _ _ aO.o.c0)).c0;clear hb2))
 go_ret
 exact⟨by rw[HZ.o];rfl,HB2.o⟩):p:=h
theorem je {d fb fa tb ta c r:Int}{j:Nat}(H:Mem tg a s w)(hs:bW s D)(fB:fb=1∨fb=2)(hp:fP s.W 6 d fb fa tb ta c r j):Calls Tryz.prog 98 #[.pointer (some ⟨a.g,0,none⟩),.agg #[.int .i64 6,.int .i64 d,.int .i64 fb,.int .i64 fa,.int .i64 tb,.int .i64 ta,.int .i64 c,.int .i64 r]] w fun e w'=>e=.returned (.int .i64 (bY s 6 d fb fa tb ta j))∧Below w.heap.size w w':=by
 have hg:Below w.heap.size w (w.alloc (.cells #[.int .i64 6,.int .i64 d,.int .i64 fb,.int .i64 fa,.int .i64 tb,.int .i64 ta,.int .i64 c,.int .i64 r] 67)):=qb;have HM:=qh (H.below hg);have HG:=qh hg;have cM:=kT w 6 d fb fa tb ta c r;have m0:=(show _=some (Value.int .i64 s.W)from HM.o.m.cell 0);have e3:=cM.c3;have e5:=cM.c5;have hf1:=hp.f1;have ht1:=hp.t1;have bA:=qh cM;have HS:=qh hs;have HP:=qh hp;obtain⟨code,hcode⟩:=qx (bY s 6 d fb fa tb ta j);rw[←hcode];have HC:=qh hcode;clear H hs hp hg cM hcode
 go_enter Tryz.func98,Tryz.ntmps98
 have d1:decide ((s.W:Int)≤fa)=false:=decide_eq_false qo;have d2:decide ((s.W:Int)≤ta)=false:=decide_eq_false qo
 go_wp2_with fail
 go_quiet (fail)
 rename_i nq
 have HB0:Hq (Below w.heap.size w ((w.alloc (.cells #[.int .i64 6,.int .i64 d,.int .i64 fb,.int .i64 fa,.int .i64 tb,.int .i64 ta,.int .i64 c,.int .i64 r] 67)).drewN nq)):=qh (Below.drewN' HG.o nq);have hfit:=AA (HM.o.drewN nq) HS.o HP.o;have HF:=qh hfit;clear hfit m0 e3 e5
 go_wp2_with fail
 refine HF.o.mono ?_;rintro e w1 ⟨rfl,hb1⟩;have HB1:=HB0.st hb1;have aO:Hq (gI w.heap.size 0 6 d fb fa tb ta c r w1):=qh ((dA _ _ _ _ _ _ _ _ _ _).1 _ _ bA.o fun q hq=>by subst hq;exact hb1.block _ (World.block_lt_of_cell? _ _ bA.o.c0));have cS:=qh hb1;clear hb1 HF;have e0:=aO.o.c0
 cases hfi:gS s 6 d fb fa j
 ·have HZ:=qh (show code=9 by rw[HC.o];unfold bY;rw[if_pos hfi])
  exact zQ18x3
 ·have bZ:=qh (HM.o.below (Below.trans (Below.drewN' (Below.refl _ _) nq) cS.o))
  have ha0:=HP.o.f0;obtain⟨nf,hnf⟩:=qx (aM s fb fa);obtain⟨Af,cf,hvf⟩:=(bZ.o.lU (b:=fb) ha0 hf1).form;rw[←hnf]at hvf;have iQ:=qh hnf;have jV:=qh hvf;have h4:nf≤4:=by rw[hnf];exact bT HS.o ha0 hf1
  have e2:=aO.o.c2;have e3:=aO.o.c3;clear hnf hvf cS
  by_cases hn:nf=0
  ·have HZ:=qh (show code=7 by rw[HC.o];unfold bY;rw[hfi,←iQ.o];simp[eM,hn])
   clear hfi;subst hn
   exact zQ18x1
  ·have HZ:=qh (show code=0 by rw[HC.o];unfold bY;rw[hfi,←iQ.o];simp[eM,hn])
   have hn':((nf:Int)==0)=false:=by simp;omega
   clear hfi
   exact zQ18x1
theorem iy {d fb fa tb ta c r:Int}{j:Nat}(H:Mem tg a s w)(hs:bW s D)(fB:fb=1∨fb=2)(hp:fP s.W 2 d fb fa tb ta c r j):Calls Tryz.prog 98 #[.pointer (some ⟨a.g,0,none⟩),.agg #[.int .i64 2,.int .i64 d,.int .i64 fb,.int .i64 fa,.int .i64 tb,.int .i64 ta,.int .i64 c,.int .i64 r]] w fun e w'=>e=.returned (.int .i64 (bY s 2 d fb fa tb ta j))∧Below w.heap.size w w':=by
 have hg:Below w.heap.size w (w.alloc (.cells #[.int .i64 2,.int .i64 d,.int .i64 fb,.int .i64 fa,.int .i64 tb,.int .i64 ta,.int .i64 c,.int .i64 r] 67)):=qb;have HM:=qh (H.below hg);have HG:=qh hg;have cM:=kT w 2 d fb fa tb ta c r;have m0:=(show _=some (Value.int .i64 s.W)from HM.o.m.cell 0);have e3:=cM.c3;have e5:=cM.c5;have hf1:=hp.f1;have ht1:=hp.t1;have bA:=qh cM;have HS:=qh hs;have HP:=qh hp;obtain⟨code,hcode⟩:=qx (bY s 2 d fb fa tb ta j);rw[←hcode];have HC:=qh hcode;clear H hs hp hg cM hcode
 go_enter Tryz.func98,Tryz.ntmps98
 have d1:decide ((s.W:Int)≤fa)=false:=decide_eq_false qo;have d2:decide ((s.W:Int)≤ta)=false:=decide_eq_false qo
 go_wp2_with fail
 go_quiet (fail)
 rename_i nq
 have HB0:Hq (Below w.heap.size w ((w.alloc (.cells #[.int .i64 2,.int .i64 d,.int .i64 fb,.int .i64 fa,.int .i64 tb,.int .i64 ta,.int .i64 c,.int .i64 r] 67)).drewN nq)):=qh (Below.drewN' HG.o nq);have hfit:=AA (HM.o.drewN nq) HS.o HP.o;have HF:=qh hfit;clear hfit m0 e3 e5
 go_wp2_with fail
 refine HF.o.mono ?_;rintro e w1 ⟨rfl,hb1⟩;have HB1:=HB0.st hb1;have aO:Hq (gI w.heap.size 0 2 d fb fa tb ta c r w1):=qh ((dA _ _ _ _ _ _ _ _ _ _).1 _ _ bA.o fun q hq=>by subst hq;exact hb1.block _ (World.block_lt_of_cell? _ _ bA.o.c0));have cS:=qh hb1;clear hb1 HF;have e0:=aO.o.c0
 cases hfi:gS s 2 d fb fa j
 ·have HZ:=qh (show code=9 by rw[HC.o];unfold bY;rw[if_pos hfi])
  exact zQ18x3
 ·have bZ:=qh (HM.o.below (Below.trans (Below.drewN' (Below.refl _ _) nq) cS.o))
  have ha0:=HP.o.f0;obtain⟨nf,hnf⟩:=qx (aM s fb fa);obtain⟨Af,cf,hvf⟩:=(bZ.o.lU (b:=fb) ha0 hf1).form;rw[←hnf]at hvf;have iQ:=qh hnf;have jV:=qh hvf;have h4:nf≤4:=by rw[hnf];exact bT HS.o ha0 hf1
  have e2:=aO.o.c2;have e3:=aO.o.c3;clear hnf hvf cS;obtain⟨xl,hxl,_⟩:=bZ.o.l;obtain⟨AL,cL,iG⟩:=aF hxl;have m5:w1.cell? ⟨a.g,5,none⟩=some (.slice AL s.n cL):=(bZ.o.m.cell 5).trans (by rw[←iG];rfl);have hnb:=HS.o.nb;clear hxl iG
  by_cases hq:s.n=300
  ·have HZ:=qh (show code=5 by rw[HC.o];unfold bY;rw[hfi];simp[eM,hq])
   clear hfi
   exact zQ18x2
  have hq':((s.n:Int)==300)=false:=by simp;omega
  by_cases hn:nf=4
  ·have HZ:=qh (show code=5 by rw[HC.o];unfold bY;rw[hfi,←iQ.o];simp[eM,hn,hq])
   clear hfi;subst hn
   exact zQ18x1
  ·have HZ:=qh (show code=0 by rw[HC.o];unfold bY;rw[hfi,←iQ.o];simp[eM,hn,hq])
   have hn':((nf:Int)==4)=false:=by simp;omega
   clear hfi
   exact zQ18x1
end
end Go.Proofs.YtdnmhhohcedjbaaGreat
namespace Go.Proofs.YtdnmhhohcedjbaaGreat
open Go.RowKit
section
variable {tg:Nat→Nat}{a:bC}{s:aI}{D:Nat}{w:World}
theorem zQ18x0 {p:Prop}(h:p:=by
 go_wp2_with ((go_at_call 67;refine(aU _ _ qo qo).mono ?_;rintro e w' ⟨rfl,rfl⟩))
 refine aeM.o.mono ?_;rintro e w2 ⟨rfl,hb2⟩;have hb3:=(hb2.trans (((Below.refl _ _).alloc ql (.cells #[.int .i64 (3-fb),.int .i64 fx] 65)).mono hb2.size));have HB3:=HB1.st hb3;have bS:=qh ((dA _ _ _ _ _ _ _ _ _ _).1 _ _ aO.o fun q hq=>by subst hq;exact hb3.block _ (World.block_lt_of_cell? _ _ aO.o.c0));have nH:=qh (bZ.o.below hb3);have g2:(w2.alloc (.cells #[.int .i64 (3-fb),.int .i64 fx] 65)).cell? ⟨w.heap.size,2,none⟩=some (.int .i64 fb):=bS.o.c2;have g3:(w2.alloc (.cells #[.int .i64 (3-fb),.int .i64 fx] 65)).cell? ⟨w.heap.size,3,none⟩=some (.int .i64 fa):=bS.o.c3;have g4:(w2.alloc (.cells #[.int .i64 (3-fb),.int .i64 fx] 65)).cell? ⟨w.heap.size,4,none⟩=some (.int .i64 (3-fb)):=bS.o.c4;have g5:(w2.alloc (.cells #[.int .i64 (3-fb),.int .i64 fx] 65)).cell? ⟨w.heap.size,5,none⟩=some (.int .i64 ta):=bS.o.c5;clear hb2 hb3 e0 e2 e3 e4 e5 m5;have N4:Hq (code=if¬(Yu=true∧fx=ta)then 8 else if nf=0 then 7 else if 4<nf+nt then 5 else 0):=qh (by rw[aei.o,aeL.o,HFX.o];simp)
 cases Yu
 ·have HZ:Hq (code=8):=qh (N4.o.trans qj)
  go_wp2_with fail
  go_ret
  exact⟨by rw[HZ.o];rfl,HB3.o⟩
 by_cases hft:fx=ta
 ·subst hft
  have N3:Hq (code=if nf=0 then 7 else if 4<nf+nt then 5 else 0):=qh (N4.o.trans qj)
  by_cases hn:nf=0
  ·subst hn
   have HZ:Hq (code=7):=qh (N3.o.trans qj)
   go_wp2_with (go_at_call 124;refine(cG fb fa nH.o zT ha0 hf1).mono ?_;rintro e w4 ⟨rfl,hb4⟩;have kc:=(nH.o.below hb4).dE (b:=fb) ha0 hf1;rw[jV.o]at kc;have aR:=HB3.st hb4;clear hb4)
   go_ret
   exact⟨by rw[HZ.o];rfl,aR.o⟩
  ·have hn':((nf:Int)==0)=false:=by simp;omega
   go_wp2_with (go_at_call 124;refine(cG fb fa nH.o zT ha0 hf1).mono ?_;rintro e w4 ⟨rfl,hb4⟩;have kc:=(nH.o.below hb4).dE (b:=fb) ha0 hf1;rw[jV.o]at kc;have aR:=HB3.st hb4;have bP:=qh ((dA _ _ _ _ _ _ _ _ _ _).1 _ _ bS.o fun q hq=>by subst hq;exact hb4.block _ (World.block_lt_of_cell? _ _ bS.o.c0));have fQ:=qh (nH.o.below hb4);clear hb4)
   have x2:w4.cell? ⟨w.heap.size,2,none⟩=some (.int .i64 fb):=bP.o.c2;have x3:w4.cell? ⟨w.heap.size,3,none⟩=some (.int .i64 fa):=bP.o.c3;have x4:w4.cell? ⟨w.heap.size,4,none⟩=some (.int .i64 (3-fb)):=bP.o.c4;have x5:w4.cell? ⟨w.heap.size,5,none⟩=some (.int .i64 fx):=bP.o.c5;have kt:=fQ.o.dE (b:=3-fb) fC ht1;rw[PL.o]at kt;clear g2 g3 g4 g5;have rB:=qh (World.block_lt_of_cell? w4 _ x2);have rC:=qh (World.block_lt_of_cell? w4 _ kc);have dC:=qh (World.block_lt_of_cell? w4 _ kt);have HK:=qh (And.intro x2 (And.intro x3 (And.intro x4 (And.intro x5 (And.intro kc kt)))));have hws:IntKind.i64.wrap ((nf:Int)+nt)=(nf:Int)+nt:=by rw[IntKind.wrap_i64];omega
   go_region_held3 (fun w'=>w'.cell? ⟨w.heap.size,2,none⟩=some (.int .i64 fb)∧w'.cell? ⟨w.heap.size,3,none⟩=some (.int .i64 fa)∧w'.cell? ⟨w.heap.size,4,none⟩=some (.int .i64 (3-fb))∧w'.cell? ⟨w.heap.size,5,none⟩=some (.int .i64 fx)∧w'.cell? ⟨bO a fb,fa.toNat,none⟩=some (.slice Af nf cf)∧w'.cell? ⟨bO a (3-fb),fx.toNat,none⟩=some (.slice At nt ct)) (go_keep)
    (first
     |(go_at_call_of 124 fa;refine(cG fb fa (fQ.o.below ((Below.refl w4.heap.size w4).drew)) zT ha0 hf1).mono ?_;rintro e w6 ⟨rfl,hb6⟩;have bG:Hq (Below w4.heap.size w4 w6):=qh (((Below.refl w4.heap.size w4).drew).trans hb6);have y2:=((aA bG.o).1 _ 2 rB.o).trans HK.o.1;have y3:=((aA bG.o).1 _ 3 rB.o).trans HK.o.2.1;have y4:=((aA bG.o).1 _ 4 rB.o).trans HK.o.2.2.1;have y5:=((aA bG.o).1 _ 5 rB.o).trans HK.o.2.2.2.1;have yc:=((aA bG.o).1 _ _ rC.o).trans HK.o.2.2.2.2.1;have yt:=((aA bG.o).1 _ _ dC.o).trans HK.o.2.2.2.2.2;clear hb6 x2 x3 x4 x5 kc kt)
     |(go_at_call_of 124 fx;refine(cG (3-fb) fx (fQ.o.below bG.o) Eb fC ht1).mono ?_;rintro e w7 ⟨rfl,bQ⟩;have aS:Hq (Below w4.heap.size w4 w7):=bG.st bQ;have z2:=((aA aS.o).1 _ 2 rB.o).trans HK.o.1;have z3:=((aA aS.o).1 _ 3 rB.o).trans HK.o.2.1;have z4:=((aA aS.o).1 _ 4 rB.o).trans HK.o.2.2.1;have z5:=((aA aS.o).1 _ 5 rB.o).trans HK.o.2.2.2.1;have zc:=((aA aS.o).1 _ _ rC.o).trans HK.o.2.2.2.2.1;have zt:=((aA aS.o).1 _ _ dC.o).trans HK.o.2.2.2.2.2;clear bQ y2 y3 y4 y5 yc yt))
   rename_i hHeld
   clear hHeld z2 z3 z4 z5 zc zt hws;have dU:=qh (aR.o.trans (aS.o.mono aR.o.size))
   by_cases hov:4<nf+nt
   ·have HZ:Hq (code=5):=qh (N3.o.trans (by simp[hn,hov]))
    go_wp2_with fail
    go_ret
    exact⟨by rw[HZ.o];rfl,dU.o⟩
   ·have HZ:Hq (code=0):=qh (N3.o.trans (by simp[hn,hov]))
    go_wp2_with fail
    go_ret
    exact⟨by rw[HZ.o];rfl,dU.o⟩
 ·have ahL:(fx==ta)=false:=by simpa using hft
  have HZ:Hq (code=8):=qh (N4.o.trans (by simp[hft]))
  go_wp2_with fail
  go_ret
  exact⟨by rw[HZ.o];rfl,HB3.o⟩):p:=h
theorem jc {k d fb fa tb ta c r:Int}{j:Nat}(H:Mem tg a s w)(hs:bW s D)(hk:k=4∨k=5)(fB:fb=1∧tb=2∨fb=2∧tb=1)(hp:fP s.W k d fb fa tb ta c r j):Calls Tryz.prog 98 #[.pointer (some ⟨a.g,0,none⟩),.agg #[.int .i64 k,.int .i64 d,.int .i64 fb,.int .i64 fa,.int .i64 tb,.int .i64 ta,.int .i64 c,.int .i64 r]] w fun e w'=>e=.returned (.int .i64 (bY s k d fb fa tb ta j))∧Below w.heap.size w w':=by
 have hg:Below w.heap.size w (w.alloc (.cells #[.int .i64 k,.int .i64 d,.int .i64 fb,.int .i64 fa,.int .i64 tb,.int .i64 ta,.int .i64 c,.int .i64 r] 67)):=qb;have HM:=qh (H.below hg);have HG:=qh hg;have cM:=kT w k d fb fa tb ta c r;have m0:=(show _=some (Value.int .i64 s.W)from HM.o.m.cell 0);have e3:=cM.c3;have e5:=cM.c5;have hf1:=hp.f1;have ht1:=hp.t1;have zT:fb=1∨fb=2:=qo;have Eb:tb=1∨tb=2:=qo;have tP:=qh fB;have ahM:=hp.f0;have fC:=hp.t0;have hw2:=hs.w2;have hr1:=hs.r1;have hr2:=hs.r2;clear fB;have bA:=qh cM;have HS:=qh hs;have HP:=qh hp;obtain⟨code,hcode⟩:=qx (bY s k d fb fa tb ta j);rw[←hcode];have HC:=qh hcode;clear H hs hp hg cM hcode
 go_enter Tryz.func98,Tryz.ntmps98
 have d1:decide ((s.W:Int)≤fa)=false:=decide_eq_false qo;have d2:decide ((s.W:Int)≤ta)=false:=decide_eq_false qo
 go_wp2_with fail
 go_quiet (fail)
 rename_i nq
 have HB0:Hq (Below w.heap.size w ((w.alloc (.cells #[.int .i64 k,.int .i64 d,.int .i64 fb,.int .i64 fa,.int .i64 tb,.int .i64 ta,.int .i64 c,.int .i64 r] 67)).drewN nq)):=qh (Below.drewN' HG.o nq);have hfit:=AA (HM.o.drewN nq) HS.o HP.o;have HF:=qh hfit;clear hfit m0 e3 e5
 go_wp2_with fail
 refine HF.o.mono ?_;rintro e w1 ⟨rfl,hb1⟩;have HB1:=HB0.st hb1;have aO:Hq (gI w.heap.size 0 k d fb fa tb ta c r w1):=qh ((dA _ _ _ _ _ _ _ _ _ _).1 _ _ bA.o fun q hq=>by subst hq;exact hb1.block _ (World.block_lt_of_cell? _ _ bA.o.c0));have cS:=qh hb1;clear hb1 HF;have e0:=aO.o.c0
 cases hfi:gS s k d fb fa j
 ·have HZ:=qh (show code=9 by rw[HC.o];unfold bY;rw[if_pos hfi])
  exact zQ18x3
 ·have bZ:=qh (HM.o.below (Below.trans (Below.drewN' (Below.refl _ _) nq) cS.o))
  have ha0:=HP.o.f0;obtain⟨nf,hnf⟩:=qx (aM s fb fa);obtain⟨Af,cf,hvf⟩:=(bZ.o.lU (b:=fb) ha0 hf1).form;rw[←hnf]at hvf;have iQ:=qh hnf;have jV:=qh hvf;have h4:nf≤4:=by rw[hnf];exact bT HS.o ha0 hf1
  obtain⟨nt,hnt⟩:=qx (aM s tb ta);obtain⟨At,ct,IB⟩:=(bZ.o.lU (b:=tb) fC ht1).form;rw[←hnt]at IB;have TQ:=qh hnt;have PL:=qh IB;have h4t:nt≤4:=by rw[hnt];exact bT HS.o fC ht1
  have e2:=aO.o.c2;have e3:=aO.o.c3;have e4:=aO.o.c4;have e5:=aO.o.c5;clear hnf hvf hnt IB cS;obtain⟨xl,hxl,_⟩:=bZ.o.l;obtain⟨AL,cL,iG⟩:=aF hxl;have m5:w1.cell? ⟨a.g,5,none⟩=some (.slice AL s.n cL):=(bZ.o.m.cell 5).trans (by rw[←iG];rfl);have hnb:=HS.o.nb;clear hxl iG;have Ur:Hq (code=if eM k=true∧s.n=300 then 5 else if¬(aK (oN fb fa s.rk) 0 ((s.W:Int)-1)=true∧3-fb=tb∧oN fb fa s.rk=ta)then 8 else if nf=0 then 7 else if 4<nf+nt then 5 else 0):=qh (by
   rw[HC.o,iQ.o,TQ.o];unfold bY;rw[hfi]
   rcases hk with rfl|rfl<;>simp)
  clear hfi
  by_cases hq:eM k=true∧s.n=300
  ·have HZ:=qh (Ur.o.trans (if_pos hq))
   obtain⟨hq1,hq2⟩:=hq
   rcases hk with rfl|rfl
   ·simp[eM]at hq1
   clear hq1
   exact zQ18x2
  have aei:=qh (Ur.o.trans (if_neg hq));have hq':eM k=true→((s.n:Int)==300)=false:=fun h=>by simp;intro h';exact hq ⟨h,by omega⟩
  clear hq Ur;have QX:=Et (D:=D) fb fa bZ.o HS.o zT ahM hf1;obtain⟨fx,hfx⟩:=qx (oN fb fa s.rk);obtain⟨Yu,Ei⟩:=qx (aK fx 0 ((s.W:Int)-1));rw[←hfx,←Ei]at QX;rw[hfx]at Ei;have aeM:=qh QX;have HFX:=qh hfx;have aeL:=qh Ei;clear QX hfx Ei;obtain rfl:tb=3-fb:=by have:=tP.o;omega
  rcases hk with rfl|rfl
  ·clear hq'
   have hmb:eM 4=false:=rfl
   exact zQ18x0
  ·have vv:=hq' rfl
   clear hq';have hmb:eM 5=true:=rfl
   exact zQ18x0
end
end Go.Proofs.YtdnmhhohcedjbaaGreat
