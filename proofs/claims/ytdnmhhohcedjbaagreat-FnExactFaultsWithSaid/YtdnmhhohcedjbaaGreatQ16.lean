/- Walks and plain lemmas. -/
import Derived.Test.YtdnmhhohcedjbaaGreatQ14
import Derived.Handy
set_option linter.unusedVariables false
set_option linter.unusedSimpArgs false
set_option maxHeartbeats 1000000
set_option maxRecDepth 20000
namespace Go.Proofs.YtdnmhhohcedjbaaGreat
open Go.RowKit
theorem lT (b a r:Int)(w:World)(h0:0≤a)(h1:a≤23)(h2: -3≤r)(h3:r≤3):Calls Tryz.prog 131 #[.agg #[.int .i64 b,.int .i64 a],.int .i64 r] w fun e w'=>e=.returned (.int .i64 (aL b a r))∧Below w.heap.size w w':=by
 by_cases hb:b=2
 ·subst hb
  go_enter Tryz.func131,Tryz.ntmps131
  go_wp2
  go_ret
  exact⟨by simp[aL],qz⟩
 ·have hb':(b==2)=false:=by simpa using hb
  go_enter Tryz.func131,Tryz.ntmps131
  go_wp2
  go_ret
  exact⟨by simp[aL,hb],qz⟩
def eM (k:Int):Bool:=(k==1)||((k==2)||(k==5))
theorem aU (k:Int)(w:World)(h1:1≤k)(h9:k≤9):Calls Tryz.prog 67 #[.int .i64 k] w fun e w'=>e=.returned (.bool (eM k))∧w=w':=by
 have hk:k=1∨k=2∨k=3∨k=4∨k=5∨k=6∨k=7∨k=8∨k=9:=qo;clear h1 h9
 rcases hk with rfl|rfl|rfl|rfl|rfl|rfl|rfl|rfl|rfl
 all_goals
  go_enter Tryz.func67,Tryz.ntmps67
  go_wp2
  go_ret
  exact⟨rfl,rfl⟩
section
variable {tg:Nat→Nat}{a:bC}{s:aI}{D:Nat}{w:World}
theorem cG (b x:Int)(H:Mem tg a s w)(hb:b=1∨b=2)(hx:0≤x)(hx1:x<s.W):Calls Tryz.prog 124 #[.pointer (some ⟨a.g,0,none⟩),.agg #[.int .i64 b,.int .i64 x]] w fun e w'=>e=.returned (.pointer (some ⟨bO a b,x.toNat,none⟩))∧Below w.heap.size w w':=by
 have hg:Below w.heap.size w (w.alloc (.cells #[.int .i64 b,.int .i64 x] 65)):=qb;have m2:(w.alloc (.cells #[.int .i64 b,.int .i64 x] 65)).cell? ⟨a.g,2,none⟩=some (.slice (some ⟨a.gf,0,none⟩) s.W a.cf):=(H.below hg).m.cell 2;have m3:(w.alloc (.cells #[.int .i64 b,.int .i64 x] 65)).cell? ⟨a.g,3,none⟩=some (.slice (some ⟨a.gk,0,none⟩) s.W a.ck):=(H.below hg).m.cell 3;clear H
 rcases hb with rfl|rfl
 all_goals
  go_enter Tryz.func124,Tryz.ntmps124
  go_wp2_with fail
  go_region
  go_wp2_with fail
  go_ret
  exact⟨rfl,qz⟩
def gS (s:aI)(k d fb fa:Int)(j:Nat):Bool:=if k=4∨k=6∨k=7 then true else if k=8 then !s.cin j else if k=9 then s.cin j else eP s d (aL fb fa s.rk) j
theorem zQ16x0 {p:Prop}(h:p:=by
 go_wp2_with fail
 all_goals
  go_ret
  refine⟨?_,Vl.o⟩;rw[HY.o]
  first
   |rfl
   |exact congrArg (fun z=>Ending.returned (Value.bool z)) (decide_eq_true (by assumption)).symm
   |exact congrArg (fun z=>Ending.returned (Value.bool z)) (decide_eq_false qo).symm):p:=h
theorem zQ16x1 {p:Prop}(h:p:=by
 clear HM HS HP hb
 go_enter Tryz.func123,Tryz.ntmps123
 go_wp2_with fail
 go_region
 go_wp2_with fail
 go_ret
 exact⟨by rw[HX.o];rfl,qz⟩):p:=h
theorem AA {k d fb fa tb ta c r:Int}{j:Nat}(H:Mem tg a s w)(hs:bW s D)(hp:fP s.W k d fb fa tb ta c r j):Calls Tryz.prog 123 #[.pointer (some ⟨a.g,0,none⟩),.agg #[.int .i64 k,.int .i64 d,.int .i64 fb,.int .i64 fa,.int .i64 tb,.int .i64 ta,.int .i64 c,.int .i64 r]] w fun e w'=>e=.returned (.bool (gS s k d fb fa j))∧Below w.heap.size w w':=by
 have hk:(k=4∨k=6∨k=7)∨(k=8∨k=9)∨(k=1∨k=2∨k=3∨k=5):=by have:=hp.k1;have:=hp.k9;omega
 have hg:Below w.heap.size w (w.alloc (.cells #[.int .i64 k,.int .i64 d,.int .i64 fb,.int .i64 fa,.int .i64 tb,.int .i64 ta,.int .i64 c,.int .i64 r] 67)):=qb;have HM:=qh (H.below hg);have HS:=qh hs;have HP:=qh hp;clear H hs hp hg
 rcases hk with hk|hk|hk
 ·have HX:=qh (show gS s k d fb fa j=true by unfold gS;rw[if_pos hk])
  clear HM HS HP
  rcases hk with rfl|rfl|rfl
  all_goals
   go_enter Tryz.func123,Tryz.ntmps123
   go_wp2_with fail
   go_ret
   exact⟨by rw[HX.o];rfl,qz⟩
 ·obtain⟨rfl,hj⟩:=HP.o.mA qo qo qo
  have m4:=(show _=some (Value.slice (some ⟨a.gc,0,none⟩) 4 a.cc)from HM.o.m.cell 4);obtain⟨k0,_,_,_⟩:=HM.o.mA hj;obtain⟨b,hb⟩:=qx (s.cin j);rw[←hb]at k0
  rcases hk with rfl|rfl
  ·have HX:=qh (show gS s 8 d fb fa j=!b by unfold gS;rw[hb];rfl)
   exact zQ16x1
  ·have HX:=qh (show gS s 9 d fb fa j=b by unfold gS;rw[hb];rfl)
   exact zQ16x1
 ·obtain⟨rfl,hj⟩:=HP.o.mA qo qo qo
  have hd:=HP.o.dir qo qo qo qo;have ha0:=HP.o.f0;have ha1:=HP.o.f1;have hw2:=HS.o.w2;have hr1:=HS.o.r1;have hr2:=HS.o.r2;have hxb:=iC (b:=fb) ha0 (show fa≤23 by omega) hr1 hr2;obtain⟨x,hx⟩:=qx (aL fb fa s.rk);rw[←hx]at hxb;have m4:=(show _=some (Value.slice (some ⟨a.gc,0,none⟩) 4 a.cc)from HM.o.m.cell 4);have m1:=(show _=some (Value.int .i64 s.rk)from HM.o.m.cell 1);obtain⟨k0,k1,_,_⟩:=HM.o.mA hj;have hcb:=HS.o.ca j hj;obtain⟨b,hb⟩:=qx (s.cin j);obtain⟨ct,hct⟩:=qx (s.cat j);rw[←hb]at k0;rw[←hct]at k1 hcb;have HX:=qh (show gS s k d fb fa j=(b&&!(decide (d=1)&&decide (x<ct))&&!(decide (d= -1)&&decide (ct<x+1)))by
   unfold gS eP;rw[if_neg qo,if_neg qo,if_neg qo,hb,hx,hct])
  have Oj:=qh hx;clear hb hct hx HS HP;have hk':(k==4)=false∧(k==6)=false∧(k==7)=false∧(k==8)=false∧(k==9)=false:=by simp;omega
  obtain⟨h4,h6,h7,h8,h9⟩:=hk'
  go_enter Tryz.func123,Tryz.ntmps123
  have wM:IntKind.i64.wrap (j:Int)=j:=by rw[IntKind.wrap_i64];omega
  have hj0:(0:Int)≤j:=qo;have OK:(j:Int)<4:=qo;have n4:=World.new_ne _ _ m4;have n0:=World.new_ne _ _ k0;have o6:(w.alloc (.cells #[.int .i64 k,.int .i64 d,.int .i64 fb,.int .i64 fa,.int .i64 tb,.int .i64 ta,.int .i64 ((j:Int)+1),.int .i64 r] 67)).cell? ⟨w.heap.size,6,none⟩=some (.int .i64 ((j:Int)+1)):=by simp
  have n6:=World.new_ne _ _ o6
  go_wp2_with fail
  go_region_held3 (fun w'=>w'.cell? ⟨a.g,4,none⟩=some (.slice (some ⟨a.gc,0,none⟩) 4 a.cc)∧w'.cell? ⟨w.heap.size,6,none⟩=some (.int .i64 ((j:Int)+1))∧w'.cell? ⟨a.gc,j*2,none⟩=some (.bool b)∧w'.cell? ⟨a.gc,j*2+1,none⟩=some (.int .i64 ct)) (go_keep) (fail)
  rename_i hHeld
  clear hHeld n4 n0 n6 o6;obtain⟨W1,hW1⟩:=qx (w.alloc (.cells #[.int .i64 k,.int .i64 d,.int .i64 fb,.int .i64 fa,.int .i64 tb,.int .i64 ta,.int .i64 ((j:Int)+1),.int .i64 r] 67));have e1:W1.cell? ⟨w.heap.size,1,none⟩=some (.int .i64 d):=by rw[hW1];simp
  have e2:W1.cell? ⟨w.heap.size,2,none⟩=some (.int .i64 fb):=by rw[hW1];simp
  have e3:W1.cell? ⟨w.heap.size,2+1,none⟩=some (.int .i64 fa):=by rw[hW1];simp
  have hsz:W1.heap.size=w.heap.size+1:=by rw[hW1];simp
  have hBW:Below w.heap.size w W1:=by rw[hW1];exact qb
  rw[←hW1]at m1 ⊢;have rD:=qh hBW;have hg1:=World.block_lt_of_cell? _ _ m1;obtain⟨W2,hW2⟩:=qx (W1.alloc (.cells #[.bool b,.int .i64 ct] 148));have hB2:Below W1.heap.size W1 W2:=by rw[hW2];exact qb
  have g1:=((aA hB2).1 _ 1 qo).trans e1;have g2:=((aA hB2).1 _ 2 qo).trans e2;have g3:=((aA hB2).1 _ (2+1) qo).trans e3;have r1:=((aA hB2).1 a.g 1 hg1).trans m1;have c0:W2.cell? ⟨W1.heap.size,0,none⟩=some (.bool b):=by rw[hW2];simp
  have c1:W2.cell? ⟨W1.heap.size,1,none⟩=some (.int .i64 ct):=by rw[hW2];simp
  have hz2:W2.heap.size=w.heap.size+2:=by rw[hW2];simp[hsz]
  rw[hsz]at c0 c1;have HB2:=qh hB2;have HZ:=qh (And.intro hsz hz2);have HG:=qh hg1;rw[←hW2];have G2:=qh g2;have G3:=qh g3;have R1:=qh r1;clear k0 k1 m1 m4 e1 e2 e3 hBW hW1 HM hg1 hB2 hW2 hsz hz2 wM hj0 OK
  go_wp2_with fail
  go_region_held3 (fun w'=>w'.cell? ⟨w.heap.size,2,none⟩=some (.int .i64 fb)∧w'.cell? ⟨w.heap.size,2+1,none⟩=some (.int .i64 fa)∧w'.cell? ⟨a.g,1,none⟩=some (.int .i64 s.rk)) (go_keep)
   ((go_at_call 131;refine(lT fb fa s.rk _ ha0 qo hr1 hr2).mono ?_;rintro e w3 ⟨he,hb3⟩;obtain rfl:e=.returned (.int .i64 x):=he.trans (by rw[Oj.o]);have HB3:Hq (Below W2.heap.size W2 w3):=qh (((Below.refl W2.heap.size W2).drew.drew).trans hb3);have IA:=((aA HB3.o).1 w.heap.size 2 (by have:=HZ.o.2;omega)).trans G2.out;have I9:=((aA HB3.o).1 w.heap.size (2+1) (by have:=HZ.o.2;omega)).trans G3.out;have Kw:=((aA HB3.o).1 a.g 1 (by have:=HG.o;have:=HB2.o.size;omega)).trans R1.out;clear hb3 he))
  rename_i hHeld
  have h1:=((aA HB3.o).1 w.heap.size 1 (by have:=HZ.o.2;omega)).trans g1;have h2:=((aA HB3.o).1 (w.heap.size+1) 0 (by have:=HZ.o.1;have:=HZ.o.2;omega)).trans c0;have h3:=((aA HB3.o).1 (w.heap.size+1) 1 (by have:=HZ.o.1;have:=HZ.o.2;omega)).trans c1;clear hHeld IA I9 Kw g1 g2 g3 r1 c0 c1;have Vl:Hq (Below w.heap.size w w3):=qh ((rD.o.trans (HB2.o.mono rD.o.size)).trans (HB3.o.mono (Nat.le_trans rD.o.size HB2.o.size)))
  cases b
  ·go_wp2_with fail
   go_ret
   exact⟨by rw[HX.o];rfl,Vl.o⟩
  ·rcases hd with rfl|rfl
   ·have HY:=qh (show gS s k 1 fb fa j=decide (ct≤x)by rw[HX.o];by_cases h:x<ct<;>simp[h]<;>omega)
    exact zQ16x0
   ·have HY:=qh (show gS s k (-1) fb fa j=decide (x+1≤ct)by rw[HX.o];by_cases h:ct<x+1<;>simp[h]<;>omega)
    exact zQ16x0
end
end Go.Proofs.YtdnmhhohcedjbaaGreat
namespace Go.Proofs.YtdnmhhohcedjbaaGreat
open Go.RowKit
theorem abJ (b:Int)(w:World)(hb:b=1∨b=2):Calls Tryz.prog 155 #[.int .i64 b] w fun e w'=>e=.returned (.int .i64 (3-b))∧w=w':=by
 rcases hb with rfl|rfl
 all_goals
  go_enter Tryz.func155,Tryz.ntmps155
  go_wp2
  go_ret
  exact⟨rfl,rfl⟩
theorem iE (W:World)(cs:Array Value)(t:TypeId){q:Nat}(hq:q=W.heap.size)(o:Nat):(W.alloc (.cells cs t)).cell? ⟨q,o,none⟩=cs[o]?:=by
 subst hq
 simp
def oN (b x r:Int):Int:=if b=2 then x+r else x-r
section
variable {tg:Nat→Nat}{a:bC}{s:aI}{D:Nat}{w:World}
theorem Et (b x:Int)(H:Mem tg a s w)(hs:bW s D)(hb:b=1∨b=2)(hx:0≤x)(hx1:x<s.W):Calls Tryz.prog 125 #[.pointer (some ⟨a.g,0,none⟩),.agg #[.int .i64 b,.int .i64 x]] w fun e w'=>e=.returned (.tuple #[.agg #[.int .i64 (3-b),.int .i64 (oN b x s.rk)],.bool (aK (oN b x s.rk) 0 ((s.W:Int)-1))])∧Below w.heap.size w w':=by
 have hw2:=hs.w2;have hr1:=hs.r1;have hr2:=hs.r2;have hg:Below w.heap.size w ((w.alloc (.cells #[.int .i64 b,.int .i64 x] 65)).alloc (.cells #[.int .i64 0,.int .i64 0] 65)):=qz;have HM:=qh (H.below hg);have m0:=(show _=some (Value.int .i64 s.W)from HM.o.m.cell 0);have m1:=(show _=some (Value.int .i64 s.rk)from HM.o.m.cell 1);have m0w:w.cell? ⟨a.g,0,none⟩=some (.int .i64 s.W):=H.m.cell 0;have Zg:=qh m0w;clear m0w;have hga:=H.m.lt;have hq1:w.heap.size≠a.g:=qo;have hq2:w.heap.size+1≠a.g:=qo;have hq3:w.heap.size+1+1≠a.g:=qo;have GI:=qh hga;have hww:IntKind.i64.wrap ((s.W:Int)-1)=(s.W:Int)-1:=by rw[IntKind.wrap_i64];omega
 clear H hs hg hga
 rcases hb with rfl|rfl
 ·skip
  have e0:((w.alloc (.cells #[.int .i64 1,.int .i64 x] 65)).alloc (.cells #[.int .i64 0,.int .i64 0] 65)).cell? ⟨w.heap.size,0,none⟩=some (.int .i64 1):=by simp
  have e1:((w.alloc (.cells #[.int .i64 1,.int .i64 x] 65)).alloc (.cells #[.int .i64 0,.int .i64 0] 65)).cell? ⟨w.heap.size,1,none⟩=some (.int .i64 x):=by simp
  have n1:=World.new_ne _ _ m1;have n0:=World.new_ne _ _ e0;have hwr:IntKind.i64.wrap (x-s.rk)=x-s.rk:=by rw[IntKind.wrap_i64];omega
  go_enter Tryz.func125,Tryz.ntmps125
  go_wp2_with fail
  go_region_held3 (fun w'=>w'.cell? ⟨w.heap.size,0,none⟩=some (.int .i64 1)∧w'.cell? ⟨w.heap.size,1,none⟩=some (.int .i64 x)∧w'.cell? ⟨a.g,1,none⟩=some (.int .i64 s.rk)) (go_keep)
   ((go_at_call 155;refine(abJ 1 _ qo).mono ?_;rintro e w' ⟨rfl,rfl⟩))
  all_goals
   rename_i hHeld
   clear hHeld
   go_wp2_with fail
   have p0:(((w.alloc (.cells #[.int .i64 1,.int .i64 x] 65)).alloc (.cells #[.int .i64 0,.int .i64 0] 65)).alloc (.cells #[.int .i64 2,.int .i64 (x-s.rk)] 65)).cell? ⟨w.heap.size+1+1,0,none⟩=some (.int .i64 2):=(iE _ _ _ qj 0).trans rfl;have p1:(((w.alloc (.cells #[.int .i64 1,.int .i64 x] 65)).alloc (.cells #[.int .i64 0,.int .i64 0] 65)).alloc (.cells #[.int .i64 2,.int .i64 (x-s.rk)] 65)).cell? ⟨w.heap.size+1+1,1,none⟩=some (.int .i64 (x-s.rk)):=(iE _ _ _ qj 1).trans rfl;have p2:(((w.alloc (.cells #[.int .i64 1,.int .i64 x] 65)).alloc (.cells #[.int .i64 0,.int .i64 0] 65)).alloc (.cells #[.int .i64 2,.int .i64 (x-s.rk)] 65)).cell? ⟨a.g,0,none⟩=some (.int .i64 s.W):=(World.cell?_alloc_some _ _ _ (by rw[m0];rfl)).trans m0;have q0:(((w.alloc (.cells #[.int .i64 1,.int .i64 x] 65)).alloc (.cells #[.int .i64 2,.int .i64 (x-s.rk)] 65)).alloc (.cells #[.int .i64 2,.int .i64 (x-s.rk)] 65)).cell? ⟨w.heap.size+1+1,0,none⟩=some (.int .i64 2):=(iE _ _ _ qj 0).trans rfl;have q1:(((w.alloc (.cells #[.int .i64 1,.int .i64 x] 65)).alloc (.cells #[.int .i64 2,.int .i64 (x-s.rk)] 65)).alloc (.cells #[.int .i64 2,.int .i64 (x-s.rk)] 65)).cell? ⟨w.heap.size+1+1,1,none⟩=some (.int .i64 (x-s.rk)):=(iE _ _ _ qj 1).trans rfl;have q2:(((w.alloc (.cells #[.int .i64 1,.int .i64 x] 65)).alloc (.cells #[.int .i64 2,.int .i64 (x-s.rk)] 65)).alloc (.cells #[.int .i64 2,.int .i64 (x-s.rk)] 65)).cell? ⟨a.g,0,none⟩=some (.int .i64 s.W):=by
    have h1:=(World.cell?_alloc_some w ⟨a.g,0,none⟩ (.cells #[.int .i64 1,.int .i64 x] 65) (by rw[Zg.out];rfl)).trans Zg.out;have h2:=(World.cell?_alloc_some _ ⟨a.g,0,none⟩ (.cells #[.int .i64 2,.int .i64 (x-s.rk)] 65) (by rw[h1];rfl)).trans h1;exact(World.cell?_alloc_some _ ⟨a.g,0,none⟩ (.cells #[.int .i64 2,.int .i64 (x-s.rk)] 65) (by rw[h2];rfl)).trans h2
   go_region_held3 (fun w'=>w'.cell? ⟨w.heap.size+1+1,0,none⟩=some (.int .i64 2)∧w'.cell? ⟨w.heap.size+1+1,1,none⟩=some (.int .i64 (x-s.rk))∧w'.cell? ⟨a.g,0,none⟩=some (.int .i64 s.W)) (go_keep)
    ((go_at_call 37;refine(eB _ _ _ _).mono ?_;rintro e w' ⟨rfl,rfl⟩))
   all_goals
    rename_i hHeld
    clear hHeld
    go_wp2_with fail
    go_returns
    exact⟨by simp[oN],qz⟩
 ·skip
  have e0:((w.alloc (.cells #[.int .i64 2,.int .i64 x] 65)).alloc (.cells #[.int .i64 0,.int .i64 0] 65)).cell? ⟨w.heap.size,0,none⟩=some (.int .i64 2):=by simp
  have e1:((w.alloc (.cells #[.int .i64 2,.int .i64 x] 65)).alloc (.cells #[.int .i64 0,.int .i64 0] 65)).cell? ⟨w.heap.size,1,none⟩=some (.int .i64 x):=by simp
  have n1:=World.new_ne _ _ m1;have n0:=World.new_ne _ _ e0;have hwr:IntKind.i64.wrap (x-s.rk)=x-s.rk:=by rw[IntKind.wrap_i64];omega
  go_enter Tryz.func125,Tryz.ntmps125
  go_wp2_with fail
  go_region_held3 (fun w'=>w'.cell? ⟨w.heap.size,0,none⟩=some (.int .i64 2)∧w'.cell? ⟨w.heap.size,1,none⟩=some (.int .i64 x)∧w'.cell? ⟨a.g,1,none⟩=some (.int .i64 s.rk)) (go_keep)
   ((go_at_call 155;refine(abJ 2 _ qo).mono ?_;rintro e w' ⟨rfl,rfl⟩))
  all_goals
   rename_i hHeld
   clear hHeld
   go_wp2_with fail
   have t0:((((w.alloc (.cells #[.int .i64 2,.int .i64 x] 65)).alloc (.cells #[.int .i64 0,.int .i64 0] 65)).alloc (.cells #[.int .i64 1,.int .i64 (x-s.rk)] 65)).cell? ⟨a.g,1,none⟩=some (.int .i64 s.rk)):=by simp[*,World.cell?_alloc_some]
   have lZ:IntKind.i64.wrap (x+s.rk)=x+s.rk:=by rw[IntKind.wrap_i64];omega
   go_region_held3 (fun w'=>w'.cell? ⟨w.heap.size,1,none⟩=some (.int .i64 x)∧w'.cell? ⟨a.g,1,none⟩=some (.int .i64 s.rk)) (go_keep) (fail)
   rename_i hHeld
   clear hHeld
   go_wp2_with fail
   have p0:(((w.alloc (.cells #[.int .i64 2,.int .i64 x] 65)).alloc (.cells #[.int .i64 0,.int .i64 0] 65)).alloc (.cells #[.int .i64 1,.int .i64 (x+s.rk)] 65)).cell? ⟨w.heap.size+1+1,0,none⟩=some (.int .i64 1):=(iE _ _ _ qj 0).trans rfl;have p1:(((w.alloc (.cells #[.int .i64 2,.int .i64 x] 65)).alloc (.cells #[.int .i64 0,.int .i64 0] 65)).alloc (.cells #[.int .i64 1,.int .i64 (x+s.rk)] 65)).cell? ⟨w.heap.size+1+1,1,none⟩=some (.int .i64 (x+s.rk)):=(iE _ _ _ qj 1).trans rfl;have p2:(((w.alloc (.cells #[.int .i64 2,.int .i64 x] 65)).alloc (.cells #[.int .i64 0,.int .i64 0] 65)).alloc (.cells #[.int .i64 1,.int .i64 (x+s.rk)] 65)).cell? ⟨a.g,0,none⟩=some (.int .i64 s.W):=(World.cell?_alloc_some _ _ _ (by rw[m0];rfl)).trans m0;have q0:(((w.alloc (.cells #[.int .i64 2,.int .i64 x] 65)).alloc (.cells #[.int .i64 1,.int .i64 (x+s.rk)] 65)).alloc (.cells #[.int .i64 1,.int .i64 (x+s.rk)] 65)).cell? ⟨w.heap.size+1+1,0,none⟩=some (.int .i64 1):=(iE _ _ _ qj 0).trans rfl;have q1:(((w.alloc (.cells #[.int .i64 2,.int .i64 x] 65)).alloc (.cells #[.int .i64 1,.int .i64 (x+s.rk)] 65)).alloc (.cells #[.int .i64 1,.int .i64 (x+s.rk)] 65)).cell? ⟨w.heap.size+1+1,1,none⟩=some (.int .i64 (x+s.rk)):=(iE _ _ _ qj 1).trans rfl;have q2:(((w.alloc (.cells #[.int .i64 2,.int .i64 x] 65)).alloc (.cells #[.int .i64 1,.int .i64 (x+s.rk)] 65)).alloc (.cells #[.int .i64 1,.int .i64 (x+s.rk)] 65)).cell? ⟨a.g,0,none⟩=some (.int .i64 s.W):=by
    have h1:=(World.cell?_alloc_some w ⟨a.g,0,none⟩ (.cells #[.int .i64 2,.int .i64 x] 65) (by rw[Zg.out];rfl)).trans Zg.out;have h2:=(World.cell?_alloc_some _ ⟨a.g,0,none⟩ (.cells #[.int .i64 1,.int .i64 (x+s.rk)] 65) (by rw[h1];rfl)).trans h1;exact(World.cell?_alloc_some _ ⟨a.g,0,none⟩ (.cells #[.int .i64 1,.int .i64 (x+s.rk)] 65) (by rw[h2];rfl)).trans h2
   go_region_held3 (fun w'=>w'.cell? ⟨w.heap.size+1+1,0,none⟩=some (.int .i64 1)∧w'.cell? ⟨w.heap.size+1+1,1,none⟩=some (.int .i64 (x+s.rk))∧w'.cell? ⟨a.g,0,none⟩=some (.int .i64 s.W)) (go_keep)
    ((go_at_call 37;refine(eB _ _ _ _).mono ?_;rintro e w' ⟨rfl,rfl⟩))
   all_goals
    rename_i hHeld
    clear hHeld
    go_wp2_with fail
    go_returns
    exact⟨by simp[oN],qz⟩
end
end Go.Proofs.YtdnmhhohcedjbaaGreat
namespace Go.Proofs.YtdnmhhohcedjbaaGreat
open Go.RowKit
def bY (s:aI)(k d fb fa tb ta:Int)(j:Nat):Int:=
 if gS s k d fb fa j=false then 9
 else if eM k=true∧s.n=300 then 5
 else if k=2∧aM s fb fa=4 then 5
 else if k=6∧aM s fb fa=0 then 7
 else if k≠4∧k≠5 then 0
 else if¬(aK (oN fb fa s.rk) 0 ((s.W:Int)-1)=true∧3-fb=tb∧oN fb fa s.rk=ta)then 8
 else if aM s fb fa=0 then 7
 else if 4<aM s fb fa+aM s tb ta then 5
 else 0
def nA (k fb tb:Int):Prop:=(k=4∨k=5)→(fb=1∧tb=2∨fb=2∧tb=1)
theorem LW {W:Nat}{k d fb fa tb ta c r:Int}(h:(aW k d fb fa tb ta c r&&(decide (fa<(W:Int))&&decide (ta<(W:Int))))=true):nA k fb tb:=by
 intro hk;unfold aW kA kG aK at h
 rcases hk with rfl|rfl
 ·rw[if_neg qo,if_pos rfl]at h
  simp only[Bool.and_eq_true,decide_eq_true_eq,beq_iff_eq,bne_iff_ne]at h
  omega
 ·rw[if_neg qo,if_neg qo,if_pos rfl]at h
  simp only[Bool.and_eq_true,decide_eq_true_eq,beq_iff_eq,bne_iff_ne]at h
  omega
section
variable {s:aI}{D:Nat}{k d fb fa tb ta c r:Int}{j:Nat}
theorem XT (hp:fP s.W k d fb fa tb ta c r j)(hb:fb=1∧tb=2∨fb=2∧tb=1):(aK (oN fb fa s.rk) 0 ((s.W:Int)-1)=true∧3-fb=tb∧oN fb fa s.rk=ta)↔aL fb fa s.rk=aL tb ta s.rk:=by
 have h0:=hp.t0;have h1:=hp.t1;unfold aK oN aL
 rcases hb with⟨rfl,rfl⟩|⟨rfl,rfl⟩
 ·simp
  omega
 ·simp
  omega
theorem SD (hp:fP s.W k d fb fa tb ta c r j)(hb:fb=1∧tb=2∨fb=2∧tb=1):
 (if¬(aK (oN fb fa s.rk) 0 ((s.W:Int)-1)=true∧3-fb=tb∧oN fb fa s.rk=ta)then(8:Int)else if aM s fb fa=0 then 7 else if 4<aM s fb fa+aM s tb ta then 5 else 0)=eG s fb fa tb ta:=by
 unfold eG
 by_cases h:aL fb fa s.rk=aL tb ta s.rk
 ·rw[if_neg (fun hn=>hn ((XT hp hb).2 h)),if_pos h]
 ·rw[if_pos (fun hn=>h ((XT hp hb).1 hn)),if_neg h]
theorem Je (hs:bW s D)(hp:fP s.W k d fb fa tb ta c r j)(hb:nA k fb tb):bY s k d fb fa tb ta j=aX s k d fb fa tb ta j:=by
 have hn:=hs.nb;have h4:=bT (b:=fb) hs hp.f0 hp.f1;have hk:k=1∨k=2∨k=3∨k=4∨k=5∨k=6∨k=7∨k=8∨k=9:=by have:=hp.k1;have:=hp.k9;omega
 have hmv:∀{s':aI},eG (bM s d (aL fb fa s.rk) j) fb fa tb ta=eG s fb fa tb ta:=fun{_}=>rfl
 rcases hk with rfl|rfl|rfl|rfl|rfl|rfl|rfl|rfl|rfl
 ·unfold bY aX eH gS eM
  simp
  by_cases hc:eP s d (aL fb fa s.rk) j=true
  ·simp[hc]
   by_cases h:s.n=300
   ·simp[h]
   ·simp[h];omega
  ·simp[hc]
 ·unfold bY aX eH gS eM
  simp
  by_cases hc:eP s d (aL fb fa s.rk) j=true
  ·simp[hc]
   by_cases h:s.n=300
   ·simp[h]
   ·have h':¬300≤s.n:=qo
    by_cases h5:aM s fb fa=4
    ·simp[h,h',h5]
    ·have h6:¬4≤aM s fb fa:=qo
     simp[h,h',h5,h6]
  ·simp[hc]
 ·unfold bY aX gS eM
  simp
  by_cases hc:eP s d (aL fb fa s.rk) j=true
  ·simp[hc]
  ·simp[hc]
 ·have:=SD hp (hb (.inl rfl))
  unfold bY aX gS eM
  simp only[this]
  simp
 ·have:=SD hp (hb (.inr rfl))
  unfold bY aX eH gS eM
  simp only[this]
  simp
  by_cases hc:eP s d (aL fb fa s.rk) j=true
  ·simp[hc]
   by_cases h:s.n=300
   ·simp[h]
   ·rw[if_neg h,if_neg qo]
    rfl
  ·simp[hc]
 ·unfold bY aX gS eM
  simp
 ·unfold bY aX gS eM
  simp
 ·unfold bY aX lY gS eM
  simp
 ·unfold bY aX lY gS eM
  simp
end
end Go.Proofs.YtdnmhhohcedjbaaGreat
