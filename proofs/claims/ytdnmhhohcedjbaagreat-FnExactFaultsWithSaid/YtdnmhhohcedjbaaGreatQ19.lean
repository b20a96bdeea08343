/- Walks and plain lemmas. -/
import Derived.Test.YtdnmhhohcedjbaaGreatQ07
import Derived.Deep.CutRange
set_option linter.unusedVariables false
set_option linter.unusedSimpArgs false
set_option maxHeartbeats 4000000
set_option maxRecDepth 20000
namespace Go.Proofs.YtdnmhhohcedjbaaGreat
open Go.RowKit
def j5 (b y d:Int):Bool:=decide (b=0)&&decide (y=0)&&(d==0)
theorem acW (p c b y d n:Int)(w:World):
 Calls Tryz.prog 107 #[.agg #[.int .i64 3,.int .i64 p,.int .i64 c,.int .i64 b,.int .i64 y,.int .i64 d],.int .i64 n] w fun e w'=>e=.returned (.bool (decide (0≤p)&&(decide (c=0)&&decide (p≤n)&&jP b y d)))∧Below w.heap.size w w':=by
 by_cases hp:p<0
 ·go_enter Tryz.func107,Tryz.ntmps107
  go_wp2
  go_ret
  exact⟨by rw[show decide (0≤p)=false from decide_eq_false qo];rfl,qz⟩
 ·rw[show decide (0≤p)=true from decide_eq_true qo]
  by_cases hc:c=0
  ·subst hc
   by_cases hpn:p≤n
   ·go_enter Tryz.func107,Tryz.ntmps107
    go_wp2_with ((go_at_call 136;refine(aae _ _ _ _ _ _ _).mono ?_;rintro e w' ⟨rfl,hb⟩;have HB:=qh hb;clear hb))
    all_goals go_ret
    all_goals exact⟨qr (by simp_all),by have hb:=HB.o;(repeat' first|with_reducible exact Below.refl _ _|with_reducible refine Below.alloc ?_ ?_ _|with_reducible refine Below.setCell ?_ ?_ _|with_reducible refine Below.drew ?_|with_reducible refine Below.drewN' ?_ _|with_reducible(refine Below.trans ?_ (Below.mono (by assumption) ?_))|exact Nat.le_refl _|(simp;done)|(simp;omega)|omega)⟩
   ·go_enter Tryz.func107,Tryz.ntmps107
    go_wp2
    all_goals go_ret
    all_goals exact⟨qr (by rw[show decide (p≤n)=false from decide_eq_false qo];simp),qz⟩
  ·go_enter Tryz.func107,Tryz.ntmps107
   go_wp2
   all_goals go_ret
   all_goals exact⟨qr qj,qz⟩
theorem zQ19x8 {p:Prop}(h:p:=by
 go_enter Tryz.func107,Tryz.ntmps107
 go_wp2
 all_goals go_ret
 all_goals exact⟨qr (by simp_all [j5]),qz⟩):p:=h
theorem zQ19x9 {p:Prop}(h:p:=by
 go_enter Tryz.func107,Tryz.ntmps107
 go_wp2
 all_goals go_ret
 all_goals exact⟨qr qj,qz⟩):p:=h
theorem acZ (p c b y d n:Int)(w:World)(hn:0≤n∧n≤1000000)(hp:0≤p):
 Calls Tryz.prog 107 #[.agg #[.int .i64 1,.int .i64 p,.int .i64 c,.int .i64 b,.int .i64 y,.int .i64 d],.int .i64 n] w fun e w'=>e=.returned (.bool (decide (p≤n-2)&&(decide (c=1)||decide (c= -1))&&j5 b y d))∧Below w.heap.size w w':=by
 by_cases hpn:p≤n-2
 ·by_cases hc:c=1
  ·subst hc
   exact zQ19x8
  ·by_cases hc2:c= -1
   ·subst hc2
    exact zQ19x8
   ·rw[show decide (c=1)=false from decide_eq_false hc,show decide (c= -1)=false from decide_eq_false hc2]
    exact zQ19x9
 ·rw[show decide (p≤n-2)=false from decide_eq_false hpn]
  exact zQ19x9
theorem zQ19x4 {p:Prop}(h:p:=by
 go_wp2_with ((go_at_call 37;refine(eB _ _ _ _).mono ?_;rintro e w' ⟨rfl,rfl⟩))
 all_goals go_ret
 all_goals exact⟨qr qj,qz⟩):p:=h
theorem acX (p c b y d n:Int)(w:World)(hn:0≤n∧n≤1000000)(hp:0≤p):
 Calls Tryz.prog 107 #[.agg #[.int .i64 2,.int .i64 p,.int .i64 c,.int .i64 b,.int .i64 y,.int .i64 d],.int .i64 n] w fun e w'=>e=.returned (.bool (aK c 0 4&&decide (p≤n-c)&&jP b y d))∧Below w.heap.size w w':=by
 cases hc:aK c 0 4
 ·go_enter Tryz.func107,Tryz.ntmps107
  exact zQ19x4
 ·have hcb:=OE hc
  by_cases hpn:p≤n-c
  ·rw[show decide (p≤n-c)=true from decide_eq_true hpn]
   go_enter Tryz.func107,Tryz.ntmps107
   go_wp2_with (first|(go_at_call 37;refine(eB _ _ _ _).mono ?_;rintro e w' ⟨rfl,rfl⟩)|(go_at_call 136;refine(aae _ _ _ _ _ _ _).mono ?_;rintro e w' ⟨rfl,hb⟩;have HB:=qh hb;clear hb))
   all_goals go_ret
   all_goals exact⟨qr (by simp_all),by have hb:=HB.o;(repeat' first|with_reducible exact Below.refl _ _|with_reducible refine Below.alloc ?_ ?_ _|with_reducible refine Below.setCell ?_ ?_ _|with_reducible refine Below.drew ?_|with_reducible refine Below.drewN' ?_ _|with_reducible(refine Below.trans ?_ (Below.mono (by assumption) ?_))|exact Nat.le_refl _|(simp;done)|(simp;omega)|omega)⟩
  ·rw[show decide (p≤n-c)=false from decide_eq_false hpn]
   go_enter Tryz.func107,Tryz.ntmps107
   exact zQ19x4
theorem acU (p c b y d n:Int)(w:World)(hn:0≤n∧n≤1000000)(hp:0≤p):
 Calls Tryz.prog 107 #[.agg #[.int .i64 4,.int .i64 p,.int .i64 c,.int .i64 b,.int .i64 y,.int .i64 d],.int .i64 n] w fun e w'=>e=.returned (.bool (aK c 1 4&&decide (p≤n-c)&&j5 b y d))∧Below w.heap.size w w':=by
 cases hc:aK c 1 4
 ·go_enter Tryz.func107,Tryz.ntmps107
  exact zQ19x4
 ·have hcb:=OE hc
  by_cases hpn:p≤n-c
  ·rw[show decide (p≤n-c)=true from decide_eq_true hpn]
   go_enter Tryz.func107,Tryz.ntmps107
   go_wp2_with ((go_at_call 37;refine(eB _ _ _ _).mono ?_;rintro e w' ⟨rfl,rfl⟩))
   all_goals go_ret
   all_goals exact⟨qr (by simp_all [j5]),qz⟩
  ·rw[show decide (p≤n-c)=false from decide_eq_false hpn]
   go_enter Tryz.func107,Tryz.ntmps107
   exact zQ19x4
theorem aac (k p c b y d:Int)(v:Bool)(w:World)(hv:jP b y d=v):
 Calls Tryz.prog 136 #[.agg #[.int .i64 k,.int .i64 p,.int .i64 c,.int .i64 b,.int .i64 y,.int .i64 d]] w fun e w'=>e=.returned (.bool v)∧Below w.heap.size w w':=
 hv▸aae k p c b y d w
theorem zQ19x2 {p:Prop}(h:p:=by
 go_enter Tryz.func107,Tryz.ntmps107
 go_wp2_with (first|(go_at_call 37;refine(eB _ _ _ _).mono ?_;rintro e w' ⟨rfl,rfl⟩)|(go_at_call 136;refine(aac _ _ _ _ _ _ true _ (by have h:=HY.o;first|assumption|(simp_all;done))).mono ?_;rintro e w' ⟨rfl,hb⟩;have hx:=fun o=>((aA hb).1 w.heap.size o qj).trans (rH rfl o);have HB:=qh hb;clear hb))
 all_goals go_ret
 all_goals exact⟨qr (by simp_all),by have hb:=HB.o;(repeat' first|with_reducible exact Below.refl _ _|with_reducible refine Below.alloc ?_ ?_ _|with_reducible refine Below.setCell ?_ ?_ _|with_reducible refine Below.drew ?_|with_reducible refine Below.drewN' ?_ _|with_reducible(refine Below.trans ?_ (Below.mono (by assumption) ?_))|exact Nat.le_refl _|(simp;done)|(simp;omega)|omega)⟩):p:=h
theorem acT (p c b y d n:Int)(w:World)(hn:0≤n∧n≤1000000)(hp:0≤p):
 Calls Tryz.prog 107 #[.agg #[.int .i64 5,.int .i64 p,.int .i64 c,.int .i64 b,.int .i64 y,.int .i64 d],.int .i64 n] w fun e w'=>e=.returned (.bool (aK c 1 4&&jP b y d&&(if b=1 then decide (p≤n-c)else aK p c n)))∧Below w.heap.size w w':=by
 cases hc:aK c 1 4
 ·go_enter Tryz.func107,Tryz.ntmps107
  exact zQ19x4
 ·have hcb:=OE hc
  cases hy:jP b y d
  ·have HY:=qh hy
   go_enter Tryz.func107,Tryz.ntmps107
   go_wp2_with (first|(go_at_call 37;refine(eB _ _ _ _).mono ?_;rintro e w' ⟨rfl,rfl⟩)|(go_at_call 136;refine(aac _ _ _ _ _ _ false _ (by have h:=HY.o;first|assumption|(simp_all;done))).mono ?_;rintro e w' ⟨rfl,hb⟩;have hx:=fun o=>((aA hb).1 w.heap.size o qj).trans (rH rfl o);have HB:=qh hb;clear hb))
   all_goals go_ret
   all_goals exact⟨qr (by simp_all),by have hb:=HB.o;(repeat' first|with_reducible exact Below.refl _ _|with_reducible refine Below.alloc ?_ ?_ _|with_reducible refine Below.setCell ?_ ?_ _|with_reducible refine Below.drew ?_|with_reducible refine Below.drewN' ?_ _|with_reducible(refine Below.trans ?_ (Below.mono (by assumption) ?_))|exact Nat.le_refl _|(simp;done)|(simp;omega)|omega)⟩
  ·have HY:=qh hy
   by_cases hb1:b=1
   ·subst hb1
    rw[if_pos rfl]
    exact zQ19x2
   ·rw[if_neg hb1]
    exact zQ19x2
theorem ac0 (k p c b y d n:Int)(w:World)(hk:¬k=1∧¬k=2∧¬k=3∧¬k=4∧¬k=5)(hp:0≤p):
 Calls Tryz.prog 107 #[.agg #[.int .i64 k,.int .i64 p,.int .i64 c,.int .i64 b,.int .i64 y,.int .i64 d],.int .i64 n] w fun e w'=>e=.returned (.bool false)∧Below w.heap.size w w':=by
 obtain⟨h1,h2,h3,h4,h5⟩:=hk
 go_enter Tryz.func107,Tryz.ntmps107
 go_wp2
 all_goals go_ret
 all_goals exact⟨qr (by rfl),qz⟩
def gJ (k p c b y d n:Int):Bool:=
 if p<0 then false
 else if k=1 then decide (p≤n-2)&&(decide (c=1)||decide (c= -1))&&j5 b y d
 else if k=2 then aK c 0 4&&decide (p≤n-c)&&jP b y d
 else if k=3 then decide (0≤p)&&(decide (c=0)&&decide (p≤n)&&jP b y d)
 else if k=4 then aK c 1 4&&decide (p≤n-c)&&j5 b y d
 else if k=5 then aK c 1 4&&jP b y d&&(if b=1 then decide (p≤n-c)else aK p c n)
 else false
theorem abW (k p c b y d n:Int)(w:World)(hp:p<0):
 Calls Tryz.prog 107 #[.agg #[.int .i64 k,.int .i64 p,.int .i64 c,.int .i64 b,.int .i64 y,.int .i64 d],.int .i64 n] w fun e w'=>e=.returned (.bool false)∧Below w.heap.size w w':=by
 go_enter Tryz.func107,Tryz.ntmps107
 go_wp2
 go_ret
 exact⟨rfl,qz⟩
theorem ac4 (k p c b y d n:Int)(w:World)(hn:0≤n∧n≤1000000):
 Calls Tryz.prog 107 #[.agg #[.int .i64 k,.int .i64 p,.int .i64 c,.int .i64 b,.int .i64 y,.int .i64 d],.int .i64 n] w fun e w'=>e=.returned (.bool (gJ k p c b y d n))∧Below w.heap.size w w':=by
 unfold gJ
 by_cases hp:p<0
 ·rw[if_pos hp]
  exact abW k p c b y d n w hp
 ·rw[if_neg hp]
  have hp0:0≤p:=qo
  by_cases h1:k=1
  ·subst h1
   exact acZ p c b y d n w hn hp0
  ·rw[if_neg h1]
   by_cases h2:k=2
   ·subst h2
    exact acX p c b y d n w hn hp0
   ·rw[if_neg h2]
    by_cases h3:k=3
    ·subst h3
     exact acW p c b y d n w
    ·rw[if_neg h3]
     by_cases h4:k=4
     ·subst h4
      exact acU p c b y d n w hn hp0
     ·rw[if_neg h4]
      by_cases h5:k=5
      ·subst h5
       exact acT p c b y d n w hn hp0
      ·rw[if_neg h5]
       exact ac0 k p c b y d n w ⟨h1,h2,h3,h4,h5⟩ hp0
theorem DS {k p c b y d n:Int}(h:gJ k p c b y d n=true):0≤bD k c n∧bD k c n≤n+1∧ -1000000≤c∧c≤1000000∧0≤n:=by
 unfold gJ at h
 by_cases hp:p<0
 ·rw[if_pos hp]at h;cases h
 ·rw[if_neg hp]at h
  unfold bD
  by_cases h1:k=1
  ·subst h1
   simp at h
   simp
   omega
  ·rw[if_neg h1]at h
   by_cases h2:k=2
   ·subst h2
    simp[aK]at h
    simp
    omega
   ·rw[if_neg h2]at h
    by_cases h3:k=3
    ·subst h3
     simp at h
     simp
     omega
    ·rw[if_neg h3]at h
     by_cases h4:k=4
     ·subst h4
      simp[aK]at h
      simp
      omega
     ·rw[if_neg h4]at h
      by_cases h5:k=5
      ·subst h5
       simp[aK]at h
       simp
       obtain⟨⟨h6,_⟩,h7⟩:=h
       by_cases hb:b=1
       ·rw[if_pos hb]at h7
        omega
       ·rw[if_neg hb]at h7
        omega
      ·rw[if_neg h5]at h;cases h
def cnt (z:Nat→Int)(n:Int):Nat→Option Int
 |0=>some n
 |k+1=>match cnt z n k with
  |none=>none
  |some m=>if gJ (z (k*6)) (z (k*6+1)) (z (k*6+2)) (z (k*6+3)) (z (k*6+4)) (z (k*6+5)) m=true∧bD (z (k*6)) (z (k*6+2)) m≤12 then some (bD (z (k*6)) (z (k*6+2)) m)else none
theorem rM (z:Nat→Int)(n:Int){j k:Nat}(h:j≤k)(hj:cnt z n j=none):cnt z n k=none:=by
 induction k with
 |zero=>
  obtain rfl:j=0:=qo;exact hj
 |succ k ih=>
  rcases Nat.lt_or_ge k j with hlt|hge
  ·obtain rfl:j=k+1:=qo
   exact hj
  ·simp only[cnt,ih hge]
structure FV (w:World)(g o:Nat)(k p c b y d:Int):Prop where
 c0:w.cell? ⟨g,o,none⟩=some (.int .i64 k)
 c1:w.cell? ⟨g,o+1,none⟩=some (.int .i64 p)
 c2:w.cell? ⟨g,o+2,none⟩=some (.int .i64 c)
 c3:w.cell? ⟨g,o+3,none⟩=some (.int .i64 b)
 c4:w.cell? ⟨g,o+4,none⟩=some (.int .i64 y)
 c5:w.cell? ⟨g,o+5,none⟩=some (.int .i64 d)
def vY (ok:Bool)(a:Int)(w:World)(e:Ending)(w':World):Prop:=∃v q,e=.returned (.tuple #[.int .i64 v,.bool ok])∧(ok=true→v=a)∧w'=w.drewN q
theorem NJ {a a':Int}{x x':Bool}(h1:a=a')(h2:x=x'):Ending.returned (.tuple #[.int .i64 a,.bool x])=.returned (.tuple #[.int .i64 a',.bool x']):=by rw[h1,h2]
theorem dH {ok x:Bool}{a v:Int}{w:World}(q:Nat)(h:x=ok)(hv:ok=true→v=a):vY ok a w (.returned (.tuple #[.int .i64 v,.bool x])) (w.drewN q):=⟨v,q,NJ rfl h,hv,rfl⟩
theorem O0 (k p c b y d n:Int)(g o:Nat)(w:World)(H:Hq (FV w g o k p c b y d))(hp:p<0∨n<p):
 Calls Tryz.prog 104 #[.pointer (some ⟨g,o,none⟩),.int .i64 n] w (vY false 0 w):=by
 have h0:=H.o.c0;have h1:=H.o.c1;have h3:=H.o.c3;have h4:=H.o.c4;have h5:=H.o.c5
 go_enter Tryz.func104,Tryz.ntmps104
 go_upto_region 1 with fail
 go_cut [6]from 9 to 27 (fun s6 wx=>(∃x,s6=.bool x)∧wx=w)
 case first=>
  go_wp2_with (first|(go_at_call 133;refine(lW _ _).mono ?_;rintro e w' ⟨rfl,rfl⟩)|(go_at_call 113;refine(jJ _ _).mono ?_;rintro e w' ⟨rfl,rfl⟩)|(go_at_call 111;refine(jZ _ _).mono ?_;rintro e w' ⟨rfl,rfl⟩))
  all_goals go_meet
  all_goals exact⟨⟨_,rfl⟩,rfl⟩
 case rest=>
  obtain⟨⟨x,rfl⟩,rfl⟩:=hcut
  go_upto_region 2 with fail
  go_cut [7]from 28 to 46 (fun s7 wx=>(∃x,s7=.bool x)∧wx=wc)
  case first=>
   go_wp2
   all_goals go_meet
   all_goals exact⟨⟨_,rfl⟩,rfl⟩
  case rest=>
   obtain⟨⟨x',rfl⟩,rfl⟩:=hcut
   rcases hp with hp|hp
   ·go_wp2
    go_ret2
    exact dH 0 rfl (fun h=>by cases h)
   ·by_cases hp0:p<0
    ·go_wp2
     go_ret2
     exact dH 0 rfl (fun h=>by cases h)
    ·go_wp2
     go_ret2
     exact dH 0 rfl (fun h=>by cases h)
theorem z8 (n lo hi:Int)(w:World):Calls Tryz.prog 31 #[.int .i64 n,.int .i64 lo,.int .i64 hi] w fun e w'=>e=.returned (.bool (aK n lo hi))∧w'=w:=(dK n lo hi w).mono fun _ _ h=>⟨h.1,h.2.symm⟩
theorem zQ19x0 {p:Prop}(h:p:=by
 go_wp2_with fail
 go_ret2
 exact dH nq (by first|rfl|(simp;done)|(rw[Bool.eq_iff_iff];simp;done)|(simp_all;done)|(simp_all [aK];done)|(simp_all [aK];omega)) (fun h=>by first|rfl|cases h|(simp at h;done)|(exfalso;simp_all;done)|(exfalso;simp_all;omega))):p:=h
theorem zQ19x1 {p:Prop}(h:p:=by
 go_wp2_with (first|(go_at_call 133;refine(lW _ _).mono ?_;rintro e w' ⟨rfl,rfl⟩)|(go_at_call 113;refine(jJ _ _).mono ?_;rintro e w' ⟨rfl,rfl⟩)|(go_at_call 111;refine(jZ _ _).mono ?_;rintro e w' ⟨rfl,rfl⟩))
 all_goals go_meet
 all_goals exact⟨congrArg Value.bool (by rw[←HY.o];simp_all [jP]),rfl⟩):p:=h
theorem zQ19x5 {p:Prop}(h:p:=by
 go_wp2
 all_goals go_meet
 all_goals exact⟨congrArg Value.bool (by rw[←HN.o];simp_all [j5]),rfl⟩):p:=h
theorem zQ19x7 {p:Prop}(h:p:=by
 by_cases hl:p+1<n
 ·have s1:IntKind.i64.wrap (p+1)=p+1:=IntWalk.i64_in _ qo
  go_wp2
  go_quiet (fail)
  exact zQ19x0
 ·have s1:IntKind.i64.wrap (p+1)=p+1:=IntWalk.i64_in _ qo
  go_wp2
  go_quiet (fail)
  exact zQ19x0):p:=h
theorem UJ (p c b y d n:Int)(g o:Nat)(w:World)(H:Hq (FV w g o 1 p c b y d))(hn:0≤n∧n≤1000000)(hp0:¬p<0)(hpn:¬n<p):
 Calls Tryz.prog 104 #[.pointer (some ⟨g,o,none⟩),.int .i64 n] w (vY (gJ 1 p c b y d n) (bD 1 c n) w):=by
 have h0:=H.o.c0;have h1:=H.o.c1;have h2:=H.o.c2;have h3:=H.o.c3;have h4:=H.o.c4;have h5:=H.o.c5;have he:gJ 1 p c b y d n=(decide (p≤n-2)&&(decide (c=1)||decide (c= -1))&&j5 b y d):=by
  unfold gJ;rw[if_neg hp0]
  rfl
 rw[he];clear he;obtain⟨Y,hY⟩:∃Y,jP b y d=Y:=⟨_,rfl⟩;obtain⟨N,hN⟩:∃N,j5 b y d=N:=⟨_,rfl⟩
 simp only[hN]
 have HY:=qh hY;have HN:=qh hN;clear hY hN
 go_enter Tryz.func104,Tryz.ntmps104
 go_upto_region 1 with fail
 go_cut [6]from 9 to 27 (fun s6 wx=>s6=.bool Y∧wx=w)
 case first=>
  exact zQ19x1
 case rest=>
  obtain⟨rfl,rfl⟩:=hcut
  go_upto_region 2 with fail
  go_cut [7]from 28 to 46 (fun s7 wx=>s7=.bool N∧wx=wc)
  case first=>
   exact zQ19x5
  case rest=>
   obtain⟨rfl,rfl⟩:=hcut
   cases N
   ·go_wp2
    go_quiet (fail)
    exact zQ19x0
   ·by_cases hc1:c=1
    ·subst hc1
     exact zQ19x7
    ·have b1:(c==1)=false:=by simpa using hc1
     by_cases hc2:c= -1
     ·subst hc2
      exact zQ19x7
     ·have b2:(c== -1)=false:=by simpa using hc2
      go_wp2
      go_quiet (fail)
      exact zQ19x0
theorem UH (p c b y d n:Int)(g o:Nat)(w:World)(H:Hq (FV w g o 3 p c b y d))(hn:0≤n∧n≤1000000)(hp0:¬p<0)(hpn:¬n<p):
 Calls Tryz.prog 104 #[.pointer (some ⟨g,o,none⟩),.int .i64 n] w (vY (gJ 3 p c b y d n) (bD 3 c n) w):=by
 have h0:=H.o.c0;have h1:=H.o.c1;have h2:=H.o.c2;have h3:=H.o.c3;have h4:=H.o.c4;have h5:=H.o.c5;have he:gJ 3 p c b y d n=(decide (c=0)&&jP b y d):=by
  unfold gJ;rw[if_neg hp0];rw[if_neg (show¬(3:Int)=1 by decide),if_neg (show¬(3:Int)=2 by decide),if_pos rfl,show decide (0≤p)=true from decide_eq_true qo,show decide (p≤n)=true from decide_eq_true qo];simp
 rw[he];clear he;obtain⟨Y,hY⟩:∃Y,jP b y d=Y:=⟨_,rfl⟩;obtain⟨N,hN⟩:∃N,j5 b y d=N:=⟨_,rfl⟩
 simp only[hY]
 have HY:=qh hY;have HN:=qh hN;clear hY hN
 go_enter Tryz.func104,Tryz.ntmps104
 go_upto_region 1 with fail
 go_cut [6]from 9 to 27 (fun s6 wx=>s6=.bool Y∧wx=w)
 case first=>
  exact zQ19x1
 case rest=>
  obtain⟨rfl,rfl⟩:=hcut
  go_upto_region 2 with fail
  go_cut [7]from 28 to 46 (fun s7 wx=>s7=.bool N∧wx=wc)
  case first=>
   exact zQ19x5
  case rest=>
   obtain⟨rfl,rfl⟩:=hcut;have s1:IntKind.i64.wrap (n+1)=n+1:=IntWalk.i64_in _ qo
   cases Y
   ·go_wp2
    go_quiet (fail)
    exact zQ19x0
   ·go_wp2
    go_quiet (fail)
    exact zQ19x0
theorem zQ19x6 {p:Prop}(h:p:=by
 go_quiet ((go_at_call 31;exact Calls.quiet_of_same (z8 _ _ _ _)))
 exact zQ19x0):p:=h
theorem UG (p c b y d n:Int)(g o:Nat)(w:World)(H:Hq (FV w g o 4 p c b y d))(hn:0≤n∧n≤1000000)(hp0:¬p<0)(hpn:¬n<p):
 Calls Tryz.prog 104 #[.pointer (some ⟨g,o,none⟩),.int .i64 n] w (vY (gJ 4 p c b y d n) (bD 4 c n) w):=by
 have h0:=H.o.c0;have h1:=H.o.c1;have h2:=H.o.c2;have h3:=H.o.c3;have h4:=H.o.c4;have h5:=H.o.c5;have he:gJ 4 p c b y d n=(aK c 1 4&&decide (p≤n-c)&&j5 b y d):=by
  unfold gJ;rw[if_neg hp0]
  rfl
 rw[he];clear he;obtain⟨Y,hY⟩:∃Y,jP b y d=Y:=⟨_,rfl⟩;obtain⟨N,hN⟩:∃N,j5 b y d=N:=⟨_,rfl⟩
 simp only[hN]
 have HY:=qh hY;have HN:=qh hN;clear hY hN
 go_enter Tryz.func104,Tryz.ntmps104
 go_upto_region 1 with fail
 go_cut [6]from 9 to 27 (fun s6 wx=>s6=.bool Y∧wx=w)
 case first=>
  exact zQ19x1
 case rest=>
  obtain⟨rfl,rfl⟩:=hcut
  go_upto_region 2 with fail
  go_cut [7]from 28 to 46 (fun s7 wx=>s7=.bool N∧wx=wc)
  case first=>
   exact zQ19x5
  case rest=>
   obtain⟨rfl,rfl⟩:=hcut
   cases N
   ·go_wp2
    exact zQ19x6
   ·cases hI:aK c 1 4
    ·go_wp2
     exact zQ19x6
    ·have hI2:=OE hI
     have s1:IntKind.i64.wrap (n-c)=n-c:=IntWalk.i64_in _ qo;have s3:IntKind.i64.wrap (p+c)=p+c:=IntWalk.i64_in _ qo
     go_wp2
     exact zQ19x6
theorem UI (p c b y d n:Int)(g o:Nat)(w:World)(H:Hq (FV w g o 2 p c b y d))(hn:0≤n∧n≤1000000)(hp0:¬p<0)(hpn:¬n<p):
 Calls Tryz.prog 104 #[.pointer (some ⟨g,o,none⟩),.int .i64 n] w (vY (gJ 2 p c b y d n) (bD 2 c n) w):=by
 have h0:=H.o.c0;have h1:=H.o.c1;have h2:=H.o.c2;have h3:=H.o.c3;have h4:=H.o.c4;have h5:=H.o.c5;have he:gJ 2 p c b y d n=(aK c 0 4&&decide (p≤n-c)&&jP b y d):=by
  unfold gJ;rw[if_neg hp0]
  rfl
 rw[he];clear he;obtain⟨Y,hY⟩:∃Y,jP b y d=Y:=⟨_,rfl⟩;obtain⟨N,hN⟩:∃N,j5 b y d=N:=⟨_,rfl⟩
 simp only[hY]
 have HY:=qh hY;have HN:=qh hN;clear hY hN
 go_enter Tryz.func104,Tryz.ntmps104
 go_upto_region 1 with fail
 go_cut [6]from 9 to 27 (fun s6 wx=>s6=.bool Y∧wx=w)
 case first=>
  exact zQ19x1
 case rest=>
  obtain⟨rfl,rfl⟩:=hcut
  go_upto_region 2 with fail
  go_cut [7]from 28 to 46 (fun s7 wx=>s7=.bool N∧wx=wc)
  case first=>
   exact zQ19x5
  case rest=>
   obtain⟨rfl,rfl⟩:=hcut
   cases Y
   ·go_wp2
    exact zQ19x6
   ·cases hI:aK c 0 4
    ·go_wp2
     exact zQ19x6
    ·have hI2:=OE hI
     have s1:IntKind.i64.wrap (n-c)=n-c:=IntWalk.i64_in _ qo;have s2:IntKind.i64.wrap (n-c+1)=n-c+1:=IntWalk.i64_in _ qo;have s3:IntKind.i64.wrap (p+c)=p+c:=IntWalk.i64_in _ qo
     go_wp2
     exact zQ19x6
theorem zQ19x3 {p:Prop}(h:p:=by
 cases Y
 ·have s1:IntKind.i64.wrap (n+1)=n+1:=IntWalk.i64_in _ qo
  go_wp2
  go_quiet (fail)
  exact zQ19x0
 ·cases hI:aK c 1 4
  ·have s1:IntKind.i64.wrap (n+1)=n+1:=IntWalk.i64_in _ qo
   go_wp2_with (go_at_call 31;refine(dK _ _ _ _).mono ?_;rintro e w' ⟨rfl,rfl⟩)
   go_quiet (fail)
   exact zQ19x0
  ·have hI2:=OE hI
   have s1:IntKind.i64.wrap (n+1)=n+1:=IntWalk.i64_in _ qo;have s3:IntKind.i64.wrap (p+c)=p+c:=IntWalk.i64_in _ qo
   go_wp2_with (go_at_call 31;refine(dK _ _ _ _).mono ?_;rintro e w' ⟨rfl,rfl⟩)
   go_quiet (fail)
   exact zQ19x0):p:=h
theorem UF (p c b y d n:Int)(g o:Nat)(w:World)(H:Hq (FV w g o 5 p c b y d))(hn:0≤n∧n≤1000000)(hp0:¬p<0)(hpn:¬n<p):
 Calls Tryz.prog 104 #[.pointer (some ⟨g,o,none⟩),.int .i64 n] w (vY (gJ 5 p c b y d n) (bD 5 c n) w):=by
 have h0:=H.o.c0;have h1:=H.o.c1;have h2:=H.o.c2;have h3:=H.o.c3;have h4:=H.o.c4;have h5:=H.o.c5;have he:gJ 5 p c b y d n=(aK c 1 4&&jP b y d&&(if b=1 then decide (p≤n-c)else aK p c n)):=by
  unfold gJ;rw[if_neg hp0]
  rfl
 rw[he];clear he;obtain⟨Y,hY⟩:∃Y,jP b y d=Y:=⟨_,rfl⟩;obtain⟨N,hN⟩:∃N,j5 b y d=N:=⟨_,rfl⟩
 simp only[hY]
 have HY:=qh hY;have HN:=qh hN;clear hY hN
 go_enter Tryz.func104,Tryz.ntmps104
 go_upto_region 1 with fail
 go_cut [6]from 9 to 27 (fun s6 wx=>s6=.bool Y∧wx=w)
 case first=>
  exact zQ19x1
 case rest=>
  obtain⟨rfl,rfl⟩:=hcut
  go_upto_region 2 with fail
  go_cut [7]from 28 to 46 (fun s7 wx=>s7=.bool N∧wx=wc)
  case first=>
   exact zQ19x5
  case rest=>
   obtain⟨rfl,rfl⟩:=hcut
   by_cases hb:b=1
   ·subst hb
    exact zQ19x3
   ·have bb:(b==1)=false:=by simpa using hb
    exact zQ19x3
theorem UK (k p c b y d n:Int)(g o:Nat)(w:World)(H:Hq (FV w g o k p c b y d))(hn:0≤n∧n≤1000000)(hp0:¬p<0)(hpn:¬n<p)(hk:¬k=1∧¬k=2∧¬k=3∧¬k=4∧¬k=5):
 Calls Tryz.prog 104 #[.pointer (some ⟨g,o,none⟩),.int .i64 n] w (vY (gJ k p c b y d n) (bD k c n) w):=by
 have h0:=H.o.c0;have h1:=H.o.c1;have h2:=H.o.c2;have h3:=H.o.c3;have h4:=H.o.c4;have h5:=H.o.c5;have he:gJ k p c b y d n=false:=by
  unfold gJ;rw[if_neg hp0];rw[if_neg hk.1,if_neg hk.2.1,if_neg hk.2.2.1,if_neg hk.2.2.2.1,if_neg hk.2.2.2.2]
 rw[he];clear he;obtain⟨Y,hY⟩:∃Y,jP b y d=Y:=⟨_,rfl⟩;obtain⟨N,hN⟩:∃N,j5 b y d=N:=⟨_,rfl⟩;have HY:=qh hY;have HN:=qh hN;clear hY hN
 go_enter Tryz.func104,Tryz.ntmps104
 go_upto_region 1 with fail
 go_cut [6]from 9 to 27 (fun s6 wx=>s6=.bool Y∧wx=w)
 case first=>
  exact zQ19x1
 case rest=>
  obtain⟨rfl,rfl⟩:=hcut
  go_upto_region 2 with fail
  go_cut [7]from 28 to 46 (fun s7 wx=>s7=.bool N∧wx=wc)
  case first=>
   exact zQ19x5
  case rest=>
   obtain⟨rfl,rfl⟩:=hcut;obtain⟨k1,k2,k3,k4,k5⟩:=hk
   go_wp2
   go_ret2
   exact dH 0 rfl (fun h=>by cases h)
theorem aa6 (k p c b y d n:Int)(h:p<0):gJ k p c b y d n=false:=by unfold gJ;rw[if_pos h]
theorem aa7 (k p c b y d n:Int)(h:n<p):gJ k p c b y d n=false:=by
 cases hv:gJ k p c b y d n
 ·rfl
 ·exfalso
  unfold gJ at hv
  by_cases hp:p<0
  ·rw[if_pos hp]at hv;cases hv
  ·rw[if_neg hp]at hv
   by_cases h1:k=1
   ·rw[if_pos h1]at hv;simp at hv;omega
   ·rw[if_neg h1]at hv
    by_cases h2:k=2
    ·rw[if_pos h2]at hv;simp[aK]at hv;omega
    ·rw[if_neg h2]at hv
     by_cases h3:k=3
     ·rw[if_pos h3]at hv;simp at hv;omega
     ·rw[if_neg h3]at hv
      by_cases h4:k=4
      ·rw[if_pos h4]at hv;simp[aK]at hv;omega
      ·rw[if_neg h4]at hv
       by_cases h5:k=5
       ·rw[if_pos h5]at hv
        by_cases hb:b=1
        ·simp[aK,hb]at hv;omega
        ·simp[aK,hb]at hv;omega
       ·rw[if_neg h5]at hv;cases hv
theorem zJ (k p c b y d n:Int)(g o:Nat)(w:World)(H:Hq (FV w g o k p c b y d))(hn:0≤n∧n≤1000000):
 Calls Tryz.prog 104 #[.pointer (some ⟨g,o,none⟩),.int .i64 n] w (vY (gJ k p c b y d n) (bD k c n) w):=by
 by_cases hp:p<0
 ·rw[aa6 _ _ _ _ _ _ _ hp]
  exact(O0 k p c b y d n g o w H (.inl hp)).mono fun e w' ⟨v,q,he,_,hw⟩=>⟨v,q,he,(fun h=>by cases h),hw⟩
 by_cases hf:n<p
 ·rw[aa7 _ _ _ _ _ _ _ hf]
  exact(O0 k p c b y d n g o w H (.inr hf)).mono fun e w' ⟨v,q,he,_,hw⟩=>⟨v,q,he,(fun h=>by cases h),hw⟩
 by_cases h1:k=1
 ·subst h1;exact UJ p c b y d n g o w H hn hp hf
 by_cases h2:k=2
 ·subst h2;exact UI p c b y d n g o w H hn hp hf
 by_cases h3:k=3
 ·subst h3;exact UH p c b y d n g o w H hn hp hf
 by_cases h4:k=4
 ·subst h4;exact UG p c b y d n g o w H hn hp hf
 by_cases h5:k=5
 ·subst h5;exact UF p c b y d n g o w H hn hp hf
 exact UK k p c b y d n g o w H hn hp hf ⟨h1,h2,h3,h4,h5⟩
theorem ahT {w:World}{A:Option Addr}{n:Nat}{z:Nat→Int}(h:Rd w A (n*6) (fun j=>.int .i64 (z j))){k:Nat}(hk:k<n):
 ∃g o,A=some ⟨g,o,none⟩∧g<w.heap.size∧FV w g (o+k*6) (z (k*6)) (z (k*6+1)) (z (k*6+2)) (z (k*6+3)) (z (k*6+4)) (z (k*6+5)):=by
 obtain⟨g,o,e,hg,hr⟩:=h qo;refine⟨g,o,e,hg,?_,?_,?_,?_,?_,?_⟩
 ·exact hr (k*6) qo
 all_goals rw[Nat.add_assoc];exact hr _ qo
def R5 (z:Nat→Int)(n:Nat):Option Int:=if n≤2000 then cnt z 0 n else none
theorem F8 {z:Nat→Int}{k:Nat}{m:Int}(h:cnt z 0 k=some m):0≤m∧m≤12:=by
 induction k generalizing m with
 |zero=>simp[cnt]at h;omega
 |succ k ih=>
  simp only[cnt]at h
  cases h1:cnt z 0 k with
  |none=>rw[h1]at h;cases h
  |some m1=>
   rw[h1]at h
   simp only at h
   by_cases h2:gJ (z (k*6)) (z (k*6+1)) (z (k*6+2)) (z (k*6+3)) (z (k*6+4)) (z (k*6+5)) m1=true∧bD (z (k*6)) (z (k*6+2)) m1≤12
   ·rw[if_pos h2]at h
    injection h with h;subst h;exact⟨(DS h2.1).1,h2.2⟩
   ·rw[if_neg h2]at h;cases h
theorem MR {z:Nat→Int}{k:Nat}{m:Int}(h:cnt z 0 k=some m)(hv:gJ (z (k*6)) (z (k*6+1)) (z (k*6+2)) (z (k*6+3)) (z (k*6+4)) (z (k*6+5)) m=true)(ha:bD (z (k*6)) (z (k*6+2)) m≤12):cnt z 0 (k+1)=some (bD (z (k*6)) (z (k*6+2)) m):=by
 simp only[cnt,h]
 rw[if_pos ⟨hv,ha⟩]
theorem F6 {z:Nat→Int}{k:Nat}{m:Int}(h:cnt z 0 k=some m)(hv:¬(gJ (z (k*6)) (z (k*6+1)) (z (k*6+2)) (z (k*6+3)) (z (k*6+4)) (z (k*6+5)) m=true∧bD (z (k*6)) (z (k*6+2)) m≤12)):cnt z 0 (k+1)=none:=by
 simp only[cnt,h]
 rw[if_neg hv]
theorem WJ (A:OA)(n c:Nat)(z:Nat→Int)(w:World)(ha:Rd w A (n*6) (fun j=>.int .i64 (z j)))(hn:n≤1048576):
 Calls Tryz.prog 73 #[.slice A n c] w fun e w'=>∃v,e=.returned (.tuple #[.int .i64 v,.bool (R5 z n).isSome])∧∃q,w'=w.drewN q:=by
 have HA:=qh ha;clear ha
 go_enter Tryz.func73,Tryz.ntmps73
 go_wp2
 go_loopw [4,5] (fun m i wr=>∃k:Nat,k≤n∧i=.int .i64 k∧(∃x,Hq (cnt z 0 k=some x)∧m=.int .i64 x)∧∃q,wr=w.drewN q) (fun _ i _=>n-(intOf i).toNat)
 case atStart=>exact⟨0,Nat.zero_le _,rfl,⟨0,qh rfl,rfl⟩,0,rfl⟩
 case round=>
  obtain⟨k,hk,rfl,⟨x,HX,rfl⟩,q,rfl⟩:=hrel;have hxb:=F8 HX.o
  by_cases hlt:k<n
  ·obtain⟨g,o,rfl,hg,hev⟩:=ahT HA.o hlt
   obtain⟨E,hE⟩:=qx (gJ (z (k*6)) (z (k*6+1)) (z (k*6+2)) (z (k*6+3)) (z (k*6+4)) (z (k*6+5)) x);obtain⟨F,hF⟩:=qx (bD (z (k*6)) (z (k*6+2)) x);have hb:=fun h=>DS (k:=z (k*6)) (p:=z (k*6+1)) (c:=z (k*6+2)) (b:=z (k*6+3)) (y:=z (k*6+4)) (d:=z (k*6+5)) (n:=x) h;have hcall:∀w',Calls Tryz.prog 104 #[.pointer (some ⟨g,o+k*6,none⟩),.int .i64 x] (w.drewN w') (vY E F (w.drewN w')):=fun w'=>by
    rw[hE,hF];exact zJ _ _ _ _ _ _ x g (o+k*6) (w.drewN w') (qh ⟨hev.c0,hev.c1,hev.c2,hev.c3,hev.c4,hev.c5⟩) ⟨by omega,by omega⟩
   rw[←hE,←hF]at hb;have HC:=qh hcall;have HE:=qh hE;have HF:=qh hF;have BI:=qh hb;clear hcall hE hF hev hb
   go_wp2_with fail
   refine(HC.o q).mono ?_;rintro e w1 ⟨v,q1,rfl,hv,rfl⟩;have HV:=qh hv;clear hv
   cases E
   ·go_wp2
    go_ret2
    refine⟨_,NJ rfl ?_,_,rfl⟩;have:=rM z 0 (show k+1≤n by omega) (F6 HX.o (fun h=>by rw[←HE.o]at h;exact absurd h.1 qj))
    simp[R5,this]
   ·obtain rfl:v=F:=HV.o rfl
    have hb:=BI.o rfl
    by_cases h12:12<v
    ·go_wp2
     go_ret2
     refine⟨_,NJ rfl ?_,_,rfl⟩;have:=rM z 0 (show k+1≤n by omega) (F6 HX.o (fun h=>by rw[←HF.o]at h;omega))
     simp[R5,this]
    ·go_wp2
     go_roundw
     case rel=>exact⟨k+1,by omega,qg,⟨v,qh (by rw[HF.o];exact MR HX.o HE.o.symm (by rw[←HF.o];omega)),rfl⟩,_,rfl⟩
     case measure=>exact qs
  ·obtain rfl:n=k:=qo
   go_wp2
   go_ret2
   refine⟨_,NJ rfl ?_,_,rfl⟩;have hx:=HX.o;unfold R5
   by_cases h2:n≤2000
   ·simp[h2,hx];omega
   ·simp[h2];omega
theorem abH (A:OA)(n c:Nat)(z:Nat→Int)(w:World)(ha:Rd w A (n*6) (fun j=>.int .i64 (z j)))(hn:n≤1048576):
 Calls Tryz.prog 48 #[.slice A n c] w fun e w'=>e=.returned (.bool (R5 z n).isSome)∧∃q,w'=w.drewN q:=by
 have HC:=qh (WJ A n c z w ha hn);clear ha
 go_enter Tryz.func48,Tryz.ntmps48
 go_wp2_with fail
 refine HC.o.mono ?_;rintro e w1 ⟨v,rfl,q,rfl⟩
 go_wp2
 go_ret
 exact⟨rfl,_,rfl⟩
theorem abQ (A:OA)(n c:Nat)(z:Nat→Int)(w:World)(ha:Rd w A (n*6) (fun j=>.int .i64 (z j)))(hn:n≤1048576):
 Calls Tryz.prog 75 #[.int .i64 0,.slice A n c] w fun e w'=>∃v,e=.returned (.tuple #[.int .i64 v,.bool (cnt z 0 n).isSome])∧Below w.heap.size w w':=by
 have HA:=qh ha;clear ha
 go_enter Tryz.func75,Tryz.ntmps75
 go_wp2
 go_loopw [0,10] (fun m i wr=>∃k:Nat,k≤n∧i=.int .i64 k∧(∃x,Hq (cnt z 0 k=some x)∧m=.int .i64 x)∧Below w.heap.size w wr) (fun _ i _=>n-(intOf i).toNat)
 case atStart=>exact⟨0,Nat.zero_le _,rfl,⟨0,qh rfl,rfl⟩,Below.refl _ _⟩
 case round=>
  obtain⟨k,hk,rfl,⟨x,HX,rfl⟩,hbl⟩:=hrel;have HB:=qh hbl;clear hbl;have hxb:=F8 HX.o
  by_cases hlt:k<n
  ·obtain⟨g,o,rfl,hg,hev⟩:=ahT (HA.o.below HB.o) hlt
   obtain⟨k0,hk0⟩:=qx (z (k*6));obtain⟨p0,hp0⟩:=qx (z (k*6+1));obtain⟨c0,hc0⟩:=qx (z (k*6+2));obtain⟨b0,hb0⟩:=qx (z (k*6+3));obtain⟨y0,hy0⟩:=qx (z (k*6+4));obtain⟨d0,hd0⟩:=qx (z (k*6+5));rw[←hk0,←hp0,←hc0,←hb0,←hy0,←hd0]at hev;have HCS:=qh (MR HX.o);have HCT:=qh (F6 HX.o);rw[←hk0,←hp0,←hc0,←hb0,←hy0,←hd0]at HCS HCT;have a0:=hev.c0;have a1:=hev.c1;have a2:=hev.c2;have a3:=hev.c3;have a4:=hev.c4;have a5:=hev.c5;clear hev hk0 hp0 hc0 hb0 hy0 hd0;obtain⟨E,hE⟩:=qx (gJ k0 p0 c0 b0 y0 d0 x);have hb:=fun h=>DS (k:=k0) (p:=p0) (c:=c0) (b:=b0) (y:=y0) (d:=d0) (n:=x) h;have HE:=qh hE;have BI:=qh hb;clear hE hb
   go_wp2_with fail
   refine(ac4 k0 p0 c0 b0 y0 d0 x _ ⟨by omega,by omega⟩).mono ?_;rintro e w1 ⟨rfl,hb1⟩;rw[←HE.o];have x1:=fun o=>((aA hb1).1 wr.heap.size o qj).trans (rH rfl o);have HB1:=qh (HB.o.trans (Below.trans ((Below.refl _ _).alloc HB.o.size _) (hb1.mono (by simp;have:=HB.o.size;omega))));clear hb1
   cases E
   ·go_wp2
    go_ret2
    refine⟨_,NJ rfl ?_,HB1.o⟩;have:=rM z 0 (show k+1≤n by omega) (HCT.o (fun h=>by rw[←HE.o]at h;exact absurd h.1 qj))
    simp[this]
   ·have hb:=BI.o HE.o.symm
    go_wp2_with fail
    refine(CC k0 p0 c0 b0 y0 d0 x _ ⟨by omega,by omega⟩ ⟨by omega,by omega⟩).mono ?_;rintro e w2 ⟨rfl,hb2⟩;have HB2:=HB1.st hb2;clear hb2 x1;obtain⟨F,hF⟩:=qx (bD k0 c0 x);rw[←hF]at hb ⊢;have HF:=qh hF;clear hF
    by_cases h12:12<F
    ·go_wp2
     go_ret2
     refine⟨_,NJ rfl ?_,HB2.o⟩;have:=rM z 0 (show k+1≤n by omega) (HCT.o (fun h=>by rw[←HF.o]at h;omega))
     simp[this]
    ·go_wp2
     go_roundw
     case rel=>exact⟨k+1,by omega,qg,⟨F,qh (by rw[HF.o];exact HCS.o HE.o.symm (by rw[←HF.o];omega)),rfl⟩,HB2.o⟩
     case measure=>exact qs
  ·obtain rfl:n=k:=qo
   have Oj:=qh HX.o
   go_wp2
   go_ret2
   exact⟨_,NJ rfl (by rw[HX.o];rfl),HB.o⟩
theorem abR (A:OA)(n c:Nat)(z:Nat→Int)(w:World)(ha:Rd w A (n*6) (fun j=>.int .i64 (z j)))(hn:n≤1048576):
 Calls Tryz.prog 52 #[.slice A n c] w fun e w'=>e=.returned (.bool (R5 z n).isSome)∧Below w.heap.size w w':=by
 have HC:=qh (abQ A n c z w ha hn);clear ha
 go_enter Tryz.func52,Tryz.ntmps52
 go_wp2_with fail
 refine HC.o.mono ?_;rintro e w1 ⟨v,rfl,hb⟩;have HB:=qh hb;clear hb
 by_cases h2:n≤2000
 ·go_wp2
  all_goals go_ret
  all_goals exact⟨abZ (by unfold R5;rw[if_pos qo];first|(simp_all;done)|(simp_all;omega)),HB.o⟩
 ·go_wp2
  all_goals go_ret
  all_goals exact⟨abZ (by unfold R5;rw[if_neg qo];first|(simp_all;done)|(simp_all;omega)),HB.o⟩
end Go.Proofs.YtdnmhhohcedjbaaGreat
