/- Walks and plain lemmas. -/
import Derived.Test.YtmnbgjnipbpiaaaGreatDoorP02
import Derived.BigQuiet
import Derived.Deep.CutRange
import Derived.Test.YtmnbgjnipbpiaaaGreatDoorP04
set_option linter.unusedVariables false
set_option linter.unusedSimpArgs false
set_option maxHeartbeats 4000000
set_option maxRecDepth 20000
namespace Go.Proofs.YtmnbgjnipbpiaaaGreatDoor
open Go.RowKit
theorem cM (n lo hi:Int)(w:World):
 Calls Tryz.prog 51 #[.int .i64 n,.int .i64 lo,.int .i64 hi] w fun e w'=>e=.returned (.bool (a8 n lo hi))∧w=w':=by
 go_enter Tryz.func51,Tryz.ntmps51
 go_wp2
 all_goals go_ret
 all_goals exact⟨by simp[a8];omega,rfl⟩
theorem aR (n lo hi:Int)(w:World):
 Calls Tryz.prog 104 #[.int .i64 n,.int .i64 lo,.int .i64 hi] w fun e w'=>e=.returned (.bool (a8 n lo hi))∧w=w':=by
 go_enter Tryz.func104,Tryz.ntmps104
 go_wp2
 all_goals go_ret
 all_goals exact⟨by simp[a8];omega,rfl⟩
theorem jU (n:Int)(w:World):
 Calls Tryz.prog 159 #[.int .i64 n] w fun e w'=>e=.returned (.bool (a8 n 1 4))∧w=w':=by
 go_enter Tryz.func159,Tryz.ntmps159
 go_wp2_with ((go_at_call 104;refine(aR _ _ _ _).mono ?_;rintro e w' ⟨rfl,rfl⟩))
 go_ret
 exact⟨rfl,rfl⟩
theorem bU (n:Int)(w:World):
 Calls Tryz.prog 99 #[.int .i64 n] w fun e w'=>e=.returned (.bool (a8 n 1 4))∧w=w':=by
 go_enter Tryz.func99,Tryz.ntmps99
 go_wp2_with ((go_at_call 51;refine(cM _ _ _ _).mono ?_;rintro e w' ⟨rfl,rfl⟩))
 go_ret
 exact⟨rfl,rfl⟩
def tM (k p c b y d n:Int):Prop:=
 0≤p∧((k=1∧p≤n-2∧(c=1∨c= -1)∧b=0∧y=0∧d=0)∨
  (k=2∧0≤c∧c≤4∧p≤n-c∧(b=1∨b=2)∧1≤y∧y≤4∧(d=1∨d= -1))∨
  (k=3∧c=0∧p≤n∧(b=1∨b=2)∧1≤y∧y≤4∧(d=1∨d= -1))∨
  (k=4∧1≤c∧c≤4∧p≤n-c∧b=0∧y=0∧d=0)∨
  (k=5∧1≤c∧c≤4∧1≤y∧y≤4∧(d=1∨d= -1)∧((b=1∧p≤n-c)∨(b=2∧c≤p∧p≤n))))
instance (k p c b y d n:Int):Decidable (tM k p c b y d n):=by unfold tM;infer_instance
def aM (k c n:Int):Int:=if k=2 then n-c+1 else if k=3∨k=5 then n+1 else if k=4 then n-c else n
def iO (d:Int):Bool:=decide (d=1∨d= -1)
def aQ (b y d:Int):Bool:=a8 b 1 2&&a8 y 1 4&&iO d
theorem eC {n lo hi:Int}(h:a8 n lo hi=true):lo≤n∧n≤hi:=by simpa [a8]using h
theorem sJ (b:Int):(b==1||b==2)=a8 b 1 2:=by
 rw[Bool.eq_iff_iff]
 simp[a8]
 omega
theorem oO (d:Int):(d==1||d== -1)=iO d:=by
 rw[Bool.eq_iff_iff]
 simp[iO]
theorem c9 (b:Int)(w:World):Calls Tryz.prog 98 #[.int .i64 b] w fun e w'=>e=.returned (.bool (a8 b 1 2))∧w=w':=by
 go_enter Tryz.func98,Tryz.ntmps98
 go_wp2_with ((go_at_call 51;refine(cM _ _ _ _).mono ?_;rintro e w' ⟨rfl,rfl⟩))
 go_ret
 exact⟨rfl,rfl⟩
theorem oD (b:Int)(w:World):Calls Tryz.prog 158 #[.int .i64 b] w fun e w'=>e=.returned (.bool (a8 b 1 2))∧w=w':=by
 go_enter Tryz.func158,Tryz.ntmps158
 go_wp2
 all_goals go_ret
 ·obtain rfl:b=1:=by assumption
  exact⟨rfl,rfl⟩
 ·exact⟨qr (sJ b),rfl⟩
theorem c6 (d:Int)(w:World):Calls Tryz.prog 100 #[.int .i64 d] w fun e w'=>e=.returned (.bool (iO d))∧w=w':=by
 go_enter Tryz.func100,Tryz.ntmps100
 go_wp2
 all_goals go_ret
 ·obtain rfl:d=1:=by assumption
  exact⟨rfl,rfl⟩
 ·exact⟨qr (oO d),rfl⟩
theorem oC (d:Int)(w:World):Calls Tryz.prog 160 #[.int .i64 d] w fun e w'=>e=.returned (.bool (iO d))∧w=w':=by
 go_enter Tryz.func160,Tryz.ntmps160
 go_wp2
 all_goals go_ret
 ·obtain rfl:d=1:=by assumption
  exact⟨rfl,rfl⟩
 ·exact⟨qr (oO d),rfl⟩
theorem dF (k p c b y d:Int)(w:World):
 Calls Tryz.prog 145 #[.agg #[.int .i64 k,.int .i64 p,.int .i64 c,.int .i64 b,.int .i64 y,.int .i64 d]] w fun e w'=>e=.returned (.bool (aQ b y d))∧Below w.heap.size w w':=by
 go_enter Tryz.func145,Tryz.ntmps145
 go_wp2_with (first|(go_at_call 158;refine(oD _ _).mono ?_;rintro e w' ⟨rfl,rfl⟩)|(go_at_call 159;refine(jU _ _).mono ?_;rintro e w' ⟨rfl,rfl⟩)|(go_at_call 160;refine(oC _ _).mono ?_;rintro e w' ⟨rfl,rfl⟩))
 all_goals go_ret
 all_goals exact⟨by simp[aQ, *],qb⟩
theorem oV (k p c b y d n:Int)(w:World)(hn:0≤n∧n≤1000000)(hc: -1000000≤c∧c≤1000000):
 Calls Tryz.prog 111 #[.agg #[.int .i64 k,.int .i64 p,.int .i64 c,.int .i64 b,.int .i64 y,.int .i64 d],.int .i64 n] w fun e w'=>e=.returned (.int .i64 (aM k c n))∧Below w.heap.size w w':=by
 go_enter Tryz.func111,Tryz.ntmps111
 go_wp2
 all_goals go_ret
 all_goals exact⟨by simp_all [aM],qb⟩
theorem gH (b y d:Int):aQ b y d=true↔(b=1∨b=2)∧(1≤y∧y≤4)∧(d=1∨d= -1):=by
 simp only[aQ,a8,iO,Bool.and_eq_true,decide_eq_true_eq]
 constructor
 ·rintro⟨⟨⟨h1,h2⟩,h3,h4⟩,h5⟩
  exact⟨by omega,⟨h3,h4⟩,h5⟩
 ·rintro⟨h1,⟨h3,h4⟩,h5⟩
  exact⟨⟨⟨by omega,by omega⟩,h3,h4⟩,h5⟩
def aO (b y d:Int):Bool:=decide (b=0)&&decide (y=0)&&(d==0)
theorem mO (p c b y d n:Int)(w:World):
 Calls Tryz.prog 110 #[.agg #[.int .i64 3,.int .i64 p,.int .i64 c,.int .i64 b,.int .i64 y,.int .i64 d],.int .i64 n] w fun e w'=>e=.returned (.bool (decide (0≤p)&&(decide (c=0)&&decide (p≤n)&&aQ b y d)))∧Below w.heap.size w w':=by
 by_cases hp:p<0
 ·go_enter Tryz.func110,Tryz.ntmps110
  go_wp2
  go_ret
  exact⟨by rw[show decide (0≤p)=false from decide_eq_false qo];rfl,qz⟩
 ·rw[show decide (0≤p)=true from decide_eq_true qo]
  by_cases hc:c=0
  ·subst hc
   by_cases hpn:p≤n
   ·go_enter Tryz.func110,Tryz.ntmps110
    go_wp2_with ((go_at_call 145;refine(dF _ _ _ _ _ _ _).mono ?_;rintro e w' ⟨rfl,hb⟩;have HB:=qh hb;clear hb))
    all_goals go_ret
    all_goals exact⟨qr (by simp_all),by have hb:=HB.o;(repeat' first|with_reducible exact Below.refl _ _|with_reducible refine Below.alloc ?_ ?_ _|with_reducible refine Below.setCell ?_ ?_ _|with_reducible refine Below.drew ?_|with_reducible refine Below.drewN' ?_ _|with_reducible(refine Below.trans ?_ (Below.mono (by assumption) ?_))|exact Nat.le_refl _|(simp;done)|(simp;omega)|omega)⟩
   ·go_enter Tryz.func110,Tryz.ntmps110
    go_wp2
    all_goals go_ret
    all_goals exact⟨qr (by rw[show decide (p≤n)=false from decide_eq_false qo];simp),qz⟩
  ·go_enter Tryz.func110,Tryz.ntmps110
   go_wp2
   all_goals go_ret
   all_goals exact⟨qr qj,qz⟩
theorem mQ (p c b y d n:Int)(w:World)(hn:0≤n∧n≤1000000)(hp:0≤p):
 Calls Tryz.prog 110 #[.agg #[.int .i64 1,.int .i64 p,.int .i64 c,.int .i64 b,.int .i64 y,.int .i64 d],.int .i64 n] w fun e w'=>e=.returned (.bool (decide (p≤n-2)&&(decide (c=1)||decide (c= -1))&&aO b y d))∧Below w.heap.size w w':=by
 by_cases hpn:p≤n-2
 ·by_cases hc:c=1
  ·subst hc
   go_enter Tryz.func110,Tryz.ntmps110
   go_wp2
   all_goals go_ret
   all_goals exact⟨qr (by simp_all [aO]),qz⟩
  ·by_cases hc2:c= -1
   ·subst hc2
    go_enter Tryz.func110,Tryz.ntmps110
    go_wp2
    all_goals go_ret
    all_goals exact⟨qr (by simp_all [aO]),qz⟩
   ·rw[show decide (c=1)=false from decide_eq_false hc,show decide (c= -1)=false from decide_eq_false hc2]
    go_enter Tryz.func110,Tryz.ntmps110
    go_wp2
    all_goals go_ret
    all_goals exact⟨qr qj,qz⟩
 ·rw[show decide (p≤n-2)=false from decide_eq_false hpn]
  go_enter Tryz.func110,Tryz.ntmps110
  go_wp2
  all_goals go_ret
  all_goals exact⟨qr qj,qz⟩
theorem mP (p c b y d n:Int)(w:World)(hn:0≤n∧n≤1000000)(hp:0≤p):
 Calls Tryz.prog 110 #[.agg #[.int .i64 2,.int .i64 p,.int .i64 c,.int .i64 b,.int .i64 y,.int .i64 d],.int .i64 n] w fun e w'=>e=.returned (.bool (a8 c 0 4&&decide (p≤n-c)&&aQ b y d))∧Below w.heap.size w w':=by
 cases hc:a8 c 0 4
 ·go_enter Tryz.func110,Tryz.ntmps110
  go_wp2_with ((go_at_call 104;refine(aR _ _ _ _).mono ?_;rintro e w' ⟨rfl,rfl⟩))
  all_goals go_ret
  all_goals exact⟨qr qj,qz⟩
 ·have hcb:=eC hc
  by_cases hpn:p≤n-c
  ·rw[show decide (p≤n-c)=true from decide_eq_true hpn]
   go_enter Tryz.func110,Tryz.ntmps110
   go_wp2_with (first|(go_at_call 104;refine(aR _ _ _ _).mono ?_;rintro e w' ⟨rfl,rfl⟩)|(go_at_call 145;refine(dF _ _ _ _ _ _ _).mono ?_;rintro e w' ⟨rfl,hb⟩;have HB:=qh hb;clear hb))
   all_goals go_ret
   all_goals exact⟨qr (by simp_all),by have hb:=HB.o;(repeat' first|with_reducible exact Below.refl _ _|with_reducible refine Below.alloc ?_ ?_ _|with_reducible refine Below.setCell ?_ ?_ _|with_reducible refine Below.drew ?_|with_reducible refine Below.drewN' ?_ _|with_reducible(refine Below.trans ?_ (Below.mono (by assumption) ?_))|exact Nat.le_refl _|(simp;done)|(simp;omega)|omega)⟩
  ·rw[show decide (p≤n-c)=false from decide_eq_false hpn]
   go_enter Tryz.func110,Tryz.ntmps110
   go_wp2_with ((go_at_call 104;refine(aR _ _ _ _).mono ?_;rintro e w' ⟨rfl,rfl⟩))
   all_goals go_ret
   all_goals exact⟨qr qj,qz⟩
theorem mN (p c b y d n:Int)(w:World)(hn:0≤n∧n≤1000000)(hp:0≤p):
 Calls Tryz.prog 110 #[.agg #[.int .i64 4,.int .i64 p,.int .i64 c,.int .i64 b,.int .i64 y,.int .i64 d],.int .i64 n] w fun e w'=>e=.returned (.bool (a8 c 1 4&&decide (p≤n-c)&&aO b y d))∧Below w.heap.size w w':=by
 cases hc:a8 c 1 4
 ·go_enter Tryz.func110,Tryz.ntmps110
  go_wp2_with ((go_at_call 104;refine(aR _ _ _ _).mono ?_;rintro e w' ⟨rfl,rfl⟩))
  all_goals go_ret
  all_goals exact⟨qr qj,qz⟩
 ·have hcb:=eC hc
  by_cases hpn:p≤n-c
  ·rw[show decide (p≤n-c)=true from decide_eq_true hpn]
   go_enter Tryz.func110,Tryz.ntmps110
   go_wp2_with ((go_at_call 104;refine(aR _ _ _ _).mono ?_;rintro e w' ⟨rfl,rfl⟩))
   all_goals go_ret
   all_goals exact⟨qr (by simp_all [aO]),qz⟩
  ·rw[show decide (p≤n-c)=false from decide_eq_false hpn]
   go_enter Tryz.func110,Tryz.ntmps110
   go_wp2_with ((go_at_call 104;refine(aR _ _ _ _).mono ?_;rintro e w' ⟨rfl,rfl⟩))
   all_goals go_ret
   all_goals exact⟨qr qj,qz⟩
theorem cY (k p c b y d:Int)(v:Bool)(w:World)(hv:aQ b y d=v):
 Calls Tryz.prog 145 #[.agg #[.int .i64 k,.int .i64 p,.int .i64 c,.int .i64 b,.int .i64 y,.int .i64 d]] w fun e w'=>e=.returned (.bool v)∧Below w.heap.size w w':=
 hv▸dF k p c b y d w
theorem mM (p c b y d n:Int)(w:World)(hn:0≤n∧n≤1000000)(hp:0≤p):
 Calls Tryz.prog 110 #[.agg #[.int .i64 5,.int .i64 p,.int .i64 c,.int .i64 b,.int .i64 y,.int .i64 d],.int .i64 n] w fun e w'=>e=.returned (.bool (a8 c 1 4&&aQ b y d&&(if b=1 then decide (p≤n-c)else a8 p c n)))∧Below w.heap.size w w':=by
 cases hc:a8 c 1 4
 ·go_enter Tryz.func110,Tryz.ntmps110
  go_wp2_with ((go_at_call 104;refine(aR _ _ _ _).mono ?_;rintro e w' ⟨rfl,rfl⟩))
  all_goals go_ret
  all_goals exact⟨qr qj,qz⟩
 ·have hcb:=eC hc
  cases hy:aQ b y d
  ·have HY:=qh hy
   go_enter Tryz.func110,Tryz.ntmps110
   go_wp2_with (first|(go_at_call 104;refine(aR _ _ _ _).mono ?_;rintro e w' ⟨rfl,rfl⟩)|(go_at_call 145;refine(cY _ _ _ _ _ _ false _ (by have h:=HY.o;first|assumption|(simp_all;done))).mono ?_;rintro e w' ⟨rfl,hb⟩;have hx:=fun o=>((aA hb).1 w.heap.size o qj).trans (aZ rfl o);have HB:=qh hb;clear hb))
   all_goals go_ret
   all_goals exact⟨qr (by simp_all),by have hb:=HB.o;(repeat' first|with_reducible exact Below.refl _ _|with_reducible refine Below.alloc ?_ ?_ _|with_reducible refine Below.setCell ?_ ?_ _|with_reducible refine Below.drew ?_|with_reducible refine Below.drewN' ?_ _|with_reducible(refine Below.trans ?_ (Below.mono (by assumption) ?_))|exact Nat.le_refl _|(simp;done)|(simp;omega)|omega)⟩
  ·have HY:=qh hy
   by_cases hb1:b=1
   ·subst hb1
    rw[if_pos rfl]
    go_enter Tryz.func110,Tryz.ntmps110
    go_wp2_with (first|(go_at_call 104;refine(aR _ _ _ _).mono ?_;rintro e w' ⟨rfl,rfl⟩)|(go_at_call 145;refine(cY _ _ _ _ _ _ true _ (by have h:=HY.o;first|assumption|(simp_all;done))).mono ?_;rintro e w' ⟨rfl,hb⟩;have hx:=fun o=>((aA hb).1 w.heap.size o qj).trans (aZ rfl o);have HB:=qh hb;clear hb))
    all_goals go_ret
    all_goals exact⟨qr (by simp_all),by have hb:=HB.o;(repeat' first|with_reducible exact Below.refl _ _|with_reducible refine Below.alloc ?_ ?_ _|with_reducible refine Below.setCell ?_ ?_ _|with_reducible refine Below.drew ?_|with_reducible refine Below.drewN' ?_ _|with_reducible(refine Below.trans ?_ (Below.mono (by assumption) ?_))|exact Nat.le_refl _|(simp;done)|(simp;omega)|omega)⟩
   ·rw[if_neg hb1]
    go_enter Tryz.func110,Tryz.ntmps110
    go_wp2_with (first|(go_at_call 104;refine(aR _ _ _ _).mono ?_;rintro e w' ⟨rfl,rfl⟩)|(go_at_call 145;refine(cY _ _ _ _ _ _ true _ (by have h:=HY.o;first|assumption|(simp_all;done))).mono ?_;rintro e w' ⟨rfl,hb⟩;have hx:=fun o=>((aA hb).1 w.heap.size o qj).trans (aZ rfl o);have HB:=qh hb;clear hb))
    all_goals go_ret
    all_goals exact⟨qr (by simp_all),by have hb:=HB.o;(repeat' first|with_reducible exact Below.refl _ _|with_reducible refine Below.alloc ?_ ?_ _|with_reducible refine Below.setCell ?_ ?_ _|with_reducible refine Below.drew ?_|with_reducible refine Below.drewN' ?_ _|with_reducible(refine Below.trans ?_ (Below.mono (by assumption) ?_))|exact Nat.le_refl _|(simp;done)|(simp;omega)|omega)⟩
theorem mR (k p c b y d n:Int)(w:World)(hk:¬k=1∧¬k=2∧¬k=3∧¬k=4∧¬k=5)(hp:0≤p):
 Calls Tryz.prog 110 #[.agg #[.int .i64 k,.int .i64 p,.int .i64 c,.int .i64 b,.int .i64 y,.int .i64 d],.int .i64 n] w fun e w'=>e=.returned (.bool false)∧Below w.heap.size w w':=by
 obtain⟨h1,h2,h3,h4,h5⟩:=hk
 go_enter Tryz.func110,Tryz.ntmps110
 go_wp2
 all_goals go_ret
 all_goals exact⟨qr (by rfl),qz⟩
def bE (k p c b y d n:Int):Bool:=
 if p<0 then false
 else if k=1 then decide (p≤n-2)&&(decide (c=1)||decide (c= -1))&&aO b y d
 else if k=2 then a8 c 0 4&&decide (p≤n-c)&&aQ b y d
 else if k=3 then decide (0≤p)&&(decide (c=0)&&decide (p≤n)&&aQ b y d)
 else if k=4 then a8 c 1 4&&decide (p≤n-c)&&aO b y d
 else if k=5 then a8 c 1 4&&aQ b y d&&(if b=1 then decide (p≤n-c)else a8 p c n)
 else false
theorem jZ (k p c b y d n:Int)(w:World)(hp:p<0):
 Calls Tryz.prog 110 #[.agg #[.int .i64 k,.int .i64 p,.int .i64 c,.int .i64 b,.int .i64 y,.int .i64 d],.int .i64 n] w fun e w'=>e=.returned (.bool false)∧Below w.heap.size w w':=by
 go_enter Tryz.func110,Tryz.ntmps110
 go_wp2
 go_ret
 exact⟨rfl,qz⟩
theorem nL (k p c b y d n:Int)(w:World)(hn:0≤n∧n≤1000000):
 Calls Tryz.prog 110 #[.agg #[.int .i64 k,.int .i64 p,.int .i64 c,.int .i64 b,.int .i64 y,.int .i64 d],.int .i64 n] w fun e w'=>e=.returned (.bool (bE k p c b y d n))∧Below w.heap.size w w':=by
 unfold bE
 by_cases hp:p<0
 ·rw[if_pos hp]
  exact jZ k p c b y d n w hp
 ·rw[if_neg hp]
  have hp0:0≤p:=qo
  by_cases h1:k=1
  ·subst h1
   exact mQ p c b y d n w hn hp0
  ·rw[if_neg h1]
   by_cases h2:k=2
   ·subst h2
    exact mP p c b y d n w hn hp0
   ·rw[if_neg h2]
    by_cases h3:k=3
    ·subst h3
     exact mO p c b y d n w
    ·rw[if_neg h3]
     by_cases h4:k=4
     ·subst h4
      exact mN p c b y d n w hn hp0
     ·rw[if_neg h4]
      by_cases h5:k=5
      ·subst h5
       exact mM p c b y d n w hn hp0
      ·rw[if_neg h5]
       exact mR k p c b y d n w ⟨h1,h2,h3,h4,h5⟩ hp0
theorem dH {k p c b y d n:Int}(h:bE k p c b y d n=true):0≤aM k c n∧aM k c n≤n+1∧ -1000000≤c∧c≤1000000∧0≤n:=by
 unfold bE at h
 by_cases hp:p<0
 ·rw[if_pos hp]at h;cases h
 ·rw[if_neg hp]at h
  unfold aM
  by_cases h1:k=1
  ·subst h1
   simp at h
   simp
   omega
  ·rw[if_neg h1]at h
   by_cases h2:k=2
   ·subst h2
    simp[a8]at h
    simp
    omega
   ·rw[if_neg h2]at h
    by_cases h3:k=3
    ·subst h3
     simp at h
     simp
     omega
    ·rw[if_neg h3]at h
     by_cases h4:k=4
     ·subst h4
      simp[a8]at h
      simp
      omega
     ·rw[if_neg h4]at h
      by_cases h5:k=5
      ·subst h5
       simp[a8]at h
       simp
       obtain⟨⟨h6,_⟩,h7⟩:=h
       by_cases hb:b=1
       ·rw[if_pos hb]at h7
        omega
       ·rw[if_neg hb]at h7
        omega
      ·rw[if_neg h5]at h;cases h
def cnt (z:Nat→Int)(n:Int):Nat→Option Int
 |0=>some n
 |k+1=>match cnt z n k with
  |none=>none
  |some m=>if bE (z (k*6)) (z (k*6+1)) (z (k*6+2)) (z (k*6+3)) (z (k*6+4)) (z (k*6+5)) m=true∧aM (z (k*6)) (z (k*6+2)) m≤12 then some (aM (z (k*6)) (z (k*6+2)) m)else none
theorem eD (z:Nat→Int)(n:Int){j k:Nat}(h:j≤k)(hj:cnt z n j=none):cnt z n k=none:=by
 induction k with
 |zero=>
  obtain rfl:j=0:=qo;exact hj
 |succ k ih=>
  rcases Nat.lt_or_ge k j with hlt|hge
  ·obtain rfl:j=k+1:=qo
   exact hj
  ·simp only[cnt,ih hge]
structure dJ (w:World)(g o:Nat)(k p c b y d:Int):Prop where
 c0:w.cell? ⟨g,o,none⟩=some (.int .i64 k)
 c1:w.cell? ⟨g,o+1,none⟩=some (.int .i64 p)
 c2:w.cell? ⟨g,o+2,none⟩=some (.int .i64 c)
 c3:w.cell? ⟨g,o+3,none⟩=some (.int .i64 b)
 c4:w.cell? ⟨g,o+4,none⟩=some (.int .i64 y)
 c5:w.cell? ⟨g,o+5,none⟩=some (.int .i64 d)
def dU (ok:Bool)(a:Int)(w:World)(e:Ending)(w':World):Prop:=∃v q,e=.returned (.tuple #[.int .i64 v,.bool ok])∧(ok=true→v=a)∧w'=w.drewN q
theorem gS {a a':Int}{x x':Bool}(h1:a=a')(h2:x=x'):Ending.returned (.tuple #[.int .i64 a,.bool x])=.returned (.tuple #[.int .i64 a',.bool x']):=by rw[h1,h2]
theorem aD {ok x:Bool}{a v:Int}{w:World}(q:Nat)(h:x=ok)(hv:ok=true→v=a):dU ok a w (.returned (.tuple #[.int .i64 v,.bool x])) (w.drewN q):=⟨v,q,gS rfl h,hv,rfl⟩
theorem gT (k p c b y d n:Int)(g o:Nat)(w:World)(H:Hq (dJ w g o k p c b y d))(hp:p<0∨n<p):
 Calls Tryz.prog 53 #[.pointer (some ⟨g,o,none⟩),.int .i64 n] w (dU false 0 w):=by
 have h0:=H.o.c0;have h1:=H.o.c1;have h3:=H.o.c3;have h4:=H.o.c4;have h5:=H.o.c5
 go_enter Tryz.func53,Tryz.ntmps53
 go_upto_region 1 with fail
 go_cut [6]from 9 to 27 (fun s6 wx=>(∃x,s6=.bool x)∧wx=w)
 case first=>
  go_wp2_with (first|(go_at_call 98;refine(c9 _ _).mono ?_;rintro e w' ⟨rfl,rfl⟩)|(go_at_call 99;refine(bU _ _).mono ?_;rintro e w' ⟨rfl,rfl⟩)|(go_at_call 100;refine(c6 _ _).mono ?_;rintro e w' ⟨rfl,rfl⟩))
  all_goals go_meet
  all_goals exact⟨⟨_,rfl⟩,rfl⟩
 case rest=>
  obtain⟨⟨x,rfl⟩,rfl⟩:=hcut
  go_upto_region 2 with fail
  go_cut [7]from 28 to 46 (fun s7 wx=>(∃x,s7=.bool x)∧wx=wc)
  case first=>
   go_wp2
   all_goals go_meet
   all_goals exact⟨⟨_,rfl⟩,rfl⟩
  case rest=>
   obtain⟨⟨x',rfl⟩,rfl⟩:=hcut
   rcases hp with hp|hp
   ·go_wp2
    go_ret2
    exact aD 0 rfl (fun h=>by cases h)
   ·by_cases hp0:p<0
    ·go_wp2
     go_ret2
     exact aD 0 rfl (fun h=>by cases h)
    ·go_wp2
     go_ret2
     exact aD 0 rfl (fun h=>by cases h)
theorem dE (n lo hi:Int)(w:World):Calls Tryz.prog 51 #[.int .i64 n,.int .i64 lo,.int .i64 hi] w fun e w'=>e=.returned (.bool (a8 n lo hi))∧w'=w:=(cM n lo hi w).mono fun _ _ h=>⟨h.1,h.2.symm⟩
theorem jP (p c b y d n:Int)(g o:Nat)(w:World)(H:Hq (dJ w g o 1 p c b y d))(hn:0≤n∧n≤1000000)(hp0:¬p<0)(hpn:¬n<p):
 Calls Tryz.prog 53 #[.pointer (some ⟨g,o,none⟩),.int .i64 n] w (dU (bE 1 p c b y d n) (aM 1 c n) w):=by
 have h0:=H.o.c0;have h1:=H.o.c1;have h2:=H.o.c2;have h3:=H.o.c3;have h4:=H.o.c4;have h5:=H.o.c5;have he:bE 1 p c b y d n=(decide (p≤n-2)&&(decide (c=1)||decide (c= -1))&&aO b y d):=by
  unfold bE;rw[if_neg hp0]
  rfl
 rw[he];clear he;obtain⟨Y,hY⟩:∃Y,aQ b y d=Y:=⟨_,rfl⟩;obtain⟨N,hN⟩:∃N,aO b y d=N:=⟨_,rfl⟩
 simp only[hN]
 have HY:=qh hY;have HN:=qh hN;clear hY hN
 go_enter Tryz.func53,Tryz.ntmps53
 go_upto_region 1 with fail
 go_cut [6]from 9 to 27 (fun s6 wx=>s6=.bool Y∧wx=w)
 case first=>
  go_wp2_with (first|(go_at_call 98;refine(c9 _ _).mono ?_;rintro e w' ⟨rfl,rfl⟩)|(go_at_call 99;refine(bU _ _).mono ?_;rintro e w' ⟨rfl,rfl⟩)|(go_at_call 100;refine(c6 _ _).mono ?_;rintro e w' ⟨rfl,rfl⟩))
  all_goals go_meet
  all_goals exact⟨congrArg Value.bool (by rw[←HY.o];simp_all [aQ]),rfl⟩
 case rest=>
  obtain⟨rfl,rfl⟩:=hcut
  go_upto_region 2 with fail
  go_cut [7]from 28 to 46 (fun s7 wx=>s7=.bool N∧wx=wc)
  case first=>
   go_wp2
   all_goals go_meet
   all_goals exact⟨congrArg Value.bool (by rw[←HN.o];simp_all [aO]),rfl⟩
  case rest=>
   obtain⟨rfl,rfl⟩:=hcut
   cases N
   ·go_wp2
    go_quiet (fail)
    go_wp2_with fail
    go_ret2
    exact aD nq (by first|rfl|(simp;done)|(rw[Bool.eq_iff_iff];simp;done)|(simp_all;done)|(simp_all [a8];done)|(simp_all [a8];omega)) (fun h=>by first|rfl|cases h|(simp at h;done)|(exfalso;simp_all;done)|(exfalso;simp_all;omega))
   ·by_cases hc1:c=1
    ·subst hc1
     by_cases hl:p+1<n
     ·have s1:IntKind.i64.wrap (p+1)=p+1:=IntWalk.i64_in _ qo
      go_wp2
      go_quiet (fail)
      go_wp2_with fail
      go_ret2
      exact aD nq (by first|rfl|(simp;done)|(rw[Bool.eq_iff_iff];simp;done)|(simp_all;done)|(simp_all [a8];done)|(simp_all [a8];omega)) (fun h=>by first|rfl|cases h|(simp at h;done)|(exfalso;simp_all;done)|(exfalso;simp_all;omega))
     ·have s1:IntKind.i64.wrap (p+1)=p+1:=IntWalk.i64_in _ qo
      go_wp2
      go_quiet (fail)
      go_wp2_with fail
      go_ret2
      exact aD nq (by first|rfl|(simp;done)|(rw[Bool.eq_iff_iff];simp;done)|(simp_all;done)|(simp_all [a8];done)|(simp_all [a8];omega)) (fun h=>by first|rfl|cases h|(simp at h;done)|(exfalso;simp_all;done)|(exfalso;simp_all;omega))
    ·have b1:(c==1)=false:=by simpa using hc1
     by_cases hc2:c= -1
     ·subst hc2
      by_cases hl:p+1<n
      ·have s1:IntKind.i64.wrap (p+1)=p+1:=IntWalk.i64_in _ qo
       go_wp2
       go_quiet (fail)
       go_wp2_with fail
       go_ret2
       exact aD nq (by first|rfl|(simp;done)|(rw[Bool.eq_iff_iff];simp;done)|(simp_all;done)|(simp_all [a8];done)|(simp_all [a8];omega)) (fun h=>by first|rfl|cases h|(simp at h;done)|(exfalso;simp_all;done)|(exfalso;simp_all;omega))
      ·have s1:IntKind.i64.wrap (p+1)=p+1:=IntWalk.i64_in _ qo
       go_wp2
       go_quiet (fail)
       go_wp2_with fail
       go_ret2
       exact aD nq (by first|rfl|(simp;done)|(rw[Bool.eq_iff_iff];simp;done)|(simp_all;done)|(simp_all [a8];done)|(simp_all [a8];omega)) (fun h=>by first|rfl|cases h|(simp at h;done)|(exfalso;simp_all;done)|(exfalso;simp_all;omega))
     ·have b2:(c== -1)=false:=by simpa using hc2
      go_wp2
      go_quiet (fail)
      go_wp2_with fail
      go_ret2
      exact aD nq (by first|rfl|(simp;done)|(rw[Bool.eq_iff_iff];simp;done)|(simp_all;done)|(simp_all [a8];done)|(simp_all [a8];omega)) (fun h=>by first|rfl|cases h|(simp at h;done)|(exfalso;simp_all;done)|(exfalso;simp_all;omega))
theorem jN (p c b y d n:Int)(g o:Nat)(w:World)(H:Hq (dJ w g o 3 p c b y d))(hn:0≤n∧n≤1000000)(hp0:¬p<0)(hpn:¬n<p):
 Calls Tryz.prog 53 #[.pointer (some ⟨g,o,none⟩),.int .i64 n] w (dU (bE 3 p c b y d n) (aM 3 c n) w):=by
 have h0:=H.o.c0;have h1:=H.o.c1;have h2:=H.o.c2;have h3:=H.o.c3;have h4:=H.o.c4;have h5:=H.o.c5;have he:bE 3 p c b y d n=(decide (c=0)&&aQ b y d):=by
  unfold bE;rw[if_neg hp0];rw[if_neg (show¬(3:Int)=1 by decide),if_neg (show¬(3:Int)=2 by decide),if_pos rfl,show decide (0≤p)=true from decide_eq_true qo,show decide (p≤n)=true from decide_eq_true qo];simp
 rw[he];clear he;obtain⟨Y,hY⟩:∃Y,aQ b y d=Y:=⟨_,rfl⟩;obtain⟨N,hN⟩:∃N,aO b y d=N:=⟨_,rfl⟩
 simp only[hY]
 have HY:=qh hY;have HN:=qh hN;clear hY hN
 go_enter Tryz.func53,Tryz.ntmps53
 go_upto_region 1 with fail
 go_cut [6]from 9 to 27 (fun s6 wx=>s6=.bool Y∧wx=w)
 case first=>
  go_wp2_with (first|(go_at_call 98;refine(c9 _ _).mono ?_;rintro e w' ⟨rfl,rfl⟩)|(go_at_call 99;refine(bU _ _).mono ?_;rintro e w' ⟨rfl,rfl⟩)|(go_at_call 100;refine(c6 _ _).mono ?_;rintro e w' ⟨rfl,rfl⟩))
  all_goals go_meet
  all_goals exact⟨congrArg Value.bool (by rw[←HY.o];simp_all [aQ]),rfl⟩
 case rest=>
  obtain⟨rfl,rfl⟩:=hcut
  go_upto_region 2 with fail
  go_cut [7]from 28 to 46 (fun s7 wx=>s7=.bool N∧wx=wc)
  case first=>
   go_wp2
   all_goals go_meet
   all_goals exact⟨congrArg Value.bool (by rw[←HN.o];simp_all [aO]),rfl⟩
  case rest=>
   obtain⟨rfl,rfl⟩:=hcut;have s1:IntKind.i64.wrap (n+1)=n+1:=IntWalk.i64_in _ qo
   cases Y
   ·go_wp2
    go_quiet (fail)
    go_wp2_with fail
    go_ret2
    exact aD nq (by first|rfl|(simp;done)|(rw[Bool.eq_iff_iff];simp;done)|(simp_all;done)|(simp_all [a8];done)|(simp_all [a8];omega)) (fun h=>by first|rfl|cases h|(simp at h;done)|(exfalso;simp_all;done)|(exfalso;simp_all;omega))
   ·go_wp2
    go_quiet (fail)
    go_wp2_with fail
    go_ret2
    exact aD nq (by first|rfl|(simp;done)|(rw[Bool.eq_iff_iff];simp;done)|(simp_all;done)|(simp_all [a8];done)|(simp_all [a8];omega)) (fun h=>by first|rfl|cases h|(simp at h;done)|(exfalso;simp_all;done)|(exfalso;simp_all;omega))
theorem jM (p c b y d n:Int)(g o:Nat)(w:World)(H:Hq (dJ w g o 4 p c b y d))(hn:0≤n∧n≤1000000)(hp0:¬p<0)(hpn:¬n<p):
 Calls Tryz.prog 53 #[.pointer (some ⟨g,o,none⟩),.int .i64 n] w (dU (bE 4 p c b y d n) (aM 4 c n) w):=by
 have h0:=H.o.c0;have h1:=H.o.c1;have h2:=H.o.c2;have h3:=H.o.c3;have h4:=H.o.c4;have h5:=H.o.c5;have he:bE 4 p c b y d n=(a8 c 1 4&&decide (p≤n-c)&&aO b y d):=by
  unfold bE;rw[if_neg hp0]
  rfl
 rw[he];clear he;obtain⟨Y,hY⟩:∃Y,aQ b y d=Y:=⟨_,rfl⟩;obtain⟨N,hN⟩:∃N,aO b y d=N:=⟨_,rfl⟩
 simp only[hN]
 have HY:=qh hY;have HN:=qh hN;clear hY hN
 go_enter Tryz.func53,Tryz.ntmps53
 go_upto_region 1 with fail
 go_cut [6]from 9 to 27 (fun s6 wx=>s6=.bool Y∧wx=w)
 case first=>
  go_wp2_with (first|(go_at_call 98;refine(c9 _ _).mono ?_;rintro e w' ⟨rfl,rfl⟩)|(go_at_call 99;refine(bU _ _).mono ?_;rintro e w' ⟨rfl,rfl⟩)|(go_at_call 100;refine(c6 _ _).mono ?_;rintro e w' ⟨rfl,rfl⟩))
  all_goals go_meet
  all_goals exact⟨congrArg Value.bool (by rw[←HY.o];simp_all [aQ]),rfl⟩
 case rest=>
  obtain⟨rfl,rfl⟩:=hcut
  go_upto_region 2 with fail
  go_cut [7]from 28 to 46 (fun s7 wx=>s7=.bool N∧wx=wc)
  case first=>
   go_wp2
   all_goals go_meet
   all_goals exact⟨congrArg Value.bool (by rw[←HN.o];simp_all [aO]),rfl⟩
  case rest=>
   obtain⟨rfl,rfl⟩:=hcut
   cases N
   ·go_wp2
    go_quiet ((go_at_call 51;exact Calls.quiet_of_same (dE _ _ _ _)))
    go_wp2_with fail
    go_ret2
    exact aD nq (by first|rfl|(simp;done)|(rw[Bool.eq_iff_iff];simp;done)|(simp_all;done)|(simp_all [a8];done)|(simp_all [a8];omega)) (fun h=>by first|rfl|cases h|(simp at h;done)|(exfalso;simp_all;done)|(exfalso;simp_all;omega))
   ·cases hI:a8 c 1 4
    ·go_wp2
     go_quiet ((go_at_call 51;exact Calls.quiet_of_same (dE _ _ _ _)))
     go_wp2_with fail
     go_ret2
     exact aD nq (by first|rfl|(simp;done)|(rw[Bool.eq_iff_iff];simp;done)|(simp_all;done)|(simp_all [a8];done)|(simp_all [a8];omega)) (fun h=>by first|rfl|cases h|(simp at h;done)|(exfalso;simp_all;done)|(exfalso;simp_all;omega))
    ·have hI2:=eC hI
     have s1:IntKind.i64.wrap (n-c)=n-c:=IntWalk.i64_in _ qo;have s3:IntKind.i64.wrap (p+c)=p+c:=IntWalk.i64_in _ qo
     go_wp2
     go_quiet ((go_at_call 51;exact Calls.quiet_of_same (dE _ _ _ _)))
     go_wp2_with fail
     go_ret2
     exact aD nq (by first|rfl|(simp;done)|(rw[Bool.eq_iff_iff];simp;done)|(simp_all;done)|(simp_all [a8];done)|(simp_all [a8];omega)) (fun h=>by first|rfl|cases h|(simp at h;done)|(exfalso;simp_all;done)|(exfalso;simp_all;omega))
theorem jO (p c b y d n:Int)(g o:Nat)(w:World)(H:Hq (dJ w g o 2 p c b y d))(hn:0≤n∧n≤1000000)(hp0:¬p<0)(hpn:¬n<p):
 Calls Tryz.prog 53 #[.pointer (some ⟨g,o,none⟩),.int .i64 n] w (dU (bE 2 p c b y d n) (aM 2 c n) w):=by
 have h0:=H.o.c0;have h1:=H.o.c1;have h2:=H.o.c2;have h3:=H.o.c3;have h4:=H.o.c4;have h5:=H.o.c5;have he:bE 2 p c b y d n=(a8 c 0 4&&decide (p≤n-c)&&aQ b y d):=by
  unfold bE;rw[if_neg hp0]
  rfl
 rw[he];clear he;obtain⟨Y,hY⟩:∃Y,aQ b y d=Y:=⟨_,rfl⟩;obtain⟨N,hN⟩:∃N,aO b y d=N:=⟨_,rfl⟩
 simp only[hY]
 have HY:=qh hY;have HN:=qh hN;clear hY hN
 go_enter Tryz.func53,Tryz.ntmps53
 go_upto_region 1 with fail
 go_cut [6]from 9 to 27 (fun s6 wx=>s6=.bool Y∧wx=w)
 case first=>
  go_wp2_with (first|(go_at_call 98;refine(c9 _ _).mono ?_;rintro e w' ⟨rfl,rfl⟩)|(go_at_call 99;refine(bU _ _).mono ?_;rintro e w' ⟨rfl,rfl⟩)|(go_at_call 100;refine(c6 _ _).mono ?_;rintro e w' ⟨rfl,rfl⟩))
  all_goals go_meet
  all_goals exact⟨congrArg Value.bool (by rw[←HY.o];simp_all [aQ]),rfl⟩
 case rest=>
  obtain⟨rfl,rfl⟩:=hcut
  go_upto_region 2 with fail
  go_cut [7]from 28 to 46 (fun s7 wx=>s7=.bool N∧wx=wc)
  case first=>
   go_wp2
   all_goals go_meet
   all_goals exact⟨congrArg Value.bool (by rw[←HN.o];simp_all [aO]),rfl⟩
  case rest=>
   obtain⟨rfl,rfl⟩:=hcut
   cases Y
   ·go_wp2
    go_quiet ((go_at_call 51;exact Calls.quiet_of_same (dE _ _ _ _)))
    go_wp2_with fail
    go_ret2
    exact aD nq (by first|rfl|(simp;done)|(rw[Bool.eq_iff_iff];simp;done)|(simp_all;done)|(simp_all [a8];done)|(simp_all [a8];omega)) (fun h=>by first|rfl|cases h|(simp at h;done)|(exfalso;simp_all;done)|(exfalso;simp_all;omega))
   ·cases hI:a8 c 0 4
    ·go_wp2
     go_quiet ((go_at_call 51;exact Calls.quiet_of_same (dE _ _ _ _)))
     go_wp2_with fail
     go_ret2
     exact aD nq (by first|rfl|(simp;done)|(rw[Bool.eq_iff_iff];simp;done)|(simp_all;done)|(simp_all [a8];done)|(simp_all [a8];omega)) (fun h=>by first|rfl|cases h|(simp at h;done)|(exfalso;simp_all;done)|(exfalso;simp_all;omega))
    ·have hI2:=eC hI
     have s1:IntKind.i64.wrap (n-c)=n-c:=IntWalk.i64_in _ qo;have s2:IntKind.i64.wrap (n-c+1)=n-c+1:=IntWalk.i64_in _ qo;have s3:IntKind.i64.wrap (p+c)=p+c:=IntWalk.i64_in _ qo
     go_wp2
     go_quiet ((go_at_call 51;exact Calls.quiet_of_same (dE _ _ _ _)))
     go_wp2_with fail
     go_ret2
     exact aD nq (by first|rfl|(simp;done)|(rw[Bool.eq_iff_iff];simp;done)|(simp_all;done)|(simp_all [a8];done)|(simp_all [a8];omega)) (fun h=>by first|rfl|cases h|(simp at h;done)|(exfalso;simp_all;done)|(exfalso;simp_all;omega))
theorem jL (p c b y d n:Int)(g o:Nat)(w:World)(H:Hq (dJ w g o 5 p c b y d))(hn:0≤n∧n≤1000000)(hp0:¬p<0)(hpn:¬n<p):
 Calls Tryz.prog 53 #[.pointer (some ⟨g,o,none⟩),.int .i64 n] w (dU (bE 5 p c b y d n) (aM 5 c n) w):=by
 have h0:=H.o.c0;have h1:=H.o.c1;have h2:=H.o.c2;have h3:=H.o.c3;have h4:=H.o.c4;have h5:=H.o.c5;have he:bE 5 p c b y d n=(a8 c 1 4&&aQ b y d&&(if b=1 then decide (p≤n-c)else a8 p c n)):=by
  unfold bE;rw[if_neg hp0]
  rfl
 rw[he];clear he;obtain⟨Y,hY⟩:∃Y,aQ b y d=Y:=⟨_,rfl⟩;obtain⟨N,hN⟩:∃N,aO b y d=N:=⟨_,rfl⟩
 simp only[hY]
 have HY:=qh hY;have HN:=qh hN;clear hY hN
 go_enter Tryz.func53,Tryz.ntmps53
 go_upto_region 1 with fail
 go_cut [6]from 9 to 27 (fun s6 wx=>s6=.bool Y∧wx=w)
 case first=>
  go_wp2_with (first|(go_at_call 98;refine(c9 _ _).mono ?_;rintro e w' ⟨rfl,rfl⟩)|(go_at_call 99;refine(bU _ _).mono ?_;rintro e w' ⟨rfl,rfl⟩)|(go_at_call 100;refine(c6 _ _).mono ?_;rintro e w' ⟨rfl,rfl⟩))
  all_goals go_meet
  all_goals exact⟨congrArg Value.bool (by rw[←HY.o];simp_all [aQ]),rfl⟩
 case rest=>
  obtain⟨rfl,rfl⟩:=hcut
  go_upto_region 2 with fail
  go_cut [7]from 28 to 46 (fun s7 wx=>s7=.bool N∧wx=wc)
  case first=>
   go_wp2
   all_goals go_meet
   all_goals exact⟨congrArg Value.bool (by rw[←HN.o];simp_all [aO]),rfl⟩
  case rest=>
   obtain⟨rfl,rfl⟩:=hcut
   by_cases hb:b=1
   ·subst hb
    cases Y
    ·have s1:IntKind.i64.wrap (n+1)=n+1:=IntWalk.i64_in _ qo
     go_wp2
     go_quiet (fail)
     go_wp2_with fail
     go_ret2
     exact aD nq (by first|rfl|(simp;done)|(rw[Bool.eq_iff_iff];simp;done)|(simp_all;done)|(simp_all [a8];done)|(simp_all [a8];omega)) (fun h=>by first|rfl|cases h|(simp at h;done)|(exfalso;simp_all;done)|(exfalso;simp_all;omega))
    ·cases hI:a8 c 1 4
     ·have s1:IntKind.i64.wrap (n+1)=n+1:=IntWalk.i64_in _ qo
      go_wp2_with (go_at_call 51;refine(cM _ _ _ _).mono ?_;rintro e w' ⟨rfl,rfl⟩)
      go_quiet (fail)
      go_wp2_with fail
      go_ret2
      exact aD nq (by first|rfl|(simp;done)|(rw[Bool.eq_iff_iff];simp;done)|(simp_all;done)|(simp_all [a8];done)|(simp_all [a8];omega)) (fun h=>by first|rfl|cases h|(simp at h;done)|(exfalso;simp_all;done)|(exfalso;simp_all;omega))
     ·have hI2:=eC hI
      have s1:IntKind.i64.wrap (n+1)=n+1:=IntWalk.i64_in _ qo;have s3:IntKind.i64.wrap (p+c)=p+c:=IntWalk.i64_in _ qo
      go_wp2_with (go_at_call 51;refine(cM _ _ _ _).mono ?_;rintro e w' ⟨rfl,rfl⟩)
      go_quiet (fail)
      go_wp2_with fail
      go_ret2
      exact aD nq (by first|rfl|(simp;done)|(rw[Bool.eq_iff_iff];simp;done)|(simp_all;done)|(simp_all [a8];done)|(simp_all [a8];omega)) (fun h=>by first|rfl|cases h|(simp at h;done)|(exfalso;simp_all;done)|(exfalso;simp_all;omega))
   ·have bb:(b==1)=false:=by simpa using hb
    cases Y
    ·have s1:IntKind.i64.wrap (n+1)=n+1:=IntWalk.i64_in _ qo
     go_wp2
     go_quiet (fail)
     go_wp2_with fail
     go_ret2
     exact aD nq (by first|rfl|(simp;done)|(rw[Bool.eq_iff_iff];simp;done)|(simp_all;done)|(simp_all [a8];done)|(simp_all [a8];omega)) (fun h=>by first|rfl|cases h|(simp at h;done)|(exfalso;simp_all;done)|(exfalso;simp_all;omega))
    ·cases hI:a8 c 1 4
     ·have s1:IntKind.i64.wrap (n+1)=n+1:=IntWalk.i64_in _ qo
      go_wp2_with (go_at_call 51;refine(cM _ _ _ _).mono ?_;rintro e w' ⟨rfl,rfl⟩)
      go_quiet (fail)
      go_wp2_with fail
      go_ret2
      exact aD nq (by first|rfl|(simp;done)|(rw[Bool.eq_iff_iff];simp;done)|(simp_all;done)|(simp_all [a8];done)|(simp_all [a8];omega)) (fun h=>by first|rfl|cases h|(simp at h;done)|(exfalso;simp_all;done)|(exfalso;simp_all;omega))
     ·have hI2:=eC hI
      have s1:IntKind.i64.wrap (n+1)=n+1:=IntWalk.i64_in _ qo;have s3:IntKind.i64.wrap (p+c)=p+c:=IntWalk.i64_in _ qo
      go_wp2_with (go_at_call 51;refine(cM _ _ _ _).mono ?_;rintro e w' ⟨rfl,rfl⟩)
      go_quiet (fail)
      go_wp2_with fail
      go_ret2
      exact aD nq (by first|rfl|(simp;done)|(rw[Bool.eq_iff_iff];simp;done)|(simp_all;done)|(simp_all [a8];done)|(simp_all [a8];omega)) (fun h=>by first|rfl|cases h|(simp at h;done)|(exfalso;simp_all;done)|(exfalso;simp_all;omega))
theorem jQ (k p c b y d n:Int)(g o:Nat)(w:World)(H:Hq (dJ w g o k p c b y d))(hn:0≤n∧n≤1000000)(hp0:¬p<0)(hpn:¬n<p)(hk:¬k=1∧¬k=2∧¬k=3∧¬k=4∧¬k=5):
 Calls Tryz.prog 53 #[.pointer (some ⟨g,o,none⟩),.int .i64 n] w (dU (bE k p c b y d n) (aM k c n) w):=by
 have h0:=H.o.c0;have h1:=H.o.c1;have h2:=H.o.c2;have h3:=H.o.c3;have h4:=H.o.c4;have h5:=H.o.c5;have he:bE k p c b y d n=false:=by
  unfold bE;rw[if_neg hp0];rw[if_neg hk.1,if_neg hk.2.1,if_neg hk.2.2.1,if_neg hk.2.2.2.1,if_neg hk.2.2.2.2]
 rw[he];clear he;obtain⟨Y,hY⟩:∃Y,aQ b y d=Y:=⟨_,rfl⟩;obtain⟨N,hN⟩:∃N,aO b y d=N:=⟨_,rfl⟩;have HY:=qh hY;have HN:=qh hN;clear hY hN
 go_enter Tryz.func53,Tryz.ntmps53
 go_upto_region 1 with fail
 go_cut [6]from 9 to 27 (fun s6 wx=>s6=.bool Y∧wx=w)
 case first=>
  go_wp2_with (first|(go_at_call 98;refine(c9 _ _).mono ?_;rintro e w' ⟨rfl,rfl⟩)|(go_at_call 99;refine(bU _ _).mono ?_;rintro e w' ⟨rfl,rfl⟩)|(go_at_call 100;refine(c6 _ _).mono ?_;rintro e w' ⟨rfl,rfl⟩))
  all_goals go_meet
  all_goals exact⟨congrArg Value.bool (by rw[←HY.o];simp_all [aQ]),rfl⟩
 case rest=>
  obtain⟨rfl,rfl⟩:=hcut
  go_upto_region 2 with fail
  go_cut [7]from 28 to 46 (fun s7 wx=>s7=.bool N∧wx=wc)
  case first=>
   go_wp2
   all_goals go_meet
   all_goals exact⟨congrArg Value.bool (by rw[←HN.o];simp_all [aO]),rfl⟩
  case rest=>
   obtain⟨rfl,rfl⟩:=hcut;obtain⟨k1,k2,k3,k4,k5⟩:=hk
   go_wp2
   go_ret2
   exact aD 0 rfl (fun h=>by cases h)
theorem rE (k p c b y d n:Int)(h:p<0):bE k p c b y d n=false:=by unfold bE;rw[if_pos h]
theorem rF (k p c b y d n:Int)(h:n<p):bE k p c b y d n=false:=by
 cases hv:bE k p c b y d n
 ·rfl
 ·exfalso
  unfold bE at hv
  by_cases hp:p<0
  ·rw[if_pos hp]at hv;cases hv
  ·rw[if_neg hp]at hv
   by_cases h1:k=1
   ·rw[if_pos h1]at hv;simp at hv;omega
   ·rw[if_neg h1]at hv
    by_cases h2:k=2
    ·rw[if_pos h2]at hv;simp[a8]at hv;omega
    ·rw[if_neg h2]at hv
     by_cases h3:k=3
     ·rw[if_pos h3]at hv;simp at hv;omega
     ·rw[if_neg h3]at hv
      by_cases h4:k=4
      ·rw[if_pos h4]at hv;simp[a8]at hv;omega
      ·rw[if_neg h4]at hv
       by_cases h5:k=5
       ·rw[if_pos h5]at hv
        by_cases hb:b=1
        ·simp[a8,hb]at hv;omega
        ·simp[a8,hb]at hv;omega
       ·rw[if_neg h5]at hv;cases hv
theorem kL (k p c b y d n:Int)(g o:Nat)(w:World)(H:Hq (dJ w g o k p c b y d))(hn:0≤n∧n≤1000000):
 Calls Tryz.prog 53 #[.pointer (some ⟨g,o,none⟩),.int .i64 n] w (dU (bE k p c b y d n) (aM k c n) w):=by
 by_cases hp:p<0
 ·rw[rE _ _ _ _ _ _ _ hp]
  exact(gT k p c b y d n g o w H (.inl hp)).mono fun e w' ⟨v,q,he,_,hw⟩=>⟨v,q,he,(fun h=>by cases h),hw⟩
 by_cases hf:n<p
 ·rw[rF _ _ _ _ _ _ _ hf]
  exact(gT k p c b y d n g o w H (.inr hf)).mono fun e w' ⟨v,q,he,_,hw⟩=>⟨v,q,he,(fun h=>by cases h),hw⟩
 by_cases h1:k=1
 ·subst h1;exact jP p c b y d n g o w H hn hp hf
 by_cases h2:k=2
 ·subst h2;exact jO p c b y d n g o w H hn hp hf
 by_cases h3:k=3
 ·subst h3;exact jN p c b y d n g o w H hn hp hf
 by_cases h4:k=4
 ·subst h4;exact jM p c b y d n g o w H hn hp hf
 by_cases h5:k=5
 ·subst h5;exact jL p c b y d n g o w H hn hp hf
 exact jQ k p c b y d n g o w H hn hp hf ⟨h1,h2,h3,h4,h5⟩
theorem kZ {w:World}{A:Option Addr}{n:Nat}{z:Nat→Int}(h:Rd w A (n*6) (fun j=>.int .i64 (z j))){k:Nat}(hk:k<n):
 ∃g o,A=some ⟨g,o,none⟩∧g<w.heap.size∧dJ w g (o+k*6) (z (k*6)) (z (k*6+1)) (z (k*6+2)) (z (k*6+3)) (z (k*6+4)) (z (k*6+5)):=by
 obtain⟨g,o,e,hg,hr⟩:=h qo;refine⟨g,o,e,hg,?_,?_,?_,?_,?_,?_⟩
 ·exact hr (k*6) qo
 all_goals rw[Nat.add_assoc];exact hr _ qo
abbrev bP:=Int×List Int×List Int
def iR (o:List bP)(s:List Int):List bP:=match o.getLast? with
 |some b=>o.dropLast++[(b.1,b.2.1,b.2.2++s)]
 |none=>[]
end Go.Proofs.YtmnbgjnipbpiaaaGreatDoor
