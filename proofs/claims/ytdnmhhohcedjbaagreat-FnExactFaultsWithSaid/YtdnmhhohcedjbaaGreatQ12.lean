/- Walks and plain lemmas. -/
import Derived.Test.YtdnmhhohcedjbaaGreatQ07
import Derived.Shelf.SlSortCmp.QuietGrown
import Derived.Deep.CutRange
import Derived.Lib.AppendZeros
import Derived.Shelf.SortM.Plain
import Derived.Shelf.SortM.SortNone
import Derived.Lib.MakeNoZero
import Derived.Laws.CopyOwn
import Derived.Test.YtdnmhhohcedjbaaGreatQ05
set_option linter.unusedVariables false
set_option linter.unusedSimpArgs false
set_option maxHeartbeats 4000000
set_option maxRecDepth 20000
namespace Go.Proofs.YtdnmhhohcedjbaaGreat
open Go.RowKit
def kG (b a:Int):Bool:=aK b 1 2&&aK a 0 23
def aW (k d fb fa tb ta c r:Int):Bool:=
 if k=1∨k=2∨k=3 then kA d&&(kG fb fa&&(aK c 1 4&&((tb==0)&&((ta==0)&&(r==0)))))
 else if k=4 then kG fb fa&&(kG tb ta&&((fb !=tb)&&((d==0)&&((c==0)&&(r==0)))))
 else if k=5 then kG fb fa&&(kG tb ta&&((fb !=tb)&&(kA d&&(aK c 1 4&&(r==0)))))
 else if k=6 then kG fb fa&&((d==0)&&((tb==0)&&((ta==0)&&((c==0)&&(r==0)))))
 else if k=7 then aK r (-3) 3&&((d==0)&&((fb==0)&&((fa==0)&&((tb==0)&&((ta==0)&&(c==0))))))
 else if k=8 then kA d&&(aK c 1 4&&((fb==0)&&((fa==0)&&((tb==0)&&((ta==0)&&(r==0))))))
 else if k=9 then aK c 1 4&&((d==0)&&((fb==0)&&((fa==0)&&((tb==0)&&((ta==0)&&(r==0))))))
 else false
theorem dO (b a:Int)(w:World):Calls Tryz.prog 151 #[.agg #[.int .i64 b,.int .i64 a]] w fun e w'=>e=.returned (.bool (kG b a))∧Below w.heap.size w w':=by
 go_enter Tryz.func151,Tryz.ntmps151
 go_wp2_with (first|(go_at_call 168;refine(Kz _ _).mono ?_;rintro e w' ⟨rfl,rfl⟩)|(go_at_call 37;refine(eB _ _ _ _).mono ?_;rintro e w' ⟨rfl,rfl⟩))
 all_goals go_ret
 all_goals exact⟨qr (by simp_all [kG]),qz⟩
theorem nK (r:Int)(w:World):Calls Tryz.prog 154 #[.int .i64 r] w fun e w'=>e=.returned (.bool (aK r (-3) 3))∧w=w':=by
 go_enter Tryz.func154,Tryz.ntmps154
 go_wp2_with ((go_at_call 37;refine(eB _ _ _ _).mono ?_;rintro e w' ⟨rfl,rfl⟩))
 go_ret
 exact⟨rfl,rfl⟩
theorem nM (fb fa tb ta:Int)(w:World):Calls Tryz.prog 153 #[.agg #[.int .i64 fb,.int .i64 fa],.agg #[.int .i64 tb,.int .i64 ta]] w fun e w'=>e=.returned (.bool (kG fb fa&&(kG tb ta&&(fb !=tb))))∧Below w.heap.size w w':=by
 cases h1:kG fb fa
 ·go_enter Tryz.func153,Tryz.ntmps153
  go_wp2_with fail
  refine(dO fb fa _).mono ?_;rintro e w1 ⟨rfl,hb1⟩;rw[h1];have HB1:=qh (show Below w.heap.size w w1 from qz);clear hb1
  go_wp2_with fail
  go_ret
  exact⟨rfl,HB1.o⟩
 ·cases h2:kG tb ta
  ·go_enter Tryz.func153,Tryz.ntmps153
   go_wp2_with fail
   refine(dO fb fa _).mono ?_;rintro e w1 ⟨rfl,hb1⟩;rw[h1];have HB1:=qh (show Below w.heap.size w w1 from qz);have X1:=qh (aB.below ((aB.at_ w 65 #[.int .i64 fb,.int .i64 fa] rfl).alloc _) hb1 (by first|(simp;done)|(simp;omega)));have Y1:=qh (aB.below (aB.at_ (g':=w.heap.size+1) _ 65 #[.int .i64 tb,.int .i64 ta] qj) hb1 (by first|(simp;done)|(simp;omega)));have x1:=fun o=>X1.out.cell o;have y1:=fun o=>Y1.out.cell o;have z1:=X1.out.lt;have z2:=Y1.out.lt;clear hb1
   go_wp2_with fail
   refine(dO tb ta _).mono ?_;rintro e w2 ⟨rfl,hb2⟩;rw[h2];have HB2:=HB1.st hb2;clear hb2
   go_wp2_with fail
   go_ret
   exact⟨rfl,HB2.o⟩
  ·go_enter Tryz.func153,Tryz.ntmps153
   go_wp2_with fail
   refine(dO fb fa _).mono ?_;rintro e w1 ⟨rfl,hb1⟩;rw[h1];have HB1:=qh (show Below w.heap.size w w1 from qz);have X1:=qh (aB.below ((aB.at_ w 65 #[.int .i64 fb,.int .i64 fa] rfl).alloc _) hb1 (by first|(simp;done)|(simp;omega)));have Y1:=qh (aB.below (aB.at_ (g':=w.heap.size+1) _ 65 #[.int .i64 tb,.int .i64 ta] qj) hb1 (by first|(simp;done)|(simp;omega)));have x1:=fun o=>X1.out.cell o;have y1:=fun o=>Y1.out.cell o;have z1:=X1.out.lt;have z2:=Y1.out.lt;clear hb1
   go_wp2_with fail
   refine(dO tb ta _).mono ?_;rintro e w2 ⟨rfl,hb2⟩;rw[h2];have HB2:=HB1.st hb2;have x2:=fun o=>(X1.out.below hb2 z1).cell o;have y2:=fun o=>(Y1.out.below hb2 z2).cell o;clear hb2 x1 y1
   go_wp2_with fail
   all_goals go_ret
   all_goals exact⟨qr (by rfl),HB2.o⟩
theorem zQ12x0 {p:Prop}(h:p:=by
 go_enter Tryz.func122,Tryz.ntmps122
 go_wp2_with (first|(go_at_call 150;refine(pB _ _).mono ?_;rintro e w' ⟨rfl,rfl⟩)|(go_at_call 152;refine(jT _ _).mono ?_;rintro e w' ⟨rfl,rfl⟩)|(go_at_call 154;refine(nK _ _).mono ?_;rintro e w' ⟨rfl,rfl⟩)|(go_at_call 151;refine(dO _ _ _).mono ?_;rintro e w1 ⟨rfl,hb1⟩;have x1:=fun o=>(aB.below (aB.at_ w 67 _ rfl) hb1 (by first|(simp;done)|(simp;omega))).cell o)|(go_at_call 153;refine(nM _ _ _ _ _).mono ?_;rintro e w1 ⟨rfl,hb1⟩;have x1:=fun o=>(aB.below (aB.at_ w 67 _ rfl) hb1 (by first|(simp;done)|(simp;omega))).cell o))
 all_goals go_ret
 all_goals exact⟨qr (by first|rfl|(simp_all [aW];done)|(simp_all [aW];intro a b e;exact absurd ((by assumption:_→_→_) a b) e)),qz⟩):p:=h
theorem MF (k d fb fa tb ta c r:Int)(hk:k=1∨k=2∨k=3)(w:World):Calls Tryz.prog 122 #[.agg #[.int .i64 k,.int .i64 d,.int .i64 fb,.int .i64 fa,.int .i64 tb,.int .i64 ta,.int .i64 c,.int .i64 r]] w fun e w'=>e=.returned (.bool (aW k d fb fa tb ta c r))∧Below w.heap.size w w':=by
 rcases hk with rfl|rfl|rfl
 all_goals
  exact zQ12x0
theorem ME (k d fb fa tb ta c r:Int)(hk:k=4)(w:World):Calls Tryz.prog 122 #[.agg #[.int .i64 k,.int .i64 d,.int .i64 fb,.int .i64 fa,.int .i64 tb,.int .i64 ta,.int .i64 c,.int .i64 r]] w fun e w'=>e=.returned (.bool (aW k d fb fa tb ta c r))∧Below w.heap.size w w':=by
 subst hk
 exact zQ12x0
theorem MD (k d fb fa tb ta c r:Int)(hk:k=5)(w:World):Calls Tryz.prog 122 #[.agg #[.int .i64 k,.int .i64 d,.int .i64 fb,.int .i64 fa,.int .i64 tb,.int .i64 ta,.int .i64 c,.int .i64 r]] w fun e w'=>e=.returned (.bool (aW k d fb fa tb ta c r))∧Below w.heap.size w w':=by
 subst hk
 exact zQ12x0
theorem MC (k d fb fa tb ta c r:Int)(hk:k=6)(w:World):Calls Tryz.prog 122 #[.agg #[.int .i64 k,.int .i64 d,.int .i64 fb,.int .i64 fa,.int .i64 tb,.int .i64 ta,.int .i64 c,.int .i64 r]] w fun e w'=>e=.returned (.bool (aW k d fb fa tb ta c r))∧Below w.heap.size w w':=by
 subst hk
 exact zQ12x0
theorem MB (k d fb fa tb ta c r:Int)(hk:k=7)(w:World):Calls Tryz.prog 122 #[.agg #[.int .i64 k,.int .i64 d,.int .i64 fb,.int .i64 fa,.int .i64 tb,.int .i64 ta,.int .i64 c,.int .i64 r]] w fun e w'=>e=.returned (.bool (aW k d fb fa tb ta c r))∧Below w.heap.size w w':=by
 subst hk
 exact zQ12x0
theorem MA (k d fb fa tb ta c r:Int)(hk:k=8)(w:World):Calls Tryz.prog 122 #[.agg #[.int .i64 k,.int .i64 d,.int .i64 fb,.int .i64 fa,.int .i64 tb,.int .i64 ta,.int .i64 c,.int .i64 r]] w fun e w'=>e=.returned (.bool (aW k d fb fa tb ta c r))∧Below w.heap.size w w':=by
 subst hk
 exact zQ12x0
theorem M9 (k d fb fa tb ta c r:Int)(hk:k=9)(w:World):Calls Tryz.prog 122 #[.agg #[.int .i64 k,.int .i64 d,.int .i64 fb,.int .i64 fa,.int .i64 tb,.int .i64 ta,.int .i64 c,.int .i64 r]] w fun e w'=>e=.returned (.bool (aW k d fb fa tb ta c r))∧Below w.heap.size w w':=by
 subst hk
 exact zQ12x0
theorem OF (k d fb fa tb ta c r:Int)(w:World):Calls Tryz.prog 122 #[.agg #[.int .i64 k,.int .i64 d,.int .i64 fb,.int .i64 fa,.int .i64 tb,.int .i64 ta,.int .i64 c,.int .i64 r]] w fun e w'=>e=.returned (.bool (aW k d fb fa tb ta c r))∧Below w.heap.size w w':=by
 by_cases h1:k=1∨k=2∨k=3
 ·exact MF k d fb fa tb ta c r h1 w
 by_cases h4:k=4
 ·exact ME k d fb fa tb ta c r h4 w
 by_cases h5:k=5
 ·exact MD k d fb fa tb ta c r h5 w
 by_cases h6:k=6
 ·exact MC k d fb fa tb ta c r h6 w
 by_cases h7:k=7
 ·exact MB k d fb fa tb ta c r h7 w
 by_cases h8:k=8
 ·exact MA k d fb fa tb ta c r h8 w
 by_cases h9:k=9
 ·exact M9 k d fb fa tb ta c r h9 w
 have e0:aW k d fb fa tb ta c r=false:=by simp[aW,h1,h4,h5,h6,h7,h8,h9]
 simp only[not_or]at h1
 obtain⟨h1,h2,h3⟩:=h1;rw[e0]
 go_enter Tryz.func122,Tryz.ntmps122
 go_wp2
 all_goals go_ret
 all_goals exact⟨rfl,qz⟩
def dR (W:Int)(z:Nat→Int)(k:Nat):Bool:=
 aW (z (k*8)) (z (k*8+1)) (z (k*8+2)) (z (k*8+3)) (z (k*8+4)) (z (k*8+5)) (z (k*8+6)) (z (k*8+7))&&(decide (z (k*8+3)<W)&&decide (z (k*8+5)<W))
def oY (W:Int)(z:Nat→Int):Nat→Bool
 |0=>true
 |k+1=>oY W z k&&dR W z k
theorem NQ {W:Int}{z:Nat→Int}{n k:Nat}(hk:k<n)(h:dR W z k=false):oY W z n=false:=by
 induction n with
 |zero=>omega
 |succ n ih=>
  simp only[oY]
  by_cases hkn:k=n
  ·subst hkn;rw[h];simp
  ·rw[ih qo];rfl
theorem LU {W:Int}{z:Nat→Int}{n:Nat}(h:oY W z n=true):∀k,k<n→dR W z k=true:=by
 induction n with
 |zero=>intro k hk;omega
 |succ n ih=>
  simp only[oY,Bool.and_eq_true]at h
  intro k hk
  by_cases hkn:k=n
  ·subst hkn;exact h.2
  ·exact ih h.1 k qo
def gZ (W:Int)(z:Nat→Int)(n:Nat):Bool:=aK W 1 24&&(decide (n≤1500)&&oY W z n)
theorem mB {B:Nat}{w w':World}{g o:Nat}{v:Value}(hb:Below B w w')(hg:g<B)(h:w.cell? ⟨g,o,none⟩=some v):w'.cell? ⟨g,o,none⟩=some v:=((aA hb).1 g o hg).trans h
def JX (V:Bool)(a b W:Int):Bool:=V&&(decide (a<W)&&decide (b<W))
theorem Cm (gw:Nat)(W k d fb fa tb ta c r:Int)(w:World)(hw:w.cell? ⟨gw,0,none⟩=some (.int .i64 W)):
 Calls Tryz.prog 121 #[.agg #[.int .i64 k,.int .i64 d,.int .i64 fb,.int .i64 fa,.int .i64 tb,.int .i64 ta,.int .i64 c,.int .i64 r],.pointer (some ⟨gw,0,none⟩)] w fun e w'=>e=.returned (.bool (!JX (aW k d fb fa tb ta c r) fa ta W))∧Below w.heap.size w w':=by
 have hg:=World.block_lt_of_cell? w _ hw
 go_enter Tryz.func121,Tryz.ntmps121
 go_wp2_with fail
 refine(OF k d fb fa tb ta c r _).mono ?_;rintro e w1 ⟨rfl,hb1⟩;have x1:=fun o=>(aB.below (aB.at_ w 67 _ rfl) hb1 (by first|(simp;done)|(simp;omega))).cell o;have w1':w1.cell? ⟨gw,0,none⟩=some (.int .i64 W):=((aA hb1).1 gw 0 (by simp;omega)).trans ((World.cell?_alloc_lt w _ ⟨gw,0,none⟩ hg).trans hw);have HB1:=qh (show Below w.heap.size w w1 from qz);clear hb1
 cases hv:aW k d fb fa tb ta c r
 ·go_wp2_with fail
  go_ret
  exact⟨qr (by simp[JX,hv]),HB1.o⟩
 ·by_cases ha:fa<W
  ·go_wp2_with fail
   all_goals go_ret
   all_goals exact⟨qr (by rw[Bool.eq_iff_iff];simp[JX,hv]<;>omega),HB1.o⟩
  ·go_wp2_with fail
   all_goals go_ret
   all_goals exact⟨qr (by rw[Bool.eq_iff_iff];simp[JX,hv]<;>omega),HB1.o⟩
def ah2 (w:World)(b:Bool)(e:Ending)(w':World):Prop:=∃r:Int,e=.returned (.int .i64 r)∧(r= -1∧b=true∨0≤r∧b=false)∧Below w.heap.size w w'
theorem ku (gw:Nat)(W:Int)(A:OA)(n q:Nat)(z:Nat→Int)(w:World)(ha:Rd w A (n*8) (fun j=>.int .i64 (z j)))(hw:w.cell? ⟨gw,0,none⟩=some (.int .i64 W))(hn:n≤1048576):
 Calls Tryz.prog 149 #[.slice A n q,.func (.func 121) #[] #[.pointer (some ⟨gw,0,none⟩)]] w (ah2 w (oY W z n)):=by
 have HA:=qh ha;have hg:=World.block_lt_of_cell? w _ hw;have HW:=qh hw;clear ha hw
 go_enter Tryz.func149,Tryz.ntmps149
 go_wp2_with fail
 go_loopw [8] (fun i wr=>∃k:Nat,k≤n∧i=.int .i64 k∧Hq (oY W z k=true)∧Below w.heap.size w wr) (fun i _=>n-(intOf i).toNat)
 case atStart=>exact⟨0,Nat.zero_le _,rfl,rfl,Below.refl _ _⟩
 case round=>
  obtain⟨k,hk,rfl,HK,hb⟩:=hrel;have HB:=qh hb
  by_cases hlt:k<n
  ·obtain⟨ga,o,rfl,hga,hr⟩:=HA.o.below hb qo
   have kw:=mB hb hg HW.o;have HR:=qh hr;have c0:wr.cell? ⟨ga,o+k*8,none⟩=some (.int .i64 (z (k*8))):=HR.o (k*8) qo;have c1:wr.cell? ⟨ga,o+k*8+1,none⟩=some (.int .i64 (z (k*8+1))):=by rw[Nat.add_assoc];exact HR.o (k*8+1) qo
   have c2:wr.cell? ⟨ga,o+k*8+2,none⟩=some (.int .i64 (z (k*8+2))):=by rw[Nat.add_assoc];exact HR.o (k*8+2) qo
   have c3:wr.cell? ⟨ga,o+k*8+3,none⟩=some (.int .i64 (z (k*8+3))):=by rw[Nat.add_assoc];exact HR.o (k*8+3) qo
   have c4:wr.cell? ⟨ga,o+k*8+4,none⟩=some (.int .i64 (z (k*8+4))):=by rw[Nat.add_assoc];exact HR.o (k*8+4) qo
   have c5:wr.cell? ⟨ga,o+k*8+5,none⟩=some (.int .i64 (z (k*8+5))):=by rw[Nat.add_assoc];exact HR.o (k*8+5) qo
   have c6:wr.cell? ⟨ga,o+k*8+6,none⟩=some (.int .i64 (z (k*8+6))):=by rw[Nat.add_assoc];exact HR.o (k*8+6) qo
   have c7:wr.cell? ⟨ga,o+k*8+7,none⟩=some (.int .i64 (z (k*8+7))):=by rw[Nat.add_assoc];exact HR.o (k*8+7) qo
   obtain⟨V,hV⟩:=qx (dR W z k);have HV:=qh hV;have hV':V=JX (aW (z (k*8)) (z (k*8+1)) (z (k*8+2)) (z (k*8+3)) (z (k*8+4)) (z (k*8+5)) (z (k*8+6)) (z (k*8+7))) (z (k*8+3)) (z (k*8+5)) W:=hV;generalize z (k*8)=x0 at*;generalize z (k*8+1)=x1 at*;generalize z (k*8+2)=x2 at*;generalize z (k*8+3)=x3 at*;generalize z (k*8+4)=x4 at*;generalize z (k*8+5)=x5 at*;generalize z (k*8+6)=x6 at*;generalize z (k*8+7)=x7 at*;have Zk:=qh hV';clear hr hb hV hV'
   go_wp2_with fail
   refine(Cm gw W x0 x1 x2 x3 x4 x5 x6 x7 _ kw).mono ?_;rintro e w1 ⟨rfl,hb1⟩;rw[←Zk.o];have HB1:=HB.st hb1;clear hb1 c0 c1 c2 c3 c4 c5 c6 c7 kw
   cases V
   ·go_wp2
    go_ret
    exact⟨_,rfl,.inr ⟨by omega,NQ hlt HV.o.symm⟩,HB1.o⟩
   ·go_wp2
    go_roundw
    case rel=>exact⟨k+1,by omega,qg,by unfold Hq;simp only[oY];rw[HK.o,←HV.o];rfl,HB1.o⟩
    case measure=>exact qs
  ·obtain rfl:n=k:=qo
   clear hb
   go_wp2
   go_ret
   exact⟨_,rfl,.inl ⟨rfl,HK.o⟩,HB.o⟩
theorem MQ (gw:Nat)(W:Int)(A:OA)(n q:Nat)(z:Nat→Int)(w:World)(ha:Rd w A (n*8) (fun j=>.int .i64 (z j)))(hw:w.cell? ⟨gw,0,none⟩=some (.int .i64 W))(hn:n≤1048576):
 Calls Tryz.prog 120 #[.slice A n q,.func (.func 121) #[] #[.pointer (some ⟨gw,0,none⟩)]] w fun e w'=>e=.returned (.bool (!oY W z n))∧Below w.heap.size w w':=by
 go_enter Tryz.func120,Tryz.ntmps120
 go_wp2_with fail
 refine(ku gw W A n q z _ ha hw hn).mono ?_;rintro e w' ⟨r,rfl,h,hb⟩;have jA:=qh hb
 rcases h with⟨rfl,hb⟩|⟨hr,hb⟩
 ·have HB:=qh hb
  clear hb
  go_wp2
  go_ret
  exact⟨by rw[HB.o];rfl,jA.o⟩
 ·have HB:=qh hb
  clear hb;have hr':decide (0≤r)=true:=by simpa using hr
  go_wp2
  go_ret
  exact⟨by rw[HB.o];simp,jA.o⟩
theorem V8 (W:Int)(A:OA)(n q:Nat)(z:Nat→Int)(w:World)(ha:Rd w A (n*8) (fun j=>.int .i64 (z j)))(hn:n≤1048576):
 Calls Tryz.prog 95 #[.int .i64 W,.slice A n q] w fun e w'=>e=.returned (.bool (gZ W z n))∧Below w.heap.size w w':=by
 have HA:=qh ha;clear ha
 cases hI:aK W 1 24
 ·go_enter Tryz.func95,Tryz.ntmps95
  go_wp2_with ((go_at_call 37;refine(eB _ _ _ _).mono ?_;rintro e w' ⟨rfl,rfl⟩))
  all_goals go_ret
  all_goals exact⟨by simp[gZ,hI],qz⟩
 ·by_cases hl:n≤1500
  ·have hl':(n:Int)≤1500:=qo
   go_enter Tryz.func95,Tryz.ntmps95
   go_wp2_with ((go_at_call 37;refine(eB _ _ _ _).mono ?_;rintro e w' ⟨rfl,rfl⟩))
   refine(MQ w.heap.size W A n q z _ (HA.o.below (qz)) (rH rfl 0) hn).mono ?_;rintro e w1 ⟨rfl,hb1⟩;have HB1:=qh (show Below w.heap.size w w1 from qz);clear hb1
   go_wp2_with fail
   go_ret
   exact⟨by simp[gZ,hI,hl],HB1.o⟩
  ·have hl':¬(n:Int)≤1500:=qo
   go_enter Tryz.func95,Tryz.ntmps95
   go_wp2_with ((go_at_call 37;refine(eB _ _ _ _).mono ?_;rintro e w' ⟨rfl,rfl⟩))
   all_goals go_ret
   all_goals exact⟨by simp[gZ,hl],qz⟩
end Go.Proofs.YtdnmhhohcedjbaaGreat
namespace Go.Proofs.YtdnmhhohcedjbaaGreat
open Go.RowKit Go.Sort
theorem below_grown {B:Nat}{w W:World}(h:Below B w W)(hB:B≤W.heap.size)(n:Nat)(os:Array Obj):Below B w (grow (W.drewN n) os):=by
 have h':=Below.drewN' h n;refine⟨h'.os,h'.tape,h'.output,?_,fun k hk=>?_⟩
 ·have:=h.size
  simp[grow]
  omega
 ·have hk':k<W.heap.size:=qo
  refine Eq.trans ?_ (h'.block k hk);show(W.heap++os)[k]?=W.heap[k]?;rw[Array.getElem?_append_left hk']
structure oI (w:World)(g o:Nat)(k d fb fa tb ta c r:Int):Prop where
 c0:w.cell? ⟨g,o,none⟩=some (.int .i64 k)
 c1:w.cell? ⟨g,o+1,none⟩=some (.int .i64 d)
 c2:w.cell? ⟨g,o+2,none⟩=some (.int .i64 fb)
 c3:w.cell? ⟨g,o+3,none⟩=some (.int .i64 fa)
 c4:w.cell? ⟨g,o+4,none⟩=some (.int .i64 tb)
 c5:w.cell? ⟨g,o+5,none⟩=some (.int .i64 ta)
 c6:w.cell? ⟨g,o+6,none⟩=some (.int .i64 c)
 c7:w.cell? ⟨g,o+7,none⟩=some (.int .i64 r)
theorem oI.lt {w:World}{g o:Nat}{k d fb fa tb ta c r:Int}(h:oI w g o k d fb fa tb ta c r):g<w.heap.size:=World.block_lt_of_cell? w _ h.c0
theorem oI.below {w w':World}{g o:Nat}{k d fb fa tb ta c r:Int}(h:oI w g o k d fb fa tb ta c r)(hb:Below w.heap.size w w'):oI w' g o k d fb fa tb ta c r:=
 ⟨mB hb h.lt h.c0,mB hb h.lt h.c1,mB hb h.lt h.c2,mB hb h.lt h.c3,mB hb h.lt h.c4,mB hb h.lt h.c5,mB hb h.lt h.c6,mB hb h.lt h.c7⟩
theorem aG (b a:Int)(w:World)(n:Nat)(os:Array Obj):Calls Tryz.prog 112 #[.agg #[.int .i64 b,.int .i64 a]] (grow (w.drewN n) os) fun e w'=>e=.returned (.bool (kG b a))∧∃q os',w'=grow ((grow (w.drewN n) os).drewN q) os':=by
 go_enter Tryz.func112,Tryz.ntmps112
 go_wp2_with (first|(go_at_call 133;refine(lW _ _).mono ?_;rintro e w' ⟨rfl,rfl⟩)|(go_at_call 31;refine(dK _ _ _ _).mono ?_;rintro e w' ⟨rfl,rfl⟩))
 all_goals go_ret
 all_goals exact⟨qr (by simp_all [kG]),0,#[_],rfl⟩
theorem aN (d:Int)(w:World)(n:Nat)(os:Array Obj):Calls Tryz.prog 111 #[.int .i64 d] (grow (w.drewN n) os) fun e w'=>e=.returned (.bool (kA d))∧∃q os',w'=grow ((grow (w.drewN n) os).drewN q) os':=
 (jZ d _).mono fun _ _ h=>⟨h.1,0,#[],by rw[←h.2,grow_empty];rfl⟩
theorem aJ (c:Int)(w:World)(n:Nat)(os:Array Obj):Calls Tryz.prog 113 #[.int .i64 c] (grow (w.drewN n) os) fun e w'=>e=.returned (.bool (aK c 1 4))∧∃q os',w'=grow ((grow (w.drewN n) os).drewN q) os':=
 (jJ c _).mono fun _ _ h=>⟨h.1,0,#[],by rw[←h.2,grow_empty];rfl⟩
theorem aP (x lo hi:Int)(w:World)(n:Nat)(os:Array Obj):Calls Tryz.prog 31 #[.int .i64 x,.int .i64 lo,.int .i64 hi] (grow (w.drewN n) os) fun e w'=>e=.returned (.bool (aK x lo hi))∧∃q os',w'=grow ((grow (w.drewN n) os).drewN q) os':=
 (dK x lo hi _).mono fun _ _ h=>⟨h.1,0,#[],by rw[←h.2,grow_empty];rfl⟩
theorem dF (d:Int)(w:World):Calls Tryz.prog 111 #[.int .i64 d] w fun e w'=>e=.returned (.bool (kA d))∧w'=w:=(jZ d w).mono fun _ _ h=>⟨h.1,h.2.symm⟩
theorem cQ (c:Int)(w:World):Calls Tryz.prog 113 #[.int .i64 c] w fun e w'=>e=.returned (.bool (aK c 1 4))∧w'=w:=(jJ c w).mono fun _ _ h=>⟨h.1,h.2.symm⟩
theorem dG (x lo hi:Int)(w:World):Calls Tryz.prog 31 #[.int .i64 x,.int .i64 lo,.int .i64 hi] w fun e w'=>e=.returned (.bool (aK x lo hi))∧w'=w:=(dK x lo hi w).mono fun _ _ h=>⟨h.1,h.2.symm⟩
theorem qu {p:Prop}(h:p:=by first|(go_at_call 75;exact Calls.grown_of (aN _ _ _ _))|(go_at_call 77;exact Calls.grown_of (aJ _ _ _ _))|(go_at_call 47;exact Calls.grown_of (aP _ _ _ _ _ _))|(go_at_call 76;exact Calls.grown_of (aG _ _ _ _ _))):p:=h
end Go.Proofs.YtdnmhhohcedjbaaGreat
namespace Go.Proofs.YtdnmhhohcedjbaaGreat
open Go.RowKit
def adQ (w:World)(n:Nat)(L:List Int)(e:Ending)(w':World):Prop:=∃v,e=.returned v∧w'.ownsRow w.heap.size 67 8 v n (ints L)∧Below w.heap.size w w'
theorem wK:(Tryz.prog.info? 67).map (fun i=>(i.zero,i.size,i.bytes))=some (some (.agg #[.int .i64 0,.int .i64 0,.int .i64 0,.int .i64 0,.int .i64 0,.int .i64 0,.int .i64 0,.int .i64 0]),8,64):=by kernel_rfl
theorem GM {P:Program}(w:World){ops:Array Oper}{rest:List Oper}{o:Oper}{a:Act}{Q:Exit→Act→World→Prop}(hgd:o.guard=none)(s x:Operand)(t tn:TypeId)
 (ho:o.op=.call {callee:=.builtin .append,args:=#[s,x],argTypes:=#[t,tn]}) (e:TypeId) (i:TypeInfo) (z:Value) (size bytes:Nat) (ht:P.underlying t=some (.slice e)) (htn:P.underlying tn=some (.int .i64)) (hi:P.info? e=some i) (hz:i.zero=some z)
 (hsize:i.size=size) (hby:i.bytes=bytes) (hzs:z.cells.size=size) (hsz:0<size) (n:Nat) (h0:0<n) (h63:n≤maxLen) (hb:n*bytes≤281474976710656)
 (hs:a.eval s=.slice none 0 0) (hx:a.eval x=.int .i64 n)
 (h:∀c w',(w'.ownsRow w.heap.size e size (.slice (some ⟨w.heap.size,0,none⟩) 0 c) 0 [])→n≤c→Below w.heap.size w w'→w.heap.size<w'.heap.size→wpList P ops Q rest (a.put o.dst (.slice (some ⟨w.heap.size,0,none⟩) n c)) w'):
 wpList P ops Q (o::rest) a w:=by
 subst hsize;subst hby;have hr:=Lib.run_append_nil_zeros (P:=P) w t tn o.type e i z .i64 .i64 ht htn hi hz n h0 hsz (by unfold maxLen at h63;omega) hb;refine wpList_plain hgd fun K hK=>?_;unfold Oper.wp execOp
 simp only[ho,resolve,invoke,builtin,Sem.run_bind,Sem.run_pure,Result.andThen_ok,List.map_toArray,List.map_cons,List.map_nil,hs,hx,hr]
 have hge:=grownCap_ge w n 0 e;have hle:=grownCap_le_maxLen w n 0 e h63;refine hK _ _ (h _ _ (World.ownsRow_made w.drew _ _ ql hle ?_) hge ?_ ?_)
 ·simp only[Array.size_append,size_zeroCells,hzs,←Nat.add_mul]
  congr 1
  omega
 ·exact(Below.refl _ _).drew.alloc ql _
 ·simp
theorem Ej (n:Nat)(w:World)(h0:0<n)(hn:n≤4000):
 Calls Tryz.prog 132 #[.slice none 0 0,.int .i64 n] w (adQ w 0 []):=by
 obtain⟨i0,hi,iz,is,ib⟩:=info_parts wK
 go_enter Tryz.func132,Tryz.ntmps132
 go_wp2_with (at_builtin;go_must (refine GM _ rfl (.tmp 20) (.tmp 21) _ _ rfl 67 i0 _ 8 64 Tryz.underlying28 Tryz.underlying3 hi iz is ib rfl qo n h0 qm qo rfl rfl ?_);intro c w' hown hc hb hlt)
 go_ret
 exact⟨_,rfl,hown,hb⟩
end Go.Proofs.YtdnmhhohcedjbaaGreat
namespace Go.Proofs
open Go.Shelf
def Tryz.laysSort_ren:Go.Shelf.Ren:=⟨fun|5=>130|8=>161|7=>160|19=>189|20=>190|10=>180|11=>181|12=>182|13=>183|14=>184|15=>185|16=>186|17=>187|18=>188|30=>199|31=>200|32=>201|33=>202|34=>203|35=>204|40=>213|n=>n,fun|23=>34|25=>2|3=>3|32=>181|22=>34|0=>0|44=>199|46=>201|4=>4|36=>192|35=>191|41=>196|5=>5|9=>9|53=>206|57=>210|63=>214|64=>215|n=>n,fun|n=>n⟩
theorem Tryz.laysSort:Go.Proofs.SlLaysM.n5 Tryz.prog Tryz.laysSort_ren:={
 mixed:=by kernel_rfl
 f5:=⟨Tryz.f130.name,by decide,Tryz.func130.trans (congrArg some (by kernel_rfl))⟩
 f7:=⟨Tryz.f160.name,by decide,Tryz.func160.trans (congrArg some (by kernel_rfl))⟩
 f8:=Tryz.func161.trans (congrArg some (by kernel_rfl))
 f10:=⟨Tryz.f180.name,by decide,Tryz.func180.trans (congrArg some (by kernel_rfl))⟩
 f11:=⟨Tryz.f181.name,by decide,Tryz.func181.trans (congrArg some (by kernel_rfl))⟩
 f12:=⟨Tryz.f182.name,by decide,Tryz.func182.trans (congrArg some (by kernel_rfl))⟩
 f13:=⟨Tryz.f183.name,by decide,Tryz.func183.trans (congrArg some (by kernel_rfl))⟩
 f14:=⟨Tryz.f184.name,by decide,Tryz.func184.trans (congrArg some (by kernel_rfl))⟩
 f15:=⟨Tryz.f185.name,by decide,Tryz.func185.trans (congrArg some (by kernel_rfl))⟩
 f16:=⟨Tryz.f186.name,by decide,Tryz.func186.trans (congrArg some (by kernel_rfl))⟩
 f17:=⟨Tryz.f187.name,by decide,Tryz.func187.trans (congrArg some (by kernel_rfl))⟩
 f18:=⟨Tryz.f188.name,by decide,Tryz.func188.trans (congrArg some (by kernel_rfl))⟩
 f19:=Tryz.func189.trans (congrArg some (by kernel_rfl))
 f20:=Tryz.func190.trans (congrArg some (by kernel_rfl))
 f30:=⟨Tryz.f199.name,by decide,Tryz.func199.trans (congrArg some (by kernel_rfl))⟩
 f31:=Tryz.func200.trans (congrArg some (by kernel_rfl))
 f32:=Tryz.func201.trans (congrArg some (by kernel_rfl))
 f33:=⟨Tryz.f202.name,by decide,Tryz.func202.trans (congrArg some (by kernel_rfl))⟩
 f34:=⟨Tryz.f203.name,by decide,Tryz.func203.trans (congrArg some (by kernel_rfl))⟩
 f35:=⟨Tryz.f204.name,by decide,Tryz.func204.trans (congrArg some (by kernel_rfl))⟩
 f40:=⟨Tryz.f213.name,by decide,Tryz.func213.trans (congrArg some (by kernel_rfl))⟩
 t0:=Tryz.underlying0
 a0:=Tryz.isAgg0
 z0:=Tryz.sizeOf0
 v0:=Tryz.zeroValue0
 t3:=Tryz.underlying3
 a3:=Tryz.isAgg3
 z3:=Tryz.sizeOf3
 v3:=Tryz.zeroValue3
 t4:=Tryz.underlying4
 a4:=Tryz.isAgg4
 z4:=Tryz.sizeOf4
 v4:=Tryz.zeroValue4
 t5:=Tryz.underlying5
 a5:=Tryz.isAgg5
 z5:=Tryz.sizeOf5
 v5:=Tryz.zeroValue5
 t9:=Tryz.underlying9
 a9:=Tryz.isAgg9
 z9:=Tryz.sizeOf9
 v9:=Tryz.zeroValue9
 t22:=Tryz.underlying34
 a22:=Tryz.isAgg34
 z22:=Tryz.sizeOf34
 v22:=Tryz.zeroValue34
 t23:=Tryz.underlying34
 a23:=Tryz.isAgg34
 z23:=Tryz.sizeOf34
 v23:=Tryz.zeroValue34
 t25:=Tryz.underlying2
 a25:=Tryz.isAgg2
 z25:=Tryz.sizeOf2
 v25:=Tryz.zeroValue2
 t32:=Tryz.underlying181
 a32:=Tryz.isAgg181
 z32:=Tryz.sizeOf181
 v32:=Tryz.zeroValue181
 t35:=Tryz.underlying191
 a35:=Tryz.isAgg191
 z35:=Tryz.sizeOf191
 v35:=Tryz.zeroValue191
 t36:=Tryz.underlying192
 a36:=Tryz.isAgg192
 z36:=Tryz.sizeOf192
 v36:=Tryz.zeroValue192
 t41:=Tryz.underlying196
 a41:=Tryz.isAgg196
 z41:=Tryz.sizeOf196
 v41:=Tryz.zeroValue196
 t44:=Tryz.underlying199
 a44:=Tryz.isAgg199
 z44:=Tryz.sizeOf199
 v44:=Tryz.zeroValue199
 t46:=Tryz.underlying201
 a46:=Tryz.isAgg201
 z46:=Tryz.sizeOf201
 v46:=Tryz.zeroValue201
 t53:=Tryz.underlying206
 a53:=Tryz.isAgg206
 z53:=Tryz.sizeOf206
 v53:=Tryz.zeroValue206
 t57:=Tryz.underlying210
 a57:=Tryz.isAgg210
 z57:=Tryz.sizeOf210
 v57:=Tryz.zeroValue210
 t63:=Tryz.underlying214
 a63:=Tryz.isAgg214
 z63:=Tryz.sizeOf214
 v63:=Tryz.zeroValue214
 t64:=Tryz.underlying215
 a64:=Tryz.isAgg215
 z64:=Tryz.sizeOf215
 v64:=Tryz.zeroValue215}
open Go.Sort Go.RowKit in
theorem Tryz.slices_Sort_int64 (blk off cap:Nat)(zs:List Int)(w:World)(hH:Holds (Value.int .i64) w blk off zs.toArray)(hblk:blk<w.heap.size)(hsz:zs.length<4611686018427387904):
 Calls Tryz.prog 130 #[.slice (some ⟨blk,off,none⟩) zs.length cap] w fun e w'=>
  e=.returned (.tuple #[])∧∃n os,w'=grow (putRow (Value.int .i64) (Sort.ahead w n) blk off (zs.mergeSort fun x y=>decide (x≤y)).toArray) os:=AnyM.slices_Sort_int Tryz.laysSort blk off cap zs w hH hblk hsz
theorem Tryz.slices_Sort_int64_none (p:Option Addr)(cap:Nat)(w:World):
 Calls Tryz.prog 130 #[.slice p 0 cap] w fun e w'=>e=.returned (.tuple #[])∧w'=w:=AnyM.slices_Sort_int_none Tryz.laysSort p cap w
end Go.Proofs
namespace Go.Proofs.YtdnmhhohcedjbaaGreat
open Go.RowKit
def GT (k:Int):Nat:=if k=3 then 0 else if k=4∨k=5∨k=8∨k=9 then 2 else if k=10∨k=11 then 4 else if 1≤k∧k≤11 then 1 else 0
def Jo (k:Int):Nat:=if k=8∨k=9 then 2 else if k=10∨k=11 then 4 else if 1≤k∧k≤11 then 1 else 0
theorem Hr (k:Int):GT k≤4:=by
 unfold GT
 repeat' split
 all_goals omega
def YG (p:Int→Bool)(z:Nat→Int):Nat→Bool
 |0=>true
 |k+1=>YG p z k&&p (z k)
theorem YF {p:Int→Bool}{z:Nat→Int}{n:Nat}(h:YG p z n=true):∀j,j<n→p (z j)=true:=by
 induction n with
 |zero=>intro j hj;omega
 |succ n ih=>
  simp only[YG,Bool.and_eq_true]at h
  intro j hj
  by_cases hjn:j=n
  ·subst hjn;exact h.2
  ·exact ih h.1 j qo
def Dw (k:Int):Bool:=aK k 1 11
def VL (n:Int):Bool:=aK n 1 4
theorem Rv {k:Int}(h:Dw k=true):1≤k∧k≤11:=by simpa [Dw,aK]using h
theorem Hz {k:Int}(h:VL k=true):1≤k∧k≤4:=by simpa [VL,aK]using h
def rS (z:Nat→Int)(m:Nat):Bool:=decide (m≤16)&&YG Dw z m
def DH (s:Nat→Int)(n:Nat):Bool:=decide (n≤8)&&YG VL s n
theorem VH {z:Nat→Int}{m:Nat}(h:rS z m=true):m≤16∧∀j,j<m→1≤z j∧z j≤11:=by
 simp only[rS,Bool.and_eq_true,decide_eq_true_eq]at h
 exact⟨h.1,fun j hj=>Rv (YF h.2 j hj)⟩
theorem NG {s:Nat→Int}{n:Nat}(h:DH s n=true):n≤8∧∀j,j<n→1≤s j∧s j≤4:=by
 simp only[DH,Bool.and_eq_true,decide_eq_true_eq]at h
 exact⟨h.1,fun j hj=>Hz (YF h.2 j hj)⟩
def qJ (z:Nat→Int):Nat→Nat
 |0=>0
 |i+1=>qJ z i+GT (z i)
def LM (z:Nat→Int):Nat→Nat
 |0=>0
 |i+1=>LM z i+Jo (z i)
theorem Ie (z:Nat→Int){i j:Nat}(h:i≤j):qJ z i≤qJ z j:=by
 induction j with
 |zero=>
  obtain rfl:i=0:=qo;exact Nat.le_refl _
 |succ j ih=>
  rcases Nat.lt_or_ge j i with h1|h1
  ·obtain rfl:i=j+1:=qo
   exact Nat.le_refl _
  ·have:=ih h1
   simp only[qJ]
   omega
end Go.Proofs.YtdnmhhohcedjbaaGreat
namespace Go.Proofs.YtdnmhhohcedjbaaGreat
end Go.Proofs.YtdnmhhohcedjbaaGreat
namespace Go.Proofs.YtdnmhhohcedjbaaGreat
open Go.RowKit
theorem info64:(Tryz.prog.info? 2).map (fun i=>(i.zero,i.size,i.bytes))=some (some (.int .i64 0),1,8):=by kernel_rfl
theorem wJ (m:Nat)(hm:m≤1000000):∃cs:Array Value,cs.size=m∧(∀j,j<m→cs[j]?=some (.int .i64 0))∧∀w:World,(Instr.makeSlice 34 (.int .i64 (m:Int)) (.int .i64 (m:Int))).run Tryz.prog w=.ok (.slice (some ⟨w.heap.size,0,none⟩) m m) (w.alloc (.cells cs 2)):=by
 obtain⟨i0,hi,iz,is,ib⟩:=info_parts info64;refine⟨madeCells (Value.int .i64 0).cells m,size_madeCells _ _,fun j hj=>?_,fun w=>?_⟩
 ·simp[madeCells,hj,Value.cells,Nat.mod_one]
 ·have h:=run_makeSlice (P:=Tryz.prog) w 34 2 i0 (.int .i64 0) Tryz.underlying34 hi iz .i64 .i64 m m qo (Int.le_refl _) (by rw[is];simp;omega) (by rw[ib];omega) qo
  rw[is]at h
  simpa using h
def Ww (k t:Int):List Int:=if k=6 then [t+1]else if k=7 then [t]else List.replicate (Jo k) 1
def ahq (k a b:Int):Bool:=if k=6 then decide (a<4)else if k=4∨k=5 then decide (a+b≤4)else true
def aft (s z:Nat→Int):Nat→List Int
 |0=>[]
 |i+1=>aft s z i++Ww (z i) (s (qJ z i))
def Ep (s z:Nat→Int):Nat→Bool
 |0=>true
 |i+1=>Ep s z i&&ahq (z i) (s (qJ z i)) (s (qJ z i+1))
def Wh (s:Nat→Int)(n:Nat)(z:Nat→Int)(m:Nat):Int:=if DH s n&&rS z m then(if qJ z m=n then(if Ep s z m&&decide (LM z m≤8)then 0 else 5)else 10)else 1
theorem AT {B:Nat}{w w':World}{g o:Nat}{v:Value}(hb:Below B w w')(hg:g<B)(h:w.cell? ⟨g,o,none⟩=some v):w'.cell? ⟨g,o,none⟩=some v:=((aA hb).1 g o hg).trans h
theorem New.then {w w1 w2:World}{A:Option Addr}{N:Nat}{f:Nat→Value}(h:New w w1 A N f)(hb:Below w1.heap.size w1 w2):New w w2 A N f:=
 ⟨h.bl.trans (hb.mono h.bl.size),h.ab,h.bb.mono hb.size,h.wr.below hb,h.rd.below hb⟩
def rv (n k:Nat)(f:Nat→Int)(m:Nat):Int:=if m<k∨n-k≤m then f (n-1-m)else f m
theorem Ii {wr:World}{g n k m:Nat}{f:Nat→Int}(hr:bI wr g 0 n (fun j=>.int .i64 (rv n k f j)))(hm:m=n-1-k)(hkm:k<m)(hmn:m<n){x y:Int}(hx:x=rv n k f k)(hy:y=rv n k f m):
 bI ((wr.setCell ⟨g,k,none⟩ (.int .i64 y)).setCell ⟨g,m,none⟩ (.int .i64 x)).drew g 0 n (fun j=>.int .i64 (rv n (k+1) f j)):=by
 intro j hj;show((wr.setCell ⟨g,k,none⟩ (.int .i64 y)).setCell ⟨g,m,none⟩ (.int .i64 x)).cell? _=_;have h1:=hr j hj;rw[Nat.zero_add]at h1 ⊢
 by_cases hjm:j=m
 ·subst hjm
  obtain⟨v,hv⟩:=cell?_setCell_some (p:=⟨g,k,none⟩) (x:=.int .i64 y) h1;rw[World.cell?_setCell_same _ _ _ hv,hx]
  simp only[rv]
  rw[if_neg qo,if_pos qo,show n-1-j=k by omega]
 ·rw[World.cell?_setCell_other _ _ _ _ (by intro e;injection e;omega)]
  by_cases hjk:j=k
  ·subst hjk
   rw[World.cell?_setCell_same _ _ _ h1,hy]
   simp only[rv]
   rw[if_neg qo,if_pos qo,hm]
  ·rw[World.cell?_setCell_other _ _ _ _ (by intro e;injection e;omega),h1]
   simp only[rv]
   by_cases hc:j<k∨n-k≤j
   ·rw[if_pos hc,if_pos qo]
   ·rw[if_neg hc,if_neg qo]
theorem U4 (g n c:Nat)(f:Nat→Int)(w:World)(hw:dS w g 0 n)(hr:bI w g 0 n (fun j=>.int .i64 (f j)))(hn:n≤1048576):
 Calls Tryz.prog 171 #[.slice (some ⟨g,0,none⟩) n c] w fun e w'=>e=.returned (.tuple #[])∧Only w w' g∧dS w' g 0 n∧bI w' g 0 n (fun j=>.int .i64 (f (n-1-j))):=by
 have HW:=qh hw;have HR:=qh hr;clear hw hr
 go_enter Tryz.func171,Tryz.ntmps171
 go_wp2
 go_loopw [2,3] (fun i j wr=>∃k:Nat,∃z:Int,i=.int .i64 k∧j=.int .i64 z∧Hq (z=(n:Int)-1-k)∧ -1≤z∧z≤1048576∧2*k≤n+1∧Only w wr g∧dS wr g 0 n∧bI wr g 0 n (fun j=>.int .i64 (rv n k f j))) (fun i _ _=>n-(intOf i).toNat)
 case atStart=>exact⟨0,_,rfl,rfl,by simp[Hq],by omega,by omega,by omega,Only.refl _ _,HW.o,fun j hj=>(HR.o j hj).trans (by simp only[rv];rw[if_neg qo])⟩
 case round=>
  obtain⟨k,z,rfl,rfl,HZ,hz1,hz2,hk,ho,hw,hr⟩:=hrel;have HO:=qh ho;have HW:=qh hw;have HR:=qh hr;clear ho hw hr
  by_cases hlt:2*k+1<n
  ·obtain⟨m,rfl⟩:=Int.eq_ofNat_of_zero_le (show 0≤z by have:=HZ.o;omega)
   have hkm:k<m:=by have:=HZ.o;omega
   have hmn:m<n:=by have:=HZ.o;omega
   have hmk:Hq (m=n-1-k):=by have:=HZ.o;unfold Hq;omega
   have hc1:=HR.o k qo;have hc2:=HR.o m qo;obtain⟨x,hx⟩:=qx (rv n k f k);obtain⟨y,hy⟩:=qx (rv n k f m)
   simp only[←hx,←hy,Nat.zero_add]at hc1 hc2
   have HX:=qh hx;have HY:=qh hy;clear hx hy;have hf:=(HW.o k qo).2;have hf':=(HW.o m qo).2;rw[Nat.zero_add]at hf hf';have b1:(0:Int)≤(k:Int):=qo;have b2:(k:Int)<(n:Int):=qo;have b3:(0:Int)≤(m:Int):=qo;have b4:(m:Int)<(n:Int):=qo
   go_wp2
   go_region
   go_wp2
   go_roundw
   case rel=>exact⟨k+1,_,qg,rfl,by unfold Hq;have:=HZ.o;omega,by omega,by omega,by omega,((HO.o.set _ _).set _ _).drewN 1,(HW.o.set _ _).set _ _,Ii HR.o hmk.out hkm hmn HX.o HY.o⟩
   case measure=>exact qs
  ·have hzk:z≤(k:Int):=by have:=HZ.o;omega
   go_wp2
   go_end0
   refine⟨rfl,HO.o,HW.o,fun j hj=>(HR.o j hj).trans ?_⟩
   simp only[rv]
   by_cases hc:j<k∨n-k≤j
   ·rw[if_pos hc]
   ·rw[if_neg hc]
    rw[show n-1-j=j by omega]
def Bf (s:Nat→Int)(a:Nat):Nat→Int
 |0=>0
 |c+1=>Bf s a c+s (a+c)
def EL (d:Int)(m i:Nat):Nat:=if d= -1 then m-1-i else i
theorem aaE {d:Int}{m i:Nat}(h:i<m):EL d m i<m:=by unfold EL;split<;>omega
structure nU (S:Nat)(eo:TypeId)(B:Nat)(w:World)(v:Value)(k:Nat)(As:Nat→OA)(ns cs:Nat→Nat)(z:Nat→Nat→Int):Prop where
 own:w.ownsRow B eo 1 v k ((List.range k).map fun j=>.slice (As j) (ns j) (cs j))
 ab:∀j b,j<k→Fb (As j) (ns j*S) b→B≤b
 wr:∀j,j<k→Wr w (As j) (ns j*S)
 rd:∀j,j<k→Rd w (As j) (ns j*S) (fun i=>.int .i64 (z j i))
 out:∀j b,j<k→Fb (As j) (ns j*S) b→v.ownBlock≠some b
 XX:∀i j b,i<j→j<k→Fb (As i) (ns i*S) b→¬Fb (As j) (ns j*S) b
def upd {α:Type}(f:Nat→α)(k:Nat)(x:α)(j:Nat):α:=if j=k then x else f j
theorem zB {α:Type}(f:Nat→α)(k:Nat)(x:α):upd f k x k=x:=if_pos rfl
theorem upd_ne {α:Type}(f:Nat→α){k j:Nat}(x:α)(h:j≠k):upd f k x j=f j:=if_neg h
section
variable {S:Nat}{eo:TypeId}{B:Nat}{w w' W0 W:World}{v:Value}{k:Nat}{As:Nat→Option Addr}{ns cs:Nat→Nat}{z:Nat→Nat→Int}
theorem nU.below (h:nU S eo B w v k As ns cs z)(hb:Below w.heap.size w w'):nU S eo B w' v k As ns cs z:=
 ⟨own_below h.own hb,h.ab,fun j hj=>(h.wr j hj).below hb,fun j hj=>(h.rd j hj).below hb,h.out,h.XX⟩
theorem nU.start (S:Nat)(eo:TypeId)(w:World)(As:Nat→OA)(ns cs:Nat→Nat)(z:Nat→Nat→Int){B:Nat}(hB:B≤w.heap.size):
 nU S eo B (w.alloc (.cells #[] eo)) (.slice (some ⟨w.heap.size,0,none⟩) 0 0) 0 As ns cs z:=
 ⟨World.ownsRow_made w #[] 0 hB qm rfl,fun j b hj=>absurd hj qo,fun j hj=>absurd hj qo,fun j hj=>absurd hj qo,fun j b hj=>absurd hj qo,fun i j b _ hj=>absurd hj qo⟩
theorem Rb {B B':Nat}{w:World}{e:TypeId}{size n:Nat}{v:Value}{xs:List Value}(h:w.ownsRow B e size v n xs)(hB:B'≤B):w.ownsRow B' e size v n xs:=by
 refine⟨h.1,?_⟩
 rcases h.2 with h2|⟨g,cap,cur,hv,hg,r⟩
 ·exact .inl h2
 ·exact .inr ⟨g,cap,cur,hv,Nat.le_trans hB hg,r⟩
theorem nU.mono {B':Nat}(h:nU S eo B w v k As ns cs z)(hB:B'≤B):nU S eo B' w v k As ns cs z:=
 ⟨Rb h.own hB,fun j b hj hb=>Nat.le_trans hB (h.ab j b hj hb),h.wr,h.rd,h.out,h.XX⟩
def Oh (L:Nat)(W:World)(A:OA)(N:Nat)(f:Nat→Value):Prop:=(∀b,Fb A N b→L≤b)∧Wr W A N∧Rd W A N f
theorem New.row {A1:Option Addr}{N:Nat}{f:Nat→Value}(hn:New W0 W A1 N f):Oh W0.heap.size W A1 N f:=⟨fun b hb=>by
 obtain⟨_,a,e,hb⟩:=hb;exact hb▸hn.ab a e,hn.wr,hn.rd⟩
def aal (S L:Nat)(v:Value)(k:Nat)(As:Nat→OA)(ns:Nat→Nat):Prop:=(∀b,v.ownBlock=some b→b<L)∧∀j b,j<k→Fb (As j) (ns j*S) b→b<L
theorem nU.lt (h:nU S eo B w v k As ns cs z):aal S w.heap.size v k As ns:=⟨fun b hb=>(h.own.lt b hb).2,fun j b hj hb=>(aQ _ _ _).2 w b (h.rd j hj) hb⟩
theorem nU.next {L:Nat}(hW:nU S eo B W v k As ns cs z)(hL:aal S L v k As ns)(hBL:B≤L)(hLW:L≤W.heap.size){A1:Option Addr}{c1:Nat}(hn:Oh L W A1 (ns k*S) (fun i=>.int .i64 (z k i)))
 {w1:World} {v':Value} (h1:Below W.heap.size W w1) (hown:w'.ownsRow B eo 1 v' (k+1) (((List.range k).map fun j=>.slice (As j) (ns j) (cs j))++[.slice A1 (ns k) c1])) (hg:w1.grownBy w' v.ownBlock) (hat:v'.ownBlock=v.ownBlock∨v'.ownBlock=some w1.heap.size):
 nU S eo B w' v' (k+1) (upd As k A1) ns (upd cs k c1) z:=by
 have hs1:=h1.size;have Ya:∀j b,j<k→Fb (As j) (ns j*S) b→b<L:=hL.2;have SY:∀b,Fb A1 (ns k*S) b→L≤b∧b<W.heap.size:=fun b hb=>⟨hn.1 b hb,(aQ _ _ _).2 W b hn.2.2 hb⟩;have hv:∀b,v.ownBlock=some b→b<L:=hL.1;have hv':∀b,b<w1.heap.size→v.ownBlock≠some b→v'.ownBlock≠some b:=fun b hb hne=>by
  rcases hat with e|e
  ·rw[e];exact hne
  ·rw[e];intro e;injection e with e;omega
 have keep:∀b,b<w1.heap.size→v.ownBlock≠some b→w'.heap[b]?=w1.heap[b]?:=fun b hb hne=>hg.block b hb (fun e=>hne e.symm);refine⟨?_,fun j b hj hb=>?_,fun j hj=>?_,fun j hj=>?_,fun j b hj hb=>?_,fun i j b hij hj hb hb'=>?_⟩
 ·rw[List.range_succ,List.map_append,List.map_cons,List.map_nil,zB,zB]
  have e:(List.range k).map (fun j=>Value.slice (upd As k A1 j) (ns j) (upd cs k c1 j))=(List.range k).map (fun j=>Value.slice (As j) (ns j) (cs j)):=
   List.map_congr_left fun j hj=>by
    have:j≠k:=by have:=List.mem_range.1 hj;omega
    rw[upd_ne _ _ this,upd_ne _ _ this]
  rw[e];exact hown
 ·by_cases hjk:j=k
  ·subst hjk
   rw[zB]at hb;have:=SY b hb;omega
  ·rw[upd_ne _ _ hjk]at hb
   exact hW.ab j b qo hb
 ·by_cases hjk:j=k
  ·subst hjk
   rw[zB];exact(nV _ _).1 w1 w' (hn.2.1.below h1) fun b hb=>keep b (by have:=SY b hb;omega) (fun e=>by have:=hv b e;have:=SY b hb;omega)
  ·rw[upd_ne _ _ hjk]
   exact(nV _ _).1 w1 w' ((hW.wr j qo).below h1) fun b hb=>keep b (by have:=Ya j b qo hb;omega) (hW.out j b qo hb)
 ·by_cases hjk:j=k
  ·subst hjk
   rw[zB];exact(aQ _ _ _).1 w1 w' (hn.2.2.below h1) fun b hb=>keep b (by have:=SY b hb;omega) (fun e=>by have:=hv b e;have:=SY b hb;omega)
  ·rw[upd_ne _ _ hjk]
   exact(aQ _ _ _).1 w1 w' ((hW.rd j qo).below h1) fun b hb=>keep b (by have:=Ya j b qo hb;omega) (hW.out j b qo hb)
 ·by_cases hjk:j=k
  ·subst hjk
   rw[zB]at hb;exact hv' b (by have:=SY b hb;omega) (fun e=>by have:=hv b e;have:=SY b hb;omega)
  ·rw[upd_ne _ _ hjk]at hb
   exact hv' b (by have:=Ya j b qo hb;omega) (hW.out j b qo hb)
 ·have hik:i≠k:=qo
  rw[upd_ne _ _ hik]at hb
  by_cases hjk:j=k
  ·subst hjk
   rw[zB]at hb';have:=Ya i b qo hb;have:=SY b hb';omega
  ·rw[upd_ne _ _ hjk]at hb'
   exact hW.XX i j b hij qo hb hb'
end
theorem NewSS.none_ {S:Nat}{w w':World}{ns:Nat→Nat}{z:Nat→Nat→Int}(hb:Below w.heap.size w w')(As:Nat→OA)(cs:Nat→Nat):
 D6 w w' (Ul S none 0 As ns cs z) (Uk S none 0 As ns cs) (FSS S none 0 As ns):=
 ⟨hb,fun b hb=>by
  rcases hb with⟨h,_⟩|⟨j,hj,_⟩
  ·exact absurd h qo
  ·exact absurd hj qo,⟨fun h=>absurd h qo,fun j hj=>absurd hj qo⟩,⟨fun h=>absurd h qo,fun j hj=>absurd hj qo,fun j b hj=>absurd hj qo,fun i j b _ hj=>absurd hj qo⟩,VS _ _ _ _ _ _ _,V4 _ _ _ _ _ _⟩
theorem nU.new {S:Nat}{eo:TypeId}{w w':World}{v:Value}{k:Nat}{As:Nat→Option Addr}{ns cs:Nat→Nat}{z:Nat→Nat→Int}(h:nU S eo w.heap.size w' v k As ns cs z)(hb:Below w.heap.size w w'):
 ∃A c,v=.slice A k c∧D6 w w' (Ul S A k As ns cs z) (Uk S A k As ns cs) (FSS S A k As ns):=by
 obtain⟨A,c,rfl,hn⟩:=New.kM hb h.own;have hr:Rd w' A k (fun j=>.slice (As j) (ns j) (cs j)):=by
  have:=hn.rd;rw[Nat.mul_one]at this;exact this.congr fun j hj=>by simp[List.getD,hj]
 refine⟨A,c,rfl,hb,fun b hb=>?_,⟨hr,h.rd⟩,⟨hr,h.wr,fun j b hj hb hb'=>h.out j b hj hb ?_,h.XX⟩,VS _ _ _ _ _ _ _,V4 _ _ _ _ _ _⟩
 ·rcases hb with⟨_,a,e,hb⟩|⟨j,hj,hb⟩
  ·exact hb▸hn.ab a e
  ·exact h.ab j b hj hb
 ·obtain⟨_,a,e,hb'⟩:=hb'
  subst e
  simp[Value.ownBlock,hb']
def afk (k t:Int):Int:=Bf (fun j=>(Ww k t).getD j 0) 0 (Jo k)
def chg (s z:Nat→Int)(i:Nat):Int:=afk (z i) (s (qJ z i))-Bf s (qJ z i) (GT (z i))
def Yd (s:Nat→Int)(n:Nat)(z:Nat→Int)(m:Nat)(d:Int):Nat→Int
 |0=>Bf s 0 n
 |i+1=>Yd s n z m d i+chg s z (EL d m i)
def Ye (s:Nat→Int)(n:Nat)(z:Nat→Int)(m:Nat)(d:Int):Nat→Bool
 |0=>true
 |i+1=>Ye s n z m d i&&decide (Yd s n z m d (i+1)≤12)
def xK (d c:Nat→Int)(As:Nat→OA)(ns cs:Nat→Nat)(q:Nat):Value:=
 if q%3=0 then .int .i64 (d (q/3))else if q%3=1 then .int .i64 (c (q/3))else .slice (As (q/3)) (ns (q/3)) (cs (q/3))
theorem Ik (d c:Nat→Int)(As:Nat→OA)(ns cs:Nat→Nat)(k:Nat):xK d c As ns cs (k*3)=.int .i64 (d k):=by
 unfold xK;rw[if_pos qo,show k*3/3=k by omega]
theorem Ij (d c:Nat→Int)(As:Nat→OA)(ns cs:Nat→Nat)(k:Nat):xK d c As ns cs (k*3+1)=.int .i64 (c k):=by
 unfold xK;rw[if_neg qo,if_pos qo,show(k*3+1)/3=k by omega]
theorem VP (d c:Nat→Int)(As:Nat→OA)(ns cs:Nat→Nat)(k:Nat):xK d c As ns cs (k*3+2)=.slice (As k) (ns k) (cs k):=by
 unfold xK;rw[if_neg qo,if_neg qo,show(k*3+2)/3=k by omega]
def PC (A:OA)(n:Nat)(d c:Nat→Int)(As:Nat→OA)(ns cs:Nat→Nat)(z:Nat→Nat→Int)(w:World):Prop:=
 Rd w A (n*3) (xK d c As ns cs)∧∀j,j<n→Rd w (As j) (ns j) (fun i=>.int .i64 (z j i))
def Od (A:OA)(n:Nat)(As:Nat→OA)(ns cs:Nat→Nat)(w:World):Prop:=
 Wr w A (n*3)∧(∀j,j<n→∃g o,A=some ⟨g,o,none⟩∧w.cell? ⟨g,o+(j*3+2),none⟩=some (.slice (As j) (ns j) (cs j)))∧(∀j,j<n→Wr w (As j) (ns j))∧(∀j b,j<n→Fb (As j) (ns j) b→¬Fb A (n*3) b)∧∀i j b,i<j→j<n→Fb (As i) (ns i) b→¬Fb (As j) (ns j) b
def Gp (A:OA)(n:Nat)(As:Nat→OA)(ns:Nat→Nat)(b:Nat):Prop:=Fb A (n*3) b∨∃j,j<n∧Fb (As j) (ns j) b
theorem Cc (A:OA)(n:Nat)(d c:Nat→Int)(As:Nat→OA)(ns cs:Nat→Nat)(z:Nat→Nat→Int):Loc (PC A n d c As ns cs z) (Gp A n As ns):=by
 refine⟨fun w w' h hF=>⟨(aQ _ _ _).1 w w' h.1 fun b hb=>hF b (.inl hb),fun j hj=>(aQ _ _ _).1 w w' (h.2 j hj) fun b hb=>hF b (.inr ⟨j,hj,hb⟩)⟩,fun w b h hb=>?_⟩
 rcases hb with hb|⟨j,hj,hb⟩
 ·exact(aQ _ _ _).2 w b h.1 hb
 ·exact(aQ _ _ _).2 w b (h.2 j hj) hb
theorem Az (A:OA)(n:Nat)(As:Nat→OA)(ns cs:Nat→Nat):Loc (Od A n As ns cs) (Gp A n As ns):=by
 refine⟨fun w w' h hF=>⟨(nV _ _).1 w w' h.1 fun b hb=>hF b (.inl hb),fun j hj=>?_,fun j hj=>(nV _ _).1 w w' (h.2.2.1 j hj) fun b hb=>hF b (.inr ⟨j,hj,hb⟩),h.2.2.2.1,h.2.2.2.2⟩,fun w b h hb=>?_⟩
 ·obtain⟨g,o,e,hc⟩:=h.2.1 j hj
  exact⟨g,o,e,(World.cell?_of_block (w:=w) (a:=⟨g,o+(j*3+2),none⟩) (hF g (.inl ⟨by omega,_,e,rfl⟩))).trans hc⟩
 ·rcases hb with hb|⟨j,hj,hb⟩
  ·exact(nV _ _).2 w b h.1 hb
  ·exact(nV _ _).2 w b (h.2.2.1 j hj) hb
theorem PC.row {A:Option Addr}{n:Nat}{d c:Nat→Int}{As:Nat→Option Addr}{ns cs:Nat→Nat}{z:Nat→Nat→Int}{w:World}(h:PC A n d c As ns cs z w){k:Nat}(hk:k<n):
 ∃g o,A=some ⟨g,o,none⟩∧g<w.heap.size∧w.cell? ⟨g,o+k*3,none⟩=some (.int .i64 (d k))∧w.cell? ⟨g,o+k*3+1,none⟩=some (.int .i64 (c k))∧w.cell? ⟨g,o+k*3+2,none⟩=some (.slice (As k) (ns k) (cs k)):=by
 obtain⟨g,o,e,hg,hr⟩:=h.1 qo;refine⟨g,o,e,hg,?_,?_,?_⟩
 ·exact(hr (k*3) qo).trans (by rw[Ik])
 ·rw[Nat.add_assoc];exact(hr (k*3+1) qo).trans (by rw[Ij])
 ·rw[Nat.add_assoc];exact(hr (k*3+2) qo).trans (by rw[VP])
def Q7 {α:Type}(f:Nat→α)(k:Nat)(x:α)(j:Nat):α:=if j=k then x else f j
theorem yT {α:Type}(f:Nat→α)(k:Nat)(x:α):Q7 f k x k=x:=if_pos rfl
theorem tS {α:Type}(f:Nat→α){k j:Nat}(x:α)(h:j≠k):Q7 f k x j=f j:=if_neg h
structure EC (G n k:Nat)(d c:Nat→Int)(As:Nat→OA)(ns cs:Nat→Nat)(z:Nat→Nat→Int)(w:World):Prop where
 lt:G<w.heap.size
 rw_:dS w G 0 (n*3)
 rr:bI w G 0 (k*3) (xK d c As ns cs)
 rd:∀j,j<k→Rd w (As j) (ns j) (fun i=>.int .i64 (z j i))
 wr:∀j,j<k→Wr w (As j) (ns j)
 ab:∀j b,j<k→Fb (As j) (ns j) b→G<b
 XX:∀i j b,i<j→j<k→Fb (As i) (ns i) b→¬Fb (As j) (ns j) b
theorem bI.adE {w:World}{g o N:Nat}{f f':Nat→Value}(hr:bI w g o N f)(h:∀j,j<N→f j=f' j):bI w g o N f':=fun j hj=>(hr j hj).trans (by rw[h j hj])
theorem Bz {d c:Nat→Int}{As As':Nat→Option Addr}{ns cs cs':Nat→Nat}{q k:Nat}(hq:q<k*3)(h:∀j,j<k→As j=As' j∧cs j=cs' j):xK d c As ns cs q=xK d c As' ns cs' q:=by
 unfold xK;have:=h (q/3) qo;rw[this.1,this.2]
theorem EC.next {G n k:Nat}{d c:Nat→Int}{As:Nat→Option Addr}{ns cs:Nat→Nat}{z:Nat→Nat→Int}{w w1:World}(h:EC G n k d c As ns cs z w)(hk:k<n){A1:Option Addr}{c1:Nat}(hn:New w w1 A1 (ns k) (fun i=>.int .i64 (z k i))):
 EC G n (k+1) d c (Q7 As k A1) ns (Q7 cs k c1) z (((w1.setCell ⟨G,k*3,none⟩ (.int .i64 (d k))).setCell ⟨G,k*3+1,none⟩ (.int .i64 (c k))).setCell ⟨G,k*3+2,none⟩ (.slice A1 (ns k) c1)):=by
 have hs:=hn.bl.size;have hrw:=h.rw_.below hn.bl;have hrr:=h.rr.below h.lt hn.bl;have hne:∀j b,j<k→Fb (As j) (ns j) b→b≠G:=fun j b hj hb e=>by have:=h.ab j b hj hb;omega
 have hA1:∀b,Fb A1 (ns k) b→w.heap.size≤b:=fun b ⟨_,a,e,hb⟩=>hb▸hn.ab a e;have hblk:∀b,b≠G→(((w1.setCell ⟨G,k*3,none⟩ (.int .i64 (d k))).setCell ⟨G,k*3+1,none⟩ (.int .i64 (c k))).setCell ⟨G,k*3+2,none⟩ (.slice A1 (ns k) c1)).heap[b]?=w1.heap[b]?:=fun b hb=>
  (Below.heap_setCell _ _ _ b hb).trans ((Below.heap_setCell _ _ _ b hb).trans (Below.heap_setCell _ _ _ b hb))
 have hr3:=((hrr.adE (f':=xK d c (Q7 As k A1) ns (Q7 cs k c1)) fun q hq=>Bz (k:=k) hq fun j hj=>⟨(tS _ _ qo).symm,(tS _ _ qo).symm⟩).step (a:=k*3) (u:=.int .i64 (d k)) hrw qo qo (by rw[Ik])).step (a:=k*3+1) (u:=.int .i64 (c k)) (hrw.set _ _) qo qo (by rw[Ij]);have hr4:=hr3.step (a:=k*3+2) (u:=.slice A1 (ns k) c1) ((hrw.set _ _).set _ _) qo qo (by rw[VP,yT,yT]);refine⟨by simp[World.setCell];have:=h.lt;omega,((hrw.set _ _).set _ _).set _ _,bI.cast qo hr4,fun j hj=>?_,fun j hj=>?_,fun j b hj hb=>?_,fun i j b hij hj hb hb'=>?_⟩
 ·by_cases hjk:j=k
  ·subst hjk
   rw[yT];exact(aQ _ _ _).1 w1 _ hn.rd fun b hb=>hblk b (by have:=hA1 b hb;have:=h.lt;omega)
  ·rw[tS _ _ hjk]
   exact(aQ _ _ _).1 w1 _ ((h.rd j qo).below hn.bl) fun b hb=>hblk b (hne j b qo hb)
 ·by_cases hjk:j=k
  ·subst hjk
   rw[yT];exact(nV _ _).1 w1 _ hn.wr fun b hb=>hblk b (by have:=hA1 b hb;have:=h.lt;omega)
  ·rw[tS _ _ hjk]
   exact(nV _ _).1 w1 _ ((h.wr j qo).below hn.bl) fun b hb=>hblk b (hne j b qo hb)
 ·by_cases hjk:j=k
  ·subst hjk
   rw[yT]at hb;have:=hA1 b hb;have:=h.lt;omega
  ·rw[tS _ _ hjk]at hb
   exact h.ab j b qo hb
 ·rw[tS _ _ (show i≠k by omega)]at hb
  by_cases hjk:j=k
  ·subst hjk
   rw[yT]at hb';have:=hA1 b hb';have:=(aQ _ _ _).2 w b (h.rd i qo) hb;omega
  ·rw[tS _ _ hjk]at hb'
   exact h.XX i j b hij qo hb hb'
theorem EC.new {n:Nat}{d c:Nat→Int}{As:Nat→Option Addr}{ns cs:Nat→Nat}{z:Nat→Nat→Int}{w w':World}(h:EC w.heap.size n n d c As ns cs z w')(hb:Below w.heap.size w w'):
 D6 w w' (PC (some ⟨w.heap.size,0,none⟩) n d c As ns cs z) (Od (some ⟨w.heap.size,0,none⟩) n As ns cs) (Gp (some ⟨w.heap.size,0,none⟩) n As ns):=by
 refine⟨hb,fun b hF=>?_,⟨fun _=>⟨_,0,rfl,h.lt,h.rr⟩,h.rd⟩,⟨fun _=>⟨_,0,rfl,h.rw_⟩,fun j hj=>⟨_,0,rfl,(h.rr (j*3+2) qo).trans (by rw[VP])⟩,h.wr,fun j b hj hb' ⟨_,a,e,hb2⟩=>?_,h.XX⟩,Cc _ _ _ _ _ _ _ _,Az _ _ _ _ _⟩
 ·rcases hF with⟨_,a,e,hb'⟩|⟨j,hj,hb'⟩
  ·injection e with e;subst e;simp at hb';omega
  ·have:=h.ab j b hj hb';omega
 ·injection e with e
  subst e;have:=h.ab j b hj hb'
  simp at hb2
  omega
def gO (eO:Nat)(ns:Nat→Nat)(z:Nat→Nat→Int):Nat→List Int
 |0=>List.replicate eO 1
 |k+1=>aft (fun j=>(gO eO ns z k).getD j 0) (z k) (ns k)
def stF (eO:Nat)(ns:Nat→Nat)(z:Nat→Nat→Int)(k j:Nat):Int:=(gO eO ns z k).getD j 0
def stN (eO:Nat)(ns:Nat→Nat)(z:Nat→Nat→Int):Nat→Nat
 |0=>eO
 |k+1=>LM (z k) (ns k)
def aho (eO:Nat)(d c:Nat→Int)(ns:Nat→Nat)(z:Nat→Nat→Int)(k:Nat):Bool:=
 kA (d k)&&aK (c k) 1 4&&rS (z k) (ns k)&&decide (Wh (stF eO ns z k) (stN eO ns z k) (z k) (ns k)=0)&&Ye (stF eO ns z k) (stN eO ns z k) (z k) (ns k) (d k) (ns k)
def Wj (eO:Nat)(d c:Nat→Int)(ns:Nat→Nat)(z:Nat→Nat→Int):Nat→Bool
 |0=>true
 |k+1=>Wj eO d c ns z k&&aho eO d c ns z k
def Y3 (eO:Int)(n:Nat)(d c:Nat→Int)(ns:Nat→Nat)(z:Nat→Nat→Int):Bool:=aK eO 1 8&&decide (1≤n∧n≤8)&&Wj eO.toNat d c ns z n
theorem Qv {s:Nat→Int}{n:Nat}{z:Nat→Int}{m:Nat}(h:Wh s n z m=0):DH s n=true∧rS z m=true∧qJ z m=n∧LM z m≤8∧Ep s z m=true:=by
 unfold Wh at h
 by_cases h1:(DH s n&&rS z m)=true
 ·rw[if_pos h1]at h
  simp only[Bool.and_eq_true]at h1
  by_cases h2:qJ z m=n
  ·rw[if_pos h2]at h
   by_cases h3:(Ep s z m&&decide (LM z m≤8))=true
   ·simp only[Bool.and_eq_true,decide_eq_true_eq]at h3
    exact⟨h1.1,h1.2,h2,h3.2,h3.1⟩
   ·rw[if_neg h3]at h;cases h
  ·rw[if_neg h2]at h;cases h
 ·rw[if_neg h1]at h;cases h
def YL (w:World)(v:Value)(N:Nat)(f:Nat→Int):Prop:=∃g o c,v=.slice (some ⟨g,o,none⟩) N c∧(N≤c∧c≤maxLen)∧Rd w (some ⟨g,o,none⟩) N (fun j=>.int .i64 (f j))
theorem YL.of {w w':World}{A:Option Addr}{N c:Nat}{f:Nat→Int}(hn:New w w' A N (fun j=>.int .i64 (f j)))(hN:0<N)(hc:N≤c∧c≤maxLen):YL w' (.slice A N c) N f:=by
 obtain⟨g,o,rfl,_⟩:=aaP hn hN;exact⟨g,o,c,rfl,hc,hn.rd⟩
def oE:List Int→Int
 |[]=>0
 |x::l=>x+oE l
theorem KC {l:List Int}{b:Int}(h:∀x∈l,0≤x∧x≤b):0≤oE l∧oE l≤b*l.length:=by
 induction l with
 |nil=>simp[oE]
 |cons x l ih=>
  have h1:=ih fun y hy=>h y (List.mem_cons_of_mem _ hy);have h2:=h x List.mem_cons_self
  simp only[oE,List.length_cons]
  rw[show b*((l.length+1:Nat):Int)=b*l.length+b by rw[Int.natCast_add,Int.mul_add];simp];omega
def AS (C:Nat→List Int):Nat→Int
 |0=>0
 |i+1=>AS C i+oE (C i)
theorem acK {C:Nat→List Int}{q:Nat}{b:Int}(h:∀i,i<q→0≤oE (C i)∧oE (C i)≤b):0≤AS C q∧AS C q≤b*q:=by
 induction q with
 |zero=>simp[AS]
 |succ q ih=>
  have h1:=ih fun i hi=>h i qo;have h2:=h q qo
  simp only[AS]
  rw[show b*((q+1:Nat):Int)=b*q+b by rw[Int.natCast_add,Int.mul_add];simp];omega
def jQ (k p n b c d:Int):List Int:=[k,p,n,b,c,d]
def H7 (p:Int)(t:Nat):Nat→List Int
 |0=>[]
 |a+1=>(p+t+a)::H7 p t a
def hJ (p:Int)(a:Nat):Nat→List Int
 |0=>[]
 |t+1=>hJ p a t++H7 p t a
theorem Cg (p:Int)(t a:Nat):(H7 p t a).length=a:=by
 induction a with
 |zero=>rfl
 |succ a ih=>simp[H7,ih]
theorem EK (p:Int)(a t:Nat):(hJ p a t).length=t*a:=by
 induction t with
 |zero=>simp[hJ]
 |succ t ih=>simp[hJ,ih,Cg,Nat.succ_mul]
theorem NO {p:Int}{t a:Nat}:∀x∈H7 p t a,p≤x∧x<p+t+a:=by
 induction a with
 |zero=>intro x hx;cases hx
 |succ a ih=>
  intro x hx
  rcases List.mem_cons.1 hx with rfl|hx
  ·omega
  ·have:=ih x hx
   omega
theorem Ch {p:Int}{a t:Nat}:∀x∈hJ p a t,p≤x∧x<p+t+a:=by
 induction t with
 |zero=>intro x hx;cases hx
 |succ t ih=>
  intro x hx
  rcases List.mem_append.1 hx with hx|hx
  ·have:=ih x hx
   omega
  ·have:=NO x hx
   omega
def oF (s:Int)(l:List Int):List Int:=l.map fun x=>s*(x+1)
def cE (s:Int):List Int→List Int
 |[]=>[]
 |x::l=>jQ 1 x s 0 0 0++cE s l
theorem Ez (s:Int)(l m:List Int):cE s (l++m)=cE s l++cE s m:=by
 induction l with
 |nil=>rfl
 |cons x l ih=>simp[cE,ih]
theorem UT (s:Int)(l:List Int):(cE s l).length=6*l.length:=by
 induction l with
 |nil=>rfl
 |cons x l ih=>simp[cE,jQ,ih];omega
def Bt (k:Int):Int:=if k=8∨k=10 then 1 else if k=9∨k=11∨k=5 then-1 else 0
def Ns (k:Int)(L:List Int):List Int:=if Bt k=0 then L else L.drop (L.length/2)++L.take (L.length/2)
def Tv (p k:Int)(L:List Int):List Int:=if Bt k=0 then []else cE (Bt k) (hJ p (oE (L.take (L.length/2))).toNat (oE (L.drop (L.length/2))).toNat)
theorem Ey (k:Int)(L:List Int):(Ns k L).length=L.length:=by
 unfold Ns
 split
 ·rfl
 ·simp;omega
theorem abf {k:Int}{L:List Int}{x:Int}(h:x∈Ns k L):x∈L:=by
 unfold Ns at h
 split at h
 ·exact h
 ·rcases List.mem_append.1 h with h|h
  ·exact List.mem_of_mem_drop h
  ·exact List.mem_of_mem_take h
def knN (d:Int)(n t:Nat):Nat:=if d= -1 then n-1-t else t
def O8 (p TJ c d:Int)(L:List Int):Nat→List Int×List Int
 |0=>([],L)
 |t+1=>((O8 p TJ c d L t).1++jQ 2 (p+oE ((O8 p TJ c d L t).2.take (knN d L.length t))) ((O8 p TJ c d L t).2.getD (knN d L.length t) 0) TJ c d,
  (O8 p TJ c d L t).2.set (knN d L.length t) 1)
theorem Dv (p TJ c d:Int)(L:List Int)(t:Nat):(O8 p TJ c d L t).2.length=L.length∧(O8 p TJ c d L t).1.length=6*t:=by
 induction t with
 |zero=>exact⟨rfl,rfl⟩
 |succ t ih=>
  refine⟨?_,?_⟩
  ·simp[O8,ih.1]
  ·simp[O8,jQ,ih.2];omega
def Es (k:Int)(L:List Int):List Int:=if k=3∨k=4∨k=5 then [1]else if k=6 then L.set 0 (L.getD 0 0+1)else if k=7 then L else List.replicate L.length 1
def Vz (p c d k:Int)(L:List Int):List Int:=
 if k=3 then jQ 3 p 0 1 c d else if k=6 then jQ 3 (p+L.getD 0 0) 0 1 c d else if k=7 then []else if k=4∨k=5 then jQ 2 p (oE L) 1 c d
 else(O8 p (if k=2 then 2 else 1) c d L L.length).1
theorem Br {p c d k:Int}{L:List Int}:(Vz p c d k L).length≤6*(L.length+1)∧(Vz p c d k L).length%6=0:=by
 unfold Vz
 repeat' split
 all_goals first
  |(simp[jQ];omega)
  |(rw[(Dv _ _ _ _ _ _).2];omega)
  |simp[jQ]
section
variable (s z:Nat→Int)
def seg (i:Nat):List Int:=(List.range (GT (z i))).map fun t=>s (qJ z i+t)
theorem seg_length (i:Nat):(seg s z i).length=GT (z i):=by simp[seg]
def vI (i:Nat):List Int:=Ns (z i) (seg s z i)
def YB:Nat→List Int
 |0=>[]
 |i+1=>YB i++Tv (AS (seg s z) i) (z i) (seg s z i)
def afs (d:Int)(m t i:Nat):Bool:=if d= -1 then decide (m≤i+t)else decide (i<t)
def R6 (d:Int)(m t i:Nat):List Int:=if afs d m t i=true then Es (z i) (vI s z i)else vI s z i
def VQ (c d:Int)(m:Nat):Nat→List Int
 |0=>YB s z m
 |t+1=>VQ c d m t++Vz (AS (R6 s z d m t) (EL d m t)) c d (z (EL d m t)) (vI s z (EL d m t))
end
section
variable {s z:Nat→Int}{d:Int}{m t:Nat}
theorem nu (i:Nat):(vI s z i).length=GT (z i):=by rw[vI,Ey,seg_length]
end
def afv (carrier:Int)(j:Nat):Int:=if j%6=0 then 2 else if j%6=1 then(j/6:Nat)else if j%6=2 then 0 else if j%6=3 then 1 else if j%6=4 then carrier else 1
theorem iF:(Tryz.prog.info? 91).map (fun i=>(i.zero,i.size,i.bytes))=some (some (.agg #[.int .i64 0,.int .i64 0,.int .i64 0,.int .i64 0,.int .i64 0,.int .i64 0]),6,48):=by kernel_rfl
theorem cU {B:Nat}{w w':World}{e:TypeId}{size n:Nat}{v:Value}{xs:List Value}(ho:w.ownsRow B e size v n xs)(h:∀b,v.ownBlock=some b→w'.heap[b]?=w.heap[b]?):w'.ownsRow B e size v n xs:=by
 refine⟨ho.1,?_⟩
 rcases ho.2 with hn|⟨g,cap,cur,rfl,hb,hgg,rest⟩
 ·exact .inl hn
 ·exact .inr ⟨g,cap,cur,rfl,hb,(h g rfl).trans hgg,rest⟩
abbrev cX (w:World)(A:OA)(L:List Int):Prop:=Rd w A L.length (fun j=>.int .i64 (L.getD j 0))
structure eQ (B:Nat)(v:Value)(Ls:List (List Int))(As:Nat→OA)(cs:Nat→Nat)(w:World):Prop where
 own:w.ownsRow B 34 1 v Ls.length ((List.range Ls.length).map fun j=>.slice (As j) (Ls.getD j []).length (cs j))
 rd:∀j,j<Ls.length→cX w (As j) (Ls.getD j [])
 far:∀j,j<Ls.length→∀b,Fb (As j) (Ls.getD j []).length b→¬v.ownBlock=some b
section
variable {B:Nat}{v:Value}{Ls:List (List Int)}{As:Nat→Option Addr}{cs:Nat→Nat}{w w':World}
theorem eQ.lt (h:eQ B v Ls As cs w){j:Nat}(hj:j<Ls.length){b:Nat}(hb:Fb (As j) (Ls.getD j []).length b):b<w.heap.size:=(aQ _ _ _).2 w b (h.rd j hj) hb
theorem eQ.keep (h:eQ B v Ls As cs w)(hk:∀b,(v.ownBlock=some b∨∃j,j<Ls.length∧Fb (As j) (Ls.getD j []).length b)→w'.heap[b]?=w.heap[b]?):eQ B v Ls As cs w':=
 ⟨cU h.own fun b hb=>hk b (.inl hb),fun j hj=>(aQ _ _ _).1 _ _ (h.rd j hj) fun b hb=>hk b (.inr ⟨j,hj,hb⟩),h.far⟩
theorem eQ.below (h:eQ B v Ls As cs w)(hb:Below w.heap.size w w'):eQ B v Ls As cs w':=h.keep fun b hx=>hb.block b (by
 rcases hx with hx|⟨j,hj,hx⟩
 ·exact(h.own.lt b hx).2
 ·exact h.lt hj hx)
theorem eQ.drewN (h:eQ B v Ls As cs w)(k:Nat):eQ B v Ls As cs (w.drewN k):=h.keep fun _ _=>rfl
theorem eQ.nil {v:Value}(ho:w.ownsRow B 34 1 v 0 [])(As:Nat→OA)(cs:Nat→Nat):eQ B v [] As cs w:=⟨ho,fun j hj=>absurd hj (Nat.not_lt_zero j),fun j hj=>absurd hj (Nat.not_lt_zero j)⟩
theorem eQ.form (h:eQ B v Ls As cs w)(hn:0<Ls.length):∃g cap,v=.slice (some ⟨g,0,none⟩) Ls.length cap∧g<w.heap.size∧B≤g:=by
 rcases h.own.2 with⟨_,h0⟩|⟨g,cap,_,e,hB,hc,_⟩
 ·omega
 ·exact⟨g,cap,e,(Array.getElem?_eq_some_iff.1 hc).1,hB⟩
theorem eQ.cell {g cap:Nat}(h:eQ B (.slice (some ⟨g,0,none⟩) Ls.length cap) Ls As cs w){j:Nat}(hj:j<Ls.length):w.cell? ⟨g,j,none⟩=some (.slice (As j) (Ls.getD j []).length (cs j)):=by
 rw[h.own.cellAt j qo]
 simp[hj]
theorem eQ.frozen {g cap:Nat}(h:eQ B (.slice (some ⟨g,0,none⟩) Ls.length cap) Ls As cs w)(j:Nat):w.frozen? ⟨g,j,none⟩=false:=h.own.frozenAt j
theorem eQ.snoc (h:eQ B v Ls As cs w){A:Option Addr}{L:List Int}{c:Nat}{v':Value}(hA:cX w A L)(hv:∀b,Fb A L.length b→¬v.ownBlock=some b)
 (hown:w'.ownsRow B 34 1 v' (Ls.length+1) (((List.range Ls.length).map fun j=>Value.slice (As j) (Ls.getD j []).length (cs j))++[.slice A L.length c])) (hf:Fr w w' (fun b=>v.ownBlock=some b)) (hat:v'.ownBlock=v.ownBlock∨v'.ownBlock=some (w.heap.size+1)):
 eQ B v' (Ls++[L]) (fun j=>if j=Ls.length then A else As j) (fun j=>if j=Ls.length then c else cs j) w':=by
 have hlt:∀b,Fb A L.length b→b<w.heap.size:=fun b hb=>(aQ _ _ _).2 w b hA hb;have hg:∀j,j<Ls.length→(Ls++[L]).getD j []=Ls.getD j []:=fun j hj=>by simp only[List.getD];rw[List.getElem?_append_left hj]
 have hg2:(Ls++[L]).getD Ls.length []=L:=by simp[List.getD]
 have OH:∀b,b<w.heap.size→¬v.ownBlock=some b→¬v'.ownBlock=some b:=fun b h1 h2 h3=>by
  rcases hat with h|h
  ·exact h2 (h.symm.trans h3)
  ·rw[h]at h3
   injection h3 with h3;omega
 refine⟨?_,fun j hj=>?_,fun j hj b hb=>?_⟩
 ·have e:(List.range (Ls++[L]).length).map (fun j=>Value.slice (if j=Ls.length then A else As j) ((Ls++[L]).getD j []).length (if j=Ls.length then c else cs j))=((List.range Ls.length).map fun j=>Value.slice (As j) (Ls.getD j []).length (cs j))++[.slice A L.length c]:=by
   rw[List.length_append,List.length_singleton,List.range_succ,List.map_append]
   congr 1
   ·exact List.map_congr_left fun j hj=>by
     have:=List.mem_range.1 hj;rw[if_neg qo,if_neg qo,hg j this]
   ·simp
  rw[e,List.length_append,List.length_singleton];exact hown
 ·rw[List.length_append,List.length_singleton]at hj
  by_cases hjn:j=Ls.length
  ·subst hjn
   rw[if_pos rfl,hg2];exact(aQ _ _ _).fr hA hf fun b hb he=>hv b hb he
  ·rw[if_neg hjn,hg j qo]
   exact(aQ _ _ _).fr (h.rd j qo) hf fun b hb he=>h.far j qo b hb he
 ·rw[List.length_append,List.length_singleton]at hj
  by_cases hjn:j=Ls.length
  ·subst hjn
   rw[if_pos rfl,hg2]at hb;exact OH b (hlt b hb) (hv b hb)
  ·rw[if_neg hjn,hg j qo]at hb
   exact OH b (h.lt qo hb) (h.far j qo b hb)
theorem eQ.put {g cap:Nat}(h:eQ B (.slice (some ⟨g,0,none⟩) Ls.length cap) Ls As cs w){i:Nat}(hi:i<Ls.length){A:Option Addr}{L:List Int}{c:Nat}(hA:cX w A L)(hv:∀b,Fb A L.length b→b≠g):
 eQ B (.slice (some ⟨g,0,none⟩) Ls.length cap) (Ls.set i L) (fun j=>if j=i then A else As j) (fun j=>if j=i then c else cs j) (w.setCell ⟨g,i,none⟩ (.slice A L.length c)):=by
 have hg:∀j,j≠i→(Ls.set i L).getD j []=Ls.getD j []:=fun j hj=>by simp[List.getD,List.getElem?_set,Ne.symm hj]
 have hg2:(Ls.set i L).getD i []=L:=by simp[List.getD,hi]
 have hst:=(h.own.stored i (.slice A L.length c)).1;have hk:∀b,b≠g→(w.setCell ⟨g,i,none⟩ (.slice A L.length c)).heap[b]?=w.heap[b]?:=fun b hb=>Below.heap_setCell w _ _ b hb;refine⟨?_,fun j hj=>?_,fun j hj b hb=>?_⟩
 ·rw[List.length_set]
  have e:(List.range Ls.length).map (fun j=>Value.slice (if j=i then A else As j) ((Ls.set i L).getD j []).length (if j=i then c else cs j))=((List.range Ls.length).map fun j=>Value.slice (As j) (Ls.getD j []).length (cs j)).set i (.slice A L.length c):=by
   apply List.ext_getElem?
   intro j;rw[List.getElem?_set]
   by_cases hij:i=j
   ·subst hij
    simp[hi]
   ·have hji:¬j=i:=fun e=>hij e.symm
    rw[if_neg hij]
    by_cases hj:j<Ls.length
    ·simp[hj,hji,List.getElem?_set,hij]
    ·simp[hj]
  rw[e];exact hst
 ·rw[List.length_set]at hj
  by_cases hji:j=i
  ·subst hji
   rw[if_pos rfl,hg2];exact(aQ _ _ _).1 _ _ hA fun b hb=>hk b (hv b hb)
  ·rw[if_neg hji,hg j hji]
   exact(aQ _ _ _).1 _ _ (h.rd j hj) fun b hb=>hk b fun e=>h.far j hj b hb (by rw[e];rfl)
 ·rw[List.length_set]at hj
  by_cases hji:j=i
  ·subst hji
   rw[if_pos rfl,hg2]at hb;exact fun e=>hv b hb (by injection e with e;exact e.symm)
  ·rw[if_neg hji,hg j hji]at hb
   exact h.far j hj b hb
end
theorem aD {B:Nat}{w w':World}{g o:Nat}{v:Value}(hb:Below B w w')(hg:g<B)(h:w.cell? ⟨g,o,none⟩=some v):w'.cell? ⟨g,o,none⟩=some v:=((aA hb).1 g o hg).trans h
def lO (w:World)(L:List Int)(e:Ending)(w':World):Prop:=∃v,e=.returned v∧w'.ownsRow w.heap.size 2 1 v L.length (ints L)∧Below w.heap.size w w'
theorem iD {B:Nat}{w:World}{A:Option Addr}{n c:Nat}{L:List Int}(ho:w.ownsRow B 2 1 (.slice A n c) n (ints L)):cX w A L:=fun h0=>by
 have hl:L.length=n:=by have:=ho.1;simp[ints]at this;omega
 rcases ho.2 with⟨_,h1⟩|⟨g',cap,_,hg,_⟩
 ·omega
 injection hg with hA _ hc;subst hA;refine⟨g',0,rfl,(ho.lt g' rfl).2,fun j hj=>?_⟩;rw[Nat.zero_add,ho.cellAt j qo]
 simp[ints,List.getD,hj]
theorem p8 (w:World)(cs:Array Value)(n:Nat)(hn:n≤1000000)(hcs:cs.size=n)(hcv:∀j,j<n→cs[j]?=some (.int .i64 0)):(w.alloc (.cells cs 2)).ownsRow w.heap.size 2 1 (.slice (some ⟨w.heap.size,0,none⟩) n n) n (ints (List.replicate n 0)):=by
 have h:=World.ownsRow_lit (base:=w.heap.size) (e:=2) (size:=1) w cs n ql qm qo;have e:cs.toList=ints (List.replicate n 0):=by
  apply List.ext_getElem?
  intro j
  by_cases hj:j<n
  ·have:=hcv j hj
   rw[Array.getElem?_toList,this]
   simp[ints,hj]
  ·rw[List.getElem?_eq_none (by rw[Array.length_toList];omega),List.getElem?_eq_none (by simp[ints];omega)]
 rwa[e]at h
theorem CW (A:OA)(c:Nat)(L:List Int)(w:World)(ha:cX w A L)(hn:L.length≤1048576):
 Calls Tryz.prog 83 #[.slice A L.length c] w (lO w L):=by
 obtain⟨i0,hi,iz,is,ib⟩:=info_parts info64;have hb0:Below w.heap.size w (w.alloc (.cells #[] 2)):=qb;have HR:=qh (ha.below hb0);have HO:=qh (World.ownsRow_made (e:=2) (size:=1) w #[] 0 ql qm rfl);have HB:=qh hb0;clear ha hb0
 go_enter Tryz.func83,Tryz.ntmps83
 go_wp2_with (at_builtin;go_must (refine cW (w.alloc (.cells #[] 2)) rfl (.tmp 3) (.tmp 4) _ rfl w.heap.size 2 i0 _ 1 8 Tryz.underlying34 hi iz is ib rfl qo _ 0 [] rfl HO.o A L.length c (fun j=>.int .i64 (L.getD j 0)) rfl (by rw[Nat.mul_one];exact HR.o) (fun j=>rfl) qm qo qj ?_);intro v' w' hown' hfr;have HOWN':=qh hown';have iL:=qh hfr;clear hown' hfr)
 go_ret
 have ho:=HOWN'.o;rw[Nat.zero_add,List.nil_append,Nat.mul_one,zL L L.length rfl]at ho;exact⟨_,rfl,ho,HB.o.trans (iL.o.own HO.o qj)⟩
theorem FW {L:List Int}{k:Nat}(hk:k<L.length)(x:Int):x∈L.take (k+1)↔x∈L.take k∨x=L.getD k 0:=by
 rw[List.take_succ_eq_append_getElem hk,List.mem_append,List.mem_singleton]
 simp[List.getD,hk]
theorem Du (A:OA)(c:Nat)(L:List Int)(x:Int)(w:World)(ha:cX w A L)(hn:L.length≤1048576):
 Calls Tryz.prog 207 #[.slice A L.length c,.int .i64 x] w fun e w'=>e=.returned (.bool (decide (x∈L)))∧w=w':=by
 have HA:=qh ha;clear ha
 go_enter Tryz.func207,Tryz.ntmps207
 go_wp2
 go_loop [5] (fun i=>∃k:Nat,k≤L.length∧i=.int .i64 k∧Hq (x∉L.take k)) (fun i=>L.length-(intOf i).toNat)
 case atStart=>exact⟨0,Nat.zero_le _,rfl,qh qj⟩
 case round=>
  obtain⟨k,hk,rfl,HX⟩:=hrel
  by_cases hlt:k<L.length
  ·obtain⟨ga,o,rfl,hg,hr⟩:=HA.o qo
   have hc:=hr k hlt;have HM:=qh (FW hlt x);obtain⟨y,hy⟩:=qx (L.getD k 0)
   simp only[←hy]at hc HM
   have HY:=qh (show y∈L by rw[hy];simp[List.getD,hlt]);have b1:(0:Int)≤(k:Int):=qo;have b2:(k:Int)<(L.length:Int):=qo;clear hr hy
   by_cases hxy:y=x
   ·subst hxy
    have HD:=qh (show decide (y∈L)=true from decide_eq_true HY.o)
    go_wp2
    go_ret
    exact⟨by rw[HD.o];rfl,rfl⟩
   ·have hxb:(y==x)=false:=by simpa using hxy
    go_wp2
    go_round
    case rel=>exact⟨k+1,by omega,qg,qh (by rw[HM.o];rintro(h|h);exact HX.o h;exact hxy h.symm)⟩
    case measure=>exact qs
  ·obtain rfl:L.length=k:=qo
   have HD:=qh (show decide (x∈L)=false from decide_eq_false (by have:=HX.o;rwa[List.take_length]at this))
   go_wp2
   go_ret
   exact⟨by rw[HD.o];rfl,rfl⟩
theorem kg (A B:OA)(c c':Nat)(L M:List Int)(w:World)(ha:cX w A L)(hb:cX w B M)(hn:L.length≤1048576)(hm:M.length≤1048576):
 Calls Tryz.prog 208 #[.slice A L.length c,.slice B M.length c'] w fun e w'=>e=.returned (.bool (decide (L=M)))∧∃q,w'=w.drewN q:=by
 have HA:=qh ha;have HB:=qh hb;clear ha hb
 by_cases hl:L.length=M.length
 case neg=>
  have HD:=qh (show decide (L=M)=false from decide_eq_false fun e=>hl (by rw[e]));have hlb:((L.length:Int)==(M.length:Int))=false:=by rw[beq_eq_false_iff_ne];omega
  have hlc:¬(L.length:Int)=(M.length:Int):=qo
  go_enter Tryz.func208,Tryz.ntmps208
  go_wp2
  go_ret
  exact⟨by rw[HD.o];rfl,0,rfl⟩
 obtain⟨n,hnl⟩:=qx (L.length);have hnm:M.length=n:=qo;have jG:=qh hnl;have J7:=qh hnm;have e1:L.length=n:=hnl.symm;rw[←hnl];rw[hnm];rw[←hnl]at hn;clear hnl hnm hl hm
 go_enter Tryz.func208,Tryz.ntmps208
 go_wp2
 go_loopw [5] (fun i wr=>∃k q:Nat,k≤n∧i=.int .i64 k∧wr=w.drewN q∧Hq (L.take k=M.take k)) (fun i _=>n-(intOf i).toNat)
 case atStart=>exact⟨0,0,Nat.zero_le _,rfl,rfl,qh qj⟩
 case round=>
  obtain⟨k,q,hk,rfl,rfl,HX⟩:=hrel
  by_cases hlt:k<n
  ·obtain⟨ga,o,rfl,hg,hr⟩:=HA.o qo
   obtain⟨gb,o',rfl,hg',hr'⟩:=HB.o (by have:=J7.o;omega);have hc:=hr k qo;have hc':=hr' k (by have:=J7.o;omega);have HT1:=qh (show L.take (k+1)=L.take k++[L.getD k 0]by rw[List.take_succ_eq_append_getElem qo];simp[List.getD,show k<L.length by omega]);have HT2:=qh (show M.take (k+1)=M.take k++[M.getD k 0]by rw[List.take_succ_eq_append_getElem (by have:=J7.o;omega)];simp[List.getD,show k<M.length by have:=J7.o;omega]);obtain⟨x,hx⟩:=qx (L.getD k 0);obtain⟨y,hy⟩:=qx (M.getD k 0)
   simp only[←hx]at hc
   rw[←hx]at HT1
   simp only[←hy]at hc'
   rw[←hy]at HT2;have Oj:=qh hx;have HYY:=qh hy;have b1:(0:Int)≤(k:Int):=qo;have b2:(k:Int)<(n:Int):=qo;clear hr hr' hx hy
   by_cases hxy:x=y
   ·subst hxy
    go_wp2_with fail
    go_quiet (fail)
    go_wp2_with fail
    go_roundw
    case rel=>exact⟨k+1,_,by omega,qg,rfl,qh (by rw[HT1.o,HT2.o,HX.o])⟩
    case measure=>exact qs
   ·have HD:=qh (show decide (L=M)=false from decide_eq_false fun e=>hxy (by rw[Oj.o,HYY.o,e]))
    have hxb:(x==y)=false:=by simpa using hxy
    go_wp2_with fail
    go_quiet (fail)
    go_wp2_with fail
    go_ret
    exact⟨by rw[HD.o];rfl,_,World.drewN_drewN _ _ _⟩
  ·obtain rfl:n=k:=qo
   have HD:=qh (show decide (L=M)=true from decide_eq_true (by
    have h:=HX.o;rwa[List.take_of_length_le qo,List.take_of_length_le (by have:=J7.o;omega)]at h))
   go_wp2
   go_ret
   exact⟨by rw[HD.o];rfl,q,rfl⟩
end Go.Proofs.YtdnmhhohcedjbaaGreat
