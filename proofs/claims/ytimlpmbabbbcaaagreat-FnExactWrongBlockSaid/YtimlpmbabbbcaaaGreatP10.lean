/- Walks and plain lemmas. -/
import Derived.Test.YtimlpmbabbbcaaaGreatP06
set_option linter.unusedVariables false
set_option linter.unusedSimpArgs false
set_option maxHeartbeats 4000000
set_option maxRecDepth 20000
namespace Go.Proofs.YtimlpmbabbbcaaaGreat
open Go.RowKit
def nB (b a:Int):Bool:=aJ b 1 2&&aJ a 0 23
def bD (k d fb fa tb ta c r:Int):Bool:=
 if k=1∨k=2∨k=3 then gQ d&&(nB fb fa&&(aJ c 1 4&&((tb==0)&&((ta==0)&&(r==0)))))
 else if k=4 then nB fb fa&&(nB tb ta&&((fb !=tb)&&((d==0)&&((c==0)&&(r==0)))))
 else if k=5 then nB fb fa&&(nB tb ta&&((fb !=tb)&&(gQ d&&(aJ c 1 4&&(r==0)))))
 else if k=6 then nB fb fa&&((d==0)&&((tb==0)&&((ta==0)&&((c==0)&&(r==0)))))
 else if k=7 then aJ r (-3) 3&&((d==0)&&((fb==0)&&((fa==0)&&((tb==0)&&((ta==0)&&(c==0))))))
 else if k=8 then gQ d&&(aJ c 1 4&&((fb==0)&&((fa==0)&&((tb==0)&&((ta==0)&&(r==0))))))
 else if k=9 then aJ c 1 4&&((d==0)&&((fb==0)&&((fa==0)&&((tb==0)&&((ta==0)&&(r==0))))))
 else false
theorem eK (b a:Int)(w:World):Calls Tryz.prog 96 #[.agg #[.int .i64 b,.int .i64 a]] w fun e w'=>e=.returned (.bool (nB b a))∧Below w.heap.size w w':=by
 go_enter Tryz.func96,Tryz.ntmps96
 go_wp2_with (first|(go_at_call 150;refine(ST _ _).mono ?_;rintro e w' ⟨rfl,rfl⟩)|(go_at_call 58;refine(bX _ _ _ _).mono ?_;rintro e w' ⟨rfl,rfl⟩))
 all_goals go_ret
 all_goals exact⟨qr (by simp_all [nB]),qz⟩
theorem oP (r:Int)(w:World):Calls Tryz.prog 99 #[.int .i64 r] w fun e w'=>e=.returned (.bool (aJ r (-3) 3))∧w=w':=by
 go_enter Tryz.func99,Tryz.ntmps99
 go_wp2_with ((go_at_call 58;refine(bX _ _ _ _).mono ?_;rintro e w' ⟨rfl,rfl⟩))
 go_ret
 exact⟨rfl,rfl⟩
theorem oQ (fb fa tb ta:Int)(w:World):Calls Tryz.prog 98 #[.agg #[.int .i64 fb,.int .i64 fa],.agg #[.int .i64 tb,.int .i64 ta]] w fun e w'=>e=.returned (.bool (nB fb fa&&(nB tb ta&&(fb !=tb))))∧Below w.heap.size w w':=by
 cases h1:nB fb fa
 ·go_enter Tryz.func98,Tryz.ntmps98
  go_wp2_with fail
  refine(eK fb fa _).mono ?_;rintro e w1 ⟨rfl,hb1⟩;rw[h1];have HB1:=qh (show Below w.heap.size w w1 from qz);clear hb1
  go_wp2_with fail
  go_ret
  exact⟨rfl,HB1.o⟩
 ·cases h2:nB tb ta
  ·go_enter Tryz.func98,Tryz.ntmps98
   go_wp2_with fail
   refine(eK fb fa _).mono ?_;rintro e w1 ⟨rfl,hb1⟩;rw[h1];have HB1:=qh (show Below w.heap.size w w1 from qz);have X1:=qh (aG.below ((aG.at_ w 49 #[.int .i64 fb,.int .i64 fa] rfl).alloc _) hb1 (by first|(simp;done)|(simp;omega)));have Y1:=qh (aG.below (aG.at_ (g':=w.heap.size+1) _ 49 #[.int .i64 tb,.int .i64 ta] qj) hb1 (by first|(simp;done)|(simp;omega)));have x1:=fun o=>X1.out.cell o;have y1:=fun o=>Y1.out.cell o;have z1:=X1.out.lt;have z2:=Y1.out.lt;clear hb1
   go_wp2_with fail
   refine(eK tb ta _).mono ?_;rintro e w2 ⟨rfl,hb2⟩;rw[h2];have HB2:=HB1.st hb2;clear hb2
   go_wp2_with fail
   go_ret
   exact⟨rfl,HB2.o⟩
  ·go_enter Tryz.func98,Tryz.ntmps98
   go_wp2_with fail
   refine(eK fb fa _).mono ?_;rintro e w1 ⟨rfl,hb1⟩;rw[h1];have HB1:=qh (show Below w.heap.size w w1 from qz);have X1:=qh (aG.below ((aG.at_ w 49 #[.int .i64 fb,.int .i64 fa] rfl).alloc _) hb1 (by first|(simp;done)|(simp;omega)));have Y1:=qh (aG.below (aG.at_ (g':=w.heap.size+1) _ 49 #[.int .i64 tb,.int .i64 ta] qj) hb1 (by first|(simp;done)|(simp;omega)));have x1:=fun o=>X1.out.cell o;have y1:=fun o=>Y1.out.cell o;have z1:=X1.out.lt;have z2:=Y1.out.lt;clear hb1
   go_wp2_with fail
   refine(eK tb ta _).mono ?_;rintro e w2 ⟨rfl,hb2⟩;rw[h2];have HB2:=HB1.st hb2;have x2:=fun o=>(X1.out.below hb2 z1).cell o;have y2:=fun o=>(Y1.out.below hb2 z2).cell o;clear hb2 x1 y1
   go_wp2_with fail
   all_goals go_ret
   all_goals exact⟨qr (by rfl),HB2.o⟩
theorem zP10x0 {p:Prop}(h:p:=by
 go_enter Tryz.func61,Tryz.ntmps61
 go_wp2_with (first|(go_at_call 95;refine(mK _ _).mono ?_;rintro e w' ⟨rfl,rfl⟩)|(go_at_call 97;refine(iU _ _).mono ?_;rintro e w' ⟨rfl,rfl⟩)|(go_at_call 99;refine(oP _ _).mono ?_;rintro e w' ⟨rfl,rfl⟩)|(go_at_call 96;refine(eK _ _ _).mono ?_;rintro e w1 ⟨rfl,hb1⟩;have x1:=fun o=>(aG.below (aG.at_ w 51 _ rfl) hb1 (by first|(simp;done)|(simp;omega))).cell o)|(go_at_call 98;refine(oQ _ _ _ _ _).mono ?_;rintro e w1 ⟨rfl,hb1⟩;have x1:=fun o=>(aG.below (aG.at_ w 51 _ rfl) hb1 (by first|(simp;done)|(simp;omega))).cell o))
 all_goals go_ret
 all_goals exact⟨qr (by first|rfl|(simp_all [bD];done)|(simp_all [bD];intro a b e;exact absurd ((by assumption:_→_→_) a b) e)),qz⟩):p:=h
theorem NG (k d fb fa tb ta c r:Int)(hk:k=1∨k=2∨k=3)(w:World):Calls Tryz.prog 61 #[.agg #[.int .i64 k,.int .i64 d,.int .i64 fb,.int .i64 fa,.int .i64 tb,.int .i64 ta,.int .i64 c,.int .i64 r]] w fun e w'=>e=.returned (.bool (bD k d fb fa tb ta c r))∧Below w.heap.size w w':=by
 rcases hk with rfl|rfl|rfl
 all_goals
  exact zP10x0
theorem NF (k d fb fa tb ta c r:Int)(hk:k=4)(w:World):Calls Tryz.prog 61 #[.agg #[.int .i64 k,.int .i64 d,.int .i64 fb,.int .i64 fa,.int .i64 tb,.int .i64 ta,.int .i64 c,.int .i64 r]] w fun e w'=>e=.returned (.bool (bD k d fb fa tb ta c r))∧Below w.heap.size w w':=by
 subst hk
 exact zP10x0
theorem NE (k d fb fa tb ta c r:Int)(hk:k=5)(w:World):Calls Tryz.prog 61 #[.agg #[.int .i64 k,.int .i64 d,.int .i64 fb,.int .i64 fa,.int .i64 tb,.int .i64 ta,.int .i64 c,.int .i64 r]] w fun e w'=>e=.returned (.bool (bD k d fb fa tb ta c r))∧Below w.heap.size w w':=by
 subst hk
 exact zP10x0
theorem ND (k d fb fa tb ta c r:Int)(hk:k=6)(w:World):Calls Tryz.prog 61 #[.agg #[.int .i64 k,.int .i64 d,.int .i64 fb,.int .i64 fa,.int .i64 tb,.int .i64 ta,.int .i64 c,.int .i64 r]] w fun e w'=>e=.returned (.bool (bD k d fb fa tb ta c r))∧Below w.heap.size w w':=by
 subst hk
 exact zP10x0
theorem NC (k d fb fa tb ta c r:Int)(hk:k=7)(w:World):Calls Tryz.prog 61 #[.agg #[.int .i64 k,.int .i64 d,.int .i64 fb,.int .i64 fa,.int .i64 tb,.int .i64 ta,.int .i64 c,.int .i64 r]] w fun e w'=>e=.returned (.bool (bD k d fb fa tb ta c r))∧Below w.heap.size w w':=by
 subst hk
 exact zP10x0
theorem NB (k d fb fa tb ta c r:Int)(hk:k=8)(w:World):Calls Tryz.prog 61 #[.agg #[.int .i64 k,.int .i64 d,.int .i64 fb,.int .i64 fa,.int .i64 tb,.int .i64 ta,.int .i64 c,.int .i64 r]] w fun e w'=>e=.returned (.bool (bD k d fb fa tb ta c r))∧Below w.heap.size w w':=by
 subst hk
 exact zP10x0
theorem NA (k d fb fa tb ta c r:Int)(hk:k=9)(w:World):Calls Tryz.prog 61 #[.agg #[.int .i64 k,.int .i64 d,.int .i64 fb,.int .i64 fa,.int .i64 tb,.int .i64 ta,.int .i64 c,.int .i64 r]] w fun e w'=>e=.returned (.bool (bD k d fb fa tb ta c r))∧Below w.heap.size w w':=by
 subst hk
 exact zP10x0
theorem P3 (k d fb fa tb ta c r:Int)(w:World):Calls Tryz.prog 61 #[.agg #[.int .i64 k,.int .i64 d,.int .i64 fb,.int .i64 fa,.int .i64 tb,.int .i64 ta,.int .i64 c,.int .i64 r]] w fun e w'=>e=.returned (.bool (bD k d fb fa tb ta c r))∧Below w.heap.size w w':=by
 by_cases h1:k=1∨k=2∨k=3
 ·exact NG k d fb fa tb ta c r h1 w
 by_cases h4:k=4
 ·exact NF k d fb fa tb ta c r h4 w
 by_cases h5:k=5
 ·exact NE k d fb fa tb ta c r h5 w
 by_cases h6:k=6
 ·exact ND k d fb fa tb ta c r h6 w
 by_cases h7:k=7
 ·exact NC k d fb fa tb ta c r h7 w
 by_cases h8:k=8
 ·exact NB k d fb fa tb ta c r h8 w
 by_cases h9:k=9
 ·exact NA k d fb fa tb ta c r h9 w
 have e0:bD k d fb fa tb ta c r=false:=by simp[bD,h1,h4,h5,h6,h7,h8,h9]
 simp only[not_or]at h1
 obtain⟨h1,h2,h3⟩:=h1;rw[e0]
 go_enter Tryz.func61,Tryz.ntmps61
 go_wp2
 all_goals go_ret
 all_goals exact⟨rfl,qz⟩
def xS (W:Int)(z:Nat→Int)(k:Nat):Bool:=
 bD (z (k*8)) (z (k*8+1)) (z (k*8+2)) (z (k*8+3)) (z (k*8+4)) (z (k*8+5)) (z (k*8+6)) (z (k*8+7))&&(decide (z (k*8+3)<W)&&decide (z (k*8+5)<W))
def wG (W:Int)(z:Nat→Int):Nat→Bool
 |0=>true
 |k+1=>wG W z k&&xS W z k
theorem ON {W:Int}{z:Nat→Int}{n k:Nat}(hk:k<n)(h:xS W z k=false):wG W z n=false:=by
 induction n with
 |zero=>omega
 |succ n ih=>
  simp only[wG]
  by_cases hkn:k=n
  ·subst hkn;rw[h];simp
  ·rw[ih qo];rfl
theorem Pn {W:Int}{z:Nat→Int}{n:Nat}(h:wG W z n=true):∀k,k<n→xS W z k=true:=by
 induction n with
 |zero=>intro k hk;omega
 |succ n ih=>
  simp only[wG,Bool.and_eq_true]at h
  intro k hk
  by_cases hkn:k=n
  ·subst hkn;exact h.2
  ·exact ih h.1 k qo
def kF (W:Int)(z:Nat→Int)(n:Nat):Bool:=aJ W 1 24&&(decide (n≤1500)&&wG W z n)
theorem mQ {B:Nat}{w w':World}{g o:Nat}{v:Value}(hb:Below B w w')(hg:g<B)(h:w.cell? ⟨g,o,none⟩=some v):w'.cell? ⟨g,o,none⟩=some v:=((aC hb).1 g o hg).trans h
def L8 (V:Bool)(a b W:Int):Bool:=V&&(decide (a<W)&&decide (b<W))
theorem Ci (gw:Nat)(W k d fb fa tb ta c r:Int)(w:World)(hw:w.cell? ⟨gw,0,none⟩=some (.int .i64 W)):
 Calls Tryz.prog 60 #[.agg #[.int .i64 k,.int .i64 d,.int .i64 fb,.int .i64 fa,.int .i64 tb,.int .i64 ta,.int .i64 c,.int .i64 r],.pointer (some ⟨gw,0,none⟩)] w fun e w'=>e=.returned (.bool (!L8 (bD k d fb fa tb ta c r) fa ta W))∧Below w.heap.size w w':=by
 have hg:=World.block_lt_of_cell? w _ hw
 go_enter Tryz.func60,Tryz.ntmps60
 go_wp2_with fail
 refine(P3 k d fb fa tb ta c r _).mono ?_;rintro e w1 ⟨rfl,hb1⟩;have x1:=fun o=>(aG.below (aG.at_ w 51 _ rfl) hb1 (by first|(simp;done)|(simp;omega))).cell o;have w1':w1.cell? ⟨gw,0,none⟩=some (.int .i64 W):=((aC hb1).1 gw 0 (by simp;omega)).trans ((World.cell?_alloc_lt w _ ⟨gw,0,none⟩ hg).trans hw);have HB1:=qh (show Below w.heap.size w w1 from qz);clear hb1
 cases hv:bD k d fb fa tb ta c r
 ·go_wp2_with fail
  go_ret
  exact⟨qr (by simp[L8,hv]),HB1.o⟩
 ·by_cases ha:fa<W
  ·go_wp2_with fail
   all_goals go_ret
   all_goals exact⟨qr (by rw[Bool.eq_iff_iff];simp[L8,hv]<;>omega),HB1.o⟩
  ·go_wp2_with fail
   all_goals go_ret
   all_goals exact⟨qr (by rw[Bool.eq_iff_iff];simp[L8,hv]<;>omega),HB1.o⟩
def agb (w:World)(b:Bool)(e:Ending)(w':World):Prop:=∃r:Int,e=.returned (.int .i64 r)∧(r= -1∧b=true∨0≤r∧b=false)∧Below w.heap.size w w'
theorem jl (gw:Nat)(W:Int)(A:OA)(n q:Nat)(z:Nat→Int)(w:World)(ha:Rd w A (n*8) (fun j=>.int .i64 (z j)))(hw:w.cell? ⟨gw,0,none⟩=some (.int .i64 W))(hn:n≤1048576):
 Calls Tryz.prog 94 #[.slice A n q,.func (.func 60) #[] #[.pointer (some ⟨gw,0,none⟩)]] w (agb w (wG W z n)):=by
 have HA:=qh ha;have hg:=World.block_lt_of_cell? w _ hw;have HW:=qh hw;clear ha hw
 go_enter Tryz.func94,Tryz.ntmps94
 go_wp2_with fail
 go_loopw [8] (fun i wr=>∃k:Nat,k≤n∧i=.int .i64 k∧Hq (wG W z k=true)∧Below w.heap.size w wr) (fun i _=>n-(intOf i).toNat)
 case atStart=>exact⟨0,Nat.zero_le _,rfl,rfl,Below.refl _ _⟩
 case round=>
  obtain⟨k,hk,rfl,HK,hb⟩:=hrel;have HB:=qh hb
  by_cases hlt:k<n
  ·obtain⟨ga,o,rfl,hga,hr⟩:=HA.o.below hb qo
   have kw:=mQ hb hg HW.o;have HR:=qh hr;have c0:wr.cell? ⟨ga,o+k*8,none⟩=some (.int .i64 (z (k*8))):=HR.o (k*8) qo;have c1:wr.cell? ⟨ga,o+k*8+1,none⟩=some (.int .i64 (z (k*8+1))):=by rw[Nat.add_assoc];exact HR.o (k*8+1) qo
   have c2:wr.cell? ⟨ga,o+k*8+2,none⟩=some (.int .i64 (z (k*8+2))):=by rw[Nat.add_assoc];exact HR.o (k*8+2) qo
   have c3:wr.cell? ⟨ga,o+k*8+3,none⟩=some (.int .i64 (z (k*8+3))):=by rw[Nat.add_assoc];exact HR.o (k*8+3) qo
   have c4:wr.cell? ⟨ga,o+k*8+4,none⟩=some (.int .i64 (z (k*8+4))):=by rw[Nat.add_assoc];exact HR.o (k*8+4) qo
   have c5:wr.cell? ⟨ga,o+k*8+5,none⟩=some (.int .i64 (z (k*8+5))):=by rw[Nat.add_assoc];exact HR.o (k*8+5) qo
   have c6:wr.cell? ⟨ga,o+k*8+6,none⟩=some (.int .i64 (z (k*8+6))):=by rw[Nat.add_assoc];exact HR.o (k*8+6) qo
   have c7:wr.cell? ⟨ga,o+k*8+7,none⟩=some (.int .i64 (z (k*8+7))):=by rw[Nat.add_assoc];exact HR.o (k*8+7) qo
   obtain⟨V,hV⟩:=qx (xS W z k);have HV:=qh hV;have hV':V=L8 (bD (z (k*8)) (z (k*8+1)) (z (k*8+2)) (z (k*8+3)) (z (k*8+4)) (z (k*8+5)) (z (k*8+6)) (z (k*8+7))) (z (k*8+3)) (z (k*8+5)) W:=hV;generalize z (k*8)=x0 at*;generalize z (k*8+1)=x1 at*;generalize z (k*8+2)=x2 at*;generalize z (k*8+3)=x3 at*;generalize z (k*8+4)=x4 at*;generalize z (k*8+5)=x5 at*;generalize z (k*8+6)=x6 at*;generalize z (k*8+7)=x7 at*;have Xa:=qh hV';clear hr hb hV hV'
   go_wp2_with fail
   refine(Ci gw W x0 x1 x2 x3 x4 x5 x6 x7 _ kw).mono ?_;rintro e w1 ⟨rfl,hb1⟩;rw[←Xa.o];have HB1:=HB.st hb1;clear hb1 c0 c1 c2 c3 c4 c5 c6 c7 kw
   cases V
   ·go_wp2
    go_ret
    exact⟨_,rfl,.inr ⟨by omega,ON hlt HV.o.symm⟩,HB1.o⟩
   ·go_wp2
    go_roundw
    case rel=>exact⟨k+1,by omega,qg,by unfold Hq;simp only[wG];rw[HK.o,←HV.o];rfl,HB1.o⟩
    case measure=>exact qs
  ·obtain rfl:n=k:=qo
   clear hb
   go_wp2
   go_ret
   exact⟨_,rfl,.inl ⟨rfl,HK.o⟩,HB.o⟩
theorem NR (gw:Nat)(W:Int)(A:OA)(n q:Nat)(z:Nat→Int)(w:World)(ha:Rd w A (n*8) (fun j=>.int .i64 (z j)))(hw:w.cell? ⟨gw,0,none⟩=some (.int .i64 W))(hn:n≤1048576):
 Calls Tryz.prog 59 #[.slice A n q,.func (.func 60) #[] #[.pointer (some ⟨gw,0,none⟩)]] w fun e w'=>e=.returned (.bool (!wG W z n))∧Below w.heap.size w w':=by
 go_enter Tryz.func59,Tryz.ntmps59
 go_wp2_with fail
 refine(jl gw W A n q z _ ha hw hn).mono ?_;rintro e w' ⟨r,rfl,h,hb⟩;have iD:=qh hb
 rcases h with⟨rfl,hb⟩|⟨hr,hb⟩
 ·have HB:=qh hb
  clear hb
  go_wp2
  go_ret
  exact⟨by rw[HB.o];rfl,iD.o⟩
 ·have HB:=qh hb
  clear hb;have hr':decide (0≤r)=true:=by simpa using hr
  go_wp2
  go_ret
  exact⟨by rw[HB.o];simp,iD.o⟩
theorem V8 (W:Int)(A:OA)(n q:Nat)(z:Nat→Int)(w:World)(ha:Rd w A (n*8) (fun j=>.int .i64 (z j)))(hn:n≤1048576):
 Calls Tryz.prog 36 #[.int .i64 W,.slice A n q] w fun e w'=>e=.returned (.bool (kF W z n))∧Below w.heap.size w w':=by
 have HA:=qh ha;clear ha
 cases hI:aJ W 1 24
 ·go_enter Tryz.func36,Tryz.ntmps36
  go_wp2_with ((go_at_call 58;refine(bX _ _ _ _).mono ?_;rintro e w' ⟨rfl,rfl⟩))
  all_goals go_ret
  all_goals exact⟨by simp[kF,hI],qz⟩
 ·by_cases hl:n≤1500
  ·have hl':(n:Int)≤1500:=qo
   go_enter Tryz.func36,Tryz.ntmps36
   go_wp2_with ((go_at_call 58;refine(bX _ _ _ _).mono ?_;rintro e w' ⟨rfl,rfl⟩))
   refine(NR w.heap.size W A n q z _ (HA.o.below (qz)) (cV rfl 0) hn).mono ?_;rintro e w1 ⟨rfl,hb1⟩;have HB1:=qh (show Below w.heap.size w w1 from qz);clear hb1
   go_wp2_with fail
   go_ret
   exact⟨by simp[kF,hI,hl],HB1.o⟩
  ·have hl':¬(n:Int)≤1500:=qo
   go_enter Tryz.func36,Tryz.ntmps36
   go_wp2_with ((go_at_call 58;refine(bX _ _ _ _).mono ?_;rintro e w' ⟨rfl,rfl⟩))
   all_goals go_ret
   all_goals exact⟨by simp[kF,hl],qz⟩
end Go.Proofs.YtimlpmbabbbcaaaGreat
