/- Walks and plain lemmas. -/
import Derived.Test.YtdnmhhohcedjbaaGreatQ20
import Derived.Test.YtdnmhhohcedjbaaGreatQ23
import Derived.Test.YtdnmhhohcedjbaaGreatQ21
import Derived.Test.YtdnmhhohcedjbaaGreatQ22
import Derived.Test.YtdnmhhohcedjbaaGreatQ25
import Derived.Test.YtdnmhhohcedjbaaGreatQ26
set_option linter.unusedVariables false
set_option linter.unusedSimpArgs false
set_option maxHeartbeats 8000000
set_option maxRecDepth 20000
namespace Go.Proofs.YtdnmhhohcedjbaaGreat
open Go.RowKit Go.Sort
theorem Dm (k d fb fa tb ta c r:Int)(g o:Nat)(w:World)(H:Hq (oI w g o k d fb fa tb ta c r))(hk:¬k=1∧¬k=2∧¬k=3∧¬k=4∧¬k=5∧¬k=6∧¬k=7∧¬k=8∧¬k=9):
 Calls Tryz.prog 81 #[.pointer (some ⟨g,o,none⟩)] w fun e w'=>e=.returned (.bool false)∧Below w.heap.size w w':=by
 obtain⟨k1,k2,k3,k4,k5,k6,k7,k8,k9⟩:=hk;have h0:=H.o.c0;have hg:=H.o.lt
 go_enter Tryz.func81,Tryz.ntmps81
 go_wp2_with fail
 go_ret
 exact⟨rfl,qz⟩
theorem Ko (k d fb fa tb ta c r:Int)(g o:Nat)(w:World)(H:Hq (oI w g o k d fb fa tb ta c r)):
 Calls Tryz.prog 81 #[.pointer (some ⟨g,o,none⟩)] w fun e w'=>e=.returned (.bool (aW k d fb fa tb ta c r))∧Below w.heap.size w w':=by
 by_cases h1:k=1
 ·subst h1;exact Dl d fb fa tb ta c r g o w H
 by_cases h2:k=2
 ·subst h2;exact Dk d fb fa tb ta c r g o w H
 by_cases h3:k=3
 ·subst h3;exact Dj d fb fa tb ta c r g o w H
 by_cases h4:k=4
 ·subst h4;exact Di d fb fa tb ta c r g o w H
 by_cases h5:k=5
 ·subst h5;exact Dh d fb fa tb ta c r g o w H
 by_cases h6:k=6
 ·subst h6;exact Dg d fb fa tb ta c r g o w H
 by_cases h7:k=7
 ·subst h7;exact Df d fb fa tb ta c r g o w H
 by_cases h8:k=8
 ·subst h8;exact Dc d fb fa tb ta c r g o w H
 by_cases h9:k=9
 ·subst h9;exact Db d fb fa tb ta c r g o w H
 have e0:aW k d fb fa tb ta c r=false:=by simp[aW,h1,h2,h3,h4,h5,h6,h7,h8,h9]
 rw[e0];exact Dm k d fb fa tb ta c r g o w H ⟨h1,h2,h3,h4,h5,h6,h7,h8,h9⟩
theorem jr (k d fb fa tb ta c r W:Int)(g o:Nat)(w:World)(H:Hq (oI w g o k d fb fa tb ta c r)):
 Calls Tryz.prog 82 #[.pointer (some ⟨g,o,none⟩),.int .i64 W] w fun e w'=>e=.returned (.bool (decide (fa<W)&&decide (ta<W)))∧w=w':=by
 have h3:w.cell? ⟨g,o+2+1,none⟩=some (.int .i64 fa):=H.o.c3;have h5:w.cell? ⟨g,o+4+1,none⟩=some (.int .i64 ta):=H.o.c5
 by_cases ha:fa<W
 ·go_enter Tryz.func82,Tryz.ntmps82
  go_wp2_with fail
  all_goals go_ret
  all_goals exact⟨qr (by simp[ha]),rfl⟩
 ·have hd:decide (fa<W)=false:=decide_eq_false ha
  go_enter Tryz.func82,Tryz.ntmps82
  go_wp2_with fail
  all_goals go_ret
  all_goals exact⟨rfl,rfl⟩
theorem aaI {w:World}{ga o n:Nat}{z:Nat→Int}(hr:bI w ga o (n*8) (fun j=>.int .i64 (z j))){k:Nat}(hk:k<n):
 oI w ga (o+k*8) (z (k*8)) (z (k*8+1)) (z (k*8+2)) (z (k*8+3)) (z (k*8+4)) (z (k*8+5)) (z (k*8+6)) (z (k*8+7)):=by
 refine⟨hr (k*8) qo,?_,?_,?_,?_,?_,?_,?_⟩
 all_goals
  rw[Nat.add_assoc];exact hr _ qo
theorem S7 {W:Int}{z:Nat→Int}{n k:Nat}(hk:k<n)(h:dR W z k=false):gZ W z n=false:=by simp[gZ,NQ hk h]
theorem O6 (W:Int)(A:OA)(n q:Nat)(z:Nat→Int)(w:World)(ha:Rd w A (n*8) (fun j=>.int .i64 (z j)))(hn:n≤1048576):
 Calls Tryz.prog 58 #[.int .i64 W,.slice A n q] w fun e w'=>e=.returned (.bool (gZ W z n))∧Below w.heap.size w w':=by
 have HA:=qh ha;clear ha
 go_enter Tryz.func58,Tryz.ntmps58
 go_wp2_with fail
 go_loopw [5] (fun i wr=>∃k:Nat,k≤n∧i=.int .i64 k∧Hq (oY W z k=true)∧Below w.heap.size w wr) (fun i _=>n-(intOf i).toNat)
 case atStart=>exact⟨0,Nat.zero_le _,rfl,rfl,Below.refl _ _⟩
 case round=>
  obtain⟨k,hk,rfl,HK,hb⟩:=hrel;have HB:=qh hb
  by_cases hlt:k<n
  ·obtain⟨ga,o,rfl,hga,hr⟩:=HA.o.below hb qo
   have HO:=qh (aaI hr hlt);obtain⟨V,hV⟩:=qx (dR W z k);have HV:=qh hV;have hV':V=JX (aW (z (k*8)) (z (k*8+1)) (z (k*8+2)) (z (k*8+3)) (z (k*8+4)) (z (k*8+5)) (z (k*8+6)) (z (k*8+7))) (z (k*8+3)) (z (k*8+5)) W:=hV;generalize z (k*8)=x0 at*;generalize z (k*8+1)=x1 at*;generalize z (k*8+2)=x2 at*;generalize z (k*8+3)=x3 at*;generalize z (k*8+4)=x4 at*;generalize z (k*8+5)=x5 at*;generalize z (k*8+6)=x6 at*;generalize z (k*8+7)=x7 at*;have Zk:=qh hV';clear hr hb hV hV'
   go_wp2_with fail
   refine(Ko x0 x1 x2 x3 x4 x5 x6 x7 _ _ _ HO).mono ?_;rintro e w1 ⟨rfl,hb1⟩;have aO:=qh (HO.o.below hb1);have HB1:=HB.st hb1;clear hb1
   cases hop:aW x0 x1 x2 x3 x4 x5 x6 x7
   ·have ON:dR W z k=false:=by rw[←HV.o,Zk.o,hop];rfl
    have HF:=qh ON;clear ON
    go_wp2
    go_ret
    exact⟨by rw[S7 hlt HF.o];rfl,HB1.o⟩
   ·have PP:=qh hop
    clear hop
    go_wp2_with fail
    refine(jr x0 x1 x2 x3 x4 x5 x6 x7 W _ _ _ aO).mono ?_;rintro e w2 ⟨rfl,rfl⟩;have ON:dR W z k=(decide (x3<W)&&decide (x5<W)):=by rw[←HV.o,Zk.o,PP.o];rfl
    cases hft:(decide (x3<W)&&decide (x5<W))
    ·rw[hft]at ON
     have HF:=qh ON;clear ON hft
     go_wp2
     go_ret
     exact⟨by rw[S7 hlt HF.o];rfl,HB1.o⟩
    ·rw[hft]at ON
     have HF:=qh ON;clear ON hft
     go_wp2
     go_roundw
     case rel=>exact⟨k+1,by omega,qg,by unfold Hq;simp only[oY];rw[HK.o,HF.o];rfl,HB1.o⟩
     case measure=>exact qs
  ·obtain rfl:n=k:=qo
   clear hb
   cases hI:aK W 1 24
   ·go_wp2_with ((go_at_call 31;refine(dK _ _ _ _).mono ?_;rintro e w' ⟨rfl,rfl⟩))
    all_goals go_ret
    all_goals exact⟨by simp[gZ,hI],HB.o⟩
   ·by_cases hl:n≤1500
    ·have hl':(n:Int)≤1500:=qo
     go_wp2_with ((go_at_call 31;refine(dK _ _ _ _).mono ?_;rintro e w' ⟨rfl,rfl⟩))
     all_goals go_ret
     all_goals exact⟨by simp[gZ,hI,hl,HK.o],HB.o⟩
    ·have hl':¬(n:Int)≤1500:=qo
     go_wp2_with ((go_at_call 31;refine(dK _ _ _ _).mono ?_;rintro e w' ⟨rfl,rfl⟩))
     all_goals go_ret
     all_goals exact⟨by simp[gZ,hl];omega,HB.o⟩
end Go.Proofs.YtdnmhhohcedjbaaGreat
namespace Go.Proofs.YtdnmhhohcedjbaaGreat
open Go.RowKit
def afx (z:Nat→Int)(i:Nat):Nat:=(z (i*8+6)-1).toNat
def aff (s:aI)(z:Nat→Int)(i:Nat):Int:=afe s (z (i*8)) (z (i*8+1)) (z (i*8+2)) (z (i*8+3)) (afx z i)
def Gt (W:Nat)(z:Nat→Int):Nat→Nat→Int
 |0,_=>0
 |i+1,j=>Gt W z i j+(if z (i*8+6)=(j:Int)+1 then aff (bB W z i) z i else 0)
def stk (W:Nat)(z:Nat→Int):Nat→Nat
 |0=>0
 |i+1=>pkS (bB W z (i+1)) (stk W z i) W
def alN (W:Nat)(z:Nat→Int):Nat→Nat
 |0=>0
 |i+1=>max (alN W z i) (pkN (bB W z (i+1)) W)
def ahs (a b:Int):Int:=if b<a then a else b
def rks (W:Nat)(z:Nat→Int):Nat→Int
 |0=>0
 |i+1=>if z (i*8)=7 then rks W z i+ahs (z (i*8+7)-(bB W z i).rk) ((bB W z i).rk-z (i*8+7))else rks W z i
section
variable {W:Nat}{z:Nat→Int}{n:Nat}
end
structure Runs (w:World)(tg:Nat→Nat)(a:bC)(s:aI)(w':World):Prop where
 m:Mem tg a s w'
 b:Below w.heap.size w w'
 lo:∀q,tg q≠0→w.heap.size≤q
section
variable {w w1 w2:World}{tg:Nat→Nat}{a:bC}{s s':aI}
theorem Runs.below (h:Runs w tg a s w1)(hb:Below w1.heap.size w1 w2):Runs w tg a s w2:=⟨h.m.below hb,h.b.trans (hb.mono h.b.size),h.lo⟩
theorem Runs.fr (h:Runs w tg a s w1)(hf:Fr w1 w2 (eZ tg)):Below w.heap.size w w2:=h.b.trans (hf.below h.b.size fun q hq=>h.lo q hq)
theorem Runs.step (h:Runs w tg a s w1)(hm:Moved w1 tg a.g s' w2):∃gU a',a'.g=a.g∧Runs w gU a' s' w2∧∀q,q<w1.heap.size→tg q=0→gU q=0∧w2.heap[q]?=w1.heap[q]?:=by
 obtain⟨gU,a',hg,hm',hf,ht⟩:=hm;refine⟨gU,a',hg,⟨hm',h.fr hf,fun q hq=>?_⟩,fun q hq h0=>⟨Decidable.byContradiction fun hn=>?_,hf.block q hq (fun hn=>hn h0)⟩⟩
 ·rcases ht q hq with h1|h1
  ·exact h.lo q h1
  ·exact Nat.le_trans h.b.size h1
 ·rcases ht q hn with h1|h1
  ·exact h1 h0
  ·omega
theorem Runs.set (h:Runs w tg a s w1){g:Nat}(hg:tg g=0)(hlo:w.heap.size≤g)(o:Nat)(u:Value):Runs w tg a s (w1.setCell ⟨g,o,none⟩ u):=
 ⟨h.m.same (fun b hb=>aE _ _ _ _ (by intro e;rw[show b=g from e]at hb;exact hb hg)) (by rw[fR];exact Nat.le_refl _),h.b.setCell hlo _,h.lo⟩
theorem lR {ga o n:Nat}{z:Nat→Int}(hr:bI w ga o (n*8) (fun j=>.int .i64 (z j))){k:Nat}(hk:k<n):
 gI ga (o+k*8) (z (k*8)) (z (k*8+1)) (z (k*8+2)) (z (k*8+3)) (z (k*8+4)) (z (k*8+5)) (z (k*8+6)) (z (k*8+7)) w:=by
 refine⟨hr (k*8) qo,?_,?_,?_,?_,?_,?_,?_⟩
 all_goals
  try rw[Nat.add_assoc]
  try rw[Nat.add_assoc]
  exact hr _ qo
end
abbrev abm (W:Nat)(z:Nat→Int)(i:Nat):Array Value:=#[.int .i64 (Gt W z i 0),.int .i64 (Gt W z i 1),.int .i64 (Gt W z i 2),.int .i64 (Gt W z i 3)]
def codeOf (W:Int)(z:Nat→Int)(n:Nat):Int:=if gZ W z n=true then xJ W.toNat z n else 1
def adP (w:World)(W:Int)(z:Nat→Int)(n:Nat)(e:Ending)(w':World):Prop:=
 (codeOf W z n≠0→e=.returned (.tuple #[.slice none 0 0,.int .i64 0,.int .i64 0,.int .i64 0,.int .i64 (codeOf W z n)])∧Below w.heap.size w w')∧
 (codeOf W z n=0→∃g,e=.returned (.tuple #[.slice (some ⟨g,0,none⟩) 4 4,.int .i64 (stk W.toNat z n:Nat),.int .i64 (alN W.toNat z n:Nat),.int .i64 (rks W.toNat z n),.int .i64 0])∧w.heap.size≤g∧aB w' g 2 (abm W.toNat z n)∧Below w.heap.size w w')
theorem IR {W:Int}{z:Nat→Int}{n:Nat}(h:gZ W z n=false):codeOf W z n=1:=if_neg (by rw[h];exact Bool.false_ne_true)
theorem adP.no {w w':World}{W:Int}{z:Nat→Int}{n:Nat}{e:Ending}{c:Int}(hc:codeOf W z n=c)(h0:c≠0)(he:e=.returned (.tuple #[.slice none 0 0,.int .i64 0,.int .i64 0,.int .i64 0,.int .i64 c]))(hb:Below w.heap.size w w'):adP w W z n e w':=
 ⟨fun _=>⟨by rw[he,hc],hb⟩,fun h=>absurd (hc.symm.trans h) h0⟩
def adR (v:Value):Prop:=∃(x y:Int) (A B C D E:OA) (a b c d e a' b' c' d' e':Nat),v=.agg #[.int .i64 x,.int .i64 y,.slice A a a',.slice B b b',.slice C c c',.slice D d d',.slice E e e']
def TL (w:World)(W:Int)(z:Nat→Int)(n:Nat)(e:Ending)(w':World):Prop:=
 ∃(v:Value) (k:Int),adR v∧e=.returned (.tuple #[v,.int .i64 k,.int .i64 (codeOf W z n)])∧Below w.heap.size w w'
theorem TL.of {w w':World}{W:Int}{z:Nat→Int}{n:Nat}{e:Ending}{c:Int}(hc:codeOf W z n=c)(v:Value)(k:Int)(hv:adR v)(he:e=.returned (.tuple #[v,.int .i64 k,.int .i64 c]))(hb:Below w.heap.size w w'):TL w W z n e w':=
 ⟨v,k,hv,by rw[hc];exact he,hb⟩
theorem Mem.sev {tg:Nat→Nat}{a:bC}{s:aI}{w:World}(H:Mem tg a s w):∃AL cL AD qD cD,dM a s=#[.int .i64 s.W,.int .i64 s.rk,.slice (some ⟨a.gf,0,none⟩) s.W a.cf,.slice (some ⟨a.gk,0,none⟩) s.W a.ck,.slice (some ⟨a.gc,0,none⟩) 4 a.cc,.slice AL s.n cL,.slice AD qD cD]:=by
 obtain⟨xs,hx,_⟩:=H.l;obtain⟨AL,cL,hL⟩:=aF hx;obtain⟨q,_,xd,hd⟩:=H.d;obtain⟨AD,cD,hD⟩:=aF hd;exact⟨AL,cL,AD,q,cD,by unfold dM;rw[hL,hD]⟩
theorem aB.s7 {w:World}{g:Nat}{t:TypeId}{c0 c1 c2 c3 c4 c5 c6:Value}(h:aB w g t #[c0,c1,c2,c3,c4,c5,c6])(u0 u1 u2 u3 u4 u5 u6:Value):aB (((((((w.setCell ⟨g,0,none⟩ u0).setCell ⟨g,1,none⟩ u1).setCell ⟨g,2,none⟩ u2).setCell ⟨g,3,none⟩ u3).setCell ⟨g,4,none⟩ u4).setCell ⟨g,5,none⟩ u5).setCell ⟨g,6,none⟩ u6) g t #[u0,u1,u2,u3,u4,u5,u6]:=by
 have h0:aB (w.setCell ⟨g,0,none⟩ u0) g t #[u0,c1,c2,c3,c4,c5,c6]:=h.bJ 0 u0;have h1:aB ((w.setCell ⟨g,0,none⟩ u0).setCell ⟨g,1,none⟩ u1) g t #[u0,u1,c2,c3,c4,c5,c6]:=h0.bJ 1 u1;have h2:aB (((w.setCell ⟨g,0,none⟩ u0).setCell ⟨g,1,none⟩ u1).setCell ⟨g,2,none⟩ u2) g t #[u0,u1,u2,c3,c4,c5,c6]:=h1.bJ 2 u2;have h3:aB ((((w.setCell ⟨g,0,none⟩ u0).setCell ⟨g,1,none⟩ u1).setCell ⟨g,2,none⟩ u2).setCell ⟨g,3,none⟩ u3) g t #[u0,u1,u2,u3,c4,c5,c6]:=h2.bJ 3 u3;have h4:aB (((((w.setCell ⟨g,0,none⟩ u0).setCell ⟨g,1,none⟩ u1).setCell ⟨g,2,none⟩ u2).setCell ⟨g,3,none⟩ u3).setCell ⟨g,4,none⟩ u4) g t #[u0,u1,u2,u3,u4,c5,c6]:=h3.bJ 4 u4;have h5:aB ((((((w.setCell ⟨g,0,none⟩ u0).setCell ⟨g,1,none⟩ u1).setCell ⟨g,2,none⟩ u2).setCell ⟨g,3,none⟩ u3).setCell ⟨g,4,none⟩ u4).setCell ⟨g,5,none⟩ u5) g t #[u0,u1,u2,u3,u4,u5,c6]:=h4.bJ 5 u5;have h6:aB (((((((w.setCell ⟨g,0,none⟩ u0).setCell ⟨g,1,none⟩ u1).setCell ⟨g,2,none⟩ u2).setCell ⟨g,3,none⟩ u3).setCell ⟨g,4,none⟩ u4).setCell ⟨g,5,none⟩ u5).setCell ⟨g,6,none⟩ u6) g t #[u0,u1,u2,u3,u4,u5,u6]:=h5.bJ 6 u6;exact h6
theorem QB {w:World}{g b:Nat}(hb:b≠g)(u0 u1 u2 u3 u4 u5 u6:Value):(((((((w.setCell ⟨g,0,none⟩ u0).setCell ⟨g,1,none⟩ u1).setCell ⟨g,2,none⟩ u2).setCell ⟨g,3,none⟩ u3).setCell ⟨g,4,none⟩ u4).setCell ⟨g,5,none⟩ u5).setCell ⟨g,6,none⟩ u6).heap[b]?=w.heap[b]?:=by
 rw[aE _ _ _ _ hb,aE _ _ _ _ hb,aE _ _ _ _ hb,aE _ _ _ _ hb,aE _ _ _ _ hb,aE _ _ _ _ hb,aE _ _ _ _ hb]
theorem vM {B:Nat}{w0 w:World}{g:Nat}(h:Below B w0 w)(hg:B≤g)(u0 u1 u2 u3 u4 u5 u6:Value):Below B w0 (((((((w.setCell ⟨g,0,none⟩ u0).setCell ⟨g,1,none⟩ u1).setCell ⟨g,2,none⟩ u2).setCell ⟨g,3,none⟩ u3).setCell ⟨g,4,none⟩ u4).setCell ⟨g,5,none⟩ u5).setCell ⟨g,6,none⟩ u6):=
 ((((((h.setCell hg _).setCell hg _).setCell hg _).setCell hg _).setCell hg _).setCell hg _).setCell hg _
theorem wE (W:Int)(A:OA)(n q:Nat)(z:Nat→Int)(w:World)(ha:Rd w A (n*8) (fun j=>.int .i64 (z j)))(hn:n≤1048576):
 Calls Tryz.prog 30 #[.int .i64 W,.slice A n q] w (TL w W z n):=by
 obtain⟨W0,hW0⟩:=qx (w.alloc (.cells #[.int .i64 0,.int .i64 0,.slice none 0 0,.slice none 0 0,.slice none 0 0,.slice none 0 0,.slice none 0 0] 58));have HB0:Hq (Below w.heap.size w W0):=qh (hW0▸qb);have xS:Hq (aB W0 w.heap.size 58 e9):=qh (hW0▸aB.at_ _ _ _ rfl);have HW0:=qh hW0;have hops:=O6 W A n q z W0 (ha.below HB0.o) hn;have HA:=qh (ha.below HB0.o);have wm:w.heap.size<W0.heap.size:=xS.o.lt;have rB:=qh wm;clear ha hW0 wm
 cases hpb:gZ W z n
 ·rw[hpb]at hops
  have HC:=qh (IR hpb);have HO:=qh hops;clear hops hpb
  go_enter Tryz.func30,Tryz.ntmps30
  go_upto_region 1 with(fail)
  rw[←HW0.o]
  go_wp2_with fail
  refine HO.o.mono ?_;rintro e w1 ⟨rfl,hb1⟩;have hres:=xS.o.below hb1 rB.o;have HB1:=HB0.st hb1;have q0:=(qc hres 0 rfl);have q1:=(qc hres 1 rfl);have q2:=(qc hres 2 rfl);have q3:=(qc hres 3 rfl);have q4:=(qc hres 4 rfl);have q5:=(qc hres 5 rfl);have q6:=(qc hres 6 rfl);have f0:=fun o=>hres.frozen o;clear hb1 hres
  go_wp2_with fail
  refine bodyPost_ret (v:=.tuple #[.agg e9,.int .i64 0,.int .i64 1]) (by simp[results,Tryz.results30,go_sem,q0,q1,q2,q3,q4,q5,q6]) rfl ?_;exact TL.of HC.o _ _ ⟨_,_,_,_,_,_,_,_,_,_,_,_,_,_,_,_,_,rfl⟩ rfl (vM HB1.o ql _ _ _ _ _ _ _)
 ·have HPB:=qh hpb
  have hpp:aK W 1 24=true∧n≤1500∧oY W z n=true:=by
   unfold gZ at hpb
   simpa only[Bool.and_eq_true,decide_eq_true_eq]using hpb
  have hW:1≤W∧W≤24:=by have:=hpp.1;unfold aK at this;simpa only[Bool.and_eq_true,decide_eq_true_eq]using this
  obtain⟨W,rfl⟩:=Int.eq_ofNat_of_zero_le (show 0≤W by omega);have HW:Hq (1≤W∧W≤24):=qh qo;have oG:=hpp.2.1;have dT:=qh (LU hpp.2.2);rw[hpb]at hops;have HO:=qh hops;clear hops hpb hpp hW
  go_enter Tryz.func30,Tryz.ntmps30
  go_upto_region 1 with(fail)
  rw[←HW0.o]
  go_wp2_with fail
  refine HO.o.mono ?_;rintro e w1 ⟨rfl,hb1⟩;have HB1:=qh hb1;clear hb1 HO
  go_wp2_with fail
  refine(EV W w1 HW.o.1 HW.o.2).mono ?_;rintro e w2 ⟨v,rfl,⟨iM,⟨g0,gf,cf,gk,ck,gc,cc,F0,K0,L0,D0⟩,rfl,hlo,gK,⟨⟨AL,nL,cL,hL⟩,⟨AD,nD,cD,hD⟩⟩,hmk⟩,hb2⟩;obtain rfl:L0=_:=hL;obtain rfl:D0=_:=hD;have HB2:Hq (Below W0.heap.size W0 w2):=HB1.st hb2;have H0:Hq (Runs W0 (eX iM w2.heap.size) ⟨w2.heap.size,gf,cf,gk,ck,gc,cc,F0,K0,.slice AL nL cL,.slice AD nD cD⟩ (bB W z 0) (w2.alloc (.cells (dM ⟨g0,gf,cf,gk,ck,gc,cc,F0,K0,.slice AL nL cL,.slice AD nD cD⟩ (jC W)) 58))):=qh ⟨hmk _ _ (Decidable.byContradiction fun hn=>Nat.lt_irrefl _ (gK _ hn)) (fun b hb=>Below.heap_alloc _ _ b (gK b hb)) qj (aB.at_ _ _ _ rfl),
   HB2.o.alloc HB2.o.size _,fun q hq=>by
    unfold eX at hq
    split at hq
    ·have:=HB2.o.size;omega
    ·exact Nat.le_trans HB1.o.size (hlo q hq)⟩
  clear hlo gK hmk hb2
  simp only[dM,jC]at H0 ⊢
  go_wp2_with fail
  go_loopw [8] (fun iv wr=>∃(i:Nat) (tg:Nat→Nat) (a:bC),i≤n∧iv=.int .i64 i∧a.g=w2.heap.size∧Runs W0 tg a (bB W z i) wr∧mV W z i) (fun iv _=>n-(intOf iv).toNat)
  case atStart=>exact⟨0,_,_,Nat.zero_le _,rfl,rfl,H0.o,fun i hi=>by omega⟩
  case round=>
   obtain⟨i,tg,a,hile,rfl,hg,hr,hok⟩:=hrel;have HG:=qh hg;have HR:=qh hr;have iV:=qh hok;have YP:Hq (W0.heap.size≤w2.heap.size):=qh HB2.o.size;have Oq:Hq (w2.heap.size<wr.heap.size):=qh (by rw[←hg];exact hr.m.lt a.g (by rw[hr.m.tm];omega));have hs:=zI HW.o.1 HW.o.2 i (fun q hq=>dT.o q qo) hok;have HS:=qh hs;obtain⟨mL,SH,mD,SC,SI,hcells⟩:=hr.m.sev;have sE:=qh hcells;clear hg hr hok hs hcells;obtain⟨s,hsv⟩:=qx (bB W z i);rw[←hsv]at HR HS sE;have wZ:=qh hsv;clear hsv
   by_cases hlt:i<n
   ·have dC:=qh hlt
    obtain⟨ga,o,rfl,hga,hra⟩:=HA.o qo;have GI:Hq (ga<W0.heap.size):=qh hga;have HT:Hq (∀b,b<W0.heap.size→tg b=0):=qh fun b hb=>Decidable.byContradiction fun hn=>by have:=HR.o.lo b hn;omega
    have hce:=lR (hra.below hga HR.o.b) hlt;have hp:=gC HW.o.1 (dT.o i hlt);rw[←BU W z i,←wZ.o]at hp;generalize hx0:z (i*8)=k at*;generalize hx1:z (i*8+1)=d at*;generalize hx2:z (i*8+2)=fb at*;generalize hx3:z (i*8+3)=fa at*;generalize hx4:z (i*8+4)=tb at*;generalize hx5:z (i*8+5)=ta at*;generalize hx6:z (i*8+6)=c at*;generalize hx7:z (i*8+7)=r at*;have HX:Hq (z (i*8)=k∧z (i*8+1)=d∧z (i*8+2)=fb∧z (i*8+3)=fa∧z (i*8+4)=tb∧z (i*8+5)=ta∧z (i*8+6)=c∧z (i*8+7)=r):=qh ⟨hx0,hx1,hx2,hx3,hx4,hx5,hx6,hx7⟩;have HO:=qh hce;have HP:=qh hp;clear hx0 hx1 hx2 hx3 hx4 hx5 hx6 hx7 hce hp hra hga;have ho:=EU (D:=4*i) HR.o.m HS.o qo;rw[HG.o]at ho;have HOW:=qh ho;clear ho
    go_wp2_with fail
    refine HOW.o.mono ?_;rintro e w3 ⟨v,rfl,⟨mU,⟨g1,SX,T9,SW,ck1,SZ,oO,F1,K1,L1,D1⟩,rfl,hlo1,hlt1,⟨⟨TY,SA,TB,hL1⟩,⟨TZ,SB,TC,hD1⟩⟩,zP⟩,hb3⟩;obtain rfl:L1=_:=hL1;obtain rfl:D1=_:=hD1;clear HOW
    simp only[dM]at zP ⊢
    obtain⟨w4,hw4⟩:=qx (w3.alloc (.cells #[.int .i64 s.W,.int .i64 s.rk,.slice (some ⟨SX,0,none⟩) s.W T9,.slice (some ⟨SW,0,none⟩) s.W ck1,.slice (some ⟨SZ,0,none⟩) 4 oO,.slice TY SA TB,.slice TZ SB TC] 58));have hb4:Below w3.heap.size w3 w4:=hw4▸qb;have fQ:Hq (Mem (eX mU w3.heap.size) ⟨w3.heap.size,SX,T9,SW,ck1,SZ,oO,F1,K1,.slice TY SA TB,.slice TZ SB TC⟩ s w4):=qh (zP w3.heap.size w4 (Decidable.byContradiction fun hn=>Nat.lt_irrefl _ (hlt1 _ hn)) (fun b hb=>hb4.block b (hlt1 b hb)) hb4.size (hw4▸aB.at_ _ _ _ rfl));have HB3:=qh hb3;have aR:=qh (hb3.trans (hb4.mono hb3.size));have xC:Hq (∀b,eX mU w3.heap.size b≠0→wr.heap.size≤b):=qh fun b hb=>by
     unfold eX at hb
     split at hb
     ·have:=HB3.o.size;omega
     ·exact hlo1 b hb
    have CF:=qh hw4;clear hlo1 hlt1 zP hb3 hb4 hw4
    go_upto_region 8 with(fail)
    rw[←CF.o];have bP:Hq (gI ga (o+i*8) k d fb fa tb ta c r w4):=qh ((dA _ _ _ _ _ _ _ _ _ _).1 _ _ HO.o fun q hq=>by subst hq;exact aR.o.block _ (World.block_lt_of_cell? _ _ HO.o.c0));have ZQ:Hq (eX mU w3.heap.size ga=0):=qh (Decidable.byContradiction fun hn=>by have h1:=xC.o ga hn;have h2:=GI.o;have h3:=HR.o.b.size;omega);have hd:=BX (D:=4*i) ga (o+i*8) (k:=k) (d:=d) (fb:=fb) (fa:=fa) (tb:=tb) (ta:=ta) (c:=c) (r:=r) fQ.o HS.o qo bP.o ZQ.o HP.o;obtain⟨code,hcode⟩:=qx (aX s k d fb fa tb ta (c-1).toNat);rw[←hcode]at hd;have mQ:=qh hcode;have pN:Hq (kC (bB W z i) z i=code):=qh (by unfold kC;rw[HX.o.1,HX.o.2.1,HX.o.2.2.1,HX.o.2.2.2.1,HX.o.2.2.2.2.1,HX.o.2.2.2.2.2.1,HX.o.2.2.2.2.2.2.1,←wZ.o];exact hcode.symm);clear hcode
    go_wp2_with fail
    refine hd.mono ?_;rintro e w5 ⟨rfl,rY,qB⟩;clear hd;have eJ:=qh rY;have kV:Hq (Runs W0 tg a s w5):=qh ⟨HR.o.m.same (fun b hb=>(eJ.o.block b (Nat.lt_of_lt_of_le (HR.o.m.lt b hb) aR.o.size) (fun hn=>by have h1:=xC.o b hn;have h2:=HR.o.m.lt b hb;omega)).trans (aR.o.block b (HR.o.m.lt b hb))) (Nat.le_trans aR.o.size eJ.o.size),(HR.o.b.trans (aR.o.mono HR.o.b.size)).trans (eJ.o.below (Nat.le_trans HR.o.b.size aR.o.size) fun b hb=>Nat.le_trans HR.o.b.size (xC.o b hb)),HR.o.lo⟩;have hbk:=kV.o.m.m;rw[sE.o,HG.o]at hbk;have m0:=(qc hbk 0 rfl);have m1:=(qc hbk 1 rfl);have m2:=(qc hbk 2 rfl);have m3:=(qc hbk 3 rfl);have m4:=(qc hbk 4 rfl);have m5:=(qc hbk 5 rfl);have m6:=(qc hbk 6 rfl);have rE:=qh hbk;clear rY hbk
    by_cases hc0:code=0
    ·obtain⟨wB,a5,hg5,oK,_,zN⟩:=qB hc0
     subst hc0;obtain⟨pL,S0,pD,RZ,S1,oM⟩:=oK.sev;have ZF:Hq (∀b,wB b≠0→wr.heap.size≤b):=qh fun b hb=>by
      rcases zN b hb with h1|h1
      ·exact xC.o b h1
      ·exact Nat.le_trans aR.o.size h1
     have hb5:=oK.m;have mM:=qh (oK.makes ZF.o);rw[oM]at mM;rw[oM,hg5]at hb5;obtain⟨s',hs'⟩:∃x,x=cV s k d fb fa tb ta r (c-1).toNat:=⟨_,rfl⟩;rw[←hs']at mM hb5;have HS':Hq (s'=bB W z (i+1)):=qh (by
      show _=kS (bB W z i) z i;unfold kS;rw[HX.o.1,HX.o.2.1,HX.o.2.2.1,HX.o.2.2.2.1,HX.o.2.2.2.2.1,HX.o.2.2.2.2.2.1,HX.o.2.2.2.2.2.2.1,HX.o.2.2.2.2.2.2.2,←wZ.o];exact hs')
     have p0:=(qc hb5 0 rfl);have p1:=(qc hb5 1 rfl);have p2:=(qc hb5 2 rfl);have p3:=(qc hb5 3 rfl);have p4:=(qc hb5 4 rfl);have p5:=(qc hb5 5 rfl);have p6:=(qc hb5 6 rfl);have f0:=fun o=>rE.o.frozen o;clear oK zN hg5 oM hs' qB hb5;obtain⟨w6,jU⟩:∃x,x=((((((w5.setCell ⟨w2.heap.size,0,none⟩ (.int .i64 s'.W)).setCell ⟨w2.heap.size,1,none⟩ (.int .i64 s'.rk)).setCell ⟨w2.heap.size,2,none⟩ (.slice (some ⟨a5.gf,0,none⟩) s'.W a5.cf)).setCell ⟨w2.heap.size,3,none⟩ (.slice (some ⟨a5.gk,0,none⟩) s'.W a5.ck)).setCell ⟨w2.heap.size,4,none⟩ (.slice (some ⟨a5.gc,0,none⟩) 4 a5.cc)).setCell ⟨w2.heap.size,5,none⟩ (.slice pL s'.n S0)).setCell ⟨w2.heap.size,6,none⟩ (.slice pD RZ S1):=⟨_,rfl⟩;have bN:Hq (∃qT a6,a6.g=w2.heap.size∧Runs W0 qT a6 s' w6):=qh (by
      obtain⟨xY,a2,hv,hlo2,hlt2,_,WW⟩:=mM.o;have hcs:=Value.agg.inj hv;have h0:xY w2.heap.size=0:=Decidable.byContradiction fun hn=>by have h1:=hlo2 _ hn;have h2:=Oq.o;omega
      refine⟨eX xY w2.heap.size,{a2 with g:=w2.heap.size},rfl,WW w2.heap.size w6 h0 (fun b hb=>?_) ?_ ?_,?_,fun b hb=>?_⟩
      ·rw[jU]
       exact QB (fun e=>hb (by rw[e];exact h0)) _ _ _ _ _ _ _
      ·rw[jU]
       simp only[fR]
       exact Nat.le_refl _
      ·rw[←hcs,jU]
       exact aB.s7 rE.o _ _ _ _ _ _ _
      ·rw[jU]
       exact vM kV.o.b YP.o _ _ _ _ _ _ _
      ·unfold eX at hb
       split at hb
       ·have:=YP.o;omega
       ·exact Nat.le_trans HR.o.b.size (hlo2 b hb))
     have Ou:=qh jU;clear jU
     go_wp2_with fail
     rw[←Ou.o];obtain⟨qT,a6,mJ,SQ⟩:=bN.o;rw[HS'.o]at SQ
     go_roundw
     case rel=>exact⟨i+1,qT,a6,dC.o,qg,mJ,SQ,I0 iV.o pN.o⟩
     case measure=>exact qs
    ·have TV:Hq (codeOf W z n=code):=qh (by
      unfold codeOf;rw[if_pos HPB.o,Int.toNat_natCast,GZ iV.o dC.o (by rw[pN.o];exact hc0),pN.o])
     have hc1:(code==0)=false:=by simpa using hc0
     have hres:=xS.o.below kV.o.b rB.o;have q0:=(qc hres 0 rfl);have q1:=(qc hres 1 rfl);have q2:=(qc hres 2 rfl);have q3:=(qc hres 3 rfl);have q4:=(qc hres 4 rfl);have q5:=(qc hres 5 rfl);have q6:=(qc hres 6 rfl);have f0:=fun o=>hres.frozen o;have dU:=qh (HB0.o.trans (kV.o.b.mono HB0.o.size));clear qB hc0 hres
     go_wp2_with fail
     refine bodyPost_ret (v:=.tuple #[.agg #[.int .i64 s.W,.int .i64 s.rk,.slice (some ⟨a.gf,0,none⟩) s.W a.cf,.slice (some ⟨a.gk,0,none⟩) s.W a.ck,.slice (some ⟨a.gc,0,none⟩) 4 a.cc,.slice mL s.n SH,.slice mD SC SI],.int .i64 i,.int .i64 code]) (by simp[results,Tryz.results30,go_sem,q0,q1,q2,q3,q4,q5,q6]) rfl ?_;exact TL.of TV.o _ _ ⟨_,_,_,_,_,_,_,_,_,_,_,_,_,_,_,_,_,rfl⟩ rfl (vM dU.o ql _ _ _ _ _ _ _)
   ·obtain rfl:n=i:=qo
    have TV:Hq (codeOf W z n=0):=qh (by
     unfold codeOf;rw[if_pos HPB.o,Int.toNat_natCast,QE iV.o])
    have hbk:=HR.o.m.m;rw[sE.o,HG.o]at hbk;have m0:=(qc hbk 0 rfl);have m1:=(qc hbk 1 rfl);have m2:=(qc hbk 2 rfl);have m3:=(qc hbk 3 rfl);have m4:=(qc hbk 4 rfl);have m5:=(qc hbk 5 rfl);have m6:=(qc hbk 6 rfl);have hres:=xS.o.below HR.o.b rB.o;have q0:=(qc hres 0 rfl);have q1:=(qc hres 1 rfl);have q2:=(qc hres 2 rfl);have q3:=(qc hres 3 rfl);have q4:=(qc hres 4 rfl);have q5:=(qc hres 5 rfl);have q6:=(qc hres 6 rfl);have f0:=fun o=>hres.frozen o;have dU:=qh (HB0.o.trans (HR.o.b.mono HB0.o.size));clear hbk hres
    go_wp2_with fail
    refine bodyPost_ret (v:=.tuple #[.agg #[.int .i64 s.W,.int .i64 s.rk,.slice (some ⟨a.gf,0,none⟩) s.W a.cf,.slice (some ⟨a.gk,0,none⟩) s.W a.ck,.slice (some ⟨a.gc,0,none⟩) 4 a.cc,.slice mL s.n SH,.slice mD SC SI],.int .i64 n,.int .i64 0]) (by simp[results,Tryz.results30,go_sem,q0,q1,q2,q3,q4,q5,q6]) rfl ?_;exact TL.of TV.o _ _ ⟨_,_,_,_,_,_,_,_,_,_,_,_,_,_,_,_,_,rfl⟩ rfl (vM dU.o ql _ _ _ _ _ _ _)
theorem NF {P:Program}{o:Oper}{cond:Bool}{a:Act}{K:Act→World→Prop}{Q:Exit→Act→World→Prop}{E:Prop}(W:World)(hcond:cond=true)(s x:Operand)(t:TypeId)
 (ho:o.op=.call {callee:=.builtin .append,args:=#[s,x],argTypes:=#[t,t]})
 (base:Nat) (e:TypeId) (i:TypeInfo) (z:Value) (size bytes:Nat) (ht:P.underlying t=some (.slice e)) (hi:P.info? e=some i) (hz:i.zero=some z)
 (hsize:i.size=size) (hby:i.bytes=bytes) (hzs:z.cells.size=size) (hsz:0<size)
 (v:Value) (n:Nat) (xs:List Value) (hs:a.eval s=v) (hown:W.ownsRow base e size v n xs)
 (g2 o2 m c:Nat) (f:Nat→Value) (hx:a.eval x=.slice (some ⟨g2,o2,none⟩) m c) (hrd:bI W g2 o2 (m*size) f) (h1:∀j,(f j).oneCell'=true)
 (h63:n+m≤maxLen) (hbytes:(n+m)*bytes≤140737488355328) (hbase:base≤W.heap.size)
 (h:∀v' w',w'.ownsRow base e size v' (n+m) (xs++(List.range (m*size)).map f)→Fr W w' (fun b=>v.ownBlock=some b)→(v'.ownBlock=v.ownBlock∨v'.ownBlock=some W.heap.size)→K (a.put o.dst v') w'):
 if cond=true then Oper.wp P o a W K Q else E:=by
 rw[if_pos hcond];obtain⟨v',w',hr,h2,h3,_,h5⟩:=run_append_own_at (P:=P) W base t o.type e i z size bytes ht hi hz hsize hby hzs hsz v n xs hown ⟨g2,o2,none⟩ m c ((List.range (m*size)).map f) qj (by
  intro j u hu;obtain⟨hj,rfl⟩:j<m*size∧f j=u:=by
   by_cases hj:j<m*size
   ·simp[hj]at hu;exact⟨hj,hu⟩
   ·rw[List.getElem?_eq_none (by simpa using hj)]at hu;cases hu
  rw[Addr.add_lit];exact hrd j hj) (fun u hu=>by obtain⟨j,_,rfl⟩:=List.mem_map.1 hu;exact h1 j) h63 hbytes hbase
 unfold Oper.wp execOp
 simp only[ho,resolve,invoke,builtin,Sem.run_bind,Sem.run_pure,Result.andThen_ok,List.map_toArray,List.map_cons,List.map_nil,hs,hx,hr]
 exact h v' w' h2 ⟨h3.os,h3.tape,h3.output,h3.size,fun b hb hne=>h3.block b hb (fun e=>hne e.symm)⟩ h5
theorem At.afh {tg:Nat→Nat}{a:bC}{s:aI}{w w0 wb:World}{dY:Nat→Nat}{g:Nat}(h:At wb dY g s w0 tg a)(r0:yQ tg a s 6 w)(hfr:Fr w0 w (eZ tg)){v:Value}{m:Nat}(hv:xX w v m)(hf:Free tg v 6)(hnew:∀q,v.ownBlock=some q→dY q≠0∨wb.heap.size≤q):
 At wb dY g {s with d:=m} (w.setCell ⟨a.g,6,none⟩ v) (retag tg v 6) {a with D:=v}:=
 ⟨h.g,h.m.Bw r0 hfr.size hv hf,h.fr (hfr.set (p:=⟨a.g,6,none⟩) (by unfold eZ;rw[h.m.tm];omega) v),fun q hq=>by
  unfold retag at hq
  split at hq
  ·exact hnew q ‹_›
  ·exact h.t q hq⟩
theorem At.reD {tg:Nat→Nat}{a:bC}{s:aI}{w w0 wb:World}{dY:Nat→Nat}{g:Nat}(h:At wb dY g s w0 tg a)(hf:Fr w0 w (fun b=>a.D.ownBlock=some b))(hd:xX w a.D s.d):At wb dY g s w tg a:=by
 have r:=h.m.rest (w':=w) 6 fun b hb h6=>hf.block b (h.m.lt b hb) fun e=>h6 (h.m.tD b e);exact⟨h.g,⟨r.m qo,(r.f qo).1,(r.f qo).2,(r.k qo).1,(r.k qo).2,(r.cr qo).1,(r.cr qo).2,fun i hi=>r.lf i hi qo,fun i hi=>r.lk i hi qo,r.l qo qo,hd,h.m.tm,h.m.tf,h.m.tk,h.m.tc,h.m.tL,h.m.tD,h.m.tF,h.m.tK,fun b hb=>Nat.lt_of_lt_of_le (h.m.lt b hb) hf.size⟩,
  h.fr (hf.mono fun b hb=>by unfold eZ;rw[h.m.tD b hb];omega),h.t⟩
section
variable {tg:Nat→Nat}{a:bC}{s:aI}{D:Nat}{w:World}
theorem Na {d fb fa tb ta c r:Int}{j:Nat}(H:Mem tg a s w)(hs:bW s D)(hD:D≤1000000)(hp:fP s.W 6 d fb fa tb ta c r j)(hb:nA 6 fb tb)(hf:rI 6 fb):Calls Tryz.prog 100 #[.pointer (some ⟨a.g,0,none⟩),.agg #[.int .i64 6,.int .i64 d,.int .i64 fb,.int .i64 fa,.int .i64 tb,.int .i64 ta,.int .i64 c,.int .i64 r]] w (LC w tg a.g (aX s 6 d fb fa tb ta j) (cV s 6 d fb fa tb ta r j)):=by
 have hg:Below w.heap.size w (w.alloc (.cells #[.int .i64 6,.int .i64 d,.int .i64 fb,.int .i64 fa,.int .i64 tb,.int .i64 ta,.int .i64 c,.int .i64 r] 67)):=qb;have HG:=qh hg;have gB:=qh (At.start (H.below hg));have cM:=kT w 6 d fb fa tb ta c r;have bA:=qh cM;have gT:Hq (tg w.heap.size=0):=qh (Decidable.byContradiction fun hn=>Nat.lt_irrefl _ (H.lt _ hn));have hoc:=jI (H.below hg) hs hp hb hf;obtain⟨code,hcode⟩:=qx (aX s 6 d fb fa tb ta j);rw[←hcode]at hoc ⊢;obtain⟨s9,gP⟩:=qx (cV s 6 d fb fa tb ta r j);rw[←gP];have HC:=qh hcode;have tM:=qh gP;have l9:=qh hoc;have HS:=qh hs;have HP:=qh hp;have HB:=qh hb;have HF:=qh hf;have hlA:∃AL cL,a.L=.slice AL s.n cL:=gB.o.L;have yG:=qh hlA;clear H hs hp hb hf hg hoc hcode gP cM hlA
 go_enter Tryz.func100,Tryz.ntmps100
 go_wp2_with fail
 refine l9.o.mono ?_;rintro e w1 ⟨rfl,hb1⟩
 by_cases hc0:code=0
 ·subst hc0
  have HA1:=qh (gB.o.below hb1);have aO:=qh (HA1.o.op bA.o gT.o).1;clear hb1 l9;obtain⟨i0,hi,iz,is,ib⟩:=info_parts yL;have fB:=HF.o qo;have ha0:=HP.o.f0;have ha1:=HP.o.f1;have hdb:=HS.o.db;have o0:=aO.o.c0;have o2:=aO.o.c2;have o3:=aO.o.c3;have HST:Hq (s9=gA {s with d:=s.d+aM s fb fa} fb fa 0):=qh (by rw[tM.o];rfl);obtain⟨nf,hnf⟩:=qx (aM s fb fa);have fW:nf≤4:=by rw[hnf];exact bT HS.o ha0 ha1
  have hnz:nf≠0:=by
   have h:=HC.o;unfold aX at h;rw[if_neg qo,if_neg qo,if_neg qo,if_pos rfl,←hnf]at h;intro h0;rw[if_pos h0]at h;omega
  have hlf:=HA1.o.m.lU (b:=fb) ha0 ha1;rw[←hnf]at hlf;obtain⟨Af,cf,hvf⟩:=hlf.form;have jV:=qh hvf;have iQ:=qh hnf;rw[hvf]at hlf;obtain⟨FF,hrf⟩:=hlf.rdf;obtain⟨gl,ol,rfl,hgl,hrr⟩:=hrf qo;have HRR:=qh hrr;have oS:=qh hgl;obtain⟨qd,SR,Ym⟩:=HA1.o.m.d;obtain⟨AD,cD,DR⟩:=Ym.form;rw[DR]at Ym;have HAD:=qh DR;have aeD:=qh Ym;have Zm:Hq (∀q,(Value.slice AD qd cD).ownBlock=some q→tg q=6):=qh (by rw[←DR];exact HA1.o.m.tD);have m6:w1.cell? ⟨a.g,6,none⟩=some (.slice AD qd cD):=(HA1.o.m.m.cell 6).trans (by rw[←DR];rfl);have LG:=qh (World.block_lt_of_cell? w1 _ m6);have M6:=qh m6;have sX:=qh HA1.o.m.tm;clear hlf hvf hnf hrf hrr hgl Ym DR
  go_wp2_with fail
  go_region_law (first
   |(go_simp;go_at_call 124;(with_reducible refine(cG fb fa (HA1.o.below ((Below.refl w1.heap.size w1).drew)).m fB ha0 ha1).mono ?_);rintro e w2 ⟨rfl,hb2⟩;have HB2:Hq (Below w1.heap.size w1 w2):=qh (((Below.refl w1.heap.size w1).drew).trans hb2);have kc:=(HA1.o.below HB2.o).m.dE (b:=fb) ha0 ha1;rw[jV.o]at kc;have kd:=((aA HB2.o).1 a.g 6 LG.out).trans M6.out;have aix:=qh (aeD.o.blk fun q hq=>HB2.o.block q (aeD.o.lt q hq));obtain⟨xs,hxs⟩:=aix.o;have G9:=qh hxs;clear hb2 hxs)
   |(refine NF w2 (by rfl) (.tmp 62) (.tmp 68) _ (by rfl) 0 2 i0 _ 1 8 Tryz.underlying34 hi iz is ib rfl qo (.slice AD qd cD) qd (ints xs) (by rfl) G9.o gl ol nf cf (fun j=>.int .i64 (FF j)) (by rfl) (by rw[Nat.mul_one];exact HRR.o.below oS.o HB2.o) (fun j=>rfl) qm qo (Nat.zero_le _) ?_;intro v5 w5 hown5 qL mY;obtain⟨A5,c5,rfl⟩:=aF hown5;have y8:¬(Value.slice AD qd cD).ownBlock=some a.g:=(fun e=>by have h1:=Zm.o _ e;have h2:=sX.o;omega);have kP:a.g<w2.heap.size:=Nat.lt_of_lt_of_le LG.out HB2.o.size;have k6:=(qL.cells kP y8 6).trans kd;have f6:w5.frozen? ⟨a.g,6,none⟩=false:=(World.frozen?_of_block (w:=w2) (a:=⟨a.g,6,none⟩) (qL.block a.g kP y8)).trans ((HA1.o.below HB2.o).m.m.frozen 6);have FJ:=qh hown5;have ZU:=qh qL;have aiQ:=qh mY;clear hown5 qL mY y8 kP))
  all_goals
   have HA2:=qh (HA1.o.below HB2.o);have mK:Hq (∀q,(Value.slice A5 (qd+nf) c5).ownBlock=some q→tg q=6∨(tg q=0∧w2.heap.size≤q)):=qh fun q hq=>by
    rcases aiQ.o with h|h
    ·exact .inl (Zm.o q (h.symm.trans hq))
    ·rw[hq]at h
     have h':q=w2.heap.size:=Option.some.inj h;exact .inr ⟨Decidable.byContradiction fun hn=>by have:=HA2.o.m.lt q hn;omega,by omega⟩
   have GG:Hq (bE w5 (.slice A5 (qd+nf) c5) (qd+nf)):=qh ⟨xs++(List.range nf).map FF,by have h:=FJ.o;rw[Nat.mul_one]at h;rw[aT];simpa [ints,Function.comp_def]using h⟩;have GK:=qh (HA2.o.afh (w:=w5) (v:=.slice A5 (qd+nf) c5) (m:=s.d+nf) (HA2.o.m.rest 6 fun b hb h6=>ZU.o.block b (HA2.o.m.lt b hb) fun e=>h6 (Zm.o b e)) (ZU.o.mono fun b hb=>by unfold eZ;rw[Zm.o b hb];omega) ⟨qd+nf,by omega,GG.o⟩ (fun q hq=>by rcases mK.o q hq with h|h;exact .inr h;exact .inl h.1) (fun q hq=>by rcases mK.o q hq with h|h;exact .inl qo;exact .inr (Nat.le_trans HA2.o.f.size h.2)));have E5:Hq (bE (w5.setCell ⟨a.g,6,none⟩ (.slice A5 (qd+nf) c5)) (.slice A5 (qd+nf) c5) (qd+nf)):=qh (GG.o.blk fun q hq=>aE _ _ _ _ (by
    intro e;have h2:=sX.o;have h3:=HA2.o.m.lt a.g qo;rw[←show q=a.g from e]at h2 h3
    rcases mK.o q hq with h|h<;>omega))
   clear kc kd m6 o0 o2 o3
   go_wp2_with fail
   refine(Qu _ (qd+nf) E5.o qo).mono ?_;rintro e w7 ⟨rfl,hl7,wN⟩;have BK:=qh (GK.o.reD wN ⟨qd+nf,by show qd+nf≤s.d+nf;omega,hl7⟩);have TP:=qh (BK.o.op bA.o gT.o).1;have z0:=TP.o.c0;have z2:=TP.o.c2;have z3:=TP.o.c3;clear hl7 wN k6 f6
   go_wp2_with fail
   have hon:=cG fb fa BK.o.m fB ha0 ha1;rw[show bO ({a with D:=.slice A5 (qd+nf) c5}:bC) fb=bO a fb from rfl]at hon;refine hon.mono ?_;rintro e w8 ⟨rfl,qC⟩;clear hon;have iY:=qh (BK.o.below qC);have k8:=iY.o.m.dE (b:=fb) ha0 ha1;replace k8:w8.cell? ⟨bO a fb,fa.toNat,none⟩=some (kO a fb fa):=k8;rw[jV.o]at k8;have f8:w8.frozen? ⟨bO a fb,fa.toNat,none⟩=false:=iY.o.m.MN (b:=fb) ha0 ha1;have Aj:=qh (iY.o.LR (b:=fb) ha0 ha1 (bE.nil w8) (fun q hq=>by cases hq) (fun q hq=>by cases hq));have Z7:=qh (Aj.o.op bA.o gT.o).1;have x0:(w8.setCell ⟨bO a fb,fa.toNat,none⟩ (.slice none 0 0)).cell? ⟨w.heap.size,0,none⟩=some (.int .i64 6):=Z7.o.c0;clear qC z0 z2 z3
   go_wp2_with (go_at_call 67;refine(aU _ _ qo qo).mono ?_;rintro e w' ⟨rfl,rfl⟩)
   go_ret
   exact⟨rfl,fun h=>absurd rfl h,fun _=>Moved.of_below HG.o (by rw[HST.o,←iQ.o];exact Aj.o.moved)⟩
 ·have hc1:(code==0)=false:=by simpa using hc0
  have jH:=qh hc0;have HB1:=HG.st hb1;clear hb1 hc0
  go_wp2_with fail
  go_ret
  exact⟨rfl,fun _=>HB1.o,fun h=>absurd h jH.o⟩
end
theorem sG {P:Program}(W:World){ops:Array Oper}{rest:List Oper}{o:Oper}{a:Act}{Q:Exit→Act→World→Prop}(hgd:o.guard=none)(s x:Operand)(t:TypeId)
 (ho:o.op=.call {callee:=.builtin .append,args:=#[s,x],argTypes:=#[t,t]})
 (base:Nat) (e:TypeId) (i:TypeInfo) (z:Value) (size bytes:Nat) (ht:P.underlying t=some (.slice e)) (hi:P.info? e=some i) (hz:i.zero=some z)
 (hsize:i.size=size) (hby:i.bytes=bytes) (hzs:z.cells.size=size) (hsz:0<size)
 (v:Value) (n:Nat) (xs:List Value) (hs:a.eval s=v) (hown:W.ownsRow base e size v n xs)
 (A2:OA) (m c:Nat) (f:Nat→Value) (hx:a.eval x=.slice A2 m c) (hrd:Rd W A2 (m*size) f) (h1:∀j,(f j).oneCell'=true)
 (h63:n+m≤maxLen) (hbytes:(n+m)*bytes≤140737488355328) (hbase:base≤W.heap.size)
 (h:∀v' w',w'.ownsRow base e size v' (n+m) (xs++(List.range (m*size)).map f)→Fr W w' (fun b=>v.ownBlock=some b)→(v'.ownBlock=v.ownBlock∨v'.ownBlock=some W.heap.size)→wpList P ops Q rest (a.put o.dst v') w'):
 wpList P ops Q (o::rest) a W:=by
 rcases A2 with _|ad
 ·have hm:m=0:=by
   rcases Nat.eq_zero_or_pos m with h0|h0
   ·exact h0
   ·obtain⟨g,o',e,_⟩:=hrd (Nat.mul_pos h0 hsz)
    cases e
  subst hm;refine wpList_plain hgd fun K hK=>?_;have hr:=pZ (P:=P) W base t o.type e i size ht hi v n xs hown c;unfold Oper.wp execOp
  simp only[ho,resolve,invoke,builtin,Sem.run_bind,Sem.run_pure,Result.andThen_ok,List.map_toArray,List.map_cons,List.map_nil,hs,hx,hr]
  exact hK _ _ (h _ _ (by simpa using hown) (Fr.refl _ _) (.inl rfl))
 ·refine wpList_append_own_at W hgd s x t ho base e i z size bytes ht hi hz hsize hby hzs hsz v n xs hs hown ad m c ((List.range (m*size)).map f) hx qj (fun j u hu=>?_) (fun u hu=>?_) h63 hbytes hbase ?_
  ·obtain⟨hj,rfl⟩:j<m*size∧f j=u:=by
    by_cases hj:j<m*size
    ·simp[hj]at hu;exact⟨hj,hu⟩
    ·rw[List.getElem?_eq_none (by simpa using hj)]at hu;cases hu
   obtain⟨g,o',e,_,hr⟩:=hrd qo;injection e with e;subst e;rw[Addr.add_lit];exact hr j hj
  ·obtain⟨j,_,rfl⟩:=List.mem_map.1 hu
   exact h1 j
  ·intro v' w' h2 h3 _ h5
   exact h v' w' h2 ⟨h3.os,h3.tape,h3.output,h3.size,fun b hb hne=>h3.block b hb (fun e=>hne e.symm)⟩ h5
section
variable {tg:Nat→Nat}{a:bC}{s:aI}{D:Nat}{w:World}
def sN (s:aI)(j:Nat):Nat:=T.sF s.f ((j:Int)-3) s.W+T.sK s.k s.rk ((j:Int)-3) s.W
theorem Kk (s:aI)(hr: -3≤s.rk):sN s 0=0:=by
 unfold sN;rw[T.yV _ qo,T.lS,T.yV _ qo]
theorem Kl (s:aI)(j:Nat):sN s (j+1)=sN s j+(if 0≤(j:Int)-3∧(j:Int)-3<s.W then s.f ((j:Int)-3).toNat else 0)+(if 0≤(j:Int)-3-s.rk∧(j:Int)-3-s.rk<s.W then s.k ((j:Int)-3-s.rk).toNat else 0):=by
 unfold sN;rw[T.lS,T.lS,show((j+1:Nat):Int)-3=(j:Int)-3+1 from by omega,T.kL,show(j:Int)-3+1-s.rk=(j:Int)-3-s.rk+1 from by omega,T.kL];omega
theorem Rm (s:aI)(hr:s.rk≤3):sN s (s.W+6)=live s:=by
 unfold sN live;rw[T.Ih _ qo,T.lS,T.Ih _ qo]
theorem aaT (s:aI)(j:Nat):sN s j≤live s:=Nat.add_le_add (T.BP _ _ _) (T.Wi _ _ _ _)
theorem Mem.xk (H:Mem tg a s w){i:Nat}(hi:i<s.W):∃A c,∃z:Nat→Int,w.cell? ⟨a.gf,i,none⟩=some (.slice A (s.f i) c)∧Rd w A (s.f i) (fun j=>.int .i64 (z j)):=by
 obtain⟨A,c,xs,e,hr⟩:=(H.lf i hi).rd;have h:=H.f i hi;rw[Nat.zero_add,e]at h;exact⟨A,c,_,h,hr⟩
theorem Mem.Oa (H:Mem tg a s w){i:Nat}(hi:i<s.W):∃A c,∃z:Nat→Int,w.cell? ⟨a.gk,i,none⟩=some (.slice A (s.k i) c)∧Rd w A (s.k i) (fun j=>.int .i64 (z j)):=by
 obtain⟨A,c,xs,e,hr⟩:=(H.lk i hi).rd;have h:=H.k i hi;rw[Nat.zero_add,e]at h;exact⟨A,c,_,h,hr⟩
theorem zQ29x0 {p:Prop}(h:p:=by
 show s.W+6-(x+1+3).toNat<s.W+6-(x+3).toNat;have h:=HX.o;omega):p:=h
theorem jo (H:Mem tg a s w)(hs:bW s D):
 Calls Tryz.prog 118 #[.pointer (some ⟨a.g,0,none⟩)] w fun e w'=>(∃A c,e=.returned (.slice A (live s) c))∧Below w.heap.size w w':=by
 obtain⟨i0,hi,iz,is,ib⟩:=info_parts info64;have HM:=qh H;have HS:=qh hs;have hw2:=hs.w2;have hr1:=hs.r1;have hr2:=hs.r2;have ZE:=qh (JU hs);have HO:=qh (World.ownsRow_made (e:=2) (size:=1) w #[] 0 ql qm rfl);have HB:=qh ((Below.refl w.heap.size w).alloc ql (.cells #[] 2));have HZ:=qh (Kk s hr1);have HN:=qh (Kl s);have iX:=qh (Rm s hr2);have J8:=qh (aaT s);clear H hs
 go_enter Tryz.func118,Tryz.ntmps118
 go_wp2_with fail
 go_loopw [3,4] (fun v y wr=>∃(j:Nat) (xs:List Value),j≤s.W+6∧y=.int .i64 ((j:Int)-3)∧Hq (wr.ownsRow w.heap.size 2 1 v (sN s j) xs)∧Hq (Below w.heap.size w wr)) (fun _ y _=>s.W+6-(intOf y+3).toNat)
 case atStart=>exact⟨0,[],Nat.zero_le _,qg,qh (by rw[HZ.o];exact HO.o),HB⟩
 case round=>
  clear HO HB;obtain⟨j,xs,hj,rfl,iU,g7⟩:=hrel;have iR:=qh (HM.o.below g7.o);have m0:wr.cell? ⟨a.g,0,none⟩=some (.int .i64 s.W):=iR.o.m.cell 0;obtain⟨x,hx⟩:∃x:Int,x=(j:Int)-3:=⟨_,rfl⟩;have hN:=HN.o j;have hM:=J8.o j;have hM2:=ZE.o;rw[←hx]at hN ⊢;obtain⟨M,hMe⟩:=qx (sN s j);rw[←hMe]at hN hM iU;have Po:=qh hMe;clear hMe
  by_cases hlt:j<s.W+6
  ·have b1:x<(s.W:Int)+3:=qo
   have m1:wr.cell? ⟨a.g,1,none⟩=some (.int .i64 s.rk):=iR.o.m.cell 1;have m2:wr.cell? ⟨a.g,2,none⟩=some (.slice (some ⟨a.gf,0,none⟩) s.W a.cf):=iR.o.m.cell 2;have m3:wr.cell? ⟨a.g,3,none⟩=some (.slice (some ⟨a.gk,0,none⟩) s.W a.ck):=iR.o.m.cell 3;have s1:IntKind.i64.wrap (x-s.rk)=x-s.rk:=IntWalk.i64_in _ qo;have s3:IntKind.i64.wrap (x+1)=x+1:=IntWalk.i64_in _ qo;have s2:IntKind.i64.wrap ((s.W:Int)-1)=(s.W:Int)-1:=IntWalk.i64_in _ qo;have pQ:=qh (fun W:World=>dK x 0 ((s.W:Int)-1) W);have pP:=qh (fun W:World=>dK (x-s.rk) 0 ((s.W:Int)-1) W);have HX:=qh hx
   by_cases hf:0≤x∧x<(s.W:Int)
   ·by_cases hb:0≤x-s.rk∧x-s.rk<(s.W:Int)
    ·rw[if_pos hf,if_pos hb]at hN
     have c1:(0:Int)≤x:=hf.1;have c2:x<(s.W:Int):=hf.2;have hxn:x.toNat<s.W:=qo;obtain⟨Af,cf,zf,kf,hrf⟩:=iR.o.xk hxn;have CH:=qh hrf;have hF:=HS.o.fb x.toNat hxn;obtain⟨F,zW⟩:=qx (s.f x.toNat);rw[←zW]at CH hF kf hN;have fV:aK x 0 ((s.W:Int)-1)=true:=by unfold aK;simp;omega
     clear hrf zW;rw[fV]at pQ;have d1:(0:Int)≤x-s.rk:=hb.1;have d2:x-s.rk<(s.W:Int):=hb.2;have hyn:(x-s.rk).toNat<s.W:=qo;have hK:=HS.o.kb (x-s.rk).toNat hyn;obtain⟨K,y9⟩:=qx (s.k (x-s.rk).toNat);rw[←y9]at hK hN;have HKE:=qh y9;have hinc:aK (x-s.rk) 0 ((s.W:Int)-1)=true:=by unfold aK;simp;omega
     have HYN:=qh hyn;clear y9 hyn;rw[hinc]at pP;have xA:=qh hN;clear fV hinc hf hb hN hx
     go_wp2_with fail
     refine(pQ.o _).mono ?_;rintro e w2 ⟨rfl,rfl⟩
     go_wp2_with (at_builtin;go_must (refine cW _ rfl (.tmp 23) (.tmp 30) _ rfl w.heap.size 2 i0 _ 1 8 Tryz.underlying34 hi iz is ib rfl qo _ M _ rfl iU.o Af F cf _ rfl (by rw[Nat.mul_one];exact CH.o) (fun j=>rfl) qm qo g7.o.size ?_);intro v' w' hown' hfr;have aH:=qh hown';have HB2:=qh (g7.o.trans (hfr.own iU.o g7.o.size));have vR:=qh (HM.o.below HB2.o);have n0:w'.cell? ⟨a.g,0,none⟩=some (.int .i64 s.W):=vR.o.m.cell 0;have n1:w'.cell? ⟨a.g,1,none⟩=some (.int .i64 s.rk):=vR.o.m.cell 1;have n3:w'.cell? ⟨a.g,3,none⟩=some (.slice (some ⟨a.gk,0,none⟩) s.W a.ck):=vR.o.m.cell 3;obtain⟨Ak,ck,zk,kk,rV⟩:=vR.o.Oa HYN.o;rw[←HKE.o]at kk rV;have yC:=qh rV;clear rV;clear hown' hfr)
     go_wp2_with fail
     refine(pP.o _).mono ?_;rintro e w3 ⟨rfl,rfl⟩
     go_wp2_with (at_builtin;go_must (refine cW _ rfl (.tmp 45) (.tmp 52) _ rfl w.heap.size 2 i0 _ 1 8 Tryz.underlying34 hi iz is ib rfl qo _ (M+F) _ rfl aH.o Ak K ck _ rfl (by rw[Nat.mul_one];exact yC.o) (fun j=>rfl) qm qo HB2.o.size ?_);intro v' w' hown' hfr;have bS:=qh hown';have HB3:=qh (HB2.o.trans (hfr.own aH.o HB2.o.size));clear hown' hfr)
     go_roundw
     case rel=>exact⟨j+1,_,by omega,congrArg (Value.int .i64) (by have h:=HX.o;omega),qh (by rw[show sN s (j+1)=M+F+K from by rw[xA.o]];exact bS.o),HB3⟩
     case measure=>
      exact zQ29x0
    ·rw[if_pos hf,if_neg hb]at hN
     have c1:(0:Int)≤x:=hf.1;have c2:x<(s.W:Int):=hf.2;have hxn:x.toNat<s.W:=qo;obtain⟨Af,cf,zf,kf,hrf⟩:=iR.o.xk hxn;have CH:=qh hrf;have hF:=HS.o.fb x.toNat hxn;obtain⟨F,zW⟩:=qx (s.f x.toNat);rw[←zW]at CH hF kf hN;have fV:aK x 0 ((s.W:Int)-1)=true:=by unfold aK;simp;omega
     clear hrf zW;rw[fV]at pQ;have hinc:aK (x-s.rk) 0 ((s.W:Int)-1)=false:=by unfold aK;rw[Bool.and_eq_false_iff,decide_eq_false_iff_not,decide_eq_false_iff_not];omega
     rw[hinc]at pP;have xA:=qh hN;clear fV hinc hf hb hN hx
     go_wp2_with fail
     refine(pQ.o _).mono ?_;rintro e w2 ⟨rfl,rfl⟩
     go_wp2_with (at_builtin;go_must (refine cW _ rfl (.tmp 23) (.tmp 30) _ rfl w.heap.size 2 i0 _ 1 8 Tryz.underlying34 hi iz is ib rfl qo _ M _ rfl iU.o Af F cf _ rfl (by rw[Nat.mul_one];exact CH.o) (fun j=>rfl) qm qo g7.o.size ?_);intro v' w' hown' hfr;have aH:=qh hown';have HB2:=qh (g7.o.trans (hfr.own iU.o g7.o.size));have vR:=qh (HM.o.below HB2.o);have n0:w'.cell? ⟨a.g,0,none⟩=some (.int .i64 s.W):=vR.o.m.cell 0;have n1:w'.cell? ⟨a.g,1,none⟩=some (.int .i64 s.rk):=vR.o.m.cell 1;clear hown' hfr)
     go_wp2_with fail
     refine(pP.o _).mono ?_;rintro e w3 ⟨rfl,rfl⟩
     go_wp2_with fail
     go_roundw
     case rel=>exact⟨j+1,_,by omega,congrArg (Value.int .i64) (by have h:=HX.o;omega),qh (by rw[show sN s (j+1)=M+F from by rw[xA.o];omega];exact aH.o),HB2⟩
     case measure=>
      exact zQ29x0
   ·by_cases hb:0≤x-s.rk∧x-s.rk<(s.W:Int)
    ·rw[if_neg hf,if_pos hb]at hN
     have fV:aK x 0 ((s.W:Int)-1)=false:=by unfold aK;rw[Bool.and_eq_false_iff,decide_eq_false_iff_not,decide_eq_false_iff_not];omega
     rw[fV]at pQ;have d1:(0:Int)≤x-s.rk:=hb.1;have d2:x-s.rk<(s.W:Int):=hb.2;have hyn:(x-s.rk).toNat<s.W:=qo;obtain⟨Ak,ck,zk,kk,rV⟩:=iR.o.Oa hyn;have yC:=qh rV;have hK:=HS.o.kb (x-s.rk).toNat hyn;obtain⟨K,y9⟩:=qx (s.k (x-s.rk).toNat);rw[←y9]at yC hK kk hN;have hinc:aK (x-s.rk) 0 ((s.W:Int)-1)=true:=by unfold aK;simp;omega
     clear rV y9;rw[hinc]at pP;have xA:=qh hN;clear fV hinc hf hb hN hx
     go_wp2_with fail
     refine(pQ.o _).mono ?_;rintro e w2 ⟨rfl,rfl⟩
     go_wp2_with fail
     refine(pP.o _).mono ?_;rintro e w3 ⟨rfl,rfl⟩
     go_wp2_with (at_builtin;go_must (refine cW _ rfl (.tmp 45) (.tmp 52) _ rfl w.heap.size 2 i0 _ 1 8 Tryz.underlying34 hi iz is ib rfl qo _ M _ rfl iU.o Ak K ck _ rfl (by rw[Nat.mul_one];exact yC.o) (fun j=>rfl) qm qo g7.o.size ?_);intro v' w' hown' hfr;have bS:=qh hown';have HB3:=qh (g7.o.trans (hfr.own iU.o g7.o.size));clear hown' hfr)
     go_roundw
     case rel=>exact⟨j+1,_,by omega,congrArg (Value.int .i64) (by have h:=HX.o;omega),qh (by rw[show sN s (j+1)=M+K from by rw[xA.o];omega];exact bS.o),HB3⟩
     case measure=>
      exact zQ29x0
    ·rw[if_neg hf,if_neg hb]at hN
     have fV:aK x 0 ((s.W:Int)-1)=false:=by unfold aK;rw[Bool.and_eq_false_iff,decide_eq_false_iff_not,decide_eq_false_iff_not];omega
     rw[fV]at pQ;have hinc:aK (x-s.rk) 0 ((s.W:Int)-1)=false:=by unfold aK;rw[Bool.and_eq_false_iff,decide_eq_false_iff_not,decide_eq_false_iff_not];omega
     rw[hinc]at pP;have xA:=qh hN;clear fV hinc hf hb hN hx
     go_wp2_with fail
     refine(pQ.o _).mono ?_;rintro e w2 ⟨rfl,rfl⟩
     go_wp2_with fail
     refine(pP.o _).mono ?_;rintro e w3 ⟨rfl,rfl⟩
     go_wp2_with fail
     go_roundw
     case rel=>exact⟨j+1,_,by omega,congrArg (Value.int .i64) (by have h:=HX.o;omega),qh (by rw[show sN s (j+1)=M from by rw[xA.o];omega];exact iU.o),g7⟩
     case measure=>
      exact zQ29x0
  ·obtain rfl:j=s.W+6:=qo
   have b1:¬x<(s.W:Int)+3:=qo;obtain⟨A,c,hv⟩:=aF iU.o;have HV:=qh hv;clear hv
   go_wp2_with fail
   go_ret
   exact⟨⟨A,c,by rw[HV.o,Po.o,iX.o];rfl⟩,g7.o⟩
theorem Kn (bo o:Nat){k d fb fa tb ta c r:Int}{j:Nat}(H:Mem tg a s w)(hs:bW s D)(hD:D≤1000000)(ho:gI bo o k d fb fa tb ta c r w)(bK:tg bo=0)(hp:fP s.W k d fb fa tb ta c r j):
 Calls Tryz.prog 117 #[.pointer (some ⟨a.g,0,none⟩),.pointer (some ⟨bo,o,none⟩)] w (Ar w tg a.g (aX s k d fb fa tb ta j) (cV s k d fb fa tb ta r j) (hZ s k d fb fa c r)):=by
 by_cases h7:k=7
 ·subst h7
  by_cases hr:s.rk≤r
  ·exact jl bo o H hs ho bK hp hr
  ·exact jm bo o H hs ho bK hp qo
 ·exact Da bo o H hs hD ho bK hp h7
end
def EvC (w:World)(c:Int)(L:List Int)(e:Ending)(w':World):Prop:=∃v N,e=.returned (.tuple #[v,.int .i64 c])∧N≤2000∧w'.ownsRow w.heap.size 91 6 v N (ints L)∧Below w.heap.size w w'
def nF (W:Nat)(z:Nat→Int)(n:Nat):List Int:=if mT W z 0 n=0 then wA W z n else []
theorem EvC.bad {w w':World}{c d:Int}{L:List Int}{e:Ending}(hc:c=d)(hL:L=[])(he:e=.returned (.tuple #[.slice none 0 0,.int .i64 d]))(hb:Below w.heap.size w w'):EvC w c L e w':=⟨_,0,by rw[hc];exact he,by omega,by rw[hL];exact⟨rfl,.inl ⟨rfl,rfl⟩⟩,hb⟩
def zl (W0:World)(G W:Nat)(z:Nat→Int)(i:Nat)(v:Value)(wr:World):Prop:=∃(N:Nat) (tg:Nat→Nat) (a:bC),a.g=G∧Runs W0 tg a (bB W z i) wr∧tT W z i∧N≤2000∧wr.ownsRow W0.heap.size 91 6 v N (ints (wA W z i))∧∀q,v.ownBlock=some q→tg q=0
theorem zQ29x1 {p:Prop}(h:p:=by
 go_wp2_with fail
 go_ret2
 exact EvC.bad j9.o (by unfold nF;rw[if_neg (by rw[j9.o];omega)]) rfl dU.o):p:=h
theorem WI (W:Nat)(A:OA)(n q:Nat)(z:Nat→Int)(w:World)(ha:Rd w A (n*8) (fun j=>.int .i64 (z j)))(h1:1≤W)(h2:W≤24)(hn:n≤1500)(hops:∀i,i<n→dR W z i=true):
 Calls Tryz.prog 91 #[.int .i64 W,.slice A n q] w (EvC w (mT W z 0 n) (nF W z n)):=by
 obtain⟨i0,hi,iz,is,ib⟩:=info_parts iF;have HA:=qh ha;have dT:=qh hops;have HW:=qh (show 1≤W∧W≤24 from⟨h1,h2⟩);clear ha hops h1 h2
 go_enter Tryz.func91,Tryz.ntmps91
 go_wp2_with fail
 refine(EV W w HW.o.1 HW.o.2).mono ?_;rintro e w2 ⟨v,rfl,⟨iM,⟨g0,gf,cf,gk,ck,gc,cc,F0,K0,L0,D0⟩,rfl,hlo,gK,⟨⟨AL,nL,cL,hL⟩,⟨AD,nD,cD,hD⟩⟩,hmk⟩,hb2⟩;obtain rfl:L0=_:=hL;obtain rfl:D0=_:=hD;have HB2:Hq (Below w.heap.size w w2):=qh hb2;have hr0:Runs w (eX iM w2.heap.size) ⟨w2.heap.size,gf,cf,gk,ck,gc,cc,F0,K0,.slice AL nL cL,.slice AD nD cD⟩ (bB W z 0) (w2.alloc (.cells (dM ⟨g0,gf,cf,gk,ck,gc,cc,F0,K0,.slice AL nL cL,.slice AD nD cD⟩ (jC W)) 58)):=⟨hmk _ _ (Decidable.byContradiction fun hn=>Nat.lt_irrefl _ (gK _ hn)) (fun b hb=>Below.heap_alloc _ _ b (gK b hb)) qj (aB.at_ _ _ _ rfl),
  HB2.o.alloc HB2.o.size _,fun q hq=>by
   unfold eX at hq
   split at hq
   ·have:=HB2.o.size;omega
   ·exact hlo q hq⟩
 obtain⟨w3,hw3⟩:=qx (w2.alloc (.cells (dM ⟨g0,gf,cf,gk,ck,gc,cc,F0,K0,.slice AL nL cL,.slice AD nD cD⟩ (jC W)) 58));rw[←hw3]at hr0;have HT0:Hq (zl w w2.heap.size W z 0 (.slice (some ⟨w3.heap.size,0,none⟩) 0 0) (w3.alloc (.cells #[] 91))):=qh ⟨0,_,_,rfl,hr0.below (qb),fun i hi=>absurd hi (Nat.not_lt_zero i),Nat.zero_le _,World.ownsRow_made _ #[] 0 hr0.b.size qm rfl,fun q hq=>by
  injection hq with hq;exact Decidable.byContradiction fun hn=>by
   have h:=hr0.m.lt q hn;have hq:w3.heap.size=q:=hq;omega⟩
 have HW3:=qh hw3;clear hlo gK hmk hb2 hr0 hw3
 simp only[dM,jC]at HW3 ⊢
 go_upto_region 2 with(fail)
 rw[←HW3.o]
 go_wp2_with fail
 go_loopw [7,8] (fun v y wr=>∃i:Nat,i≤n∧y=.int .i64 i∧Hq (zl w w2.heap.size W z i v wr)) (fun _ y _=>n-(intOf y).toNat)
 case atStart=>exact⟨0,Nat.zero_le _,rfl,HT0⟩
 case round=>
  clear HT0;obtain⟨i,hile,rfl,HT⟩:=hrel;obtain⟨N,tg,a,hg,hr,hok,hN,ho,hfree⟩:=HT.o;have HR:=qh hr;have iV:=qh hok;have HO:=qh ho;have t7:=qh hfree;have HG:=qh hg
  by_cases hlt:i<n
  ·have dC:=qh hlt
   obtain⟨ga,o,rfl,hga,hra⟩:=HA.o qo;have GI:Hq (tg ga=0):=qh (Decidable.byContradiction fun hn=>by have:=HR.o.lo ga hn;omega);have hce:=lR (hra.below hga HR.o.b) hlt;have hp:=gC HW.o.1 (dT.o i hlt);rw[←BU W z i]at hp;have hs:=zI HW.o.1 HW.o.2 i (fun q hq=>dT.o q qo) hok.ok;have hdo:Calls Tryz.prog 117 #[.pointer (some ⟨a.g,0,none⟩),.pointer (some ⟨ga,o+i*8,none⟩)] wr (Ar wr tg a.g (kC (bB W z i) z i) (bB W z (i+1)) (kE (bB W z i) z i)):=Kn ga (o+i*8) HR.o.m hs qo hce GI.o hp;rw[hg]at hdo;obtain⟨C,hC⟩:=qx (kC (bB W z i) z i);rw[←hC]at hdo;have ZX:=qh hdo;have HC:=qh hC;clear hg hr hok ho hfree hce hp hs hdo hC hga hra HT
   go_wp2_with fail
   refine ZX.o.mono ?_;rintro e w4 ⟨fW,hbad,hgood⟩;clear ZX;have nB:=qh fW;have aR:=qh (HR.o.fr fW)
   by_cases hc0:C=0
   ·subst hc0
    obtain⟨v4,n4,zC,a4,rfl,SS,eN,qM,vk⟩:=hgood rfl;obtain⟨A4,c4,rfl⟩:=aF eN;have HR4:=qh (rG eN);have pM:=qh (show(kE (bB W z i) z i).length=n4*6 from by have:=eN.1;simpa [ints]using this);have nT:=qh qM;have bP:=qh (cU HO.o fun b hb=>fW.block b (HO.o.lt b hb).2 fun e=>e (t7.o b hb));have D9:Hq (∀b,u7.ownBlock=some b→zC b=0):=qh fun b hb=>Decidable.byContradiction fun hn=>by
     rcases qM.t b hn with h|h
     ·exact h (t7.o b hb)
     ·have:=(HO.o.lt b hb).2
      omega
    have Va:Hq (∀b,zC b≠0→w.heap.size≤b):=qh fun b hb=>by
     rcases qM.t b hb with h|h
     ·exact HR.o.lo b h
     ·exact Nat.le_trans HR.o.b.size h
    have Fz:=qh (I0 iV.o.ok HC.o.symm);have jM:=qh (zI HW.o.1 HW.o.2 (i+1) (fun q hq=>dT.o q qo) Fz.o);have jF:w.heap.size≤w4.heap.size:=aR.o.size;clear eN qM vk fW hbad hgood HO
    by_cases hbig:N+n4≤2000
    ·have hb1:¬(2000:Int)<((N+n4:Nat):Int):=qo
     go_wp2_with (at_builtin;go_must (refine sG w4 rfl (.tmp 30) (.tmp 31) _ rfl w.heap.size 91 i0 _ 6 48 Tryz.underlying49 hi iz is ib rfl qo u7 N _ rfl bP.o A4 n4 c4 _ rfl HR4.o (fun j=>rfl) qm qo jF ?_);intro v' w' hown' hfr hat';obtain⟨A5,c5,rfl⟩:=aF hown';have cI:=qh hown';have eJ:=qh hfr;have cH:=qh hat';clear hown' hfr hat')
     have oQ:=qh (nT.o.m.same (fun b hb=>eJ.o.block b (nT.o.m.lt b hb) fun e=>hb (D9.o b e)) eJ.o.size);have HG5:=qh (nT.o.g);have hlv:=jo oQ.o jM.o;rw[HG5.o]at hlv;obtain⟨V,hV⟩:=qx (live (bB W z (i+1)));rw[←hV]at hlv;have ZE:=qh hlv;have HV:=qh hV;clear hlv hV;refine ZE.o.mono ?_;rintro e w6 ⟨⟨A6,c6,rfl⟩,hb6⟩;have bG:=qh hb6;have ae5:=qh (show ints (wA W z (i+1))=ints (wA W z i)++(List.range (n4*6)).map fun j=>Value.int .i64 ((kE (bB W z i) z i).getD j 0)from by
      rw[lX _ _ pM.o,←aT]
      rfl)
     have HLEN:=qh (show(wA W z (i+1)).length=(N+n4)*6 from by
      have h:=cI.o.1;rw[←ae5.o]at h
      simpa [ints]using h)
     have aZ:=qh (show Below w.heap.size w w' from aR.o.trans (eJ.o.below jF fun b hb=>(bP.o.lt b hb).1));clear hb6 ZE
     by_cases hv:V≤12
     ·have hv1:¬(12:Int)<(V:Int):=qo
      have HT6:=qh (show zl w w2.heap.size W z (i+1) (.slice A5 (N+n4) c5) w6 from⟨N+n4,zC,a4,HG5.o,Runs.below ⟨oQ.o,aZ.o,Va.o⟩ bG.o,RM iV.o HC.o.symm (fun h=>by
       rcases h with h|h
       ·rw[HLEN.o]at h;omega
       ·rw[←HV.o]at h;omega),hbig,by rw[ae5.o];exact own_below cI.o bG.o,fun q hq=>Decidable.byContradiction fun hn=>by
       rcases cH.o with h|h
       ·rw[h]at hq
        exact hn (D9.o q hq)
       ·rw[h]at hq
        injection hq with hq;have:=nT.o.m.lt q hn;omega⟩)
      clear cI eJ cH nT
      go_wp2_with fail
      go_roundw
      case rel=>exact⟨i+1,by omega,qg,HT6⟩
      case measure=>exact qs
     ·have hv1:(12:Int)<(V:Int):=qo
      have dU:=qh (aZ.o.trans (bG.o.mono aZ.o.size));have j9:=qh (EE dC.o iV.o HC.o.symm (.inr (by rw[←HV.o];omega)))
      exact zQ29x1
    ·have hb1:(2000:Int)<((N+n4:Nat):Int):=qo
     have j9:=qh (EE dC.o iV.o HC.o.symm (.inl (show 2000*6<(wA W z i++kE (bB W z i) z i).length from by
      have h:=bP.o.1;rw[List.length_append,pM.o,show(wA W z i).length=N*6 from by simpa [ints]using h];omega)))
     go_wp2_with (at_builtin;go_must (refine sG w4 rfl (.tmp 30) (.tmp 31) _ rfl w.heap.size 91 i0 _ 6 48 Tryz.underlying49 hi iz is ib rfl qo u7 N _ rfl bP.o A4 n4 c4 _ rfl HR4.o (fun j=>rfl) qm qo jF ?_);intro v' w' hown' hfr hat';obtain⟨A5,c5,rfl⟩:=aF hown';have cI:=qh hown';have eJ:=qh hfr;clear hown' hfr hat')
     have dU:=qh (show Below w.heap.size w w' from aR.o.trans (eJ.o.below jF fun b hb=>(bP.o.lt b hb).1))
     exact zQ29x1
   ·have hc1:(C==0)=false:=by rw[beq_eq_false_iff_ne];exact hc0
    obtain⟨v4,rfl⟩:=hbad hc0;have j9:=qh ((oz dC.o iV.o (by rw[←HC.o];exact hc0)).trans HC.o.symm);have HNZ:=qh hc0;clear fW hbad hgood hc0
    go_wp2_with fail
    go_ret2
    exact EvC.bad j9.o (by unfold nF;rw[if_neg (by rw[j9.o];exact HNZ.o)]) rfl aR.o
  ·obtain rfl:n=i:=qo
   have j9:=qh (RO iV.o);clear hg hr hok ho hfree
   go_wp2_with fail
   go_ret2
   exact⟨_,N,by rw[j9.o];rfl,hN,by unfold nF;rw[if_pos j9.o];exact HO.o,HR.o.b⟩
def DG (W:Int)(z:Nat→Int)(n:Nat):Int:=if gZ W z n=true then mT W.toNat z 0 n else 1
def DF (W:Int)(z:Nat→Int)(n:Nat):List Int:=if gZ W z n=true then nF W.toNat z n else []
theorem Im {W:Int}{z:Nat→Int}{n:Nat}(h:gZ W z n=true):∃V:Nat,W=V∧1≤V∧V≤24∧n≤1500∧∀i,i<n→dR V z i=true:=by
 have hpp:aK W 1 24=true∧n≤1500∧oY W z n=true:=by
  unfold gZ at h
  simpa only[Bool.and_eq_true,decide_eq_true_eq]using h
 have hW:1≤W∧W≤24:=by have:=hpp.1;unfold aK at this;simpa only[Bool.and_eq_true,decide_eq_true_eq]using this
 obtain⟨V,rfl⟩:=Int.eq_ofNat_of_zero_le (show 0≤W by omega);exact⟨V,rfl,by omega,by omega,hpp.2.1,LU hpp.2.2⟩
theorem NH (W:Int)(A:OA)(n q:Nat)(z:Nat→Int)(w:World)(ha:Rd w A (n*8) (fun j=>.int .i64 (z j)))(hn:n≤1048576):
 Calls Tryz.prog 62 #[.int .i64 W,.slice A n q] w (EvC w (DG W z n) (DF W z n)):=by
 have hops:=O6 W A n q z w ha hn;have HA:=qh ha
 cases hpb:gZ W z n
 ·rw[hpb]at hops
  have HO:=qh hops;have HC:=qh (show DG W z n=1 from by unfold DG;rw[hpb,if_neg qj]);have HL:=qh (show DF W z n=[]from by unfold DF;rw[hpb,if_neg qj]);clear hops hpb ha
  go_enter Tryz.func62,Tryz.ntmps62
  go_wp2_with fail
  refine HO.o.mono ?_;rintro e w1 ⟨rfl,hb1⟩
  go_wp2_with fail
  go_ret2
  exact EvC.bad HC.o HL.o rfl hb1
 ·obtain⟨V,rfl,h1,h2,h3,h4⟩:=Im hpb
  rw[hpb]at hops;have HO:=qh hops;have HC:=qh (show DG (V:Int) z n=mT V z 0 n from by unfold DG;rw[if_pos hpb,Int.toNat_natCast]);have HL:=qh (show DF (V:Int) z n=nF V z n from by unfold DF;rw[if_pos hpb,Int.toNat_natCast]);have HT:=qh (fun(w1:World) (hb:Below w.heap.size w w1)=>WI V A n q z w1 (HA.o.below hb) h1 h2 h3 h4);clear hops hpb ha h4
  go_enter Tryz.func62,Tryz.ntmps62
  go_wp2_with fail
  refine HO.o.mono ?_;rintro e w1 ⟨rfl,hb1⟩;have HB1:=qh hb1;clear hb1
  go_wp2_with fail
  refine(HT.o w1 HB1.o).mono ?_;rintro e w2 ⟨v,N,rfl,hN,ho,hb2⟩;have dU:=HB1.st hb2;have Pj:=qh (show w2.ownsRow w.heap.size 91 6 v N (ints (nF V z n))from eF ho HB1.o.size);clear ho hb2
  go_wp2_with fail
  go_ret2
  exact⟨v,N,by rw[HC.o];rfl,hN,by rw[HL.o];exact Pj.o,dU.o⟩
end Go.Proofs.YtdnmhhohcedjbaaGreat
