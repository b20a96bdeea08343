/- Walks and plain lemmas. -/
import Derived.Test.YtmnbgjnipbpiaaaGreatP28
set_option linter.unusedVariables false
set_option linter.unusedSimpArgs false
namespace Go.Proofs.YtmnbgjnipbpiaaaGreat
open Go.RowKit
abbrev aP:=Int×Int×List (List Int)
def aX (q:Bool)(w:World)(A:OA)(Ls:List (List Int)):Prop:=0<Ls.length→∃g o,A=some ⟨g,o,none⟩∧g<w.heap.size∧∀j L,Ls[j]?=some L→∃B c,w.cell? ⟨g,o+j,none⟩=some (.slice B L.length c)∧aG w B L∧(q=true→L.length≤c)
section
variable {q:Bool}{w w':World}{A:Option Addr}{Ls:List (List Int)}{X X':Nat→Prop}{P:World→Prop}
theorem aX.below (h:aX q w A Ls)(hb:Below w.heap.size w w'):aX q w' A Ls:=fun h0=>by
 obtain⟨g,o,e,hg,hr⟩:=h h0;refine⟨g,o,e,Nat.lt_of_lt_of_le hg hb.size,fun j L hj=>?_⟩;obtain⟨B,c,hc,hl,hq⟩:=hr j L hj;exact⟨B,c,a7 hb hg hc,hl.below hb,hq⟩
theorem aX.drewN (h:aX q w A Ls)(n:Nat):aX q (w.drewN n) A Ls:=h.below (Below.drewN' (Below.refl _ w) n)
theorem aX.at (h:aX q w A Ls){j:Nat}{L:List Int}(hj:Ls[j]?=some L):∃g o B c,A=some ⟨g,o,none⟩∧g<w.heap.size∧w.cell? ⟨g,o+j,none⟩=some (.slice B L.length c)∧aG w B L∧(q=true→L.length≤c):=by
 obtain⟨g,o,e,hg,hr⟩:=h (by have:=(List.getElem?_eq_some_iff.1 hj).1;omega);obtain⟨B,c,hc,hl,hq⟩:=hr j L hj;exact⟨g,o,B,c,e,hg,hc,hl,hq⟩
theorem aT.DL {B c n:Nat}{As:Nat→Option Addr}{cs:Nat→Nat}(h:aT B (.slice A n c) Ls As cs w):aX false w A Ls:=fun h0=>by
 obtain⟨g,cap,e,hg,_⟩:=h.form h0;injection e with e1 e2 e3;subst e1 e2 e3;refine⟨g,0,rfl,hg,fun j L hj=>?_⟩;have hlt:j<Ls.length:=(List.getElem?_eq_some_iff.1 hj).1;have hL:Ls.getD j []=L:=by simp[List.getD,hj]
 have hc:=h.cell hlt;have hr:=h.rd j hlt;rw[hL]at hc hr;exact⟨As j,cs j,by rw[Nat.zero_add];exact hc,hr,fun h=>by cases h⟩
theorem aK.DL {n:Nat}{B c m:Nat}{L:List (G.PM n)}{bs cs:Nat→Nat}(h:aK B (.slice A m c) L bs cs w):aX q w A (L.map G.pl):=fun h0=>by
 rw[List.length_map]at h0;obtain⟨g,o,cap,e,hg,_⟩:=h.form h0;injection e with e1 e2 e3;subst e1 e2 e3;refine⟨g,o,rfl,hg,fun j K hj=>?_⟩;rw[List.getElem?_map,Option.map_eq_some_iff]at hj;obtain⟨p,hp,rfl⟩:=hj;have hlt:j<L.length:=(List.getElem?_eq_some_iff.1 hp).1;refine⟨_,cs j,by rw[G.a6];exact h.cell hlt,bI (h.gZ j p hp),fun _=>?_⟩;rw[G.a6]
 rcases(h.gZ j p hp).2 with⟨e,h0⟩|⟨g,cap,cur,e,_,_,hnc,_⟩
 ·omega
 ·injection e with _ _ e
  omega
def d4 (P:World→Prop)(X:Nat→Prop)(w:World):Prop:=∀w':World,(∀b,b<w.heap.size→¬X b→w'.heap[b]?=w.heap[b]?)→P w'
theorem d4.now (h:d4 P X w):P w:=h w fun _ _ _=>rfl
theorem d4.step {w1:World}(h:d4 P X w)(hf:Fr w w1 X)(hx:∀b,X' b→X b∨w.heap.size≤b):d4 P X' w1:=fun w2 h2=>h w2 fun b hb hn=>(h2 b (Nat.lt_of_lt_of_le hb hf.size) fun h'=>(hx b h').elim hn (fun h''=>by omega)).trans (hf.block b hb hn)
theorem d4.sY {F:Nat→Prop}(h:Loc P F)(hp:P w)(hX:∀b,F b→¬X b):d4 P X w:=fun w' hf=>h.1 w w' hp fun b hb=>hf b (h.2 w b hp hb) (hX b hb)
theorem aT.GP {B c n:Nat}{As:Nat→Option Addr}{cs:Nat→Nat}(h:aT B (.slice A n c) Ls As cs w)(hX:∀b,X b→b<B)(hA:∀j,j<Ls.length→∀b,Fb (As j) (Ls.getD j []).length b→B≤b):d4 (fun w=>aX false w A Ls) X w:=fun w' hf=>
 (h.keep fun b hb=>by
  rcases hb with hb|⟨j,hj,hb⟩
  ·have:=h.own.lt b hb
   exact hf b this.2 fun hx=>by have:=hX b hx;omega
  ·exact hf b (h.lt hj hb) fun hx=>by have:=hX b hx;have:=hA j hj b hb;omega).DL
theorem aK.GP {n:Nat}{B c m:Nat}{L:List (G.PM n)}{bs cs:Nat→Nat}(h:aK B (.slice A m c) L bs cs w)(hX:∀b,X b→b<B):d4 (fun w=>aX q w A (L.map G.pl)) X w:=fun w' hf=>
 (h.keep fun b hb=>by
  have:=h.lt hb;exact hf b this.2 fun hx=>by have:=hX b hx;omega).DL
end
structure rC (q:Bool)(w:World)(g o:Nat)(f:aP)(A:OA)(c:Nat):Prop where
 c0:w.cell? ⟨g,o,none⟩=some (.int .i64 f.1)
 c1:w.cell? ⟨g,o+1,none⟩=some (.int .i64 f.2.1)
 c2:w.cell? ⟨g,o+2,none⟩=some (.slice A f.2.2.length c)
 rd:aX q w A f.2.2
theorem rC.lt {q:Bool}{w:World}{g o:Nat}{f:aP}{A:Option Addr}{c:Nat}(h:rC q w g o f A c):g<w.heap.size:=World.block_lt_of_cell? w _ h.c0
theorem rC.below {q:Bool}{w w':World}{g o:Nat}{f:aP}{A:Option Addr}{c:Nat}(h:rC q w g o f A c)(hb:Below w.heap.size w w'):rC q w' g o f A c:=
 ⟨a7 hb h.lt h.c0,a7 hb h.lt h.c1,a7 hb h.lt h.c2,h.rd.below hb⟩
def eR (q:Bool)(w:World)(A:OA)(F:List aP):Prop:=0<F.length→∃g o,A=some ⟨g,o,none⟩∧g<w.heap.size∧∀j f,F[j]?=some f→∃B c,rC q w g (o+j*3) f B c
theorem eR.below {q:Bool}{w w':World}{A:Option Addr}{F:List aP}(h:eR q w A F)(hb:Below w.heap.size w w'):eR q w' A F:=fun h0=>by
 obtain⟨g,o,e,hg,hr⟩:=h h0;refine⟨g,o,e,Nat.lt_of_lt_of_le hg hb.size,fun j L hj=>?_⟩;obtain⟨B,c,hc⟩:=hr j L hj;exact⟨B,c,hc.below hb⟩
theorem eR.at {q:Bool}{w:World}{A:Option Addr}{F:List aP}(h:eR q w A F){j:Nat}{f:aP}(hj:F[j]?=some f):∃g o B c,A=some ⟨g,o,none⟩∧g<w.heap.size∧rC q w g (o+j*3) f B c:=by
 obtain⟨g,o,e,hg,hr⟩:=h (by have:=(List.getElem?_eq_some_iff.1 hj).1;omega);obtain⟨B,c,hc⟩:=hr j f hj;exact⟨g,o,B,c,e,hg,hc⟩
def eZ (w:World)(A:OA)(S:List (List Int)):Prop:=0<S.length→∃g o,A=some ⟨g,o,none⟩∧g<w.heap.size∧∀j L,S[j]?=some L→∃B m c,w.cell? ⟨g,o+j,none⟩=some (.slice B m c)∧L.length=m*6∧Rd w B (m*6) (fun i=>.int .i64 (L.getD i 0))
theorem eZ.below {w w':World}{A:Option Addr}{S:List (List Int)}(h:eZ w A S)(hb:Below w.heap.size w w'):eZ w' A S:=fun h0=>by
 obtain⟨g,o,e,hg,hr⟩:=h h0;refine⟨g,o,e,Nat.lt_of_lt_of_le hg hb.size,fun j L hj=>?_⟩;obtain⟨B,m,c,hc,hl,hr⟩:=hr j L hj;exact⟨B,m,c,a7 hb hg hc,hl,hr.below hb⟩
theorem eZ.at {w:World}{A:Option Addr}{S:List (List Int)}(h:eZ w A S){j:Nat}{L:List Int}(hj:S[j]?=some L):∃g o B m c,A=some ⟨g,o,none⟩∧g<w.heap.size∧w.cell? ⟨g,o+j,none⟩=some (.slice B m c)∧L.length=m*6∧Rd w B (m*6) (fun i=>.int .i64 (L.getD i 0)):=by
 obtain⟨g,o,e,hg,hr⟩:=h (by have:=(List.getElem?_eq_some_iff.1 hj).1;omega);obtain⟨B,m,c,hc,hl,hr⟩:=hr j L hj;exact⟨g,o,B,m,c,e,hg,hc,hl,hr⟩
structure i5 (f:aP):Prop where
 n:f.2.2.length≤1048576
 l:∀L∈f.2.2,L.length≤1048576
structure lD (F:List aP)(S:List (List Int)):Prop where
 f:F.length≤1048576∧∀f∈F,i5 f
 s:S.length≤1048576∧∀L∈S,L.length≤1048576*6
structure cE (q:Bool)(w:World)(A B:OA)(F:List aP)(S:List (List Int)):Prop where
 f:eR q w A F
 s:eZ w B S
theorem cE.below {q:Bool}{w w':World}{A B:Option Addr}{F:List aP}{S:List (List Int)}(h:cE q w A B F S)(hb:Below w.heap.size w w'):cE q w' A B F S:=⟨h.f.below hb,h.s.below hb⟩
def eH (L:List Int):Prop:=L.length≤12∧G.gS L L.length
def aQ (n:Nat)(Ls:List (List Int))(k:Nat):Prop:=∀j,j<k→∃p:G.PM n,Ls[j]?=some (G.pl p)∧p≠G.one∧p≠G.del∧∀i,i+1=j→∃q:G.PM n,Ls[i]?=some (G.pl q)∧G.ext q p=0
structure bF (f:aP):Prop where
 s:0≤f.1∧f.1≤12
 p: -100≤f.2.1∧f.2.1≤100
 l:f.2.2.length≤100
 z:f.1<2→f.2.1=0∧f.2.2.length=0
 f:aQ f.1.toNat f.2.2 f.2.2.length
section
variable {n:Nat}{Ls:List (List Int)}{k:Nat}{p:G.PM n}
theorem aQ.zero:aQ n Ls 0:=fun j hj=>absurd hj qo
theorem aQ.next (h:aQ n Ls k)(hp:Ls[k]?=some (G.pl p))(h1:p≠G.one)(h2:p≠G.del)(h3:∀i,i+1=k→∃q:G.PM n,Ls[i]?=some (G.pl q)∧G.ext q p=0):aQ n Ls (k+1):=fun j hj=>by
 by_cases e:j=k
 ·subst e
  exact⟨p,hp,h1,h2,h3⟩
 ·exact h j qo
theorem aQ.mono {k':Nat}(h:aQ n Ls k)(hk:k'≤k):aQ n Ls k':=fun j hj=>h j qo
theorem DO (p:G.PM n)(hn:n≤12):eH (G.pl p):=by
 refine⟨by rw[G.a6];exact hn,fun i hi=>?_⟩;rw[G.a6]at hi;rw[G.bO p hi,G.a6];have:=p.lt hi;refine⟨⟨by omega,by omega⟩,fun j hj=>?_⟩;rw[G.bO p (show j<n by omega)];intro e;have e2:p.f j=p.f i:=qo;have h1:=p.gf j;rw[e2,p.gf i]at h1;omega
theorem sU {L:List Int}(h:eH L)(hl:L.length=n):∃p:G.PM n,L=G.pl p:=by
 have h2:=h.2;rw[hl]at h2;exact h2.pm hl
theorem aQ.at {L:List Int}(h:aQ n Ls Ls.length)(hL:Ls[k]?=some L):∃p:G.PM n,L=G.pl p∧p≠G.one∧p≠G.del∧∀i,i+1=k→∃q:G.PM n,Ls[i]?=some (G.pl q)∧G.ext q p=0:=by
 obtain⟨p,h1,h2⟩:=h k (List.getElem?_eq_some_iff.1 hL).1;rw[hL]at h1;injection h1 with h1;exact⟨p,h1,h2⟩
theorem aQ.BJ {L:List Int}(hL:Ls[k]?=some L)(h:L.length≠n):¬aQ n Ls Ls.length:=fun hf=>by
 obtain⟨p,e,_⟩:=hf.at hL;exact h (by rw[e,G.a6])
theorem aQ.xS {L:List Int}(hL:Ls[k]?=some L)(hn:n≤12)(h:¬eH L):¬aQ n Ls Ls.length:=fun hf=>by
 obtain⟨p,e,_⟩:=hf.at hL;exact h (by rw[e];exact DO p hn)
theorem aQ.BI (hL:Ls[k]?=some (G.pl p))(h:p=G.one):¬aQ n Ls Ls.length:=fun hf=>by
 obtain⟨q,e,h1,_⟩:=hf.at hL;exact h1 ((G.f8 e).symm.trans h)
theorem aQ.BL (hL:Ls[k]?=some (G.pl p))(h:p=G.del):¬aQ n Ls Ls.length:=fun hf=>by
 obtain⟨q,e,_,h1,_⟩:=hf.at hL;exact h1 ((G.f8 e).symm.trans h)
theorem aQ.BK {q:G.PM n}(hL:Ls[k+1]?=some (G.pl p))(hM:Ls[k]?=some (G.pl q))(h:G.ext q p≠0):¬aQ n Ls Ls.length:=fun hf=>by
 obtain⟨p',e,_,_,h1⟩:=hf.at hL;obtain rfl:=G.f8 e;obtain⟨q',e',h2⟩:=h1 k rfl;rw[hM]at e';injection e' with e';obtain rfl:=G.f8 e';exact h h2
end
noncomputable def i9 (S:List Int)(m:Nat):Prop:=∀j,j<m→S.getD (j*6) 0≠1
open Classical in
noncomputable def f9 (F:List aP)(S:List (List Int)):Nat→Option Int
 |0=>some 0
 |k+1=>match f9 F S k with
  |none=>none
  |some n=>if bF (F.getD k (0,0,[]))∧(F.getD k (0,0,[])).1=n∧(0<k→¬((F.getD k (0,0,[])).2.1=0∧(F.getD k (0,0,[])).2.2.length=0))∧(S.getD k []).length≤12000∧(k+1<F.length→(S.getD k []).length≠0)∧i9 (S.getD k []) ((S.getD k []).length/6)then cnt (fun i=>(S.getD k []).getD i 0) n ((S.getD k []).length/6)else none
def cT (F:List aP)(S:List (List Int)):Prop:=(1≤F.length∧F.length≤60)∧S.length=F.length∧(f9 F S F.length).isSome=true
theorem DN {F:List aP}{S:List (List Int)}{j k:Nat}(h:j≤k)(hj:f9 F S j=none):f9 F S k=none:=by
 induction k with
 |zero=>
  obtain rfl:j=0:=qo;exact hj
 |succ k ih=>
  rcases Nat.lt_or_ge k j with hlt|hge
  ·obtain rfl:j=k+1:=qo
   exact hj
  ·simp only[f9,ih hge]
theorem cT.no {F:List aP}{S:List (List Int)}{k:Nat}(hk:k≤F.length)(h:f9 F S k=none):¬cT F S:=fun⟨_,_,h3⟩=>by
 rw[DN hk h]at h3
 cases h3
theorem qQ {z:Nat→Int}{s:Int}{k:Nat}{m:Int}(h:cnt z s k=some m)(hv:bE (z (k*6)) (z (k*6+1)) (z (k*6+2)) (z (k*6+3)) (z (k*6+4)) (z (k*6+5)) m=true)(ha:aH (z (k*6)) (z (k*6+2)) m≤12):cnt z s (k+1)=some (aH (z (k*6)) (z (k*6+2)) m):=by
 simp only[cnt,h]
 rw[if_pos ⟨hv,ha⟩]
theorem qP {z:Nat→Int}{s:Int}{k:Nat}{m:Int}(h:cnt z s k=some m)(hv:¬(bE (z (k*6)) (z (k*6+1)) (z (k*6+2)) (z (k*6+3)) (z (k*6+4)) (z (k*6+5)) m=true∧aH (z (k*6)) (z (k*6+2)) m≤12)):cnt z s (k+1)=none:=by
 simp only[cnt,h]
 rw[if_neg hv]
theorem jV {z:Nat→Int}{s:Int}(hs:0≤s∧s≤12){k:Nat}{m:Int}(h:cnt z s k=some m):0≤m∧m≤12:=by
 induction k generalizing m with
 |zero=>simp[cnt]at h;omega
 |succ k ih=>
  simp only[cnt]at h
  cases hk:cnt z s k with
  |none=>rw[hk]at h;cases h
  |some x=>
   rw[hk]at h
   simp only at h
   split at h
   ·rename_i hv
    injection h with h;have:=dP hv.1;omega
   ·cases h
theorem o8 {F:List aP}{S:List (List Int)}{k:Nat}{m:Int}(h:f9 F S k=some m):0≤m∧m≤12:=by
 induction k generalizing m with
 |zero=>simp[f9]at h;omega
 |succ k ih=>
  simp only[f9]at h
  cases hk:f9 F S k with
  |none=>rw[hk]at h;cases h
  |some x=>
   rw[hk]at h
   simp only at h
   split at h
   ·exact jV (ih hk) h
   ·cases h
open Classical in
theorem B4 {F:List aP}{S:List (List Int)}{k:Nat}{n:Int}{f:aP}{L:List Int}(h:f9 F S k=some n)(hf:F[k]?=some f)(hL:S[k]?=some L)(h1:bF f)(h2:f.1=n)(h3:0<k→¬(f.2.1=0∧f.2.2.length=0))(h4:L.length≤12000)(h5:k+1<F.length→L.length≠0)(h6:i9 L (L.length/6)):f9 F S (k+1)=cnt (fun i=>L.getD i 0) n (L.length/6):=by
 have e1:F.getD k (0,0,[])=f:=by simp[List.getD,hf]
 have e2:S.getD k []=L:=by simp[List.getD,hL]
 simp only[f9,h,e1,e2]
 rw[if_pos ⟨h1,h2,h3,h4,h5,h6⟩]
open Classical in
theorem B3 {F:List aP}{S:List (List Int)}{k:Nat}{n:Int}{f:aP}{L:List Int}(h:f9 F S k=some n)(hf:F[k]?=some f)(hL:S[k]?=some L)(hn:¬(bF f∧f.1=n∧(0<k→¬(f.2.1=0∧f.2.2.length=0))∧L.length≤12000∧(k+1<F.length→L.length≠0)∧i9 L (L.length/6)∧cnt (fun i=>L.getD i 0) n (L.length/6)≠none)):¬cT F S:=by
 refine cT.no (k:=k+1) (List.getElem?_eq_some_iff.1 hf).1 ?_;have e1:F.getD k (0,0,[])=f:=by simp[List.getD,hf]
 have e2:S.getD k []=L:=by simp[List.getD,hL]
 simp only[f9,h,e1,e2]
 split
 ·rename_i hc
  exact byContradiction fun hx=>hn ⟨hc.1,hc.2.1,hc.2.2.1,hc.2.2.2.1,hc.2.2.2.2.1,hc.2.2.2.2.2,hx⟩
 ·rfl
noncomputable def n9 (b:aF):aP:=(b.1,(G.acts b.1.toNat ((0,[]):Int×List (G.PM b.1.toNat)) b.2.1).1,(G.acts b.1.toNat ((0,[]):Int×List (G.PM b.1.toNat)) b.2.1).2.map G.pl)
noncomputable def bS (o:List aF):List aP:=o.map n9
def bR (o:List aF):List (List Int):=o.map fun b=>b.2.2
open Classical in
noncomputable def vF (z:Nat→Int)(n:Nat)(F:List aP)(S:List (List Int)):Except Int Bool:=
 if(dY z n).isSome=true∧cT F S then(match cA z n with
  |none=>.error 5
  |some o=>.ok (decide (bS o=F)&&decide (bR o=S)))else .error 1
noncomputable def iX (z:Nat→Int)(n:Nat)(F:List aP)(S:List (List Int)):Bool:=match vF z n F S with
 |.ok b=>b
 |.error _=>false
noncomputable def iW (z:Nat→Int)(n:Nat)(F:List aP)(S:List (List Int)):Int:=match vF z n F S with
 |.ok _=>0
 |.error x=>x
theorem mR {z:Nat→Int}{n:Nat}{F:List aP}{S:List (List Int)}(h:¬((dY z n).isSome=true∧cT F S)):iX z n F S=false∧iW z n F S=1:=by
 simp[iX,iW,vF,h]
theorem vE {z:Nat→Int}{n:Nat}{F:List aP}{S:List (List Int)}(h1:(dY z n).isSome=true)(h2:cT F S)(h3:cA z n=none):iX z n F S=false∧iW z n F S=5:=by
 simp[iX,iW,vF,h1,h2,h3]
open Classical in
theorem vD {z:Nat→Int}{n:Nat}{F:List aP}{S:List (List Int)}{o:List aF}(h1:(dY z n).isSome=true)(h2:cT F S)(h3:cA z n=some o):iX z n F S=(decide (bS o=F)&&decide (bR o=S))∧iW z n F S=0:=by
 simp[iX,iW,vF,h1,h2,h3]
end Go.Proofs.YtmnbgjnipbpiaaaGreat
