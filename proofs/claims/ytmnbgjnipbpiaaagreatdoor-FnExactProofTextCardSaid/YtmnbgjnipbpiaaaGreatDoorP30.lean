/- Walks and plain lemmas. -/
import Derived.Test.YtmnbgjnipbpiaaaGreatDoorP29
set_option linter.unusedVariables false
set_option linter.unusedSimpArgs false
namespace Go.Proofs.YtmnbgjnipbpiaaaGreatDoor
open Go.RowKit
abbrev aF:=Int×Int×List (List Int)
def bD (q:Bool)(w:World)(A:OA)(Ls:List (List Int)):Prop:=0<Ls.length→∃g o,A=some ⟨g,o,none⟩∧g<w.heap.size∧∀j L,Ls[j]?=some L→∃B c,w.cell? ⟨g,o+j,none⟩=some (.slice B L.length c)∧aW w B L∧(q=true→L.length≤c)
section
variable {q:Bool}{w w':World}{A:Option Addr}{Ls:List (List Int)}{X X':Nat→Prop}{P:World→Prop}
theorem bD.below (h:bD q w A Ls)(hb:Below w.heap.size w w'):bD q w' A Ls:=fun h0=>by
 obtain⟨g,o,e,hg,hr⟩:=h h0;refine⟨g,o,e,Nat.lt_of_lt_of_le hg hb.size,fun j L hj=>?_⟩;obtain⟨B,c,hc,hl,hq⟩:=hr j L hj;exact⟨B,c,a6 hb hg hc,hl.below hb,hq⟩
theorem bD.drewN (h:bD q w A Ls)(n:Nat):bD q (w.drewN n) A Ls:=h.below (Below.drewN' (Below.refl _ w) n)
theorem bD.at (h:bD q w A Ls){j:Nat}{L:List Int}(hj:Ls[j]?=some L):∃g o B c,A=some ⟨g,o,none⟩∧g<w.heap.size∧w.cell? ⟨g,o+j,none⟩=some (.slice B L.length c)∧aW w B L∧(q=true→L.length≤c):=by
 obtain⟨g,o,e,hg,hr⟩:=h (by have:=(List.getElem?_eq_some_iff.1 hj).1;omega);obtain⟨B,c,hc,hl,hq⟩:=hr j L hj;exact⟨g,o,B,c,e,hg,hc,hl,hq⟩
def cR (P:World→Prop)(X:Nat→Prop)(w:World):Prop:=∀w':World,(∀b,b<w.heap.size→¬X b→w'.heap[b]?=w.heap[b]?)→P w'
theorem cR.now (h:cR P X w):P w:=h w fun _ _ _=>rfl
theorem cR.step {w1:World}(h:cR P X w)(hf:Fr w w1 X)(hx:∀b,X' b→X b∨w.heap.size≤b):cR P X' w1:=fun w2 h2=>h w2 fun b hb hn=>(h2 b (Nat.lt_of_lt_of_le hb hf.size) fun h'=>(hx b h').elim hn (fun h''=>by omega)).trans (hf.block b hb hn)
theorem cR.rS {F:Nat→Prop}(h:Loc P F)(hp:P w)(hX:∀b,F b→¬X b):cR P X w:=fun w' hf=>h.1 w w' hp fun b hb=>hf b (h.2 w b hp hb) (hX b hb)
end
structure jG (q:Bool)(w:World)(g o:Nat)(f:aF)(A:OA)(c:Nat):Prop where
 c0:w.cell? ⟨g,o,none⟩=some (.int .i64 f.1)
 c1:w.cell? ⟨g,o+1,none⟩=some (.int .i64 f.2.1)
 c2:w.cell? ⟨g,o+2,none⟩=some (.slice A f.2.2.length c)
 rd:bD q w A f.2.2
theorem jG.lt {q:Bool}{w:World}{g o:Nat}{f:aF}{A:Option Addr}{c:Nat}(h:jG q w g o f A c):g<w.heap.size:=World.block_lt_of_cell? w _ h.c0
theorem jG.below {q:Bool}{w w':World}{g o:Nat}{f:aF}{A:Option Addr}{c:Nat}(h:jG q w g o f A c)(hb:Below w.heap.size w w'):jG q w' g o f A c:=
 ⟨a6 hb h.lt h.c0,a6 hb h.lt h.c1,a6 hb h.lt h.c2,h.rd.below hb⟩
def d7 (q:Bool)(w:World)(A:OA)(F:List aF):Prop:=0<F.length→∃g o,A=some ⟨g,o,none⟩∧g<w.heap.size∧∀j f,F[j]?=some f→∃B c,jG q w g (o+j*3) f B c
theorem d7.below {q:Bool}{w w':World}{A:Option Addr}{F:List aF}(h:d7 q w A F)(hb:Below w.heap.size w w'):d7 q w' A F:=fun h0=>by
 obtain⟨g,o,e,hg,hr⟩:=h h0;refine⟨g,o,e,Nat.lt_of_lt_of_le hg hb.size,fun j L hj=>?_⟩;obtain⟨B,c,hc⟩:=hr j L hj;exact⟨B,c,hc.below hb⟩
theorem d7.at {q:Bool}{w:World}{A:Option Addr}{F:List aF}(h:d7 q w A F){j:Nat}{f:aF}(hj:F[j]?=some f):∃g o B c,A=some ⟨g,o,none⟩∧g<w.heap.size∧jG q w g (o+j*3) f B c:=by
 obtain⟨g,o,e,hg,hr⟩:=h (by have:=(List.getElem?_eq_some_iff.1 hj).1;omega);obtain⟨B,c,hc⟩:=hr j f hj;exact⟨g,o,B,c,e,hg,hc⟩
def dI (w:World)(A:OA)(S:List (List Int)):Prop:=0<S.length→∃g o,A=some ⟨g,o,none⟩∧g<w.heap.size∧∀j L,S[j]?=some L→∃B m c,w.cell? ⟨g,o+j,none⟩=some (.slice B m c)∧L.length=m*6∧Rd w B (m*6) (fun i=>.int .i64 (L.getD i 0))
theorem dI.below {w w':World}{A:Option Addr}{S:List (List Int)}(h:dI w A S)(hb:Below w.heap.size w w'):dI w' A S:=fun h0=>by
 obtain⟨g,o,e,hg,hr⟩:=h h0;refine⟨g,o,e,Nat.lt_of_lt_of_le hg hb.size,fun j L hj=>?_⟩;obtain⟨B,m,c,hc,hl,hr⟩:=hr j L hj;exact⟨B,m,c,a6 hb hg hc,hl,hr.below hb⟩
theorem dI.at {w:World}{A:Option Addr}{S:List (List Int)}(h:dI w A S){j:Nat}{L:List Int}(hj:S[j]?=some L):∃g o B m c,A=some ⟨g,o,none⟩∧g<w.heap.size∧w.cell? ⟨g,o+j,none⟩=some (.slice B m c)∧L.length=m*6∧Rd w B (m*6) (fun i=>.int .i64 (L.getD i 0)):=by
 obtain⟨g,o,e,hg,hr⟩:=h (by have:=(List.getElem?_eq_some_iff.1 hj).1;omega);obtain⟨B,m,c,hc,hl,hr⟩:=hr j L hj;exact⟨g,o,B,m,c,e,hg,hc,hl,hr⟩
structure gG (f:aF):Prop where
 n:f.2.2.length≤1048576
 l:∀L∈f.2.2,L.length≤1048576
structure l1 (F:List aF)(S:List (List Int)):Prop where
 f:F.length≤1048576∧∀f∈F,gG f
 s:S.length≤1048576∧∀L∈S,L.length≤1048576*6
structure cN (q:Bool)(w:World)(A B:OA)(F:List aF)(S:List (List Int)):Prop where
 f:d7 q w A F
 s:dI w B S
theorem cN.below {q:Bool}{w w':World}{A B:Option Addr}{F:List aF}{S:List (List Int)}(h:cN q w A B F S)(hb:Below w.heap.size w w'):cN q w' A B F S:=⟨h.f.below hb,h.s.below hb⟩
def cJ (L:List Int):Prop:=L.length≤12∧G.dL L L.length
def aG (n:Nat)(Ls:List (List Int))(k:Nat):Prop:=∀j,j<k→∃p:G.PM n,Ls[j]?=some (G.pl p)∧p≠G.one∧p≠G.del∧∀i,i+1=j→∃q:G.PM n,Ls[i]?=some (G.pl q)∧G.ext q p=0
structure aT (f:aF):Prop where
 s:0≤f.1∧f.1≤12
 p: -100≤f.2.1∧f.2.1≤100
 l:f.2.2.length≤100
 z:f.1<2→f.2.1=0∧f.2.2.length=0
 f:aG f.1.toNat f.2.2 f.2.2.length
section
variable {n:Nat}{Ls:List (List Int)}{k:Nat}{p:G.PM n}
theorem aG.zero:aG n Ls 0:=fun j hj=>absurd hj qo
theorem aG.next (h:aG n Ls k)(hp:Ls[k]?=some (G.pl p))(h1:p≠G.one)(h2:p≠G.del)(h3:∀i,i+1=k→∃q:G.PM n,Ls[i]?=some (G.pl q)∧G.ext q p=0):aG n Ls (k+1):=fun j hj=>by
 by_cases e:j=k
 ·subst e
  exact⟨p,hp,h1,h2,h3⟩
 ·exact h j qo
theorem aG.mono {k':Nat}(h:aG n Ls k)(hk:k'≤k):aG n Ls k':=fun j hj=>h j qo
theorem pB (p:G.PM n)(hn:n≤12):cJ (G.pl p):=by
 refine⟨by rw[G.a7];exact hn,fun i hi=>?_⟩;rw[G.a7]at hi;rw[G.cC p hi,G.a7];have:=p.lt hi;refine⟨⟨by omega,by omega⟩,fun j hj=>?_⟩;rw[G.cC p (show j<n by omega)];intro e;have e2:p.f j=p.f i:=qo;have h1:=p.gf j;rw[e2,p.gf i]at h1;omega
theorem kE {L:List Int}(h:cJ L)(hl:L.length=n):∃p:G.PM n,L=G.pl p:=by
 have h2:=h.2;rw[hl]at h2;exact h2.pm hl
theorem aG.at {L:List Int}(h:aG n Ls Ls.length)(hL:Ls[k]?=some L):∃p:G.PM n,L=G.pl p∧p≠G.one∧p≠G.del∧∀i,i+1=k→∃q:G.PM n,Ls[i]?=some (G.pl q)∧G.ext q p=0:=by
 obtain⟨p,h1,h2⟩:=h k (List.getElem?_eq_some_iff.1 hL).1;rw[hL]at h1;injection h1 with h1;exact⟨p,h1,h2⟩
theorem aG.nZ {L:List Int}(hL:Ls[k]?=some L)(h:L.length≠n):¬aG n Ls Ls.length:=fun hf=>by
 obtain⟨p,e,_⟩:=hf.at hL;exact h (by rw[e,G.a7])
theorem aG.m3 {L:List Int}(hL:Ls[k]?=some L)(hn:n≤12)(h:¬cJ L):¬aG n Ls Ls.length:=fun hf=>by
 obtain⟨p,e,_⟩:=hf.at hL;exact h (by rw[e];exact pB p hn)
theorem aG.nY (hL:Ls[k]?=some (G.pl p))(h:p=G.one):¬aG n Ls Ls.length:=fun hf=>by
 obtain⟨q,e,h1,_⟩:=hf.at hL;exact h1 ((G.dZ e).symm.trans h)
theorem aG.o4 (hL:Ls[k]?=some (G.pl p))(h:p=G.del):¬aG n Ls Ls.length:=fun hf=>by
 obtain⟨q,e,_,h1,_⟩:=hf.at hL;exact h1 ((G.dZ e).symm.trans h)
theorem aG.o3 {q:G.PM n}(hL:Ls[k+1]?=some (G.pl p))(hM:Ls[k]?=some (G.pl q))(h:G.ext q p≠0):¬aG n Ls Ls.length:=fun hf=>by
 obtain⟨p',e,_,_,h1⟩:=hf.at hL;obtain rfl:=G.dZ e;obtain⟨q',e',h2⟩:=h1 k rfl;rw[hM]at e';injection e' with e';obtain rfl:=G.dZ e';exact h h2
end
noncomputable def dQ (S:List Int)(m:Nat):Prop:=∀j,j<m→S.getD (j*6) 0≠1
open Classical in
noncomputable def cS (F:List aF)(S:List (List Int)):Nat→Option Int
 |0=>some 0
 |k+1=>match cS F S k with
  |none=>none
  |some n=>if aT (F.getD k (0,0,[]))∧(F.getD k (0,0,[])).1=n∧(0<k→¬((F.getD k (0,0,[])).2.1=0∧(F.getD k (0,0,[])).2.2.length=0))∧(S.getD k []).length≤12000∧(k+1<F.length→(S.getD k []).length≠0)∧dQ (S.getD k []) ((S.getD k []).length/6)then cnt (fun i=>(S.getD k []).getD i 0) n ((S.getD k []).length/6)else none
def bO (F:List aF)(S:List (List Int)):Prop:=(1≤F.length∧F.length≤60)∧S.length=F.length∧(cS F S F.length).isSome=true
theorem pA {F:List aF}{S:List (List Int)}{j k:Nat}(h:j≤k)(hj:cS F S j=none):cS F S k=none:=by
 induction k with
 |zero=>
  obtain rfl:j=0:=qo;exact hj
 |succ k ih=>
  rcases Nat.lt_or_ge k j with hlt|hge
  ·obtain rfl:j=k+1:=qo
   exact hj
  ·simp only[cS,ih hge]
theorem bO.no {F:List aF}{S:List (List Int)}{k:Nat}(hk:k≤F.length)(h:cS F S k=none):¬bO F S:=fun⟨_,_,h3⟩=>by
 rw[pA hk h]at h3
 cases h3
theorem j9 {z:Nat→Int}{s:Int}{k:Nat}{m:Int}(h:cnt z s k=some m)(hv:bE (z (k*6)) (z (k*6+1)) (z (k*6+2)) (z (k*6+3)) (z (k*6+4)) (z (k*6+5)) m=true)(ha:aM (z (k*6)) (z (k*6+2)) m≤12):cnt z s (k+1)=some (aM (z (k*6)) (z (k*6+2)) m):=by
 simp only[cnt,h]
 rw[if_pos ⟨hv,ha⟩]
theorem fR {z:Nat→Int}{s:Int}{k:Nat}{m:Int}(h:cnt z s k=some m)(hv:¬(bE (z (k*6)) (z (k*6+1)) (z (k*6+2)) (z (k*6+3)) (z (k*6+4)) (z (k*6+5)) m=true∧aM (z (k*6)) (z (k*6+2)) m≤12)):cnt z s (k+1)=none:=by
 simp only[cnt,h]
 rw[if_neg hv]
theorem dK {z:Nat→Int}{s:Int}(hs:0≤s∧s≤12){k:Nat}{m:Int}(h:cnt z s k=some m):0≤m∧m≤12:=by
 induction k generalizing m with
 |zero=>simp[cnt]at h;omega
 |succ k ih=>
  simp only[cnt]at h
  cases hk:cnt z s k with
  |none=>rw[hk]at h;cases h
  |some x=>
   rw[hk]at h
   simp only at h
   split at h
   ·rename_i hv
    injection h with h;have:=dH hv.1;omega
   ·cases h
theorem eZ {F:List aF}{S:List (List Int)}{k:Nat}{m:Int}(h:cS F S k=some m):0≤m∧m≤12:=by
 induction k generalizing m with
 |zero=>simp[cS]at h;omega
 |succ k ih=>
  simp only[cS]at h
  cases hk:cS F S k with
  |none=>rw[hk]at h;cases h
  |some x=>
   rw[hk]at h
   simp only at h
   split at h
   ·exact dK (ih hk) h
   ·cases h
open Classical in
theorem nT {F:List aF}{S:List (List Int)}{k:Nat}{n:Int}{f:aF}{L:List Int}(h:cS F S k=some n)(hf:F[k]?=some f)(hL:S[k]?=some L)(h1:aT f)(h2:f.1=n)(h3:0<k→¬(f.2.1=0∧f.2.2.length=0))(h4:L.length≤12000)(h5:k+1<F.length→L.length≠0)(h6:dQ L (L.length/6)):cS F S (k+1)=cnt (fun i=>L.getD i 0) n (L.length/6):=by
 have e1:F.getD k (0,0,[])=f:=by simp[List.getD,hf]
 have e2:S.getD k []=L:=by simp[List.getD,hL]
 simp only[cS,h,e1,e2]
 rw[if_pos ⟨h1,h2,h3,h4,h5,h6⟩]
open Classical in
theorem nS {F:List aF}{S:List (List Int)}{k:Nat}{n:Int}{f:aF}{L:List Int}(h:cS F S k=some n)(hf:F[k]?=some f)(hL:S[k]?=some L)(hn:¬(aT f∧f.1=n∧(0<k→¬(f.2.1=0∧f.2.2.length=0))∧L.length≤12000∧(k+1<F.length→L.length≠0)∧dQ L (L.length/6)∧cnt (fun i=>L.getD i 0) n (L.length/6)≠none)):¬bO F S:=by
 refine bO.no (k:=k+1) (List.getElem?_eq_some_iff.1 hf).1 ?_;have e1:F.getD k (0,0,[])=f:=by simp[List.getD,hf]
 have e2:S.getD k []=L:=by simp[List.getD,hL]
 simp only[cS,h,e1,e2]
 split
 ·rename_i hc
  exact byContradiction fun hx=>hn ⟨hc.1,hc.2.1,hc.2.2.1,hc.2.2.2.1,hc.2.2.2.2.1,hc.2.2.2.2.2,hx⟩
 ·rfl
end Go.Proofs.YtmnbgjnipbpiaaaGreatDoor
