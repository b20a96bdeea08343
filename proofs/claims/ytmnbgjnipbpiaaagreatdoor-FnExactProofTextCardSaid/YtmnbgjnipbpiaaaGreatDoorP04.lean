/- Walks and plain lemmas. -/
import Derived.Test.YtmnbgjnipbpiaaaGreatDoorP01
import Derived.Lib.MakeNoZero
import Derived.Laws.CopyOwn
import Derived.Deep.RegionHeld3
set_option linter.unusedVariables false
set_option linter.unusedSimpArgs false
set_option maxRecDepth 20000
namespace Go.Proofs.YtmnbgjnipbpiaaaGreatDoor
end Go.Proofs.YtmnbgjnipbpiaaaGreatDoor
namespace Go.Proofs.YtmnbgjnipbpiaaaGreatDoor
open Go.RowKit
end Go.Proofs.YtmnbgjnipbpiaaaGreatDoor
namespace Go.Proofs.YtmnbgjnipbpiaaaGreatDoor.G
def aB (n k i:Nat):Nat:=if 1≤k∧k<n then(if i+1=k then k else if i=k then k-1 else i)else i
theorem cH (n k i:Nat):aB n k (aB n k i)=i:=by
 unfold aB
 repeat' split
 all_goals omega
theorem fX {n k i:Nat}(h:n≤i):aB n k i=i:=by
 unfold aB
 repeat' split
 all_goals omega
structure PM (n:Nat) where
 f:Nat→Nat
 g:Nat→Nat
 gf:∀i,g (f i)=i
 fg:∀i,f (g i)=i
 out:∀i,n≤i→f i=i
theorem PM.ext {n:Nat}{p q:PM n}(h:∀i,p.f i=q.f i):p=q:=by
 obtain⟨f,g,gf,fg,o⟩:=p;obtain⟨f',g',xJ,fg',o'⟩:=q;have h1:f=f':=funext h;subst h1;have h2:g=g':=funext fun i=>by
  have:=xJ (g i);rw[fg]at this;exact this.symm
 subst h2
 rfl
theorem PM.jY {n:Nat}{p q:PM n}(h:∀i,i<n→p.f i=q.f i):p=q:=PM.ext fun i=>by
 by_cases hi:i<n
 ·exact h i hi
 ·rw[p.out i qo,q.out i qo]
theorem PM.inj {n:Nat}(p:PM n){i j:Nat}(h:p.f i=p.f j):i=j:=by rw[←p.gf i,h,p.gf]
theorem PM.sE {n:Nat}(p:PM n){i j:Nat}(h:p.g i=p.g j):i=j:=by rw[←p.fg i,h,p.fg]
theorem PM.pP {n:Nat}(p:PM n){i:Nat}(h:n≤i):p.g i=i:=by
 have h1:=p.gf i;rwa[p.out i h]at h1
theorem PM.lt {n:Nat}(p:PM n){i:Nat}(h:i<n):p.f i<n:=by
 refine Decidable.byContradiction fun hn=>?_;have h1:=p.out (p.f i) qo;have:=p.inj h1;omega
theorem PM.gY {n:Nat}(p:PM n){i:Nat}(h:i<n):p.g i<n:=by
 refine Decidable.byContradiction fun hn=>?_;have h1:=p.pP (i:=p.g i) qo;have:=p.sE h1;omega
def PM.b8 {n:Nat}(p:PM n)(k:Nat):PM n:=⟨fun i=>aB n k (p.f i),fun i=>p.g (aB n k i),fun i=>by rw[cH,p.gf],fun i=>by rw[p.fg,cH],fun i h=>by rw[p.out i h,fX h]⟩
def PM.b7 {n:Nat}(p:PM n)(k:Nat):PM n:=⟨fun i=>p.f (aB n k i),fun i=>aB n k (p.g i),fun i=>by rw[p.gf,cH],fun i=>by rw[cH,p.fg],fun i h=>by rw[fX h,p.out i h]⟩
def can {n:Nat}(p q:PM n)(k:Nat):Prop:=1≤k∧k<n∧p.g (k-1)<p.g k∧q.f k<q.f (k-1)
inductive Step {n:Nat}:List (PM n)→List (PM n)→Prop
 |here {p q:PM n} {k:Nat} {L:List (PM n)} (h:can p q k):Step (p::q::L) (p.b8 k::q.b7 k::L)
 |there {p:PM n} {L M:List (PM n)} (h:Step L M):Step (p::L) (p::M)
inductive Steps {n:Nat}:List (PM n)→List (PM n)→Prop
 |refl (L:List (PM n)):Steps L L
 |head {L M N:List (PM n)} (h:Step L M) (t:Steps M N):Steps L N
variable {n:Nat}
theorem Steps.trans {L M N:List (PM n)}(h:Steps L M)(t:Steps M N):Steps L N:=by
 induction h with
 |refl _=>exact t
 |head h _ ih=>exact .head h (ih t)
theorem Steps.one {L M:List (PM n)}(h:Step L M):Steps L M:=.head h (.refl _)
theorem Steps.there {p:PM n}{L M:List (PM n)}(h:Steps L M):Steps (p::L) (p::M):=by
 induction h with
 |refl _=>exact .refl _
 |head h _ ih=>exact .head (.there h) ih
theorem Steps.front {L M:List (PM n)}(P:List (PM n))(h:Steps L M):Steps (P++L) (P++M):=by
 induction P with
 |nil=>exact h
 |cons p P ih=>exact ih.there
theorem Step.back {L M:List (PM n)}(R:List (PM n))(h:Step L M):Step (L++R) (M++R):=by
 induction h with
 |here h=>exact .here h
 |there _ ih=>exact .there ih
theorem Steps.back {L M:List (PM n)}(R:List (PM n))(h:Steps L M):Steps (L++R) (M++R):=by
 induction h with
 |refl _=>exact .refl _
 |head h _ ih=>exact .head (h.back R) ih
theorem Step.length {L M:List (PM n)}(h:Step L M):M.length=L.length:=by
 induction h with
 |here _=>simp
 |there _ ih=>simp[ih]
theorem Steps.length {L M:List (PM n)}(h:Steps L M):M.length=L.length:=by
 induction h with
 |refl _=>rfl
 |head h _ ih=>rw[ih,h.length]
def cI (f:Nat→Nat):Nat→Nat
 |0=>0
 |i+1=>cI f i+i*f i
theorem mL {f h:Nat→Nat}{m:Nat}(e:∀i,i<m→f i=h i):cI f m=cI h m:=by
 induction m with
 |zero=>rfl
 |succ m ih=>simp only[cI];rw[ih fun i hi=>e i qo,e m qo]
theorem nK {f h:Nat→Nat}{k m:Nat}(hk:1≤k)(hm:k<m)(h1:h (k-1)=f k)(h2:h k=f (k-1))(e:∀i,i≠k-1→i≠k→h i=f i):cI h m+f k=cI f m+f (k-1):=by
 induction m with
 |zero=>omega
 |succ m ih=>
  by_cases hkm:k<m
  ·have:=ih hkm
   simp only[cI]
   rw[e m qo qo];omega
  ·obtain rfl:k=m:=qo
   obtain⟨j,rfl⟩:∃j,k=j+1:=⟨k-1,by omega⟩
   simp only[Nat.add_sub_cancel]at*
   have h3:cI h j=cI f j:=mL fun i hi=>e i qo qo
   simp only[cI]
   rw[h3,h1,h2,Nat.add_mul,Nat.add_mul];omega
theorem qT {f:Nat→Nat}{m b:Nat}(h:∀i,i<m→f i<b):cI f m≤m*m*b:=by
 have:∀j,j≤m→cI f j≤j*(m*b):=by
  intro j hj
  induction j with
  |zero=>simp[cI]
  |succ j ih=>
   have h1:=ih qo;have h2:j*f j≤m*b:=Nat.mul_le_mul qo (Nat.le_of_lt (h j qo))
   simp only[cI,Nat.add_mul,Nat.one_mul]
   omega
 have h2:=this m ql;rwa[←Nat.mul_assoc]at h2
def phi (p:PM n):Nat:=n*n*n-cI p.f n
def mu:List (PM n)→Nat
 |[]=>0
 |p::L=>phi p+(n*n*n+1)*mu L
theorem rQ (p:PM n):phi p≤n*n*n:=Nat.sub_le _ _
theorem rM (p:PM n):cI p.f n≤n*n*n:=qT fun _ hi=>p.lt hi
theorem eQ {q:PM n}{k:Nat}(hk:1≤k)(hn:k<n)(h:q.f k<q.f (k-1)):phi (q.b7 k)<phi q:=by
 have h1:cI (q.b7 k).f n+q.f k=cI q.f n+q.f (k-1):=by
  refine nK hk hn ?_ ?_ ?_
  ·show q.f (aB n k (k-1))=q.f k
   unfold aB;rw[if_pos ⟨hk,hn⟩,if_pos qo]
  ·show q.f (aB n k k)=q.f (k-1)
   unfold aB;rw[if_pos ⟨hk,hn⟩,if_neg qo,if_pos rfl]
  ·intro i h1 h2
   show q.f (aB n k i)=q.f i;unfold aB;rw[if_pos ⟨hk,hn⟩,if_neg qo,if_neg h2]
 have h2:=rM (q.b7 k);unfold phi;omega
theorem mu_step {L M:List (PM n)}(h:Step L M):mu M<mu L:=by
 induction h with
 |@here p q k L h=>
  obtain⟨hk,hn,_,h4⟩:=h;have h1:=eQ hk hn h4;have h2:=rQ (p.b8 k)
  simp only[mu]
  have h3:(n*n*n+1)*(phi (q.b7 k)+(n*n*n+1)*mu L)+(n*n*n+1)≤(n*n*n+1)*(phi q+(n*n*n+1)*mu L):=by
   rw[←Nat.mul_succ];exact Nat.mul_le_mul_left _ qo
  omega
 |@there p L M _ ih=>
  simp only[mu]
  have:(n*n*n+1)*mu M<(n*n*n+1)*mu L:=Nat.mul_lt_mul_of_pos_left ih qo;omega
theorem dX {k:Nat}(hk:1≤k)(hn:k<n):aB n k (k-1)=k∧aB n k k=k-1∧∀i,i≠k-1→i≠k→aB n k i=i:=by
 unfold aB;refine⟨?_,?_,?_⟩
 ·rw[if_pos ⟨hk,hn⟩,if_pos qo]
 ·rw[if_pos ⟨hk,hn⟩,if_neg qo,if_pos rfl]
 ·intro i h1 h2
  rw[if_pos ⟨hk,hn⟩,if_neg qo,if_neg h2]
theorem g5 (p:PM n){k:Nat}(hk:1≤k)(hn:k<n):(p.b8 k).g (k-1)=p.g k∧(p.b8 k).g k=p.g (k-1)∧∀i,i≠k-1→i≠k→(p.b8 k).g i=p.g i:=by
 obtain⟨h1,h2,h3⟩:=dX hk hn;refine⟨?_,?_,fun i ha hb=>?_⟩
 ·show p.g (aB n k (k-1))=_;rw[h1]
 ·show p.g (aB n k k)=_;rw[h2]
 ·show p.g (aB n k i)=_;rw[h3 i ha hb]
theorem g6 (q:PM n){k:Nat}(hk:1≤k)(hn:k<n):(q.b7 k).f (k-1)=q.f k∧(q.b7 k).f k=q.f (k-1)∧∀i,i≠k-1→i≠k→(q.b7 k).f i=q.f i:=by
 obtain⟨h1,h2,h3⟩:=dX hk hn;refine⟨?_,?_,fun i ha hb=>?_⟩
 ·show q.f (aB n k (k-1))=_;rw[h1]
 ·show q.f (aB n k k)=_;rw[h2]
 ·show q.f (aB n k i)=_;rw[h3 i ha hb]
theorem k8 {s t i:Nat}(h:s+1<t):aB n s (aB n t i)=aB n t (aB n s i):=by
 unfold aB
 repeat' split
 all_goals omega
theorem iV {n s i:Nat}:aB n s (aB n (s+1) (aB n s i))=aB n (s+1) (aB n s (aB n (s+1) i))∨¬(1≤s∧s+1<n):=by
 by_cases h:1≤s∧s+1<n
 ·left
  obtain⟨a1,a2,a3⟩:=dX (k:=s) (n:=n) h.1 qo;obtain⟨b1,b2,b3⟩:=dX (k:=s+1) (n:=n) qo h.2;rw[Nat.add_sub_cancel]at b1;rw[Nat.add_sub_cancel]at b2
  by_cases h1:i=s-1
  ·rw[h1,a1,b1,a3 _ qo qo,b3 (s-1) qo qo,a1,b1]
  by_cases h2:i=s
  ·rw[h2,a2,b3 (s-1) qo qo,a1,b1,a3 _ qo qo,b2]
  by_cases h3:i=s+1
  ·rw[h3,a3 (s+1) qo qo,b2,a2,b3 (s-1) qo qo]
  ·rw[a3 i h1 h2,b3 i (by rw[Nat.add_sub_cancel];exact h2) h3,a3 i h1 h2,b3 i (by rw[Nat.add_sub_cancel];exact h2) h3]
 ·exact .inr h
theorem q8 (p:PM n){s t:Nat}(h:s+1<t):(p.b8 s).b8 t=(p.b8 t).b8 s:=PM.ext fun i=>by
 show aB n t (aB n s (p.f i))=aB n s (aB n t (p.f i));rw[k8 h]
theorem qA (p:PM n){s t:Nat}(h:s+1<t):(p.b7 s).b7 t=(p.b7 t).b7 s:=PM.ext fun i=>by
 show p.f (aB n s (aB n t i))=p.f (aB n t (aB n s i));rw[k8 h]
theorem oT (p:PM n){s:Nat}(h:1≤s∧s+1<n):((p.b8 s).b8 (s+1)).b8 s=((p.b8 (s+1)).b8 s).b8 (s+1):=PM.ext fun i=>by
 show aB n s (aB n (s+1) (aB n s (p.f i)))=aB n (s+1) (aB n s (aB n (s+1) (p.f i)));exact iV.resolve_right fun hn=>hn h
theorem oU (p:PM n){s:Nat}(h:1≤s∧s+1<n):((p.b7 s).b7 (s+1)).b7 s=((p.b7 (s+1)).b7 s).b7 (s+1):=PM.ext fun i=>by
 show p.f (aB n s (aB n (s+1) (aB n s i)))=p.f (aB n (s+1) (aB n s (aB n (s+1) i)));rw[iV.resolve_right fun hn=>hn h]
def fE (A B:List (PM n)):Prop:=∃C,Steps A C∧Steps B C
theorem fE.symm {A B:List (PM n)}(h:fE A B):fE B A:=by
 obtain⟨C,h1,h2⟩:=h;exact⟨C,h2,h1⟩
theorem iY {p q:PM n}{L:List (PM n)}{s t:Nat}(hs:can p q s)(ht:can p q t)(hst:s<t):fE (p.b8 s::q.b7 s::L) (p.b8 t::q.b7 t::L):=by
 obtain⟨s1,s2,s3,s4⟩:=hs;obtain⟨t1,t2,t3,t4⟩:=ht
 by_cases hc:s+1<t
 ·refine⟨(p.b8 s).b8 t::(q.b7 s).b7 t::L,.one (.here ⟨t1,t2,?_,?_⟩),?_⟩
  ·obtain⟨_,_,h3⟩:=g5 p s1 s2
   rw[h3 _ qo qo,h3 _ qo qo];exact t3
  ·obtain⟨_,_,h3⟩:=g6 q s1 s2
   rw[h3 _ qo qo,h3 _ qo qo];exact t4
  ·rw[q8 p hc,qA q hc]
   refine .one (.here ⟨s1,s2,?_,?_⟩)
   ·obtain⟨_,_,h3⟩:=g5 p t1 t2
    rw[h3 _ qo qo,h3 _ qo qo];exact s3
   ·obtain⟨_,_,h3⟩:=g6 q t1 t2
    rw[h3 _ qo qo,h3 _ qo qo];exact s4
 ·obtain rfl:t=s+1:=qo
  have t3:p.g s<p.g (s+1):=t3;have t4:q.f (s+1)<q.f s:=t4;have hb:1≤s∧s+1<n:=⟨s1,t2⟩;refine⟨((p.b8 s).b8 (s+1)).b8 s::((q.b7 s).b7 (s+1)).b7 s::L,?_,?_⟩
  ·obtain⟨a1,a2,a3⟩:=g5 p s1 s2
   obtain⟨b1,b2,b3⟩:=g6 q s1 s2;obtain⟨c1,c2,c3⟩:=g5 (p.b8 s) t1 t2;obtain⟨d1,d2,d3⟩:=g6 (q.b7 s) t1 t2
   simp only[Nat.add_sub_cancel]at c1 c2 c3 d1 d2 d3
   refine .head (.here (k:=s+1) ⟨t1,t2,?_,?_⟩) (.one (.here (k:=s) ⟨s1,s2,?_,?_⟩))
   ·rw[Nat.add_sub_cancel,a2,a3 _ qo qo];omega
   ·rw[Nat.add_sub_cancel,b2,b3 _ qo qo];omega
   ·rw[c3 (s-1) qo qo,a1,c1,a3 _ qo qo];omega
   ·rw[d3 (s-1) qo qo,b1,d1,b3 _ qo qo];omega
  ·rw[oT p hb,oU q hb]
   obtain⟨a1,a2,a3⟩:=g5 p t1 t2;obtain⟨b1,b2,b3⟩:=g6 q t1 t2;obtain⟨c1,c2,c3⟩:=g5 (p.b8 (s+1)) s1 s2;obtain⟨d1,d2,d3⟩:=g6 (q.b7 (s+1)) s1 s2
   simp only[Nat.add_sub_cancel]at a1 a2 a3 b1 b2 b3
   refine .head (.here (k:=s) ⟨s1,s2,?_,?_⟩) (.one (.here (k:=s+1) ⟨t1,t2,?_,?_⟩))
   ·rw[a1,a3 _ qo qo];omega
   ·rw[b1,b3 _ qo qo];omega
   ·rw[Nat.add_sub_cancel,c2,a3 _ qo qo,c3 _ qo qo,a2];omega
   ·rw[Nat.add_sub_cancel,d2,b3 _ qo qo,d3 _ qo qo,b2];omega
theorem iZ {p q r:PM n}{L:List (PM n)}{s t:Nat}(hs:can p q s)(ht:can q r t):fE (p.b8 s::q.b7 s::r::L) (p::q.b8 t::r.b7 t::L):=by
 obtain⟨s1,s2,s3,s4⟩:=hs;obtain⟨t1,t2,t3,t4⟩:=ht;have hc:(q.b7 s).b8 t=(q.b8 t).b7 s:=PM.ext fun i=>rfl;refine⟨p.b8 s::(q.b7 s).b8 t::r.b7 t::L,.one (.there (.here ⟨t1,t2,?_,t4⟩)),?_⟩
 ·show aB n s (q.g (t-1))<aB n s (q.g t)
  have h1:q.f (q.g (t-1))=t-1:=q.fg _;have h2:q.f (q.g t)=t:=q.fg _;have h3:¬(q.g (t-1)=s-1∧q.g t=s):=fun⟨ha,hb⟩=>by
   rw[ha]at h1;rw[hb]at h2;omega
  unfold aB
  repeat' split
  all_goals omega
 ·rw[hc]
  refine .one (.here ⟨s1,s2,s3,?_⟩);show aB n t (q.f s)<aB n t (q.f (s-1));have h1:q.g (q.f (s-1))=s-1:=q.gf _;have h2:q.g (q.f s)=s:=q.gf _;have h3:¬(q.f (s-1)=t∧q.f s=t-1):=fun⟨ha,hb⟩=>by
   rw[ha]at h1;rw[hb]at h2;omega
  unfold aB
  repeat' split
  all_goals omega
theorem fE.there {p:PM n}{A B:List (PM n)}(h:fE A B):fE (p::A) (p::B):=by
 obtain⟨C,h1,h2⟩:=h;exact⟨p::C,h1.there,h2.there⟩
theorem meet {L A B:List (PM n)}(h1:Step L A)(h2:Step L B):fE A B:=by
 induction h1 generalizing B with
 |@here p q k L h=>
  cases h2 with
  |@here _ _ t _ h'=>
   rcases Nat.lt_trichotomy k t with hlt|rfl|hlt
   ·exact iY h h' hlt
   ·exact⟨_,.refl _,.refl _⟩
   ·exact(iY h' h hlt).symm
  |there h'=>
   cases h' with
   |here h''=>exact iZ h h''
   |@there _ _ M h''=>exact⟨p.b8 k::q.b7 k::M,.one (.there (.there h'')),.one (.here h)⟩
 |@there p L M h ih=>
  cases h2 with
  |@here _ q t L' h'=>
   cases h with
   |here h''=>exact(iZ h' h'').symm
   |@there _ _ M h''=>exact⟨p.b8 t::q.b7 t::M,.one (.here h'),.one (.there (.there h''))⟩
  |there h'=>exact(ih h').there
def Still (L:List (PM n)):Prop:=∀M,¬Step L M
theorem mW:∀(m:Nat) {L A B:List (PM n)},mu L≤m→Steps L A→Steps L B→Still A→Still B→A=B:=by
 intro m
 induction m with
 |zero=>
  intro L A B hm hA hB _ _
  cases hA with
  |head h _=>have:=mu_step h;omega
  |refl _=>
   cases hB with
   |head h _=>have:=mu_step h;omega
   |refl _=>rfl
 |succ m ih=>
  intro L A B hm hA hB sA sB
  cases hA with
  |refl _=>
   cases hB with
   |refl _=>rfl
   |head h _=>exact absurd h (sA _)
  |head h1 t1=>
   cases hB with
   |refl _=>exact absurd h1 (sB _)
   |head h2 t2=>
    obtain⟨C,c1,c2⟩:=meet h1 h2;obtain⟨D,d1,d2⟩:∃D,Steps C D∧Still D:=by
     have:∀(k:Nat) (C:List (PM n)),mu C≤k→∃D,Steps C D∧Still D:=by
      intro k
      induction k with
      |zero=>intro C hC;exact⟨C,.refl _,fun M h=>by have:=mu_step h;omega⟩
      |succ k ihk=>
       intro C hC
       by_cases hst:Still C
       ·exact⟨C,.refl _,hst⟩
       ·obtain⟨M,hM⟩:∃M,Step C M:=Classical.byContradiction fun hn=>hst fun M h=>hn ⟨M,h⟩
        obtain⟨D,hD,sD⟩:=ihk M (by have:=mu_step hM;omega);exact⟨D,.head hM hD,sD⟩
     exact this _ C ql
    have e1:=ih (by have:=mu_step h1;omega) t1 (c1.trans d1) sA d2;have e2:=ih (by have:=mu_step h2;omega) t2 (c2.trans d1) sB d2;rw[e1,e2]
theorem gI (L:List (PM n)):∃D,Steps L D∧Still D:=by
 have:∀(k:Nat) (C:List (PM n)),mu C≤k→∃D,Steps C D∧Still D:=by
  intro k
  induction k with
  |zero=>intro C hC;exact⟨C,.refl _,fun M h=>by have:=mu_step h;omega⟩
  |succ k ihk=>
   intro C hC
   by_cases hst:Still C
   ·exact⟨C,.refl _,hst⟩
   ·obtain⟨M,hM⟩:∃M,Step C M:=Classical.byContradiction fun hn=>hst fun M h=>hn ⟨M,h⟩
    obtain⟨D,hD,sD⟩:=ihk M (by have:=mu_step hM;omega);exact⟨D,.head hM hD,sD⟩
 exact this _ L ql
noncomputable def nf (L:List (PM n)):List (PM n):=Classical.choose (gI L)
theorem f7 (L:List (PM n)):Steps L (nf L):=(Classical.choose_spec (gI L)).1
theorem f6 (L:List (PM n)):Still (nf L):=(Classical.choose_spec (gI L)).2
theorem n2 {L N:List (PM n)}(h:Steps L N)(s:Still N):nf L=N:=mW _ ql (f7 L) h (f6 L) s
theorem r7 {L M:List (PM n)}(h:Steps L M):nf L=nf M:=n2 (h.trans (f7 M)) (f6 M)
def one:PM n:=⟨fun i=>i,fun i=>i,fun _=>rfl,fun _=>rfl,fun _ _=>rfl⟩
def rev (n i:Nat):Nat:=if i<n then n-1-i else i
theorem rev_rev (n i:Nat):rev n (rev n i)=i:=by
 unfold rev
 repeat' split
 all_goals omega
def del:PM n:=⟨rev n,rev n,rev_rev n,rev_rev n,fun i h=>by unfold rev;rw[if_neg qo]⟩
def PM.flip (p:PM n):PM n:=⟨fun i=>rev n (p.f (rev n i)),fun i=>rev n (p.g (rev n i)),fun i=>by rw[rev_rev,p.gf,rev_rev],fun i=>by rw[rev_rev,p.fg,rev_rev],fun i h=>by
 rw[show rev n i=i by unfold rev;rw[if_neg qo],p.out i h];unfold rev;rw[if_neg qo]⟩
def PM.mul (p q:PM n):PM n:=⟨fun i=>q.f (p.f i),fun i=>p.g (q.g i),fun i=>by rw[q.gf,p.gf],fun i=>by rw[p.fg,q.fg],fun i h=>by rw[p.out i h,q.out i h]⟩
theorem flip_flip (p:PM n):p.flip.flip=p:=PM.ext fun i=>by
 show rev n (rev n (p.f (rev n (rev n i))))=p.f i;rw[rev_rev,rev_rev]
theorem aK {i:Nat}(h:i<n):rev n i=n-1-i:=if_pos h
theorem lY {k i:Nat}(hk:1≤k)(hn:k<n):rev n (aB n k i)=aB n (n-k) (rev n i):=by
 by_cases hi:i<n
 ·obtain⟨a1,a2,a3⟩:=dX hk hn
  obtain⟨b1,b2,b3⟩:=dX (n:=n) (k:=n-k) qo qo
  by_cases h1:i=k-1
  ·rw[h1,a1,aK hn,aK qo,show n-1-(k-1)=n-k by omega,b2]
   omega
  by_cases h2:i=k
  ·rw[h2,a2,aK qo,aK hn,show n-1-k=n-k-1 by omega,b1]
   omega
  ·rw[a3 i h1 h2,aK hi,b3 _ qo qo]
 ·rw[fX qo,show rev n i=i by unfold rev;rw[if_neg hi],fX qo]
theorem pT (p:PM n){k:Nat}(hk:1≤k)(hn:k<n):(p.b8 k).flip=p.flip.b8 (n-k):=PM.ext fun i=>by
 show rev n (aB n k (p.f (rev n i)))=aB n (n-k) (rev n (p.f (rev n i)));rw[lY hk hn]
theorem pU (p:PM n){k:Nat}(hk:1≤k)(hn:k<n):(p.b7 k).flip=p.flip.b7 (n-k):=PM.ext fun i=>by
 show rev n (p.f (aB n k (rev n i)))=rev n (p.f (rev n (aB n (n-k) i)));rw[lY qo qo,show n-(n-k)=k by omega]
theorem q7 {p q:PM n}{k:Nat}(h:can p q k):can p.flip q.flip (n-k):=by
 obtain⟨h1,h2,h3,h4⟩:=h;refine⟨by omega,by omega,?_,?_⟩
 ·show rev n (p.g (rev n (n-k-1)))<rev n (p.g (rev n (n-k)))
  rw[aK (show n-k-1<n by omega),aK (show n-k<n by omega),show n-1-(n-k-1)=k by omega,show n-1-(n-k)=k-1 by omega,aK (p.gY h2),aK (p.gY qo)];have:=p.gY h2;omega
 ·show rev n (q.f (rev n (n-k)))<rev n (q.f (rev n (n-k-1)))
  rw[aK (show n-k-1<n by omega),aK (show n-k<n by omega),show n-1-(n-k-1)=k by omega,show n-1-(n-k)=k-1 by omega,aK (q.lt h2),aK (q.lt qo)];have:=q.lt (show k-1<n by omega);omega
theorem Step.flip {L M:List (PM n)}(h:Step L M):Step (L.map PM.flip) (M.map PM.flip):=by
 induction h with
 |@here p q k L h=>
  simp only[List.map_cons]
  rw[pT p h.1 h.2.1,pU q h.1 h.2.1];exact .here (q7 h)
 |there _ ih=>exact .there ih
theorem Steps.flip {L M:List (PM n)}(h:Steps L M):Steps (L.map PM.flip) (M.map PM.flip):=by
 induction h with
 |refl _=>exact .refl _
 |head h _ ih=>exact .head h.flip ih
theorem j0 (L:List (PM n)):(L.map PM.flip).map PM.flip=L:=by
 rw[List.map_map]
 conv=>rhs;rw[←List.map_id L]
 exact List.map_congr_left fun p _=>flip_flip p
theorem Still.flip {L:List (PM n)}(h:Still L):Still (L.map PM.flip):=fun _ hM=>h _ (by have:=hM.flip;rwa[j0]at this)
theorem Still.tail {p:PM n}{L:List (PM n)}(h:Still (p::L)):Still L:=fun _ hM=>h _ (.there hM)
theorem mU {p q:PM n}{L:List (PM n)}(h:Still (p::q::L))(k:Nat):¬can p q k:=fun hc=>h _ (.here hc)
theorem eY {p q:PM n}{L:List (PM n)}(h:∀k,¬can p q k)(hL:Still (q::L)):Still (p::q::L):=fun M hM=>by
 cases hM with
 |here hc=>exact h _ hc
 |there hs=>exact hL _ hs
theorem fK (p:PM n):Still [p]:=fun M hM=>by
 cases hM with
 |there hs=>cases hs
theorem Still.front {A B:List (PM n)}(h:Still (A++B)):Still A:=fun _ hM=>h _ (hM.back B)
theorem Step.ahead {L M:List (PM n)}(P:List (PM n))(h:Step L M):Step (P++L) (P++M):=by
 induction P with
 |nil=>exact h
 |cons p P ih=>exact .there ih
theorem Still.back {A B:List (PM n)}(h:Still (A++B)):Still B:=fun _ hM=>h _ (hM.ahead A)
theorem nV {q:PM n}(h:∀k,1≤k→k<n→¬q.f k<q.f (k-1)):q=one:=by
 have h1:∀i,i<n→i≤q.f i:=by
  intro i
  induction i with
  |zero=>intro _;exact Nat.zero_le _
  |succ i ih=>
   intro hi;have h2:=ih qo;have h3:=h (i+1) qo hi;rw[Nat.add_sub_cancel]at h3;have h4:q.f i≠q.f (i+1):=fun e=>by have:=q.inj e;omega
   omega
 have h2:∀j i,i+j+1=n→q.f i≤i:=by
  intro j
  induction j with
  |zero=>intro i hi;have:=q.lt (show i<n by omega);omega
  |succ j ih=>
   intro i hi;have h2:=ih (i+1) qo;have h3:=h (i+1) qo qo;rw[Nat.add_sub_cancel]at h3;have h4:q.f i≠q.f (i+1):=fun e=>by have:=q.inj e;omega
   omega
 exact PM.jY fun i hi=>by
  have:=h1 i hi;have:=h2 (n-1-i) i qo;show q.f i=i;omega
theorem nU (q:PM n):q=one∨∃k,1≤k∧k<n∧q.f k<q.f (k-1):=by
 by_cases h:∃k,1≤k∧k<n∧q.f k<q.f (k-1)
 ·exact .inr h
 ·exact .inl (nV fun k h1 h2 h3=>h ⟨k,h1,h2,h3⟩)
theorem oQ (p:PM n):p=del∨∃k,1≤k∧k<n∧p.g (k-1)<p.g k:=by
 by_cases h:∃k,1≤k∧k<n∧p.g (k-1)<p.g k
 ·exact .inr h
 refine .inl ?_
 let r:PM n:=⟨fun i=>rev n (p.g i),fun i=>p.f (rev n i),fun i=>by rw[rev_rev,p.fg],fun i=>by rw[p.gf,rev_rev],fun i hi=>by rw[p.pP hi];unfold rev;rw[if_neg qo]⟩
 have hr:r=one:=nV fun k h1 h2 h3=>by
  have h4:rev n (p.g k)<rev n (p.g (k-1)):=h3;rw[aK (p.gY h2),aK (p.gY qo)]at h4;have:=p.gY h2;exact h ⟨k,h1,h2,by omega⟩
 refine PM.ext fun i=>?_;have h1:r.f (p.f i)=p.f i:=by rw[hr];rfl
 have h2:rev n (p.g (p.f i))=p.f i:=h1;rw[p.gf]at h2;exact h2.symm
theorem lJ (q:PM n)(k:Nat):¬can del q k:=fun⟨h1,h2,h3,_⟩=>by
 have h4:rev n (k-1)<rev n k:=h3;rw[aK qo,aK h2]at h4;omega
theorem lI (p:PM n)(k:Nat):¬can p one k:=fun⟨h1,_,_,h4⟩=>by
 have h5:k<k-1:=h4;omega
theorem nP {L:List (PM n)}(h:Still L):Still (del::L):=by
 cases L with
 |nil=>exact fK _
 |cons q L=>exact eY (lJ q) h
theorem mV {L:List (PM n)}(h:Still L):Still (L++[one]):=by
 induction L with
 |nil=>exact fK _
 |cons p L ih=>
  cases L with
  |nil=>exact eY (lI p) (fK _)
  |cons q L=>exact eY (mU h) (ih h.tail)
theorem rU (L:List (PM n)):nf (del::L)=del::nf L:=n2 (f7 L).there (nP (f6 L))
theorem rT (L:List (PM n)):nf (L++[one])=nf L++[one]:=n2 ((f7 L).back _) (mV (f6 L))
def Red (p q:PM n):Prop:=∀i j,i<j→p.f j<p.f i→q.f (p.f j)<q.f (p.f i)
def yB (p q:PM n):Prop:=∀i j,i<j→j<n→p.f i<p.f j→q.f (p.f j)<q.f (p.f i)
theorem nO {k i j:Nat}(hk:1≤k)(hn:k<n)(h:aB n k i<aB n k j):i<j∨(i=k∧j=k-1):=by
 obtain⟨a1,a2,a3⟩:=dX hk hn
 by_cases i1:i=k-1
 ·by_cases j2:j=k
  ·omega
  ·by_cases j1:j=k-1
   ·rw[i1,j1]at h
    omega
   ·rw[i1,a1,a3 j j1 j2]at h
    omega
 ·by_cases i2:i=k
  ·by_cases j1:j=k-1
   ·omega
   ·by_cases j2:j=k
    ·rw[i2,j2]at h
     omega
    ·rw[i2,a2,a3 j j1 j2]at h
     omega
  ·rw[a3 i i1 i2]at h
   by_cases j1:j=k-1
   ·rw[j1,a1]at h
    omega
   ·by_cases j2:j=k
    ·rw[j2,a2]at h
     omega
    ·rw[a3 j j1 j2]at h
     omega
theorem nR:∀(m:Nat) (p q:PM n) (L:List (PM n)),phi q≤m→Red p q→Steps (p::q::L) (p.mul q::one::L):=by
 intro m
 induction m with
 |zero=>
  intro p q L hm hr
  rcases nU q with rfl|⟨k,h1,h2,h3⟩
  ·exact .refl _
  ·have:=eQ h1 h2 h3
   omega
 |succ m ih=>
  intro p q L hm hr
  rcases nU q with rfl|⟨k,h1,h2,h3⟩
  ·exact .refl _
  ·have h4:=eQ h1 h2 h3
   have hlt:p.g (k-1)<p.g k:=by
    refine Decidable.byContradiction fun hn=>?_;have hne:p.g k≠p.g (k-1):=fun e=>by have:=p.sE e;omega
    have h5:=hr (p.g k) (p.g (k-1)) qo (by rw[p.fg,p.fg];omega);rw[p.fg,p.fg]at h5;omega
   have h6:=ih (p.b8 k) (q.b7 k) L qo fun i j hij hlt2=>by
    show q.f (aB n k (aB n k (p.f j)))<q.f (aB n k (aB n k (p.f i)));rw[cH,cH]
    rcases nO h1 h2 hlt2 with h|⟨ha,hb⟩
    ·exact hr i j hij h
    ·rw[ha,hb]
     exact h3
   have h7:(p.b8 k).mul (q.b7 k)=p.mul q:=PM.ext fun i=>by
    show q.f (aB n k (aB n k (p.f i)))=q.f (p.f i);rw[cH]
   rw[h7]at h6;exact .head (.here ⟨h1,h2,hlt,h3⟩) h6
def PM.rest (p q:PM n):PM n:=⟨fun i=>q.f (p.f (rev n i)),fun i=>rev n (p.g (q.g i)),fun i=>by rw[q.gf,p.gf,rev_rev],fun i=>by rw[rev_rev,p.fg,q.fg],fun i h=>by
 rw[show rev n i=i by unfold rev;rw[if_neg qo],p.out i h,q.out i h]⟩
theorem oR:∀(m:Nat) (p q:PM n) (L:List (PM n)),phi q≤m→yB p q→Steps (p::q::L) (del::p.rest q::L):=by
 intro m
 induction m with
 |zero=>
  intro p q L hm hr
  rcases oQ p with rfl|⟨k,h1,h2,h3⟩
  ·rw[show PM.rest del q=q from PM.ext fun i=>by show q.f (rev n (rev n i))=q.f i;rw[rev_rev]]
   exact .refl _
  ·have h5:=hr (p.g (k-1)) (p.g k) h3 (p.gY h2) (by rw[p.fg,p.fg];omega)
   rw[p.fg,p.fg]at h5;have:=eQ h1 h2 h5;omega
 |succ m ih=>
  intro p q L hm hr
  rcases oQ p with rfl|⟨k,h1,h2,h3⟩
  ·rw[show PM.rest del q=q from PM.ext fun i=>by show q.f (rev n (rev n i))=q.f i;rw[rev_rev]]
   exact .refl _
  ·have h5:=hr (p.g (k-1)) (p.g k) h3 (p.gY h2) (by rw[p.fg,p.fg];omega)
   rw[p.fg,p.fg]at h5;have h4:=eQ h1 h2 h5;have h6:=ih (p.b8 k) (q.b7 k) L qo fun i j hij hj hlt2=>by
    show q.f (aB n k (aB n k (p.f j)))<q.f (aB n k (aB n k (p.f i)));rw[cH,cH]
    rcases nO h1 h2 hlt2 with h|⟨ha,hb⟩
    ·exact hr i j hij hj h
    ·have e1:p.g k=i:=by rw[←ha,p.gf]
     have e2:p.g (k-1)=j:=by rw[←hb,p.gf]
     rw[e1,e2]at h3;omega
   have h7:(p.b8 k).rest (q.b7 k)=p.rest q:=PM.ext fun i=>by
    show q.f (aB n k (aB n k (p.f (rev n i))))=q.f (p.f (rev n i));rw[cH]
   rw[h7]at h6;exact .head (.here ⟨h1,h2,h3,h5⟩) h6
theorem oP (p:PM n)(L:List (PM n)):Steps (p::del::L) (del::p.flip::L):=by
 have h:=oR _ p del L ql fun i j _ hj hlt=>by
  show rev n (p.f j)<rev n (p.f i);have:=p.lt hj;rw[aK this,aK qo];omega
 exact h
theorem rI (F R:List (PM n)):Steps (F++del::R) (del::(F.map PM.flip++R)):=by
 induction F with
 |nil=>exact .refl _
 |cons p F ih=>exact ih.there.trans (oP p _)
open Classical in
noncomputable def strip (L:List (PM n)):List (PM n):=L.filter fun p=>decide (p≠one∧p≠del)
open Classical in
noncomputable def cnt (L:List (PM n)):Nat:=(L.filter fun p=>decide (p≠one∧p=del)).length
theorem iW (A B:List (PM n)):strip (A++B)=strip A++strip B:=by simp[strip]
theorem mH (A B:List (PM n)):cnt (A++B)=cnt A+cnt B:=by simp[cnt]
theorem sI (hn:2≤n):(del:PM n)≠one:=fun e=>by
 have h1:(del:PM n).f 0=(one:PM n).f 0:=by rw[e]
 have h2:rev n 0=0:=h1;rw[aK qo]at h2;omega
theorem mT (a:Nat):strip (List.replicate a (del:PM n))=[]:=by
 unfold strip;rw[List.filter_eq_nil_iff];intro p hp;rw[(List.mem_replicate.1 hp).2]
 simp
theorem mS (b:Nat):strip (List.replicate b (one:PM n))=[]:=by
 unfold strip;rw[List.filter_eq_nil_iff];intro p hp;rw[(List.mem_replicate.1 hp).2]
 simp
theorem pY (b:Nat):cnt (List.replicate b (one:PM n))=0:=by
 unfold cnt;rw[List.length_eq_zero_iff,List.filter_eq_nil_iff];intro p hp;rw[(List.mem_replicate.1 hp).2]
 simp
theorem pZ (hn:2≤n)(a:Nat):cnt (List.replicate a (del:PM n))=a:=by
 unfold cnt;rw[List.filter_eq_self.2]
 ·simp
 ·intro p hp
  rw[(List.mem_replicate.1 hp).2]
  simp[sI hn]
def sig (n k:Nat):PM n:=(one:PM n).b8 k
def neg (n k:Nat):PM n:=(del:PM n).b8 k
def wl (n:Nat):List (PM n)→List Int→List (PM n)
 |L,[]=>L
 |L,x::w=>wl n (if 0<x then L++[sig n x.natAbs]else L.map PM.flip++[neg n x.natAbs]) w
def wp:Int→List Int→Int
 |P,[]=>P
 |P,x::w=>wp (if 0<x then P else P-1) w
noncomputable def act (n:Nat)(s:Int×List (PM n))(x:Int):Int×List (PM n):=
 if 0<x then(s.1+cnt (nf (s.2++[sig n x.natAbs])),strip (nf (s.2++[sig n x.natAbs])))
 else(s.1-1+cnt (nf (s.2.map PM.flip++[neg n x.natAbs])),strip (nf (s.2.map PM.flip++[neg n x.natAbs])))
noncomputable def nor (P:Int)(L:List (PM n)):Int×List (PM n):=(P+cnt (nf L),strip (nf L))
noncomputable def acts (n:Nat)(s:Int×List (PM n))(w:List Int):Int×List (PM n):=w.foldl (act n) s
theorem p5 (P:Int)(F:List (PM n)):nor P (F++[one])=nor P F:=by
 unfold nor;rw[rT,iW,mH,show[(one:PM n)]=List.replicate 1 one from rfl,mS,pY]
 simp
theorem pO (hn:2≤n)(P:Int)(F:List (PM n)):nor P (del::F)=nor (P+1) F:=by
 unfold nor;rw[rU,show del::nf F=List.replicate 1 del++nf F from rfl,iW,mH,mT,pZ hn]
 simp only[List.nil_append,Prod.mk.injEq,and_true]
 omega
theorem nX {L M:List (PM n)}(h:Steps L M)(P:Int):nor P L=nor P M:=by unfold nor;rw[r7 h]
theorem twist (hn:2≤n){p q:PM n}(h:p.mul q=del)(P:Int)(F:List (PM n)):nor P (F.map PM.flip++[p,q])=nor (P+1) F:=by
 have hr:Red p q:=fun i j hij hlt=>by
  have h1:∀i,q.f (p.f i)=rev n i:=fun i=>by
   have:(p.mul q).f i=(del:PM n).f i:=by rw[h]
   exact this
  rw[h1,h1];have hj:j<n:=Decidable.byContradiction fun hj=>by
   rw[p.out j qo]at hlt;have hi:i<n:=Decidable.byContradiction fun hi=>by rw[p.out i qo]at hlt;omega
   have:=p.lt hi;omega
  rw[aK hj,aK qo];omega
 have h1:=(nR _ p q [] ql hr).front (F.map PM.flip);rw[h]at h1;have h2:=rI (F.map PM.flip) [(one:PM n)];rw[j0]at h2;rw[nX (h1.trans h2),pO hn,p5]
def Word (n:Nat)(w:List Int):Prop:=∀x∈w,x≠0∧x.natAbs<n
def inv (w:List Int):List Int:=(w.map fun x=>-x).reverse
def PM.inv (p:PM n):PM n:=⟨p.g,p.f,p.fg,p.gf,fun _ h=>p.pP h⟩
def pl (p:PM n):List Int:=(List.range n).map fun i=>(p.f i:Int)
theorem a7 (p:PM n):(pl p).length=n:=by simp[pl]
theorem cC (p:PM n){i:Nat}(h:i<n):(pl p).getD i 0=(p.f i:Int):=by simp[pl,List.getD,h]
theorem dZ {p q:PM n}(h:pl p=pl q):p=q:=PM.jY fun i hi=>by
 have h1:=cC p hi;rw[h,cC q hi]at h1;omega
theorem qE {p:PM n}{L:List Int}(hl:L.length=n)(h:∀i,i<n→L.getD i 0=(p.f i:Int)):L=pl p:=by
 apply List.ext_getElem?
 intro i
 by_cases hi:i<n
 ·have h1:=h i hi
  rw[List.getElem?_eq_getElem qo,List.getElem?_eq_getElem (by rw[a7];exact hi)];have h2:=cC p hi
  simp only[List.getD,List.getElem?_eq_getElem (show i<L.length by omega),Option.getD_some]at h1
  simp only[List.getD,List.getElem?_eq_getElem (show i<(pl p).length by rw[a7];exact hi),Option.getD_some]at h2
  rw[h1,h2]
 ·rw[List.getElem?_eq_none qo,List.getElem?_eq_none (by rw[a7];omega)]
def bA (f:Nat→Nat):Nat→List Int
 |0=>[]
 |m+1=>bA f m++(if 1≤m∧f m<f (m-1)then [(m:Int)]else [])
theorem r8 {f:Nat→Nat}{m:Nat}{x:Int}:x∈bA f m↔∃k:Nat,x=k∧1≤k∧k<m∧f k<f (k-1):=by
 induction m with
 |zero=>
  constructor
  ·intro h;cases h
  ·rintro⟨k,_,_,h,_⟩;omega
 |succ m ih=>
  simp only[bA,List.mem_append]
  constructor
  ·rintro(h|h)
   ·obtain⟨k,h1,h2,h3,h4⟩:=ih.1 h
    exact⟨k,h1,h2,by omega,h4⟩
   ·split at h
    ·rename_i hc
     exact⟨m,List.mem_singleton.1 h,hc.1,by omega,hc.2⟩
    ·cases h
  ·rintro⟨k,h1,h2,h3,h4⟩
   by_cases hk:k<m
   ·exact .inl (ih.2 ⟨k,h1,h2,hk,h4⟩)
   ·obtain rfl:k=m:=qo
    right
    rw[if_pos ⟨h2,h4⟩];exact List.mem_singleton.2 h1
theorem cP (f:Nat→Nat)(m:Nat):(bA f m).length≤m:=by
 induction m with
 |zero=>exact Nat.le_refl _
 |succ m ih=>
  simp only[bA,List.length_append]
  split<;>simp<;>omega
def fm (E:List Int):List Int→Int
 |[]=>0
 |x::S=>if x∈E then fm E S else x
theorem gZ (E:List Int)(S R:List Int)(h:∀x∈S,x∈E):fm E (S++R)=fm E R:=by
 induction S with
 |nil=>rfl
 |cons x S ih=>
  simp only[List.cons_append,fm]
  rw[if_pos (h x List.mem_cons_self),ih fun y hy=>h y (List.mem_cons_of_mem _ hy)]
def ext (p q:PM n):Int:=fm (bA p.g n) (bA q.f n)
end Go.Proofs.YtmnbgjnipbpiaaaGreatDoor.G
