/- Walks and plain lemmas. -/
import Derived.Test.YtmnbgjnipbpiaaaGreatP01
import Derived.Lib.MakeNoZero
import Derived.Laws.CopyOwn
import Derived.Deep.RegionHeld3
set_option linter.unusedVariables false
set_option linter.unusedSimpArgs false
set_option maxRecDepth 20000
namespace Go.Proofs.YtmnbgjnipbpiaaaGreat
end Go.Proofs.YtmnbgjnipbpiaaaGreat
namespace Go.Proofs.YtmnbgjnipbpiaaaGreat
open Go.RowKit
end Go.Proofs.YtmnbgjnipbpiaaaGreat
namespace Go.Proofs.YtmnbgjnipbpiaaaGreat.G
def aE (n k i:Nat):Nat:=if 1≤k∧k<n then(if i+1=k then k else if i=k then k-1 else i)else i
theorem dB (n k i:Nat):aE n k (aE n k i)=i:=by
 unfold aE
 repeat' split
 all_goals omega
theorem mN {n k i:Nat}(h:n≤i):aE n k i=i:=by
 unfold aE
 repeat' split
 all_goals omega
structure PM (n:Nat) where
 f:Nat→Nat
 g:Nat→Nat
 gf:∀i,g (f i)=i
 fg:∀i,f (g i)=i
 out:∀i,n≤i→f i=i
theorem PM.ext {n:Nat}{p q:PM n}(h:∀i,p.f i=q.f i):p=q:=by
 obtain⟨f,g,gf,fg,o⟩:=p;obtain⟨f',g',OU,fg',o'⟩:=q;have h1:f=f':=funext h;subst h1;have h2:g=g':=funext fun i=>by
  have:=OU (g i);rw[fg]at this;exact this.symm
 subst h2
 rfl
theorem PM.rZ {n:Nat}{p q:PM n}(h:∀i,i<n→p.f i=q.f i):p=q:=PM.ext fun i=>by
 by_cases hi:i<n
 ·exact h i hi
 ·rw[p.out i qo,q.out i qo]
theorem PM.inj {n:Nat}(p:PM n){i j:Nat}(h:p.f i=p.f j):i=j:=by rw[←p.gf i,h,p.gf]
theorem PM.E6 {n:Nat}(p:PM n){i j:Nat}(h:p.g i=p.g j):i=j:=by rw[←p.fg i,h,p.fg]
theorem PM.E5 {n:Nat}(p:PM n){i:Nat}(h:n≤i):p.g i=i:=by
 have h1:=p.gf i;rwa[p.out i h]at h1
theorem PM.lt {n:Nat}(p:PM n){i:Nat}(h:i<n):p.f i<n:=by
 refine Decidable.byContradiction fun hn=>?_;have h1:=p.out (p.f i) qo;have:=p.inj h1;omega
theorem PM.oL {n:Nat}(p:PM n){i:Nat}(h:i<n):p.g i<n:=by
 refine Decidable.byContradiction fun hn=>?_;have h1:=p.E5 (i:=p.g i) qo;have:=p.E6 h1;omega
def PM.aM {n:Nat}(p:PM n)(k:Nat):PM n:=⟨fun i=>aE n k (p.f i),fun i=>p.g (aE n k i),fun i=>by rw[dB,p.gf],fun i=>by rw[p.fg,dB],fun i h=>by rw[p.out i h,mN h]⟩
def PM.aU {n:Nat}(p:PM n)(k:Nat):PM n:=⟨fun i=>p.f (aE n k i),fun i=>aE n k (p.g i),fun i=>by rw[p.gf,dB],fun i=>by rw[dB,p.fg],fun i h=>by rw[mN h,p.out i h]⟩
def can {n:Nat}(p q:PM n)(k:Nat):Prop:=1≤k∧k<n∧p.g (k-1)<p.g k∧q.f k<q.f (k-1)
inductive Step {n:Nat}:List (PM n)→List (PM n)→Prop
 |here {p q:PM n} {k:Nat} {L:List (PM n)} (h:can p q k):Step (p::q::L) (p.aM k::q.aU k::L)
 |there {p:PM n} {L M:List (PM n)} (h:Step L M):Step (p::L) (p::M)
inductive Steps {n:Nat}:List (PM n)→List (PM n)→Prop
 |refl (L:List (PM n)):Steps L L
 |head {L M N:List (PM n)} (h:Step L M) (t:Steps M N):Steps L N
variable {n:Nat}
theorem Steps.trans {L M N:List (PM n)}(h:Steps L M)(t:Steps M N):Steps L N:=by
 induction h with
 |refl _=>exact t
 |head h _ ih=>exact .head h (ih t)
theorem Steps.one {L M:List (PM n)}(h:Step L M):Steps L M:=.head h (.refl _)
theorem Steps.there {p:PM n}{L M:List (PM n)}(h:Steps L M):Steps (p::L) (p::M):=by
 induction h with
 |refl _=>exact .refl _
 |head h _ ih=>exact .head (.there h) ih
theorem Steps.front {L M:List (PM n)}(P:List (PM n))(h:Steps L M):Steps (P++L) (P++M):=by
 induction P with
 |nil=>exact h
 |cons p P ih=>exact ih.there
theorem Step.back {L M:List (PM n)}(R:List (PM n))(h:Step L M):Step (L++R) (M++R):=by
 induction h with
 |here h=>exact .here h
 |there _ ih=>exact .there ih
theorem Steps.back {L M:List (PM n)}(R:List (PM n))(h:Steps L M):Steps (L++R) (M++R):=by
 induction h with
 |refl _=>exact .refl _
 |head h _ ih=>exact .head (h.back R) ih
theorem Step.length {L M:List (PM n)}(h:Step L M):M.length=L.length:=by
 induction h with
 |here _=>simp
 |there _ ih=>simp[ih]
theorem Steps.length {L M:List (PM n)}(h:Steps L M):M.length=L.length:=by
 induction h with
 |refl _=>rfl
 |head h _ ih=>rw[ih,h.length]
def eG (f:Nat→Nat):Nat→Nat
 |0=>0
 |i+1=>eG f i+i*f i
theorem yY {f h:Nat→Nat}{m:Nat}(e:∀i,i<m→f i=h i):eG f m=eG h m:=by
 induction m with
 |zero=>rfl
 |succ m ih=>simp only[eG];rw[ih fun i hi=>e i qo,e m qo]
theorem AO {f h:Nat→Nat}{k m:Nat}(hk:1≤k)(hm:k<m)(h1:h (k-1)=f k)(h2:h k=f (k-1))(e:∀i,i≠k-1→i≠k→h i=f i):eG h m+f k=eG f m+f (k-1):=by
 induction m with
 |zero=>omega
 |succ m ih=>
  by_cases hkm:k<m
  ·have:=ih hkm
   simp only[eG]
   rw[e m qo qo];omega
  ·obtain rfl:k=m:=qo
   obtain⟨j,rfl⟩:∃j,k=j+1:=⟨k-1,by omega⟩
   simp only[Nat.add_sub_cancel]at*
   have h3:eG h j=eG f j:=yY fun i hi=>e i qo qo
   simp only[eG]
   rw[h3,h1,h2,Nat.add_mul,Nat.add_mul];omega
theorem FN {f:Nat→Nat}{m b:Nat}(h:∀i,i<m→f i<b):eG f m≤m*m*b:=by
 have:∀j,j≤m→eG f j≤j*(m*b):=by
  intro j hj
  induction j with
  |zero=>simp[eG]
  |succ j ih=>
   have h1:=ih qo;have h2:j*f j≤m*b:=Nat.mul_le_mul qo (Nat.le_of_lt (h j qo))
   simp only[eG,Nat.add_mul,Nat.one_mul]
   omega
 have h2:=this m ql;rwa[←Nat.mul_assoc]at h2
def phi (p:PM n):Nat:=n*n*n-eG p.f n
def mu:List (PM n)→Nat
 |[]=>0
 |p::L=>phi p+(n*n*n+1)*mu L
theorem GU (p:PM n):phi p≤n*n*n:=Nat.sub_le _ _
theorem GN (p:PM n):eG p.f n≤n*n*n:=FN fun _ hi=>p.lt hi
theorem jZ {q:PM n}{k:Nat}(hk:1≤k)(hn:k<n)(h:q.f k<q.f (k-1)):phi (q.aU k)<phi q:=by
 have h1:eG (q.aU k).f n+q.f k=eG q.f n+q.f (k-1):=by
  refine AO hk hn ?_ ?_ ?_
  ·show q.f (aE n k (k-1))=q.f k
   unfold aE;rw[if_pos ⟨hk,hn⟩,if_pos qo]
  ·show q.f (aE n k k)=q.f (k-1)
   unfold aE;rw[if_pos ⟨hk,hn⟩,if_neg qo,if_pos rfl]
  ·intro i h1 h2
   show q.f (aE n k i)=q.f i;unfold aE;rw[if_pos ⟨hk,hn⟩,if_neg qo,if_neg h2]
 have h2:=GN (q.aU k);unfold phi;omega
theorem mu_step {L M:List (PM n)}(h:Step L M):mu M<mu L:=by
 induction h with
 |@here p q k L h=>
  obtain⟨hk,hn,_,h4⟩:=h;have h1:=jZ hk hn h4;have h2:=GU (p.aM k)
  simp only[mu]
  have h3:(n*n*n+1)*(phi (q.aU k)+(n*n*n+1)*mu L)+(n*n*n+1)≤(n*n*n+1)*(phi q+(n*n*n+1)*mu L):=by
   rw[←Nat.mul_succ];exact Nat.mul_le_mul_left _ qo
  omega
 |@there p L M _ ih=>
  simp only[mu]
  have:(n*n*n+1)*mu M<(n*n*n+1)*mu L:=Nat.mul_lt_mul_of_pos_left ih qo;omega
theorem fP {k:Nat}(hk:1≤k)(hn:k<n):aE n k (k-1)=k∧aE n k k=k-1∧∀i,i≠k-1→i≠k→aE n k i=i:=by
 unfold aE;refine⟨?_,?_,?_⟩
 ·rw[if_pos ⟨hk,hn⟩,if_pos qo]
 ·rw[if_pos ⟨hk,hn⟩,if_neg qo,if_pos rfl]
 ·intro i h1 h2
  rw[if_pos ⟨hk,hn⟩,if_neg qo,if_neg h2]
theorem mS (p:PM n){k:Nat}(hk:1≤k)(hn:k<n):(p.aM k).g (k-1)=p.g k∧(p.aM k).g k=p.g (k-1)∧∀i,i≠k-1→i≠k→(p.aM k).g i=p.g i:=by
 obtain⟨h1,h2,h3⟩:=fP hk hn;refine⟨?_,?_,fun i ha hb=>?_⟩
 ·show p.g (aE n k (k-1))=_;rw[h1]
 ·show p.g (aE n k k)=_;rw[h2]
 ·show p.g (aE n k i)=_;rw[h3 i ha hb]
theorem l3 (q:PM n){k:Nat}(hk:1≤k)(hn:k<n):(q.aU k).f (k-1)=q.f k∧(q.aU k).f k=q.f (k-1)∧∀i,i≠k-1→i≠k→(q.aU k).f i=q.f i:=by
 obtain⟨h1,h2,h3⟩:=fP hk hn;refine⟨?_,?_,fun i ha hb=>?_⟩
 ·show q.f (aE n k (k-1))=_;rw[h1]
 ·show q.f (aE n k k)=_;rw[h2]
 ·show q.f (aE n k i)=_;rw[h3 i ha hb]
theorem sJ {s t i:Nat}(h:s+1<t):aE n s (aE n t i)=aE n t (aE n s i):=by
 unfold aE
 repeat' split
 all_goals omega
theorem qA {n s i:Nat}:aE n s (aE n (s+1) (aE n s i))=aE n (s+1) (aE n s (aE n (s+1) i))∨¬(1≤s∧s+1<n):=by
 by_cases h:1≤s∧s+1<n
 ·left
  obtain⟨a1,a2,a3⟩:=fP (k:=s) (n:=n) h.1 qo;obtain⟨b1,b2,b3⟩:=fP (k:=s+1) (n:=n) qo h.2;rw[Nat.add_sub_cancel]at b1;rw[Nat.add_sub_cancel]at b2
  by_cases h1:i=s-1
  ·rw[h1,a1,b1,a3 _ qo qo,b3 (s-1) qo qo,a1,b1]
  by_cases h2:i=s
  ·rw[h2,a2,b3 (s-1) qo qo,a1,b1,a3 _ qo qo,b2]
  by_cases h3:i=s+1
  ·rw[h3,a3 (s+1) qo qo,b2,a2,b3 (s-1) qo qo]
  ·rw[a3 i h1 h2,b3 i (by rw[Nat.add_sub_cancel];exact h2) h3,a3 i h1 h2,b3 i (by rw[Nat.add_sub_cancel];exact h2) h3]
 ·exact .inr h
theorem EL (p:PM n){s t:Nat}(h:s+1<t):(p.aM s).aM t=(p.aM t).aM s:=PM.ext fun i=>by
 show aE n t (aE n s (p.f i))=aE n s (aE n t (p.f i));rw[sJ h]
theorem EM (p:PM n){s t:Nat}(h:s+1<t):(p.aU s).aU t=(p.aU t).aU s:=PM.ext fun i=>by
 show p.f (aE n s (aE n t i))=p.f (aE n t (aE n s i));rw[sJ h]
theorem CC (p:PM n){s:Nat}(h:1≤s∧s+1<n):((p.aM s).aM (s+1)).aM s=((p.aM (s+1)).aM s).aM (s+1):=PM.ext fun i=>by
 show aE n s (aE n (s+1) (aE n s (p.f i)))=aE n (s+1) (aE n s (aE n (s+1) (p.f i)));exact qA.resolve_right fun hn=>hn h
theorem CD (p:PM n){s:Nat}(h:1≤s∧s+1<n):((p.aU s).aU (s+1)).aU s=((p.aU (s+1)).aU s).aU (s+1):=PM.ext fun i=>by
 show p.f (aE n s (aE n (s+1) (aE n s i)))=p.f (aE n (s+1) (aE n s (aE n (s+1) i)));rw[qA.resolve_right fun hn=>hn h]
def l6 (A B:List (PM n)):Prop:=∃C,Steps A C∧Steps B C
theorem l6.symm {A B:List (PM n)}(h:l6 A B):l6 B A:=by
 obtain⟨C,h1,h2⟩:=h;exact⟨C,h2,h1⟩
theorem qF {p q:PM n}{L:List (PM n)}{s t:Nat}(hs:can p q s)(ht:can p q t)(hst:s<t):l6 (p.aM s::q.aU s::L) (p.aM t::q.aU t::L):=by
 obtain⟨s1,s2,s3,s4⟩:=hs;obtain⟨t1,t2,t3,t4⟩:=ht
 by_cases hc:s+1<t
 ·refine⟨(p.aM s).aM t::(q.aU s).aU t::L,.one (.here ⟨t1,t2,?_,?_⟩),?_⟩
  ·obtain⟨_,_,h3⟩:=mS p s1 s2
   rw[h3 _ qo qo,h3 _ qo qo];exact t3
  ·obtain⟨_,_,h3⟩:=l3 q s1 s2
   rw[h3 _ qo qo,h3 _ qo qo];exact t4
  ·rw[EL p hc,EM q hc]
   refine .one (.here ⟨s1,s2,?_,?_⟩)
   ·obtain⟨_,_,h3⟩:=mS p t1 t2
    rw[h3 _ qo qo,h3 _ qo qo];exact s3
   ·obtain⟨_,_,h3⟩:=l3 q t1 t2
    rw[h3 _ qo qo,h3 _ qo qo];exact s4
 ·obtain rfl:t=s+1:=qo
  have t3:p.g s<p.g (s+1):=t3;have t4:q.f (s+1)<q.f s:=t4;have hb:1≤s∧s+1<n:=⟨s1,t2⟩;refine⟨((p.aM s).aM (s+1)).aM s::((q.aU s).aU (s+1)).aU s::L,?_,?_⟩
  ·obtain⟨a1,a2,a3⟩:=mS p s1 s2
   obtain⟨b1,b2,b3⟩:=l3 q s1 s2;obtain⟨c1,c2,c3⟩:=mS (p.aM s) t1 t2;obtain⟨d1,d2,d3⟩:=l3 (q.aU s) t1 t2
   simp only[Nat.add_sub_cancel]at c1 c2 c3 d1 d2 d3
   refine .head (.here (k:=s+1) ⟨t1,t2,?_,?_⟩) (.one (.here (k:=s) ⟨s1,s2,?_,?_⟩))
   ·rw[Nat.add_sub_cancel,a2,a3 _ qo qo];omega
   ·rw[Nat.add_sub_cancel,b2,b3 _ qo qo];omega
   ·rw[c3 (s-1) qo qo,a1,c1,a3 _ qo qo];omega
   ·rw[d3 (s-1) qo qo,b1,d1,b3 _ qo qo];omega
  ·rw[CC p hb,CD q hb]
   obtain⟨a1,a2,a3⟩:=mS p t1 t2;obtain⟨b1,b2,b3⟩:=l3 q t1 t2;obtain⟨c1,c2,c3⟩:=mS (p.aM (s+1)) s1 s2;obtain⟨d1,d2,d3⟩:=l3 (q.aU (s+1)) s1 s2
   simp only[Nat.add_sub_cancel]at a1 a2 a3 b1 b2 b3
   refine .head (.here (k:=s) ⟨s1,s2,?_,?_⟩) (.one (.here (k:=s+1) ⟨t1,t2,?_,?_⟩))
   ·rw[a1,a3 _ qo qo];omega
   ·rw[b1,b3 _ qo qo];omega
   ·rw[Nat.add_sub_cancel,c2,a3 _ qo qo,c3 _ qo qo,a2];omega
   ·rw[Nat.add_sub_cancel,d2,b3 _ qo qo,d3 _ qo qo,b2];omega
theorem qG {p q r:PM n}{L:List (PM n)}{s t:Nat}(hs:can p q s)(ht:can q r t):l6 (p.aM s::q.aU s::r::L) (p::q.aM t::r.aU t::L):=by
 obtain⟨s1,s2,s3,s4⟩:=hs;obtain⟨t1,t2,t3,t4⟩:=ht;have hc:(q.aU s).aM t=(q.aM t).aU s:=PM.ext fun i=>rfl;refine⟨p.aM s::(q.aU s).aM t::r.aU t::L,.one (.there (.here ⟨t1,t2,?_,t4⟩)),?_⟩
 ·show aE n s (q.g (t-1))<aE n s (q.g t)
  have h1:q.f (q.g (t-1))=t-1:=q.fg _;have h2:q.f (q.g t)=t:=q.fg _;have h3:¬(q.g (t-1)=s-1∧q.g t=s):=fun⟨ha,hb⟩=>by
   rw[ha]at h1;rw[hb]at h2;omega
  unfold aE
  repeat' split
  all_goals omega
 ·rw[hc]
  refine .one (.here ⟨s1,s2,s3,?_⟩);show aE n t (q.f s)<aE n t (q.f (s-1));have h1:q.g (q.f (s-1))=s-1:=q.gf _;have h2:q.g (q.f s)=s:=q.gf _;have h3:¬(q.f (s-1)=t∧q.f s=t-1):=fun⟨ha,hb⟩=>by
   rw[ha]at h1;rw[hb]at h2;omega
  unfold aE
  repeat' split
  all_goals omega
theorem l6.there {p:PM n}{A B:List (PM n)}(h:l6 A B):l6 (p::A) (p::B):=by
 obtain⟨C,h1,h2⟩:=h;exact⟨p::C,h1.there,h2.there⟩
theorem meet {L A B:List (PM n)}(h1:Step L A)(h2:Step L B):l6 A B:=by
 induction h1 generalizing B with
 |@here p q k L h=>
  cases h2 with
  |@here _ _ t _ h'=>
   rcases Nat.lt_trichotomy k t with hlt|rfl|hlt
   ·exact qF h h' hlt
   ·exact⟨_,.refl _,.refl _⟩
   ·exact(qF h' h hlt).symm
  |there h'=>
   cases h' with
   |here h''=>exact qG h h''
   |@there _ _ M h''=>exact⟨p.aM k::q.aU k::M,.one (.there (.there h'')),.one (.here h)⟩
 |@there p L M h ih=>
  cases h2 with
  |@here _ q t L' h'=>
   cases h with
   |here h''=>exact(qG h' h'').symm
   |@there _ _ M h''=>exact⟨p.aM t::q.aU t::M,.one (.here h'),.one (.there (.there h''))⟩
  |there h'=>exact(ih h').there
def Still (L:List (PM n)):Prop:=∀M,¬Step L M
theorem zG:∀(m:Nat) {L A B:List (PM n)},mu L≤m→Steps L A→Steps L B→Still A→Still B→A=B:=by
 intro m
 induction m with
 |zero=>
  intro L A B hm hA hB _ _
  cases hA with
  |head h _=>have:=mu_step h;omega
  |refl _=>
   cases hB with
   |head h _=>have:=mu_step h;omega
   |refl _=>rfl
 |succ m ih=>
  intro L A B hm hA hB sA sB
  cases hA with
  |refl _=>
   cases hB with
   |refl _=>rfl
   |head h _=>exact absurd h (sA _)
  |head h1 t1=>
   cases hB with
   |refl _=>exact absurd h1 (sB _)
   |head h2 t2=>
    obtain⟨C,c1,c2⟩:=meet h1 h2;obtain⟨D,d1,d2⟩:∃D,Steps C D∧Still D:=by
     have:∀(k:Nat) (C:List (PM n)),mu C≤k→∃D,Steps C D∧Still D:=by
      intro k
      induction k with
      |zero=>intro C hC;exact⟨C,.refl _,fun M h=>by have:=mu_step h;omega⟩
      |succ k ihk=>
       intro C hC
       by_cases hst:Still C
       ·exact⟨C,.refl _,hst⟩
       ·obtain⟨M,hM⟩:∃M,Step C M:=Classical.byContradiction fun hn=>hst fun M h=>hn ⟨M,h⟩
        obtain⟨D,hD,sD⟩:=ihk M (by have:=mu_step hM;omega);exact⟨D,.head hM hD,sD⟩
     exact this _ C ql
    have e1:=ih (by have:=mu_step h1;omega) t1 (c1.trans d1) sA d2;have e2:=ih (by have:=mu_step h2;omega) t2 (c2.trans d1) sB d2;rw[e1,e2]
theorem nN (L:List (PM n)):∃D,Steps L D∧Still D:=by
 have:∀(k:Nat) (C:List (PM n)),mu C≤k→∃D,Steps C D∧Still D:=by
  intro k
  induction k with
  |zero=>intro C hC;exact⟨C,.refl _,fun M h=>by have:=mu_step h;omega⟩
  |succ k ihk=>
   intro C hC
   by_cases hst:Still C
   ·exact⟨C,.refl _,hst⟩
   ·obtain⟨M,hM⟩:∃M,Step C M:=Classical.byContradiction fun hn=>hst fun M h=>hn ⟨M,h⟩
    obtain⟨D,hD,sD⟩:=ihk M (by have:=mu_step hM;omega);exact⟨D,.head hM hD,sD⟩
 exact this _ L ql
noncomputable def nf (L:List (PM n)):List (PM n):=Classical.choose (nN L)
theorem fG (L:List (PM n)):Steps L (nf L):=(Classical.choose_spec (nN L)).1
theorem eL (L:List (PM n)):Still (nf L):=(Classical.choose_spec (nN L)).2
theorem kX {L N:List (PM n)}(h:Steps L N)(s:Still N):nf L=N:=zG _ ql (fG L) h (eL L) s
theorem pJ {L M:List (PM n)}(h:Steps L M):nf L=nf M:=kX (h.trans (fG M)) (eL M)
theorem F5 {L:List (PM n)}(h:Still L):nf L=L:=kX (.refl _) h
theorem G4 (A B:List (PM n)):nf (nf A++B)=nf (A++B):=(pJ ((fG A).back B)).symm
theorem qD (L:List (PM n)):(nf L).length=L.length:=(fG L).length
def one:PM n:=⟨fun i=>i,fun i=>i,fun _=>rfl,fun _=>rfl,fun _ _=>rfl⟩
def rev (n i:Nat):Nat:=if i<n then n-1-i else i
theorem rev_rev (n i:Nat):rev n (rev n i)=i:=by
 unfold rev
 repeat' split
 all_goals omega
def del:PM n:=⟨rev n,rev n,rev_rev n,rev_rev n,fun i h=>by unfold rev;rw[if_neg qo]⟩
def PM.flip (p:PM n):PM n:=⟨fun i=>rev n (p.f (rev n i)),fun i=>rev n (p.g (rev n i)),fun i=>by rw[rev_rev,p.gf,rev_rev],fun i=>by rw[rev_rev,p.fg,rev_rev],fun i h=>by
 rw[show rev n i=i by unfold rev;rw[if_neg qo],p.out i h];unfold rev;rw[if_neg qo]⟩
def PM.mul (p q:PM n):PM n:=⟨fun i=>q.f (p.f i),fun i=>p.g (q.g i),fun i=>by rw[q.gf,p.gf],fun i=>by rw[p.fg,q.fg],fun i h=>by rw[p.out i h,q.out i h]⟩
theorem flip_flip (p:PM n):p.flip.flip=p:=PM.ext fun i=>by
 show rev n (rev n (p.f (rev n (rev n i))))=p.f i;rw[rev_rev,rev_rev]
theorem tT:(one:PM n).flip=one:=PM.ext fun i=>by
 show rev n (rev n i)=i;rw[rev_rev]
theorem tV:(del:PM n).flip=del:=PM.ext fun i=>by
 show rev n (rev n (rev n i))=rev n i;rw[rev_rev]
theorem tU {p q:PM n}(h:p.flip=q.flip):p=q:=by rw[←flip_flip p,h,flip_flip]
theorem aS {i:Nat}(h:i<n):rev n i=n-1-i:=if_pos h
theorem xL {k i:Nat}(hk:1≤k)(hn:k<n):rev n (aE n k i)=aE n (n-k) (rev n i):=by
 by_cases hi:i<n
 ·obtain⟨a1,a2,a3⟩:=fP hk hn
  obtain⟨b1,b2,b3⟩:=fP (n:=n) (k:=n-k) qo qo
  by_cases h1:i=k-1
  ·rw[h1,a1,aS hn,aS qo,show n-1-(k-1)=n-k by omega,b2]
   omega
  by_cases h2:i=k
  ·rw[h2,a2,aS qo,aS hn,show n-1-k=n-k-1 by omega,b1]
   omega
  ·rw[a3 i h1 h2,aS hi,b3 _ qo qo]
 ·rw[mN qo,show rev n i=i by unfold rev;rw[if_neg hi],mN qo]
theorem E8 (p:PM n){k:Nat}(hk:1≤k)(hn:k<n):(p.aM k).flip=p.flip.aM (n-k):=PM.ext fun i=>by
 show rev n (aE n k (p.f (rev n i)))=aE n (n-k) (rev n (p.f (rev n i)));rw[xL hk hn]
theorem E9 (p:PM n){k:Nat}(hk:1≤k)(hn:k<n):(p.aU k).flip=p.flip.aU (n-k):=PM.ext fun i=>by
 show rev n (p.f (aE n k (rev n i)))=rev n (p.f (rev n (aE n (n-k) i)));rw[xL qo qo,show n-(n-k)=k by omega]
theorem EI {p q:PM n}{k:Nat}(h:can p q k):can p.flip q.flip (n-k):=by
 obtain⟨h1,h2,h3,h4⟩:=h;refine⟨by omega,by omega,?_,?_⟩
 ·show rev n (p.g (rev n (n-k-1)))<rev n (p.g (rev n (n-k)))
  rw[aS (show n-k-1<n by omega),aS (show n-k<n by omega),show n-1-(n-k-1)=k by omega,show n-1-(n-k)=k-1 by omega,aS (p.oL h2),aS (p.oL qo)];have:=p.oL h2;omega
 ·show rev n (q.f (rev n (n-k)))<rev n (q.f (rev n (n-k-1)))
  rw[aS (show n-k-1<n by omega),aS (show n-k<n by omega),show n-1-(n-k-1)=k by omega,show n-1-(n-k)=k-1 by omega,aS (q.lt h2),aS (q.lt qo)];have:=q.lt (show k-1<n by omega);omega
theorem Step.flip {L M:List (PM n)}(h:Step L M):Step (L.map PM.flip) (M.map PM.flip):=by
 induction h with
 |@here p q k L h=>
  simp only[List.map_cons]
  rw[E8 p h.1 h.2.1,E9 q h.1 h.2.1];exact .here (EI h)
 |there _ ih=>exact .there ih
theorem Steps.flip {L M:List (PM n)}(h:Steps L M):Steps (L.map PM.flip) (M.map PM.flip):=by
 induction h with
 |refl _=>exact .refl _
 |head h _ ih=>exact .head h.flip ih
theorem qH (L:List (PM n)):(L.map PM.flip).map PM.flip=L:=by
 rw[List.map_map]
 conv=>rhs;rw[←List.map_id L]
 exact List.map_congr_left fun p _=>flip_flip p
theorem Still.flip {L:List (PM n)}(h:Still L):Still (L.map PM.flip):=fun _ hM=>h _ (by have:=hM.flip;rwa[qH]at this)
theorem G2 (L:List (PM n)):nf (L.map PM.flip)=(nf L).map PM.flip:=kX (fG L).flip (eL L).flip
theorem Still.tail {p:PM n}{L:List (PM n)}(h:Still (p::L)):Still L:=fun _ hM=>h _ (.there hM)
theorem kV {p q:PM n}{L:List (PM n)}(h:Still (p::q::L))(k:Nat):¬can p q k:=fun hc=>h _ (.here hc)
theorem iD {p q:PM n}{L:List (PM n)}(h:∀k,¬can p q k)(hL:Still (q::L)):Still (p::q::L):=fun M hM=>by
 cases hM with
 |here hc=>exact h _ hc
 |there hs=>exact hL _ hs
theorem lO:Still ([]:List (PM n)):=fun M hM=>by cases hM
theorem jC (p:PM n):Still [p]:=fun M hM=>by
 cases hM with
 |there hs=>cases hs
theorem Still.front {A B:List (PM n)}(h:Still (A++B)):Still A:=fun _ hM=>h _ (hM.back B)
theorem Step.ahead {L M:List (PM n)}(P:List (PM n))(h:Step L M):Step (P++L) (P++M):=by
 induction P with
 |nil=>exact h
 |cons p P ih=>exact .there ih
theorem Still.back {A B:List (PM n)}(h:Still (A++B)):Still B:=fun _ hM=>h _ (hM.ahead A)
theorem BF {q:PM n}(h:∀k,1≤k→k<n→¬q.f k<q.f (k-1)):q=one:=by
 have h1:∀i,i<n→i≤q.f i:=by
  intro i
  induction i with
  |zero=>intro _;exact Nat.zero_le _
  |succ i ih=>
   intro hi;have h2:=ih qo;have h3:=h (i+1) qo hi;rw[Nat.add_sub_cancel]at h3;have h4:q.f i≠q.f (i+1):=fun e=>by have:=q.inj e;omega
   omega
 have h2:∀j i,i+j+1=n→q.f i≤i:=by
  intro j
  induction j with
  |zero=>intro i hi;have:=q.lt (show i<n by omega);omega
  |succ j ih=>
   intro i hi;have h2:=ih (i+1) qo;have h3:=h (i+1) qo qo;rw[Nat.add_sub_cancel]at h3;have h4:q.f i≠q.f (i+1):=fun e=>by have:=q.inj e;omega
   omega
 exact PM.rZ fun i hi=>by
  have:=h1 i hi;have:=h2 (n-1-i) i qo;show q.f i=i;omega
theorem sX (q:PM n):q=one∨∃k,1≤k∧k<n∧q.f k<q.f (k-1):=by
 by_cases h:∃k,1≤k∧k<n∧q.f k<q.f (k-1)
 ·exact .inr h
 ·exact .inl (BF fun k h1 h2 h3=>h ⟨k,h1,h2,h3⟩)
theorem vB (p:PM n):p=del∨∃k,1≤k∧k<n∧p.g (k-1)<p.g k:=by
 by_cases h:∃k,1≤k∧k<n∧p.g (k-1)<p.g k
 ·exact .inr h
 refine .inl ?_
 let r:PM n:=⟨fun i=>rev n (p.g i),fun i=>p.f (rev n i),fun i=>by rw[rev_rev,p.fg],fun i=>by rw[p.gf,rev_rev],fun i hi=>by rw[p.E5 hi];unfold rev;rw[if_neg qo]⟩
 have hr:r=one:=BF fun k h1 h2 h3=>by
  have h4:rev n (p.g k)<rev n (p.g (k-1)):=h3;rw[aS (p.oL h2),aS (p.oL qo)]at h4;have:=p.oL h2;exact h ⟨k,h1,h2,by omega⟩
 refine PM.ext fun i=>?_;have h1:r.f (p.f i)=p.f i:=by rw[hr];rfl
 have h2:rev n (p.g (p.f i))=p.f i:=h1;rw[p.gf]at h2;exact h2.symm
theorem wV (q:PM n)(k:Nat):¬can del q k:=fun⟨h1,h2,h3,_⟩=>by
 have h4:rev n (k-1)<rev n k:=h3;rw[aS qo,aS h2]at h4;omega
theorem wU (p:PM n)(k:Nat):¬can p one k:=fun⟨h1,_,_,h4⟩=>by
 have h5:k<k-1:=h4;omega
theorem AW {L:List (PM n)}(h:Still L):Still (del::L):=by
 cases L with
 |nil=>exact jC _
 |cons q L=>exact iD (wV q) h
theorem zF {L:List (PM n)}(h:Still L):Still (L++[one]):=by
 induction L with
 |nil=>exact jC _
 |cons p L ih=>
  cases L with
  |nil=>exact iD (wU p) (jC _)
  |cons q L=>exact iD (kV h) (ih h.tail)
theorem BN (L:List (PM n)):nf (del::L)=del::nf L:=kX (fG L).there (AW (eL L))
theorem BM (L:List (PM n)):nf (L++[one])=nf L++[one]:=kX ((fG L).back _) (zF (eL L))
theorem G3 (a:Nat)(L:List (PM n)):nf (List.replicate a del++L)=List.replicate a del++nf L:=by
 induction a with
 |zero=>rfl
 |succ a ih=>simp only[List.replicate_succ,List.cons_append];rw[BN,ih]
theorem G1 (b:Nat)(L:List (PM n)):nf (L++List.replicate b one)=nf L++List.replicate b one:=by
 induction b with
 |zero=>simp
 |succ b ih=>
  rw[show(List.replicate (b+1) (one:PM n))=List.replicate b one++[one]from List.replicate_succ',←List.append_assoc,BM,ih,List.append_assoc]
def Red (p q:PM n):Prop:=∀i j,i<j→p.f j<p.f i→q.f (p.f j)<q.f (p.f i)
def Q4 (p q:PM n):Prop:=∀i j,i<j→j<n→p.f i<p.f j→q.f (p.f j)<q.f (p.f i)
theorem AT {k i j:Nat}(hk:1≤k)(hn:k<n)(h:aE n k i<aE n k j):i<j∨(i=k∧j=k-1):=by
 obtain⟨a1,a2,a3⟩:=fP hk hn
 by_cases i1:i=k-1
 ·by_cases j2:j=k
  ·omega
  ·by_cases j1:j=k-1
   ·rw[i1,j1]at h
    omega
   ·rw[i1,a1,a3 j j1 j2]at h
    omega
 ·by_cases i2:i=k
  ·by_cases j1:j=k-1
   ·omega
   ·by_cases j2:j=k
    ·rw[i2,j2]at h
     omega
    ·rw[i2,a2,a3 j j1 j2]at h
     omega
  ·rw[a3 i i1 i2]at h
   by_cases j1:j=k-1
   ·rw[j1,a1]at h
    omega
   ·by_cases j2:j=k
    ·rw[j2,a2]at h
     omega
    ·rw[a3 j j1 j2]at h
     omega
theorem qC:∀(m:Nat) (p q:PM n) (L:List (PM n)),phi q≤m→Red p q→Steps (p::q::L) (p.mul q::one::L):=by
 intro m
 induction m with
 |zero=>
  intro p q L hm hr
  rcases sX q with rfl|⟨k,h1,h2,h3⟩
  ·exact .refl _
  ·have:=jZ h1 h2 h3
   omega
 |succ m ih=>
  intro p q L hm hr
  rcases sX q with rfl|⟨k,h1,h2,h3⟩
  ·exact .refl _
  ·have h4:=jZ h1 h2 h3
   have hlt:p.g (k-1)<p.g k:=by
    refine Decidable.byContradiction fun hn=>?_;have hne:p.g k≠p.g (k-1):=fun e=>by have:=p.E6 e;omega
    have h5:=hr (p.g k) (p.g (k-1)) qo (by rw[p.fg,p.fg];omega);rw[p.fg,p.fg]at h5;omega
   have h6:=ih (p.aM k) (q.aU k) L qo fun i j hij hlt2=>by
    show q.f (aE n k (aE n k (p.f j)))<q.f (aE n k (aE n k (p.f i)));rw[dB,dB]
    rcases AT h1 h2 hlt2 with h|⟨ha,hb⟩
    ·exact hr i j hij h
    ·rw[ha,hb]
     exact h3
   have h7:(p.aM k).mul (q.aU k)=p.mul q:=PM.ext fun i=>by
    show q.f (aE n k (aE n k (p.f i)))=q.f (p.f i);rw[dB]
   rw[h7]at h6;exact .head (.here ⟨h1,h2,hlt,h3⟩) h6
def PM.rest (p q:PM n):PM n:=⟨fun i=>q.f (p.f (rev n i)),fun i=>rev n (p.g (q.g i)),fun i=>by rw[q.gf,p.gf,rev_rev],fun i=>by rw[rev_rev,p.fg,q.fg],fun i h=>by
 rw[show rev n i=i by unfold rev;rw[if_neg qo],p.out i h,q.out i h]⟩
theorem C9:∀(m:Nat) (p q:PM n) (L:List (PM n)),phi q≤m→Q4 p q→Steps (p::q::L) (del::p.rest q::L):=by
 intro m
 induction m with
 |zero=>
  intro p q L hm hr
  rcases vB p with rfl|⟨k,h1,h2,h3⟩
  ·rw[show PM.rest del q=q from PM.ext fun i=>by show q.f (rev n (rev n i))=q.f i;rw[rev_rev]]
   exact .refl _
  ·have h5:=hr (p.g (k-1)) (p.g k) h3 (p.oL h2) (by rw[p.fg,p.fg];omega)
   rw[p.fg,p.fg]at h5;have:=jZ h1 h2 h5;omega
 |succ m ih=>
  intro p q L hm hr
  rcases vB p with rfl|⟨k,h1,h2,h3⟩
  ·rw[show PM.rest del q=q from PM.ext fun i=>by show q.f (rev n (rev n i))=q.f i;rw[rev_rev]]
   exact .refl _
  ·have h5:=hr (p.g (k-1)) (p.g k) h3 (p.oL h2) (by rw[p.fg,p.fg];omega)
   rw[p.fg,p.fg]at h5;have h4:=jZ h1 h2 h5;have h6:=ih (p.aM k) (q.aU k) L qo fun i j hij hj hlt2=>by
    show q.f (aE n k (aE n k (p.f j)))<q.f (aE n k (aE n k (p.f i)));rw[dB,dB]
    rcases AT h1 h2 hlt2 with h|⟨ha,hb⟩
    ·exact hr i j hij hj h
    ·have e1:p.g k=i:=by rw[←ha,p.gf]
     have e2:p.g (k-1)=j:=by rw[←hb,p.gf]
     rw[e1,e2]at h3;omega
   have h7:(p.aM k).rest (q.aU k)=p.rest q:=PM.ext fun i=>by
    show q.f (aE n k (aE n k (p.f (rev n i))))=q.f (p.f (rev n i));rw[dB]
   rw[h7]at h6;exact .head (.here ⟨h1,h2,h3,h5⟩) h6
theorem BE (p:PM n)(L:List (PM n)):Steps (one::p::L) (p::one::L):=by
 have h:=qC _ one p L ql fun i j hij hlt=>by
  have:j<i:=hlt;omega
 exact h
theorem C6 (p:PM n)(L:List (PM n)):Steps (p::del::L) (del::p.flip::L):=by
 have h:=C9 _ p del L ql fun i j _ hj hlt=>by
  show rev n (p.f j)<rev n (p.f i);have:=p.lt hj;rw[aS this,aS qo];omega
 exact h
theorem GG (F R:List (PM n)):Steps (F++del::R) (del::(F.map PM.flip++R)):=by
 induction F with
 |nil=>exact .refl _
 |cons p F ih=>exact ih.there.trans (C6 p _)
theorem DP (b:Nat)(R:List (PM n)):Steps (List.replicate b one++R) (R++List.replicate b one):=by
 have h1:∀R:List (PM n),Steps (one::R) (R++[one]):=by
  intro R
  induction R with
  |nil=>exact .refl _
  |cons p R ih=>exact(BE p R).trans ih.there
 induction b with
 |zero=>simp only[List.replicate_zero,List.nil_append,List.append_nil];exact .refl _
 |succ b ih=>
  rw[List.replicate_succ,List.cons_append];refine(h1 _).trans ?_;have:=ih.back [one];rwa[List.append_assoc R,show List.replicate b (one:PM n)++[one]=one::List.replicate b one from by rw[←List.replicate_succ',List.replicate_succ]]at this
open Classical in
noncomputable def strip (L:List (PM n)):List (PM n):=L.filter fun p=>decide (p≠one∧p≠del)
open Classical in
noncomputable def cnt (L:List (PM n)):Nat:=(L.filter fun p=>decide (p≠one∧p=del)).length
theorem gU (A B:List (PM n)):strip (A++B)=strip A++strip B:=by simp[strip]
theorem iJ (A B:List (PM n)):cnt (A++B)=cnt A+cnt B:=by simp[cnt]
theorem C7 (hn:2≤n):(del:PM n)≠one:=fun e=>by
 have h1:(del:PM n).f 0=(one:PM n).f 0:=by rw[e]
 have h2:rev n 0=0:=h1;rw[aS qo]at h2;omega
theorem nZ (a:Nat):strip (List.replicate a (del:PM n))=[]:=by
 unfold strip;rw[List.filter_eq_nil_iff];intro p hp;rw[(List.mem_replicate.1 hp).2]
 simp
theorem kU (b:Nat):strip (List.replicate b (one:PM n))=[]:=by
 unfold strip;rw[List.filter_eq_nil_iff];intro p hp;rw[(List.mem_replicate.1 hp).2]
 simp
theorem nV (b:Nat):cnt (List.replicate b (one:PM n))=0:=by
 unfold cnt;rw[List.length_eq_zero_iff,List.filter_eq_nil_iff];intro p hp;rw[(List.mem_replicate.1 hp).2]
 simp
theorem nW (hn:2≤n)(a:Nat):cnt (List.replicate a (del:PM n))=a:=by
 unfold cnt;rw[List.filter_eq_self.2]
 ·simp
 ·intro p hp
  rw[(List.mem_replicate.1 hp).2]
  simp[C7 hn]
def Mid (L:List (PM n)):Prop:=∀p∈L,p≠one∧p≠del
theorem AV {L:List (PM n)}(h:Mid L):strip L=L:=by
 unfold strip;rw[List.filter_eq_self.2];intro p hp
 simp[h p hp]
theorem yC {L:List (PM n)}(h:Mid L):cnt L=0:=by
 unfold cnt;rw[List.length_eq_zero_iff,List.filter_eq_nil_iff];intro p hp
 simp[(h p hp).2]
theorem qE (L:List (PM n)):Mid (strip L):=fun p hp=>by
 unfold strip at hp
 simpa using(List.mem_filter.1 hp).2
theorem sO {p q:PM n}{L:List (PM n)}(h:Still (p::q::L))(hp:p≠del):q≠del:=fun e=>by
 subst e
 rcases vB p with h1|⟨k,h1,h2,h3⟩
 ·exact hp h1
 ·refine kV h k ⟨h1,h2,h3,?_⟩
  show rev n k<rev n (k-1);rw[aS h2,aS qo];omega
theorem sP {q:PM n}{L:List (PM n)}(h:Still (one::q::L)):q=one:=by
 rcases sX q with h1|⟨k,h1,h2,h3⟩
 ·exact h1
 ·exact absurd ⟨h1,h2,show k-1<k by omega,h3⟩ (kV h k)
theorem lN:∀{L:List (PM n)} {p:PM n},Still (p::L)→p≠del→∀q∈L,q≠del:=by
 intro L
 induction L with
 |nil=>intro p _ _ q hq;cases hq
 |cons r L ih=>
  intro p h hp q hq;have hr:=sO h hp
  rcases List.mem_cons.1 hq with rfl|hq
  ·exact hr
  ·exact ih h.tail hr q hq
theorem rF:∀{L:List (PM n)},Still (one::L)→L=List.replicate L.length one:=by
 intro L
 induction L with
 |nil=>intro _;rfl
 |cons r L ih=>
  intro h;have hr:=sP h;subst hr;rw[List.length_cons,List.replicate_succ,←ih h.tail]
theorem jB {L:List (PM n)}(h:Still L)(hd:∀p∈L,p≠del):∃b,L=strip L++List.replicate b one:=by
 induction L with
 |nil=>exact⟨0,by simp[strip]⟩
 |cons p L ih=>
  by_cases hp:p=one
  ·subst hp
   refine⟨(one::L).length,?_⟩;have h1:=rF h;have h2:(one:PM n)::L=List.replicate (one::L).length one:=by
    rw[List.length_cons,List.replicate_succ,←h1]
   have h3:strip (one::L)=[]:=by rw[h2,kU]
   rw[h3,List.nil_append];exact h2
  ·obtain⟨b,hb⟩:=ih h.tail fun q hq=>hd q (List.mem_cons_of_mem _ hq)
   refine⟨b,?_⟩;have h1:strip (p::L)=p::strip L:=by
    unfold strip;rw[List.filter_cons_of_pos]
    simp[hp,hd p List.mem_cons_self]
   rw[h1,List.cons_append,←hb]
theorem mY {L:List (PM n)}(h:Still L):∃a b,L=List.replicate a del++(strip L++List.replicate b one):=by
 induction L with
 |nil=>exact⟨0,0,by simp[strip]⟩
 |cons p L ih=>
  by_cases hp:p=del
  ·subst hp
   obtain⟨a,b,hb⟩:=ih h.tail;refine⟨a+1,b,?_⟩;have h1:strip (del::L)=strip L:=by
    unfold strip;rw[List.filter_cons_of_neg]
    simp
   rw[h1,List.replicate_succ,List.cons_append,←hb]
  ·obtain⟨b,hb⟩:=jB h fun q hq=>by
    rcases List.mem_cons.1 hq with rfl|hq
    ·exact hp
    ·exact lN h hp q hq
   exact⟨0,b,by simpa using hb⟩
theorem t6 (hn:2≤n)(L R:List (PM n)):∃b,nf (L++R)=List.replicate (cnt (nf L)) del++(nf (strip (nf L)++R)++List.replicate b one):=by
 obtain⟨a,b,h⟩:=mY (eL L);have ha:cnt (nf L)=a:=by
  rw[h,iJ,iJ,nW hn,yC (qE _),nV];omega
 refine⟨b,?_⟩;rw[←G4,ha]
 conv=>lhs;rw[h]
 rw[List.append_assoc,G3,List.append_assoc,pJ ((DP b R).front _),←List.append_assoc,G1]
theorem sN (hn:2≤n)(L R:List (PM n)):strip (nf (L++R))=strip (nf (strip (nf L)++R)):=by
 obtain⟨b,h⟩:=t6 hn L R;rw[h,gU,gU,nZ,kU,List.nil_append,List.append_nil]
theorem CA (hn:2≤n)(L R:List (PM n)):cnt (nf (L++R))=cnt (nf L)+cnt (nf (strip (nf L)++R)):=by
 obtain⟨b,h⟩:=t6 hn L R;rw[h,iJ,iJ,nW hn,nV];omega
theorem nA {p:PM n}:p.flip=one↔p=one:=⟨fun h=>tU (h.trans tT.symm),fun h=>by rw[h,tT]⟩
theorem nB {p:PM n}:p.flip=del↔p=del:=⟨fun h=>tU (h.trans tV.symm),fun h=>by rw[h,tV]⟩
theorem zE (L:List (PM n)):strip (L.map PM.flip)=(strip L).map PM.flip:=by
 unfold strip;rw[List.filter_map]
 congr 1
 apply List.filter_congr
 intro p _
 simp[nA,nB]
theorem EG (L:List (PM n)):cnt (L.map PM.flip)=cnt L:=by
 unfold cnt;rw[List.filter_map,List.length_map]
 congr 1
 apply List.filter_congr
 intro p _
 simp[nA,nB]
def sig (n k:Nat):PM n:=(one:PM n).aM k
def neg (n k:Nat):PM n:=(del:PM n).aM k
def wl (n:Nat):List (PM n)→List Int→List (PM n)
 |L,[]=>L
 |L,x::w=>wl n (if 0<x then L++[sig n x.natAbs]else L.map PM.flip++[neg n x.natAbs]) w
def wp:Int→List Int→Int
 |P,[]=>P
 |P,x::w=>wp (if 0<x then P else P-1) w
noncomputable def act (n:Nat)(s:Int×List (PM n))(x:Int):Int×List (PM n):=
 if 0<x then(s.1+cnt (nf (s.2++[sig n x.natAbs])),strip (nf (s.2++[sig n x.natAbs])))
 else(s.1-1+cnt (nf (s.2.map PM.flip++[neg n x.natAbs])),strip (nf (s.2.map PM.flip++[neg n x.natAbs])))
noncomputable def nor (P:Int)(L:List (PM n)):Int×List (PM n):=(P+cnt (nf L),strip (nf L))
noncomputable def acts (n:Nat)(s:Int×List (PM n))(w:List Int):Int×List (PM n):=w.foldl (act n) s
theorem yF (hn:2≤n)(P:Int)(L:List (PM n))(x:Int):act n (nor P L) x=nor (if 0<x then P else P-1) (if 0<x then L++[sig n x.natAbs]else L.map PM.flip++[neg n x.natAbs]):=by
 unfold act nor
 by_cases h:0<x
 ·rw[if_pos h,if_pos h,if_pos h,sN hn L,CA hn L]
  simp only[Prod.mk.injEq,and_true]
  omega
 ·rw[if_neg h,if_neg h,if_neg h,sN hn (L.map PM.flip),CA hn (L.map PM.flip),G2,zE,EG]
  simp only[Prod.mk.injEq,and_true]
  omega
theorem EN (hn:2≤n)(w:List Int):∀(P:Int) (L:List (PM n)),acts n (nor P L) w=nor (wp P w) (wl n L w):=by
 induction w with
 |nil=>intro P L;rfl
 |cons x w ih=>intro P L;simp only[acts,List.foldl_cons,wp,wl];rw[yF hn];exact ih _ _
theorem xQ (P:Int):nor P ([]:List (PM n))=(P,[]):=by
 unfold nor;rw[F5 lO]
 simp[strip,cnt]
theorem DC (hn:2≤n)(w:List Int):acts n (0,[]) w=nor (wp 0 w) (wl n [] w):=by
 rw[←xQ];exact EN hn w 0 []
def Good (s:Int×List (PM n)):Prop:=Still s.2∧Mid s.2
theorem tO (P:Int)(L:List (PM n)):Good (nor P L):=by
 refine⟨?_,qE _⟩;obtain⟨a,b,h⟩:=mY (eL L);have:=eL L;rw[h]at this;exact this.back.front
theorem sZ {s:Int×List (PM n)}(h:Good s):nor s.1 s.2=s:=by
 unfold nor;rw[F5 h.1,yC h.2,AV h.2]
 simp
theorem tQ (s:Int×List (PM n))(x:Int):Good (act n s x):=by
 unfold act
 split
 ·exact tO (n:=n) 0 _
 ·exact tO (n:=n) 0 _
theorem C2 {s:Int×List (PM n)}(h:Good s)(w:List Int):Good (acts n s w):=by
 induction w generalizing s with
 |nil=>exact h
 |cons x w ih=>exact ih (tQ s x)
theorem DG (P:Int)(F:List (PM n)):nor P (F++[one])=nor P F:=by
 unfold nor;rw[BM,gU,iJ,show[(one:PM n)]=List.replicate 1 one from rfl,kU,nV]
 simp
theorem E4 (hn:2≤n)(P:Int)(F:List (PM n)):nor P (del::F)=nor (P+1) F:=by
 unfold nor;rw[BN,show del::nf F=List.replicate 1 del++nf F from rfl,gU,iJ,nZ,nW hn]
 simp only[List.nil_append,Prod.mk.injEq,and_true]
 omega
theorem BH {L M:List (PM n)}(h:Steps L M)(P:Int):nor P L=nor P M:=by unfold nor;rw[pJ h]
theorem F2 (hn:2≤n){p q:PM n}(h:p.mul q=del)(P:Int)(F:List (PM n)):nor P (F.map PM.flip++[p,q])=nor (P+1) F:=by
 have hr:Red p q:=fun i j hij hlt=>by
  have h1:∀i,q.f (p.f i)=rev n i:=fun i=>by
   have:(p.mul q).f i=(del:PM n).f i:=by rw[h]
   exact this
  rw[h1,h1];have hj:j<n:=Decidable.byContradiction fun hj=>by
   rw[p.out j qo]at hlt;have hi:i<n:=Decidable.byContradiction fun hi=>by rw[p.out i qo]at hlt;omega
   have:=p.lt hi;omega
  rw[aS hj,aS qo];omega
 have h1:=(qC _ p q [] ql hr).front (F.map PM.flip);rw[h]at h1;have h2:=GG (F.map PM.flip) [(one:PM n)];rw[qH]at h2;rw[BH (h1.trans h2),E4 hn,DG]
theorem EO (s:Int×List (PM n))(hs:Good s){x:Int}(hx:x≠0)(hn:x.natAbs<n):act n (act n s x) (-x)=s:=by
 have h2:2≤n:=qo;rw[show act n s x=nor (if 0<x then s.1 else s.1-1) (if 0<x then s.2++[sig n x.natAbs]else s.2.map PM.flip++[neg n x.natAbs])by unfold act nor;split<;>rfl,yF h2,Int.natAbs_neg]
 by_cases h:0<x
 ·rw[if_pos h,if_pos h,if_neg qo,if_neg qo,List.map_append,List.append_assoc]
  have hm:((sig n x.natAbs).flip).mul (neg n x.natAbs)=del:=PM.ext fun i=>by
   show aE n x.natAbs (rev n (rev n (aE n x.natAbs (rev n i))))=rev n i;rw[rev_rev,dB]
  have:=F2 h2 hm (s.1-1) s.2;rw[List.map_cons,List.map_nil];rw[show[(sig n x.natAbs).flip]++[neg n x.natAbs]=[(sig n x.natAbs).flip,neg n x.natAbs]from rfl,this,Int.sub_add_cancel];exact sZ hs
 ·rw[if_neg h,if_neg h,if_pos qo,if_pos qo,List.append_assoc]
  have hm:(neg n x.natAbs).mul (sig n x.natAbs)=del:=PM.ext fun i=>by
   show aE n x.natAbs (aE n x.natAbs (rev n i))=rev n i;rw[dB]
  have:=F2 h2 hm (s.1-1) s.2;rw[show[neg n x.natAbs]++[sig n x.natAbs]=[neg n x.natAbs,sig n x.natAbs]from rfl,this,Int.sub_add_cancel];exact sZ hs
def Word (n:Nat)(w:List Int):Prop:=∀x∈w,x≠0∧x.natAbs<n
def inv (w:List Int):List Int:=(w.map fun x=>-x).reverse
theorem DU (x:Int)(w:List Int):inv (x::w)=inv w++[-x]:=by simp[inv]
theorem nX (s:Int×List (PM n))(v w:List Int):acts n s (v++w)=acts n (acts n s v) w:=List.foldl_append
theorem vM {w:List Int}(hw:Word n w):∀{s:Int×List (PM n)},Good s→acts n (acts n s w) (inv w)=s:=by
 induction w with
 |nil=>intro s _;rfl
 |cons x w ih=>
  intro s hs;rw[DU,nX];show acts n (acts n (acts n (act n s x) w) (inv w)) [-x]=s;rw[ih (fun y hy=>hw y (List.mem_cons_of_mem _ hy)) (tQ s x)];have:=hw x List.mem_cons_self;exact EO s hs this.1 this.2
theorem inv_inv (w:List Int):inv (inv w)=w:=by
 simp[inv,List.map_reverse,List.map_map,Function.comp_def]
theorem sC {w:List Int}(h:Word n w):Word n (inv w):=fun x hx=>by
 unfold inv at hx;rw[List.mem_reverse,List.mem_map]at hx;obtain⟨y,hy,rfl⟩:=hx;have:=h y hy;omega
theorem tP:Good ((0,[]):Int×List (PM n)):=⟨lO,fun p hp=>by cases hp⟩
theorem same_iff {a b:List Int}(hb:Word n b):acts n (0,[]) (a++inv b)=(0,[])↔acts n (0,[]) a=acts n (0,[]) b:=by
 rw[nX]
 constructor
 ·intro h
  have h1:=vM (sC hb) (C2 (n:=n) tP a);rw[h,inv_inv]at h1;exact h1.symm
 ·intro h
  rw[h];exact vM hb tP
def PM.inv (p:PM n):PM n:=⟨p.g,p.f,p.fg,p.gf,fun _ h=>p.E5 h⟩
def pl (p:PM n):List Int:=(List.range n).map fun i=>(p.f i:Int)
theorem a6 (p:PM n):(pl p).length=n:=by simp[pl]
theorem bO (p:PM n){i:Nat}(h:i<n):(pl p).getD i 0=(p.f i:Int):=by simp[pl,List.getD,h]
theorem f8 {p q:PM n}(h:pl p=pl q):p=q:=PM.rZ fun i hi=>by
 have h1:=bO p hi;rw[h,bO q hi]at h1;omega
theorem zK {p:PM n}{L:List Int}(hl:L.length=n)(h:∀i,i<n→L.getD i 0=(p.f i:Int)):L=pl p:=by
 apply List.ext_getElem?
 intro i
 by_cases hi:i<n
 ·have h1:=h i hi
  rw[List.getElem?_eq_getElem qo,List.getElem?_eq_getElem (by rw[a6];exact hi)];have h2:=bO p hi
  simp only[List.getD,List.getElem?_eq_getElem (show i<L.length by omega),Option.getD_some]at h1
  simp only[List.getD,List.getElem?_eq_getElem (show i<(pl p).length by rw[a6];exact hi),Option.getD_some]at h2
  rw[h1,h2]
 ·rw[List.getElem?_eq_none qo,List.getElem?_eq_none (by rw[a6];omega)]
def bN (f:Nat→Nat):Nat→List Int
 |0=>[]
 |m+1=>bN f m++(if 1≤m∧f m<f (m-1)then [(m:Int)]else [])
theorem iH {f:Nat→Nat}{m:Nat}{x:Int}:x∈bN f m↔∃k:Nat,x=k∧1≤k∧k<m∧f k<f (k-1):=by
 induction m with
 |zero=>
  constructor
  ·intro h;cases h
  ·rintro⟨k,_,_,h,_⟩;omega
 |succ m ih=>
  simp only[bN,List.mem_append]
  constructor
  ·rintro(h|h)
   ·obtain⟨k,h1,h2,h3,h4⟩:=ih.1 h
    exact⟨k,h1,h2,by omega,h4⟩
   ·split at h
    ·rename_i hc
     exact⟨m,List.mem_singleton.1 h,hc.1,by omega,hc.2⟩
    ·cases h
  ·rintro⟨k,h1,h2,h3,h4⟩
   by_cases hk:k<m
   ·exact .inl (ih.2 ⟨k,h1,h2,hk,h4⟩)
   ·obtain rfl:k=m:=qo
    right
    rw[if_pos ⟨h2,h4⟩];exact List.mem_singleton.2 h1
theorem eT (f:Nat→Nat)(m:Nat):(bN f m).length≤m:=by
 induction m with
 |zero=>exact Nat.le_refl _
 |succ m ih=>
  simp only[bN,List.length_append]
  split<;>simp<;>omega
def fm (E:List Int):List Int→Int
 |[]=>0
 |x::S=>if x∈E then fm E S else x
theorem oM (E:List Int)(S R:List Int)(h:∀x∈S,x∈E):fm E (S++R)=fm E R:=by
 induction S with
 |nil=>rfl
 |cons x S ih=>
  simp only[List.cons_append,fm]
  rw[if_pos (h x List.mem_cons_self),ih fun y hy=>h y (List.mem_cons_of_mem _ hy)]
theorem E7 (E S:List Int):(fm E S=0∧∀x∈S,x∈E∨x=0)∨(fm E S∈S∧fm E S∉E):=by
 induction S with
 |nil=>exact .inl ⟨rfl,fun x hx=>by cases hx⟩
 |cons x S ih=>
  simp only[fm]
  by_cases h:x∈E
  ·rw[if_pos h]
   rcases ih with⟨h1,h2⟩|⟨h1,h2⟩
   ·refine .inl ⟨h1,fun y hy=>?_⟩
    rcases List.mem_cons.1 hy with rfl|hy
    ·exact .inl h
    ·exact h2 y hy
   ·exact .inr ⟨List.mem_cons_of_mem _ h1,h2⟩
  ·rw[if_neg h]
   exact .inr ⟨List.mem_cons_self,h⟩
def ext (p q:PM n):Int:=fm (bN p.g n) (bN q.f n)
theorem yD {p q:PM n}{k:Nat}:can p q k↔(k:Int)∈bN q.f n∧(k:Int)∉bN p.g n:=by
 constructor
 ·rintro⟨h1,h2,h3,h4⟩
  refine⟨iH.2 ⟨k,rfl,h1,h2,h4⟩,fun h=>?_⟩;obtain⟨j,e,_,_,h5⟩:=iH.1 h;obtain rfl:k=j:=qo;omega
 ·rintro⟨h1,h2⟩
  obtain⟨j,e,h3,h4,h5⟩:=iH.1 h1;obtain rfl:k=j:=qo;refine⟨h3,h4,?_,h5⟩;have h6:¬p.g k<p.g (k-1):=fun h=>h2 (iH.2 ⟨k,rfl,h3,h4,h⟩);have h7:p.g k≠p.g (k-1):=fun e=>by have:=p.E6 e;omega
  omega
theorem qO (p q:PM n):(ext p q=0∧∀k,¬can p q k)∨∃k:Nat,ext p q=k∧can p q k:=by
 rcases E7 (bN p.g n) (bN q.f n)with⟨h1,h2⟩|⟨h1,h2⟩
 ·refine .inl ⟨h1,fun k hk=>?_⟩
  obtain⟨h3,h4⟩:=yD.1 hk
  rcases h2 _ h3 with h5|h5
  ·exact h4 h5
  ·have:=hk.1
   omega
 ·obtain⟨k,e,_⟩:=iH.1 h1
  refine .inr ⟨k,e,yD.2 ⟨?_,?_⟩⟩
  ·rw[←e];exact h1
  ·rw[←e];exact h2
theorem EH {p q:PM n}(h:can p q 0):False:=by have:=h.1;omega
theorem EC {p q:PM n}(h:ext p q=0):∀k,¬can p q k:=by
 rcases qO p q with⟨_,h2⟩|⟨k,e,hk⟩
 ·exact h2
 ·rw[h]at e
  obtain rfl:k=0:=qo;exact(EH hk).elim
theorem yB {p q:PM n}(h:ext p q≠0):∃k:Nat,ext p q=k∧can p q k:=by
 rcases qO p q with⟨h1,_⟩|h2
 ·exact absurd h1 h
 ·exact h2
def gM (L:List (PM n))(i:Nat):Prop:=∀j,j+1<L.length→j<i→∀p q,L[j]?=some p→L[j+1]?=some q→ext p q=0
theorem mZ {L:List (PM n)}(h:gM L L.length):Still L:=by
 have:∀(A B:List (PM n)),L=A++B→Still B:=by
  intro A B
  induction B generalizing A with
  |nil=>intro _;exact lO
  |cons p B ih=>
   intro e;have h1:=ih (A++[p]) (by simp[e])
   cases B with
   |nil=>exact jC p
   |cons q B=>
    refine iD (EC (h A.length (by rw[e];simp) (by rw[e];simp) p q (by rw[e];simp) (by rw[e];simp))) h1
 exact this [] L rfl
theorem FU {L:List (PM n)}{j k:Nat}{p q:PM n}(hp:L[j]?=some p)(hq:L[j+1]?=some q)(h:can p q k):Step L ((L.set j (p.aM k)).set (j+1) (q.aU k)):=by
 have hj:j+1<L.length:=(List.getElem?_eq_some_iff.1 hq).1;have e:L=L.take j++p::q::L.drop (j+2):=by
  rw[List.getElem?_eq_getElem qo]at hp;rw[List.getElem?_eq_getElem qo]at hq;injection hp with hp;injection hq with hq;rw[←hp,←hq,←List.drop_eq_getElem_cons,←List.drop_eq_getElem_cons,List.take_append_drop]
 have h1:=(Step.here (L:=L.drop (j+2)) h).ahead (L.take j);rw[←e]at h1;have e2:(L.set j (p.aM k)).set (j+1) (q.aU k)=L.take j++p.aM k::q.aU k::L.drop (j+2):=by
  conv=>lhs;rw[e]
  have hl:(L.take j).length=j:=by rw[List.length_take];omega
  rw[List.set_append_right _ _ qo,hl,Nat.sub_self,List.set_cons_zero,List.set_append_right _ _ qo,hl,show j+1-j=1 by omega,List.set_cons_succ,List.set_cons_zero]
 rw[e2];exact h1
def cC (out:List Int)(x:Int):List Int:=if out≠[]∧out.getLast?.getD 0= -x then out.dropLast else out++[x]
def red (w:List Int):List Int:=w.foldl cC []
def mT (w:List Int):Prop:=∀j,j+1<w.length→w.getD j 0≠ -(w.getD (j+1) 0)
theorem zI {out:List Int}(h:mT out)(x:Int):mT (cC out x):=by
 unfold cC
 split
 ·intro j hj
  rw[List.length_dropLast]at hj;have h1:=h j qo
  simp only[List.getD,List.getElem?_dropLast]
  rw[if_pos qo,if_pos qo];exact h1
 ·rename_i hn
  intro j hj;rw[List.length_append,List.length_singleton]at hj
  by_cases hj2:j+1<out.length
  ·have h1:=h j hj2
   simp only[List.getD]
   rw[List.getElem?_append_left qo,List.getElem?_append_left hj2];exact h1
  ·have e:j+1=out.length:=qo
   intro e2;have h3:(out++[x]).getD (j+1) 0=x:=by simp[List.getD,e]
   have h4:(out++[x]).getD j 0=out.getLast?.getD 0:=by
    simp only[List.getD]
    rw[List.getElem?_append_left qo,List.getLast?_eq_getElem?,show out.length-1=j by omega]
   rw[h3,h4]at e2;exact hn ⟨fun h0=>by rw[h0]at e;simp at e,e2⟩
theorem zJ {out:List Int}(h:mT out)(w:List Int):mT (w.foldl cC out):=by
 induction w generalizing out with
 |nil=>exact h
 |cons x w ih=>exact ih (zI h x)
theorem GS (w:List Int):mT (red w):=zJ (fun j hj=>by simp at hj) w
theorem GB (out w:List Int)(h:mT (out++w)):w.foldl cC out=out++w:=by
 induction w generalizing out with
 |nil=>simp
 |cons x w ih=>
  rw[List.foldl_cons];have hs:cC out x=out++[x]:=by
   unfold cC;rw[if_neg];rintro⟨h0,h1⟩;have hl:0<out.length:=List.length_pos_iff.2 h0;refine h (out.length-1) (by simp;omega) ?_;have h3:(out++x::w).getD (out.length-1+1) 0=x:=by
    simp only[List.getD]
    rw[show out.length-1+1=out.length by omega,List.getElem?_append_right ql]
    simp
   have h4:(out++x::w).getD (out.length-1) 0=out.getLast?.getD 0:=by
    simp only[List.getD]
    rw[List.getElem?_append_left qo,List.getLast?_eq_getElem?]
   rw[h3,h4];exact h1
  rw[hs,ih (out++[x]) (by simpa using h)]
  simp
theorem FY (w:List Int):red (red w)=red w:=by
 have:=GB [] (red w) (by simpa using GS w)
 simpa [red]using this
theorem DJ (w:List Int)(x:Int):red (red w++[x])=red (w++[x]):=by
 have h:∀v:List Int,red (v++[x])=cC (red v) x:=fun v=>by simp[red,List.foldl_append]
 rw[h,h,FY]
theorem wS (out:List Int)(x:Int):(cC out x).length≤out.length+1:=by
 unfold cC
 split<;>simp<;>omega
theorem fQ (w:List Int):(red w).length≤w.length:=by
 have:∀(w out:List Int),(w.foldl cC out).length≤out.length+w.length:=by
  intro w
  induction w with
  |nil=>intro out;simp
  |cons x w ih=>
   intro out;have h1:=ih (cC out x);have h2:=wS out x
   simp only[List.foldl_cons,List.length_cons]
   omega
 simpa [red]using this w []
theorem DK {out:List Int}{x y:Int}(h:y∈cC out x):y∈out∨y=x:=by
 unfold cC at h
 split at h
 ·exact .inl ((List.dropLast_sublist out).subset h)
 ·rcases List.mem_append.1 h with h|h
  ·exact .inl h
  ·exact .inr (List.mem_singleton.1 h)
theorem pH {w:List Int}{y:Int}(h:y∈red w):y∈w:=by
 have:∀(w out:List Int),y∈w.foldl cC out→y∈out∨y∈w:=by
  intro w
  induction w with
  |nil=>intro out h;exact .inl h
  |cons x w ih=>
   intro out h
   rcases ih _ h with h|h
   ·rcases DK h with h|h
    ·exact .inl h
    ·exact .inr (h▸List.mem_cons_self)
   ·exact .inr (List.mem_cons_of_mem _ h)
 rcases this w [] h with h|h
 ·cases h
 ·exact h
end Go.Proofs.YtmnbgjnipbpiaaaGreat.G
