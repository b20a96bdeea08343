/- Walks and plain lemmas. -/
import Derived.Test.YtdnmhhohcedjbaaGreatQ12
import Derived.Handy
set_option linter.unusedVariables false
set_option linter.unusedSimpArgs false
set_option maxHeartbeats 4000000
set_option maxRecDepth 20000
namespace Go.Proofs.YtdnmhhohcedjbaaGreat.G
def bR (n k i:Nat):Nat:=if 1≤k∧k<n then(if i+1=k then k else if i=k then k-1 else i)else i
theorem lQ (n k i:Nat):bR n k (bR n k i)=i:=by
 unfold bR
 repeat' split
 all_goals omega
theorem JN {n k i:Nat}(h:n≤i):bR n k i=i:=by
 unfold bR
 repeat' split
 all_goals omega
structure PM (n:Nat) where
 f:Nat→Nat
 g:Nat→Nat
 gf:∀i,g (f i)=i
 fg:∀i,f (g i)=i
 out:∀i,n≤i→f i=i
theorem PM.ext {n:Nat}{p q:PM n}(h:∀i,p.f i=q.f i):p=q:=by
 obtain⟨f,g,gf,fg,o⟩:=p;obtain⟨f',g',gf',fg',o'⟩:=q;have h1:f=f':=funext h;subst h1;have h2:g=g':=funext fun i=>by
  have:=gf' (g i);rw[fg]at this;exact this.symm
 subst h2
 rfl
theorem PM.Yw {n:Nat}{p q:PM n}(h:∀i,i<n→p.f i=q.f i):p=q:=PM.ext fun i=>by
 by_cases hi:i<n
 ·exact h i hi
 ·rw[p.out i qo,q.out i qo]
theorem PM.inj {n:Nat}(p:PM n){i j:Nat}(h:p.f i=p.f j):i=j:=by rw[←p.gf i,h,p.gf]
theorem PM.Tc {n:Nat}(p:PM n){i j:Nat}(h:p.g i=p.g j):i=j:=by rw[←p.fg i,h,p.fg]
theorem PM.Ta {n:Nat}(p:PM n){i:Nat}(h:n≤i):p.g i=i:=by
 have h1:=p.gf i;rwa[p.out i h]at h1
theorem PM.lt {n:Nat}(p:PM n){i:Nat}(h:i<n):p.f i<n:=by
 refine Decidable.byContradiction fun hn=>?_;have h1:=p.out (p.f i) qo;have:=p.inj h1;omega
theorem PM.OQ {n:Nat}(p:PM n){i:Nat}(h:i<n):p.g i<n:=by
 refine Decidable.byContradiction fun hn=>?_;have h1:=p.Ta (i:=p.g i) qo;have:=p.Tc h1;omega
def PM.dB {n:Nat}(p:PM n)(k:Nat):PM n:=⟨fun i=>bR n k (p.f i),fun i=>p.g (bR n k i),fun i=>by rw[lQ,p.gf],fun i=>by rw[p.fg,lQ],fun i h=>by rw[p.out i h,JN h]⟩
def PM.eA {n:Nat}(p:PM n)(k:Nat):PM n:=⟨fun i=>p.f (bR n k i),fun i=>bR n k (p.g i),fun i=>by rw[p.gf,lQ],fun i=>by rw[lQ,p.fg],fun i h=>by rw[JN h,p.out i h]⟩
def can {n:Nat}(p q:PM n)(k:Nat):Prop:=1≤k∧k<n∧p.g (k-1)<p.g k∧q.f k<q.f (k-1)
inductive Step {n:Nat}:List (PM n)→List (PM n)→Prop
 |here {p q:PM n} {k:Nat} {L:List (PM n)} (h:can p q k):Step (p::q::L) (p.dB k::q.eA k::L)
 |there {p:PM n} {L M:List (PM n)} (h:Step L M):Step (p::L) (p::M)
inductive Steps {n:Nat}:List (PM n)→List (PM n)→Prop
 |refl (L:List (PM n)):Steps L L
 |head {L M N:List (PM n)} (h:Step L M) (t:Steps M N):Steps L N
variable {n:Nat}
theorem Steps.trans {L M N:List (PM n)}(h:Steps L M)(t:Steps M N):Steps L N:=by
 induction h with
 |refl _=>exact t
 |head h _ ih=>exact .head h (ih t)
theorem Steps.one {L M:List (PM n)}(h:Step L M):Steps L M:=.head h (.refl _)
theorem Steps.there {p:PM n}{L M:List (PM n)}(h:Steps L M):Steps (p::L) (p::M):=by
 induction h with
 |refl _=>exact .refl _
 |head h _ ih=>exact .head (.there h) ih
theorem Steps.front {L M:List (PM n)}(P:List (PM n))(h:Steps L M):Steps (P++L) (P++M):=by
 induction P with
 |nil=>exact h
 |cons p P ih=>exact ih.there
theorem Step.back {L M:List (PM n)}(R:List (PM n))(h:Step L M):Step (L++R) (M++R):=by
 induction h with
 |here h=>exact .here h
 |there _ ih=>exact .there ih
theorem Steps.back {L M:List (PM n)}(R:List (PM n))(h:Steps L M):Steps (L++R) (M++R):=by
 induction h with
 |refl _=>exact .refl _
 |head h _ ih=>exact .head (h.back R) ih
theorem Step.length {L M:List (PM n)}(h:Step L M):M.length=L.length:=by
 induction h with
 |here _=>simp
 |there _ ih=>simp[ih]
theorem Steps.length {L M:List (PM n)}(h:Steps L M):M.length=L.length:=by
 induction h with
 |refl _=>rfl
 |head h _ ih=>rw[ih,h.length]
def oD (f:Nat→Nat):Nat→Nat
 |0=>0
 |i+1=>oD f i+i*f i
theorem acS {f h:Nat→Nat}{m:Nat}(e:∀i,i<m→f i=h i):oD f m=oD h m:=by
 induction m with
 |zero=>rfl
 |succ m ih=>simp only[oD];rw[ih fun i hi=>e i qo,e m qo]
theorem Gu {f h:Nat→Nat}{k m:Nat}(hk:1≤k)(hm:k<m)(h1:h (k-1)=f k)(h2:h k=f (k-1))(e:∀i,i≠k-1→i≠k→h i=f i):oD h m+f k=oD f m+f (k-1):=by
 induction m with
 |zero=>omega
 |succ m ih=>
  by_cases hkm:k<m
  ·have:=ih hkm
   simp only[oD]
   rw[e m qo qo];omega
  ·obtain rfl:k=m:=qo
   obtain⟨j,rfl⟩:∃j,k=j+1:=⟨k-1,by omega⟩
   simp only[Nat.add_sub_cancel]at*
   have h3:oD h j=oD f j:=acS fun i hi=>e i qo qo
   simp only[oD]
   rw[h3,h1,h2,Nat.add_mul,Nat.add_mul];omega
theorem aam {f:Nat→Nat}{m b:Nat}(h:∀i,i<m→f i<b):oD f m≤m*m*b:=by
 have:∀j,j≤m→oD f j≤j*(m*b):=by
  intro j hj
  induction j with
  |zero=>simp[oD]
  |succ j ih=>
   have h1:=ih qo;have h2:j*f j≤m*b:=Nat.mul_le_mul qo (Nat.le_of_lt (h j qo))
   simp only[oD,Nat.add_mul,Nat.one_mul]
   omega
 have h2:=this m ql;rwa[←Nat.mul_assoc]at h2
def phi (p:PM n):Nat:=n*n*n-oD p.f n
def mu:List (PM n)→Nat
 |[]=>0
 |p::L=>phi p+(n*n*n+1)*mu L
theorem ab1 (p:PM n):phi p≤n*n*n:=Nat.sub_le _ _
theorem abn (p:PM n):oD p.f n≤n*n*n:=aam fun _ hi=>p.lt hi
theorem DI {q:PM n}{k:Nat}(hk:1≤k)(hn:k<n)(h:q.f k<q.f (k-1)):phi (q.eA k)<phi q:=by
 have h1:oD (q.eA k).f n+q.f k=oD q.f n+q.f (k-1):=by
  refine Gu hk hn ?_ ?_ ?_
  ·show q.f (bR n k (k-1))=q.f k
   unfold bR;rw[if_pos ⟨hk,hn⟩,if_pos qo]
  ·show q.f (bR n k k)=q.f (k-1)
   unfold bR;rw[if_pos ⟨hk,hn⟩,if_neg qo,if_pos rfl]
  ·intro i h1 h2
   show q.f (bR n k i)=q.f i;unfold bR;rw[if_pos ⟨hk,hn⟩,if_neg qo,if_neg h2]
 have h2:=abn (q.eA k);unfold phi;omega
theorem mu_step {L M:List (PM n)}(h:Step L M):mu M<mu L:=by
 induction h with
 |@here p q k L h=>
  obtain⟨hk,hn,_,h4⟩:=h;have h1:=DI hk hn h4;have h2:=ab1 (p.dB k)
  simp only[mu]
  have h3:(n*n*n+1)*(phi (q.eA k)+(n*n*n+1)*mu L)+(n*n*n+1)≤(n*n*n+1)*(phi q+(n*n*n+1)*mu L):=by
   rw[←Nat.mul_succ];exact Nat.mul_le_mul_left _ qo
  omega
 |@there p L M _ ih=>
  simp only[mu]
  have:(n*n*n+1)*mu M<(n*n*n+1)*mu L:=Nat.mul_lt_mul_of_pos_left ih qo;omega
theorem sH {k:Nat}(hk:1≤k)(hn:k<n):bR n k (k-1)=k∧bR n k k=k-1∧∀i,i≠k-1→i≠k→bR n k i=i:=by
 unfold bR;refine⟨?_,?_,?_⟩
 ·rw[if_pos ⟨hk,hn⟩,if_pos qo]
 ·rw[if_pos ⟨hk,hn⟩,if_neg qo,if_pos rfl]
 ·intro i h1 h2
  rw[if_pos ⟨hk,hn⟩,if_neg qo,if_neg h2]
theorem JY (p:PM n){k:Nat}(hk:1≤k)(hn:k<n):(p.dB k).g (k-1)=p.g k∧(p.dB k).g k=p.g (k-1)∧∀i,i≠k-1→i≠k→(p.dB k).g i=p.g i:=by
 obtain⟨h1,h2,h3⟩:=sH hk hn;refine⟨?_,?_,fun i ha hb=>?_⟩
 ·show p.g (bR n k (k-1))=_;rw[h1]
 ·show p.g (bR n k k)=_;rw[h2]
 ·show p.g (bR n k i)=_;rw[h3 i ha hb]
theorem FB (q:PM n){k:Nat}(hk:1≤k)(hn:k<n):(q.eA k).f (k-1)=q.f k∧(q.eA k).f k=q.f (k-1)∧∀i,i≠k-1→i≠k→(q.eA k).f i=q.f i:=by
 obtain⟨h1,h2,h3⟩:=sH hk hn;refine⟨?_,?_,fun i ha hb=>?_⟩
 ·show q.f (bR n k (k-1))=_;rw[h1]
 ·show q.f (bR n k k)=_;rw[h2]
 ·show q.f (bR n k i)=_;rw[h3 i ha hb]
theorem VC {s t i:Nat}(h:s+1<t):bR n s (bR n t i)=bR n t (bR n s i):=by
 unfold bR
 repeat' split
 all_goals omega
theorem RR {n s i:Nat}:bR n s (bR n (s+1) (bR n s i))=bR n (s+1) (bR n s (bR n (s+1) i))∨¬(1≤s∧s+1<n):=by
 by_cases h:1≤s∧s+1<n
 ·left
  obtain⟨a1,a2,a3⟩:=sH (k:=s) (n:=n) h.1 qo;obtain⟨b1,b2,b3⟩:=sH (k:=s+1) (n:=n) qo h.2;rw[Nat.add_sub_cancel]at b1;rw[Nat.add_sub_cancel]at b2
  by_cases h1:i=s-1
  ·rw[h1,a1,b1,a3 _ qo qo,b3 (s-1) qo qo,a1,b1]
  by_cases h2:i=s
  ·rw[h2,a2,b3 (s-1) qo qo,a1,b1,a3 _ qo qo,b2]
  by_cases h3:i=s+1
  ·rw[h3,a3 (s+1) qo qo,b2,a2,b3 (s-1) qo qo]
  ·rw[a3 i h1 h2,b3 i (by rw[Nat.add_sub_cancel];exact h2) h3,a3 i h1 h2,b3 i (by rw[Nat.add_sub_cancel];exact h2) h3]
 ·exact .inr h
theorem Uf (p:PM n){s t:Nat}(h:s+1<t):(p.dB s).dB t=(p.dB t).dB s:=PM.ext fun i=>by
 show bR n t (bR n s (p.f i))=bR n s (bR n t (p.f i));rw[VC h]
theorem Ug (p:PM n){s t:Nat}(h:s+1<t):(p.eA s).eA t=(p.eA t).eA s:=PM.ext fun i=>by
 show p.f (bR n s (bR n t i))=p.f (bR n t (bR n s i));rw[VC h]
theorem Nw (p:PM n){s:Nat}(h:1≤s∧s+1<n):((p.dB s).dB (s+1)).dB s=((p.dB (s+1)).dB s).dB (s+1):=PM.ext fun i=>by
 show bR n s (bR n (s+1) (bR n s (p.f i)))=bR n (s+1) (bR n s (bR n (s+1) (p.f i)));exact RR.resolve_right fun hn=>hn h
theorem Nz (p:PM n){s:Nat}(h:1≤s∧s+1<n):((p.eA s).eA (s+1)).eA s=((p.eA (s+1)).eA s).eA (s+1):=PM.ext fun i=>by
 show p.f (bR n s (bR n (s+1) (bR n s i)))=p.f (bR n (s+1) (bR n s (bR n (s+1) i)));rw[RR.resolve_right fun hn=>hn h]
def FE (A B:List (PM n)):Prop:=∃C,Steps A C∧Steps B C
theorem FE.symm {A B:List (PM n)}(h:FE A B):FE B A:=by
 obtain⟨C,h1,h2⟩:=h;exact⟨C,h2,h1⟩
theorem SF {p q:PM n}{L:List (PM n)}{s t:Nat}(hs:can p q s)(ht:can p q t)(hst:s<t):FE (p.dB s::q.eA s::L) (p.dB t::q.eA t::L):=by
 obtain⟨s1,s2,s3,s4⟩:=hs;obtain⟨t1,t2,t3,t4⟩:=ht
 by_cases hc:s+1<t
 ·refine⟨(p.dB s).dB t::(q.eA s).eA t::L,.one (.here ⟨t1,t2,?_,?_⟩),?_⟩
  ·obtain⟨_,_,h3⟩:=JY p s1 s2
   rw[h3 _ qo qo,h3 _ qo qo];exact t3
  ·obtain⟨_,_,h3⟩:=FB q s1 s2
   rw[h3 _ qo qo,h3 _ qo qo];exact t4
  ·rw[Uf p hc,Ug q hc]
   refine .one (.here ⟨s1,s2,?_,?_⟩)
   ·obtain⟨_,_,h3⟩:=JY p t1 t2
    rw[h3 _ qo qo,h3 _ qo qo];exact s3
   ·obtain⟨_,_,h3⟩:=FB q t1 t2
    rw[h3 _ qo qo,h3 _ qo qo];exact s4
 ·obtain rfl:t=s+1:=qo
  have t3:p.g s<p.g (s+1):=t3;have t4:q.f (s+1)<q.f s:=t4;have hb:1≤s∧s+1<n:=⟨s1,t2⟩;refine⟨((p.dB s).dB (s+1)).dB s::((q.eA s).eA (s+1)).eA s::L,?_,?_⟩
  ·obtain⟨a1,a2,a3⟩:=JY p s1 s2
   obtain⟨b1,b2,b3⟩:=FB q s1 s2;obtain⟨c1,c2,c3⟩:=JY (p.dB s) t1 t2;obtain⟨d1,d2,d3⟩:=FB (q.eA s) t1 t2
   simp only[Nat.add_sub_cancel]at c1 c2 c3 d1 d2 d3
   refine .head (.here (k:=s+1) ⟨t1,t2,?_,?_⟩) (.one (.here (k:=s) ⟨s1,s2,?_,?_⟩))
   ·rw[Nat.add_sub_cancel,a2,a3 _ qo qo];omega
   ·rw[Nat.add_sub_cancel,b2,b3 _ qo qo];omega
   ·rw[c3 (s-1) qo qo,a1,c1,a3 _ qo qo];omega
   ·rw[d3 (s-1) qo qo,b1,d1,b3 _ qo qo];omega
  ·rw[Nw p hb,Nz q hb]
   obtain⟨a1,a2,a3⟩:=JY p t1 t2;obtain⟨b1,b2,b3⟩:=FB q t1 t2;obtain⟨c1,c2,c3⟩:=JY (p.dB (s+1)) s1 s2;obtain⟨d1,d2,d3⟩:=FB (q.eA (s+1)) s1 s2
   simp only[Nat.add_sub_cancel]at a1 a2 a3 b1 b2 b3
   refine .head (.here (k:=s) ⟨s1,s2,?_,?_⟩) (.one (.here (k:=s+1) ⟨t1,t2,?_,?_⟩))
   ·rw[a1,a3 _ qo qo];omega
   ·rw[b1,b3 _ qo qo];omega
   ·rw[Nat.add_sub_cancel,c2,a3 _ qo qo,c3 _ qo qo,a2];omega
   ·rw[Nat.add_sub_cancel,d2,b3 _ qo qo,d3 _ qo qo,b2];omega
theorem SG {p q r:PM n}{L:List (PM n)}{s t:Nat}(hs:can p q s)(ht:can q r t):FE (p.dB s::q.eA s::r::L) (p::q.dB t::r.eA t::L):=by
 obtain⟨s1,s2,s3,s4⟩:=hs;obtain⟨t1,t2,t3,t4⟩:=ht;have hc:(q.eA s).dB t=(q.dB t).eA s:=PM.ext fun i=>rfl;refine⟨p.dB s::(q.eA s).dB t::r.eA t::L,.one (.there (.here ⟨t1,t2,?_,t4⟩)),?_⟩
 ·show bR n s (q.g (t-1))<bR n s (q.g t)
  have h1:q.f (q.g (t-1))=t-1:=q.fg _;have h2:q.f (q.g t)=t:=q.fg _;have h3:¬(q.g (t-1)=s-1∧q.g t=s):=fun⟨ha,hb⟩=>by
   rw[ha]at h1;rw[hb]at h2;omega
  unfold bR
  repeat' split
  all_goals omega
 ·rw[hc]
  refine .one (.here ⟨s1,s2,s3,?_⟩);show bR n t (q.f s)<bR n t (q.f (s-1));have h1:q.g (q.f (s-1))=s-1:=q.gf _;have h2:q.g (q.f s)=s:=q.gf _;have h3:¬(q.f (s-1)=t∧q.f s=t-1):=fun⟨ha,hb⟩=>by
   rw[ha]at h1;rw[hb]at h2;omega
  unfold bR
  repeat' split
  all_goals omega
theorem FE.there {p:PM n}{A B:List (PM n)}(h:FE A B):FE (p::A) (p::B):=by
 obtain⟨C,h1,h2⟩:=h;exact⟨p::C,h1.there,h2.there⟩
theorem meet {L A B:List (PM n)}(h1:Step L A)(h2:Step L B):FE A B:=by
 induction h1 generalizing B with
 |@here p q k L h=>
  cases h2 with
  |@here _ _ t _ h'=>
   rcases Nat.lt_trichotomy k t with hlt|rfl|hlt
   ·exact SF h h' hlt
   ·exact⟨_,.refl _,.refl _⟩
   ·exact(SF h' h hlt).symm
  |there h'=>
   cases h' with
   |here h''=>exact SG h h''
   |@there _ _ M h''=>exact⟨p.dB k::q.eA k::M,.one (.there (.there h'')),.one (.here h)⟩
 |@there p L M h ih=>
  cases h2 with
  |@here _ q t L' h'=>
   cases h with
   |here h''=>exact(SG h' h'').symm
   |@there _ _ M h''=>exact⟨p.dB t::q.eA t::M,.one (.here h'),.one (.there (.there h''))⟩
  |there h'=>exact(ih h').there
def Still (L:List (PM n)):Prop:=∀M,¬Step L M
theorem zQ17x0 {p:Prop}(h:p:=by
 intro k
 induction k with
 |zero=>intro C hC;exact⟨C,.refl _,fun M h=>by have:=mu_step h;omega⟩
 |succ k ihk=>
  intro C hC
  by_cases hst:Still C
  ·exact⟨C,.refl _,hst⟩
  ·obtain⟨M,hM⟩:∃M,Step C M:=Classical.byContradiction fun hn=>hst fun M h=>hn ⟨M,h⟩
   obtain⟨D,hD,sD⟩:=ihk M (by have:=mu_step hM;omega);exact⟨D,.head hM hD,sD⟩):p:=h
theorem Bj:∀(m:Nat) {L A B:List (PM n)},mu L≤m→Steps L A→Steps L B→Still A→Still B→A=B:=by
 intro m
 induction m with
 |zero=>
  intro L A B hm hA hB _ _
  cases hA with
  |head h _=>have:=mu_step h;omega
  |refl _=>
   cases hB with
   |head h _=>have:=mu_step h;omega
   |refl _=>rfl
 |succ m ih=>
  intro L A B hm hA hB sA sB
  cases hA with
  |refl _=>
   cases hB with
   |refl _=>rfl
   |head h _=>exact absurd h (sA _)
  |head h1 t1=>
   cases hB with
   |refl _=>exact absurd h1 (sB _)
   |head h2 t2=>
    obtain⟨C,c1,c2⟩:=meet h1 h2;obtain⟨D,d1,d2⟩:∃D,Steps C D∧Still D:=by
     have:∀(k:Nat) (C:List (PM n)),mu C≤k→∃D,Steps C D∧Still D:=by
      exact zQ17x0
     exact this _ C ql
    have e1:=ih (by have:=mu_step h1;omega) t1 (c1.trans d1) sA d2;have e2:=ih (by have:=mu_step h2;omega) t2 (c2.trans d1) sB d2;rw[e1,e2]
theorem LJ (L:List (PM n)):∃D,Steps L D∧Still D:=by
 have:∀(k:Nat) (C:List (PM n)),mu C≤k→∃D,Steps C D∧Still D:=by
  exact zQ17x0
 exact this _ L ql
noncomputable def nf (L:List (PM n)):List (PM n):=Classical.choose (LJ L)
theorem rL (L:List (PM n)):Steps L (nf L):=(Classical.choose_spec (LJ L)).1
theorem oZ (L:List (PM n)):Still (nf L):=(Classical.choose_spec (LJ L)).2
theorem EP {L N:List (PM n)}(h:Steps L N)(s:Still N):nf L=N:=Bj _ ql (rL L) h (oZ L) s
theorem QL {L M:List (PM n)}(h:Steps L M):nf L=nf M:=EP (h.trans (rL M)) (oZ M)
theorem Wu {L:List (PM n)}(h:Still L):nf L=L:=EP (.refl _) h
theorem aaO (A B:List (PM n)):nf (nf A++B)=nf (A++B):=(QL ((rL A).back B)).symm
theorem S9 (L:List (PM n)):(nf L).length=L.length:=(rL L).length
def one:PM n:=⟨fun i=>i,fun i=>i,fun _=>rfl,fun _=>rfl,fun _ _=>rfl⟩
def rev (n i:Nat):Nat:=if i<n then n-1-i else i
theorem rev_rev (n i:Nat):rev n (rev n i)=i:=by
 unfold rev
 repeat' split
 all_goals omega
def del:PM n:=⟨rev n,rev n,rev_rev n,rev_rev n,fun i h=>by unfold rev;rw[if_neg qo]⟩
def PM.flip (p:PM n):PM n:=⟨fun i=>rev n (p.f (rev n i)),fun i=>rev n (p.g (rev n i)),fun i=>by rw[rev_rev,p.gf,rev_rev],fun i=>by rw[rev_rev,p.fg,rev_rev],fun i h=>by
 rw[show rev n i=i by unfold rev;rw[if_neg qo],p.out i h];unfold rev;rw[if_neg qo]⟩
def PM.mul (p q:PM n):PM n:=⟨fun i=>q.f (p.f i),fun i=>p.g (q.g i),fun i=>by rw[q.gf,p.gf],fun i=>by rw[p.fg,q.fg],fun i h=>by rw[p.out i h,q.out i h]⟩
theorem flip_flip (p:PM n):p.flip.flip=p:=PM.ext fun i=>by
 show rev n (rev n (p.f (rev n (rev n i))))=p.f i;rw[rev_rev,rev_rev]
theorem XP:(one:PM n).flip=one:=PM.ext fun i=>by
 show rev n (rev n i)=i;rw[rev_rev]
theorem XR:(del:PM n).flip=del:=PM.ext fun i=>by
 show rev n (rev n (rev n i))=rev n i;rw[rev_rev]
theorem XQ {p q:PM n}(h:p.flip=q.flip):p=q:=by rw[←flip_flip p,h,flip_flip]
theorem dZ {i:Nat}(h:i<n):rev n i=n-1-i:=if_pos h
theorem qp {k i:Nat}(hk:1≤k)(hn:k<n):rev n (bR n k i)=bR n (n-k) (rev n i):=by
 by_cases hi:i<n
 ·obtain⟨a1,a2,a3⟩:=sH hk hn
  obtain⟨b1,b2,b3⟩:=sH (n:=n) (k:=n-k) qo qo
  by_cases h1:i=k-1
  ·rw[h1,a1,dZ hn,dZ qo,show n-1-(k-1)=n-k by omega,b2]
   omega
  by_cases h2:i=k
  ·rw[h2,a2,dZ qo,dZ hn,show n-1-k=n-k-1 by omega,b1]
   omega
  ·rw[a3 i h1 h2,dZ hi,b3 _ qo qo]
 ·rw[JN qo,show rev n i=i by unfold rev;rw[if_neg hi],JN qo]
theorem Te (p:PM n){k:Nat}(hk:1≤k)(hn:k<n):(p.dB k).flip=p.flip.dB (n-k):=PM.ext fun i=>by
 show rev n (bR n k (p.f (rev n i)))=bR n (n-k) (rev n (p.f (rev n i)));rw[qp hk hn]
theorem Tf (p:PM n){k:Nat}(hk:1≤k)(hn:k<n):(p.eA k).flip=p.flip.eA (n-k):=PM.ext fun i=>by
 show rev n (p.f (bR n k (rev n i)))=rev n (p.f (rev n (bR n (n-k) i)));rw[qp qo qo,show n-(n-k)=k by omega]
theorem Ub {p q:PM n}{k:Nat}(h:can p q k):can p.flip q.flip (n-k):=by
 obtain⟨h1,h2,h3,h4⟩:=h;refine⟨by omega,by omega,?_,?_⟩
 ·show rev n (p.g (rev n (n-k-1)))<rev n (p.g (rev n (n-k)))
  rw[dZ (show n-k-1<n by omega),dZ (show n-k<n by omega),show n-1-(n-k-1)=k by omega,show n-1-(n-k)=k-1 by omega,dZ (p.OQ h2),dZ (p.OQ qo)];have:=p.OQ h2;omega
 ·show rev n (q.f (rev n (n-k)))<rev n (q.f (rev n (n-k-1)))
  rw[dZ (show n-k-1<n by omega),dZ (show n-k<n by omega),show n-1-(n-k-1)=k by omega,show n-1-(n-k)=k-1 by omega,dZ (q.lt h2),dZ (q.lt qo)];have:=q.lt (show k-1<n by omega);omega
theorem Step.flip {L M:List (PM n)}(h:Step L M):Step (L.map PM.flip) (M.map PM.flip):=by
 induction h with
 |@here p q k L h=>
  simp only[List.map_cons]
  rw[Te p h.1 h.2.1,Tf q h.1 h.2.1];exact .here (Ub h)
 |there _ ih=>exact .there ih
theorem Steps.flip {L M:List (PM n)}(h:Steps L M):Steps (L.map PM.flip) (M.map PM.flip):=by
 induction h with
 |refl _=>exact .refl _
 |head h _ ih=>exact .head h.flip ih
theorem SJ (L:List (PM n)):(L.map PM.flip).map PM.flip=L:=by
 rw[List.map_map]
 conv=>rhs;rw[←List.map_id L]
 exact List.map_congr_left fun p _=>flip_flip p
theorem Still.flip {L:List (PM n)}(h:Still L):Still (L.map PM.flip):=fun _ hM=>h _ (by have:=hM.flip;rwa[SJ]at this)
theorem aaM (L:List (PM n)):nf (L.map PM.flip)=(nf L).map PM.flip:=EP (rL L).flip (oZ L).flip
theorem Still.tail {p:PM n}{L:List (PM n)}(h:Still (p::L)):Still L:=fun _ hM=>h _ (.there hM)
theorem EG {p q:PM n}{L:List (PM n)}(h:Still (p::q::L))(k:Nat):¬can p q k:=fun hc=>h _ (.here hc)
theorem yJ {p q:PM n}{L:List (PM n)}(h:∀k,¬can p q k)(hL:Still (q::L)):Still (p::q::L):=fun M hM=>by
 cases hM with
 |here hc=>exact h _ hc
 |there hs=>exact hL _ hs
theorem GX:Still ([]:List (PM n)):=fun M hM=>by cases hM
theorem BN (p:PM n):Still [p]:=fun M hM=>by
 cases hM with
 |there hs=>cases hs
theorem Still.front {A B:List (PM n)}(h:Still (A++B)):Still A:=fun _ hM=>h _ (hM.back B)
theorem Step.ahead {L M:List (PM n)}(P:List (PM n))(h:Step L M):Step (P++L) (P++M):=by
 induction P with
 |nil=>exact h
 |cons p P ih=>exact .there ih
theorem Still.back {A B:List (PM n)}(h:Still (A++B)):Still B:=fun _ hM=>h _ (hM.ahead A)
theorem Jg {q:PM n}(h:∀k,1≤k→k<n→¬q.f k<q.f (k-1)):q=one:=by
 have h1:∀i,i<n→i≤q.f i:=by
  intro i
  induction i with
  |zero=>intro _;exact Nat.zero_le _
  |succ i ih=>
   intro hi;have h2:=ih qo;have h3:=h (i+1) qo hi;rw[Nat.add_sub_cancel]at h3;have h4:q.f i≠q.f (i+1):=fun e=>by have:=q.inj e;omega
   omega
 have h2:∀j i,i+j+1=n→q.f i≤i:=by
  intro j
  induction j with
  |zero=>intro i hi;have:=q.lt (show i<n by omega);omega
  |succ j ih=>
   intro i hi;have h2:=ih (i+1) qo;have h3:=h (i+1) qo qo;rw[Nat.add_sub_cancel]at h3;have h4:q.f i≠q.f (i+1):=fun e=>by have:=q.inj e;omega
   omega
 exact PM.Yw fun i hi=>by
  have:=h1 i hi;have:=h2 (n-1-i) i qo;show q.f i=i;omega
theorem W7 (q:PM n):q=one∨∃k,1≤k∧k<n∧q.f k<q.f (k-1):=by
 by_cases h:∃k,1≤k∧k<n∧q.f k<q.f (k-1)
 ·exact .inr h
 ·exact .inl (Jg fun k h1 h2 h3=>h ⟨k,h1,h2,h3⟩)
theorem XZ (p:PM n):p=del∨∃k,1≤k∧k<n∧p.g (k-1)<p.g k:=by
 by_cases h:∃k,1≤k∧k<n∧p.g (k-1)<p.g k
 ·exact .inr h
 refine .inl ?_
 let r:PM n:=⟨fun i=>rev n (p.g i),fun i=>p.f (rev n i),fun i=>by rw[rev_rev,p.fg],fun i=>by rw[p.gf,rev_rev],fun i hi=>by rw[p.Ta hi];unfold rev;rw[if_neg qo]⟩
 have hr:r=one:=Jg fun k h1 h2 h3=>by
  have h4:rev n (p.g k)<rev n (p.g (k-1)):=h3;rw[dZ (p.OQ h2),dZ (p.OQ qo)]at h4;have:=p.OQ h2;exact h ⟨k,h1,h2,by omega⟩
 refine PM.ext fun i=>?_;have h1:r.f (p.f i)=p.f i:=by rw[hr];rfl
 have h2:rev n (p.g (p.f i))=p.f i:=h1;rw[p.gf]at h2;exact h2.symm
theorem jh (q:PM n)(k:Nat):¬can del q k:=fun⟨h1,h2,h3,_⟩=>by
 have h4:rev n (k-1)<rev n k:=h3;rw[dZ qo,dZ h2]at h4;omega
theorem jg (p:PM n)(k:Nat):¬can p one k:=fun⟨h1,_,_,h4⟩=>by
 have h5:k<k-1:=h4;omega
theorem Hw {L:List (PM n)}(h:Still L):Still (del::L):=by
 cases L with
 |nil=>exact BN _
 |cons q L=>exact yJ (jh q) h
theorem Bh {L:List (PM n)}(h:Still L):Still (L++[one]):=by
 induction L with
 |nil=>exact BN _
 |cons p L ih=>
  cases L with
  |nil=>exact yJ (jg p) (BN _)
  |cons q L=>exact yJ (EG h) (ih h.tail)
theorem Jk (L:List (PM n)):nf (del::L)=del::nf L:=EP (rL L).there (Hw (oZ L))
theorem Jj (L:List (PM n)):nf (L++[one])=nf L++[one]:=EP ((rL L).back _) (Bh (oZ L))
theorem aaN (a:Nat)(L:List (PM n)):nf (List.replicate a del++L)=List.replicate a del++nf L:=by
 induction a with
 |zero=>rfl
 |succ a ih=>simp only[List.replicate_succ,List.cons_append];rw[Jk,ih]
theorem aaL (b:Nat)(L:List (PM n)):nf (L++List.replicate b one)=nf L++List.replicate b one:=by
 induction b with
 |zero=>simp
 |succ b ih=>
  rw[show(List.replicate (b+1) (one:PM n))=List.replicate b one++[one]from List.replicate_succ',←List.append_assoc,Jj,ih,List.append_assoc]
def Red (p q:PM n):Prop:=∀i j,i<j→p.f j<p.f i→q.f (p.f j)<q.f (p.f i)
def Cov (p q:PM n):Prop:=∀i j,i<j→j<n→p.f i<p.f j→q.f (p.f j)<q.f (p.f i)
theorem Ht {k i j:Nat}(hk:1≤k)(hn:k<n)(h:bR n k i<bR n k j):i<j∨(i=k∧j=k-1):=by
 obtain⟨a1,a2,a3⟩:=sH hk hn
 by_cases i1:i=k-1
 ·by_cases j2:j=k
  ·omega
  ·by_cases j1:j=k-1
   ·rw[i1,j1]at h
    omega
   ·rw[i1,a1,a3 j j1 j2]at h
    omega
 ·by_cases i2:i=k
  ·by_cases j1:j=k-1
   ·omega
   ·by_cases j2:j=k
    ·rw[i2,j2]at h
     omega
    ·rw[i2,a2,a3 j j1 j2]at h
     omega
  ·rw[a3 i i1 i2]at h
   by_cases j1:j=k-1
   ·rw[j1,a1]at h
    omega
   ·by_cases j2:j=k
    ·rw[j2,a2]at h
     omega
    ·rw[a3 j j1 j2]at h
     omega
theorem RX:∀(m:Nat) (p q:PM n) (L:List (PM n)),phi q≤m→Red p q→Steps (p::q::L) (p.mul q::one::L):=by
 intro m
 induction m with
 |zero=>
  intro p q L hm hr
  rcases W7 q with rfl|⟨k,h1,h2,h3⟩
  ·exact .refl _
  ·have:=DI h1 h2 h3
   omega
 |succ m ih=>
  intro p q L hm hr
  rcases W7 q with rfl|⟨k,h1,h2,h3⟩
  ·exact .refl _
  ·have h4:=DI h1 h2 h3
   have hlt:p.g (k-1)<p.g k:=by
    refine Decidable.byContradiction fun hn=>?_;have hne:p.g k≠p.g (k-1):=fun e=>by have:=p.Tc e;omega
    have h5:=hr (p.g k) (p.g (k-1)) qo (by rw[p.fg,p.fg];omega);rw[p.fg,p.fg]at h5;omega
   have h6:=ih (p.dB k) (q.eA k) L qo fun i j hij hlt2=>by
    show q.f (bR n k (bR n k (p.f j)))<q.f (bR n k (bR n k (p.f i)));rw[lQ,lQ]
    rcases Ht h1 h2 hlt2 with h|⟨ha,hb⟩
    ·exact hr i j hij h
    ·rw[ha,hb]
     exact h3
   have h7:(p.dB k).mul (q.eA k)=p.mul q:=PM.ext fun i=>by
    show q.f (bR n k (bR n k (p.f i)))=q.f (p.f i);rw[lQ]
   rw[h7]at h6;exact .head (.here ⟨h1,h2,hlt,h3⟩) h6
def PM.rest (p q:PM n):PM n:=⟨fun i=>q.f (p.f (rev n i)),fun i=>rev n (p.g (q.g i)),fun i=>by rw[q.gf,p.gf,rev_rev],fun i=>by rw[rev_rev,p.fg,q.fg],fun i h=>by
 rw[show rev n i=i by unfold rev;rw[if_neg qo],p.out i h,q.out i h]⟩
theorem Nt:∀(m:Nat) (p q:PM n) (L:List (PM n)),phi q≤m→Cov p q→Steps (p::q::L) (del::p.rest q::L):=by
 intro m
 induction m with
 |zero=>
  intro p q L hm hr
  rcases XZ p with rfl|⟨k,h1,h2,h3⟩
  ·rw[show PM.rest del q=q from PM.ext fun i=>by show q.f (rev n (rev n i))=q.f i;rw[rev_rev]]
   exact .refl _
  ·have h5:=hr (p.g (k-1)) (p.g k) h3 (p.OQ h2) (by rw[p.fg,p.fg];omega)
   rw[p.fg,p.fg]at h5;have:=DI h1 h2 h5;omega
 |succ m ih=>
  intro p q L hm hr
  rcases XZ p with rfl|⟨k,h1,h2,h3⟩
  ·rw[show PM.rest del q=q from PM.ext fun i=>by show q.f (rev n (rev n i))=q.f i;rw[rev_rev]]
   exact .refl _
  ·have h5:=hr (p.g (k-1)) (p.g k) h3 (p.OQ h2) (by rw[p.fg,p.fg];omega)
   rw[p.fg,p.fg]at h5;have h4:=DI h1 h2 h5;have h6:=ih (p.dB k) (q.eA k) L qo fun i j hij hj hlt2=>by
    show q.f (bR n k (bR n k (p.f j)))<q.f (bR n k (bR n k (p.f i)));rw[lQ,lQ]
    rcases Ht h1 h2 hlt2 with h|⟨ha,hb⟩
    ·exact hr i j hij hj h
    ·have e1:p.g k=i:=by rw[←ha,p.gf]
     have e2:p.g (k-1)=j:=by rw[←hb,p.gf]
     rw[e1,e2]at h3;omega
   have h7:(p.dB k).rest (q.eA k)=p.rest q:=PM.ext fun i=>by
    show q.f (bR n k (bR n k (p.f (rev n i))))=q.f (p.f (rev n i));rw[lQ]
   rw[h7]at h6;exact .head (.here ⟨h1,h2,h3,h5⟩) h6
theorem Jf (p:PM n)(L:List (PM n)):Steps (one::p::L) (p::one::L):=by
 have h:=RX _ one p L ql fun i j hij hlt=>by
  have:j<i:=hlt;omega
 exact h
theorem Nn (p:PM n)(L:List (PM n)):Steps (p::del::L) (del::p.flip::L):=by
 have h:=Nt _ p del L ql fun i j _ hj hlt=>by
  show rev n (p.f j)<rev n (p.f i);have:=p.lt hj;rw[dZ this,dZ qo];omega
 exact h
theorem abb (F R:List (PM n)):Steps (F++del::R) (del::(F.map PM.flip++R)):=by
 induction F with
 |nil=>exact .refl _
 |cons p F ih=>exact ih.there.trans (Nn p _)
theorem Rf (b:Nat)(R:List (PM n)):Steps (List.replicate b one++R) (R++List.replicate b one):=by
 have h1:∀R:List (PM n),Steps (one::R) (R++[one]):=by
  intro R
  induction R with
  |nil=>exact .refl _
  |cons p R ih=>exact(Jf p R).trans ih.there
 induction b with
 |zero=>simp only[List.replicate_zero,List.nil_append,List.append_nil];exact .refl _
 |succ b ih=>
  rw[List.replicate_succ,List.cons_append];refine(h1 _).trans ?_;have:=ih.back [one];rwa[List.append_assoc R,show List.replicate b (one:PM n)++[one]=one::List.replicate b one from by rw[←List.replicate_succ',List.replicate_succ]]at this
open Classical in
noncomputable def strip (L:List (PM n)):List (PM n):=L.filter fun p=>decide (p≠one∧p≠del)
open Classical in
noncomputable def cnt (L:List (PM n)):Nat:=(L.filter fun p=>decide (p≠one∧p=del)).length
theorem wD (A B:List (PM n)):strip (A++B)=strip A++strip B:=by simp[strip]
theorem zA (A B:List (PM n)):cnt (A++B)=cnt A+cnt B:=by simp[cnt]
theorem Np (hn:2≤n):(del:PM n)≠one:=fun e=>by
 have h1:(del:PM n).f 0=(one:PM n).f 0:=by rw[e]
 have h2:rev n 0=0:=h1;rw[dZ qo]at h2;omega
theorem NC (a:Nat):strip (List.replicate a (del:PM n))=[]:=by
 unfold strip;rw[List.filter_eq_nil_iff];intro p hp;rw[(List.mem_replicate.1 hp).2]
 simp
theorem EF (b:Nat):strip (List.replicate b (one:PM n))=[]:=by
 unfold strip;rw[List.filter_eq_nil_iff];intro p hp;rw[(List.mem_replicate.1 hp).2]
 simp
theorem MS (b:Nat):cnt (List.replicate b (one:PM n))=0:=by
 unfold cnt;rw[List.length_eq_zero_iff,List.filter_eq_nil_iff];intro p hp;rw[(List.mem_replicate.1 hp).2]
 simp
theorem MT (hn:2≤n)(a:Nat):cnt (List.replicate a (del:PM n))=a:=by
 unfold cnt;rw[List.filter_eq_self.2]
 ·simp
 ·intro p hp
  rw[(List.mem_replicate.1 hp).2]
  simp[Np hn]
def Mid (L:List (PM n)):Prop:=∀p∈L,p≠one∧p≠del
theorem Hu {L:List (PM n)}(h:Mid L):strip L=L:=by
 unfold strip;rw[List.filter_eq_self.2];intro p hp
 simp[h p hp]
theorem yj {L:List (PM n)}(h:Mid L):cnt L=0:=by
 unfold cnt;rw[List.length_eq_zero_iff,List.filter_eq_nil_iff];intro p hp
 simp[(h p hp).2]
theorem SE (L:List (PM n)):Mid (strip L):=fun p hp=>by
 unfold strip at hp
 simpa using(List.mem_filter.1 hp).2
theorem VI {p q:PM n}{L:List (PM n)}(h:Still (p::q::L))(hp:p≠del):q≠del:=fun e=>by
 subst e
 rcases XZ p with h1|⟨k,h1,h2,h3⟩
 ·exact hp h1
 ·refine EG h k ⟨h1,h2,h3,?_⟩
  show rev n k<rev n (k-1);rw[dZ h2,dZ qo];omega
theorem VJ {q:PM n}{L:List (PM n)}(h:Still (one::q::L)):q=one:=by
 rcases W7 q with h1|⟨k,h1,h2,h3⟩
 ·exact h1
 ·exact absurd ⟨h1,h2,show k-1<k by omega,h3⟩ (EG h k)
theorem GW:∀{L:List (PM n)} {p:PM n},Still (p::L)→p≠del→∀q∈L,q≠del:=by
 intro L
 induction L with
 |nil=>intro p _ _ q hq;cases hq
 |cons r L ih=>
  intro p h hp q hq;have hr:=VI h hp
  rcases List.mem_cons.1 hq with rfl|hq
  ·exact hr
  ·exact ih h.tail hr q hq
theorem U1:∀{L:List (PM n)},Still (one::L)→L=List.replicate L.length one:=by
 intro L
 induction L with
 |nil=>intro _;rfl
 |cons r L ih=>
  intro h;have hr:=VJ h;subst hr;rw[List.length_cons,List.replicate_succ,←ih h.tail]
theorem BM {L:List (PM n)}(h:Still L)(hd:∀p∈L,p≠del):∃b,L=strip L++List.replicate b one:=by
 induction L with
 |nil=>exact⟨0,by simp[strip]⟩
 |cons p L ih=>
  by_cases hp:p=one
  ·subst hp
   refine⟨(one::L).length,?_⟩;have h1:=U1 h;have h2:(one:PM n)::L=List.replicate (one::L).length one:=by
    rw[List.length_cons,List.replicate_succ,←h1]
   have h3:strip (one::L)=[]:=by rw[h2,EF]
   rw[h3,List.nil_append];exact h2
  ·obtain⟨b,hb⟩:=ih h.tail fun q hq=>hd q (List.mem_cons_of_mem _ hq)
   refine⟨b,?_⟩;have h1:strip (p::L)=p::strip L:=by
    unfold strip;rw[List.filter_cons_of_pos]
    simp[hp,hd p List.mem_cons_self]
   rw[h1,List.cons_append,←hb]
theorem KD {L:List (PM n)}(h:Still L):∃a b,L=List.replicate a del++(strip L++List.replicate b one):=by
 induction L with
 |nil=>exact⟨0,0,by simp[strip]⟩
 |cons p L ih=>
  by_cases hp:p=del
  ·subst hp
   obtain⟨a,b,hb⟩:=ih h.tail;refine⟨a+1,b,?_⟩;have h1:strip (del::L)=strip L:=by
    unfold strip;rw[List.filter_cons_of_neg]
    simp
   rw[h1,List.replicate_succ,List.cons_append,←hb]
  ·obtain⟨b,hb⟩:=BM h fun q hq=>by
    rcases List.mem_cons.1 hq with rfl|hq
    ·exact hp
    ·exact GW h hp q hq
   exact⟨0,b,by simpa using hb⟩
theorem W9 (hn:2≤n)(L R:List (PM n)):∃b,nf (L++R)=List.replicate (cnt (nf L)) del++(nf (strip (nf L)++R)++List.replicate b one):=by
 obtain⟨a,b,h⟩:=KD (oZ L);have ha:cnt (nf L)=a:=by
  rw[h,zA,zA,MT hn,yj (SE _),MS];omega
 refine⟨b,?_⟩;rw[←aaO,ha]
 conv=>lhs;rw[h]
 rw[List.append_assoc,aaN,List.append_assoc,QL ((Rf b R).front _),←List.append_assoc,aaL]
theorem VG (hn:2≤n)(L R:List (PM n)):strip (nf (L++R))=strip (nf (strip (nf L)++R)):=by
 obtain⟨b,h⟩:=W9 hn L R;rw[h,wD,wD,NC,EF,List.nil_append,List.append_nil]
theorem Nu (hn:2≤n)(L R:List (PM n)):cnt (nf (L++R))=cnt (nf L)+cnt (nf (strip (nf L)++R)):=by
 obtain⟨b,h⟩:=W9 hn L R;rw[h,zA,zA,MT hn,MS];omega
theorem KU {p:PM n}:p.flip=one↔p=one:=⟨fun h=>XQ (h.trans XP.symm),fun h=>by rw[h,XP]⟩
theorem KV {p:PM n}:p.flip=del↔p=del:=⟨fun h=>XQ (h.trans XR.symm),fun h=>by rw[h,XR]⟩
theorem Bg (L:List (PM n)):strip (L.map PM.flip)=(strip L).map PM.flip:=by
 unfold strip;rw[List.filter_map]
 congr 1
 apply List.filter_congr
 intro p _
 simp[KU,KV]
theorem Tx (L:List (PM n)):cnt (L.map PM.flip)=cnt L:=by
 unfold cnt;rw[List.filter_map,List.length_map]
 congr 1
 apply List.filter_congr
 intro p _
 simp[KU,KV]
def sig (n k:Nat):PM n:=(one:PM n).dB k
def neg (n k:Nat):PM n:=(del:PM n).dB k
def wl (n:Nat):List (PM n)→List Int→List (PM n)
 |L,[]=>L
 |L,x::w=>wl n (if 0<x then L++[sig n x.natAbs]else L.map PM.flip++[neg n x.natAbs]) w
def wp:Int→List Int→Int
 |P,[]=>P
 |P,x::w=>wp (if 0<x then P else P-1) w
noncomputable def act (n:Nat)(s:Int×List (PM n))(x:Int):Int×List (PM n):=
 if 0<x then(s.1+cnt (nf (s.2++[sig n x.natAbs])),strip (nf (s.2++[sig n x.natAbs])))
 else(s.1-1+cnt (nf (s.2.map PM.flip++[neg n x.natAbs])),strip (nf (s.2.map PM.flip++[neg n x.natAbs])))
noncomputable def nor (P:Int)(L:List (PM n)):Int×List (PM n):=(P+cnt (nf L),strip (nf L))
noncomputable def acts (n:Nat)(s:Int×List (PM n))(w:List Int):Int×List (PM n):=w.foldl (act n) s
theorem zh (hn:2≤n)(P:Int)(L:List (PM n))(x:Int):act n (nor P L) x=nor (if 0<x then P else P-1) (if 0<x then L++[sig n x.natAbs]else L.map PM.flip++[neg n x.natAbs]):=by
 unfold act nor
 by_cases h:0<x
 ·rw[if_pos h,if_pos h,if_pos h,VG hn L,Nu hn L]
  simp only[Prod.mk.injEq,and_true]
  omega
 ·rw[if_neg h,if_neg h,if_neg h,VG hn (L.map PM.flip),Nu hn (L.map PM.flip),aaM,Bg,Tx]
  simp only[Prod.mk.injEq,and_true]
  omega
theorem Ui (hn:2≤n)(w:List Int):∀(P:Int) (L:List (PM n)),acts n (nor P L) w=nor (wp P w) (wl n L w):=by
 induction w with
 |nil=>intro P L;rfl
 |cons x w ih=>intro P L;simp only[acts,List.foldl_cons,wp,wl];rw[zh hn];exact ih _ _
theorem qy (P:Int):nor P ([]:List (PM n))=(P,[]):=by
 unfold nor;rw[Wu GX]
 simp[strip,cnt]
theorem Qm (hn:2≤n)(w:List Int):acts n (0,[]) w=nor (wp 0 w) (wl n [] w):=by
 rw[←qy];exact Ui hn w 0 []
def Good (s:Int×List (PM n)):Prop:=Still s.2∧Mid s.2
theorem XK (P:Int)(L:List (PM n)):Good (nor P L):=by
 refine⟨?_,SE _⟩;obtain⟨a,b,h⟩:=KD (oZ L);have:=oZ L;rw[h]at this;exact this.back.front
theorem W8 {s:Int×List (PM n)}(h:Good s):nor s.1 s.2=s:=by
 unfold nor;rw[Wu h.1,yj h.2,Hu h.2]
 simp
theorem XM (s:Int×List (PM n))(x:Int):Good (act n s x):=by
 unfold act
 split
 ·exact XK (n:=n) 0 _
 ·exact XK (n:=n) 0 _
theorem Mr {s:Int×List (PM n)}(h:Good s)(w:List Int):Good (acts n s w):=by
 induction w generalizing s with
 |nil=>exact h
 |cons x w ih=>exact ih (XM s x)
theorem Qs (P:Int)(F:List (PM n)):nor P (F++[one])=nor P F:=by
 unfold nor;rw[Jj,wD,zA,show[(one:PM n)]=List.replicate 1 one from rfl,EF,MS]
 simp
theorem Sk (hn:2≤n)(P:Int)(F:List (PM n)):nor P (del::F)=nor (P+1) F:=by
 unfold nor;rw[Jk,show del::nf F=List.replicate 1 del++nf F from rfl,wD,zA,NC,MT hn]
 simp only[List.nil_append,Prod.mk.injEq,and_true]
 omega
theorem Jh {L M:List (PM n)}(h:Steps L M)(P:Int):nor P L=nor P M:=by unfold nor;rw[QL h]
theorem Vw (hn:2≤n){p q:PM n}(h:p.mul q=del)(P:Int)(F:List (PM n)):nor P (F.map PM.flip++[p,q])=nor (P+1) F:=by
 have hr:Red p q:=fun i j hij hlt=>by
  have h1:∀i,q.f (p.f i)=rev n i:=fun i=>by
   have:(p.mul q).f i=(del:PM n).f i:=by rw[h]
   exact this
  rw[h1,h1];have hj:j<n:=Decidable.byContradiction fun hj=>by
   rw[p.out j qo]at hlt;have hi:i<n:=Decidable.byContradiction fun hi=>by rw[p.out i qo]at hlt;omega
   have:=p.lt hi;omega
  rw[dZ hj,dZ qo];omega
 have h1:=(RX _ p q [] ql hr).front (F.map PM.flip);rw[h]at h1;have h2:=abb (F.map PM.flip) [(one:PM n)];rw[SJ]at h2;rw[Jh (h1.trans h2),Sk hn,Qs]
theorem Uj (s:Int×List (PM n))(hs:Good s){x:Int}(hx:x≠0)(hn:x.natAbs<n):act n (act n s x) (-x)=s:=by
 have h2:2≤n:=qo;rw[show act n s x=nor (if 0<x then s.1 else s.1-1) (if 0<x then s.2++[sig n x.natAbs]else s.2.map PM.flip++[neg n x.natAbs])by unfold act nor;split<;>rfl,zh h2,Int.natAbs_neg]
 by_cases h:0<x
 ·rw[if_pos h,if_pos h,if_neg qo,if_neg qo,List.map_append,List.append_assoc]
  have hm:((sig n x.natAbs).flip).mul (neg n x.natAbs)=del:=PM.ext fun i=>by
   show bR n x.natAbs (rev n (rev n (bR n x.natAbs (rev n i))))=rev n i;rw[rev_rev,lQ]
  have:=Vw h2 hm (s.1-1) s.2;rw[List.map_cons,List.map_nil];rw[show[(sig n x.natAbs).flip]++[neg n x.natAbs]=[(sig n x.natAbs).flip,neg n x.natAbs]from rfl,this,Int.sub_add_cancel];exact W8 hs
 ·rw[if_neg h,if_neg h,if_pos qo,if_pos qo,List.append_assoc]
  have hm:(neg n x.natAbs).mul (sig n x.natAbs)=del:=PM.ext fun i=>by
   show bR n x.natAbs (bR n x.natAbs (rev n i))=rev n i;rw[lQ]
  have:=Vw h2 hm (s.1-1) s.2;rw[show[neg n x.natAbs]++[sig n x.natAbs]=[neg n x.natAbs,sig n x.natAbs]from rfl,this,Int.sub_add_cancel];exact W8 hs
def Word (n:Nat)(w:List Int):Prop:=∀x∈w,x≠0∧x.natAbs<n
def inv (w:List Int):List Int:=(w.map fun x=>-x).reverse
theorem Ry (x:Int)(w:List Int):inv (x::w)=inv w++[-x]:=by simp[inv]
theorem MZ (s:Int×List (PM n))(v w:List Int):acts n s (v++w)=acts n (acts n s v) w:=List.foldl_append
theorem YI {w:List Int}(hw:Word n w):∀{s:Int×List (PM n)},Good s→acts n (acts n s w) (inv w)=s:=by
 induction w with
 |nil=>intro s _;rfl
 |cons x w ih=>
  intro s hs;rw[Ry,MZ];show acts n (acts n (acts n (act n s x) w) (inv w)) [-x]=s;rw[ih (fun y hy=>hw y (List.mem_cons_of_mem _ hy)) (XM s x)];have:=hw x List.mem_cons_self;exact Uj s hs this.1 this.2
theorem inv_inv (w:List Int):inv (inv w)=w:=by
 simp[inv,List.map_reverse,List.map_map,Function.comp_def]
theorem V5 {w:List Int}(h:Word n w):Word n (inv w):=fun x hx=>by
 unfold inv at hx;rw[List.mem_reverse,List.mem_map]at hx;obtain⟨y,hy,rfl⟩:=hx;have:=h y hy;omega
theorem XL:Good ((0,[]):Int×List (PM n)):=⟨GX,fun p hp=>by cases hp⟩
theorem same_iff {a b:List Int}(hb:Word n b):acts n (0,[]) (a++inv b)=(0,[])↔acts n (0,[]) a=acts n (0,[]) b:=by
 rw[MZ]
 constructor
 ·intro h
  have h1:=YI (V5 hb) (Mr (n:=n) XL a);rw[h,inv_inv]at h1;exact h1.symm
 ·intro h
  rw[h];exact YI hb XL
def PM.inv (p:PM n):PM n:=⟨p.g,p.f,p.fg,p.gf,fun _ h=>p.Ta h⟩
def pl (p:PM n):List Int:=(List.range n).map fun i=>(p.f i:Int)
theorem aC (p:PM n):(pl p).length=n:=by simp[pl]
theorem j6 (p:PM n){i:Nat}(h:i<n):(pl p).getD i 0=(p.f i:Int):=by simp[pl,List.getD,h]
theorem NN {p q:PM n}(h:pl p=pl q):p=q:=PM.Yw fun i hi=>by
 have h1:=j6 p hi;rw[h,j6 q hi]at h1;omega
theorem Wo {p:PM n}{L:List Int}(hl:L.length=n)(h:∀i,i<n→L.getD i 0=(p.f i:Int)):L=pl p:=by
 apply List.ext_getElem?
 intro i
 by_cases hi:i<n
 ·have h1:=h i hi
  rw[List.getElem?_eq_getElem qo,List.getElem?_eq_getElem (by rw[aC];exact hi)];have h2:=j6 p hi
  simp only[List.getD,List.getElem?_eq_getElem (show i<L.length by omega),Option.getD_some]at h1
  simp only[List.getD,List.getElem?_eq_getElem (show i<(pl p).length by rw[aC];exact hi),Option.getD_some]at h2
  rw[h1,h2]
 ·rw[List.getElem?_eq_none qo,List.getElem?_eq_none (by rw[aC];omega)]
def gO (f:Nat→Nat):Nat→List Int
 |0=>[]
 |m+1=>gO f m++(if 1≤m∧f m<f (m-1)then [(m:Int)]else [])
theorem yY {f:Nat→Nat}{m:Nat}{x:Int}:x∈gO f m↔∃k:Nat,x=k∧1≤k∧k<m∧f k<f (k-1):=by
 induction m with
 |zero=>
  constructor
  ·intro h;cases h
  ·rintro⟨k,_,_,h,_⟩;omega
 |succ m ih=>
  simp only[gO,List.mem_append]
  constructor
  ·rintro(h|h)
   ·obtain⟨k,h1,h2,h3,h4⟩:=ih.1 h
    exact⟨k,h1,h2,by omega,h4⟩
   ·split at h
    ·rename_i hc
     exact⟨m,List.mem_singleton.1 h,hc.1,by omega,hc.2⟩
    ·cases h
  ·rintro⟨k,h1,h2,h3,h4⟩
   by_cases hk:k<m
   ·exact .inl (ih.2 ⟨k,h1,h2,hk,h4⟩)
   ·obtain rfl:k=m:=qo
    right
    rw[if_pos ⟨h2,h4⟩];exact List.mem_singleton.2 h1
theorem pV (f:Nat→Nat)(m:Nat):(gO f m).length≤m:=by
 induction m with
 |zero=>exact Nat.le_refl _
 |succ m ih=>
  simp only[gO,List.length_append]
  split<;>simp<;>omega
def fm (E:List Int):List Int→Int
 |[]=>0
 |x::S=>if x∈E then fm E S else x
theorem OT (E:List Int)(S R:List Int)(h:∀x∈S,x∈E):fm E (S++R)=fm E R:=by
 induction S with
 |nil=>rfl
 |cons x S ih=>
  simp only[List.cons_append,fm]
  rw[if_pos (h x List.mem_cons_self),ih fun y hy=>h y (List.mem_cons_of_mem _ hy)]
theorem Td (E S:List Int):(fm E S=0∧∀x∈S,x∈E∨x=0)∨(fm E S∈S∧fm E S∉E):=by
 induction S with
 |nil=>exact .inl ⟨rfl,fun x hx=>by cases hx⟩
 |cons x S ih=>
  simp only[fm]
  by_cases h:x∈E
  ·rw[if_pos h]
   rcases ih with⟨h1,h2⟩|⟨h1,h2⟩
   ·refine .inl ⟨h1,fun y hy=>?_⟩
    rcases List.mem_cons.1 hy with rfl|hy
    ·exact .inl h
    ·exact h2 y hy
   ·exact .inr ⟨List.mem_cons_of_mem _ h1,h2⟩
  ·rw[if_neg h]
   exact .inr ⟨List.mem_cons_self,h⟩
def ext (p q:PM n):Int:=fm (gO p.g n) (gO q.f n)
theorem yu {p q:PM n}{k:Nat}:can p q k↔(k:Int)∈gO q.f n∧(k:Int)∉gO p.g n:=by
 constructor
 ·rintro⟨h1,h2,h3,h4⟩
  refine⟨yY.2 ⟨k,rfl,h1,h2,h4⟩,fun h=>?_⟩;obtain⟨j,e,_,_,h5⟩:=yY.1 h;obtain rfl:k=j:=qo;omega
 ·rintro⟨h1,h2⟩
  obtain⟨j,e,h3,h4,h5⟩:=yY.1 h1;obtain rfl:k=j:=qo;refine⟨h3,h4,?_,h5⟩;have h6:¬p.g k<p.g (k-1):=fun h=>h2 (yY.2 ⟨k,rfl,h3,h4,h⟩);have h7:p.g k≠p.g (k-1):=fun e=>by have:=p.Tc e;omega
  omega
theorem T7 (p q:PM n):(ext p q=0∧∀k,¬can p q k)∨∃k:Nat,ext p q=k∧can p q k:=by
 rcases Td (gO p.g n) (gO q.f n)with⟨h1,h2⟩|⟨h1,h2⟩
 ·refine .inl ⟨h1,fun k hk=>?_⟩
  obtain⟨h3,h4⟩:=yu.1 hk
  rcases h2 _ h3 with h5|h5
  ·exact h4 h5
  ·have:=hk.1
   omega
 ·obtain⟨k,e,_⟩:=yY.1 h1
  refine .inr ⟨k,e,yu.2 ⟨?_,?_⟩⟩
  ·rw[←e];exact h1
  ·rw[←e];exact h2
theorem Ua {p q:PM n}(h:can p q 0):False:=by have:=h.1;omega
theorem Tj {p q:PM n}(h:ext p q=0):∀k,¬can p q k:=by
 rcases T7 p q with⟨_,h2⟩|⟨k,e,hk⟩
 ·exact h2
 ·rw[h]at e
  obtain rfl:k=0:=qo;exact(Ua hk).elim
theorem xu {p q:PM n}(h:ext p q≠0):∃k:Nat,ext p q=k∧can p q k:=by
 rcases T7 p q with⟨h1,_⟩|h2
 ·exact absurd h1 h
 ·exact h2
def vO (L:List (PM n))(i:Nat):Prop:=∀j,j+1<L.length→j<i→∀p q,L[j]?=some p→L[j+1]?=some q→ext p q=0
theorem KE {L:List (PM n)}(h:vO L L.length):Still L:=by
 have:∀(A B:List (PM n)),L=A++B→Still B:=by
  intro A B
  induction B generalizing A with
  |nil=>intro _;exact GX
  |cons p B ih=>
   intro e;have h1:=ih (A++[p]) (by simp[e])
   cases B with
   |nil=>exact BN p
   |cons q B=>
    refine yJ (Tj (h A.length (by rw[e];simp) (by rw[e];simp) p q (by rw[e];simp) (by rw[e];simp))) h1
 exact this [] L rfl
theorem aaw {L:List (PM n)}{j k:Nat}{p q:PM n}(hp:L[j]?=some p)(hq:L[j+1]?=some q)(h:can p q k):Step L ((L.set j (p.dB k)).set (j+1) (q.eA k)):=by
 have hj:j+1<L.length:=(List.getElem?_eq_some_iff.1 hq).1;have e:L=L.take j++p::q::L.drop (j+2):=by
  rw[List.getElem?_eq_getElem qo]at hp;rw[List.getElem?_eq_getElem qo]at hq;injection hp with hp;injection hq with hq;rw[←hp,←hq,←List.drop_eq_getElem_cons,←List.drop_eq_getElem_cons,List.take_append_drop]
 have h1:=(Step.here (L:=L.drop (j+2)) h).ahead (L.take j);rw[←e]at h1;have e2:(L.set j (p.dB k)).set (j+1) (q.eA k)=L.take j++p.dB k::q.eA k::L.drop (j+2):=by
  conv=>lhs;rw[e]
  have hl:(L.take j).length=j:=by rw[List.length_take];omega
  rw[List.set_append_right _ _ qo,hl,Nat.sub_self,List.set_cons_zero,List.set_append_right _ _ qo,hl,show j+1-j=1 by omega,List.set_cons_succ,List.set_cons_zero]
 rw[e2];exact h1
def jB (out:List Int)(x:Int):List Int:=if out≠[]∧out.getLast?.getD 0= -x then out.dropLast else out++[x]
def red (w:List Int):List Int:=w.foldl jB []
def K5 (w:List Int):Prop:=∀j,j+1<w.length→w.getD j 0≠ -(w.getD (j+1) 0)
theorem Ca {out:List Int}(h:K5 out)(x:Int):K5 (jB out x):=by
 unfold jB
 split
 ·intro j hj
  rw[List.length_dropLast]at hj;have h1:=h j qo
  simp only[List.getD,List.getElem?_dropLast]
  rw[if_pos qo,if_pos qo];exact h1
 ·rename_i hn
  intro j hj;rw[List.length_append,List.length_singleton]at hj
  by_cases hj2:j+1<out.length
  ·have h1:=h j hj2
   simp only[List.getD]
   rw[List.getElem?_append_left qo,List.getElem?_append_left hj2];exact h1
  ·have e:j+1=out.length:=qo
   intro e2;have h3:(out++[x]).getD (j+1) 0=x:=by simp[List.getD,e]
   have h4:(out++[x]).getD j 0=out.getLast?.getD 0:=by
    simp only[List.getD]
    rw[List.getElem?_append_left qo,List.getLast?_eq_getElem?,show out.length-1=j by omega]
   rw[h3,h4]at e2;exact hn ⟨fun h0=>by rw[h0]at e;simp at e,e2⟩
theorem Cb {out:List Int}(h:K5 out)(w:List Int):K5 (w.foldl jB out):=by
 induction w generalizing out with
 |nil=>exact h
 |cons x w ih=>exact ih (Ca h x)
theorem abG (w:List Int):K5 (red w):=Cb (fun j hj=>by simp at hj) w
theorem aa2 (out w:List Int)(h:K5 (out++w)):w.foldl jB out=out++w:=by
 induction w generalizing out with
 |nil=>simp
 |cons x w ih=>
  rw[List.foldl_cons];have hs:jB out x=out++[x]:=by
   unfold jB;rw[if_neg];rintro⟨h0,h1⟩;have hl:0<out.length:=List.length_pos_iff.2 h0;refine h (out.length-1) (by simp;omega) ?_;have h3:(out++x::w).getD (out.length-1+1) 0=x:=by
    simp only[List.getD]
    rw[show out.length-1+1=out.length by omega,List.getElem?_append_right ql]
    simp
   have h4:(out++x::w).getD (out.length-1) 0=out.getLast?.getD 0:=by
    simp only[List.getD]
    rw[List.getElem?_append_left qo,List.getLast?_eq_getElem?]
   rw[h3,h4];exact h1
  rw[hs,ih (out++[x]) (by simpa using h)]
  simp
theorem aaz (w:List Int):red (red w)=red w:=by
 have:=aa2 [] (red w) (by simpa using abG w)
 simpa [red]using this
theorem Qy (w:List Int)(x:Int):red (red w++[x])=red (w++[x]):=by
 have h:∀v:List Int,red (v++[x])=jB (red v) x:=fun v=>by simp[red,List.foldl_append]
 rw[h,h,aaz]
theorem ig (out:List Int)(x:Int):(jB out x).length≤out.length+1:=by
 unfold jB
 split<;>simp<;>omega
theorem sM (w:List Int):(red w).length≤w.length:=by
 have:∀(w out:List Int),(w.foldl jB out).length≤out.length+w.length:=by
  intro w
  induction w with
  |nil=>intro out;simp
  |cons x w ih=>
   intro out;have h1:=ih (jB out x);have h2:=ig out x
   simp only[List.foldl_cons,List.length_cons]
   omega
 simpa [red]using this w []
theorem Qz {out:List Int}{x y:Int}(h:y∈jB out x):y∈out∨y=x:=by
 unfold jB at h
 split at h
 ·exact .inl ((List.dropLast_sublist out).subset h)
 ·rcases List.mem_append.1 h with h|h
  ·exact .inl h
  ·exact .inr (List.mem_singleton.1 h)
theorem QG {w:List Int}{y:Int}(h:y∈red w):y∈w:=by
 have:∀(w out:List Int),y∈w.foldl jB out→y∈out∨y∈w:=by
  intro w
  induction w with
  |nil=>intro out h;exact .inl h
  |cons x w ih=>
   intro out h
   rcases ih _ h with h|h
   ·rcases Qz h with h|h
    ·exact .inl h
    ·exact .inr (h▸List.mem_cons_self)
   ·exact .inr (List.mem_cons_of_mem _ h)
 rcases this w [] h with h|h
 ·cases h
 ·exact h
end Go.Proofs.YtdnmhhohcedjbaaGreat.G
namespace Go.Proofs.YtdnmhhohcedjbaaGreat
open Go.RowKit
theorem lO.rd {w w':World}{L:List Int}{e:Ending}(h:lO w L e w'):∃A c,e=.returned (.slice A L.length c)∧w'.ownsRow w.heap.size 2 1 (.slice A L.length c) L.length (ints L)∧cX w' A L∧Below w.heap.size w w':=by
 obtain⟨v,rfl,ho,hb⟩:=h;obtain⟨A,c,rfl⟩:=aF ho;exact⟨A,c,rfl,ho,iD ho,hb⟩
theorem qU {B:Nat}{w:World}{A:Option Addr}{n c:Nat}{e:TypeId}{xs:List Value}(ho:w.ownsRow B e 1 (.slice A n c) n xs){N b:Nat}(hb:Fb A N b):B≤b∧b<w.heap.size:=by
 obtain⟨_,a,rfl,rfl⟩:=hb;exact ho.lt a.block rfl
def Hf (k:Nat):List Int:=(List.range k).map fun(j:Nat)=>(j:Int)
def XW (n k:Nat):List Int:=(List.range k).map fun(j:Nat)=>(n:Int)-1-j
theorem Qp (k:Nat):Hf (k+1)=Hf k++[(k:Int)]:=by simp[Hf,List.range_succ]
theorem Tt (n k:Nat):XW n (k+1)=XW n k++[(n:Int)-1-k]:=by simp[XW,List.range_succ]
theorem aas (n:Nat):Hf n=G.pl (G.one:G.PM n):=rfl
theorem aa9 (n:Nat):XW n n=G.pl (G.del:G.PM n):=G.Wo (by simp[XW]) fun i hi=>by
 simp only[XW,List.getD,List.getElem?_map,List.getElem?_range hi,Option.map_some,Option.getD_some]
 show _=((G.rev n i:Nat):Int);rw[G.dZ hi];omega
theorem BY (n:Nat)(w:World)(hn:n≤1000):Calls Tryz.prog 164 #[.int .i64 n] w (lO w (G.pl (G.one:G.PM n))):=by
 obtain⟨i0,hi,iz,is,ib⟩:=info_parts info64;have HO:=qh (World.ownsRow_made (e:=2) (size:=1) w #[] 0 ql qm rfl);have HB:=qh ((Below.refl w.heap.size w).alloc ql (.cells #[] 2))
 go_enter Tryz.func164,Tryz.ntmps164
 go_wp2_with fail
 go_loopw [3,4] (fun v x wr=>∃k:Nat,k≤n∧x=.int .i64 k∧Hq (wr.ownsRow w.heap.size 2 1 v k (ints (Hf k)))∧Hq (Below w.heap.size w wr)) (fun _ x _=>n-(intOf x).toNat)
 case atStart=>exact⟨0,Nat.zero_le _,rfl,HO,HB⟩
 case round=>
  obtain⟨k,hk,rfl,aH,HB2⟩:=hrel
  by_cases hlt:k<n
  ·go_wp2_with (at_builtin;go_must (refine bV wr rfl (.tmp 11) (.tmp 13) _ rfl w.heap.size 2 i0 _ 1 8 Tryz.underlying34 hi iz is ib rfl qo u3 k _ rfl aH.o _ 1 1 _ rfl rfl (by simp[Value.oneCell']) qm qo HB2.o.size ?_);intro v' w' hown' hb';have bS:=qh hown';have HB3:=qh (HB2.o.trans hb');clear hown' hb')
   go_roundw
   case rel=>exact⟨k+1,by omega,qg,qh (by rw[Qp,aT];exact bS.o),HB3⟩
   case measure=>exact qs
  ·obtain rfl:n=k:=qo
   go_wp2
   go_ret
   exact⟨_,rfl,by rw[G.aC,←aas];exact aH.o,HB2.o⟩
theorem KK (n:Nat)(w:World)(hn:n≤1000):Calls Tryz.prog 166 #[.int .i64 n] w (lO w (G.pl (G.del:G.PM n))):=by
 obtain⟨i0,hi,iz,is,ib⟩:=info_parts info64;have HO:=qh (World.ownsRow_made (e:=2) (size:=1) w #[] 0 ql qm rfl);have HB:=qh ((Below.refl w.heap.size w).alloc ql (.cells #[] 2))
 go_enter Tryz.func166,Tryz.ntmps166
 go_wp2_with fail
 go_loopg [3,4] n (fun q v x wr=>∃k:Nat,k≤n∧q=n-k∧x=.int .i64 ((n:Int)-1-k)∧Hq (wr.ownsRow w.heap.size 2 1 v k (ints (XW n k)))∧Hq (Below w.heap.size w wr))
 case atStart=>exact⟨0,Nat.zero_le _,rfl,qg,HO,HB⟩
 case round=>
  obtain⟨k,hk,hq,rfl,aH,HB2⟩:=hrel
  by_cases hlt:k<n
  ·have b1:(0:Int)≤(n:Int)-1-k:=qo
   go_wp2_with (at_builtin;go_must (refine bV wr rfl (.tmp 12) (.tmp 14) _ rfl w.heap.size 2 i0 _ 1 8 Tryz.underlying34 hi iz is ib rfl qo u3 k _ rfl aH.o _ 1 1 _ rfl rfl (by simp[Value.oneCell']) qm qo HB2.o.size ?_);intro v' w' hown' hb';have bS:=qh hown';have HB3:=qh (HB2.o.trans hb');clear hown' hb')
   go_roundg (n-(k+1))
   case rel=>exact⟨k+1,by omega,rfl,qg,qh (by rw[Tt,aT];exact bS.o),HB3⟩
   case measure=>omega
  ·obtain rfl:n=k:=qo
   go_wp2
   go_ret
   exact⟨_,rfl,by rw[G.aC,←aa9];exact aH.o,HB2.o⟩
def mG {n:Nat}(p:G.PM n)(k:Nat):List Int:=(List.range n).map fun j=>if p.g j<k then(p.g j:Int)else 0
theorem SN {n:Nat}(p:G.PM n):mG p 0=List.replicate n 0:=by
 apply List.ext_getElem?
 intro j
 by_cases hj:j<n
 ·simp[mG,hj]
 ·simp[mG,hj]
theorem SO {n:Nat}(p:G.PM n){k:Nat}(hk:k<n):(mG p k).set (p.f k) (k:Int)=mG p (k+1):=by
 apply List.ext_getElem?
 intro j;rw[List.getElem?_set]
 by_cases hjk:p.f k=j
 ·have hj:j<n:=by rw[←hjk];exact p.lt hk
  have hg:p.g j=k:=by rw[←hjk,p.gf]
  rw[if_pos hjk,if_pos (by simp[mG];omega)]
  simp[mG,hj,hg]
 ·rw[if_neg hjk]
  by_cases hj:j<n
  ·have hg:p.g j≠k:=fun e=>hjk (by rw[←e,p.fg])
   simp only[mG,List.getElem?_map,List.getElem?_range hj,Option.map_some]
   by_cases h:p.g j<k
   ·rw[if_pos h,if_pos qo]
   ·rw[if_neg h,if_neg qo]
  ·simp[mG,hj]
theorem WP {n:Nat}(p:G.PM n):mG p n=G.pl p.inv:=by
 refine List.map_congr_left fun j hj=>?_;rw[if_pos (p.OQ (List.mem_range.1 hj))]
 rfl
theorem QS {n:Nat}(p:G.PM n)(A:OA)(c:Nat)(w:World)(ha:cX w A (G.pl p))(hn:n≤1000):Calls Tryz.prog 214 #[.slice A n c] w (lO w (G.pl p.inv)):=by
 obtain⟨cs,hcs,hcv,hmk⟩:=wJ n qo;have HO:=qh (p8 w cs n qo hcs hcv);have HB:=qh ((Below.refl w.heap.size w).alloc ql (.cells cs 2));have HA:=qh ha;clear hcv ha
 go_enter Tryz.func214,Tryz.ntmps214
 go_wp2_with fail
 clear hmk
 go_loopw [4] (fun x wr=>∃k:Nat,k≤n∧x=.int .i64 k∧Hq (wr.ownsRow w.heap.size 2 1 (.slice (some ⟨w.heap.size,0,none⟩) n n) n (ints (mG p k)))∧Hq (Below w.heap.size w wr)) (fun x _=>n-(intOf x).toNat)
 case atStart=>exact⟨0,Nat.zero_le _,rfl,qh (by rw[SN];exact HO.o),HB⟩
 case round=>
  obtain⟨k,hk,rfl,aH,HB2⟩:=hrel
  by_cases hlt:k<n
  ·obtain⟨ga,o,rfl,hg,hr⟩:=HA.o (by rw[G.aC];omega)
   have hc:=aD HB2.o hg (hr k (by rw[G.aC];exact hlt))
   simp only[G.j6 p hlt]at hc
   have hp:=p.lt hlt;have bN:=qh (SO p hlt);obtain⟨P,hP⟩:=qx (p.f k);rw[←hP]at hp bN
   simp only[←hP]at hc
   have hl:(ints (mG p k)).length=n:=by simp[ints,mG]
   have hcell:wr.cell? ⟨w.heap.size,P,none⟩=(ints (mG p k))[P]?:=aH.o.cellAt P qo;obtain⟨y,hy⟩:∃y,wr.cell? ⟨w.heap.size,P,none⟩=some y:=⟨_,hcell.trans (List.getElem?_eq_getElem qo)⟩;have hf:=aH.o.frozenAt P;have HST:=qh (aH.o.stored P (.int .i64 k)).1;have HB3:=qh (Below.setCell (p:=⟨w.heap.size,P,none⟩) HB2.o ql (.int .i64 k));have b1:(0:Int)≤(k:Int):=qo;have b2:(k:Int)<(n:Int):=qo;have b3:(0:Int)≤(P:Int):=qo;have b4:(P:Int)<(n:Int):=qo;clear hr hP hcell hl
   go_wp2
   go_roundw
   case rel=>exact⟨k+1,by omega,qg,qh (by
    have h:=HST.o;rw[show(ints (mG p k)).set P (.int .i64 k)=ints ((mG p k).set P k)by simp[ints,List.map_set],bN.o]at h;exact h),HB3⟩
   case measure=>exact qs
  ·obtain rfl:n=k:=qo
   go_wp2
   go_ret
   exact⟨_,rfl,by rw[G.aC,←WP];exact aH.o,HB2.o⟩
theorem I7 {n:Nat}(p:G.PM n)(A:OA)(c:Nat)(w:World)(ha:cX w A (G.pl p))(hn:n≤1000):Calls Tryz.prog 206 #[.slice A n c] w (lO w (G.gO p.f n)):=by
 obtain⟨i0,hi,iz,is,ib⟩:=info_parts info64;have HO:=qh (World.ownsRow_made (e:=2) (size:=1) w #[] 0 ql qm rfl);have HB:=qh ((Below.refl w.heap.size w).alloc ql (.cells #[] 2));have HA:=qh ha;clear ha
 go_enter Tryz.func206,Tryz.ntmps206
 go_wp2_with fail
 go_loopw [3,4] (fun v x wr=>∃k:Nat,1≤k∧(k≤n∨k=1)∧x=.int .i64 k∧Hq (wr.ownsRow w.heap.size 2 1 v (G.gO p.f k).length (ints (G.gO p.f k)))∧Hq (Below w.heap.size w wr)) (fun _ x _=>n-(intOf x).toNat)
 case atStart=>exact⟨1,Nat.le_refl _,.inr rfl,rfl,HO,HB⟩
 case round=>
  obtain⟨k,hk1,hk,rfl,aH,HB2⟩:=hrel
  by_cases hlt:k<n
  ·obtain⟨ga,o,rfl,hg,hr⟩:=HA.o (by rw[G.aC];omega)
   have hc:=aD HB2.o hg (hr k (by rw[G.aC];exact hlt));have hc0:=aD HB2.o hg (hr (k-1) (by rw[G.aC];omega))
   simp only[G.j6 p hlt]at hc
   simp only[G.j6 p (show k-1<n by omega)]at hc0
   have bN:=qh (show G.gO p.f (k+1)=G.gO p.f k++(if 1≤k∧p.f k<p.f (k-1)then [(k:Int)]else [])from rfl);have hll:=G.pV p.f k;obtain⟨j,rfl⟩:∃j,k=j+1:=⟨k-1,by omega⟩;rw[Nat.add_sub_cancel]at hc0 bN;obtain⟨P,hP⟩:=qx (p.f (j+1));obtain⟨Q,hQ⟩:=qx (p.f j);rw[←hP,←hQ]at bN
   simp only[←hP]at hc
   simp only[←hQ]at hc0
   have e1:((j+1:Nat):Int)-1=(j:Int):=qo;have b1:(0:Int)≤((j+1:Nat):Int):=qo;have b2:((j+1:Nat):Int)<(n:Int):=qo;have b3:(0:Int)≤(j:Int):=qo;have b4:(j:Int)<(n:Int):=qo;clear hr hP hQ
   by_cases hd:P<Q
   ·have eS:=qh (show G.gO p.f (j+1+1)=G.gO p.f (j+1)++[((j+1:Nat):Int)]by rw[bN.o,if_pos ⟨by omega,hd⟩])
    have hdb:(P:Int)<(Q:Int):=qo
    go_wp2_with fail
    go_quiet (fail)
    have bP:=qh (own_drewN aH.o nq);have aR:=qh (Below.drewN' HB2.o nq)
    go_wp2_with (at_builtin;go_must (refine bV (wr.drewN nq) rfl (.tmp 22) (.tmp 24) _ rfl w.heap.size 2 i0 _ 1 8 Tryz.underlying34 hi iz is ib rfl qo u3 _ _ rfl bP.o _ 1 1 _ rfl rfl (by simp[Value.oneCell']) qm qo aR.o.size ?_);intro v' w' hown' hb';have bS:=qh hown';have HB3:=qh (aR.o.trans hb');clear hown' hb')
    go_roundw
    case rel=>exact⟨j+1+1,by omega,.inl qo,qg,qh (by rw[eS.o,aT,List.length_append];exact bS.o),HB3⟩
    case measure=>exact qs
   ·have eS:=qh (show G.gO p.f (j+1+1)=G.gO p.f (j+1)by rw[bN.o,if_neg (fun h=>hd h.2),List.append_nil])
    have hdb:¬(P:Int)<(Q:Int):=qo
    go_wp2_with fail
    go_quiet (fail)
    go_wp2_with fail
    go_roundw
    case rel=>exact⟨j+1+1,by omega,.inl qo,qg,qh (by rw[eS.o];exact own_drewN aH.o nq),qh (Below.drewN' HB2.o nq)⟩
    case measure=>exact qs
  ·go_wp2
   go_ret
   have e:G.gO p.f k=G.gO p.f n:=by
    rcases hk with hk|rfl
    ·rw[show k=n by omega]
    ·rcases(show n=0∨n=1 by omega)with rfl|rfl
     ·rfl
     ·rfl
   exact⟨_,rfl,by rw[←e];exact aH.o,HB2.o⟩
theorem UN {n:Nat}(p:G.PM n)(A:OA)(c:Nat)(w:World)(ha:cX w A (G.pl p))(hn:n≤1000):Calls Tryz.prog 205 #[.slice A n c] w (lO w (G.gO p.g n)):=by
 have HA:=qh ha;clear ha
 go_enter Tryz.func205,Tryz.ntmps205
 go_wp2_with fail
 refine(QS p A c _ HA.o hn).mono ?_;rintro e w1 h1;obtain⟨A1,c1,rfl,_,hr1,hb1⟩:=h1.rd;have HR1:=qh hr1;have HB1:=qh hb1;clear h1 hr1 hb1;rw[G.aC]
 go_wp2_with fail
 refine(I7 p.inv A1 c1 _ HR1.o hn).mono ?_;rintro e w2 ⟨v2,rfl,ho2,hb2⟩;have aH:=qh ho2;have HB2:=HB1.st hb2;have HZ:=qh HB1.o.size;clear ho2 hb2
 go_wp2
 go_ret
 exact⟨_,rfl,eF aH.o HZ.o,HB2.o⟩
def gQ {n:Nat}(p:G.PM n)(k:Nat):List Int:=(List.range n).map fun j=>if j<k then(p.flip.f j:Int)else 0
theorem OU {n:Nat}(p:G.PM n):gQ p 0=List.replicate n 0:=by
 apply List.ext_getElem?
 intro j
 by_cases hj:j<n
 ·simp[gQ,hj]
 ·simp[gQ,hj]
theorem OV {n:Nat}(p:G.PM n){k:Nat}(hk:k<n):(gQ p k).set k (p.flip.f k:Int)=gQ p (k+1):=by
 apply List.ext_getElem?
 intro j;rw[List.getElem?_set]
 by_cases hjk:k=j
 ·subst hjk
  rw[if_pos rfl,if_pos (by simp[gQ];omega)]
  simp[gQ,hk]
 ·rw[if_neg hjk]
  by_cases hj:j<n
  ·simp only[gQ,List.getElem?_map,List.getElem?_range hj,Option.map_some]
   by_cases h:j<k
   ·rw[if_pos h,if_pos qo]
   ·rw[if_neg h,if_neg qo]
  ·simp[gQ,hj]
theorem T4 {n:Nat}(p:G.PM n):gQ p n=G.pl p.flip:=by
 refine List.map_congr_left fun j hj=>?_;rw[if_pos (List.mem_range.1 hj)]
theorem jw {n:Nat}(p:G.PM n)(A:OA)(c:Nat)(w:World)(ha:cX w A (G.pl p))(hn:n≤1000):Calls Tryz.prog 191 #[.slice A n c] w (lO w (G.pl p.flip)):=by
 obtain⟨cs,hcs,hcv,hmk⟩:=wJ n qo;have HO:=qh (p8 w cs n qo hcs hcv);have HB:=qh ((Below.refl w.heap.size w).alloc ql (.cells cs 2));have HA:=qh ha;clear hcv ha
 go_enter Tryz.func191,Tryz.ntmps191
 go_wp2_with fail
 clear hmk
 go_loopw [5] (fun x wr=>∃k:Nat,k≤n∧x=.int .i64 k∧Hq (wr.ownsRow w.heap.size 2 1 (.slice (some ⟨w.heap.size,0,none⟩) n n) n (ints (gQ p k)))∧Hq (Below w.heap.size w wr)) (fun x _=>n-(intOf x).toNat)
 case atStart=>exact⟨0,Nat.zero_le _,rfl,qh (by rw[OU];exact HO.o),HB⟩
 case round=>
  obtain⟨k,hk,rfl,aH,HB2⟩:=hrel
  by_cases hlt:k<n
  ·obtain⟨ga,o,rfl,hg,hr⟩:=HA.o (by rw[G.aC];omega)
   have hm:n-1-k<n:=qo;have hc:=aD HB2.o hg (hr (n-1-k) (by rw[G.aC];exact hm))
   simp only[G.j6 p hm]at hc
   have hp:=p.lt hm;have bN:=qh (OV p hlt);have ZS:=qh (show(p.flip.f k:Int)=(n:Int)-1-(p.f (n-1-k):Nat)by
    show((G.rev n (p.f (G.rev n k)):Nat):Int)=_;rw[G.dZ hlt,G.dZ hp];omega)
   obtain⟨P,hP⟩:=qx (p.f (n-1-k));obtain⟨m,hmm⟩:=qx (n-1-k);rw[←hP]at hp ZS
   simp only[←hP]at hc
   rw[←hmm]at hc hm;have pK:=qh (show(gQ p k).set k ((n:Int)-1-P)=gQ p (k+1)by rw[←ZS.o];exact bN.o);clear ZS bN;have hl:(ints (gQ p k)).length=n:=by simp[ints,gQ]
   have hcell:wr.cell? ⟨w.heap.size,k,none⟩=(ints (gQ p k))[k]?:=aH.o.cellAt k qo;obtain⟨y,hy⟩:∃y,wr.cell? ⟨w.heap.size,k,none⟩=some y:=⟨_,hcell.trans (List.getElem?_eq_getElem qo)⟩;have hf:=aH.o.frozenAt k;have HST:=qh (aH.o.stored k (.int .i64 ((n:Int)-1-P))).1;have HB3:=qh (Below.setCell (p:=⟨w.heap.size,k,none⟩) HB2.o ql (.int .i64 ((n:Int)-1-P)));have e1:(n:Int)-1-(k:Int)=(m:Int):=qo;have b1:(0:Int)≤(k:Int):=qo;have b2:(k:Int)<(n:Int):=qo;have b3:(0:Int)≤(m:Int):=qo;have b4:(m:Int)<(n:Int):=qo;clear hr hP hcell hl hmm
   go_wp2
   go_roundw
   case rel=>exact⟨k+1,by omega,qg,qh (by
    have h:=HST.o;rw[show(ints (gQ p k)).set k (.int .i64 ((n:Int)-1-P))=ints ((gQ p k).set k ((n:Int)-1-P))by simp[ints,List.map_set],pK.o]at h;exact h),HB3⟩
   case measure=>exact qs
  ·obtain rfl:n=k:=qo
   go_wp2
   go_ret
   exact⟨_,rfl,by rw[G.aC,←T4];exact aH.o,HB2.o⟩
theorem VW {n:Nat}(p:G.PM n){k:Nat}(hk:1≤k)(hn:k<n):((G.pl p).set (k-1) (p.f k:Int)).set k (p.f (k-1):Int)=G.pl (p.eA k):=by
 refine G.Wo (by simp[G.aC]) fun i hi=>?_;obtain⟨h1,h2,h3⟩:=G.FB p hk hn
 simp only[List.getD,List.getElem?_set,List.length_set,G.aC]
 by_cases e1:k=i
 ·subst e1
  rw[if_pos rfl,if_pos hn,h2]
  rfl
 ·rw[if_neg e1]
  by_cases e2:k-1=i
  ·subst e2
   rw[if_pos rfl,if_pos hi,h1]
   rfl
  ·rw[if_neg e2,h3 i qo qo]
   have:=G.j6 p hi
   simpa [List.getD]using this
theorem UO {n:Nat}(p:G.PM n)(k:Nat)(A:OA)(c:Nat)(w:World)(ha:cX w A (G.pl p))(hn:n≤1000)(hk:1≤k)(hkn:k<n):Calls Tryz.prog 193 #[.int .i64 k,.slice A n c] w (lO w (G.pl (p.eA k))):=by
 have HA:=qh ha;have hown:=CW A c (G.pl p) w ha (by rw[G.aC];omega);rw[G.aC]at hown;have HOWN:=qh hown;obtain⟨ga,o,rfl,hg,hr⟩:=ha (by rw[G.aC];omega);have HK:=qh (hr k (by rw[G.aC];exact hkn));have Ag:=qh (hr (k-1) (by rw[G.aC];omega));clear hown ha hr
 go_enter Tryz.func193,Tryz.ntmps193
 go_wp2_with fail
 refine HOWN.o.mono ?_;rintro e w1 ⟨v1,rfl,ho1,hb1⟩;rw[G.aC]at ho1;obtain⟨g1,c1,rfl⟩:∃g1 c1,v1=.slice (some ⟨g1,0,none⟩) n c1:=by
  rcases ho1.2 with⟨_,h0⟩|⟨g1,cap,_,e,_⟩
  ·omega
  ·exact⟨g1,cap,e⟩
 have hg1:=ho1.lt g1 rfl;have k1:=aD hb1 hg HK.o;have k2:=aD hb1 hg Ag.o
 simp only[G.j6 p hkn]at k1
 simp only[G.j6 p (show k-1<n by omega)]at k2
 obtain⟨j,rfl⟩:∃j,k=j+1:=⟨k-1,by omega⟩;rw[Nat.add_sub_cancel]at k2;have HPB:=qh (VW p hk hkn);rw[Nat.add_sub_cancel]at HPB;obtain⟨P,hP⟩:=qx (p.f (j+1));obtain⟨Q,hQ⟩:=qx (p.f j);rw[←hP,←hQ]at HPB
 simp only[←hP]at k1
 simp only[←hQ]at k2
 have hl:(ints (G.pl p)).length=n:=by simp[ints,G.aC]
 obtain⟨y1,hy1⟩:∃y,w1.cell? ⟨g1,j,none⟩=some y:=⟨_,(ho1.cellAt j qo).trans (List.getElem?_eq_getElem qo)⟩;obtain⟨y2,hy2⟩:∃y,w1.cell? ⟨g1,j+1,none⟩=some y:=⟨_,(ho1.cellAt (j+1) qo).trans (List.getElem?_eq_getElem qo)⟩;have f1:=ho1.frozenAt j;have f2:=ho1.frozenAt (j+1);have jM:=qh ((ho1.stored j (.int .i64 P)).1.stored (j+1) (.int .i64 Q)).1;have hB:=(hb1.setCell (p:=⟨g1,j,none⟩) hg1.1 (.int .i64 P)).setCell (p:=⟨g1,j+1,none⟩) hg1.1 (.int .i64 Q);have HB:=qh hB;have hne:ga≠g1:=qo;have e1:((j+1:Nat):Int)-1=(j:Int):=qo;have b1:(0:Int)≤(j:Int):=qo;have b2:(j:Int)<(n:Int):=qo;have b3:(0:Int)≤((j+1:Nat):Int):=qo;have b4:((j+1:Nat):Int)<(n:Int):=qo;clear hP hQ hl hB ho1 hb1
 go_wp2
 go_ret
 refine⟨_,rfl,?_,HB.o⟩;have h:=jM.o;rw[show((ints (G.pl p)).set j (.int .i64 P)).set (j+1) (.int .i64 Q)=ints (((G.pl p).set j P).set (j+1) Q)by simp[ints,List.map_set],HPB.o]at h;rw[G.aC];exact h
end Go.Proofs.YtdnmhhohcedjbaaGreat
namespace Go.Proofs.YtdnmhhohcedjbaaGreat
open Go.RowKit
def gH {n:Nat}(p:G.PM n)(k i:Nat):List Int:=(List.range n).map fun j=>if j<i then((p.dB k).f j:Int)else(p.f j:Int)
theorem TF {n:Nat}(p:G.PM n)(k:Nat):gH p k 0=G.pl p:=by
 simp[gH,G.pl]
theorem TH {n:Nat}(p:G.PM n)(k:Nat){i:Nat}(hi:i<n):(gH p k i).set i ((p.dB k).f i:Int)=gH p k (i+1):=by
 apply List.ext_getElem?
 intro j;rw[List.getElem?_set]
 by_cases hjk:i=j
 ·subst hjk
  rw[if_pos rfl,if_pos (by simp[gH];omega)]
  simp[gH,hi]
 ·rw[if_neg hjk]
  by_cases hj:j<n
  ·simp only[gH,List.getElem?_map,List.getElem?_range hj,Option.map_some]
   by_cases h:j<i
   ·rw[if_pos h,if_pos qo]
   ·rw[if_neg h,if_neg qo]
  ·simp[gH,hj]
theorem TG {n:Nat}(p:G.PM n)(k:Nat){i:Nat}(h:(p.dB k).f i=p.f i):gH p k i=gH p k (i+1):=by
 refine List.map_congr_left fun j hj=>?_
 by_cases h1:j<i
 ·rw[if_pos h1,if_pos qo]
 ·by_cases h2:j=i
  ·subst h2
   rw[if_neg h1,if_pos qo,h]
  ·rw[if_neg h1,if_neg qo]
theorem YD {n:Nat}(p:G.PM n)(k:Nat):gH p k n=G.pl (p.dB k):=by
 refine List.map_congr_left fun j hj=>?_;rw[if_pos (List.mem_range.1 hj)]
theorem xN {n:Nat}(p:G.PM n)(k:Nat)(A:OA)(c:Nat)(w:World)(ha:cX w A (G.pl p))(hn:n≤1000)(hk:1≤k)(hkn:k<n):Calls Tryz.prog 163 #[.slice A n c,.int .i64 k] w (lO w (G.pl (p.dB k))):=by
 have HA:=qh ha;have hown:=CW A c (G.pl p) w ha (by rw[G.aC];omega);rw[G.aC]at hown;have HOWN:=qh hown;obtain⟨ga,o,rfl,hg,hr⟩:=ha (by rw[G.aC];omega);have HR:=qh hr;obtain⟨j,rfl⟩:∃j,k=j+1:=⟨k-1,by omega⟩;clear hown ha hr
 go_enter Tryz.func163,Tryz.ntmps163
 go_wp2_with fail
 refine HOWN.o.mono ?_;rintro e w1 ⟨v1,rfl,ho1,hb1⟩;rw[G.aC]at ho1;obtain⟨g1,c1,rfl⟩:∃g1 c1,v1=.slice (some ⟨g1,0,none⟩) n c1:=by
  rcases ho1.2 with⟨_,h0⟩|⟨g1,cap,_,e,_⟩
  ·omega
  ·exact⟨g1,cap,e⟩
 have s8:=qh (ho1.lt g1 rfl);have aO:=qh ho1;have HB1:=qh hb1;clear ho1 hb1 HOWN
 go_wp2_with fail
 go_loopw [6] (fun x wr=>∃i:Nat,i≤n∧x=.int .i64 i∧Hq (wr.ownsRow w.heap.size 2 1 (.slice (some ⟨g1,0,none⟩) n c1) n (ints (gH p (j+1) i)))∧Hq (Below w.heap.size w wr)) (fun x _=>n-(intOf x).toNat)
 case atStart=>exact⟨0,Nat.zero_le _,rfl,qh (by rw[TF];exact aO.o),HB1⟩
 case round=>
  obtain⟨i,hi,rfl,aH,HB2⟩:=hrel
  by_cases hlt:i<n
  ·have hc:=aD HB2.o hg (HR.o i (by rw[G.aC];exact hlt))
   simp only[G.j6 p hlt]at hc
   have hp:=p.lt hlt;have bN:=qh (TH p (j+1) hlt);have sY:=qh (fun h=>TG p (j+1) (i:=i) h);have HV:=qh (show(p.dB (j+1)).f i=G.bR n (j+1) (p.f i)from rfl);have HT:=qh (G.sH (n:=n) (k:=j+1) hk hkn);obtain⟨P,hP⟩:=qx (p.f i);rw[←hP]at hp HV sY
   simp only[←hP]at hc
   have hl:(ints (gH p (j+1) i)).length=n:=by simp[ints,gH]
   obtain⟨y,hy⟩:∃y,wr.cell? ⟨g1,i,none⟩=some y:=⟨_,(aH.o.cellAt i qo).trans (List.getElem?_eq_getElem qo)⟩;have hf:=aH.o.frozenAt i;have hg1:=s8.o;have hne:ga≠g1:=qo;have e1:((j+1:Nat):Int)-1=(j:Int):=qo;have b1:(0:Int)≤(i:Int):=qo;have b2:(i:Int)<(n:Int):=qo;clear hP hl
   by_cases h1:P=j
   ·have pK:=qh (show(gH p (j+1) i).set i ((j+1:Nat):Int)=gH p (j+1) (i+1)by
     rw[←bN.o,HV.o,h1];have:=HT.o.1;rw[Nat.add_sub_cancel]at this;rw[this])
    have HST:=qh (aH.o.stored i (.int .i64 ((j+1:Nat):Int))).1;have HB3:=qh (Below.setCell (p:=⟨g1,i,none⟩) HB2.o hg1.1 (.int .i64 ((j+1:Nat):Int)));have h1b:((P:Int)==(j:Int))=true:=by simp[h1]
    have h1c:(P:Int)=(j:Int):=qo;clear bN sY HV HT
    go_wp2
    go_roundw
    case rel=>exact⟨i+1,by omega,qg,qh (by
     have h:=HST.o;rw[show(ints (gH p (j+1) i)).set i (.int .i64 ((j+1:Nat):Int))=ints ((gH p (j+1) i).set i ((j+1:Nat):Int))by simp[ints,List.map_set],pK.o]at h;exact h),HB3⟩
    case measure=>exact qs
   have h1b:((P:Int)==(j:Int))=false:=by rw[beq_eq_false_iff_ne];omega
   have h1c:¬(P:Int)=(j:Int):=qo
   by_cases h2:P=j+1
   ·have pK:=qh (show(gH p (j+1) i).set i (j:Int)=gH p (j+1) (i+1)by
     rw[←bN.o,HV.o,h2,HT.o.2.1,Nat.add_sub_cancel])
    have HST:=qh (aH.o.stored i (.int .i64 (j:Int))).1;have HB3:=qh (Below.setCell (p:=⟨g1,i,none⟩) HB2.o hg1.1 (.int .i64 (j:Int)));have XI:((P:Int)==((j+1:Nat):Int))=true:=by simp[h2]
    have h2c:(P:Int)=((j+1:Nat):Int):=qo;clear bN sY HV HT
    go_wp2
    go_roundw
    case rel=>exact⟨i+1,by omega,qg,qh (by
     have h:=HST.o;rw[show(ints (gH p (j+1) i)).set i (.int .i64 (j:Int))=ints ((gH p (j+1) i).set i (j:Int))by simp[ints,List.map_set],pK.o]at h;exact h),HB3⟩
    case measure=>exact qs
   have XI:((P:Int)==((j+1:Nat):Int))=false:=by rw[beq_eq_false_iff_ne];omega
   have h2c:¬(P:Int)=((j+1:Nat):Int):=qo;have HS2:=qh (sY.o (by rw[HV.o];exact HT.o.2.2 _ qo qo));clear bN sY HV HT
   go_wp2
   go_roundw
   case rel=>exact⟨i+1,by omega,qg,qh (by rw[←HS2.o];exact aH.o),HB2⟩
   case measure=>exact qs
  ·obtain rfl:n=i:=qo
   go_wp2
   go_ret
   exact⟨_,rfl,by rw[G.aC,←YD];exact aH.o,HB2.o⟩
theorem I8 {n:Nat}(p q:G.PM n)(A B:OA)(c c':Nat)(w:World)(ha:cX w A (G.pl p))(hb:cX w B (G.pl q))(hn:n≤1000):Calls Tryz.prog 192 #[.slice A n c,.slice B n c'] w fun e w'=>e=.returned (.int .i64 (G.ext p q))∧Below w.heap.size w w':=by
 have HA:=qh ha;have HB:=qh hb;clear ha hb
 go_enter Tryz.func192,Tryz.ntmps192
 go_wp2_with fail
 refine(UN p A c _ HA.o hn).mono ?_;rintro e w1 h1;obtain⟨A1,c1,rfl,_,hr1,hb1⟩:=h1.rd;have HR1:=qh hr1;have HB1:=qh hb1;have dX:=qh (Rd.below HB.o hb1);clear h1 hr1 hb1
 go_wp2_with fail
 refine(I7 q B c' _ dX.o hn).mono ?_;rintro e w2 h2;obtain⟨A2,c2,rfl,_,hr2,hb2⟩:=h2.rd;have HR2:=qh hr2;have HB2:=HB1.st hb2;have HR3:=qh (Rd.below HR1.o hb2);have hs1:=G.pV p.g n;have hs2:=G.pV q.f n;have tA:=qh (show G.ext p q=G.fm (G.gO p.g n) (G.gO q.f n)from rfl);clear h2 hr2 hb2 HR1 HB dX;obtain⟨E,hE⟩:=qx (G.gO p.g n);obtain⟨S,hS⟩:=qx (G.gO q.f n)
 simp only[←hE,←hS]at HR2 HR3 tA hs1 hs2 ⊢
 clear hE hS
 go_wp2_with fail
 go_loopw [7] (fun x wr=>∃i:Nat,i≤S.length∧x=.int .i64 i∧wr=w2∧Hq (∀y∈S.take i,y∈E)) (fun x _=>S.length-(intOf x).toNat)
 case atStart=>exact⟨0,Nat.zero_le _,rfl,rfl,qh qj⟩
 case round=>
  obtain⟨i,hi,rfl,rfl,HX⟩:=hrel
  by_cases hlt:i<S.length
  ·obtain⟨gs,o,rfl,hg,hr⟩:=HR2.o qo
   have hc:=hr i hlt;have HT:=qh (show S.take (i+1)=S.take i++[S.getD i 0]by rw[List.take_succ_eq_append_getElem hlt];simp[List.getD,hlt]);have HD:=qh (show S.drop i=S.getD i 0::S.drop (i+1)by rw[List.drop_eq_getElem_cons hlt];simp[List.getD,hlt]);obtain⟨y,hy⟩:=qx (S.getD i 0)
   simp only[←hy]at hc HT HD
   have b1:(0:Int)≤(i:Int):=qo;have b2:(i:Int)<(S.length:Int):=qo;clear hr hy
   go_wp2_with fail
   refine(Du A1 c1 E y _ HR3.o qo).mono ?_;rintro e w3 ⟨rfl,rfl⟩
   by_cases hm:y∈E
   ·rw[decide_eq_true hm]
    go_wp2
    go_roundw
    case rel=>exact⟨i+1,by omega,qg,by trivial,qh (by
     rw[HT.o];intro z hz
     rcases List.mem_append.1 hz with h|h
     ·exact HX.o z h
     ·rw[List.mem_singleton.1 h]
      exact hm)⟩
    case measure=>exact qs
   ·rw[decide_eq_false hm]
    have HXY:=qh (show G.ext p q=y by
     have h1:=tA.o;rw[←List.take_append_drop i S,G.OT _ _ _ HX.o,HD.o]at h1;rw[h1]
     simp only[G.fm]
     rw[if_neg hm])
    go_wp2
    go_ret
    exact⟨by rw[HXY.o];rfl,HB2.o⟩
  ·obtain rfl:S.length=i:=qo
   have HX0:=qh (show G.ext p q=0 by
    have h1:=tA.o;have h2:=HX.o;rw[List.take_length]at h2;rw[h1,←List.append_nil S,G.OT _ _ _ h2]
    rfl)
   go_wp2
   go_ret
   exact⟨by rw[HX0.o];rfl,HB2.o⟩
open Classical in
theorem SM {n:Nat}(p q:G.PM n)(A B:OA)(c c':Nat)(w:World)(ha:cX w A (G.pl p))(hb:cX w B (G.pl q))(hn:n≤1000):Calls Tryz.prog 194 #[.slice A n c,.slice B n c'] w fun e w'=>e=.returned (.bool (decide (p=q)))∧∃k,w'=w.drewN k:=by
 have hs:=kg A B c c' (G.pl p) (G.pl q) w ha hb (by rw[G.aC];omega) (by rw[G.aC];omega);rw[G.aC,G.aC]at hs;have HS:=qh hs;have HD:=qh (show decide (G.pl p=G.pl q)=decide (p=q)from decide_eq_decide.2 ⟨G.NN,fun h=>by rw[h]⟩);clear ha hb hs
 go_enter Tryz.func194,Tryz.ntmps194
 go_wp2_with fail
 refine HS.o.mono ?_;rintro e w1 ⟨rfl,k,rfl⟩;rw[HD.o]
 go_wp2
 go_ret
 exact⟨rfl,k,rfl⟩
end Go.Proofs.YtdnmhhohcedjbaaGreat
namespace Go.Proofs.YtdnmhhohcedjbaaGreat
open Go.RowKit
theorem VX {B:Nat}{w:World}{e:TypeId}{g n c:Nat}{xs:List Value}(h:w.ownsRow B e 1 (.slice (some ⟨g,0,none⟩) n c) n xs){m:Nat}(hm:m≤n):w.ownsRow B e 1 (.slice (some ⟨g,0,none⟩) m c) m (xs.take m):=by
 refine⟨by have:=h.1;simp;omega,?_⟩
 rcases h.2 with⟨h0,_⟩|⟨g',cap,cur,e',hb,hg,h1,h2,h3,h4⟩
 ·cases h0
 ·injection e' with e1 _ e2
  injection e1 with e1;injection e1 with e1;subst e1;subst e2;refine .inr ⟨_,_,cur,rfl,hb,hg,by omega,h2,h3,?_⟩;rw[←h4,List.take_take]
  congr 1
  omega
theorem pY (w:List Int):(G.inv w).length=w.length:=by simp[G.inv]
theorem Rx {w:List Int}{k:Nat}(hk:k<w.length):(G.inv w).take (k+1)=(G.inv w).take k++[-(w.getD (w.length-1-k) 0)]:=by
 rw[List.take_succ_eq_append_getElem (by rw[pY];exact hk)]
 congr 2
 simp[G.inv,List.getElem_reverse,List.getD,show w.length-1-k<w.length by omega]
def FD (L:List Int):Prop:=∀x∈L,-100000≤x∧x≤100000
theorem FD.get {L:List Int}(h:FD L)(k:Nat): -100000≤L.getD k 0∧L.getD k 0≤100000:=by
 by_cases hk:k<L.length
 ·have:=h L[k] (List.getElem_mem hk)
  simp only[List.getD,List.getElem?_eq_getElem hk,Option.getD_some]
  exact this
 ·simp[List.getD,List.getElem?_eq_none (Nat.le_of_not_lt hk)]
theorem jy (x:Int)(w:World)(hx: -4000000000≤x∧x≤4000000000):Calls Tryz.prog 162 #[.int .i64 x] w fun e w'=>e=.returned (.int .i64 x.natAbs)∧w=w':=by
 by_cases h:x<0
 ·have HN:=qh (show-x=(x.natAbs:Int)by omega)
  go_enter Tryz.func162,Tryz.ntmps162
  go_wp2
  go_ret
  exact⟨by rw[←HN.o];rfl,rfl⟩
 ·have HN:=qh (show x=(x.natAbs:Int)by omega)
  go_enter Tryz.func162,Tryz.ntmps162
  go_wp2
  go_ret
  exact⟨by rw[←HN.o];rfl,rfl⟩
theorem QU (L:List Int)(A:OA)(c:Nat)(w:World)(ha:cX w A L)(hn:L.length≤100000)(hs:FD L):Calls Tryz.prog 135 #[.slice A L.length c] w (lO w (G.inv L)):=by
 obtain⟨i0,hi,iz,is,ib⟩:=info_parts info64;have HO:=qh (World.ownsRow_made (e:=2) (size:=1) w #[] 0 ql qm rfl);have HB:=qh ((Below.refl w.heap.size w).alloc ql (.cells #[] 2));have HA:=qh ha;have HS:=qh hs;have HN:=qh (fun k hk=>Rx (w:=L) (k:=k) hk);have lA:=qh (pY L);obtain⟨n,hnl⟩:=qx (L.length);obtain⟨I,hI⟩:=qx (G.inv L);rw[←hnl]at hn HN lA ⊢;rw[←hI]at HN lA;have qZ:=qh hnl;have HI:=qh hI;clear ha hs hnl hI
 go_enter Tryz.func135,Tryz.ntmps135
 go_wp2_with fail
 go_loopg [3,4] n (fun q v x wr=>∃k:Nat,k≤n∧q=n-k∧x=.int .i64 ((n:Int)-1-k)∧Hq (wr.ownsRow w.heap.size 2 1 v k (ints (I.take k)))∧Hq (Below w.heap.size w wr))
 case atStart=>exact⟨0,Nat.zero_le _,rfl,qg,HO,HB⟩
 case round=>
  obtain⟨k,hk,hq,rfl,aH,HB2⟩:=hrel
  by_cases hlt:k<n
  ·have b1:(0:Int)≤(n:Int)-1-k:=qo
   obtain⟨m,hm⟩:=qx (n-1-k);have e1:(n:Int)-1-k=(m:Int):=qo;obtain⟨ga,o,rfl,hg,hr⟩:=HA.o (by rw[←qZ.o];omega);have hc:=aD HB2.o hg (hr m (by rw[←qZ.o];omega));have hz:=HS.o.get m;have bN:=qh (show I.take (k+1)=I.take k++[-(L.getD m 0)]by rw[HN.o k hlt,hm]);have hmm:=hm;obtain⟨y,hy⟩:=qx (L.getD m 0)
   simp only[←hy]at hc hz bN
   have b2:(m:Int)<(n:Int):=qo;have b3:(0:Int)≤(m:Int):=qo;rw[hmm]at hc;clear hr hy
   go_wp2_with (at_builtin;go_must (refine bV wr rfl (.tmp 13) (.tmp 19) _ rfl w.heap.size 2 i0 _ 1 8 Tryz.underlying34 hi iz is ib rfl qo u3 k _ rfl aH.o _ 1 1 _ rfl rfl (by simp[Value.oneCell']) qm qo HB2.o.size ?_);intro v' w' hown' hb';have bS:=qh hown';have HB3:=qh (HB2.o.trans hb');clear hown' hb')
   go_roundg (n-(k+1))
   case rel=>exact⟨k+1,by omega,rfl,qg,qh (by rw[bN.o,aT];exact bS.o),HB3⟩
   case measure=>omega
  ·obtain rfl:n=k:=qo
   go_wp2
   go_ret
   refine⟨_,rfl,?_,HB2.o⟩;have h:=aH.o;rw[←HI.o,lA.o];rwa[List.take_of_length_le (by have:=lA.o;omega)]at h
theorem FX (L:List Int):(ints L).take (L.length-1)=ints L.dropLast:=by
 simp[ints,List.dropLast_eq_take,List.map_take]
theorem UP (L:List Int)(A:OA)(c:Nat)(w:World)(ha:cX w A L)(hn:L.length≤100000)(hs:FD L):Calls Tryz.prog 105 #[.slice A L.length c] w (lO w (G.red L)):=by
 obtain⟨i0,hi,iz,is,ib⟩:=info_parts info64;have HO:=qh (World.ownsRow_made (e:=2) (size:=1) w #[] 0 ql qm rfl);have HB:=qh ((Below.refl w.heap.size w).alloc ql (.cells #[] 2));have HA:=qh ha;have HS:=qh hs;have bN:=qh (show∀k,k<L.length→G.red (L.take (k+1))=G.jB (G.red (L.take k)) (L.getD k 0)from fun k hk=>by
  show List.foldl G.jB [] (L.take (k+1))=G.jB (List.foldl G.jB [] (L.take k)) _;rw[List.take_succ_eq_append_getElem hk,List.foldl_append]
  simp only[List.foldl_cons,List.foldl_nil,List.getD,List.getElem?_eq_getElem hk,Option.getD_some])
 have J8:=qh (show∀k,(G.red (L.take k)).length≤k from fun k=>by
  have:=G.sM (L.take k);rw[List.length_take]at this;omega)
 have HSR:=qh (show∀k,FD (G.red (L.take k))from fun k x hx=>hs x (List.mem_of_mem_take (G.QG hx)));clear ha hs
 go_enter Tryz.func105,Tryz.ntmps105
 go_wp2_with fail
 go_loopw [3,4] (fun v x wr=>∃k:Nat,k≤L.length∧x=.int .i64 k∧Hq (wr.ownsRow w.heap.size 2 1 v (G.red (L.take k)).length (ints (G.red (L.take k))))∧Hq (Below w.heap.size w wr)) (fun _ x _=>L.length-(intOf x).toNat)
 case atStart=>exact⟨0,Nat.zero_le _,rfl,HO,HB⟩
 case round=>
  obtain⟨k,hk,rfl,aH,HB2⟩:=hrel
  by_cases hlt:k<L.length
  ·obtain⟨ga,o,rfl,hg,hr⟩:=HA.o qo
   have hc:=aD HB2.o hg (hr k hlt);have hz:=HS.o.get k;have HX:=qh (bN.o k hlt);have hle:=J8.o k;have Oz:=qh (HSR.o k);obtain⟨y,hy⟩:=qx (L.getD k 0);obtain⟨R,hR⟩:=qx (G.red (L.take k))
   simp only[←hy,←hR]at hc hz HX aH hle Oz
   have b1:(0:Int)≤(k:Int):=qo;have b2:(k:Int)<(L.length:Int):=qo;clear hr hy hR
   by_cases h0:R.length=0
   ·obtain rfl:R=[]:=List.length_eq_zero_iff.1 h0
    have eI:=qh (show G.red (L.take (k+1))=[y]by rw[HX.o];rfl);obtain⟨A3,c3,rfl,_⟩:=aF aH.o;rw[List.length_nil]at aH ⊢
    go_wp2_with fail
    go_quiet (fail)
    have bP:=qh (own_drewN aH.o nq);have aR:=qh (Below.drewN' HB2.o nq)
    go_wp2_with (at_builtin;go_must (refine bV (wr.drewN nq) rfl (.tmp 34) (.tmp 39) _ rfl w.heap.size 2 i0 _ 1 8 Tryz.underlying34 hi iz is ib rfl qo (.slice A3 0 c3) _ _ rfl bP.o _ 1 1 _ rfl rfl (by simp[Value.oneCell']) qm qo aR.o.size ?_);intro v' w' hown' hb';have bS:=qh hown';have HB3:=qh (aR.o.trans hb');clear hown' hb')
    go_roundw
    case rel=>exact⟨k+1,by omega,qg,qh (by rw[eI.o];exact bS.o),HB3⟩
    case measure=>exact qs
   obtain⟨g1,c1,rfl⟩:∃g1 c1,u3=.slice (some ⟨g1,0,none⟩) R.length c1:=by
    rcases aH.o.2 with⟨_,h⟩|⟨g1,cap,_,e,_⟩
    ·omega
    ·exact⟨g1,cap,e⟩
   obtain⟨r,hr⟩:∃r,R.length=r+1:=⟨R.length-1,by omega⟩;have hl:=aH.o.cellAt r qo;have hlz:=Oz.o.get r;rw[show(ints R)[r]?=some (.int .i64 (R.getD r 0))by simp[ints,List.getD,show r<R.length by omega]]at hl;have yG:=qh (show R.getLast?.getD 0=R.getD r 0 by rw[List.getLast?_eq_getElem?,hr];rfl);obtain⟨z,hzz⟩:=qx (R.getD r 0);rw[←hzz]at hl hlz yG;have mE:=qh (show R≠[]from fun e=>h0 (by rw[e];rfl));have Pd:=qh hr;have b3:(0:Int)≤(r:Int):=qo;have b4:(r:Int)<((r+1:Nat):Int):=qo;have e1:((r+1:Nat):Int)-1=(r:Int):=qo;have e2:(0:Int)<((r+1:Nat):Int):=qo;have hcap:r≤c1:=by
    rcases aH.o.2 with⟨h,_⟩|⟨_,_,_,e,_,_,h,_⟩
    ·cases h
    ·injection e with _ _ e
     omega
   have hd0:decide ((0:Int)<((r+1:Nat):Int))=true:=decide_eq_true e2;rw[hr]at aH hle ⊢;clear hzz hr h0
   by_cases hzy:z= -y
   ·have eI:=qh (show G.red (L.take (k+1))=R.dropLast by
     rw[HX.o];unfold G.jB;rw[if_pos ⟨mE.o,yG.o.trans hzy⟩])
    have cI:=qh (VX aH.o (Nat.le_succ r));have hzb:(z== -y)=true:=by simp[hzy]
    go_wp2_with fail
    go_quiet (fail)
    go_wp2_with fail
    go_roundw
    case rel=>exact⟨k+1,by omega,qg,qh (by
     rw[eI.o,List.length_dropLast,←FX,Pd.o,Nat.add_sub_cancel];exact own_drewN cI.o nq),qh (Below.drewN' HB2.o nq)⟩
    case measure=>exact qs
   ·have eI:=qh (show G.red (L.take (k+1))=R++[y]by
     rw[HX.o];unfold G.jB;rw[if_neg fun h=>hzy (yG.o.symm.trans h.2)])
    have hzb:(z== -y)=false:=by simpa using hzy
    go_wp2_with fail
    go_quiet (fail)
    have bP:=qh (own_drewN aH.o nq);have aR:=qh (Below.drewN' HB2.o nq)
    go_wp2_with (at_builtin;go_must (refine bV (wr.drewN nq) rfl (.tmp 34) (.tmp 39) _ rfl w.heap.size 2 i0 _ 1 8 Tryz.underlying34 hi iz is ib rfl qo (.slice (some ⟨g1,0,none⟩) (r+1) c1) _ _ rfl bP.o _ 1 1 _ rfl rfl (by simp[Value.oneCell']) qm qo aR.o.size ?_);intro v' w' hown' hb';have bS:=qh hown';have HB3:=qh (aR.o.trans hb');clear hown' hb')
    go_roundw
    case rel=>exact⟨k+1,by omega,qg,qh (by rw[eI.o,aT,List.length_append,Pd.o];exact bS.o),HB3⟩
    case measure=>exact qs
  ·obtain rfl:L.length=k:=qo
   go_wp2
   go_ret
   refine⟨_,rfl,?_,HB2.o⟩;have h:=aH.o;rwa[List.take_length]at h
theorem OC:(Tryz.prog.info? 34).map (fun i=>(i.zero,i.size,i.bytes))=some (some (.slice none 0 0),1,24):=by kernel_rfl
theorem eQ.mono {B C:Nat}{v:Value}{Ls:List (List Int)}{As:Nat→Option Addr}{cs:Nat→Nat}{w:World}(h:eQ C v Ls As cs w)(hb:B≤C):eQ B v Ls As cs w:=⟨eF h.own hb,h.rd,h.far⟩
structure PD {n:Nat}(w:World)(A:OA)(L:List (G.PM n))(As:Nat→OA)(cs:Nat→Nat):Prop where
 cell:Rd w A L.length (fun j=>.slice (As j) n (cs j))
 rd:∀j p,L[j]?=some p→cX w (As j) (G.pl p)
section
variable {n:Nat}{w w':World}{A:Option Addr}{L:List (G.PM n)}{As:Nat→Option Addr}{cs:Nat→Nat}{B:Nat}{v:Value}
theorem PD.below (h:PD w A L As cs)(hb:Below w.heap.size w w'):PD w' A L As cs:=⟨h.cell.below hb,fun j p hp=>(h.rd j p hp).below hb⟩
theorem PD.at (h:PD w A L As cs){j:Nat}(hj:j<L.length):∃g o p,A=some ⟨g,o,none⟩∧g<w.heap.size∧L[j]?=some p∧w.cell? ⟨g,o+j,none⟩=some (.slice (As j) n (cs j))∧cX w (As j) (G.pl p):=by
 obtain⟨g,o,e,hg,hr⟩:=h.cell qo;exact⟨g,o,L[j],e,hg,List.getElem?_eq_getElem hj,hr j hj,h.rd j _ (List.getElem?_eq_getElem hj)⟩
theorem yW {j:Nat}{p:G.PM n}(h:L[j]?=some p):(L.map G.pl).getD j []=G.pl p:=by simp[List.getD,h]
theorem QI {j:Nat}(h:j<L.length):((L.map G.pl).getD j []).length=n:=by rw[yW (List.getElem?_eq_getElem h),G.aC]
theorem eQ.Wn {c:Nat}(h:eQ B (.slice A L.length c) (L.map G.pl) As cs w):PD w A L As cs:=by
 refine⟨fun h0=>?_,fun j p hp=>?_⟩
 ·obtain⟨g,cap,e,hg,_⟩:=h.form (by rw[List.length_map];exact h0)
  injection e with e1 _ e2;subst e1 e2;refine⟨g,0,rfl,hg,fun j hj=>?_⟩;have h':eQ B (.slice (some ⟨g,0,none⟩) (L.map G.pl).length c) (L.map G.pl) As cs w:=by rw[List.length_map];exact h
  have h1:=h'.cell (j:=j) (by rw[List.length_map];exact hj);rw[QI hj]at h1;rw[Nat.zero_add];exact h1
 ·have hj:j<L.length:=(List.getElem?_eq_some_iff.1 hp).1
  have:=h.rd j (by rw[List.length_map];exact hj);rwa[yW hp]at this
def Up (C n N:Nat)(As:Nat→OA):Prop:=∀j,j<N→∀b,Fb (As j) n b→C≤b
theorem Up.put {C N:Nat}(h:Up C n N As)(hA:∀b,Fb A n b→C≤b)(i:Nat):Up C n N (fun j=>if j=i then A else As j):=fun j hj b hb=>by
 by_cases e:j=i
 ·simp only[if_pos e]at hb
  exact hA b hb
 ·simp only[if_neg e]at hb
  exact h j hj b hb
theorem Up.snoc {C N M:Nat}(h:Up C n N As)(hA:∀b,Fb A n b→C≤b)(hM:M=N):Up C n (N+1) (fun j=>if j=M then A else As j):=fun j hj b hb=>by
 by_cases e:j=M
 ·simp only[if_pos e]at hb
  exact hA b hb
 ·simp only[if_neg e]at hb
  exact h j qo b hb
theorem Up.mono {C D N:Nat}(h:Up C n N As)(hD:D≤C):Up D n N As:=fun j hj b hb=>Nat.le_trans hD (h j hj b hb)
def afK (w:World)(M:List (G.PM n))(e:Ending)(w':World):Prop:=∃v As cs,e=.returned v∧eQ w.heap.size v (M.map G.pl) As cs w'∧Up w.heap.size n M.length As∧Below w.heap.size w w'
end
theorem QT {n:Nat}(L:List (G.PM n))(A:OA)(c:Nat)(As:Nat→OA)(cs:Nat→Nat)(w:World)(h:PD w A L As cs)(hn:n≤1000)(hl:L.length≤1000000):
 Calls Tryz.prog 165 #[.slice A L.length c] w (afK w (L.map G.PM.flip)):=by
 obtain⟨i0,hi,iz,is,ib⟩:=info_parts OC;have HO:=qh (World.ownsRow_made (e:=34) (size:=1) w #[] 0 ql qm rfl);have HB:=qh ((Below.refl w.heap.size w).alloc ql (.cells #[] 34));have HR:=qh h;clear h
 go_enter Tryz.func165,Tryz.ntmps165
 go_wp2_with fail
 go_loopw [3,4] (fun v x wr=>∃(k:Nat) (Bs:Nat→OA) (ds:Nat→Nat),k≤L.length∧x=.int .i64 k∧Hq (eQ w.heap.size v (((L.take k).map G.PM.flip).map G.pl) Bs ds wr)∧Hq (Up w.heap.size n k Bs)∧Hq (Below w.heap.size w wr)) (fun _ x _=>L.length-(intOf x).toNat)
 case atStart=>exact⟨0,fun _=>none,fun _=>0,Nat.zero_le _,rfl,qh (eQ.nil HO.o _ _),qh (fun j hj=>absurd hj (Nat.not_lt_zero j)),HB⟩
 case round=>
  obtain⟨k,Bs,ds,hk,rfl,HL,HU,HB2⟩:=hrel
  by_cases hlt:k<L.length
  ·obtain⟨g,o,p,rfl,hg,hp,hc0,hrd⟩:=HR.o.at hlt
   have hc:=aD HB2.o hg hc0;have iJ:=qh (show cX wr (As k) (G.pl p)from(aQ _ _ _).1 _ _ hrd fun b hb=>HB2.o.block b ((aQ _ _ _).2 w b hrd hb));have bN:=qh (show((L.take (k+1)).map G.PM.flip).map G.pl=((L.take k).map G.PM.flip).map G.pl++[G.pl p.flip]by
    rw[List.take_add_one,hp]
    simp)
   have PV:=qh (show(((L.take k).map G.PM.flip).map G.pl).length=k by simp;omega);obtain⟨Ls,C6⟩:∃Ls,Ls=((L.take k).map G.PM.flip).map G.pl:=⟨_,rfl⟩;rw[←C6]at HL bN PV;have hlk:=PV.o;have b1:(0:Int)≤(k:Int):=qo;have b2:(k:Int)<(L.length:Int):=qo;clear C6 hc0 hrd
   go_wp2_with fail
   refine(jw p (As k) (cs k) _ iJ.o hn).mono ?_;rintro e w2 h2;obtain⟨A2,c2,rfl,ho2,hr2,hb2⟩:=h2.rd;have HR2:=qh hr2;have aH:=qh ho2;have HL2:=qh (HL.o.below hb2);have HB3:=HB2.st hb2;clear h2 hr2 hb2 ho2;rw[G.aC]
   go_wp2_with (at_builtin;go_must (refine cB w2 rfl (.tmp 12) (.tmp 18) _ rfl w.heap.size 34 i0 _ 1 24 Tryz.underlying54 hi iz is ib rfl qo u3 Ls.length _ rfl HL2.o.own _ 1 1 _ rfl rfl (by simp[Value.oneCell']) qm qo HB3.o.size ?_);intro v' w' hown' hf' hat';have HOWN':=qh hown';have gX:=qh hf';have nE:=qh hat';clear hown' hf' hat')
   have qZ:=qh (HL2.o.snoc HR2.o (c:=c2) (fun b hb he=>by
    have h1:=qU aH.o hb;have h2:=(HL.o.own.lt b he).2;omega) (by rw[G.aC];exact HOWN'.o) gX.o nE.o)
   have HUA:=qh (show∀b,Fb A2 n b→w.heap.size≤b from fun b hb=>by
    rw[←G.aC (p:=p.flip)]at hb;have h1:=qU aH.o hb;have h2:=HB2.o.size;omega)
   have BG:=qh (HB3.o.trans (gX.o.own HL2.o.own HB3.o.size))
   go_wp2_with fail
   go_roundw
   case rel=>exact⟨k+1,_,_,by omega,qg,qh (by rw[bN.o];exact qZ.o),qh (HU.o.snoc HUA.o PV.o),BG⟩
   case measure=>exact qs
  ·obtain rfl:L.length=k:=qo
   go_wp2
   go_ret
   refine⟨_,Bs,ds,rfl,?_,by rw[List.length_map];exact HU.o,HB2.o⟩;have:=HL.o;rwa[List.take_length]at this
section
variable {n N g cap:Nat}{w w':World}{A:Option Addr}{L:List (G.PM n)}{As:Nat→Option Addr}{cs:Nat→Nat}{B:Nat}{v:Value}
theorem aaA:((List.range (L.map G.pl).length).map fun j=>Value.slice (As j) ((L.map G.pl).getD j []).length (cs j))=(List.range L.length).map fun j=>Value.slice (As j) n (cs j):=by
 rw[List.length_map];exact List.map_congr_left fun j hj=>by rw[QI (List.mem_range.1 hj)]
theorem ach (ho:w'.ownsRow B 34 1 v L.length ((List.range L.length).map fun j=>Value.slice (As j) n (cs j)))(hr:∀j p,L[j]?=some p→cX w (As j) (G.pl p))(hb:Below w.heap.size w w')(hB:w.heap.size≤B):eQ B v (L.map G.pl) As cs w':=by
 have hj':∀j,j<(L.map G.pl).length→j<L.length:=fun j hj=>by rwa[List.length_map]at hj
 refine⟨by rw[aaA,List.length_map];exact ho,fun j hj=>?_,fun j hj b hF he=>?_⟩
 ·have hp:=List.getElem?_eq_getElem (hj' j hj)
  rw[yW hp];exact(hr j _ hp).below hb
 ·have hp:=List.getElem?_eq_getElem (hj' j hj)
  rw[yW hp]at hF;have h1:=(aQ _ _ _).2 w b (hr j _ hp) hF;have h2:=(ho.lt b he).1;omega
theorem p9 (h:eQ B (.slice (some ⟨g,0,none⟩) N cap) (L.map G.pl) As cs w)(hN:L.length=N){j:Nat}{p:G.PM n}(hp:L[j]?=some p):w.cell? ⟨g,j,none⟩=some (.slice (As j) n (cs j))∧cX w (As j) (G.pl p)∧w.frozen? ⟨g,j,none⟩=false:=by
 subst hN;have hj:j<L.length:=(List.getElem?_eq_some_iff.1 hp).1;have h':eQ B (.slice (some ⟨g,0,none⟩) (L.map G.pl).length cap) (L.map G.pl) As cs w:=by rw[List.length_map];exact h
 have h1:=h'.cell (j:=j) (by rw[List.length_map];exact hj);rw[QI hj]at h1;have h2:=h.rd j (by rw[List.length_map];exact hj);rw[yW hp]at h2;exact⟨h1,h2,h'.frozen j⟩
theorem sj (h:eQ B (.slice (some ⟨g,0,none⟩) N cap) (L.map G.pl) As cs w)(hN:L.length=N){i:Nat}(hi:i<N){A:Option Addr}{p:G.PM n}{c:Nat}(hA:cX w A (G.pl p))(hv:∀b,Fb A n b→b≠g):
 eQ B (.slice (some ⟨g,0,none⟩) N cap) ((L.set i p).map G.pl) (fun j=>if j=i then A else As j) (fun j=>if j=i then c else cs j) (w.setCell ⟨g,i,none⟩ (.slice A n c)):=by
 subst hN;have h':eQ B (.slice (some ⟨g,0,none⟩) (L.map G.pl).length cap) (L.map G.pl) As cs w:=by rw[List.length_map];exact h
 have h1:=h'.put (c:=c) (i:=i) (by rw[List.length_map];exact hi) hA (by rw[G.aC];exact hv);rw[G.aC,List.length_map]at h1;rw[List.map_set];exact h1
end
theorem VK {n:Nat}{L:List (G.PM n)}{i:Nat}{p q:G.PM n}(h:G.vO L i)(hp:L[i]?=some p)(hq:L[i+1]?=some q)(he:G.ext p q=0):G.vO L (i+1):=fun j hj hji p' q' hp' hq'=>by
 by_cases ahH:j<i
 ·exact h j hj ahH p' q' hp' hq'
 ·obtain rfl:j=i:=qo
  rw[hp]at hp';rw[hq]at hq';injection hp' with hp';injection hq' with hq';rw[←hp',←hq',he]
theorem gu {n:Nat}{L:List (G.PM n)}{i:Nat}(h:G.vO L i)(hi:L.length≤i+1):G.Still L:=G.KE fun j hj _=>h j hj qo
section
variable {n:Nat}(T:List (G.PM n))
theorem Ip:G.strip (T++[G.one])=G.strip T∧G.cnt (T++[G.one])=G.cnt T:=by
 constructor
 ·simp[G.strip]
 ·simp[G.cnt]
theorem Ir (h:(G.del:G.PM n)≠G.one):G.strip (T++[G.del])=G.strip T∧G.cnt (T++[G.del])=G.cnt T+1:=by
 constructor
 ·simp[G.strip]
 ·simp[G.cnt,h]
theorem Iq {p:G.PM n}(h:p≠G.one)(h2:p≠G.del):G.strip (T++[p])=G.strip T++[p]∧G.cnt (T++[p])=G.cnt T:=by
 constructor
 ·simp[G.strip,h,h2]
 ·simp[G.cnt,h2]
theorem Nv:G.cnt T≤T.length:=by
 unfold G.cnt;exact List.length_filter_le _ _
end
def afJ {n:Nat}(C:Nat)(w:World)(M:List (G.PM n))(e:Ending)(w':World):Prop:=∃v As cs,e=.returned (.tuple #[.int .i64 (G.cnt M:Nat),v])∧eQ w.heap.size v ((G.strip M).map G.pl) As cs w'∧Up C n (G.strip M).length As∧Below w.heap.size w w'
theorem UL {n:Nat}(L:List (G.PM n))(A:OA)(c:Nat)(As:Nat→OA)(cs:Nat→Nat)(w:World)(h:PD w A L As cs)(hn:n≤1000)(hl:L.length≤1000000)(C:Nat)(hC:C≤w.heap.size)(hU:Up C n L.length As):
 Calls Tryz.prog 167 #[.int .i64 n,.slice A L.length c] w (afJ C w (G.nf L)):=by
 obtain⟨i0,hi,iz,is,ib⟩:=info_parts OC;have HO:=qh (World.ownsRow_made (e:=34) (size:=1) w #[] 0 ql qm rfl);have HB:=qh ((Below.refl w.heap.size w).alloc ql (.cells #[] 34));have HR:=qh h;have HR1:=qh (h.below HB.o);have HU:=qh hU;clear h hU
 go_enter Tryz.func167,Tryz.ntmps167
 go_wp2_with (at_builtin;go_must (refine cW (w.alloc (.cells #[] 34)) rfl (.tmp 13) (.tmp 14) _ rfl w.heap.size 34 i0 _ 1 24 Tryz.underlying54 hi iz is ib rfl qo _ 0 [] rfl HO.o A L.length c (fun j=>.slice (As j) n (cs j)) rfl (by rw[Nat.mul_one];exact HR1.o.cell) (fun j=>rfl) qm qo qj ?_);intro v' w' hown' hfr;have HOWN':=qh hown';have iL:=qh hfr;clear hown' hfr)
 have HB1:=qh (HB.o.trans (iL.o.own HO.o qj));have xC:=qh (ach (L:=L) (As:=As) (cs:=cs) (v:=v') (by
  have ho:=HOWN'.o;rw[Nat.zero_add,List.nil_append,Nat.mul_one]at ho;exact ho) HR.o.rd HB1.o ql)
 obtain⟨A6,c6,rfl⟩:∃A6 c6,v'=.slice A6 L.length c6:=by
  have ho:=HOWN'.o;rw[Nat.zero_add]at ho;exact aF ho
 clear HOWN' iL HR1 HR HO HB
 go_wp2_with fail
 go_loopg [7,8,9] (G.mu L+1) (fun q b i l wr=>∃(L1:List (G.PM n)) (CP:Nat→OA) (cs1:Nat→Nat) (ch:Bool),b=.bool ch∧q=(if ch then G.mu L1+1 else 0)∧Hq (ch=false→G.Still L1)∧Hq (G.Steps L L1)∧Hq (eQ w.heap.size (.slice A6 L.length c6) (L1.map G.pl) CP cs1 wr)∧Hq (Up C n L.length CP)∧Hq (Below w.heap.size w wr))
 case atStart=>exact⟨L,As,cs,true,rfl,rfl,qh (fun h=>by cases h),qh (.refl _),xC,HU,HB1⟩
 case round=>
  obtain⟨L1,CP,cs1,ch,rfl,hq,HST,KY,HL,HU1,cS⟩:=hrel;have rA:=qh KY.o.length
  cases ch with
  |true=>
   clear HST
   go_wp2_with fail
   go_loopg [7,8,9] L.length (fun q b i l wr=>∃(k:Nat) (L2:List (G.PM n)) (Q5:Nat→OA) (cs2:Nat→Nat) (ch:Bool),k≤L.length∧q=L.length-k∧i=.int .i64 k∧b=.bool ch∧Hq (G.Steps L1 L2)∧Hq ((ch=false∧L2=L1∧G.vO L1 k)∨(ch=true∧G.mu L2<G.mu L1))∧Hq (eQ w.heap.size (.slice A6 L.length c6) (L2.map G.pl) Q5 cs2 wr)∧Hq (Up C n L.length Q5)∧Hq (Below w.heap.size w wr))
   case atStart=>exact⟨0,L1,CP,cs1,false,Nat.zero_le _,rfl,rfl,rfl,qh (.refl _),qh (.inl ⟨rfl,rfl,fun j _ h=>absurd h (Nat.not_lt_zero j)⟩),HL,HU1,cS⟩
   case round=>
    obtain⟨k,L2,Q5,cs2,ch,hk,hq2,rfl,rfl,HS2,j9,HL2,GB,HB2⟩:=hrel;have eS:=qh (HS2.o.length.trans rA.o)
    by_cases hlt:k+1<L.length
    ·have hlt1:k<L.length:=qo
     obtain⟨p,hp⟩:∃p,L2[k]?=some p:=⟨_,List.getElem?_eq_getElem (by have:=eS.o;omega)⟩;obtain⟨r,hr⟩:∃r,L2[k+1]?=some r:=⟨_,List.getElem?_eq_getElem (by have:=eS.o;omega)⟩;obtain⟨g6,rfl⟩:∃g6,A6=some ⟨g6,0,none⟩:=by
      obtain⟨g6,_,e,_⟩:=HL2.o.form (by rw[List.length_map];have:=eS.o;omega);injection e with e _ _;exact⟨g6,e⟩
     obtain⟨k1,r1,_⟩:=p9 HL2.o eS.o hp;obtain⟨k2,r2,_⟩:=p9 HL2.o eS.o hr;have tA:=qh (I8 p r (Q5 k) (Q5 (k+1)) (cs2 k) (cs2 (k+1)) wr.drew (r1.drewN 1) (r2.drewN 1) hn);have HPP:=qh hp;have HRR:=qh hr;have b1:(0:Int)≤(k:Int):=qo;have b2:(k:Int)<(L.length:Int):=qo;have b3:(0:Int)≤(k:Int)+1:=qo;have b4:(k:Int)+1<(L.length:Int):=qo;clear hp hr r1 r2
     go_wp2_with fail
     have s1:IntKind.i64.wrap ((k:Int)+1)=(k:Int)+1:=IntWalk.i64_in _ qo
     go_region_held3 (fun w'=>w'.cell? ⟨g6,k,none⟩=some (.slice (Q5 k) n (cs2 k))∧w'.cell? ⟨g6,k+1,none⟩=some (.slice (Q5 (k+1)) n (cs2 (k+1)))) (go_keep) ((go_at_call 192;refine tA.o.mono ?_;rintro e w4 ⟨rfl,hb4⟩;have hb5:Below wr.heap.size wr w4:=(Below.refl wr.heap.size wr).drew.trans hb4;have pM:=qh (HL2.o.below hb5);have aR:=HB2.st hb5;have k1:=aD hb5 (World.block_lt_of_cell? wr _ k1) k1;have k2:=aD hb5 (World.block_lt_of_cell? wr _ k2) k2;clear hb4 hb5))
     rename_i hHeld
     clear hHeld k1 k2 tA s1
     rename World=>w4
     go_wp2_with fail
     go_loopg [7,9] (G.mu L2) (fun q b l wr=>∃(L3:List (G.PM n)) (Aw:Nat→OA) (Nr:Nat→Nat) (ch:Bool) (p r:G.PM n),b=.bool ch∧q=G.mu L3∧Hq (L3[k]?=some p)∧Hq (L3[k+1]?=some r)∧l=.int .i64 (G.ext p r)∧Hq (G.Steps L1 L3)∧Hq ((ch=false∧L3=L1∧G.vO L1 k)∨(ch=true∧G.mu L3<G.mu L1))∧Hq (eQ w.heap.size (.slice (some ⟨g6,0,none⟩) L.length c6) (L3.map G.pl) Aw Nr wr)∧Hq (Up C n L.length Aw)∧Hq (Below w.heap.size w wr))
     case atStart=>exact⟨L2,Q5,cs2,ch,p,r,rfl,rfl,HPP,HRR,rfl,HS2,j9,pM,GB,aR⟩
     case round=>
      clear pM aR HL2 j9 HS2 HPP HRR eS;obtain⟨L3,Aw,Nr,ch3,p,r,rfl,hq3,yD,HR3,rfl,TN,HC3,E6,HU3,HB3⟩:=hrel;have qF:=qh (TN.o.length.trans rA.o)
      by_cases hx:G.ext p r=0
      ·have HS4:=qh (show ch3=false→G.vO L1 (k+1)from fun hc=>by
        rcases HC3.o with⟨_,h2,h3⟩|⟨h1,_⟩
        ·exact VK h3 (h2▸yD.o) (h2▸HR3.o) hx
        ·rw[hc]at h1
         cases h1)
       rw[hx]
       go_wp2_with fail
       go_roundg (L.length-(k+1))
       case rel=>exact⟨k+1,L3,Aw,Nr,ch3,by omega,rfl,qg,rfl,TN,qh (by
        rcases HC3.o with⟨h1,h2,h3⟩|h
        ·exact .inl ⟨h1,h2,HS4.o h1⟩
        ·exact .inr h),E6,HU3,HB3⟩
       case measure=>omega
      obtain⟨m,hm,hcan⟩:=G.xu hx;rw[hm];have hm1:=hcan.1;have hm2:=hcan.2.1;have hx1:¬(m:Int)=0:=qo;have hx2:((m:Int)==0)=false:=by rw[beq_eq_false_iff_ne];omega
      obtain⟨k1,r1,f1⟩:=p9 E6.o qF.o yD.o;have mJ:=World.block_lt_of_cell? wr _ k1
      simp only at mJ
      have Un:=qh (G.aaw yD.o HR3.o hcan);have HBH:=qh (xN p m (Aw k) (Nr k) wr r1 hn hm1 hm2);clear r1 hx hm hcan
      go_wp2_with fail
      refine HBH.o.mono ?_;rintro e w5 h5;obtain⟨A5,c5,rfl,vw,qW,hb5⟩:=h5.rd;have Z1:=qh (sj (i:=k) (c:=c5) (E6.o.below hb5) qF.o hlt1 qW (fun b hb he=>by
       rw[←G.aC (p:=p.dB m)]at hb;have:=qU vw hb;omega))
      have aZ:=qh (((HB3.o.trans (hb5.mono HB3.o.size)).setCell (p:=⟨g6,k,none⟩) (E6.o.own.lt g6 rfl).1 (.slice A5 n c5)));have cH:=qh (show∀b,Fb A5 n b→C≤b from fun b hb=>by
       rw[←G.aC (p:=p.dB m)]at hb;have h1:=qU vw hb;have h2:=HB3.o.size;omega)
      have k5:=aD hb5 mJ k1;have f5:=(World.frozen?_of_block (a:=⟨g6,k,none⟩) (hb5.block _ mJ)).trans f1;rw[G.aC];have mK:=qh (show(L3.set k (p.dB m)).length=L.length by rw[List.length_set];exact qF.o);have kV:=qh (show(L3.set k (p.dB m))[k+1]?=some r by rw[List.getElem?_set_ne qo];exact HR3.o);obtain⟨k2,_,_⟩:=p9 E6.o qF.o HR3.o;have k6:=aD hb5 mJ k2;obtain⟨k66,r6,f6⟩:=p9 Z1.o mK.o kV.o
      simp only[show¬(k+1=k)by omega,if_false]at r6 k66
      have dU:=qh (UO r m (Aw (k+1)) (Nr (k+1)) _ r6 hn hm1 hm2);have Lc:g6<(w5.setCell ⟨g6,k,none⟩ (.slice A5 n c5)).heap.size:=World.block_lt_of_cell? _ _ k66;clear h5 vw qW hb5 k1 k2 f1 HBH E6 HB3 r6
      go_wp2_with fail
      refine dU.o.mono ?_;rintro e w7 h7;obtain⟨A7,c7,rfl,IC,tI,bQ⟩:=h7.rd;have Zo:=qh (sj (i:=k+1) (c:=c7) (Z1.o.below bQ) mK.o hlt tI (fun b hb he=>by
       rw[←G.aC (p:=r.eA m)]at hb;have:=qU IC hb;omega))
      have aS:=qh ((aZ.o.trans (bQ.mono aZ.o.size)).setCell (p:=⟨g6,k+1,none⟩) (Z1.o.own.lt g6 rfl).1 (.slice A7 n c7));have BK:=qh (show∀b,Fb A7 n b→C≤b from fun b hb=>by
       rw[←G.aC (p:=r.eA m)]at hb;have h1:=qU IC hb;have h2:=aZ.o.size;omega)
      have k7:=aD bQ Lc k66;have f7:=(World.frozen?_of_block (a:=⟨g6,k+1,none⟩) (bQ.block _ Lc)).trans f6;have hka:(w5.setCell ⟨g6,k,none⟩ (.slice A5 n c5)).cell? ⟨g6,k,none⟩=some (.slice A5 n c5):=by
       have:=(p9 Z1.o mK.o (j:=k) (p:=p.dB m) (by rw[List.getElem?_set_self (by have:=qF.o;omega)])).1
       simpa only[if_true]using this
      have ka:=aD bQ Lc hka;rw[G.aC];clear h7 IC tI bQ k5 k6 k66 f5 f6 hka dU
      go_wp2_with fail
      have HN7:=qh (show((L3.set k (p.dB m)).set (k+1) (r.eA m)).length=L.length by rw[List.length_set];exact mK.o);have HP8:=qh (show((L3.set k (p.dB m)).set (k+1) (r.eA m))[k]?=some (p.dB m)by rw[List.getElem?_set_ne qo,List.getElem?_set_self (by have:=qF.o;omega)]);have KZ:=qh (show((L3.set k (p.dB m)).set (k+1) (r.eA m))[k+1]?=some (r.eA m)by rw[List.getElem?_set_self (by have:=mK.o;omega)]);obtain⟨k8,r8,_⟩:=p9 Zo.o HN7.o HP8.o;obtain⟨k9,r9,_⟩:=p9 Zo.o HN7.o KZ.o
      simp only[show¬(k+1=k)by omega,show¬(k=k+1)by omega,if_false,if_true]at r8 k8 r9 k9
      obtain⟨w8,hw8⟩:=qx (w7.setCell ⟨g6,k+1,none⟩ (.slice A7 n c7));rw[←hw8]at Zo aS k8 k9 r8 r9 ⊢;have tA:=qh (I8 (p.dB m) (r.eA m) A5 A7 c5 c7 w8.drew (r8.drewN 1) (r9.drewN 1) hn);have s1:IntKind.i64.wrap ((k:Int)+1)=(k:Int)+1:=IntWalk.i64_in _ qo;clear hw8 r8 r9 ka k7 f7
      go_region_held3 (fun w'=>w'.cell? ⟨g6,k,none⟩=some (.slice A5 n c5)∧w'.cell? ⟨g6,k+1,none⟩=some (.slice A7 n c7)) (go_keep) ((go_at_call 192;refine tA.o.mono ?_;rintro e w9 ⟨rfl,wO⟩;have hb5:Below w8.heap.size w8 w9:=(Below.refl w8.heap.size w8).drew.trans wO;have HL9:=qh (Zo.o.below hb5);have HB9:=aS.st hb5;have k8:=aD hb5 (World.block_lt_of_cell? w8 _ k8) k8;have k9:=aD hb5 (World.block_lt_of_cell? w8 _ k9) k9;clear wO hb5))
      rename_i hHeld
      clear hHeld tA s1
      go_wp2_with fail
      go_roundg (G.mu ((L3.set k (p.dB m)).set (k+1) (r.eA m)))
      case rel=>exact⟨_,_,_,true,p.dB m,r.eA m,rfl,rfl,HP8,KZ,rfl,qh (TN.o.trans (.one Un.o)),qh (.inr ⟨rfl,by
       have h1:=G.mu_step Un.o
       rcases HC3.o with⟨_,h2,_⟩|⟨_,h2⟩
       ·rw[h2]at h1 ⊢
        exact h1
       ·omega⟩),HL9,qh ((HU3.o.put cH.o k).put BK.o (k+1)),HB9⟩
      case measure=>
       rw[hq3];exact G.mu_step Un.o
    ·have GC:=qh (show ch=false→G.Still L2 from fun hc=>by
      rcases j9.o with⟨_,h2,h3⟩|⟨h1,_⟩
      ·rw[h2]
       exact gu h3 (by have:=rA.o;omega)
      ·rw[hc]at h1
       cases h1)
     have b4:¬(k:Int)+1<(L.length:Int):=qo
     go_wp2_with fail
     go_roundg (if ch then G.mu L2+1 else 0)
     case rel=>exact⟨L2,Q5,cs2,ch,rfl,rfl,GC,qh (KY.o.trans HS2.o),HL2,GB,HB2⟩
     case measure=>
      rcases j9.o with⟨h1,_,_⟩|⟨h1,h2⟩
      ·rw[h1]
       simp at hq ⊢
       first|done|omega
      ·rw[h1]
       simp at hq ⊢
       first|done|omega
  |false=>
   have jM:=qh (HST.o rfl);have iQ:=qh (G.EP KY.o jM.o);have HRP:=qh (show PD wr A6 L1 CP cs1 from by
    have h1:=HL.o;rw[←rA.o]at h1;exact h1.Wn)
   have lA:=qh (show∀k,(G.strip (L1.take k)).length≤k from fun k=>by
    have h1:(G.strip (L1.take k)).length≤(L1.take k).length:=List.length_filter_le _ _;have h2:(L1.take k).length≤k:=by rw[List.length_take];omega
    omega)
   have L9:=qh (show∀k,G.cnt (L1.take k)≤k from fun k=>by
    have h1:=Nv (L1.take k);have h2:(L1.take k).length≤k:=by rw[List.length_take];omega
    omega)
   have bP:=qh (World.ownsRow_made (e:=34) (size:=1) wr #[] 0 ql qm rfl);have aR:=qh ((Below.refl wr.heap.size wr).alloc ql (.cells #[] 34));clear hq HST jM KY HL HB1 xC
   go_wp2_with fail
   rename World=>w0
   go_loopw [10,11,12] (fun pw v x wq=>∃(k:Nat) (Bs:Nat→OA) (ds:Nat→Nat),k≤L.length∧x=.int .i64 k∧pw=.int .i64 (G.cnt (L1.take k):Nat)∧Hq (eQ w0.heap.size v ((G.strip (L1.take k)).map G.pl) Bs ds wq)∧Hq (Up C n (G.strip (L1.take k)).length Bs)∧Hq (Below w0.heap.size w0 wq)) (fun _ _ x _=>L.length-(intOf x).toNat)
   case atStart=>exact⟨0,fun _=>none,fun _=>0,Nat.zero_le _,rfl,rfl,qh (eQ.nil bP.o _ _),qh (fun j hj=>absurd hj (Nat.not_lt_zero j)),aR⟩
   case round=>
    obtain⟨k,Bs,ds,hk,rfl,rfl,HL,Ox,HB2⟩:=hrel;have hcl:=L9.o k
    by_cases hlt:k<L.length
    ·obtain⟨g6,o6,p,rfl,hg,hp,hc0,hrd⟩:=HRP.o.at (j:=k) (by have:=rA.o;omega)
     have k1:=aD HB2.o hg hc0;have iJ:=qh hrd;have HRB:=qh ((aQ _ _ _).2 w0 · hrd);have CG:=qh (show L1.take (k+1)=L1.take k++[p]by rw[List.take_add_one,hp];rfl);have hll:=lA.o k;obtain⟨T,hT⟩:=qx (L1.take k);rw[←hT]at HL hcl CG hll Ox
     simp only[←hT]
     have b1:(0:Int)≤(k:Int):=qo;have b2:(k:Int)<(L.length:Int):=qo;clear hc0 hrd hT hp;obtain⟨bo,bK⟩:=qx (@decide (p=G.one) (Classical.propDecidable _));have CM:=qh bK;obtain⟨bd,hbd⟩:=qx (@decide (p=G.del) (Classical.propDecidable _));have BI:=qh hbd;clear bK hbd
     go_wp2_with fail
     go_region_held3 (fun w'=>w'.cell? ⟨g6,o6+k,none⟩=some (.slice (CP k) n (cs1 k))) (go_keep) (first
      |(go_at_call 164;refine(BY n _ hn).mono ?_;rintro e w5 h5;obtain⟨A5,c5,rfl,_,qW,hb5⟩:=h5.rd;rw[G.aC];have kV:=qh qW;have hb6:Below wr.heap.size wr w5:=(Below.refl wr.heap.size wr).drew.trans hb5;have aZ:=HB2.st hb6;have GG:=qh (HL.o.below hb6);have k1:=aD hb6 (World.block_lt_of_cell? wr _ k1) k1;have HRW:=qh (show cX w5 (CP k) (G.pl p)from(aQ _ _ _).1 _ _ iJ.o fun b hb=>aZ.o.block b ((aQ _ _ _).2 w0 b iJ.o hb));clear h5 hb5 hb6 qW)
      |(go_at_call 194;refine(SM p G.one (CP k) A5 (cs1 k) c5 _ HRW.o kV.o hn).mono ?_;rintro e w6 ⟨rfl,q6,jU⟩;rw[←CM.o];have bG:=qh (show Below w0.heap.size w0 w6 by rw[jU];exact Below.drewN' aZ.o q6);have E5:=qh (show eQ w0.heap.size u11 ((G.strip T).map G.pl) Bs ds w6 by rw[jU];exact GG.o.drewN q6);have k1:w6.cell? ⟨g6,o6+k,none⟩=some (.slice (CP k) n (cs1 k)):=(by rw[jU];exact k1);clear jU))
     rename_i hHeld
     clear hHeld
     rename World=>wX
     have bA:=bG;have HLX:=E5;clear bG E5 aZ GG kV HRW HB2 HL
     cases bo with
     |true=>
      have Aa:=qh (show p=G.one from @of_decide_eq_true _ (Classical.propDecidable _) CM.o.symm);have J3:=qh (Ip T)
      go_wp2_with fail
      go_roundw
      case rel=>exact⟨k+1,Bs,ds,by omega,qg,by rw[CG.o,Aa.o,J3.o.2],qh (by rw[CG.o,Aa.o,J3.o.1];exact HLX.o),qh (by rw[CG.o,Aa.o,J3.o.1];exact Ox.o),bA⟩
      case measure=>exact qs
     |false=>
      have Aa:=qh (show p≠G.one from @of_decide_eq_false _ (Classical.propDecidable _) CM.o.symm)
      go_wp2_with fail
      go_region_held3 (fun w'=>w'.cell? ⟨g6,o6+k,none⟩=some (.slice (CP k) n (cs1 k))) (go_keep) (first
      |(go_at_call 166;refine(KK n _ hn).mono ?_;rintro e w5 h5;obtain⟨A5,c5,rfl,_,qW,hb5⟩:=h5.rd;rw[G.aC];have kV:=qh qW;have hb6:Below wX.heap.size wX w5:=(Below.refl wX.heap.size wX).drew.trans hb5;have aZ:=bA.st hb6;have GG:=qh (HLX.o.below hb6);have k1:=aD hb6 (World.block_lt_of_cell? wX _ k1) k1;have HRW:=qh (show cX w5 (CP k) (G.pl p)from(aQ _ _ _).1 _ _ iJ.o fun b hb=>aZ.o.block b ((aQ _ _ _).2 w0 b iJ.o hb));clear h5 hb5 hb6 qW)
      |(go_at_call 194;refine(SM p G.del (CP k) A5 (cs1 k) c5 _ HRW.o kV.o hn).mono ?_;rintro e w6 ⟨rfl,q6,jU⟩;rw[←BI.o];have bG:=qh (show Below w0.heap.size w0 w6 by rw[jU];exact Below.drewN' aZ.o q6);have E5:=qh (show eQ w0.heap.size u11 ((G.strip T).map G.pl) Bs ds w6 by rw[jU];exact GG.o.drewN q6);have k1:w6.cell? ⟨g6,o6+k,none⟩=some (.slice (CP k) n (cs1 k)):=(by rw[jU];exact k1);clear jU))
      rename_i hHeld
      clear hHeld
      rename World=>wY
      have jO:=bG;have Ad:=E5;clear bG E5 aZ GG kV HRW bA HLX
      cases bd with
      |true=>
       have Ac:=qh (show p=G.del from @of_decide_eq_true _ (Classical.propDecidable _) BI.o.symm);have J3:=qh (Ir T (Ac.o▸Aa.o))
       go_wp2_with fail
       go_roundw
       case rel=>exact⟨k+1,Bs,ds,by omega,qg,by rw[CG.o,Ac.o,J3.o.2];rfl,qh (by rw[CG.o,Ac.o,J3.o.1];exact Ad.o),qh (by rw[CG.o,Ac.o,J3.o.1];exact Ox.o),jO⟩
       case measure=>exact qs
      |false=>
       have Ac:=qh (show p≠G.del from @of_decide_eq_false _ (Classical.propDecidable _) BI.o.symm);have J3:=qh (Iq T Aa.o Ac.o);have HRY:=qh (show cX wY (CP k) (G.pl p)from(aQ _ _ _).1 _ _ iJ.o fun b hb=>jO.o.block b ((aQ _ _ _).2 w0 b iJ.o hb));have E0:=qh (show((G.strip T).map G.pl).length=(G.strip T).length from List.length_map _);have hsp:=E0.o;obtain⟨Ls,C6⟩:∃Ls,Ls=(G.strip T).map G.pl:=⟨_,rfl⟩;rw[←C6]at Ad hsp;have E4:=qh C6;have HSQ:=qh hsp;clear C6
       go_wp2_with (at_builtin;go_must (refine cB wY rfl (.tmp 73) (.tmp 78) _ rfl w0.heap.size 34 i0 _ 1 24 Tryz.underlying54 hi iz is ib rfl qo u11 Ls.length _ rfl Ad.o.own _ 1 1 _ rfl rfl (by simp[Value.oneCell']) qm qo jO.o.size ?_);intro v' w' hown' hf' hat';have HOWN':=qh hown';have gX:=qh hf';have nE:=qh hat';clear hown' hf' hat')
       have qZ:=qh (Ad.o.snoc HRY.o (c:=cs1 k) (fun b hb he=>by
        have h1:=(aQ _ _ _).2 w0 b iJ.o hb;have h2:=(Ad.o.own.lt b he).1;omega) (by rw[G.aC];exact HOWN'.o) gX.o nE.o)
       have BG:=qh (jO.o.trans (gX.o.own Ad.o.own jO.o.size))
       go_wp2_with fail
       go_roundw
       case rel=>exact⟨k+1,_,_,by omega,qg,by rw[CG.o,J3.o.2],qh (by rw[CG.o,J3.o.1,List.map_append,←E4.o];exact qZ.o),qh (by rw[CG.o,J3.o.1,List.length_append];exact Ox.o.snoc (HU1.o k hlt) HSQ.o),BG⟩
       case measure=>exact qs
    ·obtain rfl:L.length=k:=qo
     have HTE:=qh (show L1.take L.length=L1 by rw[←rA.o,List.take_length])
     go_wp2
     go_ret2
     have h1:=HL.o;rw[HTE.o]at h1;rw[iQ.o];have h2:=Ox.o;rw[HTE.o]at h2;refine⟨_,Bs,ds,?_,h1.mono cS.o.size,h2,cS.o.trans (HB2.o.mono cS.o.size)⟩;rw[HTE.o]
     rfl
theorem aao {n:Nat}(L:List (G.PM n))(T:List Int)(x:Int):G.wl n L (T++[x])=if 0<x then G.wl n L T++[G.sig n x.natAbs]else(G.wl n L T).map G.PM.flip++[G.neg n x.natAbs]:=by
 induction T generalizing L with
 |nil=>rfl
 |cons y T ih=>exact ih _
theorem aan (P:Int)(T:List Int)(x:Int):G.wp P (T++[x])=if 0<x then G.wp P T else G.wp P T-1:=by
 induction T generalizing P with
 |nil=>rfl
 |cons y T ih=>exact ih _
theorem Gw {n:Nat}(T:List Int):∀L:List (G.PM n),(G.wl n L T).length=L.length+T.length:=by
 induction T with
 |nil=>intro L;rfl
 |cons y T ih=>
  intro L
  simp only[G.wl]
  rw[ih]
  split
  ·simp
   omega
  ·simp
   omega
theorem Gv (T:List Int):∀P:Int,P-T.length≤G.wp P T∧G.wp P T≤P:=by
 induction T with
 |nil=>intro P;simp[G.wp]
 |cons y T ih=>
  intro P
  simp only[G.wp]
  have h:=ih (if 0<y then P else P-1);have h2:(if 0<y then P else P-1)=P∨(if 0<y then P else P-1)=P-1:=by split<;>simp
  simp only[List.length_cons]
  omega
def ahY {n:Nat}(w:World)(s:Int×List (G.PM n))(e:Ending)(w':World):Prop:=∃v As cs,e=.returned (.agg #[.int .i64 n,.int .i64 s.1,v])∧eQ w.heap.size v (s.2.map G.pl) As cs w'∧Below w.heap.size w w'
theorem yZ {n B C g:Nat}{v:Value}{L:List (G.PM n)}{As:Nat→Option Addr}{cs:Nat→Nat}{w:World}(h:eQ B v (L.map G.pl) As cs w)(hU:Up C n L.length As)(h1:g<B)(h2:g<C)(i:Nat)(u:Value):eQ B v (L.map G.pl) As cs (w.setCell ⟨g,i,none⟩ u):=h.keep fun b hb=>Below.heap_setCell w _ u b (by
 rcases hb with hb|⟨j,hj,hb⟩
 ·have:=(h.own.lt b hb).1
  show b≠g;omega
 ·rw[List.length_map]at hj
  rw[yW (List.getElem?_eq_getElem hj),G.aC]at hb;have:=hU j hj b hb;show b≠g;omega)
theorem wH {B:Nat}{n:Nat}{v:Value}{L:List (G.PM n)}{As:Nat→Option Addr}{cs:Nat→Nat}{w:World}(h:eQ B v (L.map G.pl) As cs w):∃A c,v=.slice A L.length c:=by
 obtain⟨A,c,e⟩:=aF h.own;rw[List.length_map]at e;exact⟨A,c,e⟩
theorem UM {n:Nat}(W:List Int)(A:OA)(c:Nat)(w:World)(ha:cX w A W)(hn:2≤n∨W=[])(hn2:n≤1000)(hw:G.Word n W)(hl:W.length≤100000):
 Calls Tryz.prog 134 #[.int .i64 n,.slice A W.length c] w (ahY w (G.acts n (0,[]) W:Int×List (G.PM n))):=by
 obtain⟨i0,hi,iz,is,ib⟩:=info_parts OC;have HW:=qh hw;have HA:=qh ha;have AW:=qh (show G.acts n (0,[]) W=G.nor (G.wp 0 W) (G.wl n [] W)from by
  rcases hn with hn|hn
  ·exact G.Qm hn W
  ·rw[hn]
   exact(G.qy 0).symm)
 clear hn;have jG:=qh (show∀k,k≤W.length→(G.wl n [] (W.take k)).length=k from fun k hk=>by rw[Gw,List.length_take,List.length_nil];omega);have HPB:=qh (show∀k,k≤W.length→ -(k:Int)≤G.wp 0 (W.take k)∧G.wp 0 (W.take k)≤0 from fun k hk=>by
  have h1:=Gv (W.take k) 0;rw[List.length_take,Nat.min_eq_left hk]at h1;omega)
 have HK4:=qh (((aB.at_ w 141 #[.int .i64 0,.int .i64 0,.slice none 0 0] rfl).alloc (.cells #[.int .i64 n,.int .i64 0,.slice none 0 0] 141)).alloc (.cells #[] 34));have xD:=qh ((aB.at_ (g':=w.heap.size+1) (w.alloc (.cells #[.int .i64 0,.int .i64 0,.slice none 0 0] 141)) 141 #[.int .i64 n,.int .i64 0,.slice none 0 0] qj).alloc (.cells #[] 34));have HB:=qh ((((Below.refl w.heap.size w).alloc ql (.cells #[.int .i64 0,.int .i64 0,.slice none 0 0] 141)).alloc qj (.cells #[.int .i64 n,.int .i64 0,.slice none 0 0] 141)).alloc (by simp;omega) (.cells #[] 34));have HO:=qh (World.ownsRow_made (base:=w.heap.size+1+1) (e:=34) (size:=1) ((w.alloc (.cells #[.int .i64 0,.int .i64 0,.slice none 0 0] 141)).alloc (.cells #[.int .i64 n,.int .i64 0,.slice none 0 0] 141)) #[] 0 qj qm rfl);clear ha hw
 go_enter Tryz.func134,Tryz.ntmps134
 go_wp2_with fail
 go_loopw [6,7,8] (fun v x y wr=>∃(k:Nat) (Bs:Nat→OA) (ds:Nat→Nat),k≤W.length∧x=.int .i64 k∧Hq (eQ (w.heap.size+1+1) v ((G.wl n [] (W.take k)).map G.pl) Bs ds wr)∧Hq (Up (w.heap.size+1+1) n k Bs)∧Hq (aB wr (w.heap.size+1) 141 #[.int .i64 n,.int .i64 (G.wp 0 (W.take k)),.slice none 0 0])∧Hq (aB wr w.heap.size 141 #[.int .i64 0,.int .i64 0,.slice none 0 0])∧Hq (Below w.heap.size w wr)) (fun _ x _ _=>W.length-(intOf x).toNat)
 case atStart=>exact⟨0,fun _=>none,fun _=>0,Nat.zero_le _,rfl,qh (eQ.nil (by simpa using HO.o) _ _),qh (fun j hj=>absurd hj (Nat.not_lt_zero j)),xD,HK4,HB⟩
 case round=>
  obtain⟨k,Bs,ds,hk,rfl,HL,HU,H5,H4,cS⟩:=hrel;clear HO HB HK4 xD;have hlk:=jG.o k hk;have hpb:=HPB.o k hk
  by_cases hlt:k<W.length
  ·obtain⟨ga,o,rfl,hg,hr⟩:=HA.o qo
   have hc:=aD cS.o hg (hr k hlt);have hwx:=HW.o (W.getD k 0) (by simp[List.getD,hlt]);have CG:=qh (show W.take (k+1)=W.take k++[W.getD k 0]by rw[List.take_succ_eq_append_getElem hlt];simp[List.getD,hlt]);have qZ:=qh (aao (n:=n) [] (W.take k) (W.getD k 0));have yF:=qh (aan 0 (W.take k) (W.getD k 0));rw[←CG.o]at qZ yF;obtain⟨x,hx⟩:=qx (W.getD k 0);obtain⟨M,hM⟩:=qx (G.wl n [] (W.take k));obtain⟨P,hP⟩:=qx (G.wp 0 (W.take k))
   simp only[←hx]at hc hwx qZ yF
   rw[←hM]at HL qZ hlk;rw[←hP]at H5 yF hpb;have hxb: -1000000≤x∧x≤1000000:=qo;obtain⟨a,ha⟩:=qx (x.natAbs);rw[←ha]at hwx qZ;have ha1:1≤a:=qo;have han:=hwx.2;have b1:(0:Int)≤(k:Int):=qo;have b2:(k:Int)<(W.length:Int):=qo;have HAA:=qh ha;have s5:=H5.o.lt;have s4:=H4.o.lt;obtain⟨A6,c6,rfl⟩:=wH HL.o;have HRP:=qh HL.o.Wn;have mM:=qh (show(M.map G.pl).length=k by rw[List.length_map];exact hlk);clear hr hx hM hP ha
   go_wp2_with fail
   refine(jy x _ qo).mono ?_;rintro e w1 ⟨rfl,rfl⟩;rw[←HAA.o]
   by_cases hp:0<x
   ·have xU:=qh (qZ.o.trans (if_pos hp))
    have Us:=qh (yF.o.trans (if_pos hp))
    go_wp2_with fail
    refine(BY n _ hn2).mono ?_;rintro e w2 h2;obtain⟨A2,c2,rfl,_,hr2,hb2⟩:=h2.rd;rw[G.aC];have HR2:=qh hr2;have HB2:=qh hb2;clear h2 hr2 hb2
    go_wp2_with fail
    refine(xN G.one a A2 c2 _ HR2.o hn2 ha1 han).mono ?_;rintro e w3 h3;obtain⟨A3,c3,rfl,ho3,hr3,hb3⟩:=h3.rd;rw[G.aC];have HB3:=HB2.st hb3;have E6:=qh (HL.o.below HB3.o);have HR3:=qh hr3;have bS:=qh ho3;have HW3:=qh (cS.o.trans (HB3.o.mono cS.o.size));have h5:=H5.o.below HB3.o s5;have h4:=H4.o.below HB3.o s4;have nZ:=qh (show∀b,Fb A3 n b→wr.heap.size≤b from fun b hb=>by
     rw[←G.aC (p:=(G.one:G.PM n).dB a)]at hb;have h1:=qU bS.o hb;have h2:=HB2.o.size;omega)
    have hz3:w.heap.size+1+1≤w3.heap.size:=by
     have:=h5.lt;omega
    have LB:=qh h5;have JH:=qh h4;clear h3 hr3 hb3 ho3 h5 h4;have hlm:=mM.o;obtain⟨Ls,C6⟩:=qx (M.map G.pl);have E4:=qh C6;rw[←C6]at E6 hlm;clear C6;rw[hlk]at E6;have aic:=qh (show w3.ownsRow (w.heap.size+1+1) 34 1 (.slice A6 k c6) k ((List.range k).map fun j=>.slice (Bs j) (Ls.getD j []).length (ds j))from by
     have h1:=E6.o.own;rwa[hlm]at h1)
    go_wp2_with (at_builtin;go_must (refine cB w3 rfl (.tmp 30) (.tmp 35) _ rfl (w.heap.size+1+1) 34 i0 _ 1 24 Tryz.underlying54 hi iz is ib rfl qo (.slice A6 k c6) k _ rfl aic.o _ 1 1 _ rfl rfl (by simp[Value.oneCell']) qm qo hz3 ?_);intro v' w' hown' hf' hat';have HOWN':=qh hown';have gX:=qh hf';have nE:=qh hat';clear hown' hf' hat')
    have HNW:=qh (E6.o.snoc HR3.o (c:=c3) (fun b hb he=>by
     rw[G.aC]at hb;have h1:=nZ.o b hb;have h2:=(HL.o.own.lt b (by rw[hlk];exact he)).2;omega) (by rw[G.aC,hlm];exact HOWN'.o) gX.o nE.o)
    have BG:=qh (HW3.o.trans ((gX.o.own E6.o.own hz3).mono qo));have Qe:=qh (show∀g,g<w.heap.size+1+1→¬(Value.slice A6 k c6).ownBlock=some g from fun g hg he=>by
     have:=(E6.o.own.lt g he).1;omega)
    have GB:=qh (HU.o.snoc (fun b hb=>Nat.le_trans qo (nZ.o b hb)) hlm)
    go_wp2_with fail
    go_roundw
    case rel=>exact⟨k+1,_,_,by omega,qg,qh (by rw[xU.o,List.map_append,←E4.o];exact HNW.o),GB,qh (by rw[Us.o];exact LB.o.fr gX.o (Qe.o _ qo)),qh (JH.o.fr gX.o (Qe.o _ qo)),BG⟩
    case measure=>exact qs
   ·have xU:=qh (qZ.o.trans (if_neg hp))
    have Us:=qh (yF.o.trans (if_neg hp));have m1:=H5.o.cell 1;have f1:=H5.o.frozen 1;have e1:(#[.int .i64 n,.int .i64 P,.slice none 0 0]:Array Value)[1]?=some (.int .i64 P):=rfl;rw[e1]at m1;clear e1;have hp2:P-1≤0:=qo;have aey:=qh (yZ HL.o (by rw[hlk];exact HU.o) (by omega:w.heap.size+1<w.heap.size+1+1) qo 1 (.int .i64 (P-1)));have HQ5:=qh (show aB (wr.setCell ⟨w.heap.size+1,1,none⟩ (.int .i64 (P-1))) (w.heap.size+1) 141 #[.int .i64 n,.int .i64 (P-1),.slice none 0 0]from H5.o.bJ 1 (.int .i64 (P-1)));have YY:=qh (H4.o.far (p:=⟨w.heap.size+1,1,none⟩) qj (.int .i64 (P-1)));have LA:=qh (cS.o.setCell (p:=⟨w.heap.size+1,1,none⟩) qj (.int .i64 (P-1)))
    go_wp2_with fail
    obtain⟨wq,hwq⟩:=qx (wr.setCell ⟨w.heap.size+1,1,none⟩ (.int .i64 (P-1)));rw[←hwq]at aey HQ5 YY LA ⊢;clear hwq m1 f1 HL H5 H4 cS HRP s5 s4;have s5:=HQ5.o.lt;have s4:=YY.o.lt;have hfl:=QT M A6 c6 Bs ds wq aey.o.Wn hn2 qo;rw[hlk]at hfl;refine hfl.mono ?_;clear hfl;rintro e w2 ⟨v2,Cs,es,rfl,hl2,hu2,hb2⟩;obtain⟨A7,c7,rfl⟩:=wH hl2;rw[List.length_map,hlk]at hl2 hu2 ⊢;have HL2:=qh hl2;have GB:=qh hu2;have HB2:=qh hb2;clear hl2 hu2 hb2
    go_wp2_with fail
    refine(KK n _ hn2).mono ?_;rintro e w3 h3;obtain⟨A3,c3,rfl,_,hr3,hb3⟩:=h3.rd;rw[G.aC];have HR3:=qh hr3;have HB3:=qh hb3;clear h3 hr3 hb3
    go_wp2_with fail
    refine(xN G.del a A3 c3 _ HR3.o hn2 ha1 han).mono ?_;rintro e w4 h4;obtain⟨A4,c4,rfl,eN,hr4,hb4⟩:=h4.rd;rw[G.aC];have aR:=HB3.st hb4;have pM:=qh ((HL2.o.below aR.o).mono (B:=w.heap.size+1+1) qo);have Vn:=qh (HB2.o.trans (aR.o.mono HB2.o.size));have HR4:=qh hr4;have bP:=qh eN;have CF:=qh (LA.o.trans (Vn.o.mono LA.o.size));have h5:=HQ5.o.below Vn.o s5;have h4':=YY.o.below Vn.o s4;have nB:=qh (show∀b,Fb A4 n b→w2.heap.size≤b from fun b hb=>by
     rw[←G.aC (p:=(G.del:G.PM n).dB a)]at hb;have h1:=qU bP.o hb;have h2:=HB3.o.size;omega)
    have hz2:=HB2.o.size;have jF:w.heap.size+1+1≤w4.heap.size:=by
     have:=h5.lt;omega
    have LB:=qh h5;have JH:=qh h4';clear h4 hr4 hb4 eN h5 h4';have hlm:((M.map G.PM.flip).map G.pl).length=k:=by rw[List.length_map,List.length_map];exact hlk
    obtain⟨Ls,C6⟩:∃Ls,Ls=(M.map G.PM.flip).map G.pl:=⟨_,rfl⟩;have E4:=qh C6;rw[←C6]at pM hlm;clear C6;have aib:=qh (show w4.ownsRow (w.heap.size+1+1) 34 1 (.slice A7 k c7) k ((List.range k).map fun j=>.slice (Cs j) (Ls.getD j []).length (es j))from by
     have h1:=pM.o.own;rwa[hlm]at h1)
    go_wp2_with (at_builtin;go_must (refine cB w4 rfl (.tmp 42) (.tmp 47) _ rfl (w.heap.size+1+1) 34 i0 _ 1 24 Tryz.underlying54 hi iz is ib rfl qo (.slice A7 k c7) k _ rfl aib.o _ 1 1 _ rfl rfl (by simp[Value.oneCell']) qm qo jF ?_);intro v' w' hown' hf' hat';have HOWN':=qh hown';have gX:=qh hf';have nE:=qh hat';clear hown' hf' hat')
    have HNW:=qh (pM.o.snoc HR4.o (c:=c4) (fun b hb he=>by
     rw[G.aC]at hb;have h1:=nB.o b hb;have h2:=(HL2.o.own.lt b he).2;omega) (by rw[G.aC,hlm];exact HOWN'.o) gX.o nE.o)
    have BG:=qh (CF.o.trans ((gX.o.own pM.o.own jF).mono qo));have Qe:=qh (show∀g,g<w.heap.size+1+1→¬(Value.slice A7 k c7).ownBlock=some g from fun g hg he=>by
     have:=(pM.o.own.lt g he).1;omega)
    have HUN:=qh ((GB.o.mono (D:=w.heap.size+1+1) qo).snoc (fun b hb=>Nat.le_trans qo (nB.o b hb)) hlm)
    go_wp2_with fail
    go_roundw
    case rel=>exact⟨k+1,_,_,by omega,qg,qh (by rw[xU.o,List.map_append,←E4.o];exact HNW.o),HUN,qh (by rw[Us.o];exact LB.o.fr gX.o (Qe.o _ qo)),qh (JH.o.fr gX.o (Qe.o _ qo)),BG⟩
    case measure=>exact qs
  ·obtain rfl:W.length=k:=qo
   rw[List.take_length]at HL H5 hlk hpb;obtain⟨M,hM⟩:=qx (G.wl n [] W);obtain⟨P,hP⟩:=qx (G.wp 0 W);have yI:=qh (show(G.acts n (0,[]) W:Int×List (G.PM n))=(P+(G.cnt (G.nf M):Nat),G.strip (G.nf M))from by rw[AW.o,hM,hP];rfl);rw[←hM]at HL hlk;rw[←hP]at H5 hpb;clear hM hP;obtain⟨A6,c6,rfl⟩:=wH HL.o;have s5:=H5.o.lt;have s4:=H4.o.lt;have hsl:=UL M A6 c6 Bs ds wr HL.o.Wn hn2 qo (w.heap.size+1+1) qo (by rw[hlk];exact HU.o);rw[hlk]at hsl ⊢;have HSL:=qh hsl;have hcn:G.cnt (G.nf M)≤100000:=by
    have h1:=Nv (G.nf M);rw[G.S9]at h1;omega
   clear hsl
   go_wp2_with fail
   refine HSL.o.mono ?_;rintro e w2 ⟨v2,Cs,es,rfl,hl2,hu2,hb2⟩;obtain⟨A9,c9,rfl⟩:=wH hl2;have LB:=qh (H5.o.below hb2 s5);have JH:=qh (H4.o.below hb2 s4);have HW2:=cS.st hb2;have HL2:=qh hl2;have GB:=qh hu2;clear hl2 hu2 hb2 HSL HL HU H5 H4;obtain⟨q,hq⟩:=qx (G.cnt (G.nf M));rw[←hq]at hcn yI ⊢;clear hq;have m0:=LB.o.cell 0;have m1:=LB.o.cell 1;have m2:=LB.o.cell 2;have f1:=LB.o.frozen 1;have f2:=LB.o.frozen 2;have n0:=JH.o.cell 0;have n1:=JH.o.cell 1;have n2:=JH.o.cell 2;have g0:=JH.o.frozen 0;have g1:=JH.o.frozen 1;have g2:=JH.o.frozen 2;have e0:∀a b c:Value,(#[a,b,c]:Array Value)[0]?=some a:=fun _ _ _=>rfl;have e1:∀a b c:Value,(#[a,b,c]:Array Value)[1]?=some b:=fun _ _ _=>rfl;have e2:∀a b c:Value,(#[a,b,c]:Array Value)[2]?=some c:=fun _ _ _=>rfl;rw[e0]at m0 n0;rw[e1]at m1 n1;rw[e2]at m2 n2;clear e0 e1 e2
   go_wp2_with fail
   have JG:=(((((JH.o.far (p:=⟨w.heap.size+1,1,none⟩) qj (.int .i64 (P+q))).far (p:=⟨w.heap.size+1,2,none⟩) qj (.slice A9 (G.strip (G.nf M)).length c9)).bJ 0 (.int .i64 n)).bJ 1 (.int .i64 (P+q))).bJ 2 (.slice A9 (G.strip (G.nf M)).length c9));have hz2:=LB.o.lt;have rC:=qh (yZ (yZ (yZ (yZ (yZ HL2.o GB.o (g:=w.heap.size+1) qo qo 1 (.int .i64 (P+q))) GB.o (g:=w.heap.size+1) qo qo 2 (.slice A9 (G.strip (G.nf M)).length c9)) GB.o (g:=w.heap.size) qo qo 0 (.int .i64 n)) GB.o (g:=w.heap.size) qo qo 1 (.int .i64 (P+q))) GB.o (g:=w.heap.size) qo qo 2 (.slice A9 (G.strip (G.nf M)).length c9));have dU:=qh (((((HW2.o.setCell (p:=⟨w.heap.size+1,1,none⟩) qj (.int .i64 (P+q))).setCell (p:=⟨w.heap.size+1,2,none⟩) qj (.slice A9 (G.strip (G.nf M)).length c9)).setCell (p:=⟨w.heap.size,0,none⟩) qj (.int .i64 n)).setCell (p:=⟨w.heap.size,1,none⟩) qj (.int .i64 (P+q))).setCell (p:=⟨w.heap.size,2,none⟩) qj (.slice A9 (G.strip (G.nf M)).length c9));obtain⟨w9,BZ⟩:∃w9,w9=(((((w2.setCell ⟨w.heap.size+1,1,none⟩ (.int .i64 (P+q))).setCell ⟨w.heap.size+1,2,none⟩ (.slice A9 (G.strip (G.nf M)).length c9)).setCell ⟨w.heap.size,0,none⟩ (.int .i64 n)).setCell ⟨w.heap.size,1,none⟩ (.int .i64 (P+q))).setCell ⟨w.heap.size,2,none⟩ (.slice A9 (G.strip (G.nf M)).length c9)):=⟨_,rfl⟩;rw[←BZ]at JG rC dU ⊢;have k0:=qc JG 0 rfl;have k1:=qc JG 1 rfl;have k2:=qc JG 2 rfl;clear BZ JG m0 m1 m2 n0 n1 n2 f1 f2 g0 g1 g2
   (try simp only[Exit.inBlock,Exit.then])
   refine bodyPost_ret (by simp[results,Tryz.results134,go_sem,k0,k1,k2];try rfl) rfl ?_;rw[yI.o];exact⟨_,Cs,es,rfl,rC.o.mono qo,dU.o⟩
end Go.Proofs.YtdnmhhohcedjbaaGreat
