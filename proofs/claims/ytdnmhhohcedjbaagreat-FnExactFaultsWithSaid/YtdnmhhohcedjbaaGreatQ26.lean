/- Walks and plain lemmas. -/
import Derived.Test.YtdnmhhohcedjbaaGreatQ14
import Derived.Test.YtdnmhhohcedjbaaGreatQ19
set_option linter.unusedVariables false
set_option linter.unusedSimpArgs false
set_option maxHeartbeats 4000000
set_option maxRecDepth 20000
namespace Go.Proofs.YtdnmhhohcedjbaaGreat
open Go.RowKit
namespace T
def sF (f:Nat→Nat)(x:Int):Nat→Nat
 |0=>0
 |i+1=>sF f x i+(if(i:Int)<x then f i else 0)
def sK (k:Nat→Nat)(r x:Int):Nat→Nat
 |0=>0
 |i+1=>sK k r x i+(if(i:Int)+r<x then k i else 0)
def cJ (f:Nat→Nat):Nat→Nat
 |0=>0
 |i+1=>cJ f i+f i
theorem BP (f:Nat→Nat)(x:Int)(m:Nat):sF f x m≤cJ f m:=by
 induction m with
 |zero=>exact Nat.le_refl _
 |succ m ih=>
  simp only[sF,cJ]
  split<;>omega
theorem Wi (k:Nat→Nat)(r x:Int)(m:Nat):sK k r x m≤cJ k m:=by
 induction m with
 |zero=>exact Nat.le_refl _
 |succ m ih=>
  simp only[sK,cJ]
  split<;>omega
theorem lS (k:Nat→Nat)(r x:Int)(m:Nat):sK k r x m=sF k (x-r) m:=by
 induction m with
 |zero=>rfl
 |succ m ih=>
  simp only[sK,sF,ih]
  congr 1
  by_cases h:(m:Int)+r<x
  ·rw[if_pos h,if_pos qo]
  ·rw[if_neg h,if_neg qo]
theorem kL (f:Nat→Nat)(x:Int)(m:Nat):sF f (x+1) m=sF f x m+(if 0≤x∧x<m then f x.toNat else 0):=by
 induction m with
 |zero=>simp only[sF];rw[if_neg qo]
 |succ m ih=>
  simp only[sF,ih]
  by_cases h:x=m
  ·subst h
   rw[if_pos (show(m:Int)<(m:Int)+1 by omega),if_neg (show¬(m:Int)<(m:Int)by omega),if_neg (show¬(0≤(m:Int)∧(m:Int)<(m:Int))by omega),if_pos (show 0≤(m:Int)∧(m:Int)<((m+1:Nat):Int)by omega)]
   simp only[Int.toNat_natCast,Nat.add_zero]
  ·by_cases h2:(m:Int)<x
   ·rw[if_neg (show¬(0≤x∧x<(m:Int))by omega),if_pos (show(m:Int)<x+1 by omega),if_pos h2,if_neg (show¬(0≤x∧x<((m+1:Nat):Int))by omega),Nat.add_zero,Nat.add_zero]
   ·rw[if_neg (show¬(m:Int)<x+1 by omega),if_neg h2]
    by_cases h3:0≤x∧x<m
    ·rw[if_pos h3,if_pos (show 0≤x∧x<((m+1:Nat):Int)by omega),Nat.add_zero,Nat.add_zero]
    ·rw[if_neg h3,if_neg (show¬(0≤x∧x<((m+1:Nat):Int))by omega)]
theorem yV (f:Nat→Nat){x:Int}(h:x≤0)(m:Nat):sF f x m=0:=by
 induction m with
 |zero=>rfl
 |succ m ih=>simp only[sF,ih];rw[if_neg qo]
theorem Ih (f:Nat→Nat){x:Int}{m:Nat}(h:(m:Int)≤x):sF f x m=cJ f m:=by
 induction m with
 |zero=>rfl
 |succ m ih=>simp only[sF,cJ,ih qo];rw[if_pos qo]
def n7 (W:Nat)(r:Int)(f k:Nat→Nat)(b a:Int):Nat:=
 if b=2 then sF f (a+r+1) W+sK k r (a+r) W else sF f a W+sK k r a W
def nW (W:Nat)(r G5:Int)(f k:Nat→Nat)(i:Nat):List Int:=
 if 0<G5 then
  (if 0≤(i:Int)-r-1∧(i:Int)-r-1<W then cE (-1) (hJ (n7 W r f k 2 ((i:Int)-r-1)) (k ((i:Int)-r-1).toNat) (f i))else [])
 else(if 0≤(i:Int)-r∧(i:Int)-r<W then cE 1 (hJ (n7 W r f k 1 i) (f i) (k ((i:Int)-r).toNat))else [])
def fS (W:Nat)(r G5:Int)(f k:Nat→Nat):Nat→List Int
 |0=>[]
 |i+1=>fS W r G5 f k i++nW W r G5 f k i
def qK (W:Nat)(r:Int)(f k:Nat→Nat):Nat→List Int
 |0=>[]
 |n+1=>qK W r f k n++fS W (r+n) 1 f k W
def rJ (W:Nat)(r:Int)(f k:Nat→Nat):Nat→List Int
 |0=>[]
 |n+1=>rJ W r f k n++fS W (r-n) (-1) f k W
def xZ (W:Nat)(r r':Int)(f k:Nat→Nat):List Int:=if r≤r' then qK W r f k (r'-r).toNat else rJ W r f k (r-r').toNat
theorem Io {p:Int}{a t:Nat}:∀x∈hJ p a t,p≤x∧x+1<p+t+a:=by
 induction t with
 |zero=>intro x hx;cases hx
 |succ t ih=>
  intro x hx
  rcases List.mem_append.1 hx with hx|hx
  ·have:=ih x hx
   omega
  ·have:=NO x hx
   omega
theorem Qx {W:Nat}{r:Int}{f k:Nat→Nat}{i:Nat}(hi:i<W)(h:0≤(i:Int)-r-1∧(i:Int)-r-1<W):n7 W r f k 2 ((i:Int)-r-1)+k ((i:Int)-r-1).toNat+f i≤cJ f W+cJ k W:=by
 unfold n7;rw[if_pos rfl,show(i:Int)-r-1+r+1=i by omega,show(i:Int)-r-1+r=(i:Int)-1 by omega,lS];have h1:=kL f i W;rw[if_pos qo,Int.toNat_natCast]at h1;have h2:=kL k ((i:Int)-r-1) W;rw[if_pos h]at h2;have h3:=BP f ((i:Int)+1) W;have h4:=BP k ((i:Int)-r-1+1) W;rw[show(i:Int)-1-r=(i:Int)-r-1 by omega];omega
theorem Qw {W:Nat}{r:Int}{f k:Nat→Nat}{i:Nat}(hi:i<W)(h:0≤(i:Int)-r∧(i:Int)-r<W):n7 W r f k 1 i+f i+k ((i:Int)-r).toNat≤cJ f W+cJ k W:=by
 unfold n7;rw[if_neg (by decide),lS];have h1:=kL f i W;rw[if_pos qo,Int.toNat_natCast]at h1;have h2:=kL k ((i:Int)-r) W;rw[if_pos h]at h2;have h3:=BP f ((i:Int)+1) W;have h4:=BP k ((i:Int)-r+1) W;omega
abbrev eV:=Int×Int
def m9 (W:Nat)(x:Int):List eV:=if 0≤x∧x<W then [(1,x)]else []
def bk1 (W:Nat)(r x:Int):List eV:=if 0≤x-r∧x-r<W then [(2,x-r)]else []
def d9 (W:Nat)(r:Int):Nat→List eV
 |0=>[]
 |j+1=>d9 W r j++(m9 W ((j:Int)-3)++bk1 W r ((j:Int)-3))
def oP (W:Nat)(r:Int):Nat→List eV
 |0=>[]
 |j+1=>oP W r j++(bk1 W r ((j:Int)-3)++m9 W ((j:Int)-3))
def j3 (W:Nat)(r:Int)(j:Nat):Nat→List eV
 |0=>[]
 |m+1=>m9 W ((j:Int)-3)++bk1 W r ((j:Int)-3)++j3 W r (j+1) m
theorem BT (W:Nat)(r:Int)(m:Nat):∀j,d9 W r (j+m)=d9 W r j++j3 W r j m:=by
 induction m with
 |zero=>intro j;simp[j3]
 |succ m ih=>
  intro j;rw[show j+(m+1)=j+1+m by omega,ih (j+1)]
  simp[d9,j3]
def ES (f k:Nat→Nat)(n:eV):Nat:=if n.1=2 then k n.2.toNat else f n.2.toNat
def fG (f k:Nat→Nat):List eV→Nat
 |[]=>0
 |n::l=>ES f k n+fG f k l
theorem BW (f k:Nat→Nat)(a b:List eV):fG f k (a++b)=fG f k a+fG f k b:=by
 induction a with
 |nil=>simp[fG]
 |cons n a ih=>simp only[List.cons_append,fG,ih];omega
theorem QQ (f k:Nat→Nat)(W:Nat)(x:Int):fG f k (m9 W x)=if 0≤x∧x<W then f x.toNat else 0:=by
 unfold m9
 split
 ·simp[fG,ES]
 ·rfl
theorem su (f k:Nat→Nat)(W:Nat)(r x:Int):fG f k (bk1 W r x)=if 0≤x-r∧x-r<W then k (x-r).toNat else 0:=by
 unfold bk1
 split
 ·simp[fG,ES]
 ·rfl
theorem zQ26x4 {p:Prop}(h:p:=by
 have h1:=kL f ((j:Int)-3) W;have h2:=kL k ((j:Int)-3-r) W;rw[show((j+1:Nat):Int)-3=(j:Int)-3+1 by omega,h1,lS,lS,show(j:Int)-3+1-r=(j:Int)-3-r+1 by omega,h2];omega):p:=h
theorem M5 (f k:Nat→Nat)(W:Nat){r:Int}(hr: -3≤r)(j:Nat):fG f k (d9 W r j)=sF f ((j:Int)-3) W+sK k r ((j:Int)-3) W:=by
 induction j with
 |zero=>
  rw[yV f qo,lS,yV k qo]
  rfl
 |succ j ih=>
  simp only[d9,BW,ih,QQ,su]
  exact zQ26x4
theorem Rp (f k:Nat→Nat)(W:Nat){r:Int}(hr: -3≤r)(j:Nat):fG f k (oP W r j)=sF f ((j:Int)-3) W+sK k r ((j:Int)-3) W:=by
 induction j with
 |zero=>
  rw[yV f qo,lS,yV k qo]
  rfl
 |succ j ih=>
  simp only[oP,BW,ih,QQ,su]
  exact zQ26x4
theorem NU {W:Nat}{x:Int}{n:eV}(h:n∈m9 W x):n.1=1∧n.2=x∧0≤x∧x<W:=by
 unfold m9 at h
 split at h
 ·rw[List.mem_singleton.1 h]
  rename_i hc
  exact⟨rfl,rfl,hc⟩
 ·cases h
theorem NV {W:Nat}{r x:Int}{n:eV}(h:n∈bk1 W r x):n.1=2∧n.2=x-r∧0≤x-r∧x-r<W:=by
 unfold bk1 at h
 split at h
 ·rw[List.mem_singleton.1 h]
  rename_i hc
  exact⟨rfl,rfl,hc⟩
 ·cases h
def DZ (W:Nat)(n:eV):Prop:=(n.1=1∨n.1=2)∧0≤n.2∧n.2<W
theorem tY {W:Nat}{r:Int}{j:Nat}{n:eV}(h:n∈d9 W r j):DZ W n∧((n.1=1∧n.2<(j:Int)-3)∨(n.1=2∧n.2+r<(j:Int)-3)):=by
 induction j with
 |zero=>cases h
 |succ j ih=>
  simp only[d9,List.mem_append]at h
  rcases h with h|h|h
  ·have:=ih h
   exact⟨this.1,by omega⟩
  ·have:=NU h
   unfold DZ;exact⟨⟨.inl this.1,by omega⟩,by omega⟩
  ·have:=NV h
   unfold DZ;exact⟨⟨.inr this.1,by omega⟩,by omega⟩
theorem QN {W:Nat}{r:Int}{j:Nat}{n:eV}(h:n∈oP W r j):DZ W n∧((n.1=1∧n.2<(j:Int)-3)∨(n.1=2∧n.2+r<(j:Int)-3)):=by
 induction j with
 |zero=>cases h
 |succ j ih=>
  simp only[oP,List.mem_append]at h
  rcases h with h|h|h
  ·have:=ih h
   exact⟨this.1,by omega⟩
  ·have:=NV h
   unfold DZ;exact⟨⟨.inr this.1,by omega⟩,by omega⟩
  ·have:=NU h
   unfold DZ;exact⟨⟨.inl this.1,by omega⟩,by omega⟩
theorem I4 {W:Nat}{r:Int}{m j:Nat}{n:eV}(h:n∈j3 W r j m):DZ W n:=by
 induction m generalizing j with
 |zero=>cases h
 |succ m ih=>
  simp only[j3,List.mem_append]at h
  rcases h with(h|h)|h
  ·have:=NU h
   unfold DZ;exact⟨.inl this.1,by omega⟩
  ·have:=NV h
   unfold DZ;exact⟨.inr this.1,by omega⟩
  ·exact ih h
def lB (W:Nat)(r:Int)(i:Nat):List eV:=d9 W (r+1) (i+3)++(bk1 W r ((i:Int)-1)++j3 W r (i+3) (W+3-i))
def lC (W:Nat)(r:Int)(i:Nat):List eV:=oP W r (i+3)++j3 W r (i+3) (W+3-i)
theorem Zb (W:Nat)(r x:Int):bk1 W (r+1) x=bk1 W r (x-1):=by
 unfold bk1;rw[show x-(r+1)=x-1-r by omega]
theorem aaR (W:Nat)(r:Int):∀j,j≤3→d9 W r j=oP W r j:=by
 intro j hj
 induction j with
 |zero=>rfl
 |succ j ih=>
  simp only[d9,oP,ih qo]
  have:m9 W ((j:Int)-3)=[]:=by unfold m9;rw[if_neg qo]
  rw[this]
  simp
theorem Iz (W:Nat)(r:Int):lC W r 0=d9 W r (W+6):=by
 unfold lC;rw[←aaR W r 3 ql,show W+6=3+(W+3)by omega,BT]
 rfl
theorem abp (W:Nat){r:Int}(hr: -3≤r):∀j,j≤3→d9 W (r+1) j++bk1 W r ((j:Int)-4)=d9 W r j:=by
 intro j hj
 induction j with
 |zero=>
  simp only[d9,List.nil_append]
  unfold bk1;rw[if_neg qo]
 |succ j ih=>
  have h1:=ih qo;have hf:m9 W ((j:Int)-3)=[]:=by unfold m9;rw[if_neg qo]
  simp only[d9,hf,List.nil_append]
  rw[Zb,show(j:Int)-3-1=(j:Int)-4 by omega,h1,show((j+1:Nat):Int)-4=(j:Int)-3 by omega]
theorem Iy (W:Nat){r:Int}(hr: -3≤r):lB W r 0=d9 W r (W+6):=by
 unfold lB;have h:=abp W hr 3 ql;rw[show((3:Nat):Int)-4=((0:Nat):Int)-1 by omega]at h;rw[←List.append_assoc,h,show W+6=3+(W+3)by omega,BT]
 rfl
theorem zQ26x5 {p:Prop}(h:p:=by
 simp only[j3]
 rw[show((i+3:Nat):Int)-3=i by omega];have:m9 W (i:Int)=[(1,(i:Int))]:=by unfold m9;rw[if_pos qo]
 rw[this]
 simp):p:=h
theorem JR {W:Nat}{r:Int}{i:Nat}(hi:i<W):lB W r i=d9 W (r+1) (i+3)++(bk1 W r ((i:Int)-1)++((1,(i:Int))::(bk1 W r i++j3 W r (i+4) (W+2-i)))):=by
 unfold lB;rw[show W+3-i=(W+2-i)+1 by omega]
 exact zQ26x5
theorem S5 {W:Nat}{r:Int}{i:Nat}(hi:i<W):lB W r (i+1)=d9 W (r+1) (i+3)++((1,(i:Int))::(bk1 W r ((i:Int)-1)++(bk1 W r i++j3 W r (i+4) (W+2-i)))):=by
 unfold lB;rw[show i+1+3=i+3+1 by omega]
 simp only[d9]
 rw[show((i+3:Nat):Int)-3=i by omega,show((i+1:Nat):Int)-1=i by omega,show W+3-(i+1)=W+2-i by omega];have:m9 W (i:Int)=[(1,(i:Int))]:=by unfold m9;rw[if_pos qo]
 rw[this]
 simp[Zb]
theorem JS {W:Nat}{r:Int}{i:Nat}(hi:i<W):lC W r i=oP W r (i+3)++((1,(i:Int))::(bk1 W r i++j3 W r (i+4) (W+2-i))):=by
 unfold lC;rw[show W+3-i=(W+2-i)+1 by omega]
 exact zQ26x5
theorem S6 {W:Nat}{r:Int}{i:Nat}(hi:i<W):lC W r (i+1)=oP W r (i+3)++(bk1 W r i++((1,(i:Int))::j3 W r (i+4) (W+2-i))):=by
 unfold lC;rw[show i+1+3=i+3+1 by omega]
 simp only[oP]
 rw[show((i+3:Nat):Int)-3=i by omega,show W+3-(i+1)=W+2-i by omega];have:m9 W (i:Int)=[(1,(i:Int))]:=by unfold m9;rw[if_pos qo]
 rw[this]
 simp
theorem adJ (f k:Nat→Nat)(W:Nat){r:Int}(hr: -4≤r)(i:Nat):fG f k (d9 W (r+1) (i+3))=n7 W r f k 2 ((i:Int)-r-1):=by
 rw[M5 f k W qo];unfold n7;rw[if_pos rfl,lS,lS]
 congr 2<;>omega
theorem adK (f k:Nat→Nat)(W:Nat){r:Int}(hr: -3≤r)(i:Nat):fG f k (oP W r (i+3))=n7 W r f k 1 i:=by
 rw[Rp f k W hr];unfold n7;rw[if_neg (by decide),lS,lS]
 congr 2<;>omega
theorem Jl {W:Nat}{r:Int}{a:Nat}(ha:a<W):∃R,d9 W r (W+6)=d9 W r (a+3)++(1,(a:Int))::R:=by
 refine⟨bk1 W r a++j3 W r (a+4) (W+2-a),?_⟩;rw[show W+6=a+3+(W+3-a)by omega,BT,show W+3-a=(W+2-a)+1 by omega]
 simp only[j3]
 rw[show((a+3:Nat):Int)-3=a by omega];have:m9 W (a:Int)=[(1,(a:Int))]:=by unfold m9;rw[if_pos qo]
 rw[this]
 simp
theorem Rj {W:Nat}{r:Int}(hr: -3≤r∧r≤3){a:Nat}(ha:a<W):∃R,d9 W r (W+6)=(d9 W r ((a:Int)+r+3).toNat++m9 W ((a:Int)+r))++(2,(a:Int))::R:=by
 refine⟨j3 W r (((a:Int)+r+3).toNat+1) (W+6-((a:Int)+r+3).toNat-1),?_⟩;obtain⟨j,hj⟩:∃j,j=((a:Int)+r+3).toNat:=⟨_,rfl⟩;have hjz:(j:Int)-3=(a:Int)+r:=qo;rw[←hj];have hb:bk1 W r ((a:Int)+r)=[(2,(a:Int))]:=by
  unfold bk1;rw[show(a:Int)+r-r=a by omega,if_pos qo]
 rw[show W+6=j+(W+6-j-1+1)by omega,BT]
 simp only[j3,hjz,hb]
 simp
def evs (L:List Int)(t:Nat):Int:=L.getD t 0
theorem T8 {z z':Nat→Int}{n:Int}{k:Nat}(h:∀t,t<k*6→z t=z' t):cnt z n k=cnt z' n k:=by
 induction k with
 |zero=>rfl
 |succ k ih=>
  simp only[cnt,ih fun t ht=>h t qo,h (k*6) qo,h (k*6+1) qo,h (k*6+2) qo,h (k*6+3) qo,h (k*6+4) qo,h (k*6+5) qo]
theorem abg (z:Nat→Int)(n:Int)(a b:Nat){m:Int}(h:cnt z n a=some m):cnt z n (a+b)=cnt (fun t=>z (a*6+t)) m b:=by
 induction b with
 |zero=>exact h
 |succ b ih=>
  rw[←Nat.add_assoc]
  simp only[cnt,ih]
  rw[show(a+b)*6=a*6+b*6 by omega]
  simp only[Nat.add_assoc]
def Ev (n m:Int)(L:List Int):Prop:=∃a,L.length=a*6∧cnt (evs L) n a=some m
theorem Ev.nil (n:Int):Ev n n []:=⟨0,rfl,rfl⟩
theorem Ev.app {n m l:Int}{L M:List Int}(h:Ev n m L)(h':Ev m l M):Ev n l (L++M):=by
 obtain⟨a,ha,hc⟩:=h;obtain⟨b,hb,hc'⟩:=h';refine⟨a+b,by rw[List.length_append];omega,?_⟩;rw[abg (evs (L++M)) n a b (m:=m)]
 ·rw[←hc']
  refine T8 fun t _=>?_
  simp only[evs,List.getD,List.getElem?_append]
  rw[if_neg qo,show a*6+t-L.length=t by omega]
 ·rw[←hc]
  refine T8 fun t ht=>?_
  simp only[evs,List.getD,List.getElem?_append]
  rw[if_pos qo]
theorem Ev.one {k p c b y d n m:Int}(hv:gJ k p c b y d n=true)(hm:bD k c n=m)(h12:m≤12):Ev n m (jQ k p c b y d):=by
 refine⟨1,rfl,?_⟩;have h:cnt (evs (jQ k p c b y d)) n 0=some n:=rfl
 simp only[cnt]
 show(if gJ k p c b y d n=true∧bD k c n≤12 then some (bD k c n)else none)=some m;rw[if_pos ⟨hv,by omega⟩,hm]
theorem XU {s n:Int}(hs:s=1∨s= -1)(hn:n≤12){xs:List Int}(h:∀x∈xs,0≤x∧x≤n-2):Ev n n (cE s xs):=by
 induction xs with
 |nil=>exact Ev.nil n
 |cons x xs ih=>
  have hx:=h x List.mem_cons_self;refine Ev.app (m:=n) ?_ (ih fun y hy=>h y (List.mem_cons_of_mem _ hy));refine Ev.one ?_ (by unfold bD;rw[if_neg qo,if_neg qo,if_neg qo]) hn;unfold gJ j5;rw[if_neg qo,if_pos rfl]
  rcases hs with rfl|rfl<;>simp<;>omega
theorem adv {W:Nat}{r G5:Int}{f k:Nat→Nat}{i:Nat}(hi:i<W)(h12:cJ f W+cJ k W≤12):Ev ((cJ f W+cJ k W:Nat):Int) ((cJ f W+cJ k W:Nat):Int) (nW W r G5 f k i):=by
 unfold nW
 split
 ·split
  ·rename_i h
   have h1:=Qx (f:=f) (k:=k) hi h;refine XU (.inr rfl) qo fun x hx=>?_;have:=Io x hx;omega
  ·exact Ev.nil _
 ·split
  ·rename_i h
   have h1:=Qw (f:=f) (k:=k) hi h;refine XU (.inl rfl) qo fun x hx=>?_;have:=Io x hx;omega
  ·exact Ev.nil _
theorem xw {W:Nat}{r G5:Int}{f k:Nat→Nat}(h12:cJ f W+cJ k W≤12){i:Nat}(hi:i≤W):Ev ((cJ f W+cJ k W:Nat):Int) ((cJ f W+cJ k W:Nat):Int) (fS W r G5 f k i):=by
 induction i with
 |zero=>exact Ev.nil _
 |succ i ih=>exact(ih qo).app (adv qo h12)
theorem aa4 {W:Nat}{r:Int}{f k:Nat→Nat}(h12:cJ f W+cJ k W≤12)(n:Nat):Ev ((cJ f W+cJ k W:Nat):Int) ((cJ f W+cJ k W:Nat):Int) (qK W r f k n):=by
 induction n with
 |zero=>exact Ev.nil _
 |succ n ih=>exact ih.app (xw h12 ql)
theorem aa5 {W:Nat}{r:Int}{f k:Nat→Nat}(h12:cJ f W+cJ k W≤12)(n:Nat):Ev ((cJ f W+cJ k W:Nat):Int) ((cJ f W+cJ k W:Nat):Int) (rJ W r f k n):=by
 induction n with
 |zero=>exact Ev.nil _
 |succ n ih=>exact ih.app (xw h12 ql)
theorem adw {W:Nat}{r r':Int}{f k:Nat→Nat}(h12:cJ f W+cJ k W≤12):Ev ((cJ f W+cJ k W:Nat):Int) ((cJ f W+cJ k W:Nat):Int) (xZ W r r' f k):=by
 unfold xZ
 split
 ·exact aa4 h12 _
 ·exact aa5 h12 _
end T
def live (s:aI):Nat:=T.cJ s.f s.W+T.cJ s.k s.W
def iH (s:aI)(b a:Int):Nat:=T.n7 s.W s.rk s.f s.k b a
def hZ (s:aI)(k d fb fa c r:Int):List Int:=
 if k=7 then T.xZ s.W s.rk r s.f s.k
 else if k=1 then jQ 2 (iH s fb fa) (aM s fb fa) fb c d
 else if k=2 then jQ 3 ((iH s fb fa:Int)+aM s fb fa) 0 fb c d
 else if k=5 then jQ 5 (if fb=2 then(iH s fb fa:Int)+aM s fb fa else iH s fb fa) (aM s fb fa) fb c d
 else if k=6 then jQ 4 (iH s fb fa) (aM s fb fa) 0 0 0
 else []
def kE (s:aI)(z:Nat→Int)(i:Nat):List Int:=hZ s (z (i*8)) (z (i*8+1)) (z (i*8+2)) (z (i*8+3)) (z (i*8+6)) (z (i*8+7))
def wA (W:Nat)(z:Nat→Int):Nat→List Int
 |0=>[]
 |i+1=>wA W z i++kE (bB W z i) z i
def qS (W:Nat)(z:Nat→Int)(i:Nat):Prop:=2000*6<(wA W z i).length∨12<live (bB W z i)
instance (W:Nat)(z:Nat→Int)(i:Nat):Decidable (qS W z i):=by unfold qS;exact inferInstance
def mT (W:Nat)(z:Nat→Int):Nat→Nat→Int
 |_,0=>0
 |i,m+1=>if kC (bB W z i) z i≠0 then kC (bB W z i) z i else if qS W z (i+1)then 5 else mT W z (i+1) m
def tT (W:Nat)(z:Nat→Int)(k:Nat):Prop:=∀i,i<k→kC (bB W z i) z i=0∧¬qS W z (i+1)
theorem abr {W:Nat}{z:Nat→Int}(m:Nat):∀i,(∀j,i≤j→j<i+m→kC (bB W z j) z j=0∧¬qS W z (j+1))→mT W z i m=0:=by
 induction m with
 |zero=>intro i _;rfl
 |succ m ih=>
  intro i h;have h1:=h i ql qo
  simp only[mT]
  rw[if_neg (fun e=>e h1.1),if_neg h1.2];exact ih (i+1) fun j hj hj2=>h j qo qo
theorem Ho (W:Nat)(z:Nat→Int)(n:Nat):∀k,k≤n→tT W z k→mT W z 0 n=mT W z k (n-k):=by
 intro k
 induction k with
 |zero=>intro _ _;rfl
 |succ k ih=>
  intro hk h;rw[ih qo fun i hi=>h i qo,show n-k=(n-(k+1))+1 by omega];have h1:=h k qo
  simp only[mT]
  rw[if_neg (fun e=>e h1.1),if_neg h1.2]
theorem RO {W:Nat}{z:Nat→Int}{n:Nat}(h:tT W z n):mT W z 0 n=0:=abr n 0 fun j _ hj=>h j qo
theorem oz {W:Nat}{z:Nat→Int}{n k:Nat}(hk:k<n)(h:tT W z k)(hb:kC (bB W z k) z k≠0):mT W z 0 n=kC (bB W z k) z k:=by
 rw[Ho W z n k qo h,show n-k=(n-k-1)+1 by omega]
 simp only[mT]
 rw[if_pos hb]
theorem EE {W:Nat}{z:Nat→Int}{n k:Nat}(hk:k<n)(h:tT W z k)(hb:kC (bB W z k) z k=0)(hf:qS W z (k+1)):mT W z 0 n=5:=by
 rw[Ho W z n k qo h,show n-k=(n-k-1)+1 by omega]
 simp only[mT]
 rw[if_neg (fun e=>e hb),if_pos hf]
theorem RM {W:Nat}{z:Nat→Int}{k:Nat}(h:tT W z k)(h1:kC (bB W z k) z k=0)(h2:¬qS W z (k+1)):tT W z (k+1):=fun i hi=>by
 by_cases e:i=k
 ·subst e
  exact⟨h1,h2⟩
 ·exact h i qo
theorem aat {W:Nat}{z:Nat→Int}{n:Nat}(h:mT W z 0 n=0):tT W z n:=by
 have key:∀m i,mT W z i m=0→∀j,i≤j→j<i+m→kC (bB W z j) z j=0∧¬qS W z (j+1):=by
  intro m
  induction m with
  |zero=>intro i _ j h1 h2;omega
  |succ m ih=>
   intro i hi j h1 h2
   simp only[mT]at hi
   by_cases e1:kC (bB W z i) z i≠0
   ·rw[if_pos e1]at hi
    exact absurd hi e1
   ·rw[if_neg e1]at hi
    by_cases e2:qS W z (i+1)
    ·rw[if_pos e2]at hi
     omega
    ·rw[if_neg e2]at hi
     by_cases e:j=i
     ·subst e
      exact⟨Decidable.byContradiction e1,e2⟩
     ·exact ih (i+1) hi j qo qo
 exact fun i hi=>key n 0 h i (Nat.zero_le _) qo
theorem tT.ok {W:Nat}{z:Nat→Int}{k:Nat}(h:tT W z k):mV W z k:=fun i hi=>(h i hi).1
theorem VF (f:Nat→Nat)(x m:Nat){W:Nat}(hx:x<W):T.cJ (fun q=>if q=x then m else f q) W+f x=T.cJ f W+m:=by
 induction W with
 |zero=>omega
 |succ W ih=>
  simp only[T.cJ]
  by_cases e:x=W
  ·subst e
   rw[if_pos rfl];have:∀n,n≤x→T.cJ (fun q=>if q=x then m else f q) n=T.cJ f n:=by
    intro n
    induction n with
    |zero=>intro _;rfl
    |succ n ih=>
     intro hn
     simp only[T.cJ,ih qo]
     rw[if_neg qo]
   rw[this x ql];omega
  ·have:=ih qo
   rw[if_neg (fun e'=>e e'.symm)];omega
theorem kH (s:aI)(b x:Int)(m:Nat)(h0:0≤x)(h1:x<s.W):live (gA s b x m)+aM s b x=live s+m:=by
 unfold gA aM live
 split
 ·have:=VF s.f x.toNat m (show x.toNat<s.W by omega)
  simp only
  omega
 ·have:=VF s.k x.toNat m (show x.toNat<s.W by omega)
  simp only
  omega
theorem oB {s:aI}{b x:Int}(hb:b=1∨b=2)(h0:0≤x)(h1:x<s.W):iH s b x+aM s b x≤live s:=by
 unfold iH T.n7 aM live
 rcases hb with rfl|rfl
 ·rw[if_neg (by decide),if_pos rfl]
  have h2:=T.Wi s.k s.rk x s.W;have h3:=T.kL s.f x s.W;rw[if_pos ⟨h0,h1⟩]at h3;have h4:=T.BP s.f (x+1) s.W;omega
 ·rw[if_pos rfl,if_neg (by decide)]
  have h2:=T.BP s.f (x+s.rk+1) s.W;have h3:=T.kL s.k x s.W;rw[if_pos ⟨h0,h1⟩]at h3;have h4:=T.BP s.k (x+1) s.W;have h5:=T.lS s.k s.rk (x+s.rk) s.W;rw[show x+s.rk-s.rk=x by omega]at h5;omega
theorem zQ26x6 {p:Prop}(h:p:=by
 simp only[Bool.and_eq_true]at h
 have:=h.2.1.1;refine⟨by simp[aK]at this;omega,?_⟩
 simp[h.1,this,h.2.2.1]):p:=h
theorem tW {k d fb fa tb ta c r:Int}(hk:k=1∨k=2∨k=5)(h:aW k d fb fa tb ta c r=true):(fb=1∨fb=2)∧jP fb c d=true:=by
 unfold aW kG at h;unfold jP
 rcases hk with rfl|rfl|rfl
 ·rw[if_pos qo]at h
  exact zQ26x6
 ·rw[if_pos qo]at h
  exact zQ26x6
 ·rw[if_neg qo,if_neg qo,if_pos rfl]at h
  simp only[Bool.and_eq_true]at h
  have:=h.1.1;refine⟨by simp[aK]at this;omega,?_⟩
  simp[h.2.2.2.1,this,h.2.2.2.2.1]
theorem EM {k d fb fa tb ta c r:Int}(hk:k=4∨k=5)(h:aW k d fb fa tb ta c r=true):fb=1∧tb=2∨fb=2∧tb=1:=by
 unfold aW kA kG aK at h
 rcases hk with rfl|rfl
 ·rw[if_neg qo,if_pos rfl]at h
  simp only[Bool.and_eq_true,decide_eq_true_eq,beq_iff_eq,bne_iff_ne]at h
  omega
 ·rw[if_neg qo,if_neg qo,if_pos rfl]at h
  simp only[Bool.and_eq_true,decide_eq_true_eq,beq_iff_eq,bne_iff_ne]at h
  omega
theorem LX {d fb fa tb ta c r:Int}(h:aW 6 d fb fa tb ta c r=true):fb=1∨fb=2:=by
 unfold aW kG aK at h;rw[if_neg qo,if_neg qo,if_neg qo,if_pos rfl]at h
 simp only[Bool.and_eq_true,decide_eq_true_eq]at h
 omega
theorem Cz (s:aI){b b' x x':Int}(h:b=1∧b'=2∨b=2∧b'=1)(m:Nat):aM (gA s b x m) b' x'=aM s b' x':=by
 unfold gA aM
 rcases h with⟨rfl,rfl⟩|⟨rfl,rfl⟩<;>rfl
theorem BV {s:aI}{fb fa tb ta:Int}(hb:fb=1∧tb=2∨fb=2∧tb=1)(f0:0≤fa)(f1:fa<s.W)(t0:0≤ta)(t1:ta<s.W):live (aY s fb fa tb ta)=live s:=by
 unfold aY;have h1:=kH s tb ta (aM s fb fa+aM s tb ta) t0 t1;have h2:=kH (gA s tb ta (aM s fb fa+aM s tb ta)) fb fa 0 f0 (by rw[iB];exact f1);rw[Cz s qo]at h2;omega
theorem SL (s:aI){b x:Int}(m:Nat):aM (gA s b x m) b x=m:=by
 unfold gA aM
 by_cases hb:b=1
 ·simp[hb]
 ·simp[hb]
theorem afr {s:aI}{D:Nat}(hs:bW s D){k d fb fa tb ta c r:Int}{j:Nat}(hp:fP s.W k d fb fa tb ta c r j)(hB:aW k d fb fa tb ta c r=true)(hc:aX s k d fb fa tb ta j=0)(h12:live s≤12)(D2:live (cV s k d fb fa tb ta r j)≤12):
 T.Ev (live s) (live (cV s k d fb fa tb ta r j)) (hZ s k d fb fa c r):=by
 have hk1:=hp.k1;have zQ:=hp.k9;have f0:=hp.f0;have f1:=hp.f1;have t0:=hp.t0;have t1:=hp.t1;have h4:=bT (b:=fb) hs f0 f1;unfold aX at hc;unfold cV at D2 ⊢;unfold hZ
 by_cases hform:k=1∨k=2∨k=5
 ·obtain⟨fB,hy⟩:=tW hform hB
  have hle:=oB fB f0 f1;rw[if_pos hform]at hc D2 ⊢;rw[if_neg qo];unfold eH at hc;unfold mZ at D2 ⊢
  by_cases h1:k=1
  ·rw[if_pos h1]at D2 ⊢
   rw[if_pos h1];have hl:live (gA (more (bM s d (aL fb fa s.rk) j)) fb fa 1)+aM s fb fa=live s+1:=kH (more (bM s d (aL fb fa s.rk) j)) fb fa 1 f0 f1;refine T.Ev.one ?_ ?_ qo
   ·unfold gJ
    rw[if_neg qo,if_neg qo,if_pos rfl,hy]
    simp[aK]
    omega
   ·unfold bD
    rw[if_pos rfl];omega
  ·rw[if_neg h1]at D2 ⊢
   rw[if_neg h1]
   by_cases h2:k=2
   ·rw[if_pos h2]at D2 ⊢
    rw[if_pos h2];have hl:live (gA (more (bM s d (aL fb fa s.rk) j)) fb fa (aM s fb fa+1))+aM s fb fa=live s+(aM s fb fa+1):=kH (more (bM s d (aL fb fa s.rk) j)) fb fa (aM s fb fa+1) f0 f1;refine T.Ev.one ?_ ?_ qo
    ·unfold gJ
     rw[if_neg qo,if_neg qo,if_neg qo,if_pos rfl,hy]
     simp
     omega
    ·unfold bD
     rw[if_neg qo,if_pos qo];omega
   ·have h5:k=5:=qo
    rw[if_neg h2]at D2 ⊢;rw[if_neg h2,if_pos h5];have Ed:=EM (.inr h5) hB;have hn0:aM s fb fa≠0:=fun e=>by
     split at hc
     ·split at hc
      ·omega
      ·unfold eG at hc
       rw[Rk,if_pos e]at hc
       split at hc<;>omega
     ·omega
    have hm:live (aY (bM s d (aL fb fa s.rk) j) fb fa tb ta)=live s:=BV (s:=bM s d (aL fb fa s.rk) j) Ed f0 f1 t0 t1;have hl:=kH (more (aY (bM s d (aL fb fa s.rk) j) fb fa tb ta)) fb fa 1 f0 (by show fa<((aY (bM s d (aL fb fa s.rk) j) fb fa tb ta).W:Nat);rw[tX];exact f1);have e1:live (more (aY (bM s d (aL fb fa s.rk) j) fb fa tb ta))=live (aY (bM s d (aL fb fa s.rk) j) fb fa tb ta):=rfl;have e2:aM (more (aY (bM s d (aL fb fa s.rk) j) fb fa tb ta)) fb fa=0:=SL _ 0;rw[e1,e2,hm]at hl;refine T.Ev.one ?_ ?_ qo
    ·unfold gJ
     by_cases hb2:fb=2
     ·rw[if_pos hb2,if_neg qo,if_neg qo,if_neg qo,if_neg qo,if_neg qo,if_pos rfl,hy,if_neg qo]
      simp[aK]
      omega
     ·rw[if_neg hb2,if_neg qo,if_neg qo,if_neg qo,if_neg qo,if_neg qo,if_pos rfl,hy,if_pos qo]
      simp[aK]
      omega
    ·unfold bD
     rw[if_neg qo,if_pos qo];omega
 ·rw[if_neg hform]at hc D2 ⊢
  by_cases h7:k=7
  ·rw[if_neg qo,if_neg qo,if_neg qo,if_pos h7]at D2 ⊢
   rw[if_pos h7];exact T.adw h12
  ·rw[if_neg (show¬k=1 by omega),if_neg (show¬k=2 by omega),if_neg (show¬k=5 by omega)]
   by_cases h6:k=6
   ·rw[if_neg (show¬k=3 by omega),if_neg (show¬k=4 by omega),if_pos h6]at hc D2 ⊢
    rw[if_neg h7,if_pos h6];subst h6;have fB:=LX hB;have hle:=oB fB f0 f1;have hn0:aM s fb fa≠0:=fun e=>by rw[if_pos e]at hc;omega
    have hl:live (gA {s with d:=s.d+aM s fb fa} fb fa 0)+aM s fb fa=live s+0:=kH {s with d:=s.d+aM s fb fa} fb fa 0 f0 f1;refine T.Ev.one ?_ ?_ qo
    ·unfold gJ
     rw[if_neg qo,if_neg qo,if_neg qo,if_neg qo,if_pos rfl]
     simp[aK,j5]
     omega
    ·unfold bD
     rw[if_neg qo,if_neg qo,if_pos rfl];omega
   ·rw[if_neg h6,if_neg h7,if_neg h7,if_neg h6]
    by_cases h3:k=3
    ·rw[if_pos h3]
     exact T.Ev.nil _
    ·rw[if_neg h3]
     by_cases h4:k=4
     ·rw[if_pos h4,BV (EM (.inl h4) hB) f0 f1 t0 t1]
      exact T.Ev.nil _
     ·rw[if_neg h4]
      exact T.Ev.nil _
theorem M3 (W:Nat):live (jC W)=0:=by
 have h:∀n,T.cJ (fun _=>0) n=0:=by
  intro n
  induction n with
  |zero=>rfl
  |succ n ih=>simp only[T.cJ,ih]
 show T.cJ (fun _=>0) W+T.cJ (fun _=>0) W=0;rw[h]
theorem Wq {W:Nat}{z:Nat→Int}{i:Nat}(h:dR W z i=true):aW (z (i*8)) (z (i*8+1)) (z (i*8+2)) (z (i*8+3)) (z (i*8+4)) (z (i*8+5)) (z (i*8+6)) (z (i*8+7))=true:=by
 unfold dR at h
 simp only[Bool.and_eq_true]at h
 exact h.1
theorem RN {W:Nat}{z:Nat→Int}{k:Nat}(h:tT W z k):live (bB W z k)≤12:=by
 rcases k with _|k
 ·show live (jC W)≤12
  rw[M3];omega
 ·have:=(h k qo).2
  unfold qS at this;omega
theorem afq {W:Nat}{z:Nat→Int}(h1:1≤W)(h2:W≤24):∀k,(∀i,i<k→dR W z i=true)→tT W z k→T.Ev 0 (live (bB W z k)) (wA W z k):=by
 intro k
 induction k with
 |zero=>
  intro _ _;show T.Ev 0 (live (jC W):Nat) [];rw[M3];exact T.Ev.nil 0
 |succ k ih=>
  intro hp h;have hk:tT W z k:=fun i hi=>h i qo;have hok:=zI h1 h2 k (fun i hi=>hp i qo) hk.ok;have ho:=gC h1 (hp k qo);rw[←BU W z k]at ho;exact(ih (fun i hi=>hp i qo) hk).app (afr hok ho (Wq (hp k qo)) (h k qo).1 (RN hk) (RN h))
theorem adx {m:Int}{L:List Int}(h:T.Ev 0 m L){n:Nat}(hl:L.length=n*6):cnt (T.evs L) 0 n=some m:=by
 obtain⟨a,ha,hc⟩:=h;obtain rfl:a=n:=qo;exact hc
theorem adt {n m:Int}{L:List Int}(h:T.Ev n m L):∃a,L.length=a*6:=by
 obtain⟨a,ha,_⟩:=h;exact⟨a,ha⟩
end Go.Proofs.YtdnmhhohcedjbaaGreat
namespace Go.Proofs.YtdnmhhohcedjbaaGreat
open Go.RowKit
namespace T
variable {W:Nat}{r:Int}{f k:Nat→Nat}
theorem Ny (f k:Nat→Nat){b a:Int}(hb:b=1∨b=2)(h0:0≤a)(h1:a<W)(hr: -3≤r∧r≤3):∃P R,d9 W r (W+6)=P++(b,a)::R∧(b,a)∉P∧fG f k P=n7 W r f k b a:=by
 obtain⟨m,rfl⟩:∃m:Nat,a=m:=⟨a.toNat,by omega⟩
 rcases hb with rfl|rfl
 ·obtain⟨R,hR⟩:=Jl (r:=r) (show m<W by omega)
  refine⟨_,R,hR,fun h=>?_,?_⟩
  ·have h2:=(tY h).2
   simp only at h2
   omega
  ·rw[M5 f k W hr.1]
   unfold n7;rw[if_neg (by decide),show((m+3:Nat):Int)-3=m by omega]
 ·obtain⟨R,hR⟩:=Rj hr (show m<W by omega)
  refine⟨_,R,hR,fun h=>?_,?_⟩
  ·rcases List.mem_append.1 h with h|h
   ·have h2:=(tY h).2
    simp only at h2
    omega
   ·have h2:=(NU h).1
    simp only at h2
    omega
  ·rw[BW,M5 f k W hr.1,QQ]
   unfold n7;rw[if_pos rfl];have h2:=kL f ((m:Int)+r) W;rw[show(((m:Int)+r+3).toNat:Int)-3=(m:Int)+r by omega,h2];omega
theorem FA (W:Nat)(r x:Int):(bk1 W r x=[(2,x-r)]∧0≤x-r∧x-r<W)∨(bk1 W r x=[]∧¬(0≤x-r∧x-r<W)):=by
 unfold bk1
 by_cases h:0≤x-r∧x-r<W
 ·rw[if_pos h]
  exact .inl ⟨rfl,h⟩
 ·rw[if_neg h]
  exact .inr ⟨rfl,h⟩
theorem Qo (f k:Nat→Nat){i:Nat}(hi:i<W)(hr: -4≤r)(h:0≤(i:Int)-r-1∧(i:Int)-r-1<W):∃P R,lB W r i=P++(2,(i:Int)-r-1)::(1,(i:Int))::R∧lB W r (i+1)=P++(1,(i:Int))::(2,(i:Int)-r-1)::R∧(1,(i:Int))∉P∧fG f k P=n7 W r f k 2 ((i:Int)-r-1):=by
 have hb:bk1 W r ((i:Int)-1)=[(2,(i:Int)-r-1)]:=by
  rcases FA W r ((i:Int)-1)with⟨h1,_⟩|⟨_,h2⟩
  ·rw[h1,show(i:Int)-1-r=(i:Int)-r-1 by omega]
  ·omega
 refine⟨d9 W (r+1) (i+3),bk1 W r i++j3 W r (i+4) (W+2-i),?_,?_,fun h2=>?_,adJ f k W hr i⟩
 ·rw[JR hi,hb]
  rfl
 ·rw[S5 hi,hb]
  rfl
 ·have h3:=(tY h2).2
  simp only at h3
  omega
theorem aar {i:Nat}(hi:i<W)(h:¬(0≤(i:Int)-r-1∧(i:Int)-r-1<W)):∃P R,lB W r i=P++(1,(i:Int))::R∧lB W r (i+1)=lB W r i∧(1,(i:Int))∉P∧(∀n∈P,n≠(2,(i:Int)-r-1)):=by
 have hb:bk1 W r ((i:Int)-1)=[]:=by
  rcases FA W r ((i:Int)-1)with⟨_,h1⟩|⟨h1,_⟩
  ·omega
  ·exact h1
 refine⟨d9 W (r+1) (i+3),bk1 W r i++j3 W r (i+4) (W+2-i),?_,?_,fun h2=>?_,fun n hn e=>?_⟩
 ·rw[JR hi,hb]
  rfl
 ·rw[JR hi,S5 hi,hb]
  rfl
 ·have h3:=(tY h2).2
  simp only at h3
  omega
 ·have h3:=(tY hn).1
  rw[e]at h3;exact h ⟨h3.2.1,h3.2.2⟩
theorem Tq (f k:Nat→Nat){i:Nat}(hi:i<W)(hr: -3≤r)(h:0≤(i:Int)-r∧(i:Int)-r<W):∃P R,lC W r i=P++(1,(i:Int))::(2,(i:Int)-r)::R∧lC W r (i+1)=P++(2,(i:Int)-r)::(1,(i:Int))::R∧(1,(i:Int))∉P∧fG f k P=n7 W r f k 1 i:=by
 have hb:bk1 W r (i:Int)=[(2,(i:Int)-r)]:=by
  rcases FA W r (i:Int)with⟨h1,_⟩|⟨_,h2⟩
  ·exact h1
  ·omega
 refine⟨oP W r (i+3),j3 W r (i+4) (W+2-i),?_,?_,fun h2=>?_,adK f k W hr i⟩
 ·rw[JS hi,hb]
  rfl
 ·rw[S6 hi,hb]
  rfl
 ·have h3:=(QN h2).2
  simp only at h3
  omega
theorem aa8 {i:Nat}(hi:i<W)(h:¬(0≤(i:Int)-r∧(i:Int)-r<W)):∃P R,lC W r i=P++(1,(i:Int))::R∧lC W r (i+1)=lC W r i∧(1,(i:Int))∉P∧(∀n∈R,n≠(2,(i:Int)-r)):=by
 have hb:bk1 W r (i:Int)=[]:=by
  rcases FA W r (i:Int)with⟨_,h1⟩|⟨h1,_⟩
  ·omega
  ·exact h1
 refine⟨oP W r (i+3),j3 W r (i+4) (W+2-i),?_,?_,fun h2=>?_,fun n hn e=>?_⟩
 ·rw[JS hi,hb]
  rfl
 ·rw[JS hi,S6 hi,hb]
  rfl
 ·have h3:=(QN h2).2
  simp only at h3
  omega
 ·have h3:=I4 hn
  rw[e]at h3;exact h ⟨h3.2.1,h3.2.2⟩
theorem aaD {i:Nat}{n:eV}(h:n∈lB W r i):DZ W n:=by
 unfold lB at h
 rcases List.mem_append.1 h with h|h
 ·exact(tY h).1
 ·rcases List.mem_append.1 h with h|h
  ·have:=NV h
   exact⟨.inr this.1,by rw[this.2.1];exact this.2.2.1,by rw[this.2.1];exact this.2.2.2⟩
  ·exact I4 h
theorem aaF {i:Nat}{n:eV}(h:n∈lC W r i):DZ W n:=by
 unfold lC at h
 rcases List.mem_append.1 h with h|h
 ·exact(QN h).1
 ·exact I4 h
end T
def pH (s:aI)(b a:Int)(i:Nat):Nat:=T.sF s.f (if b=2 then a+s.rk+1 else a) i+T.sK s.k s.rk (aL b a s.rk) i
theorem pG (s:aI)(b a:Int):pH s b a s.W=iH s b a:=by
 unfold pH iH T.n7 aL
 by_cases hb:b=2
 ·rw[if_pos hb,if_pos hb,if_pos hb]
 ·rw[if_neg hb,if_neg hb,if_neg hb]
theorem TI (s:aI)(b a:Int)(i:Nat):pH s b a (i+1)=pH s b a i+(if(i:Int)<aL b a s.rk∨(i:Int)=aL b a s.rk∧b=2 then s.f i else 0)+(if(i:Int)+s.rk<aL b a s.rk then s.k i else 0):=by
 unfold pH aL
 simp only[T.sF,T.sK]
 by_cases hb:b=2
 ·simp only[if_pos hb]
  by_cases h:(i:Int)<a+s.rk+1
  ·rw[if_pos h,if_pos (show(i:Int)<a+s.rk∨(i:Int)=a+s.rk∧b=2 by omega)]
   omega
  ·rw[if_neg h,if_neg (show¬((i:Int)<a+s.rk∨(i:Int)=a+s.rk∧b=2)by omega)]
   omega
 ·simp only[if_neg hb]
  by_cases h:(i:Int)<a
  ·rw[if_pos h,if_pos (show(i:Int)<a∨(i:Int)=a∧b=2 by omega)]
   omega
  ·rw[if_neg h,if_neg (show¬((i:Int)<a∨(i:Int)=a∧b=2)by omega)]
   omega
theorem rZ {s:aI}{D:Nat}(hs:bW s D)(b a:Int){i:Nat}(hi:i≤s.W):pH s b a i≤8*i:=by
 induction i with
 |zero=>exact Nat.le_refl _
 |succ i ih=>
  have h1:=hs.fb i qo;have h2:=hs.kb i qo;have h3:=ih qo;rw[TI]
  split<;>split<;>omega
theorem JU {s:aI}{D:Nat}(hs:bW s D):live s≤8*s.W:=by
 have h:∀i,i≤s.W→T.cJ s.f i≤4*i∧T.cJ s.k i≤4*i:=by
  intro i
  induction i with
  |zero=>intro _;exact⟨Nat.le_refl _,Nat.le_refl _⟩
  |succ i ih=>
   intro hi;have h1:=hs.fb i qo;have h2:=hs.kb i qo;have h3:=ih qo
   simp only[T.cJ]
   omega
 have:=h s.W ql;unfold live;omega
end Go.Proofs.YtdnmhhohcedjbaaGreat
namespace Go.Proofs.YtdnmhhohcedjbaaGreat
open Go.RowKit
section
variable {tg:Nat→Nat}{a:bC}{s:aI}{D:Nat}{w:World}
theorem Mem.R3 (H:Mem tg a s w){i:Nat}(hi:i<s.W):∃A c,w.cell? ⟨a.gf,i,none⟩=some (.slice A (s.f i) c):=by
 obtain⟨A,c,e⟩:=(H.lf i hi).form;have h:=H.f i hi;rw[Nat.zero_add,e]at h;exact⟨A,c,h⟩
theorem Mem.YE (H:Mem tg a s w){i:Nat}(hi:i<s.W):∃A c,w.cell? ⟨a.gk,i,none⟩=some (.slice A (s.k i) c):=by
 obtain⟨A,c,e⟩:=(H.lk i hi).form;have h:=H.k i hi;rw[Nat.zero_add,e]at h;exact⟨A,c,h⟩
theorem zQ26x0 {p:Prop}(h:p:=by
 go_wp2_with fail
 go_roundw
 case rel=>exact⟨i+1,by omega,by rw[qF.o];go_num,qg,by trivial⟩
 case measure=>exact qs):p:=h
theorem xM (b x:Int)(H:Mem tg a s w)(hs:bW s D)(hx:0≤x)(hx1:x<s.W):
 Calls Tryz.prog 148 #[.pointer (some ⟨a.g,0,none⟩),.agg #[.int .i64 b,.int .i64 x]] w fun e w'=>e=.returned (.int .i64 (iH s b x:Nat))∧Below w.heap.size w w':=by
 have hg:Below w.heap.size w (w.alloc (.cells #[.int .i64 b,.int .i64 x] 65)):=qb;have HN:=qh (H.below hg);have HG:=qh hg;have Pn:=qh (aB.at_ (g':=w.heap.size) w 65 #[.int .i64 b,.int .i64 x] rfl);have n0:(w.alloc (.cells #[.int .i64 b,.int .i64 x] 65)).cell? ⟨w.heap.size,0,none⟩=some (.int .i64 b):=Pn.o.cell 0;have n1:(w.alloc (.cells #[.int .i64 b,.int .i64 x] 65)).cell? ⟨w.heap.size,1,none⟩=some (.int .i64 x):=Pn.o.cell 1;have m1:(w.alloc (.cells #[.int .i64 b,.int .i64 x] 65)).cell? ⟨a.g,1,none⟩=some (.int .i64 s.rk):=HN.o.m.cell 1;have hgz:=HN.o.m.lt;have hnz:=Pn.o.lt;have hw2:=hs.w2;have hr1:=hs.r1;have hr2:=hs.r2;have Z0:=qh (fun W=>sO b x s.rk W hx qo hr1 hr2);have iX:=qh (pG s b x);have bN:=qh (fun i=>TI s b x i);have J8:=qh (fun i hi=>rZ hs b x (i:=i) hi);have tP:=qh hs.fb;have Px:=qh hs.kb;have HZ:=qh (show pH s b x 0=0 from rfl);obtain⟨X,hX⟩:=qx (aL b x s.rk);have hxb:=iC (b:=b) hx (show x≤23 by omega) hr1 hr2;rw[←hX]at Z0 hxb
 simp only[←hX]at bN
 clear hX hg H
 go_enter Tryz.func148,Tryz.ntmps148
 go_wp2_with fail
 go_region_held3 (fun w'=>w'.cell? ⟨w.heap.size,0,none⟩=some (.int .i64 b)∧w'.cell? ⟨w.heap.size,1,none⟩=some (.int .i64 x)∧w'.cell? ⟨a.g,1,none⟩=some (.int .i64 s.rk)) (go_keep) ((go_at_call 115;refine(Z0.o _).mono ?_;rintro e w5 ⟨rfl,hb5⟩;have hb6:Below (w.alloc (.cells #[.int .i64 b,.int .i64 x] 65)).heap.size (w.alloc (.cells #[.int .i64 b,.int .i64 x] 65)) w5:=(Below.refl _ (w.alloc (.cells #[.int .i64 b,.int .i64 x] 65))).drew.trans hb5;have Zj:=HG.st hb6;have mK:=qh (HN.o.below hb6);have aZ:=qh (Pn.o.below hb6 hnz);have n0:=aD hb6 hnz n0;have n1:=aD hb6 hnz n1;have m1:=aD hb6 hgz m1;clear hb5 hb6))
 rename_i hHeld
 clear hHeld n0 n1 m1 HN Pn hgz hnz Z0 HG
 rename World=>w5
 have n0:w5.cell? ⟨w.heap.size,0,none⟩=some (.int .i64 b):=aZ.o.cell 0;have m0:w5.cell? ⟨a.g,0,none⟩=some (.int .i64 s.W):=mK.o.m.cell 0;have m1:w5.cell? ⟨a.g,1,none⟩=some (.int .i64 s.rk):=mK.o.m.cell 1;have m2:w5.cell? ⟨a.g,2,none⟩=some (.slice (some ⟨a.gf,0,none⟩) s.W a.cf):=mK.o.m.cell 2;have m3:w5.cell? ⟨a.g,3,none⟩=some (.slice (some ⟨a.gk,0,none⟩) s.W a.ck):=mK.o.m.cell 3
 go_wp2_with fail
 go_loopw [6,7] (fun v y wr=>∃i:Nat,i≤s.W∧v=.int .i64 (pH s b x i:Nat)∧y=.int .i64 i∧wr=w5) (fun _ y _=>s.W-(intOf y).toNat)
 case atStart=>exact⟨0,Nat.zero_le _,by rw[HZ.o];rfl,rfl,rfl⟩
 case round=>
  obtain⟨i,hi,rfl,rfl,rfl⟩:=hrel
  by_cases hlt:i<s.W
  ·obtain⟨Af,cf,kf⟩:=mK.o.R3 hlt
   obtain⟨Ak,ck,kk⟩:=mK.o.YE hlt;have hN:=bN.o i;have hP:=J8.o i hi;have hF:=tP.o i hlt;have hK:=Px.o i hlt;have eS:=qh hN;obtain⟨P,hPe⟩:=qx (pH s b x i);obtain⟨F,zW⟩:=qx (s.f i);obtain⟨K,y9⟩:=qx (s.k i);rw[←hPe,←zW,←y9]at eS;rw[←hPe]at hP ⊢;rw[←zW]at hF kf;rw[←y9]at hK kk;have b1:(0:Int)≤(i:Int):=qo;have b2:(i:Int)<(s.W:Int):=qo;clear hN hPe zW y9
   by_cases h1:(i:Int)<X
   ·by_cases hk:(i:Int)+s.rk<X
    ·have qF:=qh (show pH s b x (i+1)=P+F+K by rw[eS.o,if_pos qo,if_pos qo])
     exact zQ26x0
    ·have qF:=qh (show pH s b x (i+1)=P+F+0 by rw[eS.o,if_pos qo,if_neg qo])
     exact zQ26x0
   ·by_cases h2:(i:Int)=X
    ·subst h2
     have XI:((i:Int)==(i:Int))=true:=by simp
     by_cases h3:b=2
     ·have h3b:(b==2)=true:=by simp[h3]
      by_cases hk:(i:Int)+s.rk<(i:Int)
      ·have qF:=qh (show pH s b x (i+1)=P+F+K by rw[eS.o,if_pos qo,if_pos qo])
       exact zQ26x0
      ·have qF:=qh (show pH s b x (i+1)=P+F+0 by rw[eS.o,if_pos qo,if_neg qo])
       exact zQ26x0
     ·have h3b:(b==2)=false:=by simp[h3]
      by_cases hk:(i:Int)+s.rk<(i:Int)
      ·have qF:=qh (show pH s b x (i+1)=P+0+K by rw[eS.o,if_neg qo,if_pos qo])
       exact zQ26x0
      ·have qF:=qh (show pH s b x (i+1)=P+0+0 by rw[eS.o,if_neg qo,if_neg qo])
       exact zQ26x0
    ·have XI:((i:Int)==X)=false:=by simp[h2]
     by_cases hk:(i:Int)+s.rk<X
     ·have qF:=qh (show pH s b x (i+1)=P+0+K by rw[eS.o,if_neg qo,if_pos qo])
      exact zQ26x0
     ·have qF:=qh (show pH s b x (i+1)=P+0+0 by rw[eS.o,if_neg qo,if_neg qo])
      exact zQ26x0
  ·obtain rfl:i=s.W:=qo
   go_wp2_with fail
   go_ret
   exact⟨by rw[←iX.o];rfl,Zj.o⟩
end
def ahX (w:World)(n:Nat)(L:List Int)(e:Ending)(w':World):Prop:=∃v,e=.returned v∧w'.ownsRow w.heap.size 91 6 v n (ints L)∧Below w.heap.size w w'
theorem mq (s:Int)(l m:List Int):cE s (l++m)=cE s l++cE s m:=by
 induction l with
 |nil=>rfl
 |cons x l ih=>simp only[List.cons_append,cE,ih,List.append_assoc]
theorem I5 (p:Int)(x y:Nat)(s:Int)(w:World)(hp:0≤p∧p≤1000000)(ha:x≤100)(hb:y≤100):
 Calls Tryz.prog 176 #[.int .i64 p,.int .i64 x,.int .i64 y,.int .i64 s] w (ahX w (y*x) (cE s (hJ p x y))):=by
 obtain⟨i0,hi,iz,is,ib⟩:=info_parts iF
 go_enter Tryz.func176,Tryz.ntmps176
 go_wp2_with fail
 go_loopg [9,10,11] y (fun q v i _ wr=>∃t:Nat,t≤y∧q+t=y∧i=.int .i64 t∧Hq (wr.ownsRow w.heap.size 91 6 v (t*x) (ints (cE s (hJ p x t))))∧Hq (Below w.heap.size w wr))
 case atStart=>exact⟨0,Nat.zero_le _,rfl,rfl,qh (by rw[Nat.zero_mul];exact World.ownsRow_made _ #[] 0 ql qm rfl),qh (qb)⟩
 case round=>
  obtain⟨t,ht,hq,rfl,HOWN,HB⟩:=hrel
  by_cases hlt:t<y
  ·have hta:t*x≤10000:=Nat.le_trans (Nat.mul_le_mul (show t≤100 by omega) ha) qo
   have Oy:=qh (show(t+1)*x=t*x+x from Nat.succ_mul t x);have HE:=qh (show cE s (hJ p x (t+1))=cE s (hJ p x t)++cE s (H7 p t x)by simp only[hJ,mq]);obtain⟨N,hN⟩:=qx (t*x);rw[←hN]at hta HOWN Oy;clear hN
   go_wp2_with fail
   go_loopg [9,11] x (fun q2 v i wi=>∃(r:Nat) (xs:List Int),r≤x∧q2=r∧i=.int .i64 ((r:Int)-1)∧Hq (wi.ownsRow w.heap.size 91 6 v (N+(x-r)) (ints xs))∧Hq (xs++cE s (H7 p t r)=cE s (hJ p x (t+1)))∧Hq (Below w.heap.size w wi))
   case atStart=>exact⟨x,cE s (hJ p x t),Nat.le_refl _,rfl,qg,qh (by rw[Nat.sub_self,Nat.add_zero];exact HOWN.o),qh HE.o.symm,HB⟩
   case round=>
    obtain⟨r,xs,hr,hq2,rfl,f9,HX,HB2⟩:=hrel
    by_cases hr0:0<r
    ·obtain⟨r',rfl⟩:∃r',r=r'+1:=⟨r-1,by omega⟩
     have e1:((r'+1:Nat):Int)-1=(r':Int):=qo;rw[e1];have b1:(0:Int)≤(r':Int):=qo
     go_wp2_with (at_builtin;go_must (refine cB _ rfl (.tmp 24) (.tmp 32) _ rfl w.heap.size 91 i0 _ 6 48 Tryz.underlying49 hi iz is ib rfl qo u9 _ _ rfl f9.o _ 1 1 [.int .i64 1,.int .i64 (p+t+r'),.int .i64 s,.int .i64 0,.int .i64 0,.int .i64 0] rfl rfl (by simp[Value.oneCell']) qm qo HB2.o.size ?_);intro v' w' hown' hf' hat';have bS:=qh hown';have HB3:=qh (HB2.o.trans (hf'.own f9.o HB2.o.size));clear hown' hf' hat')
     go_roundg r'
     case measure=>omega
     case rel=>exact⟨r',xs++jQ 1 (p+t+r') s 0 0 0,by omega,rfl,qg,qh (by have:=bS.o;rw[aT,show N+(x-r')=N+(x-(r'+1))+1 by omega];exact this),qh (by rw[List.append_assoc];exact HX.o),HB3⟩
    ·obtain rfl:r=0:=qo
     have b1:¬(0:Int)≤((0:Nat):Int)-1:=qo
     go_wp2_with fail
     go_roundg (y-(t+1))
     case measure=>omega
     case rel=>exact⟨t+1,by omega,by omega,qg,qh (by have h1:=HX.o;simp only[H7,cE,List.append_nil]at h1;have h2:=f9.o;rw[h1]at h2;rw[Oy.o];simpa using h2),HB2⟩
  ·obtain rfl:y=t:=qo
   go_wp2_with fail
   go_ret
   exact⟨_,rfl,HOWN.o,HB.o⟩
theorem rG {w:World}{B n c:Nat}{A:Option Addr}{L:List Int}(h:w.ownsRow B 91 6 (.slice A n c) n (ints L)):Rd w A (n*6) (fun j=>.int .i64 (L.getD j 0)):=fun h0=>by
 have hl:L.length=n*6:=by have:=h.1;simpa [ints]using this
 rcases h.2 with⟨_,h1⟩|⟨g',cap,_,hg,_⟩
 ·omega
 injection hg with hA _ hc;subst hA;refine⟨g',0,rfl,(h.lt g' rfl).2,fun j hj=>?_⟩;rw[Nat.zero_add,h.cellAt j qo]
 simp[ints,List.getD,show j<L.length by omega]
theorem lX (L:List Int)(n:Nat)(hn:L.length=n*6):((List.range (n*6)).map fun j=>Value.int .i64 (L.getD j 0))=ints L:=zL L (n*6) hn
def Ze (w:World)(tg:Nat→Nat)(a:bC)(s':aI)(L:List Int)(M:Nat)(e:Ending)(w':World):Prop:=∃v n,e=.returned v∧n≤M∧w'.ownsRow w.heap.size 91 6 v n (ints L)∧Mem tg a s' w'∧Fr w w' (fun b=>b=a.g)
section
variable {tg:Nat→Nat}{a:bC}{s:aI}{D:Nat}{w:World}
theorem zQ26x2 {p:Prop}(h:p:=by
 rw[fV]at iK;have s1:IntKind.i64.wrap ((i:Int)-s.rk)=(i:Int)-s.rk:=IntWalk.i64_in _ qo;clear hin fV
 go_wp2_with fail
 refine(iK.o _).mono ?_;rintro e w2 ⟨rfl,rfl⟩
 go_wp2_with fail
 go_roundw
 case rel=>exact⟨i+1,N,by omega,qg,by omega,qh (by rw[bN.o,HI.o,List.append_nil];exact HO.o),HB⟩
 case measure=>exact qs):p:=h
theorem zQ26x3 {p:Prop}(h:p:=by
 go_roundw
 case rel=>exact⟨i+1,N+Q,by omega,qg,by omega,qh (by
  have h:=cI.o;rw[lX _ _ pM.o,←aT]at h;rw[bN.o,HI.o];exact h),aZ⟩
 case measure=>exact qs):p:=h
theorem UD (H:Mem tg a s w)(hs:bW s D)(hr: -3≤s.rk+1∧s.rk+1≤3):
 Calls Tryz.prog 147 #[.pointer (some ⟨a.g,0,none⟩),.int .i64 (1)] w (Ze w tg a {s with rk:=s.rk+1} (T.fS s.W s.rk (1) s.f s.k s.W) 400):=by
 obtain⟨i0,hi,iz,is,ib⟩:=info_parts iF;have HM:=qh H;have HS:=qh hs;have hw2:=hs.w2;have hr1:=hs.r1;have hr2:=hs.r2;have HO:=qh (World.ownsRow_made (e:=91) (size:=6) w #[] 0 ql qm rfl);have HB:=qh ((Below.refl w.heap.size w).alloc ql (.cells #[] 91));have AY:=qh (fun i=>show T.fS s.W s.rk (1) s.f s.k (i+1)=T.fS s.W s.rk (1) s.f s.k i++T.nW s.W s.rk (1) s.f s.k i from rfl);have HZ:=qh (show T.fS s.W s.rk (1) s.f s.k 0=[]from rfl);clear H hs
 go_enter Tryz.func147,Tryz.ntmps147
 go_wp2_with fail
 go_loopw [5,6,7,8,9] (fun v y _ _ _ wr=>∃i N:Nat,i≤s.W∧y=.int .i64 i∧N≤16*i∧Hq (wr.ownsRow w.heap.size 91 6 v N (ints (T.fS s.W s.rk (1) s.f s.k i)))∧Hq (Below w.heap.size w wr)) (fun _ y _ _ _ _=>s.W-(intOf y).toNat)
 case atStart=>exact⟨0,0,Nat.zero_le _,rfl,Nat.zero_le _,qh (by rw[HZ.o];exact HO.o),HB⟩
 case round=>
  clear HO HB;obtain⟨i,N,hi2,rfl,hN,HO,HB⟩:=hrel;have iR:=qh (HM.o.below HB.o);have m0:wr.cell? ⟨a.g,0,none⟩=some (.int .i64 s.W):=iR.o.m.cell 0;have m1:wr.cell? ⟨a.g,1,none⟩=some (.int .i64 s.rk):=iR.o.m.cell 1
  by_cases hlt:i<s.W
  ·have m2:wr.cell? ⟨a.g,2,none⟩=some (.slice (some ⟨a.gf,0,none⟩) s.W a.cf):=iR.o.m.cell 2
   have m3:wr.cell? ⟨a.g,3,none⟩=some (.slice (some ⟨a.gk,0,none⟩) s.W a.ck):=iR.o.m.cell 3;obtain⟨Af,cf,kf⟩:=iR.o.R3 hlt;have hF:=HS.o.fb i hlt;have bN:=qh (AY.o i);have b1:(0:Int)≤(i:Int):=qo;have b2:(i:Int)<(s.W:Int):=qo
   by_cases hin:0≤(i:Int)-s.rk-1∧(i:Int)-s.rk-1<s.W
   ·obtain⟨j,hj⟩:∃j:Nat,(j:Int)=(i:Int)-s.rk-1:=⟨((i:Int)-s.rk-1).toNat,by omega⟩
    have Lr:j<s.W:=qo;obtain⟨Ak,ck,kk⟩:=iR.o.YE Lr;have hK:=HS.o.kb j Lr;have HI:=qh (show T.nW s.W s.rk (1) s.f s.k i=cE (-1) (hJ (iH s 2 j:Nat) (s.k j) (s.f i))from by
     unfold T.nW;rw[if_pos qo,if_pos hin,←hj]
     rfl)
    have hbf:=oB (s:=s) (b:=2) (x:=j) (.inr rfl) qo qo;have dU:=qh (xM 2 j iR.o HS.o qo qo);obtain⟨P,hP⟩:=qx (iH s 2 j);obtain⟨F,zW⟩:=qx (s.f i);obtain⟨K,y9⟩:=qx (s.k j);rw[←hP]at HI dU hbf;rw[←zW]at HI hF kf;rw[←y9]at HI hK kk;have xH:=qh (fun W=>I5 P K F (-1) W (by have:=JU HS.o;omega) qo qo);have hKF:F*K≤16:=Nat.le_trans (Nat.mul_le_mul (show _≤4 by omega) (show _≤4 by omega)) qo;obtain⟨Q,hQ⟩:=qx (F*K);rw[←hQ]at xH hKF;have iK:=qh (fun W:World=>dK (j:Int) 0 ((s.W:Int)-1) W);have fV:aK (j:Int) 0 ((s.W:Int)-1)=true:=by unfold aK;simp;omega
    rw[fV]at iK;have b3:(0:Int)≤(j:Int):=qo;have b4:(j:Int)<(s.W:Int):=qo;have e1:(i:Int)-s.rk-1=(j:Int):=hj.symm;have xG:=qh e1;have s1:IntKind.i64.wrap ((i:Int)-s.rk)=(i:Int)-s.rk:=IntWalk.i64_in _ qo;clear hin fV hP zW y9 hQ hj
    go_wp2_with fail
    refine(iK.o _).mono ?_;rintro e w2 ⟨rfl,rfl⟩
    go_wp2_with fail
    refine dU.o.mono ?_;rintro e w3 ⟨rfl,hb3⟩;have bS:=qh (own_below HO.o hb3);have HB3:=HB.st hb3;clear hb3 dU HO HB iR m0 m1 m2 m3 kf kk
    go_wp2_with fail
    refine(xH.o _).mono ?_;rintro e w4 ⟨v4,rfl,eN,hb4⟩;obtain⟨A4,c4,rfl⟩:=aF eN;have bP:=qh (own_below bS.o hb4);have aR:=HB3.st hb4;have HR4:=qh (rG eN);have pM:=qh (show(cE (-1) (hJ (P:Int) K F)).length=Q*6 from by have:=eN.1;simpa [ints]using this);clear eN hb4 xH bS HB3
    go_wp2_with (at_builtin;go_must (refine cW w4 rfl (.tmp 55) (.tmp 62) _ rfl w.heap.size 91 i0 _ 6 48 Tryz.underlying49 hi iz is ib rfl qo u5 N _ rfl bP.o A4 Q c4 _ rfl HR4.o (fun j=>rfl) qm qo aR.o.size ?_);intro v' w' hown' hfr;have cI:=qh hown';have aZ:=qh (aR.o.trans (hfr.own bP.o aR.o.size));clear hown' hfr)
    exact zQ26x3
   ·have HI:=qh (show T.nW s.W s.rk (1) s.f s.k i=[]from by
     unfold T.nW;rw[if_pos qo,if_neg hin])
    have iK:=qh (fun W:World=>dK ((i:Int)-s.rk-1) 0 ((s.W:Int)-1) W);have fV:aK ((i:Int)-s.rk-1) 0 ((s.W:Int)-1)=false:=by unfold aK;rw[Bool.and_eq_false_iff,decide_eq_false_iff_not,decide_eq_false_iff_not];omega
    exact zQ26x2
  ·obtain rfl:i=s.W:=qo
   have f1:wr.frozen? ⟨a.g,1,none⟩=false:=iR.o.m.frozen 1;have s1:IntKind.i64.wrap (s.rk+1)=s.rk+1:=IntWalk.i64_in _ qo;have hag:a.g<w.heap.size:=HM.o.m.lt;have tN:=qh (iR.o.rT (s.rk+1));have HFS:=qh ((Fr.of_below HB.o (fun b=>b=a.g)).set (p:=⟨a.g,1,none⟩) rfl (.int .i64 (s.rk+1)));have Z3:=qh (qw HO.o (p:=⟨a.g,1,none⟩) hag (.int .i64 (s.rk+1)))
   go_wp2_with fail
   go_ret
   exact⟨_,N,rfl,by omega,Z3.o,tN.o,HFS.o⟩
theorem UE (H:Mem tg a s w)(hs:bW s D)(hr: -3≤s.rk+ -1∧s.rk+ -1≤3):
 Calls Tryz.prog 147 #[.pointer (some ⟨a.g,0,none⟩),.int .i64 (-1)] w (Ze w tg a {s with rk:=s.rk+ -1} (T.fS s.W s.rk (-1) s.f s.k s.W) 400):=by
 obtain⟨i0,hi,iz,is,ib⟩:=info_parts iF;have HM:=qh H;have HS:=qh hs;have hw2:=hs.w2;have hr1:=hs.r1;have hr2:=hs.r2;have HO:=qh (World.ownsRow_made (e:=91) (size:=6) w #[] 0 ql qm rfl);have HB:=qh ((Below.refl w.heap.size w).alloc ql (.cells #[] 91));have AY:=qh (fun i=>show T.fS s.W s.rk (-1) s.f s.k (i+1)=T.fS s.W s.rk (-1) s.f s.k i++T.nW s.W s.rk (-1) s.f s.k i from rfl);have HZ:=qh (show T.fS s.W s.rk (-1) s.f s.k 0=[]from rfl);clear H hs
 go_enter Tryz.func147,Tryz.ntmps147
 go_wp2_with fail
 go_loopw [5,6,7,8,9] (fun v y _ _ _ wr=>∃i N:Nat,i≤s.W∧y=.int .i64 i∧N≤16*i∧Hq (wr.ownsRow w.heap.size 91 6 v N (ints (T.fS s.W s.rk (-1) s.f s.k i)))∧Hq (Below w.heap.size w wr)) (fun _ y _ _ _ _=>s.W-(intOf y).toNat)
 case atStart=>exact⟨0,0,Nat.zero_le _,rfl,Nat.zero_le _,qh (by rw[HZ.o];exact HO.o),HB⟩
 case round=>
  clear HO HB;obtain⟨i,N,hi2,rfl,hN,HO,HB⟩:=hrel;have iR:=qh (HM.o.below HB.o);have m0:wr.cell? ⟨a.g,0,none⟩=some (.int .i64 s.W):=iR.o.m.cell 0;have m1:wr.cell? ⟨a.g,1,none⟩=some (.int .i64 s.rk):=iR.o.m.cell 1
  by_cases hlt:i<s.W
  ·have m2:wr.cell? ⟨a.g,2,none⟩=some (.slice (some ⟨a.gf,0,none⟩) s.W a.cf):=iR.o.m.cell 2
   have m3:wr.cell? ⟨a.g,3,none⟩=some (.slice (some ⟨a.gk,0,none⟩) s.W a.ck):=iR.o.m.cell 3;obtain⟨Af,cf,kf⟩:=iR.o.R3 hlt;have hF:=HS.o.fb i hlt;have bN:=qh (AY.o i);have b1:(0:Int)≤(i:Int):=qo;have b2:(i:Int)<(s.W:Int):=qo
   by_cases hin:0≤(i:Int)-s.rk∧(i:Int)-s.rk<s.W
   ·obtain⟨j,hj⟩:∃j:Nat,(j:Int)=(i:Int)-s.rk:=⟨((i:Int)-s.rk).toNat,by omega⟩
    have Lr:j<s.W:=qo;obtain⟨Ak,ck,kk⟩:=iR.o.YE Lr;have hK:=HS.o.kb j Lr;have HI:=qh (show T.nW s.W s.rk (-1) s.f s.k i=cE 1 (hJ (iH s 1 i:Nat) (s.f i) (s.k j))from by
     unfold T.nW;rw[if_neg qo,if_pos hin,←hj]
     rfl)
    have hbf:=oB (s:=s) (b:=1) (x:=i) (.inl rfl) qo qo;have dU:=qh (xM 1 i iR.o HS.o qo qo);obtain⟨P,hP⟩:=qx (iH s 1 i);obtain⟨F,zW⟩:=qx (s.f i);obtain⟨K,y9⟩:=qx (s.k j);rw[←hP]at HI dU hbf;rw[←zW]at HI hF kf;rw[←y9]at HI hK kk;have xH:=qh (fun W=>I5 P F K (1) W (by have:=JU HS.o;omega) qo qo);have hKF:K*F≤16:=Nat.le_trans (Nat.mul_le_mul (show _≤4 by omega) (show _≤4 by omega)) qo;obtain⟨Q,hQ⟩:=qx (K*F);rw[←hQ]at xH hKF;have iK:=qh (fun W:World=>dK (j:Int) 0 ((s.W:Int)-1) W);have fV:aK (j:Int) 0 ((s.W:Int)-1)=true:=by unfold aK;simp;omega
    rw[fV]at iK;have b3:(0:Int)≤(j:Int):=qo;have b4:(j:Int)<(s.W:Int):=qo;have e1:(i:Int)-s.rk=(j:Int):=hj.symm;have xG:=qh e1;have s1:IntKind.i64.wrap ((i:Int)-s.rk)=(i:Int)-s.rk:=IntWalk.i64_in _ qo;clear hin fV hP zW y9 hQ hj
    go_wp2_with fail
    refine(iK.o _).mono ?_;rintro e w2 ⟨rfl,rfl⟩
    go_wp2_with fail
    refine dU.o.mono ?_;rintro e w3 ⟨rfl,hb3⟩;have bS:=qh (own_below HO.o hb3);have HB3:=HB.st hb3;clear hb3 dU HO HB iR m0 m1 m2 m3 kf kk
    go_wp2_with fail
    refine(xH.o _).mono ?_;rintro e w4 ⟨v4,rfl,eN,hb4⟩;obtain⟨A4,c4,rfl⟩:=aF eN;have bP:=qh (own_below bS.o hb4);have aR:=HB3.st hb4;have HR4:=qh (rG eN);have pM:=qh (show(cE 1 (hJ (P:Int) F K)).length=Q*6 from by have:=eN.1;simpa [ints]using this);clear eN hb4 xH bS HB3
    go_wp2_with (at_builtin;go_must (refine cW w4 rfl (.tmp 64) (.tmp 71) _ rfl w.heap.size 91 i0 _ 6 48 Tryz.underlying49 hi iz is ib rfl qo u5 N _ rfl bP.o A4 Q c4 _ rfl HR4.o (fun j=>rfl) qm qo aR.o.size ?_);intro v' w' hown' hfr;have cI:=qh hown';have aZ:=qh (aR.o.trans (hfr.own bP.o aR.o.size));clear hown' hfr)
    exact zQ26x3
   ·have HI:=qh (show T.nW s.W s.rk (-1) s.f s.k i=[]from by
     unfold T.nW;rw[if_neg qo,if_neg hin])
    have iK:=qh (fun W:World=>dK ((i:Int)-s.rk) 0 ((s.W:Int)-1) W);have fV:aK ((i:Int)-s.rk) 0 ((s.W:Int)-1)=false:=by unfold aK;rw[Bool.and_eq_false_iff,decide_eq_false_iff_not,decide_eq_false_iff_not];omega
    exact zQ26x2
  ·obtain rfl:i=s.W:=qo
   have f1:wr.frozen? ⟨a.g,1,none⟩=false:=iR.o.m.frozen 1;have s1:IntKind.i64.wrap (s.rk+ -1)=s.rk+ -1:=IntWalk.i64_in _ qo;have hag:a.g<w.heap.size:=HM.o.m.lt;have tN:=qh (iR.o.rT (s.rk+ -1));have HFS:=qh ((Fr.of_below HB.o (fun b=>b=a.g)).set (p:=⟨a.g,1,none⟩) rfl (.int .i64 (s.rk+ -1)));have Z3:=qh (qw HO.o (p:=⟨a.g,1,none⟩) hag (.int .i64 (s.rk+ -1)))
   go_wp2_with fail
   go_ret
   exact⟨_,N,rfl,by omega,Z3.o,tN.o,HFS.o⟩
end
def Ar (w:World)(tg:Nat→Nat)(g:Nat)(code:Int)(s':aI)(L:List Int)(e:Ending)(w':World):Prop:=
 Fr w w' (eZ tg)∧(code≠0→∃v,e=.returned (.tuple #[v,.int .i64 code]))∧(code=0→∃v n gU a',e=.returned (.tuple #[v,.int .i64 0])∧n≤3000∧w'.ownsRow w.heap.size 91 6 v n (ints L)∧At w tg g s' w' gU a'∧∀q,v.ownBlock=some q→gU q=0)
theorem mR {P:Program}(W:World){ops:Array Oper}{rest:List Oper}{o:Oper}{a:Act}{Q:Exit→Act→World→Prop}(hgd:o.guard=none)(s x:Operand)(t:TypeId)
 (ho:o.op=.call {callee:=.builtin .append,args:=#[s,x],argTypes:=#[t,t]})
 (base:Nat) (e:TypeId) (i:TypeInfo) (z:Value) (size bytes:Nat) (ht:P.underlying t=some (.slice e)) (hi:P.info? e=some i) (hz:i.zero=some z)
 (hsize:i.size=size) (hby:i.bytes=bytes) (hzs:z.cells.size=size) (hsz:0<size)
 (v:Value) (n:Nat) (xs:List Value) (hs:a.eval s=v) (hown:W.ownsRow base e size v n xs)
 (te:TypeId) (m c:Nat) (news:List Value) (q:Nat) (hq:q=W.heap.size) (hx:a.eval x=.slice (some ⟨q,0,none⟩) m c) (hl:news.length=m*size) (h1:∀u∈news,u.oneCell'=true)
 (h63:n+m≤maxLen) (hbytes:(n+m)*bytes≤140737488355328) (hbase:base≤W.heap.size)
 (h:∀v' w',w'.ownsRow base e size v' (n+m) (xs++news)→Fr W w' (fun b=>v.ownBlock=some b)→(v'.ownBlock=v.ownBlock∨v'.ownBlock=some (q+1))→wpList P ops Q rest (a.put o.dst v') w'):
 wpList P ops Q (o::rest) a (W.alloc (.cells news.toArray te)):=by
 subst hq;exact cB W hgd s x t ho base e i z size bytes ht hi hz hsize hby hzs hsz v n xs hs hown te m c news hx hl h1 h63 hbytes hbase h
theorem DU {w w4 w5 w':World}{tg zC:Nat→Nat}{a4:bC}{g:Nat}{s':aI}{L:List Int}{v':Value}{xs:List Value}(hat:At w tg g s' w4 zC a4)(ho:w'.ownsRow w.heap.size 91 6 v' 1 xs)(hf:Fr w5 w' (fun b=>(Value.slice (some ⟨w.heap.size,0,none⟩) 0 0).ownBlock=some b))(ha:v'.ownBlock=(Value.slice (some ⟨w.heap.size,0,none⟩) 0 0).ownBlock∨∃k,v'.ownBlock=some k∧w5.heap.size≤k)(hb:Below w4.heap.size w4 w5)(ht:zC w.heap.size=0)(hL:ints L=xs):
 ∃v n gU a',Ending.returned (.tuple #[v',.int .i64 0])=.returned (.tuple #[v,.int .i64 0])∧n≤3000∧w'.ownsRow w.heap.size 91 6 v n (ints L)∧At w tg g s' w' gU a'∧∀q,v.ownBlock=some q→gU q=0:=by
 have h5:=hat.below hb;have hF:∀b,zC b≠0→b≠w.heap.size:=fun b hn e=>hn (by rw[e];exact ht);refine⟨v',1,zC,a4,rfl,by omega,by rw[hL];exact ho,⟨h5.g,h5.m.same (fun b hn=>hf.block b (h5.m.lt b hn) fun e=>?_) hf.size,h5.f.next hf fun b hb=>?_,h5.t⟩,fun q hq=>Decidable.byContradiction fun hn=>?_⟩
 ·injection e with e
  exact hF b hn e.symm
 ·injection hb with hb
  exact .inr (Nat.le_of_eq hb)
 ·rcases ha with h|⟨k,h,hk⟩
  ·rw[h]at hq
   injection hq with hq;exact hF q hn hq.symm
  ·rw[h]at hq
   injection hq with hq;have:=h5.m.lt q hn;omega
theorem IJ {w w4 w5 w':World}{tg zC:Nat→Nat}{a4:bC}{g:Nat}{s':aI}(hat:At w tg g s' w4 zC a4)(hf:Fr w5 w' (fun b=>(Value.slice (some ⟨w.heap.size,0,none⟩) 0 0).ownBlock=some b))(hb:Below w4.heap.size w4 w5):Fr w w' (eZ tg):=(hat.below hb).f.next hf fun b hb=>by
 injection hb with hb;exact .inr (Nat.le_of_eq hb)
section
variable {tg:Nat→Nat}{a:bC}{s:aI}{D:Nat}{w:World}
theorem zQ26x1 {p:Prop}(h:p:=by
 refine⟨?_,fun h=>?_,fun _=>?_⟩
 ·exact IJ nT.o eJ.o (Below.drewN' HXB.o 1)
 ·exact absurd qG.o.symm h
 ·exact DU nT.o cI.o eJ.o (by rw[←hwz]at yH;exact yH.o) (Below.drewN' HXB.o 1) zw.o (by rw[HE.o];rfl)):p:=h
theorem Da (bo o:Nat){k d fb fa tb ta c r:Int}{j:Nat}(H:Mem tg a s w)(hs:bW s D)(hD:D≤1000000)(ho:gI bo o k d fb fa tb ta c r w)(bK:tg bo=0)(hp:fP s.W k d fb fa tb ta c r j)(h7:k≠7):
 Calls Tryz.prog 117 #[.pointer (some ⟨a.g,0,none⟩),.pointer (some ⟨bo,o,none⟩)] w (Ar w tg a.g (aX s k d fb fa tb ta j) (cV s k d fb fa tb ta r j) (hZ s k d fb fa c r)):=by
 obtain⟨i0,hi,iz,is,ib⟩:=info_parts iF;have hg1:Below w.heap.size w (w.alloc (.cells #[] 91)):=qb;have HAT:=qh ((At.start H).below hg1);have aO:=qh (World.ownsRow_made (e:=91) (size:=6) w #[] 0 ql qm rfl);have HB1:=qh hg1;have PP:=qh ho;have CM:=qh bK;have HS:=qh hs;have HP:=qh hp;have dC:=qh (show tg w.heap.size=0 from Decidable.byContradiction fun hn=>Nat.lt_irrefl _ (H.lt _ hn));have hf0:=hp.f0;have hf1:=hp.f1;have hw2:=hs.w2;have FY:=bT (b:=fb) hs hf0 hf1;have hbl:iH s fb fa≤8*s.W:=by
  have:=rZ hs fb fa (i:=s.W) ql;rw[pG]at this;exact this
 obtain⟨ho1,_⟩:=HAT.o.op ho bK;have o0:=ho1.c0;have o2:=ho1.c2;have o3:=ho1.c3;have h7b:(k==7)=false:=by rw[beq_eq_false_iff_ne];exact h7
 have dU:=qh (xM fb fa HAT.o.m hs hf0 hf1);clear hg1 ho bK hs hp H ho1
 go_enter Tryz.func117,Tryz.ntmps117
 go_wp2_with fail
 refine dU.o.mono ?_;rintro e w2 ⟨rfl,hb2⟩;have BJ:=qh (HAT.o.below hb2);have aH:=qh (own_below aO.o hb2);have HB2:=HB1.st hb2;clear hb2 HAT aO HB1 dU o0 o2 o3;obtain⟨ho1,_⟩:=BJ.o.op PP.o CM.o;have o0:=ho1.c0;have o2:=ho1.c2;have o3:=ho1.c3;clear ho1
 go_wp2_with fail
 refine(pA fb fa w2 BJ.o.m hf0 hf1).mono ?_;rintro e w3 ⟨rfl,hb3⟩;obtain⟨Af,cf,hvf⟩:=(BJ.o.m.lU (b:=fb) hf0 hf1).form;rw[hvf];have dw:=qh (BJ.o.below hb3);have bS:=qh (own_below aH.o hb3);have HB3:=HB2.st hb3;clear hb3 hvf BJ aH HB2 o0 o2 o3;obtain⟨ho3,ade⟩:=dw.o.op PP.o CM.o;have ZX:=qh (BX bo o dw.o.m HS.o hD ho3 ade HP.o);obtain⟨code,hcode⟩:=qx (aX s k d fb fa tb ta j);rw[←hcode]at ZX;have qG:=qh hcode;clear ho3 ade hcode
 go_wp2_with fail
 refine ZX.o.mono ?_;rintro e w4 ⟨rfl,fW,DO⟩;have D9:=qh (dw.o.fr fW)
 by_cases hc:code=0
 case neg=>
  have hc1:(code==0)=false:=by rw[beq_eq_false_iff_ne];exact hc
  have HC:=qh hc;clear fW DO ZX
  go_wp2_with fail
  go_ret2
  exact⟨D9.o,fun _=>⟨_,by rw[←qG.o];rfl⟩,fun h=>absurd (qG.o.trans h) HC.o⟩
 subst hc;obtain⟨zC,a4,qM,_,vk⟩:=dw.o.next (DO rfl);have nT:=qh qM;have hz3:w.heap.size<w3.heap.size:=(bS.o.lt w.heap.size rfl).2;have vB:tg w.heap.size=0:=dC.o;have bP:=qh (show w4.ownsRow w.heap.size 91 6 (.slice (some ⟨w.heap.size,0,none⟩) 0 0) 0 []from cU bS.o fun b hb=>fW.block b (bS.o.lt b hb).2 fun hn=>by
  injection hb with hb;have hb:w.heap.size=b:=hb;rw[←hb]at hn;exact hn vB)
 have zw:=qh (show zC w.heap.size=0 from Decidable.byContradiction fun hn=>by
  rcases vk _ hn with h|h
  ·exact h vB
  ·omega)
 have jF:w.heap.size≤w4.heap.size:=nT.o.f.size;clear fW DO qM vk ZX dw bS HB3 vB;obtain⟨eN,_⟩:=nT.o.op PP.o CM.o;have o0:=eN.c0;have o1:=eN.c1;have o2:=eN.c2;have o6:=eN.c6;have Mk:Below w4.heap.size w4 (w4.alloc (.cells #[.int .i64 0,.int .i64 0,.int .i64 0,.int .i64 0,.int .i64 0,.int .i64 0] 91)):=qb;have hbz:=World.block_lt_of_cell? w4 _ o0;have p0:=aD Mk hbz o0;have p1:=aD Mk hbz o1;have p2:=aD Mk hbz o2;have p6:=aD Mk hbz o6;clear eN Mk;obtain⟨P,hP⟩:=qx (iH s fb fa);obtain⟨M,hM⟩:=qx (aM s fb fa);have HE:=qh (show hZ s k d fb fa c r=if k=7 then T.xZ s.W s.rk r s.f s.k else if k=1 then jQ 2 P M fb c d else if k=2 then jQ 3 ((P:Int)+M) 0 fb c d else if k=5 then jQ 5 (if fb=2 then(P:Int)+M else P) M fb c d else if k=6 then jQ 4 P M 0 0 0 else []by rw[hP,hM];rfl);rw[←hP]at hbl ⊢;rw[←hM]at FY ⊢;clear hP hM
 go_wp2_with fail
 by_cases hk1:k=1
 ·subst hk1
  have HXB:=qh ((Below.refl w4.heap.size w4).alloc ql (.cells #[.int .i64 2,.int .i64 P,.int .i64 M,.int .i64 fb,.int .i64 c,.int .i64 d] 91));have PK:=qh (own_drewN (own_below bP.o HXB.o) 1)
  go_region
  go_wp2_with (at_builtin;go_must (refine mR ((w4.alloc (.cells #[.int .i64 2,.int .i64 P,.int .i64 M,.int .i64 fb,.int .i64 c,.int .i64 d] 91)).drewN 1) rfl (.tmp 115) (.tmp 117) _ rfl w.heap.size 91 i0 _ 6 48 Tryz.underlying49 hi iz is ib rfl qo (.slice (some ⟨w.heap.size,0,none⟩) 0 0) 0 [] rfl PK.o _ 1 1 [.int .i64 2,.int .i64 P,.int .i64 M,.int .i64 fb,.int .i64 c,.int .i64 d] (w4.heap.size+1) qj rfl rfl (by simp[Value.oneCell']) qm qo (by simp;omega) ?_);intro v' w' hown' hf' hat';have cI:=qh hown';have eJ:=qh hf';have yH:=qh (show v'.ownBlock=(Value.slice (some ⟨w.heap.size,0,none⟩) 0 0).ownBlock∨∃k,v'.ownBlock=some k∧w4.heap.size+1≤k from hat'.imp id fun h=>⟨_,h,by omega⟩);clear hown' hf' hat')
  go_ret2
  have hwz:(w4.alloc (.cells #[.int .i64 2,.int .i64 P,.int .i64 M,.int .i64 fb,.int .i64 c,.int .i64 d] 91)).heap.size=w4.heap.size+1:=by simp
  exact zQ26x1
 by_cases hk2:k=2
 ·subst hk2
  have HXB:=qh ((Below.refl w4.heap.size w4).alloc ql (.cells #[.int .i64 3,.int .i64 ((P:Int)+M),.int .i64 0,.int .i64 fb,.int .i64 c,.int .i64 d] 91));have PK:=qh (own_drewN (own_below bP.o HXB.o) 1)
  go_region
  go_wp2_with (at_builtin;go_must (refine mR ((w4.alloc (.cells #[.int .i64 3,.int .i64 ((P:Int)+M),.int .i64 0,.int .i64 fb,.int .i64 c,.int .i64 d] 91)).drewN 1) rfl (.tmp 115) (.tmp 117) _ rfl w.heap.size 91 i0 _ 6 48 Tryz.underlying49 hi iz is ib rfl qo (.slice (some ⟨w.heap.size,0,none⟩) 0 0) 0 [] rfl PK.o _ 1 1 [.int .i64 3,.int .i64 ((P:Int)+M),.int .i64 0,.int .i64 fb,.int .i64 c,.int .i64 d] (w4.heap.size+1) qj rfl rfl (by simp[Value.oneCell']) qm qo (by simp;omega) ?_);intro v' w' hown' hf' hat';have cI:=qh hown';have eJ:=qh hf';have yH:=qh (show v'.ownBlock=(Value.slice (some ⟨w.heap.size,0,none⟩) 0 0).ownBlock∨∃k,v'.ownBlock=some k∧w4.heap.size+1≤k from hat'.imp id fun h=>⟨_,h,by omega⟩);clear hown' hf' hat')
  go_ret2
  have hwz:(w4.alloc (.cells #[.int .i64 3,.int .i64 ((P:Int)+M),.int .i64 0,.int .i64 fb,.int .i64 c,.int .i64 d] 91)).heap.size=w4.heap.size+1:=by simp
  exact zQ26x1
 by_cases hk5:k=5
 ·subst hk5
  by_cases hb2:fb=2
  ·have hb3:(fb==2)=true:=by simp[hb2]
   have HXB:=qh ((Below.refl w4.heap.size w4).alloc ql (.cells #[.int .i64 5,.int .i64 ((P:Int)+M),.int .i64 M,.int .i64 fb,.int .i64 c,.int .i64 d] 91));have PK:=qh (own_drewN (own_below bP.o HXB.o) 1);have HB2:=qh hb2;clear hb2
   go_region
   go_wp2_with (at_builtin;go_must (refine mR ((w4.alloc (.cells #[.int .i64 5,.int .i64 ((P:Int)+M),.int .i64 M,.int .i64 fb,.int .i64 c,.int .i64 d] 91)).drewN 1) rfl (.tmp 115) (.tmp 117) _ rfl w.heap.size 91 i0 _ 6 48 Tryz.underlying49 hi iz is ib rfl qo (.slice (some ⟨w.heap.size,0,none⟩) 0 0) 0 [] rfl PK.o _ 1 1 [.int .i64 5,.int .i64 ((P:Int)+M),.int .i64 M,.int .i64 fb,.int .i64 c,.int .i64 d] (w4.heap.size+1) qj rfl rfl (by simp[Value.oneCell']) qm qo (by simp;omega) ?_);intro v' w' hown' hf' hat';have cI:=qh hown';have eJ:=qh hf';have yH:=qh (show v'.ownBlock=(Value.slice (some ⟨w.heap.size,0,none⟩) 0 0).ownBlock∨∃k,v'.ownBlock=some k∧w4.heap.size+1≤k from hat'.imp id fun h=>⟨_,h,by omega⟩);clear hown' hf' hat')
   go_ret2
   have hwz:(w4.alloc (.cells #[.int .i64 5,.int .i64 ((P:Int)+M),.int .i64 M,.int .i64 fb,.int .i64 c,.int .i64 d] 91)).heap.size=w4.heap.size+1:=by simp
   refine⟨?_,fun h=>?_,fun _=>?_⟩
   ·exact IJ nT.o eJ.o (Below.drewN' HXB.o 1)
   ·exact absurd qG.o.symm h
   ·exact DU nT.o cI.o eJ.o (by rw[←hwz]at yH;exact yH.o) (Below.drewN' HXB.o 1) zw.o (by rw[HE.o];simp[jQ,ints,HB2.o])
  ·have hb3:(fb==2)=false:=by rw[beq_eq_false_iff_ne];exact hb2
   have HXB:=qh ((Below.refl w4.heap.size w4).alloc ql (.cells #[.int .i64 5,.int .i64 P,.int .i64 M,.int .i64 fb,.int .i64 c,.int .i64 d] 91));have PK:=qh (own_drewN (own_below bP.o HXB.o) 1)
   go_region
   go_wp2_with (at_builtin;go_must (refine mR ((w4.alloc (.cells #[.int .i64 5,.int .i64 P,.int .i64 M,.int .i64 fb,.int .i64 c,.int .i64 d] 91)).drewN 1) rfl (.tmp 115) (.tmp 117) _ rfl w.heap.size 91 i0 _ 6 48 Tryz.underlying49 hi iz is ib rfl qo (.slice (some ⟨w.heap.size,0,none⟩) 0 0) 0 [] rfl PK.o _ 1 1 [.int .i64 5,.int .i64 P,.int .i64 M,.int .i64 fb,.int .i64 c,.int .i64 d] (w4.heap.size+1) qj rfl rfl (by simp[Value.oneCell']) qm qo (by simp;omega) ?_);intro v' w' hown' hf' hat';have cI:=qh hown';have eJ:=qh hf';have yH:=qh (show v'.ownBlock=(Value.slice (some ⟨w.heap.size,0,none⟩) 0 0).ownBlock∨∃k,v'.ownBlock=some k∧w4.heap.size+1≤k from hat'.imp id fun h=>⟨_,h,by omega⟩);clear hown' hf' hat')
   go_ret2
   have hwz:(w4.alloc (.cells #[.int .i64 5,.int .i64 P,.int .i64 M,.int .i64 fb,.int .i64 c,.int .i64 d] 91)).heap.size=w4.heap.size+1:=by simp
   refine⟨?_,fun h=>?_,fun _=>?_⟩
   ·exact IJ nT.o eJ.o (Below.drewN' HXB.o 1)
   ·exact absurd qG.o.symm h
   ·exact DU nT.o cI.o eJ.o (by rw[←hwz]at yH;exact yH.o) (Below.drewN' HXB.o 1) zw.o (by rw[HE.o];simp[jQ,ints,hb2])
 by_cases zR:k=6
 ·subst zR
  have HXB:=qh ((Below.refl w4.heap.size w4).alloc ql (.cells #[.int .i64 4,.int .i64 P,.int .i64 M,.int .i64 0,.int .i64 0,.int .i64 0] 91));have PK:=qh (own_drewN (own_below bP.o HXB.o) 1)
  go_region
  go_wp2_with (at_builtin;go_must (refine mR ((w4.alloc (.cells #[.int .i64 4,.int .i64 P,.int .i64 M,.int .i64 0,.int .i64 0,.int .i64 0] 91)).drewN 1) rfl (.tmp 115) (.tmp 117) _ rfl w.heap.size 91 i0 _ 6 48 Tryz.underlying49 hi iz is ib rfl qo (.slice (some ⟨w.heap.size,0,none⟩) 0 0) 0 [] rfl PK.o _ 1 1 [.int .i64 4,.int .i64 P,.int .i64 M,.int .i64 0,.int .i64 0,.int .i64 0] (w4.heap.size+1) qj rfl rfl (by simp[Value.oneCell']) qm qo (by simp;omega) ?_);intro v' w' hown' hf' hat';have cI:=qh hown';have eJ:=qh hf';have yH:=qh (show v'.ownBlock=(Value.slice (some ⟨w.heap.size,0,none⟩) 0 0).ownBlock∨∃k,v'.ownBlock=some k∧w4.heap.size+1≤k from hat'.imp id fun h=>⟨_,h,by omega⟩);clear hown' hf' hat')
  go_ret2
  have hwz:(w4.alloc (.cells #[.int .i64 4,.int .i64 P,.int .i64 M,.int .i64 0,.int .i64 0,.int .i64 0] 91)).heap.size=w4.heap.size+1:=by simp
  exact zQ26x1
 have e1:(k==1)=false:=by rw[beq_eq_false_iff_ne];exact hk1
 have e2:(k==2)=false:=by rw[beq_eq_false_iff_ne];exact hk2
 have e5:(k==5)=false:=by rw[beq_eq_false_iff_ne];exact hk5
 have e6:(k==6)=false:=by rw[beq_eq_false_iff_ne];exact zR
 have sC:=qh (HE.o.trans (show _=([]:List Int)by rw[if_neg h7,if_neg hk1,if_neg hk2,if_neg hk5,if_neg zR]))
 go_region
 go_wp2_with fail
 go_ret2
 have HXB:=Below.drewN' ((Below.refl w4.heap.size w4).alloc ql (.cells #[.int .i64 0,.int .i64 P,.int .i64 0,.int .i64 fb,.int .i64 c,.int .i64 d] 91)) 1;refine⟨?_,fun h=>?_,fun _=>?_⟩
 ·exact D9.o.eL (HXB.mono jF)
 ·exact absurd qG.o.symm h
 ·refine⟨_,0,zC,a4,rfl,by omega,by rw[sC.o];exact own_below bP.o HXB,nT.o.below HXB,fun q hq=>?_⟩
  injection hq with hq;have hq:w.heap.size=q:=hq;rw[←hq];exact zw.o
end
def sL (w:World)(g:Nat):Int:=match w.cell? ⟨g,1,none⟩with
 |some (.int _ x)=>x
 |_=>0
theorem oW {tg:Nat→Nat}{a:bC}{s:aI}{w:World}(h:Mem tg a s w):sL w a.g=s.rk:=by
 have m1:w.cell? ⟨a.g,1,none⟩=some (.int .i64 s.rk):=h.m.cell 1;unfold sL;rw[m1]
theorem bW.Ce {s:aI}{D:Nat}(h:bW s D){r:Int}(h1: -3≤r)(h2:r≤3):bW {s with rk:=r} D:=⟨h.w1,h.w2,h1,h2,h.fb,h.kb,h.ca,h.nb,h.db⟩
theorem Fr.rR {w w':World}{F:Nat→Prop}(h:Fr w w' F)(n:Nat):Fr w (w'.drewN n) F:=h.eL (Below.drewN' ((Below.refl w'.heap.size w').mono h.size) n)
theorem XV {w w':World}{tg:Nat→Nat}{a:bC}{s s':aI}{L:List Int}{v:Value}{n:Nat}(H:Mem tg a s w)(hm:Mem tg a s' w')(hf:Fr w w' (fun b=>b=a.g))(ho:w'.ownsRow w.heap.size 91 6 v n (ints L))(hn:n≤3000):Ar w tg a.g 0 s' L (.returned (.tuple #[v,.int .i64 0])) w':=by
 have hF:Fr w w' (eZ tg):=(Fr.refl w _).next hf fun b hb=>.inl (by
  subst hb;unfold eZ;rw[H.tm];omega)
 exact⟨hF,fun h=>absurd rfl h,fun _=>⟨v,n,tg,a,rfl,hn,ho,⟨rfl,hm,hF,fun _ h=>.inl h⟩,fun q hq=>Decidable.byContradiction fun hne=>by
  have h1:=H.lt q hne;have h2:=(ho.lt q hq).1;omega⟩⟩
section
variable {tg:Nat→Nat}{a:bC}{s:aI}{D:Nat}{w:World}
theorem jl (bo o:Nat){d fb fa tb ta c r:Int}{j:Nat}(H:Mem tg a s w)(hs:bW s D)(ho:gI bo o 7 d fb fa tb ta c r w)(bK:tg bo=0)(hp:fP s.W 7 d fb fa tb ta c r j)(hr:s.rk≤r):
 Calls Tryz.prog 117 #[.pointer (some ⟨a.g,0,none⟩),.pointer (some ⟨bo,o,none⟩)] w (Ar w tg a.g (aX s 7 d fb fa tb ta j) (cV s 7 d fb fa tb ta r j) (hZ s 7 d fb fa c r)):=by
 obtain⟨i0,hi,iz,is,ib⟩:=info_parts iF;have hg1:Below w.heap.size w (w.alloc (.cells #[] 91)):=qb;have HM:=qh H;have HO:=qh (World.ownsRow_made (e:=91) (size:=6) w #[] 0 ql qm rfl);have bZ:=qh (H.below hg1);have gW:=qh (Fr.of_below hg1 (fun b=>b=a.g));have PP:=qh ho;have HS:=qh hs;have hag:a.g<w.heap.size:=H.m.lt;have HNG:=qh (show bo≠a.g from fun e=>by
  rw[e,H.tm]at bK;omega)
 have jA:=qh (World.block_lt_of_cell? w _ ho.c0);have q1:=hp.r0;have q2:=hp.r1;have p1:=hs.r1;have p2:=hs.r2;have FN:=qh (fun(wr:World) (hf:Fr w wr (fun b=>b=a.g))=>(dA _ _ _ _ _ _ _ _ _ _).1 _ wr PP.o fun q hq=>by
  subst hq;exact hf.block _ jA.o HNG.o)
 have AY:=qh (fun i=>show T.qK s.W s.rk s.f s.k (i+1)=T.qK s.W s.rk s.f s.k i++T.fS s.W (s.rk+(i:Int)) (1) s.f s.k s.W from rfl);have HZ:=qh (show T.qK s.W s.rk s.f s.k 0=[]from rfl);have HE:=qh (show hZ s 7 d fb fa c r=T.qK s.W s.rk s.f s.k (r-s.rk).toNat from by
  unfold hZ T.xZ;rw[if_pos rfl,if_pos hr])
 have HC:=qh (show aX s 7 d fb fa tb ta j=0 from by simp[aX]);have HD:=qh (show cV s 7 d fb fa tb ta r j={s with rk:=r}from by simp[cV]);have hce:=FN.o _ gW.o;have o0:=hce.c0;clear hce;clear hg1 ho bK hs hp H
 go_enter Tryz.func117,Tryz.ntmps117
 go_wp2_with fail
 go_loopw [6] (fun v wr=>∃i N:Nat,(i:Int)≤(r-s.rk)∧N≤400*i∧Hq (wr.ownsRow w.heap.size 91 6 v N (ints (T.qK s.W s.rk s.f s.k i)))∧Hq (Mem tg a {s with rk:=s.rk+(i:Int)} wr)∧Hq (Fr w wr (fun b=>b=a.g))) (fun _ wr=>(r-sL wr a.g).toNat)
 case atStart=>exact⟨0,0,by omega,by omega,qh (by rw[HZ.o];exact HO.o),qh (by rw[show s.rk+((0:Nat):Int)=s.rk from by omega];exact bZ.o),gW⟩
 case round=>
  clear HO bZ gW;obtain⟨i,N,hiT,hN,iU,jW,xE⟩:=hrel;have hce:=FN.o wr xE.o;have o7:=hce.c7;clear hce;have m1:wr.cell? ⟨a.g,1,none⟩=some (.int .i64 (s.rk+(i:Int))):=jW.o.m.cell 1;have hmz:=oW jW.o;have hmz:sL wr a.g=s.rk+(i:Int):=hmz
  by_cases hlt:(i:Int)<(r-s.rk)
  ·have b1:s.rk+(i:Int)<r:=qo
   have bN:=qh (AY.o i);have tN:=qh (HS.o.Ce (r:=s.rk+(i:Int)) qo qo)
   go_wp2_with fail
   go_quiet (fail)
   rename_i nq
   have dW:=qh (jW.o.drewN nq);have aH:=qh (own_drewN iU.o nq);have bX:=qh (xE.o.rR nq);have rV:=UD (D:=D) dW.o tN.o (by show-3≤s.rk+(i:Int)+1∧s.rk+(i:Int)+1≤3;omega);have yC:=qh rV;clear rV iU jW xE tN m1 o7
   go_wp2_with fail
   refine yC.o.mono ?_;rintro e w4 ⟨v4,n4,rfl,SS,eN,DO,fW⟩;clear yC;obtain⟨A4,c4,rfl⟩:=aF eN;have hle:w.heap.size≤(wr.drewN nq).heap.size:=bX.o.size;have bP:=qh (cU aH.o fun b hb=>fW.block b (aH.o.lt b hb).2 fun e=>by
    have h:=(aH.o.lt b hb).1;omega)
   have HR4:=qh (rG eN);have pM:=qh (show(T.fS s.W (s.rk+(i:Int)) (1) s.f s.k s.W).length=n4*6 from by have:=eN.1;simpa [ints]using this);have fQ:=qh DO;have nB:=qh (show Fr w w4 (fun b=>b=a.g)from bX.o.next fW fun b hb=>.inl hb);clear eN DO fW aH dW bX;have jF:w.heap.size≤w4.heap.size:=nB.o.size
   go_wp2_with (at_builtin;go_must (refine cW w4 rfl (.tmp 26) (.tmp 28) _ rfl w.heap.size 91 i0 _ 6 48 Tryz.underlying49 hi iz is ib rfl qo u6 N _ rfl bP.o A4 n4 c4 _ rfl HR4.o (fun j=>rfl) qm qo jF ?_);intro v' w' hown' hfr;have cI:=qh hown';have aZ:=qh hfr;clear hown' hfr)
   have oQ:=qh (fQ.o.same (fun b hb=>aZ.o.block b (fQ.o.lt b hb) fun e=>by
    have h:=(bP.o.lt b e).1;have h2:=HM.o.lt b hb;omega) aZ.o.size)
   have eJ:=qh (show Fr w w' (fun b=>b=a.g)from nB.o.next aZ.o fun b hb=>.inr (bP.o.lt b hb).1)
   go_roundw
   case rel=>exact⟨i+1,N+n4,by omega,by omega,qh (by
    have h:=cI.o;rw[lX _ _ pM.o,←aT]at h;rw[bN.o];exact h),qh (by rw[show s.rk+((i+1:Nat):Int)=s.rk+(i:Int)+1 from by omega];exact oQ.o),eJ⟩
   case measure=>
    have h:sL w' a.g=s.rk+(i:Int)+1:=oW oQ.o;rw[h];show _<(r-sL wr a.g).toNat;rw[hmz];omega
  ·have b1:¬(s.rk+(i:Int)<r):=qo
   have HT:=qh (show i=(r-s.rk).toNat from by omega);have HX:=qh (show s.rk+(i:Int)=r from by omega);rw[HX.o]at jW m1
   go_wp2_with fail
   go_quiet (fail)
   rename_i nq
   have dW:=qh (jW.o.drewN nq);have aH:=qh (own_drewN iU.o nq);have bX:=qh (xE.o.rR nq)
   go_wp2_with fail
   go_loopw [6] (fun v wr=>∃N:Nat,N≤2400∧Hq (wr.ownsRow w.heap.size 91 6 v N (ints (T.qK s.W s.rk s.f s.k (r-s.rk).toNat)))∧Hq (Mem tg a {s with rk:=r} wr)∧Hq (Fr w wr (fun b=>b=a.g))) (fun _ _=>0)
   case atStart=>exact⟨N,by omega,qh (by rw[←HT.o];exact aH.o),dW,bX⟩
   case round=>
    clear aH dW bX;obtain⟨N,hN,iU,jW,xE⟩:=hrel;have hce:=FN.o wr xE.o;have o7:=hce.c7;clear hce;have m1:wr.cell? ⟨a.g,1,none⟩=some (.int .i64 r):=jW.o.m.cell 1;have b1:¬(r<r):=qo
    go_wp2_with fail
    go_quiet (fail)
    rename_i nq
    have dW:=qh (jW.o.drewN nq);have aH:=qh (own_drewN iU.o nq);have bX:=qh (xE.o.rR nq);clear iU jW xE m1 o7
    go_wp2_with fail
    go_ret2
    rw[HC.o,HD.o,HE.o];exact XV HM.o dW.o bX.o aH.o qo
theorem jm (bo o:Nat){d fb fa tb ta c r:Int}{j:Nat}(H:Mem tg a s w)(hs:bW s D)(ho:gI bo o 7 d fb fa tb ta c r w)(bK:tg bo=0)(hp:fP s.W 7 d fb fa tb ta c r j)(hr:r<s.rk):
 Calls Tryz.prog 117 #[.pointer (some ⟨a.g,0,none⟩),.pointer (some ⟨bo,o,none⟩)] w (Ar w tg a.g (aX s 7 d fb fa tb ta j) (cV s 7 d fb fa tb ta r j) (hZ s 7 d fb fa c r)):=by
 obtain⟨i0,hi,iz,is,ib⟩:=info_parts iF;have hg1:Below w.heap.size w (w.alloc (.cells #[] 91)):=qb;have HM:=qh H;have HO:=qh (World.ownsRow_made (e:=91) (size:=6) w #[] 0 ql qm rfl);have bZ:=qh (H.below hg1);have gW:=qh (Fr.of_below hg1 (fun b=>b=a.g));have PP:=qh ho;have HS:=qh hs;have hag:a.g<w.heap.size:=H.m.lt;have HNG:=qh (show bo≠a.g from fun e=>by
  rw[e,H.tm]at bK;omega)
 have jA:=qh (World.block_lt_of_cell? w _ ho.c0);have q1:=hp.r0;have q2:=hp.r1;have p1:=hs.r1;have p2:=hs.r2;have FN:=qh (fun(wr:World) (hf:Fr w wr (fun b=>b=a.g))=>(dA _ _ _ _ _ _ _ _ _ _).1 _ wr PP.o fun q hq=>by
  subst hq;exact hf.block _ jA.o HNG.o)
 have AY:=qh (fun i=>show T.rJ s.W s.rk s.f s.k (i+1)=T.rJ s.W s.rk s.f s.k i++T.fS s.W (s.rk-(i:Int)) (-1) s.f s.k s.W from rfl);have HZ:=qh (show T.rJ s.W s.rk s.f s.k 0=[]from rfl);have HE:=qh (show hZ s 7 d fb fa c r=T.rJ s.W s.rk s.f s.k (s.rk-r).toNat from by
  unfold hZ T.xZ;rw[if_pos rfl,if_neg qo])
 have HC:=qh (show aX s 7 d fb fa tb ta j=0 from by simp[aX]);have HD:=qh (show cV s 7 d fb fa tb ta r j={s with rk:=r}from by simp[cV]);have hce:=FN.o _ gW.o;have o0:=hce.c0;clear hce;clear hg1 ho bK hs hp H
 go_enter Tryz.func117,Tryz.ntmps117
 go_wp2_with fail
 go_loopw [6] (fun v wr=>∃N:Nat,N≤0∧Hq (wr.ownsRow w.heap.size 91 6 v N (ints []))∧Hq (Mem tg a {s with rk:=s.rk} wr)∧Hq (Fr w wr (fun b=>b=a.g))) (fun _ _=>0)
 case atStart=>exact⟨0,by omega,HO,bZ,gW⟩
 case round=>
  clear HO bZ gW;obtain⟨N,hN,iU,jW,xE⟩:=hrel;have hce:=FN.o wr xE.o;have o7:=hce.c7;clear hce;have m1:wr.cell? ⟨a.g,1,none⟩=some (.int .i64 s.rk):=jW.o.m.cell 1;have b1:¬(s.rk<r):=qo
  go_wp2_with fail
  go_quiet (fail)
  rename_i nq
  have dW:=qh (jW.o.drewN nq);have aH:=qh (own_drewN iU.o nq);have bX:=qh (xE.o.rR nq);clear iU jW xE m1 o7
  go_wp2_with fail
  obtain rfl:N=0:=qo
  go_loopw [6] (fun v wr=>∃i N:Nat,(i:Int)≤(s.rk-r)∧N≤400*i∧Hq (wr.ownsRow w.heap.size 91 6 v N (ints (T.rJ s.W s.rk s.f s.k i)))∧Hq (Mem tg a {s with rk:=s.rk-(i:Int)} wr)∧Hq (Fr w wr (fun b=>b=a.g))) (fun _ wr=>(sL wr a.g-r).toNat)
  case atStart=>exact⟨0,0,by omega,by omega,qh (by rw[HZ.o];exact aH.o),qh (by rw[show s.rk-((0:Nat):Int)=s.rk from by omega];exact dW.o),bX⟩
  case round=>
   clear aH dW bX;obtain⟨i,N,hiT,hN,iU,jW,xE⟩:=hrel;have hce:=FN.o wr xE.o;have o7:=hce.c7;clear hce;have m1:wr.cell? ⟨a.g,1,none⟩=some (.int .i64 (s.rk-(i:Int))):=jW.o.m.cell 1;have hmz:=oW jW.o;have hmz:sL wr a.g=s.rk-(i:Int):=hmz
   by_cases hlt:(i:Int)<(s.rk-r)
   ·have b1:r<s.rk-(i:Int):=qo
    have bN:=qh (AY.o i);have tN:=qh (HS.o.Ce (r:=s.rk-(i:Int)) qo qo)
    go_wp2_with fail
    go_quiet (fail)
    rename_i nq
    have dW:=qh (jW.o.drewN nq);have aH:=qh (own_drewN iU.o nq);have bX:=qh (xE.o.rR nq);have rV:=UE (D:=D) dW.o tN.o (by show-3≤s.rk-(i:Int)+ -1∧s.rk-(i:Int)+ -1≤3;omega);have yC:=qh rV;clear rV iU jW xE tN m1 o7
    go_wp2_with fail
    refine yC.o.mono ?_;rintro e w4 ⟨v4,n4,rfl,SS,eN,DO,fW⟩;clear yC;obtain⟨A4,c4,rfl⟩:=aF eN;have hle:w.heap.size≤(wr.drewN nq).heap.size:=bX.o.size;have bP:=qh (cU aH.o fun b hb=>fW.block b (aH.o.lt b hb).2 fun e=>by
     have h:=(aH.o.lt b hb).1;omega)
    have HR4:=qh (rG eN);have pM:=qh (show(T.fS s.W (s.rk-(i:Int)) (-1) s.f s.k s.W).length=n4*6 from by have:=eN.1;simpa [ints]using this);have fQ:=qh DO;have nB:=qh (show Fr w w4 (fun b=>b=a.g)from bX.o.next fW fun b hb=>.inl hb);clear eN DO fW aH dW bX;have jF:w.heap.size≤w4.heap.size:=nB.o.size
    go_wp2_with (at_builtin;go_must (refine cW w4 rfl (.tmp 39) (.tmp 41) _ rfl w.heap.size 91 i0 _ 6 48 Tryz.underlying49 hi iz is ib rfl qo u6 N _ rfl bP.o A4 n4 c4 _ rfl HR4.o (fun j=>rfl) qm qo jF ?_);intro v' w' hown' hfr;have cI:=qh hown';have aZ:=qh hfr;clear hown' hfr)
    have oQ:=qh (fQ.o.same (fun b hb=>aZ.o.block b (fQ.o.lt b hb) fun e=>by
     have h:=(bP.o.lt b e).1;have h2:=HM.o.lt b hb;omega) aZ.o.size)
    have eJ:=qh (show Fr w w' (fun b=>b=a.g)from nB.o.next aZ.o fun b hb=>.inr (bP.o.lt b hb).1)
    go_roundw
    case rel=>exact⟨i+1,N+n4,by omega,by omega,qh (by
     have h:=cI.o;rw[lX _ _ pM.o,←aT]at h;rw[bN.o];exact h),qh (by rw[show s.rk-((i+1:Nat):Int)=s.rk-(i:Int)+ -1 from by omega];exact oQ.o),eJ⟩
    case measure=>
     have h:sL w' a.g=s.rk-(i:Int)+ -1:=oW oQ.o;rw[h];show _<(sL wr a.g-r).toNat;rw[hmz];omega
   ·have b1:¬(r<s.rk-(i:Int)):=qo
    have HT:=qh (show i=(s.rk-r).toNat from by omega);have HX:=qh (show s.rk-(i:Int)=r from by omega);rw[HX.o]at jW m1
    go_wp2_with fail
    go_quiet (fail)
    rename_i nq
    have dW:=qh (jW.o.drewN nq);have aH:=qh (own_drewN iU.o nq);have bX:=qh (xE.o.rR nq)
    go_wp2_with fail
    go_ret2
    rw[HC.o,HD.o,HE.o,←HT.o];exact XV HM.o dW.o bX.o aH.o qo
end
end Go.Proofs.YtdnmhhohcedjbaaGreat
