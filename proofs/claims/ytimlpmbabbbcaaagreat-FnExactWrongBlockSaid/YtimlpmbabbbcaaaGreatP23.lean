/- Walks and plain lemmas. -/
import Derived.Test.YtimlpmbabbbcaaaGreatP12
import Derived.Test.YtimlpmbabbbcaaaGreatP17
import Derived.Test.YtimlpmbabbbcaaaGreatP13
set_option linter.unusedVariables false
set_option linter.unusedSimpArgs false
set_option maxHeartbeats 4000000
set_option maxRecDepth 20000
namespace Go.Proofs.YtimlpmbabbbcaaaGreat
open Go.RowKit
namespace T
def sF (f:Nat→Nat)(x:Int):Nat→Nat
 |0=>0
 |i+1=>sF f x i+(if(i:Int)<x then f i else 0)
def sK (k:Nat→Nat)(r x:Int):Nat→Nat
 |0=>0
 |i+1=>sK k r x i+(if(i:Int)+r<x then k i else 0)
def m7 (f:Nat→Nat):Nat→Nat
 |0=>0
 |i+1=>m7 f i+f i
theorem UY (f:Nat→Nat)(x:Int)(m:Nat):sF f x m≤m7 f m:=by
 induction m with
 |zero=>exact Nat.le_refl _
 |succ m ih=>
  simp only[sF,m7]
  split<;>omega
theorem Vh (k:Nat→Nat)(r x:Int)(m:Nat):sK k r x m≤m7 k m:=by
 induction m with
 |zero=>exact Nat.le_refl _
 |succ m ih=>
  simp only[sK,m7]
  split<;>omega
theorem oJ (k:Nat→Nat)(r x:Int)(m:Nat):sK k r x m=sF k (x-r) m:=by
 induction m with
 |zero=>rfl
 |succ m ih=>
  simp only[sK,sF,ih]
  congr 1
  by_cases h:(m:Int)+r<x
  ·rw[if_pos h,if_pos qo]
  ·rw[if_neg h,if_neg qo]
theorem qR (f:Nat→Nat)(x:Int)(m:Nat):sF f (x+1) m=sF f x m+(if 0≤x∧x<m then f x.toNat else 0):=by
 induction m with
 |zero=>simp only[sF];rw[if_neg qo]
 |succ m ih=>
  simp only[sF,ih]
  by_cases h:x=m
  ·subst h
   rw[if_pos (show(m:Int)<(m:Int)+1 by omega),if_neg (show¬(m:Int)<(m:Int)by omega),if_neg (show¬(0≤(m:Int)∧(m:Int)<(m:Int))by omega),if_pos (show 0≤(m:Int)∧(m:Int)<((m+1:Nat):Int)by omega)]
   simp only[Int.toNat_natCast,Nat.add_zero]
  ·by_cases h2:(m:Int)<x
   ·rw[if_neg (show¬(0≤x∧x<(m:Int))by omega),if_pos (show(m:Int)<x+1 by omega),if_pos h2,if_neg (show¬(0≤x∧x<((m+1:Nat):Int))by omega),Nat.add_zero,Nat.add_zero]
   ·rw[if_neg (show¬(m:Int)<x+1 by omega),if_neg h2]
    by_cases h3:0≤x∧x<m
    ·rw[if_pos h3,if_pos (show 0≤x∧x<((m+1:Nat):Int)by omega),Nat.add_zero,Nat.add_zero]
    ·rw[if_neg h3,if_neg (show¬(0≤x∧x<((m+1:Nat):Int))by omega)]
theorem AA (f:Nat→Nat){x:Int}(h:x≤0)(m:Nat):sF f x m=0:=by
 induction m with
 |zero=>rfl
 |succ m ih=>simp only[sF,ih];rw[if_neg qo]
theorem Gv (f:Nat→Nat){x:Int}{m:Nat}(h:(m:Int)≤x):sF f x m=m7 f m:=by
 induction m with
 |zero=>rfl
 |succ m ih=>simp only[sF,m7,ih qo];rw[if_pos qo]
def rJ (W:Nat)(r:Int)(f k:Nat→Nat)(b a:Int):Nat:=
 if b=2 then sF f (a+r+1) W+sK k r (a+r) W else sF f a W+sK k r a W
def pU (W:Nat)(r T9:Int)(f k:Nat→Nat)(i:Nat):List Int:=
 if 0<T9 then
  (if 0≤(i:Int)-r-1∧(i:Int)-r-1<W then bL (-1) (bY (rJ W r f k 2 ((i:Int)-r-1)) (k ((i:Int)-r-1).toNat) (f i))else [])
 else(if 0≤(i:Int)-r∧(i:Int)-r<W then bL 1 (bY (rJ W r f k 1 i) (f i) (k ((i:Int)-r).toNat))else [])
def i6 (W:Nat)(r T9:Int)(f k:Nat→Nat):Nat→List Int
 |0=>[]
 |i+1=>i6 W r T9 f k i++pU W r T9 f k i
def rZ (W:Nat)(r:Int)(f k:Nat→Nat):Nat→List Int
 |0=>[]
 |n+1=>rZ W r f k n++i6 W (r+n) 1 f k W
def tQ (W:Nat)(r:Int)(f k:Nat→Nat):Nat→List Int
 |0=>[]
 |n+1=>tQ W r f k n++i6 W (r-n) (-1) f k W
def CZ (W:Nat)(r r':Int)(f k:Nat→Nat):List Int:=if r≤r' then rZ W r f k (r'-r).toNat else tQ W r f k (r-r').toNat
abbrev fU:=Int×Int
def mO (W:Nat)(x:Int):List fU:=if 0≤x∧x<W then [(1,x)]else []
def bk1 (W:Nat)(r x:Int):List fU:=if 0≤x-r∧x-r<W then [(2,x-r)]else []
def dS (W:Nat)(r:Int):Nat→List fU
 |0=>[]
 |j+1=>dS W r j++(mO W ((j:Int)-3)++bk1 W r ((j:Int)-3))
def pL (W:Nat)(r:Int):Nat→List fU
 |0=>[]
 |j+1=>pL W r j++(bk1 W r ((j:Int)-3)++mO W ((j:Int)-3))
def kG (W:Nat)(r:Int)(j:Nat):Nat→List fU
 |0=>[]
 |m+1=>mO W ((j:Int)-3)++bk1 W r ((j:Int)-3)++kG W r (j+1) m
theorem D8 (W:Nat)(r:Int)(m:Nat):∀j,dS W r (j+m)=dS W r j++kG W r j m:=by
 induction m with
 |zero=>intro j;simp[kG]
 |succ m ih=>
  intro j;rw[show j+(m+1)=j+1+m by omega,ih (j+1)]
  simp[dS,kG]
def FX (f k:Nat→Nat)(n:fU):Nat:=if n.1=2 then k n.2.toNat else f n.2.toNat
def gD (f k:Nat→Nat):List fU→Nat
 |[]=>0
 |n::l=>FX f k n+gD f k l
theorem D9 (f k:Nat→Nat)(a b:List fU):gD f k (a++b)=gD f k a+gD f k b:=by
 induction a with
 |nil=>simp[gD]
 |cons n a ih=>simp only[List.cons_append,gD,ih];omega
theorem RD (f k:Nat→Nat)(W:Nat)(x:Int):gD f k (mO W x)=if 0≤x∧x<W then f x.toNat else 0:=by
 unfold mO
 split
 ·simp[gD,FX]
 ·rfl
theorem qp (f k:Nat→Nat)(W:Nat)(r x:Int):gD f k (bk1 W r x)=if 0≤x-r∧x-r<W then k (x-r).toNat else 0:=by
 unfold bk1
 split
 ·simp[gD,FX]
 ·rfl
theorem zP23x4 {p:Prop}(h:p:=by
 have h1:=qR f ((j:Int)-3) W;have h2:=qR k ((j:Int)-3-r) W;rw[show((j+1:Nat):Int)-3=(j:Int)-3+1 by omega,h1,oJ,oJ,show(j:Int)-3+1-r=(j:Int)-3-r+1 by omega,h2];omega):p:=h
theorem N5 (f k:Nat→Nat)(W:Nat){r:Int}(hr: -3≤r)(j:Nat):gD f k (dS W r j)=sF f ((j:Int)-3) W+sK k r ((j:Int)-3) W:=by
 induction j with
 |zero=>
  rw[AA f qo,oJ,AA k qo]
  rfl
 |succ j ih=>
  simp only[dS,D9,ih,RD,qp]
  exact zP23x4
theorem Pz (f k:Nat→Nat)(W:Nat){r:Int}(hr: -3≤r)(j:Nat):gD f k (pL W r j)=sF f ((j:Int)-3) W+sK k r ((j:Int)-3) W:=by
 induction j with
 |zero=>
  rw[AA f qo,oJ,AA k qo]
  rfl
 |succ j ih=>
  simp only[pL,D9,ih,RD,qp]
  exact zP23x4
theorem OQ {W:Nat}{x:Int}{n:fU}(h:n∈mO W x):n.1=1∧n.2=x∧0≤x∧x<W:=by
 unfold mO at h
 split at h
 ·rw[List.mem_singleton.1 h]
  rename_i hc
  exact⟨rfl,rfl,hc⟩
 ·cases h
theorem OR {W:Nat}{r x:Int}{n:fU}(h:n∈bk1 W r x):n.1=2∧n.2=x-r∧0≤x-r∧x-r<W:=by
 unfold bk1 at h
 split at h
 ·rw[List.mem_singleton.1 h]
  rename_i hc
  exact⟨rfl,rfl,hc⟩
 ·cases h
def EW (W:Nat)(n:fU):Prop:=(n.1=1∨n.1=2)∧0≤n.2∧n.2<W
theorem wH {W:Nat}{r:Int}{j:Nat}{n:fU}(h:n∈dS W r j):EW W n∧((n.1=1∧n.2<(j:Int)-3)∨(n.1=2∧n.2+r<(j:Int)-3)):=by
 induction j with
 |zero=>cases h
 |succ j ih=>
  simp only[dS,List.mem_append]at h
  rcases h with h|h|h
  ·have:=ih h
   exact⟨this.1,by omega⟩
  ·have:=OQ h
   unfold EW;exact⟨⟨.inl this.1,by omega⟩,by omega⟩
  ·have:=OR h
   unfold EW;exact⟨⟨.inr this.1,by omega⟩,by omega⟩
theorem RC {W:Nat}{r:Int}{j:Nat}{n:fU}(h:n∈pL W r j):EW W n∧((n.1=1∧n.2<(j:Int)-3)∨(n.1=2∧n.2+r<(j:Int)-3)):=by
 induction j with
 |zero=>cases h
 |succ j ih=>
  simp only[pL,List.mem_append]at h
  rcases h with h|h|h
  ·have:=ih h
   exact⟨this.1,by omega⟩
  ·have:=OR h
   unfold EW;exact⟨⟨.inr this.1,by omega⟩,by omega⟩
  ·have:=OQ h
   unfold EW;exact⟨⟨.inl this.1,by omega⟩,by omega⟩
theorem J6 {W:Nat}{r:Int}{m j:Nat}{n:fU}(h:n∈kG W r j m):EW W n:=by
 induction m generalizing j with
 |zero=>cases h
 |succ m ih=>
  simp only[kG,List.mem_append]at h
  rcases h with(h|h)|h
  ·have:=OQ h
   unfold EW;exact⟨.inl this.1,by omega⟩
  ·have:=OR h
   unfold EW;exact⟨.inr this.1,by omega⟩
  ·exact ih h
def mA (W:Nat)(r:Int)(i:Nat):List fU:=dS W (r+1) (i+3)++(bk1 W r ((i:Int)-1)++kG W r (i+3) (W+3-i))
def mB (W:Nat)(r:Int)(i:Nat):List fU:=pL W r (i+3)++kG W r (i+3) (W+3-i)
theorem Wn (W:Nat)(r x:Int):bk1 W (r+1) x=bk1 W r (x-1):=by
 unfold bk1;rw[show x-(r+1)=x-1-r by omega]
theorem Yq (W:Nat)(r:Int):∀j,j≤3→dS W r j=pL W r j:=by
 intro j hj
 induction j with
 |zero=>rfl
 |succ j ih=>
  simp only[dS,pL,ih qo]
  have:mO W ((j:Int)-3)=[]:=by unfold mO;rw[if_neg qo]
  rw[this]
  simp
theorem Ht (W:Nat)(r:Int):mB W r 0=dS W r (W+6):=by
 unfold mB;rw[←Yq W r 3 ql,show W+6=3+(W+3)by omega,D8]
 rfl
theorem Zy (W:Nat){r:Int}(hr: -3≤r):∀j,j≤3→dS W (r+1) j++bk1 W r ((j:Int)-4)=dS W r j:=by
 intro j hj
 induction j with
 |zero=>
  simp only[dS,List.nil_append]
  unfold bk1;rw[if_neg qo]
 |succ j ih=>
  have h1:=ih qo;have hf:mO W ((j:Int)-3)=[]:=by unfold mO;rw[if_neg qo]
  simp only[dS,hf,List.nil_append]
  rw[Wn,show(j:Int)-3-1=(j:Int)-4 by omega,h1,show((j+1:Nat):Int)-4=(j:Int)-3 by omega]
theorem Hr (W:Nat){r:Int}(hr: -3≤r):mA W r 0=dS W r (W+6):=by
 unfold mA;have h:=Zy W hr 3 ql;rw[show((3:Nat):Int)-4=((0:Nat):Int)-1 by omega]at h;rw[←List.append_assoc,h,show W+6=3+(W+3)by omega,D8]
 rfl
theorem zP23x5 {p:Prop}(h:p:=by
 simp only[kG]
 rw[show((i+3:Nat):Int)-3=i by omega];have:mO W (i:Int)=[(1,(i:Int))]:=by unfold mO;rw[if_pos qo]
 rw[this]
 simp):p:=h
theorem KW {W:Nat}{r:Int}{i:Nat}(hi:i<W):mA W r i=dS W (r+1) (i+3)++(bk1 W r ((i:Int)-1)++((1,(i:Int))::(bk1 W r i++kG W r (i+4) (W+2-i)))):=by
 unfold mA;rw[show W+3-i=(W+2-i)+1 by omega]
 exact zP23x5
theorem SF {W:Nat}{r:Int}{i:Nat}(hi:i<W):mA W r (i+1)=dS W (r+1) (i+3)++((1,(i:Int))::(bk1 W r ((i:Int)-1)++(bk1 W r i++kG W r (i+4) (W+2-i)))):=by
 unfold mA;rw[show i+1+3=i+3+1 by omega]
 simp only[dS]
 rw[show((i+3:Nat):Int)-3=i by omega,show((i+1:Nat):Int)-1=i by omega,show W+3-(i+1)=W+2-i by omega];have:mO W (i:Int)=[(1,(i:Int))]:=by unfold mO;rw[if_pos qo]
 rw[this]
 simp[Wn]
theorem KX {W:Nat}{r:Int}{i:Nat}(hi:i<W):mB W r i=pL W r (i+3)++((1,(i:Int))::(bk1 W r i++kG W r (i+4) (W+2-i))):=by
 unfold mB;rw[show W+3-i=(W+2-i)+1 by omega]
 exact zP23x5
theorem SG {W:Nat}{r:Int}{i:Nat}(hi:i<W):mB W r (i+1)=pL W r (i+3)++(bk1 W r i++((1,(i:Int))::kG W r (i+4) (W+2-i))):=by
 unfold mB;rw[show i+1+3=i+3+1 by omega]
 simp only[pL]
 rw[show((i+3:Nat):Int)-3=i by omega,show W+3-(i+1)=W+2-i by omega];have:mO W (i:Int)=[(1,(i:Int))]:=by unfold mO;rw[if_pos qo]
 rw[this]
 simp
theorem abU (f k:Nat→Nat)(W:Nat){r:Int}(hr: -4≤r)(i:Nat):gD f k (dS W (r+1) (i+3))=rJ W r f k 2 ((i:Int)-r-1):=by
 rw[N5 f k W qo];unfold rJ;rw[if_pos rfl,oJ,oJ]
 congr 2<;>omega
theorem abV (f k:Nat→Nat)(W:Nat){r:Int}(hr: -3≤r)(i:Nat):gD f k (pL W r (i+3))=rJ W r f k 1 i:=by
 rw[Pz f k W hr];unfold rJ;rw[if_neg (by decide),oJ,oJ]
 congr 2<;>omega
theorem Ij {W:Nat}{r:Int}{a:Nat}(ha:a<W):∃R,dS W r (W+6)=dS W r (a+3)++(1,(a:Int))::R:=by
 refine⟨bk1 W r a++kG W r (a+4) (W+2-a),?_⟩;rw[show W+6=a+3+(W+3-a)by omega,D8,show W+3-a=(W+2-a)+1 by omega]
 simp only[kG]
 rw[show((a+3:Nat):Int)-3=a by omega];have:mO W (a:Int)=[(1,(a:Int))]:=by unfold mO;rw[if_pos qo]
 rw[this]
 simp
theorem Pv {W:Nat}{r:Int}(hr: -3≤r∧r≤3){a:Nat}(ha:a<W):∃R,dS W r (W+6)=(dS W r ((a:Int)+r+3).toNat++mO W ((a:Int)+r))++(2,(a:Int))::R:=by
 refine⟨kG W r (((a:Int)+r+3).toNat+1) (W+6-((a:Int)+r+3).toNat-1),?_⟩;obtain⟨j,hj⟩:∃j,j=((a:Int)+r+3).toNat:=⟨_,rfl⟩;have hjz:(j:Int)-3=(a:Int)+r:=qo;rw[←hj];have hb:bk1 W r ((a:Int)+r)=[(2,(a:Int))]:=by
  unfold bk1;rw[show(a:Int)+r-r=a by omega,if_pos qo]
 rw[show W+6=j+(W+6-j-1+1)by omega,D8]
 simp only[kG,hjz,hb]
 simp
def evs (L:List Int)(t:Nat):Int:=L.getD t 0
theorem T8 {z z':Nat→Int}{n:Int}{k:Nat}(h:∀t,t<k*6→z t=z' t):cnt z n k=cnt z' n k:=by
 induction k with
 |zero=>rfl
 |succ k ih=>
  simp only[cnt,ih fun t ht=>h t qo,h (k*6) qo,h (k*6+1) qo,h (k*6+2) qo,h (k*6+3) qo,h (k*6+4) qo,h (k*6+5) qo]
theorem Zn (z:Nat→Int)(n:Int)(a b:Nat){m:Int}(h:cnt z n a=some m):cnt z n (a+b)=cnt (fun t=>z (a*6+t)) m b:=by
 induction b with
 |zero=>exact h
 |succ b ih=>
  rw[←Nat.add_assoc]
  simp only[cnt,ih]
  rw[show(a+b)*6=a*6+b*6 by omega]
  simp only[Nat.add_assoc]
def Ev (n m:Int)(L:List Int):Prop:=∃a,L.length=a*6∧cnt (evs L) n a=some m
theorem Ev.nil (n:Int):Ev n n []:=⟨0,rfl,rfl⟩
theorem Ev.app {n m l:Int}{L M:List Int}(h:Ev n m L)(h':Ev m l M):Ev n l (L++M):=by
 obtain⟨a,ha,hc⟩:=h;obtain⟨b,hb,hc'⟩:=h';refine⟨a+b,by rw[List.length_append];omega,?_⟩;rw[Zn (evs (L++M)) n a b (m:=m)]
 ·rw[←hc']
  refine T8 fun t _=>?_
  simp only[evs,List.getD,List.getElem?_append]
  rw[if_neg qo,show a*6+t-L.length=t by omega]
 ·rw[←hc]
  refine T8 fun t ht=>?_
  simp only[evs,List.getD,List.getElem?_append]
  rw[if_pos qo]
theorem Ev.one {k p c b y d n m:Int}(hv:iQ k p c b y d n=true)(hm:bU k c n=m)(h12:m≤12):Ev n m (gH k p c b y d):=by
 refine⟨1,rfl,?_⟩;have h:cnt (evs (gH k p c b y d)) n 0=some n:=rfl
 simp only[cnt]
 show(if iQ k p c b y d n=true∧bU k c n≤12 then some (bU k c n)else none)=some m;rw[if_pos ⟨hv,by omega⟩,hm]
end T
def live (s:aP):Nat:=T.m7 s.f s.W+T.m7 s.k s.W
def jA (s:aP)(b a:Int):Nat:=T.rJ s.W s.rk s.f s.k b a
def jC (s:aP)(k d fb fa c r:Int):List Int:=
 if k=7 then T.CZ s.W s.rk r s.f s.k
 else if k=1 then gH 2 (jA s fb fa) (aU s fb fa) fb c d
 else if k=2 then gH 3 ((jA s fb fa:Int)+aU s fb fa) 0 fb c d
 else if k=5 then gH 5 (if fb=2 then(jA s fb fa:Int)+aU s fb fa else jA s fb fa) (aU s fb fa) fb c d
 else if k=6 then gH 4 (jA s fb fa) (aU s fb fa) 0 0 0
 else []
def kE (s:aP)(z:Nat→Int)(i:Nat):List Int:=jC s (z (i*8)) (z (i*8+1)) (z (i*8+2)) (z (i*8+3)) (z (i*8+6)) (z (i*8+7))
def CS (W:Nat)(z:Nat→Int):Nat→List Int
 |0=>[]
 |i+1=>CS W z i++kE (fA W z i) z i
def AS (W:Nat)(z:Nat→Int)(i:Nat):Prop:=2000*6<(CS W z i).length∨12<live (fA W z i)
instance (W:Nat)(z:Nat→Int)(i:Nat):Decidable (AS W z i):=by unfold AS;exact inferInstance
def vV (W:Nat)(z:Nat→Int):Nat→Nat→Int
 |_,0=>0
 |i,m+1=>if kC (fA W z i) z i≠0 then kC (fA W z i) z i else if AS W z (i+1)then 5 else vV W z (i+1) m
def FJ (W:Nat)(z:Nat→Int)(k:Nat):Prop:=∀i,i<k→kC (fA W z i) z i=0∧¬AS W z (i+1)
theorem Zz {W:Nat}{z:Nat→Int}(m:Nat):∀i,(∀j,i≤j→j<i+m→kC (fA W z j) z j=0∧¬AS W z (j+1))→vV W z i m=0:=by
 induction m with
 |zero=>intro i _;rfl
 |succ m ih=>
  intro i h;have h1:=h i ql qo
  simp only[vV]
  rw[if_neg (fun e=>e h1.1),if_neg h1.2];exact ih (i+1) fun j hj hj2=>h j qo qo
theorem Gb (W:Nat)(z:Nat→Int)(n:Nat):∀k,k≤n→FJ W z k→vV W z 0 n=vV W z k (n-k):=by
 intro k
 induction k with
 |zero=>intro _ _;rfl
 |succ k ih=>
  intro hk h;rw[ih qo fun i hi=>h i qo,show n-k=(n-(k+1))+1 by omega];have h1:=h k qo
  simp only[vV]
  rw[if_neg (fun e=>e h1.1),if_neg h1.2]
theorem S1 {W:Nat}{z:Nat→Int}{n:Nat}(h:FJ W z n):vV W z 0 n=0:=Zz n 0 fun j _ hj=>h j qo
theorem mh {W:Nat}{z:Nat→Int}{n k:Nat}(hk:k<n)(h:FJ W z k)(hb:kC (fA W z k) z k≠0):vV W z 0 n=kC (fA W z k) z k:=by
 rw[Gb W z n k qo h,show n-k=(n-k-1)+1 by omega]
 simp only[vV]
 rw[if_pos hb]
theorem FK {W:Nat}{z:Nat→Int}{n k:Nat}(hk:k<n)(h:FJ W z k)(hb:kC (fA W z k) z k=0)(hf:AS W z (k+1)):vV W z 0 n=5:=by
 rw[Gb W z n k qo h,show n-k=(n-k-1)+1 by omega]
 simp only[vV]
 rw[if_neg (fun e=>e hb),if_pos hf]
theorem RZ {W:Nat}{z:Nat→Int}{k:Nat}(h:FJ W z k)(h1:kC (fA W z k) z k=0)(h2:¬AS W z (k+1)):FJ W z (k+1):=fun i hi=>by
 by_cases e:i=k
 ·subst e
  exact⟨h1,h2⟩
 ·exact h i qo
theorem FJ.ok {W:Nat}{z:Nat→Int}{k:Nat}(h:FJ W z k):Pq W z k:=fun i hi=>(h i hi).1
theorem VE (f:Nat→Nat)(x m:Nat){W:Nat}(hx:x<W):T.m7 (fun q=>if q=x then m else f q) W+f x=T.m7 f W+m:=by
 induction W with
 |zero=>omega
 |succ W ih=>
  simp only[T.m7]
  by_cases e:x=W
  ·subst e
   rw[if_pos rfl];have:∀n,n≤x→T.m7 (fun q=>if q=x then m else f q) n=T.m7 f n:=by
    intro n
    induction n with
    |zero=>intro _;rfl
    |succ n ih=>
     intro hn
     simp only[T.m7,ih qo]
     rw[if_neg qo]
   rw[this x ql];omega
  ·have:=ih qo
   rw[if_neg (fun e'=>e e'.symm)];omega
theorem sV (s:aP)(b x:Int)(m:Nat)(h0:0≤x)(h1:x<s.W):live (bB s b x m)+aU s b x=live s+m:=by
 unfold bB aU live
 split
 ·have:=VE s.f x.toNat m (show x.toNat<s.W by omega)
  simp only
  omega
 ·have:=VE s.k x.toNat m (show x.toNat<s.W by omega)
  simp only
  omega
theorem xE {s:aP}{b x:Int}(hb:b=1∨b=2)(h0:0≤x)(h1:x<s.W):jA s b x+aU s b x≤live s:=by
 unfold jA T.rJ aU live
 rcases hb with rfl|rfl
 ·rw[if_neg (by decide),if_pos rfl]
  have h2:=T.Vh s.k s.rk x s.W;have h3:=T.qR s.f x s.W;rw[if_pos ⟨h0,h1⟩]at h3;have h4:=T.UY s.f (x+1) s.W;omega
 ·rw[if_pos rfl,if_neg (by decide)]
  have h2:=T.UY s.f (x+s.rk+1) s.W;have h3:=T.qR s.k x s.W;rw[if_pos ⟨h0,h1⟩]at h3;have h4:=T.UY s.k (x+1) s.W;have h5:=T.oJ s.k s.rk (x+s.rk) s.W;rw[show x+s.rk-s.rk=x by omega]at h5;omega
theorem zP23x6 {p:Prop}(h:p:=by
 simp only[Bool.and_eq_true]at h
 have:=h.2.1.1;refine⟨by simp[aJ]at this;omega,?_⟩
 simp[h.1,this,h.2.2.1]):p:=h
theorem B8 {k d fb fa tb ta c r:Int}(hk:k=1∨k=2∨k=5)(h:bD k d fb fa tb ta c r=true):(fb=1∨fb=2)∧i5 fb c d=true:=by
 unfold bD nB at h;unfold i5
 rcases hk with rfl|rfl|rfl
 ·rw[if_pos qo]at h
  exact zP23x6
 ·rw[if_pos qo]at h
  exact zP23x6
 ·rw[if_neg qo,if_neg qo,if_pos rfl]at h
  simp only[Bool.and_eq_true]at h
  have:=h.1.1;refine⟨by simp[aJ]at this;omega,?_⟩
  simp[h.2.2.2.1,this,h.2.2.2.2.1]
theorem VV {k d fb fa tb ta c r:Int}(hk:k=4∨k=5)(h:bD k d fb fa tb ta c r=true):fb=1∧tb=2∨fb=2∧tb=1:=by
 unfold bD gQ nB aJ at h
 rcases hk with rfl|rfl
 ·rw[if_neg qo,if_pos rfl]at h
  simp only[Bool.and_eq_true,decide_eq_true_eq,beq_iff_eq,bne_iff_ne]at h
  omega
 ·rw[if_neg qo,if_neg qo,if_pos rfl]at h
  simp only[Bool.and_eq_true,decide_eq_true_eq,beq_iff_eq,bne_iff_ne]at h
  omega
theorem VW {d fb fa tb ta c r:Int}(h:bD 6 d fb fa tb ta c r=true):fb=1∨fb=2:=by
 unfold bD nB aJ at h;rw[if_neg qo,if_neg qo,if_neg qo,if_pos rfl]at h
 simp only[Bool.and_eq_true,decide_eq_true_eq]at h
 omega
theorem Ck (s:aP){b b' x x':Int}(h:b=1∧b'=2∨b=2∧b'=1)(m:Nat):aU (bB s b x m) b' x'=aU s b' x':=by
 unfold bB aU
 rcases h with⟨rfl,rfl⟩|⟨rfl,rfl⟩<;>rfl
theorem SQ {s:aP}{fb fa tb ta:Int}(hb:fb=1∧tb=2∨fb=2∧tb=1)(f0:0≤fa)(f1:fa<s.W)(t0:0≤ta)(t1:ta<s.W):live (bO s fb fa tb ta)=live s:=by
 unfold bO;have h1:=sV s tb ta (aU s fb fa+aU s tb ta) t0 t1;have h2:=sV (bB s tb ta (aU s fb fa+aU s tb ta)) fb fa 0 f0 (by rw[j3];exact f1);rw[Ck s qo]at h2;omega
theorem Im (s:aP){b x:Int}(m:Nat):aU (bB s b x m) b x=m:=by
 unfold bB aU
 by_cases hb:b=1
 ·simp[hb]
 ·simp[hb]
theorem Pw (W:Nat):live (pX W)=0:=by
 have h:∀n,T.m7 (fun _=>0) n=0:=by
  intro n
  induction n with
  |zero=>rfl
  |succ n ih=>simp only[T.m7,ih]
 show T.m7 (fun _=>0) W+T.m7 (fun _=>0) W=0;rw[h]
theorem adC {W:Nat}{z:Nat→Int}{i:Nat}(h:xS W z i=true):bD (z (i*8)) (z (i*8+1)) (z (i*8+2)) (z (i*8+3)) (z (i*8+4)) (z (i*8+5)) (z (i*8+6)) (z (i*8+7))=true:=by
 unfold xS at h
 simp only[Bool.and_eq_true]at h
 exact h.1
end Go.Proofs.YtimlpmbabbbcaaaGreat
namespace Go.Proofs.YtimlpmbabbbcaaaGreat
open Go.RowKit
namespace T
variable {W:Nat}{r:Int}{f k:Nat→Nat}
theorem Mg (f k:Nat→Nat){b a:Int}(hb:b=1∨b=2)(h0:0≤a)(h1:a<W)(hr: -3≤r∧r≤3):∃P R,dS W r (W+6)=P++(b,a)::R∧(b,a)∉P∧gD f k P=rJ W r f k b a:=by
 obtain⟨m,rfl⟩:∃m:Nat,a=m:=⟨a.toNat,by omega⟩
 rcases hb with rfl|rfl
 ·obtain⟨R,hR⟩:=Ij (r:=r) (show m<W by omega)
  refine⟨_,R,hR,fun h=>?_,?_⟩
  ·have h2:=(wH h).2
   simp only at h2
   omega
  ·rw[N5 f k W hr.1]
   unfold rJ;rw[if_neg (by decide),show((m+3:Nat):Int)-3=m by omega]
 ·obtain⟨R,hR⟩:=Pv hr (show m<W by omega)
  refine⟨_,R,hR,fun h=>?_,?_⟩
  ·rcases List.mem_append.1 h with h|h
   ·have h2:=(wH h).2
    simp only at h2
    omega
   ·have h2:=(OQ h).1
    simp only at h2
    omega
  ·rw[D9,N5 f k W hr.1,RD]
   unfold rJ;rw[if_pos rfl];have h2:=qR f ((m:Int)+r) W;rw[show(((m:Int)+r+3).toNat:Int)-3=(m:Int)+r by omega,h2];omega
theorem GD (W:Nat)(r x:Int):(bk1 W r x=[(2,x-r)]∧0≤x-r∧x-r<W)∨(bk1 W r x=[]∧¬(0≤x-r∧x-r<W)):=by
 unfold bk1
 by_cases h:0≤x-r∧x-r<W
 ·rw[if_pos h]
  exact .inl ⟨rfl,h⟩
 ·rw[if_neg h]
  exact .inr ⟨rfl,h⟩
theorem Oq (f k:Nat→Nat){i:Nat}(hi:i<W)(hr: -4≤r)(h:0≤(i:Int)-r-1∧(i:Int)-r-1<W):∃P R,mA W r i=P++(2,(i:Int)-r-1)::(1,(i:Int))::R∧mA W r (i+1)=P++(1,(i:Int))::(2,(i:Int)-r-1)::R∧(1,(i:Int))∉P∧gD f k P=rJ W r f k 2 ((i:Int)-r-1):=by
 have hb:bk1 W r ((i:Int)-1)=[(2,(i:Int)-r-1)]:=by
  rcases GD W r ((i:Int)-1)with⟨h1,_⟩|⟨_,h2⟩
  ·rw[h1,show(i:Int)-1-r=(i:Int)-r-1 by omega]
  ·omega
 refine⟨dS W (r+1) (i+3),bk1 W r i++kG W r (i+4) (W+2-i),?_,?_,fun h2=>?_,abU f k W hr i⟩
 ·rw[KW hi,hb]
  rfl
 ·rw[SF hi,hb]
  rfl
 ·have h3:=(wH h2).2
  simp only at h3
  omega
theorem Xv {i:Nat}(hi:i<W)(h:¬(0≤(i:Int)-r-1∧(i:Int)-r-1<W)):∃P R,mA W r i=P++(1,(i:Int))::R∧mA W r (i+1)=mA W r i∧(1,(i:Int))∉P∧(∀n∈P,n≠(2,(i:Int)-r-1)):=by
 have hb:bk1 W r ((i:Int)-1)=[]:=by
  rcases GD W r ((i:Int)-1)with⟨_,h1⟩|⟨h1,_⟩
  ·omega
  ·exact h1
 refine⟨dS W (r+1) (i+3),bk1 W r i++kG W r (i+4) (W+2-i),?_,?_,fun h2=>?_,fun n hn e=>?_⟩
 ·rw[KW hi,hb]
  rfl
 ·rw[KW hi,SF hi,hb]
  rfl
 ·have h3:=(wH h2).2
  simp only at h3
  omega
 ·have h3:=(wH hn).1
  rw[e]at h3;exact h ⟨h3.2.1,h3.2.2⟩
theorem Ry (f k:Nat→Nat){i:Nat}(hi:i<W)(hr: -3≤r)(h:0≤(i:Int)-r∧(i:Int)-r<W):∃P R,mB W r i=P++(1,(i:Int))::(2,(i:Int)-r)::R∧mB W r (i+1)=P++(2,(i:Int)-r)::(1,(i:Int))::R∧(1,(i:Int))∉P∧gD f k P=rJ W r f k 1 i:=by
 have hb:bk1 W r (i:Int)=[(2,(i:Int)-r)]:=by
  rcases GD W r (i:Int)with⟨h1,_⟩|⟨_,h2⟩
  ·exact h1
  ·omega
 refine⟨pL W r (i+3),kG W r (i+4) (W+2-i),?_,?_,fun h2=>?_,abV f k W hr i⟩
 ·rw[KX hi,hb]
  rfl
 ·rw[SG hi,hb]
  rfl
 ·have h3:=(RC h2).2
  simp only at h3
  omega
theorem Zh {i:Nat}(hi:i<W)(h:¬(0≤(i:Int)-r∧(i:Int)-r<W)):∃P R,mB W r i=P++(1,(i:Int))::R∧mB W r (i+1)=mB W r i∧(1,(i:Int))∉P∧(∀n∈R,n≠(2,(i:Int)-r)):=by
 have hb:bk1 W r (i:Int)=[]:=by
  rcases GD W r (i:Int)with⟨_,h1⟩|⟨h1,_⟩
  ·omega
  ·exact h1
 refine⟨pL W r (i+3),kG W r (i+4) (W+2-i),?_,?_,fun h2=>?_,fun n hn e=>?_⟩
 ·rw[KX hi,hb]
  rfl
 ·rw[KX hi,SG hi,hb]
  rfl
 ·have h3:=(RC h2).2
  simp only at h3
  omega
 ·have h3:=J6 hn
  rw[e]at h3;exact h ⟨h3.2.1,h3.2.2⟩
theorem Yf {i:Nat}{n:fU}(h:n∈mA W r i):EW W n:=by
 unfold mA at h
 rcases List.mem_append.1 h with h|h
 ·exact(wH h).1
 ·rcases List.mem_append.1 h with h|h
  ·have:=OR h
   exact⟨.inr this.1,by rw[this.2.1];exact this.2.2.1,by rw[this.2.1];exact this.2.2.2⟩
  ·exact J6 h
theorem Yg {i:Nat}{n:fU}(h:n∈mB W r i):EW W n:=by
 unfold mB at h
 rcases List.mem_append.1 h with h|h
 ·exact(RC h).1
 ·exact J6 h
end T
def qF (s:aP)(b a:Int)(i:Nat):Nat:=T.sF s.f (if b=2 then a+s.rk+1 else a) i+T.sK s.k s.rk (aO b a s.rk) i
theorem qE (s:aP)(b a:Int):qF s b a s.W=jA s b a:=by
 unfold qF jA T.rJ aO
 by_cases hb:b=2
 ·rw[if_pos hb,if_pos hb,if_pos hb]
 ·rw[if_neg hb,if_neg hb,if_neg hb]
theorem TF (s:aP)(b a:Int)(i:Nat):qF s b a (i+1)=qF s b a i+(if(i:Int)<aO b a s.rk∨(i:Int)=aO b a s.rk∧b=2 then s.f i else 0)+(if(i:Int)+s.rk<aO b a s.rk then s.k i else 0):=by
 unfold qF aO
 simp only[T.sF,T.sK]
 by_cases hb:b=2
 ·simp only[if_pos hb]
  by_cases h:(i:Int)<a+s.rk+1
  ·rw[if_pos h,if_pos (show(i:Int)<a+s.rk∨(i:Int)=a+s.rk∧b=2 by omega)]
   omega
  ·rw[if_neg h,if_neg (show¬((i:Int)<a+s.rk∨(i:Int)=a+s.rk∧b=2)by omega)]
   omega
 ·simp only[if_neg hb]
  by_cases h:(i:Int)<a
  ·rw[if_pos h,if_pos (show(i:Int)<a∨(i:Int)=a∧b=2 by omega)]
   omega
  ·rw[if_neg h,if_neg (show¬((i:Int)<a∨(i:Int)=a∧b=2)by omega)]
   omega
theorem t8 {s:aP}{D:Nat}(hs:d8 s D)(b a:Int){i:Nat}(hi:i≤s.W):qF s b a i≤8*i:=by
 induction i with
 |zero=>exact Nat.le_refl _
 |succ i ih=>
  have h1:=hs.fb i qo;have h2:=hs.kb i qo;have h3:=ih qo;rw[TF]
  split<;>split<;>omega
theorem L4 {s:aP}{D:Nat}(hs:d8 s D):live s≤8*s.W:=by
 have h:∀i,i≤s.W→T.m7 s.f i≤4*i∧T.m7 s.k i≤4*i:=by
  intro i
  induction i with
  |zero=>intro _;exact⟨Nat.le_refl _,Nat.le_refl _⟩
  |succ i ih=>
   intro hi;have h1:=hs.fb i qo;have h2:=hs.kb i qo;have h3:=ih qo
   simp only[T.m7]
   omega
 have:=h s.W ql;unfold live;omega
end Go.Proofs.YtimlpmbabbbcaaaGreat
namespace Go.Proofs.YtimlpmbabbbcaaaGreat
open Go.RowKit
section
variable {tg:Nat→Nat}{a:bV}{s:aP}{D:Nat}{w:World}
theorem Mem.RQ (H:Mem tg a s w){i:Nat}(hi:i<s.W):∃A c,w.cell? ⟨a.gf,i,none⟩=some (.slice A (s.f i) c):=by
 obtain⟨A,c,e⟩:=(H.lf i hi).form;have h:=H.f i hi;rw[Nat.zero_add,e]at h;exact⟨A,c,h⟩
theorem Mem.YI (H:Mem tg a s w){i:Nat}(hi:i<s.W):∃A c,w.cell? ⟨a.gk,i,none⟩=some (.slice A (s.k i) c):=by
 obtain⟨A,c,e⟩:=(H.lk i hi).form;have h:=H.k i hi;rw[Nat.zero_add,e]at h;exact⟨A,c,h⟩
theorem zP23x0 {p:Prop}(h:p:=by
 go_wp2_with fail
 go_roundw
 case rel=>exact⟨i+1,by omega,by rw[jG.o];go_num,qg,by trivial⟩
 case measure=>exact qs):p:=h
theorem yT (b x:Int)(H:Mem tg a s w)(hs:d8 s D)(hx:0≤x)(hx1:x<s.W):
 Calls Tryz.prog 84 #[.pointer (some ⟨a.g,0,none⟩),.agg #[.int .i64 b,.int .i64 x]] w fun e w'=>e=.returned (.int .i64 (jA s b x:Nat))∧Below w.heap.size w w':=by
 have hg:Below w.heap.size w (w.alloc (.cells #[.int .i64 b,.int .i64 x] 49)):=qb;have HN:=qh (H.below hg);have HG:=qh hg;have QC:=qh (aG.at_ (g':=w.heap.size) w 49 #[.int .i64 b,.int .i64 x] rfl);have n0:(w.alloc (.cells #[.int .i64 b,.int .i64 x] 49)).cell? ⟨w.heap.size,0,none⟩=some (.int .i64 b):=QC.o.cell 0;have n1:(w.alloc (.cells #[.int .i64 b,.int .i64 x] 49)).cell? ⟨w.heap.size,1,none⟩=some (.int .i64 x):=QC.o.cell 1;have m1:(w.alloc (.cells #[.int .i64 b,.int .i64 x] 49)).cell? ⟨a.g,1,none⟩=some (.int .i64 s.rk):=HN.o.m.cell 1;have hgz:=HN.o.m.lt;have hnz:=QC.o.lt;have hw2:=hs.w2;have hr1:=hs.r1;have hr2:=hs.r2;have F1:=qh (fun W=>tV b x s.rk W hx qo hr1 hr2);have KM:=qh (qE s b x);have cB:=qh (fun i=>TF s b x i);have KE:=qh (fun i hi=>t8 hs b x (i:=i) hi);have CL:=qh hs.fb;have HKB:=qh hs.kb;have HZ:=qh (show qF s b x 0=0 from rfl);obtain⟨X,hX⟩:=qx (aO b x s.rk);have hxb:=j4 (b:=b) hx (show x≤23 by omega) hr1 hr2;rw[←hX]at F1 hxb
 simp only[←hX]at cB
 clear hX hg H
 go_enter Tryz.func84,Tryz.ntmps84
 go_wp2_with fail
 go_region_held3 (fun w'=>w'.cell? ⟨w.heap.size,0,none⟩=some (.int .i64 b)∧w'.cell? ⟨w.heap.size,1,none⟩=some (.int .i64 x)∧w'.cell? ⟨a.g,1,none⟩=some (.int .i64 s.rk)) (go_keep) ((go_at_call 136;refine(F1.o _).mono ?_;rintro e w5 ⟨rfl,hb5⟩;have hb6:Below (w.alloc (.cells #[.int .i64 b,.int .i64 x] 49)).heap.size (w.alloc (.cells #[.int .i64 b,.int .i64 x] 49)) w5:=(Below.refl _ (w.alloc (.cells #[.int .i64 b,.int .i64 x] 49))).drew.trans hb5;have Wz:=HG.st hb6;have nC:=qh (HN.o.below hb6);have bG:=qh (QC.o.below hb6 hnz);have n0:=aD hb6 hnz n0;have n1:=aD hb6 hnz n1;have m1:=aD hb6 hgz m1;clear hb5 hb6))
 rename_i hHeld
 clear hHeld n0 n1 m1 HN QC hgz hnz F1 HG
 rename World=>w5
 have n0:w5.cell? ⟨w.heap.size,0,none⟩=some (.int .i64 b):=bG.o.cell 0;have m0:w5.cell? ⟨a.g,0,none⟩=some (.int .i64 s.W):=nC.o.m.cell 0;have m1:w5.cell? ⟨a.g,1,none⟩=some (.int .i64 s.rk):=nC.o.m.cell 1;have m2:w5.cell? ⟨a.g,2,none⟩=some (.slice (some ⟨a.gf,0,none⟩) s.W a.cf):=nC.o.m.cell 2;have m3:w5.cell? ⟨a.g,3,none⟩=some (.slice (some ⟨a.gk,0,none⟩) s.W a.ck):=nC.o.m.cell 3
 go_wp2_with fail
 go_loopw [6,7] (fun v y wr=>∃i:Nat,i≤s.W∧v=.int .i64 (qF s b x i:Nat)∧y=.int .i64 i∧wr=w5) (fun _ y _=>s.W-(intOf y).toNat)
 case atStart=>exact⟨0,Nat.zero_le _,by rw[HZ.o];rfl,rfl,rfl⟩
 case round=>
  obtain⟨i,hi,rfl,rfl,rfl⟩:=hrel
  by_cases hlt:i<s.W
  ·obtain⟨Af,cf,kf⟩:=nC.o.RQ hlt
   obtain⟨Ak,ck,kk⟩:=nC.o.YI hlt;have hN:=cB.o i;have hP:=KE.o i hi;have hF:=CL.o i hlt;have hK:=HKB.o i hlt;have cT:=qh hN;obtain⟨P,hPe⟩:=qx (qF s b x i);obtain⟨F,BQ⟩:=qx (s.f i);obtain⟨K,zD⟩:=qx (s.k i);rw[←hPe,←BQ,←zD]at cT;rw[←hPe]at hP ⊢;rw[←BQ]at hF kf;rw[←zD]at hK kk;have b1:(0:Int)≤(i:Int):=qo;have b2:(i:Int)<(s.W:Int):=qo;clear hN hPe BQ zD
   by_cases h1:(i:Int)<X
   ·by_cases hk:(i:Int)+s.rk<X
    ·have jG:=qh (show qF s b x (i+1)=P+F+K by rw[cT.o,if_pos qo,if_pos qo])
     exact zP23x0
    ·have jG:=qh (show qF s b x (i+1)=P+F+0 by rw[cT.o,if_pos qo,if_neg qo])
     exact zP23x0
   ·by_cases h2:(i:Int)=X
    ·subst h2
     have XQ:((i:Int)==(i:Int))=true:=by simp
     by_cases h3:b=2
     ·have h3b:(b==2)=true:=by simp[h3]
      by_cases hk:(i:Int)+s.rk<(i:Int)
      ·have jG:=qh (show qF s b x (i+1)=P+F+K by rw[cT.o,if_pos qo,if_pos qo])
       exact zP23x0
      ·have jG:=qh (show qF s b x (i+1)=P+F+0 by rw[cT.o,if_pos qo,if_neg qo])
       exact zP23x0
     ·have h3b:(b==2)=false:=by simp[h3]
      by_cases hk:(i:Int)+s.rk<(i:Int)
      ·have jG:=qh (show qF s b x (i+1)=P+0+K by rw[cT.o,if_neg qo,if_pos qo])
       exact zP23x0
      ·have jG:=qh (show qF s b x (i+1)=P+0+0 by rw[cT.o,if_neg qo,if_neg qo])
       exact zP23x0
    ·have XQ:((i:Int)==X)=false:=by simp[h2]
     by_cases hk:(i:Int)+s.rk<X
     ·have jG:=qh (show qF s b x (i+1)=P+0+K by rw[cT.o,if_neg qo,if_pos qo])
      exact zP23x0
     ·have jG:=qh (show qF s b x (i+1)=P+0+0 by rw[cT.o,if_neg qo,if_neg qo])
      exact zP23x0
  ·obtain rfl:i=s.W:=qo
   go_wp2_with fail
   go_ret
   exact⟨by rw[←KM.o];rfl,Wz.o⟩
end
def af5 (w:World)(n:Nat)(L:List Int)(e:Ending)(w':World):Prop:=∃v,e=.returned v∧w'.ownsRow w.heap.size 116 6 v n (ints L)∧Below w.heap.size w w'
theorem jy (s:Int)(l m:List Int):bL s (l++m)=bL s l++bL s m:=by
 induction l with
 |nil=>rfl
 |cons x l ih=>simp only[List.cons_append,bL,ih,List.append_assoc]
theorem JA (p:Int)(x y:Nat)(s:Int)(w:World)(hp:0≤p∧p≤1000000)(ha:x≤100)(hb:y≤100):
 Calls Tryz.prog 135 #[.int .i64 p,.int .i64 x,.int .i64 y,.int .i64 s] w (af5 w (y*x) (bL s (bY p x y))):=by
 obtain⟨i0,hi,iz,is,ib⟩:=info_parts dQ
 go_enter Tryz.func135,Tryz.ntmps135
 go_wp2_with fail
 go_loopg [9,10,11] y (fun q v i _ wr=>∃t:Nat,t≤y∧q+t=y∧i=.int .i64 t∧Hq (wr.ownsRow w.heap.size 116 6 v (t*x) (ints (bL s (bY p x t))))∧Hq (Below w.heap.size w wr))
 case atStart=>exact⟨0,Nat.zero_le _,rfl,rfl,qh (by rw[Nat.zero_mul];exact World.ownsRow_made _ #[] 0 ql qm rfl),qh (qb)⟩
 case round=>
  obtain⟨t,ht,hq,rfl,HOWN,HB⟩:=hrel
  by_cases hlt:t<y
  ·have EN:t*x≤10000:=Nat.le_trans (Nat.mul_le_mul (show t≤100 by omega) ha) qo
   have TI:=qh (show(t+1)*x=t*x+x from Nat.succ_mul t x);have HE:=qh (show bL s (bY p x (t+1))=bL s (bY p x t)++bL s (D2 p t x)by simp only[bY,jy]);obtain⟨N,hN⟩:=qx (t*x);rw[←hN]at EN HOWN TI;clear hN
   go_wp2_with fail
   go_loopg [9,11] x (fun q2 v i wi=>∃(r:Nat) (xs:List Int),r≤x∧q2=r∧i=.int .i64 ((r:Int)-1)∧Hq (wi.ownsRow w.heap.size 116 6 v (N+(x-r)) (ints xs))∧Hq (xs++bL s (D2 p t r)=bL s (bY p x (t+1)))∧Hq (Below w.heap.size w wi))
   case atStart=>exact⟨x,bL s (bY p x t),Nat.le_refl _,rfl,qg,qh (by rw[Nat.sub_self,Nat.add_zero];exact HOWN.o),qh HE.o.symm,HB⟩
   case round=>
    obtain⟨r,xs,hr,hq2,rfl,gP,HX,HB2⟩:=hrel
    by_cases hr0:0<r
    ·obtain⟨r',rfl⟩:∃r',r=r'+1:=⟨r-1,by omega⟩
     have e1:((r'+1:Nat):Int)-1=(r':Int):=qo;rw[e1];have b1:(0:Int)≤(r':Int):=qo
     go_wp2_with (at_builtin;go_must (refine d5 _ rfl (.tmp 24) (.tmp 32) _ rfl w.heap.size 116 i0 _ 6 48 Tryz.underlying42 hi iz is ib rfl qo u9 _ _ rfl gP.o _ 1 1 [.int .i64 1,.int .i64 (p+t+r'),.int .i64 s,.int .i64 0,.int .i64 0,.int .i64 0] rfl rfl (by simp[Value.oneCell']) qm qo HB2.o.size ?_);intro v' w' hown' hf' hat';have cI:=qh hown';have HB3:=qh (HB2.o.trans (hf'.own gP.o HB2.o.size));clear hown' hf' hat')
     go_roundg r'
     case measure=>omega
     case rel=>exact⟨r',xs++gH 1 (p+t+r') s 0 0 0,by omega,rfl,qg,qh (by have:=cI.o;rw[aL,show N+(x-r')=N+(x-(r'+1))+1 by omega];exact this),qh (by rw[List.append_assoc];exact HX.o),HB3⟩
    ·obtain rfl:r=0:=qo
     have b1:¬(0:Int)≤((0:Nat):Int)-1:=qo
     go_wp2_with fail
     go_roundg (y-(t+1))
     case measure=>omega
     case rel=>exact⟨t+1,by omega,by omega,qg,qh (by have h1:=HX.o;simp only[D2,bL,List.append_nil]at h1;have h2:=gP.o;rw[h1]at h2;rw[TI.o];simpa using h2),HB2⟩
  ·obtain rfl:y=t:=qo
   go_wp2_with fail
   go_ret
   exact⟨_,rfl,HOWN.o,HB.o⟩
theorem rU {w:World}{B n c:Nat}{A:Option Addr}{L:List Int}(h:w.ownsRow B 116 6 (.slice A n c) n (ints L)):Rd w A (n*6) (fun j=>.int .i64 (L.getD j 0)):=fun h0=>by
 have hl:L.length=n*6:=by have:=h.1;simpa [ints]using this
 rcases h.2 with⟨_,h1⟩|⟨g',cap,_,hg,_⟩
 ·omega
 injection hg with hA _ hc;subst hA;refine⟨g',0,rfl,(h.lt g' rfl).2,fun j hj=>?_⟩;rw[Nat.zero_add,h.cellAt j qo]
 simp[ints,List.getD,show j<L.length by omega]
theorem mL (L:List Int)(n:Nat)(hn:L.length=n*6):((List.range (n*6)).map fun j=>Value.int .i64 (L.getD j 0))=ints L:=eV L (n*6) hn
def Wq (w:World)(tg:Nat→Nat)(a:bV)(s':aP)(L:List Int)(M:Nat)(e:Ending)(w':World):Prop:=∃v n,e=.returned v∧n≤M∧w'.ownsRow w.heap.size 116 6 v n (ints L)∧Mem tg a s' w'∧Fr w w' (fun b=>b=a.g)
section
variable {tg:Nat→Nat}{a:bV}{s:aP}{D:Nat}{w:World}
theorem zP23x2 {p:Prop}(h:p:=by
 rw[gX]at rG;have s1:IntKind.i64.wrap ((i:Int)-s.rk)=(i:Int)-s.rk:=IntWalk.i64_in _ qo;clear hin gX
 go_wp2_with fail
 refine(rG.o _).mono ?_;rintro e w2 ⟨rfl,rfl⟩
 go_wp2_with fail
 go_roundw
 case rel=>exact⟨i+1,N,by omega,qg,by omega,qh (by rw[cB.o,HI.o,List.append_nil];exact HO.o),HB⟩
 case measure=>exact qs):p:=h
theorem zP23x3 {p:Prop}(h:p:=by
 go_roundw
 case rel=>exact⟨i+1,N+Q,by omega,qg,by omega,qh (by
  have h:=d9.o;rw[mL _ _ qJ.o,←aL]at h;rw[cB.o,HI.o];exact h),bG⟩
 case measure=>exact qs):p:=h
theorem UD (H:Mem tg a s w)(hs:d8 s D)(hr: -3≤s.rk+1∧s.rk+1≤3):
 Calls Tryz.prog 83 #[.pointer (some ⟨a.g,0,none⟩),.int .i64 (1)] w (Wq w tg a {s with rk:=s.rk+1} (T.i6 s.W s.rk (1) s.f s.k s.W) 400):=by
 obtain⟨i0,hi,iz,is,ib⟩:=info_parts dQ;have HM:=qh H;have HS:=qh hs;have hw2:=hs.w2;have hr1:=hs.r1;have hr2:=hs.r2;have HO:=qh (World.ownsRow_made (e:=116) (size:=6) w #[] 0 ql qm rfl);have HB:=qh ((Below.refl w.heap.size w).alloc ql (.cells #[] 116));have C9:=qh (fun i=>show T.i6 s.W s.rk (1) s.f s.k (i+1)=T.i6 s.W s.rk (1) s.f s.k i++T.pU s.W s.rk (1) s.f s.k i from rfl);have HZ:=qh (show T.i6 s.W s.rk (1) s.f s.k 0=[]from rfl);clear H hs
 go_enter Tryz.func83,Tryz.ntmps83
 go_wp2_with fail
 go_loopw [5,6,7,8,9] (fun v y _ _ _ wr=>∃i N:Nat,i≤s.W∧y=.int .i64 i∧N≤16*i∧Hq (wr.ownsRow w.heap.size 116 6 v N (ints (T.i6 s.W s.rk (1) s.f s.k i)))∧Hq (Below w.heap.size w wr)) (fun _ y _ _ _ _=>s.W-(intOf y).toNat)
 case atStart=>exact⟨0,0,Nat.zero_le _,rfl,Nat.zero_le _,qh (by rw[HZ.o];exact HO.o),HB⟩
 case round=>
  clear HO HB;obtain⟨i,N,hi2,rfl,hN,HO,HB⟩:=hrel;have jT:=qh (HM.o.below HB.o);have m0:wr.cell? ⟨a.g,0,none⟩=some (.int .i64 s.W):=jT.o.m.cell 0;have m1:wr.cell? ⟨a.g,1,none⟩=some (.int .i64 s.rk):=jT.o.m.cell 1
  by_cases hlt:i<s.W
  ·have m2:wr.cell? ⟨a.g,2,none⟩=some (.slice (some ⟨a.gf,0,none⟩) s.W a.cf):=jT.o.m.cell 2
   have m3:wr.cell? ⟨a.g,3,none⟩=some (.slice (some ⟨a.gk,0,none⟩) s.W a.ck):=jT.o.m.cell 3;obtain⟨Af,cf,kf⟩:=jT.o.RQ hlt;have hF:=HS.o.fb i hlt;have cB:=qh (C9.o i);have b1:(0:Int)≤(i:Int):=qo;have b2:(i:Int)<(s.W:Int):=qo
   by_cases hin:0≤(i:Int)-s.rk-1∧(i:Int)-s.rk-1<s.W
   ·obtain⟨j,hj⟩:∃j:Nat,(j:Int)=(i:Int)-s.rk-1:=⟨((i:Int)-s.rk-1).toNat,by omega⟩
    have Ju:j<s.W:=qo;obtain⟨Ak,ck,kk⟩:=jT.o.YI Ju;have hK:=HS.o.kb j Ju;have HI:=qh (show T.pU s.W s.rk (1) s.f s.k i=bL (-1) (bY (jA s 2 j:Nat) (s.k j) (s.f i))from by
     unfold T.pU;rw[if_pos qo,if_pos hin,←hj]
     rfl)
    have hbf:=xE (s:=s) (b:=2) (x:=j) (.inr rfl) qo qo;have fW:=qh (yT 2 j jT.o HS.o qo qo);obtain⟨P,hP⟩:=qx (jA s 2 j);obtain⟨F,BQ⟩:=qx (s.f i);obtain⟨K,zD⟩:=qx (s.k j);rw[←hP]at HI fW hbf;rw[←BQ]at HI hF kf;rw[←zD]at HI hK kk;have qN:=qh (fun W=>JA P K F (-1) W (by have:=L4 HS.o;omega) qo qo);have hKF:F*K≤16:=Nat.le_trans (Nat.mul_le_mul (show _≤4 by omega) (show _≤4 by omega)) qo;obtain⟨Q,hQ⟩:=qx (F*K);rw[←hQ]at qN hKF;have rG:=qh (fun W:World=>cH (j:Int) 0 ((s.W:Int)-1) W);have gX:aJ (j:Int) 0 ((s.W:Int)-1)=true:=by unfold aJ;simp;omega
    rw[gX]at rG;have b3:(0:Int)≤(j:Int):=qo;have b4:(j:Int)<(s.W:Int):=qo;have e1:(i:Int)-s.rk-1=(j:Int):=hj.symm;have yQ:=qh e1;have s1:IntKind.i64.wrap ((i:Int)-s.rk)=(i:Int)-s.rk:=IntWalk.i64_in _ qo;clear hin gX hP BQ zD hQ hj
    go_wp2_with fail
    refine(rG.o _).mono ?_;rintro e w2 ⟨rfl,rfl⟩
    go_wp2_with fail
    refine fW.o.mono ?_;rintro e w3 ⟨rfl,hb3⟩;have cI:=qh (own_below HO.o hb3);have HB3:=HB.st hb3;clear hb3 fW HO HB jT m0 m1 m2 m3 kf kk
    go_wp2_with fail
    refine(qN.o _).mono ?_;rintro e w4 ⟨v4,rfl,d6,hb4⟩;obtain⟨A4,c4,rfl⟩:=aE d6;have bS:=qh (own_below cI.o hb4);have aW:=HB3.st hb4;have HR4:=qh (rU d6);have qJ:=qh (show(bL (-1) (bY (P:Int) K F)).length=Q*6 from by have:=d6.1;simpa [ints]using this);clear d6 hb4 qN cI HB3
    go_wp2_with (at_builtin;go_must (refine cO w4 rfl (.tmp 55) (.tmp 62) _ rfl w.heap.size 116 i0 _ 6 48 Tryz.underlying42 hi iz is ib rfl qo u5 N _ rfl bS.o A4 Q c4 _ rfl HR4.o (fun j=>rfl) qm qo aW.o.size ?_);intro v' w' hown' hfr;have d9:=qh hown';have bG:=qh (aW.o.trans (hfr.own bS.o aW.o.size));clear hown' hfr)
    exact zP23x3
   ·have HI:=qh (show T.pU s.W s.rk (1) s.f s.k i=[]from by
     unfold T.pU;rw[if_pos qo,if_neg hin])
    have rG:=qh (fun W:World=>cH ((i:Int)-s.rk-1) 0 ((s.W:Int)-1) W);have gX:aJ ((i:Int)-s.rk-1) 0 ((s.W:Int)-1)=false:=by unfold aJ;rw[Bool.and_eq_false_iff,decide_eq_false_iff_not,decide_eq_false_iff_not];omega
    exact zP23x2
  ·obtain rfl:i=s.W:=qo
   have f1:wr.frozen? ⟨a.g,1,none⟩=false:=jT.o.m.frozen 1;have s1:IntKind.i64.wrap (s.rk+1)=s.rk+1:=IntWalk.i64_in _ qo;have hag:a.g<w.heap.size:=HM.o.m.lt;have rE:=qh (jT.o.sR (s.rk+1));have HFS:=qh ((Fr.of_below HB.o (fun b=>b=a.g)).set (p:=⟨a.g,1,none⟩) rfl (.int .i64 (s.rk+1)));have Z6:=qh (nk HO.o (p:=⟨a.g,1,none⟩) hag (.int .i64 (s.rk+1)))
   go_wp2_with fail
   go_ret
   exact⟨_,N,rfl,by omega,Z6.o,rE.o,HFS.o⟩
theorem UE (H:Mem tg a s w)(hs:d8 s D)(hr: -3≤s.rk+ -1∧s.rk+ -1≤3):
 Calls Tryz.prog 83 #[.pointer (some ⟨a.g,0,none⟩),.int .i64 (-1)] w (Wq w tg a {s with rk:=s.rk+ -1} (T.i6 s.W s.rk (-1) s.f s.k s.W) 400):=by
 obtain⟨i0,hi,iz,is,ib⟩:=info_parts dQ;have HM:=qh H;have HS:=qh hs;have hw2:=hs.w2;have hr1:=hs.r1;have hr2:=hs.r2;have HO:=qh (World.ownsRow_made (e:=116) (size:=6) w #[] 0 ql qm rfl);have HB:=qh ((Below.refl w.heap.size w).alloc ql (.cells #[] 116));have C9:=qh (fun i=>show T.i6 s.W s.rk (-1) s.f s.k (i+1)=T.i6 s.W s.rk (-1) s.f s.k i++T.pU s.W s.rk (-1) s.f s.k i from rfl);have HZ:=qh (show T.i6 s.W s.rk (-1) s.f s.k 0=[]from rfl);clear H hs
 go_enter Tryz.func83,Tryz.ntmps83
 go_wp2_with fail
 go_loopw [5,6,7,8,9] (fun v y _ _ _ wr=>∃i N:Nat,i≤s.W∧y=.int .i64 i∧N≤16*i∧Hq (wr.ownsRow w.heap.size 116 6 v N (ints (T.i6 s.W s.rk (-1) s.f s.k i)))∧Hq (Below w.heap.size w wr)) (fun _ y _ _ _ _=>s.W-(intOf y).toNat)
 case atStart=>exact⟨0,0,Nat.zero_le _,rfl,Nat.zero_le _,qh (by rw[HZ.o];exact HO.o),HB⟩
 case round=>
  clear HO HB;obtain⟨i,N,hi2,rfl,hN,HO,HB⟩:=hrel;have jT:=qh (HM.o.below HB.o);have m0:wr.cell? ⟨a.g,0,none⟩=some (.int .i64 s.W):=jT.o.m.cell 0;have m1:wr.cell? ⟨a.g,1,none⟩=some (.int .i64 s.rk):=jT.o.m.cell 1
  by_cases hlt:i<s.W
  ·have m2:wr.cell? ⟨a.g,2,none⟩=some (.slice (some ⟨a.gf,0,none⟩) s.W a.cf):=jT.o.m.cell 2
   have m3:wr.cell? ⟨a.g,3,none⟩=some (.slice (some ⟨a.gk,0,none⟩) s.W a.ck):=jT.o.m.cell 3;obtain⟨Af,cf,kf⟩:=jT.o.RQ hlt;have hF:=HS.o.fb i hlt;have cB:=qh (C9.o i);have b1:(0:Int)≤(i:Int):=qo;have b2:(i:Int)<(s.W:Int):=qo
   by_cases hin:0≤(i:Int)-s.rk∧(i:Int)-s.rk<s.W
   ·obtain⟨j,hj⟩:∃j:Nat,(j:Int)=(i:Int)-s.rk:=⟨((i:Int)-s.rk).toNat,by omega⟩
    have Ju:j<s.W:=qo;obtain⟨Ak,ck,kk⟩:=jT.o.YI Ju;have hK:=HS.o.kb j Ju;have HI:=qh (show T.pU s.W s.rk (-1) s.f s.k i=bL 1 (bY (jA s 1 i:Nat) (s.f i) (s.k j))from by
     unfold T.pU;rw[if_neg qo,if_pos hin,←hj]
     rfl)
    have hbf:=xE (s:=s) (b:=1) (x:=i) (.inl rfl) qo qo;have fW:=qh (yT 1 i jT.o HS.o qo qo);obtain⟨P,hP⟩:=qx (jA s 1 i);obtain⟨F,BQ⟩:=qx (s.f i);obtain⟨K,zD⟩:=qx (s.k j);rw[←hP]at HI fW hbf;rw[←BQ]at HI hF kf;rw[←zD]at HI hK kk;have qN:=qh (fun W=>JA P F K (1) W (by have:=L4 HS.o;omega) qo qo);have hKF:K*F≤16:=Nat.le_trans (Nat.mul_le_mul (show _≤4 by omega) (show _≤4 by omega)) qo;obtain⟨Q,hQ⟩:=qx (K*F);rw[←hQ]at qN hKF;have rG:=qh (fun W:World=>cH (j:Int) 0 ((s.W:Int)-1) W);have gX:aJ (j:Int) 0 ((s.W:Int)-1)=true:=by unfold aJ;simp;omega
    rw[gX]at rG;have b3:(0:Int)≤(j:Int):=qo;have b4:(j:Int)<(s.W:Int):=qo;have e1:(i:Int)-s.rk=(j:Int):=hj.symm;have yQ:=qh e1;have s1:IntKind.i64.wrap ((i:Int)-s.rk)=(i:Int)-s.rk:=IntWalk.i64_in _ qo;clear hin gX hP BQ zD hQ hj
    go_wp2_with fail
    refine(rG.o _).mono ?_;rintro e w2 ⟨rfl,rfl⟩
    go_wp2_with fail
    refine fW.o.mono ?_;rintro e w3 ⟨rfl,hb3⟩;have cI:=qh (own_below HO.o hb3);have HB3:=HB.st hb3;clear hb3 fW HO HB jT m0 m1 m2 m3 kf kk
    go_wp2_with fail
    refine(qN.o _).mono ?_;rintro e w4 ⟨v4,rfl,d6,hb4⟩;obtain⟨A4,c4,rfl⟩:=aE d6;have bS:=qh (own_below cI.o hb4);have aW:=HB3.st hb4;have HR4:=qh (rU d6);have qJ:=qh (show(bL 1 (bY (P:Int) F K)).length=Q*6 from by have:=d6.1;simpa [ints]using this);clear d6 hb4 qN cI HB3
    go_wp2_with (at_builtin;go_must (refine cO w4 rfl (.tmp 64) (.tmp 71) _ rfl w.heap.size 116 i0 _ 6 48 Tryz.underlying42 hi iz is ib rfl qo u5 N _ rfl bS.o A4 Q c4 _ rfl HR4.o (fun j=>rfl) qm qo aW.o.size ?_);intro v' w' hown' hfr;have d9:=qh hown';have bG:=qh (aW.o.trans (hfr.own bS.o aW.o.size));clear hown' hfr)
    exact zP23x3
   ·have HI:=qh (show T.pU s.W s.rk (-1) s.f s.k i=[]from by
     unfold T.pU;rw[if_neg qo,if_neg hin])
    have rG:=qh (fun W:World=>cH ((i:Int)-s.rk) 0 ((s.W:Int)-1) W);have gX:aJ ((i:Int)-s.rk) 0 ((s.W:Int)-1)=false:=by unfold aJ;rw[Bool.and_eq_false_iff,decide_eq_false_iff_not,decide_eq_false_iff_not];omega
    exact zP23x2
  ·obtain rfl:i=s.W:=qo
   have f1:wr.frozen? ⟨a.g,1,none⟩=false:=jT.o.m.frozen 1;have s1:IntKind.i64.wrap (s.rk+ -1)=s.rk+ -1:=IntWalk.i64_in _ qo;have hag:a.g<w.heap.size:=HM.o.m.lt;have rE:=qh (jT.o.sR (s.rk+ -1));have HFS:=qh ((Fr.of_below HB.o (fun b=>b=a.g)).set (p:=⟨a.g,1,none⟩) rfl (.int .i64 (s.rk+ -1)));have Z6:=qh (nk HO.o (p:=⟨a.g,1,none⟩) hag (.int .i64 (s.rk+ -1)))
   go_wp2_with fail
   go_ret
   exact⟨_,N,rfl,by omega,Z6.o,rE.o,HFS.o⟩
end
def Ad (w:World)(tg:Nat→Nat)(g:Nat)(code:Int)(s':aP)(L:List Int)(e:Ending)(w':World):Prop:=
 Fr w w' (fZ tg)∧(code≠0→∃v,e=.returned (.tuple #[v,.int .i64 code]))∧(code=0→∃v n eZ a',e=.returned (.tuple #[v,.int .i64 0])∧n≤3000∧w'.ownsRow w.heap.size 116 6 v n (ints L)∧At w tg g s' w' eZ a'∧∀q,v.ownBlock=some q→eZ q=0)
theorem nM {P:Program}(W:World){ops:Array Oper}{rest:List Oper}{o:Oper}{a:Act}{Q:Exit→Act→World→Prop}(hgd:o.guard=none)(s x:Operand)(t:TypeId)
 (ho:o.op=.call {callee:=.builtin .append,args:=#[s,x],argTypes:=#[t,t]})
 (base:Nat) (e:TypeId) (i:TypeInfo) (z:Value) (size bytes:Nat) (ht:P.underlying t=some (.slice e)) (hi:P.info? e=some i) (hz:i.zero=some z)
 (hsize:i.size=size) (hby:i.bytes=bytes) (hzs:z.cells.size=size) (hsz:0<size)
 (v:Value) (n:Nat) (xs:List Value) (hs:a.eval s=v) (hown:W.ownsRow base e size v n xs)
 (te:TypeId) (m c:Nat) (news:List Value) (q:Nat) (hq:q=W.heap.size) (hx:a.eval x=.slice (some ⟨q,0,none⟩) m c) (hl:news.length=m*size) (h1:∀u∈news,u.oneCell'=true)
 (h63:n+m≤maxLen) (hbytes:(n+m)*bytes≤140737488355328) (hbase:base≤W.heap.size)
 (h:∀v' w',w'.ownsRow base e size v' (n+m) (xs++news)→Fr W w' (fun b=>v.ownBlock=some b)→(v'.ownBlock=v.ownBlock∨v'.ownBlock=some (q+1))→wpList P ops Q rest (a.put o.dst v') w'):
 wpList P ops Q (o::rest) a (W.alloc (.cells news.toArray te)):=by
 subst hq;exact d5 W hgd s x t ho base e i z size bytes ht hi hz hsize hby hzs hsz v n xs hs hown te m c news hx hl h1 h63 hbytes hbase h
theorem EO {w w4 w5 w':World}{tg AT:Nat→Nat}{a4:bV}{g:Nat}{s':aP}{L:List Int}{v':Value}{xs:List Value}(hat:At w tg g s' w4 AT a4)(ho:w'.ownsRow w.heap.size 116 6 v' 1 xs)(hf:Fr w5 w' (fun b=>(Value.slice (some ⟨w.heap.size,0,none⟩) 0 0).ownBlock=some b))(ha:v'.ownBlock=(Value.slice (some ⟨w.heap.size,0,none⟩) 0 0).ownBlock∨∃k,v'.ownBlock=some k∧w5.heap.size≤k)(hb:Below w4.heap.size w4 w5)(ht:AT w.heap.size=0)(hL:ints L=xs):
 ∃v n eZ a',Ending.returned (.tuple #[v',.int .i64 0])=.returned (.tuple #[v,.int .i64 0])∧n≤3000∧w'.ownsRow w.heap.size 116 6 v n (ints L)∧At w tg g s' w' eZ a'∧∀q,v.ownBlock=some q→eZ q=0:=by
 have h5:=hat.below hb;have hF:∀b,AT b≠0→b≠w.heap.size:=fun b hn e=>hn (by rw[e];exact ht);refine⟨v',1,AT,a4,rfl,by omega,by rw[hL];exact ho,⟨h5.g,h5.m.same (fun b hn=>hf.block b (h5.m.lt b hn) fun e=>?_) hf.size,h5.f.next hf fun b hb=>?_,h5.t⟩,fun q hq=>Decidable.byContradiction fun hn=>?_⟩
 ·injection e with e
  exact hF b hn e.symm
 ·injection hb with hb
  exact .inr (Nat.le_of_eq hb)
 ·rcases ha with h|⟨k,h,hk⟩
  ·rw[h]at hq
   injection hq with hq;exact hF q hn hq.symm
  ·rw[h]at hq
   injection hq with hq;have:=h5.m.lt q hn;omega
theorem JT {w w4 w5 w':World}{tg AT:Nat→Nat}{a4:bV}{g:Nat}{s':aP}(hat:At w tg g s' w4 AT a4)(hf:Fr w5 w' (fun b=>(Value.slice (some ⟨w.heap.size,0,none⟩) 0 0).ownBlock=some b))(hb:Below w4.heap.size w4 w5):Fr w w' (fZ tg):=(hat.below hb).f.next hf fun b hb=>by
 injection hb with hb;exact .inr (Nat.le_of_eq hb)
section
variable {tg:Nat→Nat}{a:bV}{s:aP}{D:Nat}{w:World}
theorem zP23x1 {p:Prop}(h:p:=by
 refine⟨?_,fun h=>?_,fun _=>?_⟩
 ·exact JT oY.o iB.o (Below.drewN' HXB.o 1)
 ·exact absurd FC.o.symm h
 ·exact EO oY.o d9.o iB.o (by rw[←hwz]at DP;exact DP.o) (Below.drewN' HXB.o 1) ze.o (by rw[HE.o];rfl)):p:=h
theorem Cn (bo o:Nat){k d fb fa tb ta c r:Int}{j:Nat}(H:Mem tg a s w)(hs:d8 s D)(hD:D≤1000000)(ho:kO bo o k d fb fa tb ta c r w)(cQ:tg bo=0)(hp:gZ s.W k d fb fa tb ta c r j)(h7:k≠7):
 Calls Tryz.prog 51 #[.pointer (some ⟨a.g,0,none⟩),.pointer (some ⟨bo,o,none⟩)] w (Ad w tg a.g (bJ s k d fb fa tb ta j) (eM s k d fb fa tb ta r j) (jC s k d fb fa c r)):=by
 obtain⟨i0,hi,iz,is,ib⟩:=info_parts dQ;have hg1:Below w.heap.size w (w.alloc (.cells #[] 116)):=qb;have HAT:=qh ((At.start H).below hg1);have aT:=qh (World.ownsRow_made (e:=116) (size:=6) w #[] 0 ql qm rfl);have HB1:=qh hg1;have QA:=qh ho;have ML:=qh cQ;have HS:=qh hs;have HP:=qh hp;have iO:=qh (show tg w.heap.size=0 from Decidable.byContradiction fun hn=>Nat.lt_irrefl _ (H.lt _ hn));have hf0:=hp.f0;have hf1:=hp.f1;have hw2:=hs.w2;have I0:=cY (b:=fb) hs hf0 hf1;have hbl:jA s fb fa≤8*s.W:=by
  have:=t8 hs fb fa (i:=s.W) ql;rw[qE]at this;exact this
 obtain⟨ho1,_⟩:=HAT.o.op ho cQ;have o0:=ho1.c0;have o2:=ho1.c2;have o3:=ho1.c3;have h7b:(k==7)=false:=by rw[beq_eq_false_iff_ne];exact h7
 have fW:=qh (yT fb fa HAT.o.m hs hf0 hf1);clear hg1 ho cQ hs hp H ho1
 go_enter Tryz.func51,Tryz.ntmps51
 go_wp2_with fail
 refine fW.o.mono ?_;rintro e w2 ⟨rfl,hb2⟩;have KL:=qh (HAT.o.below hb2);have aI:=qh (own_below aT.o hb2);have HB2:=HB1.st hb2;clear hb2 HAT aT HB1 fW o0 o2 o3;obtain⟨ho1,_⟩:=KL.o.op QA.o ML.o;have o0:=ho1.c0;have o2:=ho1.c2;have o3:=ho1.c3;clear ho1
 go_wp2_with fail
 refine(xX fb fa w2 KL.o.m hf0 hf1).mono ?_;rintro e w3 ⟨rfl,hb3⟩;obtain⟨Af,cf,hvf⟩:=(KL.o.m.nP (b:=fb) hf0 hf1).form;rw[hvf];have ZZ:=qh (KL.o.below hb3);have cI:=qh (own_below aI.o hb3);have HB3:=HB2.st hb3;clear hb3 hvf KL aI HB2 o0 o2 o3;obtain⟨ho3,abj⟩:=ZZ.o.op QA.o ML.o;have ZM:=qh (Iy bo o ZZ.o.m HS.o hD ho3 abj HP.o);obtain⟨code,hcode⟩:=qx (bJ s k d fb fa tb ta j);rw[←hcode]at ZM;have FC:=qh hcode;clear ho3 abj hcode
 go_wp2_with fail
 refine ZM.o.mono ?_;rintro e w4 ⟨rfl,lT,sY⟩;have EA:=qh (ZZ.o.fr lT)
 by_cases hc:code=0
 case neg=>
  have hc1:(code==0)=false:=by rw[beq_eq_false_iff_ne];exact hc
  have HC:=qh hc;clear lT sY ZM
  go_wp2_with fail
  go_ret2
  exact⟨EA.o,fun _=>⟨_,by rw[←FC.o];rfl⟩,fun h=>absurd (FC.o.trans h) HC.o⟩
 subst hc;obtain⟨AT,a4,wO,_,su⟩:=ZZ.o.next (sY rfl);have oY:=qh wO;have hz3:w.heap.size<w3.heap.size:=(cI.o.lt w.heap.size rfl).2;have oS:tg w.heap.size=0:=iO.o;have bS:=qh (show w4.ownsRow w.heap.size 116 6 (.slice (some ⟨w.heap.size,0,none⟩) 0 0) 0 []from eE cI.o fun b hb=>lT.block b (cI.o.lt b hb).2 fun hn=>by
  injection hb with hb;have hb:w.heap.size=b:=hb;rw[←hb]at hn;exact hn oS)
 have ze:=qh (show AT w.heap.size=0 from Decidable.byContradiction fun hn=>by
  rcases su _ hn with h|h
  ·exact h oS
  ·omega)
 have lD:w.heap.size≤w4.heap.size:=oY.o.f.size;clear lT sY wO su ZM ZZ cI HB3 oS;obtain⟨d6,_⟩:=oY.o.op QA.o ML.o;have o0:=d6.c0;have o1:=d6.c1;have o2:=d6.c2;have o6:=d6.c6;have Ki:Below w4.heap.size w4 (w4.alloc (.cells #[.int .i64 0,.int .i64 0,.int .i64 0,.int .i64 0,.int .i64 0,.int .i64 0] 116)):=qb;have hbz:=World.block_lt_of_cell? w4 _ o0;have p0:=aD Ki hbz o0;have p1:=aD Ki hbz o1;have p2:=aD Ki hbz o2;have p6:=aD Ki hbz o6;clear d6 Ki;obtain⟨P,hP⟩:=qx (jA s fb fa);obtain⟨M,hM⟩:=qx (aU s fb fa);have HE:=qh (show jC s k d fb fa c r=if k=7 then T.CZ s.W s.rk r s.f s.k else if k=1 then gH 2 P M fb c d else if k=2 then gH 3 ((P:Int)+M) 0 fb c d else if k=5 then gH 5 (if fb=2 then(P:Int)+M else P) M fb c d else if k=6 then gH 4 P M 0 0 0 else []by rw[hP,hM];rfl);rw[←hP]at hbl ⊢;rw[←hM]at I0 ⊢;clear hP hM
 go_wp2_with fail
 by_cases hk1:k=1
 ·subst hk1
  have HXB:=qh ((Below.refl w4.heap.size w4).alloc ql (.cells #[.int .i64 2,.int .i64 P,.int .i64 M,.int .i64 fb,.int .i64 c,.int .i64 d] 116));have Q5:=qh (own_drewN (own_below bS.o HXB.o) 1)
  go_region
  go_wp2_with (at_builtin;go_must (refine nM ((w4.alloc (.cells #[.int .i64 2,.int .i64 P,.int .i64 M,.int .i64 fb,.int .i64 c,.int .i64 d] 116)).drewN 1) rfl (.tmp 115) (.tmp 117) _ rfl w.heap.size 116 i0 _ 6 48 Tryz.underlying42 hi iz is ib rfl qo (.slice (some ⟨w.heap.size,0,none⟩) 0 0) 0 [] rfl Q5.o _ 1 1 [.int .i64 2,.int .i64 P,.int .i64 M,.int .i64 fb,.int .i64 c,.int .i64 d] (w4.heap.size+1) qj rfl rfl (by simp[Value.oneCell']) qm qo (by simp;omega) ?_);intro v' w' hown' hf' hat';have d9:=qh hown';have iB:=qh hf';have DP:=qh (show v'.ownBlock=(Value.slice (some ⟨w.heap.size,0,none⟩) 0 0).ownBlock∨∃k,v'.ownBlock=some k∧w4.heap.size+1≤k from hat'.imp id fun h=>⟨_,h,by omega⟩);clear hown' hf' hat')
  go_ret2
  have hwz:(w4.alloc (.cells #[.int .i64 2,.int .i64 P,.int .i64 M,.int .i64 fb,.int .i64 c,.int .i64 d] 116)).heap.size=w4.heap.size+1:=by simp
  exact zP23x1
 by_cases hk2:k=2
 ·subst hk2
  have HXB:=qh ((Below.refl w4.heap.size w4).alloc ql (.cells #[.int .i64 3,.int .i64 ((P:Int)+M),.int .i64 0,.int .i64 fb,.int .i64 c,.int .i64 d] 116));have Q5:=qh (own_drewN (own_below bS.o HXB.o) 1)
  go_region
  go_wp2_with (at_builtin;go_must (refine nM ((w4.alloc (.cells #[.int .i64 3,.int .i64 ((P:Int)+M),.int .i64 0,.int .i64 fb,.int .i64 c,.int .i64 d] 116)).drewN 1) rfl (.tmp 115) (.tmp 117) _ rfl w.heap.size 116 i0 _ 6 48 Tryz.underlying42 hi iz is ib rfl qo (.slice (some ⟨w.heap.size,0,none⟩) 0 0) 0 [] rfl Q5.o _ 1 1 [.int .i64 3,.int .i64 ((P:Int)+M),.int .i64 0,.int .i64 fb,.int .i64 c,.int .i64 d] (w4.heap.size+1) qj rfl rfl (by simp[Value.oneCell']) qm qo (by simp;omega) ?_);intro v' w' hown' hf' hat';have d9:=qh hown';have iB:=qh hf';have DP:=qh (show v'.ownBlock=(Value.slice (some ⟨w.heap.size,0,none⟩) 0 0).ownBlock∨∃k,v'.ownBlock=some k∧w4.heap.size+1≤k from hat'.imp id fun h=>⟨_,h,by omega⟩);clear hown' hf' hat')
  go_ret2
  have hwz:(w4.alloc (.cells #[.int .i64 3,.int .i64 ((P:Int)+M),.int .i64 0,.int .i64 fb,.int .i64 c,.int .i64 d] 116)).heap.size=w4.heap.size+1:=by simp
  exact zP23x1
 by_cases hk5:k=5
 ·subst hk5
  by_cases hb2:fb=2
  ·have hb3:(fb==2)=true:=by simp[hb2]
   have HXB:=qh ((Below.refl w4.heap.size w4).alloc ql (.cells #[.int .i64 5,.int .i64 ((P:Int)+M),.int .i64 M,.int .i64 fb,.int .i64 c,.int .i64 d] 116));have Q5:=qh (own_drewN (own_below bS.o HXB.o) 1);have HB2:=qh hb2;clear hb2
   go_region
   go_wp2_with (at_builtin;go_must (refine nM ((w4.alloc (.cells #[.int .i64 5,.int .i64 ((P:Int)+M),.int .i64 M,.int .i64 fb,.int .i64 c,.int .i64 d] 116)).drewN 1) rfl (.tmp 115) (.tmp 117) _ rfl w.heap.size 116 i0 _ 6 48 Tryz.underlying42 hi iz is ib rfl qo (.slice (some ⟨w.heap.size,0,none⟩) 0 0) 0 [] rfl Q5.o _ 1 1 [.int .i64 5,.int .i64 ((P:Int)+M),.int .i64 M,.int .i64 fb,.int .i64 c,.int .i64 d] (w4.heap.size+1) qj rfl rfl (by simp[Value.oneCell']) qm qo (by simp;omega) ?_);intro v' w' hown' hf' hat';have d9:=qh hown';have iB:=qh hf';have DP:=qh (show v'.ownBlock=(Value.slice (some ⟨w.heap.size,0,none⟩) 0 0).ownBlock∨∃k,v'.ownBlock=some k∧w4.heap.size+1≤k from hat'.imp id fun h=>⟨_,h,by omega⟩);clear hown' hf' hat')
   go_ret2
   have hwz:(w4.alloc (.cells #[.int .i64 5,.int .i64 ((P:Int)+M),.int .i64 M,.int .i64 fb,.int .i64 c,.int .i64 d] 116)).heap.size=w4.heap.size+1:=by simp
   refine⟨?_,fun h=>?_,fun _=>?_⟩
   ·exact JT oY.o iB.o (Below.drewN' HXB.o 1)
   ·exact absurd FC.o.symm h
   ·exact EO oY.o d9.o iB.o (by rw[←hwz]at DP;exact DP.o) (Below.drewN' HXB.o 1) ze.o (by rw[HE.o];simp[gH,ints,HB2.o])
  ·have hb3:(fb==2)=false:=by rw[beq_eq_false_iff_ne];exact hb2
   have HXB:=qh ((Below.refl w4.heap.size w4).alloc ql (.cells #[.int .i64 5,.int .i64 P,.int .i64 M,.int .i64 fb,.int .i64 c,.int .i64 d] 116));have Q5:=qh (own_drewN (own_below bS.o HXB.o) 1)
   go_region
   go_wp2_with (at_builtin;go_must (refine nM ((w4.alloc (.cells #[.int .i64 5,.int .i64 P,.int .i64 M,.int .i64 fb,.int .i64 c,.int .i64 d] 116)).drewN 1) rfl (.tmp 115) (.tmp 117) _ rfl w.heap.size 116 i0 _ 6 48 Tryz.underlying42 hi iz is ib rfl qo (.slice (some ⟨w.heap.size,0,none⟩) 0 0) 0 [] rfl Q5.o _ 1 1 [.int .i64 5,.int .i64 P,.int .i64 M,.int .i64 fb,.int .i64 c,.int .i64 d] (w4.heap.size+1) qj rfl rfl (by simp[Value.oneCell']) qm qo (by simp;omega) ?_);intro v' w' hown' hf' hat';have d9:=qh hown';have iB:=qh hf';have DP:=qh (show v'.ownBlock=(Value.slice (some ⟨w.heap.size,0,none⟩) 0 0).ownBlock∨∃k,v'.ownBlock=some k∧w4.heap.size+1≤k from hat'.imp id fun h=>⟨_,h,by omega⟩);clear hown' hf' hat')
   go_ret2
   have hwz:(w4.alloc (.cells #[.int .i64 5,.int .i64 P,.int .i64 M,.int .i64 fb,.int .i64 c,.int .i64 d] 116)).heap.size=w4.heap.size+1:=by simp
   refine⟨?_,fun h=>?_,fun _=>?_⟩
   ·exact JT oY.o iB.o (Below.drewN' HXB.o 1)
   ·exact absurd FC.o.symm h
   ·exact EO oY.o d9.o iB.o (by rw[←hwz]at DP;exact DP.o) (Below.drewN' HXB.o 1) ze.o (by rw[HE.o];simp[gH,ints,hb2])
 by_cases M7:k=6
 ·subst M7
  have HXB:=qh ((Below.refl w4.heap.size w4).alloc ql (.cells #[.int .i64 4,.int .i64 P,.int .i64 M,.int .i64 0,.int .i64 0,.int .i64 0] 116));have Q5:=qh (own_drewN (own_below bS.o HXB.o) 1)
  go_region
  go_wp2_with (at_builtin;go_must (refine nM ((w4.alloc (.cells #[.int .i64 4,.int .i64 P,.int .i64 M,.int .i64 0,.int .i64 0,.int .i64 0] 116)).drewN 1) rfl (.tmp 115) (.tmp 117) _ rfl w.heap.size 116 i0 _ 6 48 Tryz.underlying42 hi iz is ib rfl qo (.slice (some ⟨w.heap.size,0,none⟩) 0 0) 0 [] rfl Q5.o _ 1 1 [.int .i64 4,.int .i64 P,.int .i64 M,.int .i64 0,.int .i64 0,.int .i64 0] (w4.heap.size+1) qj rfl rfl (by simp[Value.oneCell']) qm qo (by simp;omega) ?_);intro v' w' hown' hf' hat';have d9:=qh hown';have iB:=qh hf';have DP:=qh (show v'.ownBlock=(Value.slice (some ⟨w.heap.size,0,none⟩) 0 0).ownBlock∨∃k,v'.ownBlock=some k∧w4.heap.size+1≤k from hat'.imp id fun h=>⟨_,h,by omega⟩);clear hown' hf' hat')
  go_ret2
  have hwz:(w4.alloc (.cells #[.int .i64 4,.int .i64 P,.int .i64 M,.int .i64 0,.int .i64 0,.int .i64 0] 116)).heap.size=w4.heap.size+1:=by simp
  exact zP23x1
 have e1:(k==1)=false:=by rw[beq_eq_false_iff_ne];exact hk1
 have e2:(k==2)=false:=by rw[beq_eq_false_iff_ne];exact hk2
 have e5:(k==5)=false:=by rw[beq_eq_false_iff_ne];exact hk5
 have e6:(k==6)=false:=by rw[beq_eq_false_iff_ne];exact M7
 have tG:=qh (HE.o.trans (show _=([]:List Int)by rw[if_neg h7,if_neg hk1,if_neg hk2,if_neg hk5,if_neg M7]))
 go_region
 go_wp2_with fail
 go_ret2
 have HXB:=Below.drewN' ((Below.refl w4.heap.size w4).alloc ql (.cells #[.int .i64 0,.int .i64 P,.int .i64 0,.int .i64 fb,.int .i64 c,.int .i64 d] 116)) 1;refine⟨?_,fun h=>?_,fun _=>?_⟩
 ·exact EA.o.fM (HXB.mono lD)
 ·exact absurd FC.o.symm h
 ·refine⟨_,0,AT,a4,rfl,by omega,by rw[tG.o];exact own_below bS.o HXB,oY.o.below HXB,fun q hq=>?_⟩
  injection hq with hq;have hq:w.heap.size=q:=hq;rw[←hq];exact ze.o
end
def tP (w:World)(g:Nat):Int:=match w.cell? ⟨g,1,none⟩with
 |some (.int _ x)=>x
 |_=>0
theorem pT {tg:Nat→Nat}{a:bV}{s:aP}{w:World}(h:Mem tg a s w):tP w a.g=s.rk:=by
 have m1:w.cell? ⟨a.g,1,none⟩=some (.int .i64 s.rk):=h.m.cell 1;unfold tP;rw[m1]
theorem d8.Cb {s:aP}{D:Nat}(h:d8 s D){r:Int}(h1: -3≤r)(h2:r≤3):d8 {s with rk:=r} D:=⟨h.w1,h.w2,h1,h2,h.fb,h.kb,h.ca,h.nb,h.db⟩
theorem Fr.sP {w w':World}{F:Nat→Prop}(h:Fr w w' F)(n:Nat):Fr w (w'.drewN n) F:=h.fM (Below.drewN' ((Below.refl w'.heap.size w').mono h.size) n)
theorem Y2 {w w':World}{tg:Nat→Nat}{a:bV}{s s':aP}{L:List Int}{v:Value}{n:Nat}(H:Mem tg a s w)(hm:Mem tg a s' w')(hf:Fr w w' (fun b=>b=a.g))(ho:w'.ownsRow w.heap.size 116 6 v n (ints L))(hn:n≤3000):Ad w tg a.g 0 s' L (.returned (.tuple #[v,.int .i64 0])) w':=by
 have hF:Fr w w' (fZ tg):=(Fr.refl w _).next hf fun b hb=>.inl (by
  subst hb;unfold fZ;rw[H.tm];omega)
 exact⟨hF,fun h=>absurd rfl h,fun _=>⟨v,n,tg,a,rfl,hn,ho,⟨rfl,hm,hF,fun _ h=>.inl h⟩,fun q hq=>Decidable.byContradiction fun hne=>by
  have h1:=H.lt q hne;have h2:=(ho.lt q hq).1;omega⟩⟩
section
variable {tg:Nat→Nat}{a:bV}{s:aP}{D:Nat}{w:World}
theorem iq (bo o:Nat){d fb fa tb ta c r:Int}{j:Nat}(H:Mem tg a s w)(hs:d8 s D)(ho:kO bo o 7 d fb fa tb ta c r w)(cQ:tg bo=0)(hp:gZ s.W 7 d fb fa tb ta c r j)(hr:s.rk≤r):
 Calls Tryz.prog 51 #[.pointer (some ⟨a.g,0,none⟩),.pointer (some ⟨bo,o,none⟩)] w (Ad w tg a.g (bJ s 7 d fb fa tb ta j) (eM s 7 d fb fa tb ta r j) (jC s 7 d fb fa c r)):=by
 obtain⟨i0,hi,iz,is,ib⟩:=info_parts dQ;have hg1:Below w.heap.size w (w.alloc (.cells #[] 116)):=qb;have HM:=qh H;have HO:=qh (World.ownsRow_made (e:=116) (size:=6) w #[] 0 ql qm rfl);have fD:=qh (H.below hg1);have iC:=qh (Fr.of_below hg1 (fun b=>b=a.g));have QA:=qh ho;have HS:=qh hs;have hag:a.g<w.heap.size:=H.m.lt;have HNG:=qh (show bo≠a.g from fun e=>by
  rw[e,H.tm]at cQ;omega)
 have iD:=qh (World.block_lt_of_cell? w _ ho.c0);have q1:=hp.r0;have q2:=hp.r1;have p1:=hs.r1;have p2:=hs.r2;have GN:=qh (fun(wr:World) (hf:Fr w wr (fun b=>b=a.g))=>(gN _ _ _ _ _ _ _ _ _ _).1 _ wr QA.o fun q hq=>by
  subst hq;exact hf.block _ iD.o HNG.o)
 have C9:=qh (fun i=>show T.rZ s.W s.rk s.f s.k (i+1)=T.rZ s.W s.rk s.f s.k i++T.i6 s.W (s.rk+(i:Int)) (1) s.f s.k s.W from rfl);have HZ:=qh (show T.rZ s.W s.rk s.f s.k 0=[]from rfl);have HE:=qh (show jC s 7 d fb fa c r=T.rZ s.W s.rk s.f s.k (r-s.rk).toNat from by
  unfold jC T.CZ;rw[if_pos rfl,if_pos hr])
 have HC:=qh (show bJ s 7 d fb fa tb ta j=0 from by simp[bJ]);have HD:=qh (show eM s 7 d fb fa tb ta r j={s with rk:=r}from by simp[eM]);have hce:=GN.o _ iC.o;have o0:=hce.c0;clear hce;clear hg1 ho cQ hs hp H
 go_enter Tryz.func51,Tryz.ntmps51
 go_wp2_with fail
 go_loopw [6] (fun v wr=>∃i N:Nat,(i:Int)≤(r-s.rk)∧N≤400*i∧Hq (wr.ownsRow w.heap.size 116 6 v N (ints (T.rZ s.W s.rk s.f s.k i)))∧Hq (Mem tg a {s with rk:=s.rk+(i:Int)} wr)∧Hq (Fr w wr (fun b=>b=a.g))) (fun _ wr=>(r-tP wr a.g).toNat)
 case atStart=>exact⟨0,0,by omega,by omega,qh (by rw[HZ.o];exact HO.o),qh (by rw[show s.rk+((0:Nat):Int)=s.rk from by omega];exact fD.o),iC⟩
 case round=>
  clear HO fD iC;obtain⟨i,N,hiT,hN,jX,lG,yP⟩:=hrel;have hce:=GN.o wr yP.o;have o7:=hce.c7;clear hce;have m1:wr.cell? ⟨a.g,1,none⟩=some (.int .i64 (s.rk+(i:Int))):=lG.o.m.cell 1;have hmz:=pT lG.o;have hmz:tP wr a.g=s.rk+(i:Int):=hmz
  by_cases hlt:(i:Int)<(r-s.rk)
  ·have b1:s.rk+(i:Int)<r:=qo
   have cB:=qh (C9.o i);have rE:=qh (HS.o.Cb (r:=s.rk+(i:Int)) qo qo)
   go_wp2_with fail
   go_quiet (fail)
   rename_i nq
   have dA:=qh (lG.o.drewN nq);have aI:=qh (own_drewN jX.o nq);have dB:=qh (yP.o.sP nq);have nT:=UD (D:=D) dA.o rE.o (by show-3≤s.rk+(i:Int)+1∧s.rk+(i:Int)+1≤3;omega);have zJ:=qh nT;clear nT jX lG yP rE m1 o7
   go_wp2_with fail
   refine zJ.o.mono ?_;rintro e w4 ⟨v4,n4,rfl,oF,d6,sY,lT⟩;clear zJ;obtain⟨A4,c4,rfl⟩:=aE d6;have hle:w.heap.size≤(wr.drewN nq).heap.size:=dB.o.size;have bS:=qh (eE aI.o fun b hb=>lT.block b (aI.o.lt b hb).2 fun e=>by
    have h:=(aI.o.lt b hb).1;omega)
   have HR4:=qh (rU d6);have qJ:=qh (show(T.i6 s.W (s.rk+(i:Int)) (1) s.f s.k s.W).length=n4*6 from by have:=d6.1;simpa [ints]using this);have fV:=qh sY;have oB:=qh (show Fr w w4 (fun b=>b=a.g)from dB.o.next lT fun b hb=>.inl hb);clear d6 sY lT aI dA dB;have lD:w.heap.size≤w4.heap.size:=oB.o.size
   go_wp2_with (at_builtin;go_must (refine cO w4 rfl (.tmp 26) (.tmp 28) _ rfl w.heap.size 116 i0 _ 6 48 Tryz.underlying42 hi iz is ib rfl qo u6 N _ rfl bS.o A4 n4 c4 _ rfl HR4.o (fun j=>rfl) qm qo lD ?_);intro v' w' hown' hfr;have d9:=qh hown';have bG:=qh hfr;clear hown' hfr)
   have nG:=qh (fV.o.same (fun b hb=>bG.o.block b (fV.o.lt b hb) fun e=>by
    have h:=(bS.o.lt b e).1;have h2:=HM.o.lt b hb;omega) bG.o.size)
   have iB:=qh (show Fr w w' (fun b=>b=a.g)from oB.o.next bG.o fun b hb=>.inr (bS.o.lt b hb).1)
   go_roundw
   case rel=>exact⟨i+1,N+n4,by omega,by omega,qh (by
    have h:=d9.o;rw[mL _ _ qJ.o,←aL]at h;rw[cB.o];exact h),qh (by rw[show s.rk+((i+1:Nat):Int)=s.rk+(i:Int)+1 from by omega];exact nG.o),iB⟩
   case measure=>
    have h:tP w' a.g=s.rk+(i:Int)+1:=pT nG.o;rw[h];show _<(r-tP wr a.g).toNat;rw[hmz];omega
  ·have b1:¬(s.rk+(i:Int)<r):=qo
   have HT:=qh (show i=(r-s.rk).toNat from by omega);have HX:=qh (show s.rk+(i:Int)=r from by omega);rw[HX.o]at lG m1
   go_wp2_with fail
   go_quiet (fail)
   rename_i nq
   have dA:=qh (lG.o.drewN nq);have aI:=qh (own_drewN jX.o nq);have dB:=qh (yP.o.sP nq)
   go_wp2_with fail
   go_loopw [6] (fun v wr=>∃N:Nat,N≤2400∧Hq (wr.ownsRow w.heap.size 116 6 v N (ints (T.rZ s.W s.rk s.f s.k (r-s.rk).toNat)))∧Hq (Mem tg a {s with rk:=r} wr)∧Hq (Fr w wr (fun b=>b=a.g))) (fun _ _=>0)
   case atStart=>exact⟨N,by omega,qh (by rw[←HT.o];exact aI.o),dA,dB⟩
   case round=>
    clear aI dA dB;obtain⟨N,hN,jX,lG,yP⟩:=hrel;have hce:=GN.o wr yP.o;have o7:=hce.c7;clear hce;have m1:wr.cell? ⟨a.g,1,none⟩=some (.int .i64 r):=lG.o.m.cell 1;have b1:¬(r<r):=qo
    go_wp2_with fail
    go_quiet (fail)
    rename_i nq
    have dA:=qh (lG.o.drewN nq);have aI:=qh (own_drewN jX.o nq);have dB:=qh (yP.o.sP nq);clear jX lG yP m1 o7
    go_wp2_with fail
    go_ret2
    rw[HC.o,HD.o,HE.o];exact Y2 HM.o dA.o dB.o aI.o qo
theorem iw (bo o:Nat){d fb fa tb ta c r:Int}{j:Nat}(H:Mem tg a s w)(hs:d8 s D)(ho:kO bo o 7 d fb fa tb ta c r w)(cQ:tg bo=0)(hp:gZ s.W 7 d fb fa tb ta c r j)(hr:r<s.rk):
 Calls Tryz.prog 51 #[.pointer (some ⟨a.g,0,none⟩),.pointer (some ⟨bo,o,none⟩)] w (Ad w tg a.g (bJ s 7 d fb fa tb ta j) (eM s 7 d fb fa tb ta r j) (jC s 7 d fb fa c r)):=by
 obtain⟨i0,hi,iz,is,ib⟩:=info_parts dQ;have hg1:Below w.heap.size w (w.alloc (.cells #[] 116)):=qb;have HM:=qh H;have HO:=qh (World.ownsRow_made (e:=116) (size:=6) w #[] 0 ql qm rfl);have fD:=qh (H.below hg1);have iC:=qh (Fr.of_below hg1 (fun b=>b=a.g));have QA:=qh ho;have HS:=qh hs;have hag:a.g<w.heap.size:=H.m.lt;have HNG:=qh (show bo≠a.g from fun e=>by
  rw[e,H.tm]at cQ;omega)
 have iD:=qh (World.block_lt_of_cell? w _ ho.c0);have q1:=hp.r0;have q2:=hp.r1;have p1:=hs.r1;have p2:=hs.r2;have GN:=qh (fun(wr:World) (hf:Fr w wr (fun b=>b=a.g))=>(gN _ _ _ _ _ _ _ _ _ _).1 _ wr QA.o fun q hq=>by
  subst hq;exact hf.block _ iD.o HNG.o)
 have C9:=qh (fun i=>show T.tQ s.W s.rk s.f s.k (i+1)=T.tQ s.W s.rk s.f s.k i++T.i6 s.W (s.rk-(i:Int)) (-1) s.f s.k s.W from rfl);have HZ:=qh (show T.tQ s.W s.rk s.f s.k 0=[]from rfl);have HE:=qh (show jC s 7 d fb fa c r=T.tQ s.W s.rk s.f s.k (s.rk-r).toNat from by
  unfold jC T.CZ;rw[if_pos rfl,if_neg qo])
 have HC:=qh (show bJ s 7 d fb fa tb ta j=0 from by simp[bJ]);have HD:=qh (show eM s 7 d fb fa tb ta r j={s with rk:=r}from by simp[eM]);have hce:=GN.o _ iC.o;have o0:=hce.c0;clear hce;clear hg1 ho cQ hs hp H
 go_enter Tryz.func51,Tryz.ntmps51
 go_wp2_with fail
 go_loopw [6] (fun v wr=>∃N:Nat,N≤0∧Hq (wr.ownsRow w.heap.size 116 6 v N (ints []))∧Hq (Mem tg a {s with rk:=s.rk} wr)∧Hq (Fr w wr (fun b=>b=a.g))) (fun _ _=>0)
 case atStart=>exact⟨0,by omega,HO,fD,iC⟩
 case round=>
  clear HO fD iC;obtain⟨N,hN,jX,lG,yP⟩:=hrel;have hce:=GN.o wr yP.o;have o7:=hce.c7;clear hce;have m1:wr.cell? ⟨a.g,1,none⟩=some (.int .i64 s.rk):=lG.o.m.cell 1;have b1:¬(s.rk<r):=qo
  go_wp2_with fail
  go_quiet (fail)
  rename_i nq
  have dA:=qh (lG.o.drewN nq);have aI:=qh (own_drewN jX.o nq);have dB:=qh (yP.o.sP nq);clear jX lG yP m1 o7
  go_wp2_with fail
  obtain rfl:N=0:=qo
  go_loopw [6] (fun v wr=>∃i N:Nat,(i:Int)≤(s.rk-r)∧N≤400*i∧Hq (wr.ownsRow w.heap.size 116 6 v N (ints (T.tQ s.W s.rk s.f s.k i)))∧Hq (Mem tg a {s with rk:=s.rk-(i:Int)} wr)∧Hq (Fr w wr (fun b=>b=a.g))) (fun _ wr=>(tP wr a.g-r).toNat)
  case atStart=>exact⟨0,0,by omega,by omega,qh (by rw[HZ.o];exact aI.o),qh (by rw[show s.rk-((0:Nat):Int)=s.rk from by omega];exact dA.o),dB⟩
  case round=>
   clear aI dA dB;obtain⟨i,N,hiT,hN,jX,lG,yP⟩:=hrel;have hce:=GN.o wr yP.o;have o7:=hce.c7;clear hce;have m1:wr.cell? ⟨a.g,1,none⟩=some (.int .i64 (s.rk-(i:Int))):=lG.o.m.cell 1;have hmz:=pT lG.o;have hmz:tP wr a.g=s.rk-(i:Int):=hmz
   by_cases hlt:(i:Int)<(s.rk-r)
   ·have b1:r<s.rk-(i:Int):=qo
    have cB:=qh (C9.o i);have rE:=qh (HS.o.Cb (r:=s.rk-(i:Int)) qo qo)
    go_wp2_with fail
    go_quiet (fail)
    rename_i nq
    have dA:=qh (lG.o.drewN nq);have aI:=qh (own_drewN jX.o nq);have dB:=qh (yP.o.sP nq);have nT:=UE (D:=D) dA.o rE.o (by show-3≤s.rk-(i:Int)+ -1∧s.rk-(i:Int)+ -1≤3;omega);have zJ:=qh nT;clear nT jX lG yP rE m1 o7
    go_wp2_with fail
    refine zJ.o.mono ?_;rintro e w4 ⟨v4,n4,rfl,oF,d6,sY,lT⟩;clear zJ;obtain⟨A4,c4,rfl⟩:=aE d6;have hle:w.heap.size≤(wr.drewN nq).heap.size:=dB.o.size;have bS:=qh (eE aI.o fun b hb=>lT.block b (aI.o.lt b hb).2 fun e=>by
     have h:=(aI.o.lt b hb).1;omega)
    have HR4:=qh (rU d6);have qJ:=qh (show(T.i6 s.W (s.rk-(i:Int)) (-1) s.f s.k s.W).length=n4*6 from by have:=d6.1;simpa [ints]using this);have fV:=qh sY;have oB:=qh (show Fr w w4 (fun b=>b=a.g)from dB.o.next lT fun b hb=>.inl hb);clear d6 sY lT aI dA dB;have lD:w.heap.size≤w4.heap.size:=oB.o.size
    go_wp2_with (at_builtin;go_must (refine cO w4 rfl (.tmp 39) (.tmp 41) _ rfl w.heap.size 116 i0 _ 6 48 Tryz.underlying42 hi iz is ib rfl qo u6 N _ rfl bS.o A4 n4 c4 _ rfl HR4.o (fun j=>rfl) qm qo lD ?_);intro v' w' hown' hfr;have d9:=qh hown';have bG:=qh hfr;clear hown' hfr)
    have nG:=qh (fV.o.same (fun b hb=>bG.o.block b (fV.o.lt b hb) fun e=>by
     have h:=(bS.o.lt b e).1;have h2:=HM.o.lt b hb;omega) bG.o.size)
    have iB:=qh (show Fr w w' (fun b=>b=a.g)from oB.o.next bG.o fun b hb=>.inr (bS.o.lt b hb).1)
    go_roundw
    case rel=>exact⟨i+1,N+n4,by omega,by omega,qh (by
     have h:=d9.o;rw[mL _ _ qJ.o,←aL]at h;rw[cB.o];exact h),qh (by rw[show s.rk-((i+1:Nat):Int)=s.rk-(i:Int)+ -1 from by omega];exact nG.o),iB⟩
    case measure=>
     have h:tP w' a.g=s.rk-(i:Int)+ -1:=pT nG.o;rw[h];show _<(tP wr a.g-r).toNat;rw[hmz];omega
   ·have b1:¬(r<s.rk-(i:Int)):=qo
    have HT:=qh (show i=(s.rk-r).toNat from by omega);have HX:=qh (show s.rk-(i:Int)=r from by omega);rw[HX.o]at lG m1
    go_wp2_with fail
    go_quiet (fail)
    rename_i nq
    have dA:=qh (lG.o.drewN nq);have aI:=qh (own_drewN jX.o nq);have dB:=qh (yP.o.sP nq)
    go_wp2_with fail
    go_ret2
    rw[HC.o,HD.o,HE.o,←HT.o];exact Y2 HM.o dA.o dB.o aI.o qo
end
end Go.Proofs.YtimlpmbabbbcaaaGreat
