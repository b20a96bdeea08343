/- Walks and plain lemmas. -/
import Derived.Test.YtdnmhhohcedjbaaGreatQ02
import Derived.Test.YtdnmhhohcedjbaaGreatQ03
import Derived.BigQuiet
import Derived.Deep.RegionHeld3
set_option linter.unusedVariables false
set_option linter.unusedSimpArgs false
set_option maxHeartbeats 1000000
set_option maxRecDepth 20000
namespace Go.Proofs.YtdnmhhohcedjbaaGreat
open Go.RowKit
def afa (k p c b y d n:Int):Prop:=
 0≤p∧((k=1∧p≤n-2∧(c=1∨c= -1)∧b=0∧y=0∧d=0)∨
  (k=2∧0≤c∧c≤4∧p≤n-c∧(b=1∨b=2)∧1≤y∧y≤4∧(d=1∨d= -1))∨
  (k=3∧c=0∧p≤n∧(b=1∨b=2)∧1≤y∧y≤4∧(d=1∨d= -1))∨
  (k=4∧1≤c∧c≤4∧p≤n-c∧b=0∧y=0∧d=0)∨
  (k=5∧1≤c∧c≤4∧1≤y∧y≤4∧(d=1∨d= -1)∧((b=1∧p≤n-c)∨(b=2∧c≤p∧p≤n))))
instance (k p c b y d n:Int):Decidable (afa k p c b y d n):=by unfold afa;infer_instance
def bD (k c n:Int):Int:=if k=2 then n-c+1 else if k=3∨k=5 then n+1 else if k=4 then n-c else n
def kA (d:Int):Bool:=decide (d=1∨d= -1)
def jP (b y d:Int):Bool:=aK b 1 2&&aK y 1 4&&kA d
theorem OE {n lo hi:Int}(h:aK n lo hi=true):lo≤n∧n≤hi:=by simpa [aK]using h
theorem adL (b:Int):(b==1||b==2)=aK b 1 2:=by
 rw[Bool.eq_iff_iff]
 simp[aK]
 omega
theorem Nl (d:Int):(d==1||d== -1)=kA d:=by
 rw[Bool.eq_iff_iff]
 simp[kA]
theorem lW (b:Int)(w:World):Calls Tryz.prog 133 #[.int .i64 b] w fun e w'=>e=.returned (.bool (aK b 1 2))∧w=w':=by
 go_enter Tryz.func133,Tryz.ntmps133
 go_wp2_with ((go_at_call 31;refine(dK _ _ _ _).mono ?_;rintro e w' ⟨rfl,rfl⟩))
 go_ret
 exact⟨rfl,rfl⟩
theorem Kz (b:Int)(w:World):Calls Tryz.prog 168 #[.int .i64 b] w fun e w'=>e=.returned (.bool (aK b 1 2))∧w=w':=by
 go_enter Tryz.func168,Tryz.ntmps168
 go_wp2
 all_goals go_ret
 ·obtain rfl:b=1:=by assumption
  exact⟨rfl,rfl⟩
 ·exact⟨qr (adL b),rfl⟩
theorem zQ07x0 {p:Prop}(h:p:=by
 go_wp2
 all_goals go_ret
 ·obtain rfl:d=1:=by assumption
  exact⟨rfl,rfl⟩
 ·exact⟨qr (Nl d),rfl⟩):p:=h
theorem jZ (d:Int)(w:World):Calls Tryz.prog 111 #[.int .i64 d] w fun e w'=>e=.returned (.bool (kA d))∧w=w':=by
 go_enter Tryz.func111,Tryz.ntmps111
 exact zQ07x0
theorem pB (d:Int)(w:World):Calls Tryz.prog 150 #[.int .i64 d] w fun e w'=>e=.returned (.bool (kA d))∧w=w':=by
 go_enter Tryz.func150,Tryz.ntmps150
 exact zQ07x0
theorem aae (k p c b y d:Int)(w:World):
 Calls Tryz.prog 136 #[.agg #[.int .i64 k,.int .i64 p,.int .i64 c,.int .i64 b,.int .i64 y,.int .i64 d]] w fun e w'=>e=.returned (.bool (jP b y d))∧Below w.heap.size w w':=by
 go_enter Tryz.func136,Tryz.ntmps136
 go_wp2_with (first|(go_at_call 168;refine(Kz _ _).mono ?_;rintro e w' ⟨rfl,rfl⟩)|(go_at_call 152;refine(jT _ _).mono ?_;rintro e w' ⟨rfl,rfl⟩)|(go_at_call 150;refine(pB _ _).mono ?_;rintro e w' ⟨rfl,rfl⟩))
 all_goals go_ret
 all_goals exact⟨by simp[jP, *],qb⟩
theorem CC (k p c b y d n:Int)(w:World)(hn:0≤n∧n≤1000000)(hc: -1000000≤c∧c≤1000000):
 Calls Tryz.prog 78 #[.agg #[.int .i64 k,.int .i64 p,.int .i64 c,.int .i64 b,.int .i64 y,.int .i64 d],.int .i64 n] w fun e w'=>e=.returned (.int .i64 (bD k c n))∧Below w.heap.size w w':=by
 go_enter Tryz.func78,Tryz.ntmps78
 go_wp2
 all_goals go_ret
 all_goals exact⟨by simp_all [bD],qb⟩
end Go.Proofs.YtdnmhhohcedjbaaGreat
namespace Go.Proofs.YtdnmhhohcedjbaaGreat
open Go
section
variable {P:Program}{Q:Exit→Act→World→Prop}{md:Region.Mode}
def d8 (P:Program)(st:Oper)(Q:Exit→Act→World→Prop):Exit→Act→World→Prop
 |.normal,a,w=>st.wp P a w (fun a' w'=>Q .normal a' w') Q
 |e,a,w=>Q e a w
theorem d8.of {st:Oper}{a:Act}{w:World}(h:st.wp P a w (fun a' w'=>Q .normal a' w') Q):d8 P st Q .normal a w:=h
theorem Km {st:Oper}(h:LetsOut (d8 P st Q)):LetsOut Q:=h
theorem Ja {o st:Oper}{a:Act}{w:World}{K:Act→World→Prop}(h:o.wp P a w K (d8 P st Q)):o.wp P a w K Q:=by
 unfold Oper.wp at*;generalize (execOp a.eval o).run P w=r at*
 cases r with
 |ok n w'=>
  cases n with
  |enter f args=>
   refine Calls.mono h fun e w'' he=>?_
   cases e<;>exact he
  |_=>exact h
 |halt x w'=>
  cases x<;>exact h
theorem sS {l:Array Bool}{i:Nat}:l.getD i true=false↔l[i]?=some false:=by
 rw[Array.getD_eq_getD_getElem?]
 cases h:l[i]? with
 |none=>simp
 |some b=>cases b<;>simp
theorem wQ {l:Array Bool}{i:Nat}:l.getD i false=true↔l[i]?=some true:=by
 rw[Array.getD_eq_getD_getElem?]
 cases h:l[i]? with
 |none=>simp
 |some b=>cases b<;>simp
theorem yU (l:Array Bool)(i j:Nat):(l.setIfInBounds i true)[j]?=if i=j then(l[j]?).map (fun _=>true)else l[j]?:=by
 rw[Array.getElem?_setIfInBounds]
 by_cases h:i=j
 ·subst h
  rw[if_pos rfl,if_pos rfl]
  by_cases h:i<l.size
  ·rw[if_pos h,Array.getElem?_eq_getElem h];rfl
  ·rw[if_neg h,Array.getElem?_eq_none qo];rfl
 ·rw[if_neg h,if_neg h]
def Closed (md:Region.Mode)(ops:Array Oper)(l:Array Bool):Prop:=∀(j:Nat) (o:Oper),ops[j]?=some o→l[j]?=some true→∀e∈o.after,Region.binds md e=true→l[e.on]?=some true
structure UZ (md:Region.Mode)(ops ops':Array Oper)(st:Oper)(k:Nat):Prop where
 z:ops.size=k+1
 z':ops'.size=k
 old:∀i,i<k→ops[i]?=ops'[i]?
 last:ops[k]?=some st
 g:∀(i:Nat) (o:Oper),ops[i]?=some o→o.guard=none
 up:∀i,i<k→∃(j:Nat) (o:Oper),i<j∧ops[j]?=some o∧∃e∈o.after,Region.binds md e=true∧e.on=i
 dn:∀(j:Nat) (o:Oper),ops[j]?=some o→∀e∈o.after,Region.binds md e=true→e.on<j
variable {ops ops':Array Oper}{st:Oper}{k:Nat}
theorem afP (L:UZ md ops ops' st k){l':Array Bool}(hz':l'.size=k)(hr:Region.ready md ops' l'=[]):∀i,i<k→l'[i]?=some true:=fun i=>by
 induction i using Nat.strongRecOn with
 |_ i ih=>
  intro hi;obtain⟨b,hb⟩:∃b,l'[i]?=some b:=⟨_,Array.getElem?_eq_getElem qo⟩
  cases b with
  |true=>exact hb
  |false=>
   obtain⟨o,ho⟩:∃o,ops'[i]?=some o:=⟨_,Array.getElem?_eq_getElem (by have:=L.z';omega)⟩;have hm:i∈Region.ready md ops' l':=mem_ready.2 ⟨sS.2 hb,o,ho,fun e he hbd=>wQ.2 (by
    have hlt:=L.dn i o ((L.old i hi).trans ho) e he hbd;exact ih _ hlt qo)⟩
   rw[hr]at hm
   cases hm
theorem ahZ (L:UZ md ops ops' st k){l:Array Bool}(hc:Closed md ops l)(hd:∀e∈st.after,Region.binds md e=true→l[e.on]?=some true):∀q i,i+q=k→i<k→l[i]?=some true:=fun q=>by
 induction q using Nat.strongRecOn with
 |_ q ih=>
  intro i hq hi;obtain⟨j,o,hij,ho,e,he,hb,rfl⟩:=L.up i hi;have hj:j<k+1:=by rw[←L.z];exact(Array.getElem?_eq_some_iff.1 ho).1
  by_cases hjk:j=k
  ·subst hjk
   rw[L.last]at ho
   cases ho
   exact hd e he hb
  ·exact hc j o ho (ih (k-j) qo j qo qo) e he hb
theorem Rt (L:UZ md ops ops' st k):∀(fuel:Nat) (l l':Array Bool) (a:Act) (w:World),l.size=k+1→l'.size=k→(∀i,i<k→l[i]?=l'[i]?)→l[k]?=some false→Closed md ops l→
 wpAny P md ops' (d8 P st Q) fuel l' a w→wpAny P md ops Q (fuel+1) l a w:=by
 have fin:∀(fuel:Nat) (l l':Array Bool) (a:Act) (w:World),l.size=k+1→l'.size=k→(∀i,i<k→l[i]?=l'[i]?)→l[k]?=some false→Region.ready md ops' l'=[]→d8 P st Q .normal a w→wpAny P md ops Q (fuel+1) l a w:=by
  intro fuel l l' a w hz hz' hl hk hr hq;have hall:=afP L hz' hr;have hkr:k∈Region.ready md ops l:=mem_ready.2 ⟨sS.2 hk,st,L.last,fun e he hb=>wQ.2 (by
   have hlt:=L.dn k st L.last e he hb;rw[hl _ hlt];exact hall _ hlt)⟩
  refine⟨fun h=>(by rw[h]at hkr;cases hkr),fun i hi=>?_⟩;obtain⟨hi0,o,ho,_⟩:=mem_ready.1 hi;have hik:i=k:=by
   have hlt:i<k+1:=by rw[←L.z];exact(Array.getElem?_eq_some_iff.1 ho).1
   rcases Nat.lt_or_ge i k with h|h
   ·have h2:=hall i h
    rw[←hl i h,sS.1 hi0]at h2
    cases h2
   ·omega
  subst hik;have hno:Region.ready md ops (l.setIfInBounds i true)=[]:=by
   refine List.eq_nil_iff_forall_not_mem.2 fun j hj=>?_;obtain⟨hj0,o',ho',_⟩:=mem_ready.1 hj;have hlt:j<i+1:=by rw[←L.z];exact(Array.getElem?_eq_some_iff.1 ho').1
   have hj1:=sS.1 hj0;rw[yU]at hj1
   by_cases hji:i=j
   ·subst hji
    rw[if_pos rfl,hk]at hj1
    cases hj1
   ·rw[if_neg hji,hl j qo,hall j qo]at hj1
    cases hj1
  unfold wpOp;rw[L.last];have hw:Region.wanted st (yielded ops a.tmps)=true:=by simp[Region.wanted,L.g i st L.last]
  simp only[hw,if_true]
  exact .inl (Oper.wp_mono (fun a' w' h=>wpAny_done hno h _) hq)
 intro fuel
 induction fuel with
 |zero=>exact fun l l' a w hz hz' hl hk _ h=>fin 0 l l' a w hz hz' hl hk h.1 h.2
 |succ n ih=>
  intro l l' a w hz hz' hl hk hc h
  by_cases hr:Region.ready md ops' l'=[]
  ·exact fin (n+1) l l' a w hz hz' hl hk hr (h.1 hr)
  ·obtain⟨q,hq⟩:=List.exists_mem_of_ne_nil _ hr
   obtain⟨hq0,oq,hoq,SR⟩:=mem_ready.1 hq;have hqk:q<k:=by rw[←L.z'];exact(Array.getElem?_eq_some_iff.1 hoq).1
   have hqr:q∈Region.ready md ops l:=mem_ready.2 ⟨sS.2 ((hl q hqk).trans (sS.1 hq0)),oq,(L.old q hqk).trans hoq,fun e he hb=>wQ.2 ((hl _ (by have:=L.dn q oq ((L.old q hqk).trans hoq) e he hb;omega)).trans (wQ.1 (SR e he hb)))⟩;refine⟨fun h0=>(by rw[h0]at hqr;cases hqr),fun i hi=>?_⟩;obtain⟨hi0,o,ho,hd⟩:=mem_ready.1 hi;have hik:i<k:=by
    have hlt:i<k+1:=by rw[←L.z];exact(Array.getElem?_eq_some_iff.1 ho).1
    refine Nat.lt_of_le_of_ne qo ?_;rintro rfl;rw[L.last]at ho
    cases ho
    have h2:=ahZ L hc (fun e he hb=>wQ.1 (hd e he hb)) (i-q) q qo hqk;rw[hl q hqk,sS.1 hq0]at h2
    cases h2
   have hi':i∈Region.ready md ops' l':=mem_ready.2 ⟨sS.2 ((hl i hik).symm.trans (sS.1 hi0)),o,(L.old i hik).symm.trans ho,fun e he hb=>wQ.2 ((hl _ (by have:=L.dn i o ho e he hb;omega)).symm.trans (wQ.1 (hd e he hb)))⟩;have h1:=h.2 i hi';unfold wpOp at h1 ⊢;rw[←L.old i hik,ho]at h1;rw[ho];have hg:=L.g i o ho;have hw1:Region.wanted o (yielded ops a.tmps)=true:=by simp[Region.wanted,hg]
   have hw2:Region.wanted o (yielded ops' a.tmps)=true:=by simp[Region.wanted,hg]
   simp only[hw1,hw2,if_true]at h1 ⊢
   have hK:∀a' w',wpAny P md ops' (d8 P st Q) n (l'.setIfInBounds i true) a' w'→wpAny P md ops Q (n+1) (l.setIfInBounds i true) a' w':=fun a' w' hh=>by
    refine ih _ _ a' w' (by simpa using hz) (by simpa using hz') (fun j hj=>by rw[yU,yU,hl j hj]) (by rw[yU,if_neg qo,hk]) (fun j oj hoj hj e he hb=>?_) hh;have hdj:=L.dn j oj hoj e he hb;have hold:l[e.on]?=some true:=by
     rw[yU]at hj
     by_cases hij:i=j
     ·subst hij
      rw[ho]at hoj
      cases hoj
      exact wQ.1 (hd e he hb)
     ·rw[if_neg hij]at hj
      exact hc j oj hoj hj e he hb
    rw[yU,hold]
    split<;>rfl
   rcases h1 with h1|⟨h1,h2⟩
   ·exact .inl (Ja (st:=st) (Oper.wp_mono hK h1))
   ·exact .inr ⟨h1,Km h2⟩
theorem aaJ (l:List Oper)(st:Oper)(i:Nat)(h:i<l.length):(l++[st]).toArray[i]?=l.toArray[i]?:=by
 rw[List.getElem?_toArray,List.getElem?_toArray,List.getElem?_append_left h]
def NX (md:Region.Mode)(ops:List Oper)(k:Nat):Bool:=
 ((List.range (k+1)).all fun j=>(ops[j]?).all fun o=>o.guard.isNone&&o.after.all fun e=>!Region.binds md e||decide (e.on<j))&&
 ((List.range k).all fun i=>(List.range (k+1)).any fun j=>decide (i<j)&&(ops[j]?).any fun o=>o.after.any fun e=>Region.binds md e&&e.on==i)
theorem Rq (l:List Oper)(st:Oper)(h:NX md (l++[st]) l.length=true):UZ md (l++[st]).toArray l.toArray st l.length:=by
 unfold NX at h;rw[Bool.and_eq_true,List.all_eq_true,List.all_eq_true]at h;obtain⟨h1,h2⟩:=h;have hz:(l++[st]).toArray.size=l.length+1:=by simp
 have hj:∀(j:Nat) (o:Oper),(l++[st]).toArray[j]?=some o→o.guard.isNone=true∧∀e∈o.after,Region.binds md e=true→e.on<j:=fun j o ho=>by
  have hlt:j<l.length+1:=by rw[←hz];exact(Array.getElem?_eq_some_iff.1 ho).1
  have h3:=h1 j (List.mem_range.2 hlt);rw[List.getElem?_toArray]at ho;rw[ho]at h3
  simp only[Option.all_some,Bool.and_eq_true]at h3
  refine⟨h3.1,fun e he hb=>?_⟩;have h4:=(Array.all_eq_true_iff_forall_mem.1 h3.2) e he
  simpa [hb]using h4
 refine⟨hz,by simp,fun i hi=>aaJ l st i hi,by simp,fun i o ho=>by have:=(hj i o ho).1;simpa using this,fun i hi=>?_,fun j o ho=>(hj j o ho).2⟩;obtain⟨j,hjm,h3⟩:=List.any_eq_true.1 (h2 i (List.mem_range.2 hi));rw[Bool.and_eq_true]at h3;obtain⟨h4,h5⟩:=h3
 cases ho:(l++[st])[j]? with
 |none=>rw[ho]at h5;cases h5
 |some o=>
  rw[ho]at h5
  simp only[Option.any_some]at h5
  obtain⟨q,hq,h6⟩:=Array.any_eq_true.1 h5;have he:o.after[q]∈o.after:=Array.getElem_mem hq;rw[Bool.and_eq_true]at h6;exact⟨j,o,by simpa using h4,by rw[List.getElem?_toArray];exact ho,_,he,h6.1,by simpa using h6.2⟩
theorem Q6 {S:World→Prop}{id:Nat}{a:Act}{w:World}(l:List Oper)(st:Oper)(hm:P.follows .mixedOrders=true)(hb:NX .any (l++[st]) l.length=true)(hS:S w.drew)
 (h:S w.drew→wpAnyH P .any l.toArray (d8 P st Q) S l.length (Array.replicate l.length false) a w.drew):(Code.region id (l++[st]).toArray true).wp P Q a w:=by
 have L:=Rq l st hb;refine wp_region_any hm ?_;rw[L.z];refine Rt L l.length _ (Array.replicate l.length false) a _ qj qj (fun i hi=>?_) qj (fun j o _ hj=>?_) (wpAny_of_held _ _ _ _ (h hS))
 ·rw[Array.getElem?_replicate,Array.getElem?_replicate,if_pos qo,if_pos hi]
 ·rw[Array.getElem?_replicate]at hj
  split at hj<;>cases hj
theorem cN {S:World→Prop}{id:Nat}{a:Act}{w:World}(L:List Oper)(hne:L≠[])(hm:P.follows .mixedOrders=true)(hb:NX .any L (L.length-1)=true)(hS:S w.drew)
 (h:S w.drew→wpAnyH P .any L.dropLast.toArray (d8 P (L.getLast hne) Q) S (L.length-1) (Array.replicate (L.length-1) false) a w.drew):(Code.region id L.toArray true).wp P Q a w:=by
 have e:=List.dropLast_concat_getLast hne;have hl:L.dropLast.length=L.length-1:=List.length_dropLast;have h1:=Q6 (P:=P) (Q:=Q) (S:=S) (id:=id) (a:=a) (w:=w) L.dropLast (L.getLast hne) hm (by rw[e,hl];exact hb) hS (fun hs=>by rw[hl];exact h hs);rwa[e]at h1
end
section
variable {P:Program}{Q:Exit→Act→World→Prop}{md:Region.Mode}{ops:Array Oper}{S:World→Prop}
theorem qt (i:Nat){oi:Oper}{v:Value}{fuel:Nat}{listed:Array Bool}{a:Act}{w:World}(hS:S w)
 (h:wpAnyH P md ops Q S fuel (listed.setIfInBounds i true) (a.put oi.dst v) w)
 (hi:ops[i]?=some oi:=by rfl) (hs:Region.noSelect ops=true:=by kernel_rfl) (hf:Region.free md ops listed i=true:=by kernel_rfl) (hr:(Region.ready md ops listed).contains i=true:=by kernel_rfl)
 (hQ:∀c a w,Q (.panic c) (a.put oi.dst v) w→Q (.panic c) a w:=by exact fun _ _ _ h=>h)
 (hg:Region.wanted oi (yielded ops a.tmps)=true:=by rfl) (hy:∀w,S w→(execOp a.eval oi).run P w=.ok (.value v) w:=by(intro w0 hSw;(try dsimp only at hSw);go_simp<;>with_reducible rfl)):
 wpAnyH P md ops Q S (fuel+1) listed a w:=wpAnyH_take hi hs hf hr hQ (Or.inl ⟨hg,hy⟩) hS h
end
end Go.Proofs.YtdnmhhohcedjbaaGreat
