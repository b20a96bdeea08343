/- Walks and plain lemmas. -/
import Derived.Test.YtdnmhhohcedjbaaGreatQ14
set_option linter.unusedVariables false
set_option linter.unusedSimpArgs false
set_option maxHeartbeats 4000000
set_option maxRecDepth 20000
namespace Go.Proofs.YtdnmhhohcedjbaaGreat
open Go.RowKit
def I1 (tg:Nat→Nat)(g b:Nat):Nat:=if b=g then 0 else tg b
def eX (tg:Nat→Nat)(g b:Nat):Nat:=if b=g then 1 else tg b
def fI (B:Nat)(v:Value)(s:aI)(w:World):Prop:=
 ∃(tg:Nat→Nat) (a:bC),v=.agg (dM a s)∧(∀b,tg b≠0→B≤b)∧(∀b,tg b≠0→b<w.heap.size)∧((∃A n c,a.L=.slice A n c)∧∃A n c,a.D=.slice A n c)∧
  ∀g w',tg g=0→(∀b,tg b≠0→w'.heap[b]?=w.heap[b]?)→w.heap.size≤w'.heap.size→aB w' g 58 (dM a s)→Mem (eX tg g) {a with g:=g} s w'
def Fu (w:World)(s:aI)(e:Ending)(w':World):Prop:=∃v,e=.returned v∧fI w.heap.size v s w'∧Below w.heap.size w w'
theorem Mem.makes {tg:Nat→Nat}{a:bC}{s:aI}{w:World}{B:Nat}(h:Mem tg a s w)(lo:∀b,tg b≠0→B≤b):fI B (.agg (dM a s)) s w:=by
 have ht:∀b,I1 tg a.g b≠0→tg b≠0:=fun b hb=>by
  unfold I1 at hb
  split at hb
  ·omega
  ·exact hb
 refine⟨I1 tg a.g,a,rfl,fun b hb=>lo b (ht b hb),fun b hb=>h.lt b (ht b hb),⟨by obtain⟨xs,hx,_⟩:=h.l;obtain⟨A,c,e⟩:=aF hx;exact⟨A,_,c,e⟩,by obtain⟨q,_,xs,hx⟩:=h.d;obtain⟨A,c,e⟩:=aF hx;exact⟨A,_,c,e⟩⟩,fun g w' hg hk hz hB=>?_⟩;have k0:∀{b c:Nat},tg b=c→c≠0→c≠1→w'.heap[b]?=w.heap[b]?∧b≠g∧b≠a.g:=fun{b c} hb h0 h1=>by
  have hba:b≠a.g:=by rintro rfl;rw[h.tm]at hb;omega
  refine⟨hk b (by unfold I1;rw[if_neg hba,hb];exact h0),?_,hba⟩;rintro rfl;unfold I1 at hg;rw[if_neg hba]at hg;omega
 have kv:∀{u:Value} {c:Nat},eD tg u c→c≠0→c≠1→∀b,u.ownBlock=some b→w'.heap[b]?=w.heap[b]?:=fun hu h0 h1 b hb=>(k0 (hu b hb) h0 h1).1;have tb:∀{b c:Nat},tg b=c→c≠0→c≠1→eX (I1 tg a.g) g b=c:=fun hb h0 h1=>by
  obtain⟨_,h2,h3⟩:=k0 hb h0 h1;unfold eX I1;rw[if_neg h2,if_neg h3,hb]
 have tv:∀{u:Value} {c:Nat},eD tg u c→c≠0→c≠1→eD (eX (I1 tg a.g) g) u c:=fun hu h0 h1 b hb=>tb (hu b hb) h0 h1;refine⟨hB,h.f.blk (k0 h.tf qo qo).1,h.fw.blk (k0 h.tf qo qo).1,h.k.blk (k0 h.tk qo qo).1,h.kw.blk (k0 h.tk qo qo).1,h.c.blk (k0 h.tc qo qo).1,h.cw.blk (k0 h.tc qo qo).1,
  fun i hi=>(h.lf i hi).blk (kv (h.tF i hi) qo qo),fun i hi=>(h.lk i hi).blk (kv (h.tK i hi) qo qo),((h.l.blk (kv h.tL qo qo) fun b hb=>(k0 hb qo qo).1).tags fun u hu=>tv hu qo qo),h.d.blk (kv h.tD qo qo),
  if_pos rfl,tb h.tf qo qo,tb h.tk qo qo,tb h.tc qo qo,tv h.tL qo qo,tv h.tD qo qo,fun i hi=>tv (h.tF i hi) qo qo,fun i hi=>tv (h.tK i hi) qo qo,fun b hb=>?_⟩
 by_cases hbg:b=g
 ·subst hbg
  exact hB.lt
 ·unfold eX at hb
  rw[if_neg hbg]at hb;exact Nat.lt_of_lt_of_le (h.lt b (ht b hb)) hz
abbrev e9:Array Value:=#[.int .i64 0,.int .i64 0,.slice none 0 0,.slice none 0 0,.slice none 0 0,.slice none 0 0,.slice none 0 0]
theorem fI.lower {B B':Nat}{v:Value}{s:aI}{w:World}(h:fI B v s w)(hB:B'≤B):fI B' v s w:=by
 obtain⟨tg,a,h1,h2,h3,h0,h4⟩:=h;exact⟨tg,a,h1,fun b hb=>Nat.le_trans hB (h2 b hb),h3,h0,h4⟩
theorem fI.keep {B:Nat}{v:Value}{s:aI}{w w':World}(h:fI B v s w)(hk:∀b,B≤b→b<w.heap.size→w'.heap[b]?=w.heap[b]?)(hz:w.heap.size≤w'.heap.size):fI B v s w':=by
 obtain⟨tg,a,h1,h2,h3,h0,h4⟩:=h;exact⟨tg,a,h1,h2,fun b hb=>Nat.lt_of_lt_of_le (h3 b hb) hz,h0,fun g w2 hg hk2 hz2 hB=>h4 g w2 hg (fun b hb=>(hk2 b hb).trans (hk b (h2 b hb) (h3 b hb))) (Nat.le_trans hz hz2) hB⟩
theorem fI.set {B:Nat}{v:Value}{s:aI}{w:World}(h:fI B v s w)(g o:Nat)(u:Value)(hg:g<B):fI B v s (w.setCell ⟨g,o,none⟩ u):=
 h.keep (fun b hb _=>aE _ _ _ _ (by intro e;rw[show b=g from e]at hb;omega)) (by rw[fR];exact Nat.le_refl _)
abbrev AQ:Array Value:=#[.bool false,.int .i64 0,.bool false,.int .i64 0,.bool false,.int .i64 0,.bool false,.int .i64 0]
theorem Wv:∀w:World,(Instr.makeSlice 55 (.int .i64 4) (.int .i64 4)).run Tryz.prog w=.ok (.slice (some ⟨w.heap.size,0,none⟩) 4 4) (w.alloc (.cells AQ 148)):=fun _=>by kernel_rfl
theorem JW (W:Nat)(j:Nat)(hj:j<8):AQ[j]?=some (nO (jC W) j):=by
 have h:j=0∨j=1∨j=2∨j=3∨j=4∨j=5∨j=6∨j=7:=qo
 rcases h with rfl|rfl|rfl|rfl|rfl|rfl|rfl|rfl<;>rfl
abbrev wS (W:Nat)(gc:Nat)(vF vK:Value):Array Value:=#[.int .i64 W,.int .i64 0,vF,vK,.slice (some ⟨gc,0,none⟩) 4 4,.slice none 0 0,.slice none 0 0]
structure D7 (B:Nat)(tg:Nat→Nat)(W g gc i n:Nat)(vF vK:Value)(xs ys:List Value)(w:World):Prop where
 m:aB w g 58 (wS W gc vF vK)
 f:w.ownsRow B 34 1 vF i xs
 k:w.ownsRow B 34 1 vK n ys
 c:aB w gc 148 AQ
 lf:∀j,j<i→bE w (xs.getD j undef) 0
 lk:∀j,j<n→bE w (ys.getD j undef) 0
 tm:tg g=1
 tf:eD tg vF 2
 tk:eD tg vK 3
 tc:tg gc=4
 tF:∀j,j<i→eD tg (xs.getD j undef) (8+2*j)
 tK:∀j,j<n→eD tg (ys.getD j undef) (9+2*j)
 lt:∀b,tg b≠0→b<w.heap.size
 lo:∀b,tg b≠0→B≤b
section
variable {B W g gc i k:Nat}{tg:Nat→Nat}{vF vK:Value}{xs ys:List Value}{w w':World}
theorem D7.mem (h:D7 B tg W g gc W W vF vK xs ys w)(hW:1≤W):fI B (.agg (wS W gc vF vK)) (jC W) w:=by
 obtain⟨gf,cf,rfl⟩:∃gf cf,vF=.slice (some ⟨gf,0,none⟩) W cf:=by
  rcases h.f.2 with⟨_,h0⟩|⟨q,cap,_,e,_⟩
  ·omega
  ·exact⟨q,cap,e⟩
 obtain⟨gk,ck,rfl⟩:∃gf cf,vK=.slice (some ⟨gf,0,none⟩) W cf:=by
  rcases h.k.2 with⟨_,h0⟩|⟨q,cap,_,e,_⟩
  ·omega
  ·exact⟨q,cap,e⟩
 have NI:∀{q c:Nat} {zs:List Value},w.ownsRow B 34 1 (.slice (some ⟨q,0,none⟩) W c) W zs→bI w q 0 W (fun j=>zs.getD j undef)∧dS w q 0 W:=fun{q c zs} ho=>by
  have hl:=ho.1;refine⟨fun j hj=>?_,by have:=dS.kM ho;rwa[Nat.mul_one]at this⟩;rw[Nat.zero_add,ho.cellAt j qo]
  simp[List.getD,List.getElem?_eq_getElem (show j<zs.length by omega)]
 have hm:Mem tg ⟨g,gf,cf,gk,ck,gc,4,fun j=>xs.getD j undef,fun j=>ys.getD j undef,.slice none 0 0,.slice none 0 0⟩ (jC W) w:=
  ⟨h.m,(NI h.f).1,(NI h.f).2,(NI h.k).1,(NI h.k).2,fun j hj=>by rw[Nat.zero_add,h.c.cell];exact JW W j hj,fun j hj=>⟨⟨_,by rw[Nat.zero_add,h.c.cell];exact JW W j hj⟩,h.c.frozen _⟩,h.lf,h.lk,⟨[],World.ownsRow_nil _ _ _ _,fun i hi=>absurd hi (Nat.not_lt_zero _)⟩,⟨0,Nat.le_refl _,[],World.ownsRow_nil _ _ _ _⟩,h.tm,h.tf _ rfl,h.tk _ rfl,h.tc,(fun b hb=>by cases hb),(fun b hb=>by cases hb),h.tF,h.tK,h.lt⟩
 exact hm.makes h.lo
def qH (tg:Nat→Nat)(v:Value)(c q c':Nat)(b:Nat):Nat:=if v.ownBlock=some b then c else if b=q then c' else tg b
theorem vE {xs:List Value}{e:Value}{j:Nat}(hj:j<xs.length):(xs++[e]).getD j undef=xs.getD j undef:=by
 simp[List.getD,List.getElem?_append_left hj]
theorem vG {xs:List Value}{e:Value}{j:Nat}(hj:j=xs.length):(xs++[e]).getD j undef=e:=by
 subst hj
 simp[List.getD]
theorem S2 (w:World):bE (w.alloc (.cells #[] 2)) (.slice (some ⟨w.heap.size,0,none⟩) 0 0) 0:=
 ⟨[],eF (World.ownsRow_made (e:=2) (size:=1) w #[] 0 ql qm rfl) (Nat.zero_le _)⟩
theorem zQ15x0 {p:Prop}(h:p:=by
 refine(S2 w).blk fun b hb=>?_;obtain rfl:w.heap.size=b:=Option.some.inj hb;exact(aE _ _ _ _ (by intro e;have h1:=h.tm;rw[←show w.heap.size=g from e]at h1;have:=h.lt w.heap.size qo;omega)).trans (hf.block _ qj mW)):p:=h
theorem zQ15x1 {p:Prop}(h:p:=by
 intro b hb;obtain rfl:w.heap.size=b:=Option.some.inj hb;unfold qH;rw[if_neg (fun e=>?_),if_pos rfl,hji]
 rcases hv _ e with h'|h'
 ·have:=h.lt w.heap.size qo
  omega
 ·omega):p:=h
theorem zQ15x2 {p:Prop}(h:p:=by
 unfold qH at hb
 split at hb
 ·exact(ho.lt b ‹_›).2
 ·split at hb
  ·omega
  ·exact Nat.lt_of_lt_of_le (h.lt b hb) qo):p:=h
theorem D7.Bq {v':Value}{w2:World}(h:D7 B tg W g gc i k vF vK xs ys w)(hB:B≤w.heap.size)(ho:w2.ownsRow B 34 1 v' (i+1) (xs++[.slice (some ⟨w.heap.size,0,none⟩) 0 0]))
 (hf:Fr (w.alloc (.cells #[] 2)) w2 (fun b=>vF.ownBlock=some b)) (hat:v'.ownBlock=vF.ownBlock∨v'.ownBlock=some (w.heap.size+1+1)):
 D7 B (qH tg v' 2 w.heap.size (8+2*i)) W g gc (i+1) k v' vK (xs++[.slice (some ⟨w.heap.size,0,none⟩) 0 0]) ys (w2.setCell ⟨g,2,none⟩ v'):=by
 have hl:xs.length=i:=by have:=h.f.1;omega
 have hz:w.heap.size+1≤w2.heap.size:=by have:=hf.size;simpa using this
 have hv:∀b,v'.ownBlock=some b→tg b=2∨b=w.heap.size+1+1:=fun b hb=>by
  rcases hat with e|e
  ·exact .inl (h.tf b (e.symm.trans hb))
  ·rw[hb]at e
   injection e with e;exact .inr e
 have k0:∀{b c:Nat},tg b=c→c≠0→c≠2→w2.heap[b]?=w.heap[b]?∧qH tg v' 2 w.heap.size (8+2*i) b=c:=fun{b c} hb h0 h2=>by
  have hlt:=h.lt b qo;refine⟨(hf.block b (by simp;omega) (fun e=>by have:=h.tf b e;omega)).trans (Below.heap_alloc w _ b hlt),?_⟩;unfold qH;rw[if_neg (fun e=>by rcases hv b e with h'|h'<;>omega),if_neg qo,hb]
 have k1:∀{b c:Nat},tg b=c→c≠0→c≠1→c≠2→(w2.setCell ⟨g,2,none⟩ v').heap[b]?=w.heap[b]?:=fun{b c} hb h0 h1 h2=>
  (aE _ _ _ _ (by intro e;rw[show b=g from e,h.tm]at hb;omega)).trans (k0 hb h0 h2).1
 have tv:∀{u:Value} {c:Nat},eD tg u c→c≠0→c≠2→eD (qH tg v' 2 w.heap.size (8+2*i)) u c:=fun hu h0 h2 b hb=>(k0 (hu b hb) h0 h2).2;have kv:∀{u:Value} {c:Nat},eD tg u c→c≠0→c≠1→c≠2→∀b,u.ownBlock=some b→(w2.setCell ⟨g,2,none⟩ v').heap[b]?=w.heap[b]?:=fun hu h0 h1 h2 b hb=>k1 (hu b hb) h0 h1 h2;have hvg:∀b,v'.ownBlock=some b→b≠g:=fun b hb e=>by
  subst e;have h1:=h.tm;have h2:=h.lt b qo
  rcases hv b hb with h'|h'<;>omega
 have mW:¬vF.ownBlock=some w.heap.size:=fun e=>by
  have h1:=h.tf _ e;have h2:=h.lt w.heap.size qo;omega
 refine⟨?_,bF ho fun b hb=>aE _ _ _ _ (hvg b hb),bF h.k (kv h.tk qo qo qo),(k1 h.tc qo qo qo).trans h.c,fun j hj=>?_,fun j hj=>(h.lk j hj).blk (kv (h.tK j hj) qo qo qo),(k0 h.tm qo qo).2,fun b hb=>by unfold qH;rw[if_pos hb],tv h.tk qo qo,(k0 h.tc qo qo).2,fun j hj=>?_,fun j hj=>tv (h.tK j hj) qo qo,fun b hb=>?_,fun b hb=>?_⟩
 ·exact((show aB w2 g 58 (wS W gc vF vK)from(k0 h.tm qo qo).1.trans h.m).bJ 2 v')
 ·by_cases hji:j=i
  ·rw[vG qo]
   exact zQ15x0
  ·rw[vE qo]
   exact(h.lf j qo).blk (kv (h.tF j qo) qo qo qo)
 ·by_cases hji:j=i
  ·rw[vG qo]
   exact zQ15x1
  ·rw[vE qo]
   exact tv (h.tF j qo) qo qo
 ·rw[fR]
  exact zQ15x2
 ·unfold qH at hb
  split at hb
  ·exact(ho.lt b ‹_›).1
  ·split at hb
   ·omega
   ·exact h.lo b hb
theorem D7.Bn {v':Value}{w2:World}(h:D7 B tg W g gc i k vF vK xs ys w)(hB:B≤w.heap.size)(ho:w2.ownsRow B 34 1 v' (k+1) (ys++[.slice (some ⟨w.heap.size,0,none⟩) 0 0]))
 (hf:Fr (w.alloc (.cells #[] 2)) w2 (fun b=>vK.ownBlock=some b)) (hat:v'.ownBlock=vK.ownBlock∨v'.ownBlock=some (w.heap.size+1+1)):
 D7 B (qH tg v' 3 w.heap.size (9+2*k)) W g gc i (k+1) vF v' xs (ys++[.slice (some ⟨w.heap.size,0,none⟩) 0 0]) (w2.setCell ⟨g,3,none⟩ v'):=by
 have hl:ys.length=k:=by have:=h.k.1;omega
 have hz:w.heap.size+1≤w2.heap.size:=by have:=hf.size;simpa using this
 have hv:∀b,v'.ownBlock=some b→tg b=3∨b=w.heap.size+1+1:=fun b hb=>by
  rcases hat with e|e
  ·exact .inl (h.tk b (e.symm.trans hb))
  ·rw[hb]at e
   injection e with e;exact .inr e
 have k0:∀{b c:Nat},tg b=c→c≠0→c≠3→w2.heap[b]?=w.heap[b]?∧qH tg v' 3 w.heap.size (9+2*k) b=c:=fun{b c} hb h0 h2=>by
  have hlt:=h.lt b qo;refine⟨(hf.block b (by simp;omega) (fun e=>by have:=h.tk b e;omega)).trans (Below.heap_alloc w _ b hlt),?_⟩;unfold qH;rw[if_neg (fun e=>by rcases hv b e with h'|h'<;>omega),if_neg qo,hb]
 have k1:∀{b c:Nat},tg b=c→c≠0→c≠1→c≠3→(w2.setCell ⟨g,3,none⟩ v').heap[b]?=w.heap[b]?:=fun{b c} hb h0 h1 h2=>
  (aE _ _ _ _ (by intro e;rw[show b=g from e,h.tm]at hb;omega)).trans (k0 hb h0 h2).1
 have tv:∀{u:Value} {c:Nat},eD tg u c→c≠0→c≠3→eD (qH tg v' 3 w.heap.size (9+2*k)) u c:=fun hu h0 h2 b hb=>(k0 (hu b hb) h0 h2).2;have kv:∀{u:Value} {c:Nat},eD tg u c→c≠0→c≠1→c≠3→∀b,u.ownBlock=some b→(w2.setCell ⟨g,3,none⟩ v').heap[b]?=w.heap[b]?:=fun hu h0 h1 h2 b hb=>k1 (hu b hb) h0 h1 h2;have hvg:∀b,v'.ownBlock=some b→b≠g:=fun b hb e=>by
  subst e;have h1:=h.tm;have h2:=h.lt b qo
  rcases hv b hb with h'|h'<;>omega
 have mW:¬vK.ownBlock=some w.heap.size:=fun e=>by
  have h1:=h.tk _ e;have h2:=h.lt w.heap.size qo;omega
 refine⟨?_,bF h.f (kv h.tf qo qo qo),bF ho fun b hb=>aE _ _ _ _ (hvg b hb),(k1 h.tc qo qo qo).trans h.c,fun j hj=>(h.lf j hj).blk (kv (h.tF j hj) qo qo qo),fun j hj=>?_,(k0 h.tm qo qo).2,tv h.tf qo qo,fun b hb=>by unfold qH;rw[if_pos hb],(k0 h.tc qo qo).2,fun j hj=>tv (h.tF j hj) qo qo,fun j hj=>?_,fun b hb=>?_,fun b hb=>?_⟩
 ·exact((show aB w2 g 58 (wS W gc vF vK)from(k0 h.tm qo qo).1.trans h.m).bJ 3 v')
 ·by_cases hji:j=k
  ·rw[vG qo]
   exact zQ15x0
  ·rw[vE qo]
   exact(h.lk j qo).blk (kv (h.tK j qo) qo qo qo)
 ·by_cases hji:j=k
  ·rw[vG qo]
   exact zQ15x1
  ·rw[vE qo]
   exact tv (h.tK j qo) qo qo
 ·rw[fR]
  exact zQ15x2
 ·unfold qH at hb
  split at hb
  ·exact(ho.lt b ‹_›).1
  ·split at hb
   ·omega
   ·exact h.lo b hb
end
theorem GN {P:Program}(W:World){ops:Array Oper}{rest:List Oper}{o:Oper}{a:Act}{Q:Exit→Act→World→Prop}(hgd:o.guard=none)(s x:Operand)(t:TypeId)
 (ho:o.op=.call {callee:=.builtin .append,args:=#[s,x],argTypes:=#[t,t]})
 (base:Nat) (e:TypeId) (i:TypeInfo) (z:Value) (size bytes:Nat) (ht:P.underlying t=some (.slice e)) (hi:P.info? e=some i) (hz:i.zero=some z)
 (hsize:i.size=size) (hby:i.bytes=bytes) (hzs:z.cells.size=size) (hsz:0<size)
 (v:Value) (n:Nat) (xs:List Value) (hs:a.eval s=v) (hown:W.ownsRow base e size v n xs)
 (te:TypeId) (m c:Nat) (news:List Value) (q:Nat) (hq:q=W.heap.size) (hx:a.eval x=.slice (some ⟨q,0,none⟩) m c) (hl:news.length=m*size) (h1:∀u∈news,u.oneCell'=true)
 (h63:n+m≤maxLen) (hbytes:(n+m)*bytes≤140737488355328) (hbase:base≤W.heap.size)
 (h:∀v' w',w'.ownsRow base e size v' (n+m) (xs++news)→Fr W w' (fun b=>v.ownBlock=some b)→(v'.ownBlock=v.ownBlock∨v'.ownBlock=some (q+1))→wpList P ops Q rest (a.put o.dst v') w'):
 wpList P ops Q (o::rest) a (W.alloc (.cells news.toArray te)):=by
 subst hq;exact cB W hgd s x t ho base e i z size bytes ht hi hz hsize hby hzs hsz v n xs hs hown te m c news hx hl h1 h63 hbytes hbase h
theorem WQ:(Tryz.prog.info? 34).map (fun i=>(i.zero,i.size,i.bytes))=some (some (.slice none 0 0),1,24):=by kernel_rfl
theorem afj (W:Nat)(w:World):D7 (w.heap.size+1) (fun b=>if b=w.heap.size+1+1 then 1 else if b=w.heap.size+1 then 4 else 0) W (w.heap.size+1+1) (w.heap.size+1) 0 0 (.slice none 0 0) (.slice none 0 0) [] []
 (((w.alloc (.cells #[.int .i64 0,.int .i64 0,.slice none 0 0,.slice none 0 0,.slice none 0 0,.slice none 0 0,.slice none 0 0] 58)).alloc (.cells AQ 148)).alloc (.cells (wS W (w.heap.size+1) (.slice none 0 0) (.slice none 0 0)) 58)):=by
 refine⟨aB.at_ _ _ _ qj,World.ownsRow_nil _ _ _ _,World.ownsRow_nil _ _ _ _,(aB.at_ _ _ _ qj).alloc _,fun j hj=>by omega,fun j hj=>by omega,if_pos rfl,fun b hb=>(by cases hb),fun b hb=>(by cases hb),by simp,fun j hj=>by omega,fun j hj=>by omega,fun b hb=>?_,fun b hb=>?_⟩
 ·simp
  by_cases h1:b=w.heap.size+1+1
  ·omega
  ·rw[if_neg h1]at hb
   by_cases h2:b=w.heap.size+1
   ·omega
   ·rw[if_neg h2]at hb
    omega
 ·by_cases h1:b=w.heap.size+1+1
  ·omega
  ·rw[if_neg h1]at hb
   by_cases h2:b=w.heap.size+1
   ·omega
   ·rw[if_neg h2]at hb
    omega
theorem EV (W:Nat)(w:World)(hW:1≤W)(hW2:W≤24):Calls Tryz.prog 59 #[.int .i64 W] w (Fu w (jC W)):=by
 obtain⟨i0,hi,iz,is,ib⟩:=info_parts WQ;have hmk:=Wv;have HH0:=qh (afj W w);have HB0:Hq (Below (w.heap.size+1) (w.alloc (.cells e9 58)) (((w.alloc (.cells e9 58)).alloc (.cells AQ 148)).alloc (.cells (wS W (w.heap.size+1) (.slice none 0 0) (.slice none 0 0)) 58))):=qh (((Below.refl _ _).alloc qj _).alloc qj _)
 go_enter Tryz.func59,Tryz.ntmps59
 go_wp2_with fail
 go_loopw [4] (fun iv wr=>∃(i:Nat) (tg:Nat→Nat) (vF vK:Value) (xs ys:List Value),i≤W∧iv=.int .i64 i∧D7 (w.heap.size+1) tg W (w.heap.size+1+1) (w.heap.size+1) i i vF vK xs ys wr∧Below (w.heap.size+1) (w.alloc (.cells e9 58)) wr) (fun iv _=>W-(intOf iv).toNat)
 case atStart=>exact⟨0,_,_,_,_,_,Nat.zero_le _,rfl,HH0.o,HB0.o⟩
 case round=>
  obtain⟨i,tg,vF,vK,xs,ys,hile,rfl,hm,hb⟩:=hrel;have HM:=qh hm;have HB:=qh hb;obtain⟨AF,cF,rfl⟩:=aF hm.f;obtain⟨AK,cK,rfl⟩:=aF hm.k;have m2:wr.cell? ⟨w.heap.size+1+1,2,none⟩=some (.slice AF i cF):=hm.m.cell 2;have hrs:w.heap.size+1≤wr.heap.size:=by have:=hb.size;simpa using this
  clear hm hb
  by_cases hlt:i<W
  ·go_wp2_with (first
    |(at_builtin;(refine GN _ rfl (.tmp 14) (.tmp 16) _ rfl (w.heap.size+1) 34 i0 _ 1 24 Tryz.underlying54 hi iz is ib rfl qo (.slice AF i cF) i xs rfl (HM.o.f.alloc _) _ 1 1 [.slice (some ⟨wr.heap.size,0,none⟩) 0 0] (wr.heap.size+1) qj rfl rfl (by simp[Value.oneCell']) qm qo (by simp;omega) ?_);intro v1 w1 hown1 X3 zV;have hm1:=HM.o.Bq qo hown1 X3 zV;obtain⟨A1,c1,rfl⟩:=aF hown1;have kP:w.heap.size+1+1<wr.heap.size:=HM.o.m.lt;have hne:¬(Value.slice AF i cF).ownBlock=some (w.heap.size+1+1):=(fun e=>by have h1:=HM.o.tf _ e;have h2:=HM.o.tm;omega);have k2:=(X3.cells (g:=w.heap.size+1+1) (by simp;omega) hne 2).trans ((World.cell?_alloc_some wr _ (.cells #[] 2) (by rw[m2];rfl)).trans m2);have kf:w1.frozen? ⟨w.heap.size+1+1,2,none⟩=false:=(World.frozen?_of_block (a:=⟨w.heap.size+1+1,2,none⟩) (X3.block _ (by simp;omega) hne)).trans ((HM.o.m.alloc _).frozen 2);have k3:=(show _=some (Value.slice AK i cK)from hm1.m.cell 3);have bZ:=qh hm1;have HB1:=qh ((HB.o.alloc hrs (.cells #[] 2)).trans (X3.own (HM.o.f.alloc _) (by simp;omega)));clear hown1 X3 zV hm1)
    |(at_builtin;go_must ((refine GN (w1.setCell ⟨w.heap.size+1+1,2,none⟩ (.slice A1 (i+1) c1)|>.alloc (.cells #[] 2)) rfl (.tmp 20) (.tmp 22) _ rfl (w.heap.size+1) 34 i0 _ 1 24 Tryz.underlying54 hi iz is ib rfl qo (.slice AK i cK) i ys rfl (bZ.o.k.alloc _) _ 1 1 [.slice (some ⟨w1.heap.size,0,none⟩) 0 0] (w1.heap.size+1) qj rfl rfl (by simp[Value.oneCell']) qm qo (by have h1:=HB1.o.size;rw[World.size_alloc]at h1;simp;omega) ?_);intro v2 w2 hown2 hfr2 gF;have hz1:(w1.setCell ⟨w.heap.size+1+1,2,none⟩ (.slice A1 (i+1) c1)).heap.size=w1.heap.size:=fR _ _ _;have hs1:w.heap.size+1≤w1.heap.size:=(by have:=HB1.o.size;simpa using this);rw[←hz1]at hown2 gF;have hm2:=bZ.o.Bn (by rw[hz1];exact hs1) hown2 hfr2 gF;obtain⟨A2,c2,rfl⟩:=aF hown2;have kP:=bZ.o.m.lt;have hne:¬(Value.slice AK i cK).ownBlock=some (w.heap.size+1+1):=(fun e=>by have h1:=bZ.o.tk _ e;have h2:=bZ.o.tm;omega);have k3':=(hfr2.cells (g:=w.heap.size+1+1) (by rw[World.size_alloc];omega) hne 3).trans ((World.cell?_alloc_some _ _ (.cells #[] 2) (by rw[k3];rfl)).trans k3);have kf':w2.frozen? ⟨w.heap.size+1+1,3,none⟩=false:=(World.frozen?_of_block (a:=⟨w.heap.size+1+1,3,none⟩) (hfr2.block (w.heap.size+1+1) (by rw[World.size_alloc];omega) hne)).trans ((bZ.o.m.alloc _).frozen 3);have dW:=qh hm2;have HB2:=qh (((HB1.o.setCell qj (.slice A1 (i+1) c1)).alloc (by rw[hz1];exact hs1) (.cells #[] 2)).trans (hfr2.own (bZ.o.k.alloc _) (by rw[World.size_alloc];omega)));clear hown2 hfr2 gF hm2)))
   go_roundw
   case rel=>exact⟨i+1,_,_,_,_,_,hlt,qg,dW.o,HB2.o.setCell qj _⟩
   case measure=>exact qs
  ·obtain rfl:W=i:=qo
   have hres:=aB.below (aB.at_ w 58 e9 rfl) HB.o (Nat.lt_succ_self _);have HF:Hq (fI (w.heap.size+1) (.agg (wS W (w.heap.size+1) (.slice AF W cF) (.slice AK W cK))) (jC W) wr):=qh (HM.o.mem hW);have dU:Hq (Below w.heap.size w wr):=qh (((Below.refl w.heap.size w).alloc ql _).trans (HB.o.mono (Nat.le_succ _)));have r0:=(show _=some (Value.int .i64 W)from HM.o.m.cell 0);have r1:=(show _=some (Value.int .i64 0)from HM.o.m.cell 1);have r3:=(show _=some (Value.slice AK W cK)from HM.o.m.cell 3);have r4:=(show _=some (Value.slice (some ⟨w.heap.size+1,0,none⟩) 4 4)from HM.o.m.cell 4);have r5:=(show _=some (Value.slice none 0 0)from HM.o.m.cell 5);have r6:=(show _=some (Value.slice none 0 0)from HM.o.m.cell 6);have q0:=(qc hres 0 rfl);have q1:=(qc hres 1 rfl);have q2:=(qc hres 2 rfl);have q3:=(qc hres 3 rfl);have q4:=(qc hres 4 rfl);have q5:=(qc hres 5 rfl);have q6:=(qc hres 6 rfl);have f0:=fun o=>hres.frozen o;have HR:=qh hres;clear hres
   go_wp2_with fail
   refine bodyPost_ret (v:=.agg (wS W (w.heap.size+1) (.slice AF W cF) (.slice AK W cK))) (by simp[results,Tryz.results59,go_sem,q0,q1,q2,q3,q4,q5,q6]) rfl ⟨_,rfl,?_,?_⟩
   ·exact(((((((HF.o.set _ _ _ (Nat.lt_succ_self _)).set _ _ _ (Nat.lt_succ_self _)).set _ _ _ (Nat.lt_succ_self _)).set _ _ _ (Nat.lt_succ_self _)).set _ _ _ (Nat.lt_succ_self _)).set _ _ _ (Nat.lt_succ_self _)).set _ _ _ (Nat.lt_succ_self _)).lower (Nat.le_succ _)
   ·exact((((((dU.o.setCell ql _).setCell ql _).setCell ql _).setCell ql _).setCell ql _).setCell ql _).setCell ql _
theorem ab9 (m:Nat)(hm:m≤1000000):∃cs:Array Value,cs.size=m∧(∀j,j<m→cs[j]?=some (.slice none 0 0))∧∀w:World,(Instr.makeSlice 54 (.int .i64 (m:Int)) (.int .i64 (m:Int))).run Tryz.prog w=.ok (.slice (some ⟨w.heap.size,0,none⟩) m m) (w.alloc (.cells cs 34)):=by
 obtain⟨i0,hi,iz,is,ib⟩:=info_parts WQ;refine⟨madeCells (Value.slice none 0 0).cells m,size_madeCells _ _,fun j hj=>?_,fun w=>?_⟩
 ·simp[madeCells,hj,Value.cells,Nat.mod_one]
 ·have h:=run_makeSlice (P:=Tryz.prog) w 54 34 i0 (.slice none 0 0) Tryz.underlying54 hi iz .i64 .i64 m m qo (Int.le_refl _) (by rw[is];simp;omega) (by rw[ib];omega) qo
  rw[is]at h
  simpa using h
def GU (gf gk gc b:Nat):Nat:=if b=gf then 2 else if b=gk then 3 else if b=gc then 4 else 0
section
variable {gf gk gc:Nat}
theorem abx:GU gf gk gc gf=2:=if_pos rfl
theorem abw (h1:gf≠gk):GU gf gk gc gk=3:=by unfold GU;rw[if_neg (Ne.symm h1),if_pos rfl]
theorem aby (h2:gf≠gc)(h3:gk≠gc):GU gf gk gc gc=4:=by unfold GU;rw[if_neg (Ne.symm h2),if_neg (Ne.symm h3),if_pos rfl]
theorem Q8 {b:Nat}(h:GU gf gk gc b≠0):b=gf∨b=gk∨b=gc:=by
 unfold GU at h
 by_cases e1:b=gf
 ·exact .inl e1
 ·by_cases e2:b=gk
  ·exact .inr (.inl e2)
  ·by_cases e3:b=gc
   ·exact .inr (.inr e3)
   ·rw[if_neg e1,if_neg e2,if_neg e3]at h;omega
end
theorem aB.kY {w:World}{g:Nat}{t:TypeId}{cs:Array Value}(h:aB w g t cs):aB w.drew g t cs:=h
theorem rU {B W gf gk gc:Nat}{w:World}{cs:Array Value}(hcs:∀j,j<W→cs[j]?=some (.slice none 0 0))(hf:aB w gf 34 cs)(hk:aB w gk 34 cs)(hc:aB w gc 148 AQ)(h1:gf≠gk)(h2:gf≠gc)(h3:gk≠gc)(b1:B≤gf)(b2:B≤gk)(b3:B≤gc):
 fI B (.agg #[.int .i64 W,.int .i64 0,.slice (some ⟨gf,0,none⟩) W W,.slice (some ⟨gk,0,none⟩) W W,.slice (some ⟨gc,0,none⟩) 4 4,.slice none 0 0,.slice none 0 0]) (jC W) w:=by
 have hlf:=hf.lt;have hlk:=hk.lt;have hlc:=hc.lt;have tf:=abx (gf:=gf) (gk:=gk) (gc:=gc);have tk:=abw (gf:=gf) (gk:=gk) (gc:=gc) h1;have tc:=aby (gf:=gf) (gk:=gk) (gc:=gc) h2 h3;refine⟨GU gf gk gc,⟨0,gf,W,gk,W,gc,4,fun _=>.slice none 0 0,fun _=>.slice none 0 0,.slice none 0 0,.slice none 0 0⟩,rfl,fun b hb=>by rcases Q8 hb with rfl|rfl|rfl<;>assumption,fun b hb=>by rcases Q8 hb with rfl|rfl|rfl<;>assumption,⟨⟨_,_,_,rfl⟩,⟨_,_,_,rfl⟩⟩,fun g w' hg hkp hz hB=>?_⟩;have n1:gf≠g:=by rintro rfl;omega
 have n2:gk≠g:=by rintro rfl;omega
 have n3:gc≠g:=by rintro rfl;omega
 have kf:aB w' gf 34 cs:=(hkp gf qo).trans hf;have kk:aB w' gk 34 cs:=(hkp gk qo).trans hk;have kc:aB w' gc 148 AQ:=(hkp gc qo).trans hc;have rr:∀{q:Nat},aB w' q 34 cs→bI w' q 0 W (fun _=>.slice none 0 0)∧dS w' q 0 W:=fun hq=>
  ⟨fun j hj=>by rw[Nat.zero_add,hq.cell];exact hcs j hj,fun j hj=>⟨⟨_,by rw[Nat.zero_add,hq.cell];exact hcs j hj⟩,hq.frozen _⟩⟩
 refine⟨hB,(rr kf).1,(rr kf).2,(rr kk).1,(rr kk).2,fun j hj=>by rw[Nat.zero_add,kc.cell];exact JW W j hj,fun j hj=>⟨⟨_,by rw[Nat.zero_add,kc.cell];exact JW W j hj⟩,kc.frozen _⟩,fun _ _=>⟨[],World.ownsRow_nil _ _ _ _⟩,fun _ _=>⟨[],World.ownsRow_nil _ _ _ _⟩,⟨[],World.ownsRow_nil _ _ _ _,fun i hi=>absurd hi (Nat.not_lt_zero _)⟩,⟨0,Nat.le_refl _,[],World.ownsRow_nil _ _ _ _⟩,if_pos rfl,?_,?_,?_,fun b hb=>(by cases hb),fun b hb=>(by cases hb),fun i hi b hb=>(by cases hb),fun i hi b hb=>(by cases hb),fun b hb=>?_⟩
 ·unfold eX;rw[if_neg n1];exact tf
 ·unfold eX;rw[if_neg n2];exact tk
 ·unfold eX;rw[if_neg n3];exact tc
 ·unfold eX at hb
  by_cases e0:b=g
  ·subst e0;exact hB.lt
  ·rw[if_neg e0]at hb
   rcases Q8 hb with rfl|rfl|rfl<;>omega
theorem DJ (W:Nat)(w:World)(hW2:W≤24):Calls Tryz.prog 97 #[.int .i64 W] w (Fu w (jC W)):=by
 obtain⟨cs,hcs,hcz,hmk⟩:=ab9 W qo;have hmc:=Wv;have HZ:=qh hcz;clear hcz hcs
 go_enter Tryz.func97,Tryz.ntmps97
 go_wp2_with fail
 go_region
 ·go_wp2_with fail
  exact bodyPost_ret (v:=.agg #[.int .i64 W,.int .i64 0,.slice (some ⟨w.heap.size+1,0,none⟩) W W,.slice (some ⟨w.heap.size+1+1,0,none⟩) W W,.slice (some ⟨w.heap.size+1+1+1,0,none⟩) 4 4,.slice none 0 0,.slice none 0 0]) (by simp[results,Tryz.results97,go_sem]) rfl ⟨_,rfl,rU HZ.o (((aB.at_ _ _ _ qj).alloc _).alloc _).kY ((aB.at_ _ _ _ qj).alloc _).kY (aB.at_ _ _ _ qj).kY qo qo qo qo qo qo,qz⟩
 ·go_wp2_with fail
  exact bodyPost_ret (v:=.agg #[.int .i64 W,.int .i64 0,.slice (some ⟨w.heap.size+1,0,none⟩) W W,.slice (some ⟨w.heap.size+1+1+1,0,none⟩) W W,.slice (some ⟨w.heap.size+1+1,0,none⟩) 4 4,.slice none 0 0,.slice none 0 0]) (by simp[results,Tryz.results97,go_sem]) rfl ⟨_,rfl,rU HZ.o (((aB.at_ _ _ _ qj).alloc _).alloc _).kY (aB.at_ _ _ _ qj).kY ((aB.at_ _ _ _ qj).alloc _).kY qo qo qo qo qo qo,qz⟩
 ·go_wp2_with fail
  exact bodyPost_ret (v:=.agg #[.int .i64 W,.int .i64 0,.slice (some ⟨w.heap.size+1+1,0,none⟩) W W,.slice (some ⟨w.heap.size+1,0,none⟩) W W,.slice (some ⟨w.heap.size+1+1+1,0,none⟩) 4 4,.slice none 0 0,.slice none 0 0]) (by simp[results,Tryz.results97,go_sem]) rfl ⟨_,rfl,rU HZ.o ((aB.at_ _ _ _ qj).alloc _).kY (((aB.at_ _ _ _ qj).alloc _).alloc _).kY (aB.at_ _ _ _ qj).kY qo qo qo qo qo qo,qz⟩
 ·go_wp2_with fail
  exact bodyPost_ret (v:=.agg #[.int .i64 W,.int .i64 0,.slice (some ⟨w.heap.size+1+1+1,0,none⟩) W W,.slice (some ⟨w.heap.size+1,0,none⟩) W W,.slice (some ⟨w.heap.size+1+1,0,none⟩) 4 4,.slice none 0 0,.slice none 0 0]) (by simp[results,Tryz.results97,go_sem]) rfl ⟨_,rfl,rU HZ.o (aB.at_ _ _ _ qj).kY (((aB.at_ _ _ _ qj).alloc _).alloc _).kY ((aB.at_ _ _ _ qj).alloc _).kY qo qo qo qo qo qo,qz⟩
 ·go_wp2_with fail
  exact bodyPost_ret (v:=.agg #[.int .i64 W,.int .i64 0,.slice (some ⟨w.heap.size+1+1,0,none⟩) W W,.slice (some ⟨w.heap.size+1+1+1,0,none⟩) W W,.slice (some ⟨w.heap.size+1,0,none⟩) 4 4,.slice none 0 0,.slice none 0 0]) (by simp[results,Tryz.results97,go_sem]) rfl ⟨_,rfl,rU HZ.o ((aB.at_ _ _ _ qj).alloc _).kY (aB.at_ _ _ _ qj).kY (((aB.at_ _ _ _ qj).alloc _).alloc _).kY qo qo qo qo qo qo,qz⟩
 ·go_wp2_with fail
  exact bodyPost_ret (v:=.agg #[.int .i64 W,.int .i64 0,.slice (some ⟨w.heap.size+1+1+1,0,none⟩) W W,.slice (some ⟨w.heap.size+1+1,0,none⟩) W W,.slice (some ⟨w.heap.size+1,0,none⟩) 4 4,.slice none 0 0,.slice none 0 0]) (by simp[results,Tryz.results97,go_sem]) rfl ⟨_,rfl,rU HZ.o (aB.at_ _ _ _ qj).kY ((aB.at_ _ _ _ qj).alloc _).kY (((aB.at_ _ _ _ qj).alloc _).alloc _).kY qo qo qo qo qo qo,qz⟩
theorem nk (v:Value)(n:Nat)(w:World)(hv:bE w v n)(hn:n≤1048576):Calls Tryz.prog 158 #[v] w (AV w n):=by
 obtain⟨i0,hi,iz,is,ib⟩:=info_parts yL;obtain⟨A,c,xs,rfl,hr⟩:=hv.rd;have hb0:Below w.heap.size w (w.alloc (.cells #[] 2)):=qb;have HV:=qh hv;have HR:=qh (hr.below hb0);have HO:=qh (World.ownsRow_made (e:=2) (size:=1) w #[] 0 ql qm rfl);have HB:=qh hb0;clear hv hr hb0
 cases A with
 |none=>
  have hn0:n=0∧c=0:=by
   obtain⟨xs',hx⟩:=HV.o
   rcases hx.2 with⟨e,h0⟩|⟨_,_,_,e,_⟩
   ·injection e with _ _ e3
    exact⟨h0,e3⟩
   ·cases e
  obtain⟨rfl,rfl⟩:=hn0;have hq:∀w,(binOp .eql 34 (.slice none 0 0) (.slice none 0 0)).run Tryz.prog w=.ok (.bool true) w:=fun w=>Lib.run_eql_slice_nil w _ _ none 0 0 0 0 Tryz.underlying34
  go_enter Tryz.func158,Tryz.ntmps158
  go_wp2_with fail
  go_ret
  exact⟨_,rfl,⟨[],World.ownsRow_nil _ _ _ _⟩,fun b hb=>(by cases hb),Below.refl _ _⟩
 |some p=>
  have hq:∀w,(binOp .eql 34 (.slice (some p) n c) (.slice none 0 0)).run Tryz.prog w=.ok (.bool false) w:=fun w=>Lib.run_eql_slice_nil w _ _ (some p) n c 0 0 Tryz.underlying34
  go_enter Tryz.func158,Tryz.ntmps158
  go_wp2_with (at_builtin;go_must (refine cW (w.alloc (.cells #[] 2)) rfl (.tmp 5) (.tmp 6) _ rfl w.heap.size 2 i0 _ 1 8 Tryz.underlying34 hi iz is ib rfl qo _ 0 [] rfl HO.o (some p) n c (fun j=>.int .i64 (xs.getD j 0)) rfl (by rw[Nat.mul_one];exact HR.o) (fun j=>rfl) qm qo qj ?_);intro v' w' hown' hfr;have HOWN':=qh hown';have iL:=qh hfr;clear hown' hfr)
  go_ret
  have ho:=HOWN'.o;rw[Nat.zero_add,List.nil_append,Nat.mul_one,yK]at ho;exact AV.of ho (HB.o.trans (iL.o.own HO.o qj))
theorem Em (n:Nat)(w:World)(h0:0<n)(hn:n≤4000):
 Calls Tryz.prog 179 #[.slice none 0 0,.int .i64 n] w fun e w'=>∃v,e=.returned v∧w'.ownsRow w.heap.size 2 1 v 0 []∧Below w.heap.size w w':=by
 obtain⟨i0,hi,iz,is,ib⟩:=info_parts yL
 go_enter Tryz.func179,Tryz.ntmps179
 go_wp2_with (at_builtin;go_must (refine GM _ rfl (.tmp 20) (.tmp 21) _ _ rfl 2 i0 _ 1 8 Tryz.underlying34 Tryz.underlying3 hi iz is ib rfl qo n h0 qm qo rfl rfl ?_);intro c w' hown hc hb hlt)
 go_ret
 exact⟨_,rfl,hown,hb⟩
def sI (n1 n2 k:Nat):Nat:=if k=0 then 0 else if k=1 then n1 else n1+n2
theorem IQ (g cp:Nat)(A1 A2:OA)(n1 n2 c1 c2:Nat)(f1 f2:Nat→Int)(w:World)(h0:w.cell? ⟨g,0,none⟩=some (.slice A1 n1 c1))(h1:w.cell? ⟨g,1,none⟩=some (.slice A2 n2 c2))
 (o1:Rd w A1 n1 (fun j=>.int .i64 (f1 j))) (o2:Rd w A2 n2 (fun j=>.int .i64 (f2 j))) (hp:0<n1+n2) (hn1:n1≤1000) (hn2:n2≤1000):
 Calls Tryz.prog 159 #[.slice (some ⟨g,0,none⟩) 2 cp] w (AV w (n1+n2)):=by
 obtain⟨i0,hi,iz,is,ib⟩:=info_parts yL;have hg:=World.block_lt_of_cell? w _ h0;have H0:=qh h0;have H1:=qh h1;have O1:=qh o1;have O2:=qh o2;clear h0 h1 o1 o2
 go_enter Tryz.func159,Tryz.ntmps159
 go_wp2
 go_loop [3,11] (fun s i=>∃k:Nat,k≤2∧i=.int .i64 k∧s=.int .i64 (sI n1 n2 k)) (fun _ i=>2-(intOf i).toNat)
 case atStart=>exact⟨0,by omega,rfl,rfl⟩
 case round=>
  obtain⟨k,hk,rfl,rfl⟩:=hrel;have k0:=H0.o;have k1:=H1.o
  rcases(show k=0∨k=1∨k=2 by omega)with rfl|rfl|rfl
  ·simp only[sI]at*
   go_wp2
   go_round
   case rel=>exact⟨1,by omega,qg,by simp⟩
   case measure=>exact qs
  ·simp only[sI]at*
   go_wp2
   go_round
   case rel=>exact⟨2,by omega,qg,by simp⟩
   case measure=>exact qs
  ·simp only[sI]at*
   go_wp2_with fail
   rw[←Int.natCast_add];refine(Em (n1+n2) _ hp qo).mono ?_;rintro e w1 ⟨v1,rfl,ho1,hb1⟩;have aO:=qh ho1;have HB1:=qh hb1;clear ho1 hb1 k0 k1
   go_wp2_with fail
   go_loopw [6,27] (fun v i wr=>∃(k:Nat) (zs:List Int),k≤2∧i=.int .i64 k∧wr.ownsRow w.heap.size 2 1 v (sI n1 n2 k) (ints zs)∧Below w.heap.size w wr) (fun _ i _=>2-(intOf i).toNat)
   case atStart=>exact⟨0,[],by omega,rfl,aO.o,HB1.o⟩
   case round=>
    obtain⟨k,zs,hk,rfl,hown,hb⟩:=hrel;have k0:=((aA hb).1 _ _ hg).trans H0.o;have k1:=((aA hb).1 _ _ hg).trans H1.o;have P1:=qh (O1.out.below hb);have P2:=qh (O2.out.below hb);have hgr:g<wr.heap.size:=blt hb hg;have HB:=qh hb;have HOWN:=qh hown;clear hb hown
    rcases(show k=0∨k=1∨k=2 by omega)with rfl|rfl|rfl
    ·go_wp2_with (at_builtin;go_must (refine cW _ rfl (.tmp 31) (.tmp 32) _ rfl w.heap.size 2 i0 _ 1 8 Tryz.underlying34 hi iz is ib rfl qo u6 0 (ints zs) rfl HOWN.o A1 n1 c1 (fun j=>.int .i64 (f1 j)) rfl (by rw[Nat.mul_one];exact P1.out) (fun j=>rfl) qm qo HB.o.size ?_);intro v' w' hown' hfr;have HOWN':=qh hown';have BG:=qh (HB.o.trans ((hfr.own HOWN.o HB.o.size).mono ql));clear hown' hfr)
     go_roundw
     case rel=>exact⟨1,zs++(List.range (n1*1)).map f1,by omega,qg,by simpa [sI,ints,Function.comp_def]using HOWN'.o,BG.o⟩
     case measure=>exact qs
    ·go_wp2_with (at_builtin;go_must (refine cW _ rfl (.tmp 31) (.tmp 32) _ rfl w.heap.size 2 i0 _ 1 8 Tryz.underlying34 hi iz is ib rfl qo u6 n1 (ints zs) rfl HOWN.o A2 n2 c2 (fun j=>.int .i64 (f2 j)) rfl (by rw[Nat.mul_one];exact P2.out) (fun j=>rfl) qm qo HB.o.size ?_);intro v' w' hown' hfr;have HOWN':=qh hown';have BG:=qh (HB.o.trans ((hfr.own HOWN.o HB.o.size).mono ql));clear hown' hfr)
     go_roundw
     case rel=>exact⟨2,zs++(List.range (n2*1)).map f2,by omega,qg,by simpa [sI,ints,Function.comp_def]using HOWN'.o,BG.o⟩
     case measure=>exact qs
    ·go_wp2
     go_ret
     exact AV.of HOWN.o HB.o
end Go.Proofs.YtdnmhhohcedjbaaGreat
