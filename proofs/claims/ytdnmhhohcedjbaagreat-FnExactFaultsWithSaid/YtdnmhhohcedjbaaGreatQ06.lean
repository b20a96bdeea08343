/- Walks and plain lemmas. -/
import Derived.Test.YtdnmhhohcedjbaaGreatQ03
import Derived.Test.YtdnmhhohcedjbaaGreatQ04
set_option linter.unusedVariables false
set_option linter.unusedSimpArgs false
namespace Go.Proofs.YtdnmhhohcedjbaaGreat
open Go.RowKit
structure aI where
 W:Nat
 rk:Int
 f:Nat→Nat
 k:Nat→Nat
 cin:Nat→Bool
 cat:Nat→Int
 n:Nat
 d:Nat
structure bW (s:aI)(D:Nat):Prop where
 w1:1≤s.W
 w2:s.W≤24
 r1: -3≤s.rk
 r2:s.rk≤3
 fb:∀i,i<s.W→s.f i≤4
 kb:∀i,i<s.W→s.k i≤4
 ca:∀j,j<4→ -3≤s.cat j∧s.cat j≤30
 nb:s.n≤300
 db:s.d≤D
structure bC where
 g:Nat
 gf:Nat
 cf:Nat
 gk:Nat
 ck:Nat
 gc:Nat
 cc:Nat
 F:Nat→Value
 K:Nat→Value
 L:Value
 D:Value
def dM (a:bC)(s:aI):Array Value:=#[.int .i64 s.W,.int .i64 s.rk,.slice (some ⟨a.gf,0,none⟩) s.W a.cf,.slice (some ⟨a.gk,0,none⟩) s.W a.ck,.slice (some ⟨a.gc,0,none⟩) 4 a.cc,a.L,a.D]
def bE (w:World)(v:Value)(n:Nat):Prop:=∃xs:List Int,w.ownsRow 0 2 1 v n (ints xs)
def xX (w:World)(v:Value)(d:Nat):Prop:=∃q,q≤d∧bE w v q
def eD (tg:Nat→Nat)(v:Value)(c:Nat):Prop:=∀b,v.ownBlock=some b→tg b=c
def lP (tg:Nat→Nat)(w:World)(v:Value)(n:Nat):Prop:=∃xs:List Value,w.ownsRow 0 126 6 v n xs∧∀i,i<n→∃(z:Nat→Int) (u:Value) (k:Nat),(∀t,t<5→xs[i*6+t]?=some (.int .i64 (z t)))∧xs[i*6+5]?=some u∧k≤1048576∧bE w u k∧eD tg u 7
def nO (s:aI)(j:Nat):Value:=if j%2=0 then .bool (s.cin (j/2))else .int .i64 (s.cat (j/2))
structure Mem (tg:Nat→Nat)(a:bC)(s:aI)(w:World):Prop where
 m:aB w a.g 58 (dM a s)
 f:bI w a.gf 0 s.W a.F
 fw:dS w a.gf 0 s.W
 k:bI w a.gk 0 s.W a.K
 kw:dS w a.gk 0 s.W
 c:bI w a.gc 0 8 (nO s)
 cw:dS w a.gc 0 8
 lf:∀i,i<s.W→bE w (a.F i) (s.f i)
 lk:∀i,i<s.W→bE w (a.K i) (s.k i)
 l:lP tg w a.L s.n
 d:xX w a.D s.d
 tm:tg a.g=1
 tf:tg a.gf=2
 tk:tg a.gk=3
 tc:tg a.gc=4
 tL:eD tg a.L 5
 tD:eD tg a.D 6
 tF:∀i,i<s.W→eD tg (a.F i) (8+2*i)
 tK:∀i,i<s.W→eD tg (a.K i) (9+2*i)
 lt:∀b,tg b≠0→b<w.heap.size
section
variable {w w':World}{v:Value}{n:Nat}{tg:Nat→Nat}{a:bC}{s:aI}
theorem bF {B:Nat}{e:TypeId}{size:Nat}{xs:List Value}(ho:w.ownsRow B e size v n xs)(h:∀b,v.ownBlock=some b→w'.heap[b]?=w.heap[b]?):w'.ownsRow B e size v n xs:=by
 refine⟨ho.1,?_⟩
 rcases ho.2 with hn|⟨g,cap,cur,rfl,hb,hgg,rest⟩
 ·exact .inl hn
 ·exact .inr ⟨g,cap,cur,rfl,hb,(h g rfl).trans hgg,rest⟩
theorem bE.blk (ho:bE w v n)(h:∀b,v.ownBlock=some b→w'.heap[b]?=w.heap[b]?):bE w' v n:=by
 obtain⟨xs,hx⟩:=ho;exact⟨xs,bF hx h⟩
theorem xX.blk (ho:xX w v n)(h:∀b,v.ownBlock=some b→w'.heap[b]?=w.heap[b]?):xX w' v n:=by
 obtain⟨q,hq,hx⟩:=ho;exact⟨q,hq,hx.blk h⟩
theorem lP.blk (ho:lP tg w v n)(h:∀b,v.ownBlock=some b→w'.heap[b]?=w.heap[b]?)(h7:∀b,tg b=7→w'.heap[b]?=w.heap[b]?):lP tg w' v n:=by
 obtain⟨xs,hx,hp⟩:=ho;refine⟨xs,bF hx h,fun i hi=>?_⟩;obtain⟨z,u,k,hz,h1,h2,h3,h4⟩:=hp i hi;exact⟨z,u,k,hz,h1,h2,h3.blk fun b hb=>h7 b (h4 b hb),h4⟩
theorem bI.blk {g o N:Nat}{f:Nat→Value}(hr:bI w g o N f)(h:w'.heap[g]?=w.heap[g]?):bI w' g o N f:=fun j hj=>
 (World.cell?_of_block (w:=w) (a:=⟨g,o+j,none⟩) h).trans (hr j hj)
theorem dS.blk {g o N:Nat}(hr:dS w g o N)(h:w'.heap[g]?=w.heap[g]?):dS w' g o N:=fun j hj=>by
 obtain⟨⟨u,hu⟩,hf⟩:=hr j hj;exact⟨⟨u,(World.cell?_of_block (w:=w) (a:=⟨g,o+j,none⟩) h).trans hu⟩,(World.frozen?_of_block (w:=w) (a:=⟨g,o+j,none⟩) h).trans hf⟩
structure yQ (tg:Nat→Nat)(a:bC)(s:aI)(c:Nat)(w:World):Prop where
 m:1≠c→aB w a.g 58 (dM a s)
 f:2≠c→bI w a.gf 0 s.W a.F∧dS w a.gf 0 s.W
 k:3≠c→bI w a.gk 0 s.W a.K∧dS w a.gk 0 s.W
 cr:4≠c→bI w a.gc 0 8 (nO s)∧dS w a.gc 0 8
 lf:∀i,i<s.W→8+2*i≠c→bE w (a.F i) (s.f i)
 lk:∀i,i<s.W→9+2*i≠c→bE w (a.K i) (s.k i)
 l:5≠c→7≠c→lP tg w a.L s.n
 d:6≠c→xX w a.D s.d
theorem Mem.rest (h:Mem tg a s w)(c:Nat)(hk:∀b,tg b≠0→tg b≠c→w'.heap[b]?=w.heap[b]?):yQ tg a s c w' where
 m:=fun hc=>(hk a.g (by rw[h.tm];omega) (by rw[h.tm];exact hc)).trans h.m
 f:=fun hc=>⟨h.f.blk (hk _ (by rw[h.tf];omega) (by rw[h.tf];exact hc)),h.fw.blk (hk _ (by rw[h.tf];omega) (by rw[h.tf];exact hc))⟩
 k:=fun hc=>⟨h.k.blk (hk _ (by rw[h.tk];omega) (by rw[h.tk];exact hc)),h.kw.blk (hk _ (by rw[h.tk];omega) (by rw[h.tk];exact hc))⟩
 cr:=fun hc=>⟨h.c.blk (hk _ (by rw[h.tc];omega) (by rw[h.tc];exact hc)),h.cw.blk (hk _ (by rw[h.tc];omega) (by rw[h.tc];exact hc))⟩
 lf:=fun i hi hc=>(h.lf i hi).blk fun b hb=>hk b (by rw[h.tF i hi b hb];omega) (by rw[h.tF i hi b hb];exact hc)
 lk:=fun i hi hc=>(h.lk i hi).blk fun b hb=>hk b (by rw[h.tK i hi b hb];omega) (by rw[h.tK i hi b hb];exact hc)
 l:=fun hc Yo=>h.l.blk (fun b hb=>hk b (by rw[h.tL b hb];omega) (by rw[h.tL b hb];exact hc)) fun b hb=>hk b (by rw[hb];omega) (by rw[hb];exact Yo)
 d:=fun hc=>h.d.blk fun b hb=>hk b (by rw[h.tD b hb];omega) (by rw[h.tD b hb];exact hc)
theorem Mem.same (h:Mem tg a s w)(hk:∀b,tg b≠0→w'.heap[b]?=w.heap[b]?)(hz:w.heap.size≤w'.heap.size):Mem tg a s w':=by
 have r:=h.rest 0 fun b hb _=>hk b hb;exact⟨r.m qo,(r.f qo).1,(r.f qo).2,(r.k qo).1,(r.k qo).2,(r.cr qo).1,(r.cr qo).2,fun i hi=>r.lf i hi qo,fun i hi=>r.lk i hi qo,r.l qo qo,r.d qo,h.tm,h.tf,h.tk,h.tc,h.tL,h.tD,h.tF,h.tK,fun b hb=>Nat.lt_of_lt_of_le (h.lt b hb) hz⟩
theorem Mem.below (h:Mem tg a s w)(hb:Below w.heap.size w w'):Mem tg a s w':=h.same (fun b ht=>hb.block b (h.lt b ht)) hb.size
theorem Mem.drewN (h:Mem tg a s w)(q:Nat):Mem tg a s (w.drewN q):=h.same (fun _ _=>rfl) ql
def eZ (tg:Nat→Nat)(b:Nat):Prop:=tg b≠0
def Moved (w:World)(tg:Nat→Nat)(g:Nat)(s:aI)(w':World):Prop:=
 ∃gU a',a'.g=g∧Mem gU a' s w'∧Fr w w' (eZ tg)∧∀b,gU b≠0→tg b≠0∨w.heap.size≤b
theorem Mem.moved (h:Mem tg a s w):Moved w tg a.g s w:=⟨tg,a,rfl,h,Fr.refl _ _,fun _ hb=>.inl hb⟩
theorem aE (w:World)(p:Addr)(v:Value)(b:Nat)(h:b≠p.block):(w.setCell p v).heap[b]?=w.heap[b]?:=Below.heap_setCell w p v b h
theorem fR (w:World)(p:Addr)(v:Value):(w.setCell p v).heap.size=w.heap.size:=by simp[World.setCell]
theorem Mem.rT (h:Mem tg a s w)(r:Int):Mem tg a {s with rk:=r} (w.setCell ⟨a.g,1,none⟩ (.int .i64 r)):=by
 have r0:=h.rest (w':=w.setCell ⟨a.g,1,none⟩ (.int .i64 r)) 1 fun b _ hb=>aE _ _ _ _ (by rintro rfl;exact hb h.tm);exact⟨(h.m.bJ 1 _),(r0.f qo).1,(r0.f qo).2,(r0.k qo).1,(r0.k qo).2,(r0.cr qo).1,(r0.cr qo).2,fun i hi=>r0.lf i hi qo,fun i hi=>r0.lk i hi qo,r0.l qo qo,r0.d qo,h.tm,h.tf,h.tk,h.tc,h.tL,h.tD,h.tF,h.tK,fun b hb=>by rw[fR];exact h.lt b hb⟩
theorem abj (s:aI)(j:Nat)(x:Int)(i:Nat):nO {s with cat:=fun q=>if q=j then x else s.cat q} i=if i=j*2+1 then .int .i64 x else nO s i:=by
 show(if i%2=0 then Value.bool (s.cin (i/2))else .int .i64 (if i/2=j then x else s.cat (i/2)))=if i=j*2+1 then .int .i64 x else(if i%2=0 then Value.bool (s.cin (i/2))else .int .i64 (s.cat (i/2)))
 by_cases h:i%2=0
 ·rw[if_pos h,if_pos h,if_neg qo]
 ·rw[if_neg h,if_neg h]
  by_cases hj:i/2=j
  ·rw[if_pos hj,if_pos qo]
  ·rw[if_neg hj,if_neg qo]
theorem abh (s:aI)(j:Nat)(x:Bool)(i:Nat):nO {s with cin:=fun q=>if q=j then x else s.cin q} i=if i=j*2 then .bool x else nO s i:=by
 show(if i%2=0 then Value.bool (if i/2=j then x else s.cin (i/2))else .int .i64 (s.cat (i/2)))=if i=j*2 then .bool x else(if i%2=0 then Value.bool (s.cin (i/2))else .int .i64 (s.cat (i/2)))
 by_cases h:i%2=0
 ·rw[if_pos h,if_pos h]
  by_cases hj:i/2=j
  ·rw[if_pos hj,if_pos qo]
  ·rw[if_neg hj,if_neg qo]
 ·rw[if_neg h,if_neg h,if_neg qo]
theorem bI.setAt {g N:Nat}{f:Nat→Value}(hr:bI w g 0 N f)(hw:dS w g 0 N){k:Nat}(hk:k<N)(u:Value):bI (w.setCell ⟨g,k,none⟩ u) g 0 N (fun i=>if i=k then u else f i):=fun j hj=>by
 show(w.setCell ⟨g,k,none⟩ u).cell? ⟨g,0+j,none⟩=some (if j=k then u else f j)
 by_cases hjk:j=k
 ·subst hjk
  obtain⟨⟨v,hv⟩,_⟩:=hw j hj;rw[if_pos rfl];rw[Nat.zero_add]at hv ⊢;exact World.cell?_setCell_same _ _ _ hv
 ·rw[if_neg hjk,World.cell?_setCell_other w _ _ u (by intro e;injection e;omega)]
  exact hr j hj
theorem Mem.setAt (h:Mem tg a s w){j:Nat}(hj:j<4)(x:Int):Mem tg a {s with cat:=fun q=>if q=j then x else s.cat q} (w.setCell ⟨a.gc,j*2+1,none⟩ (.int .i64 x)):=by
 have r0:=h.rest (w':=w.setCell ⟨a.gc,j*2+1,none⟩ (.int .i64 x)) 4 fun b _ hb=>aE _ _ _ _ (by rintro rfl;exact hb h.tc);have hc:=h.c.setAt h.cw (show j*2+1<8 by omega) (.int .i64 x);exact⟨r0.m qo,(r0.f qo).1,(r0.f qo).2,(r0.k qo).1,(r0.k qo).2,fun i hi=>(hc i hi).trans (by rw[abj]),h.cw.set _ _,fun i hi=>r0.lf i hi qo,fun i hi=>r0.lk i hi qo,r0.l qo qo,r0.d qo,h.tm,h.tf,h.tk,h.tc,h.tL,h.tD,h.tF,h.tK,fun b hb=>by rw[fR];exact h.lt b hb⟩
theorem Mem.sJ (h:Mem tg a s w){j:Nat}(hj:j<4)(x:Bool):Mem tg a {s with cin:=fun q=>if q=j then x else s.cin q} (w.setCell ⟨a.gc,j*2,none⟩ (.bool x)):=by
 have r0:=h.rest (w':=w.setCell ⟨a.gc,j*2,none⟩ (.bool x)) 4 fun b _ hb=>aE _ _ _ _ (by rintro rfl;exact hb h.tc);have hc:=h.c.setAt h.cw (show j*2<8 by omega) (.bool x);exact⟨r0.m qo,(r0.f qo).1,(r0.f qo).2,(r0.k qo).1,(r0.k qo).2,fun i hi=>(hc i hi).trans (by rw[abh]),h.cw.set _ _,fun i hi=>r0.lf i hi qo,fun i hi=>r0.lk i hi qo,r0.l qo qo,r0.d qo,h.tm,h.tf,h.tk,h.tc,h.tL,h.tD,h.tF,h.tK,fun b hb=>by rw[fR];exact h.lt b hb⟩
def retag (tg:Nat→Nat)(v:Value)(c:Nat)(b:Nat):Nat:=if v.ownBlock=some b then c else tg b
def Free (tg:Nat→Nat)(v:Value)(c:Nat):Prop:=∀b,v.ownBlock=some b→tg b=0∨tg b=c
theorem dJ {v:Value}{c b x:Nat}(hf:Free tg v c)(hx:tg b=x)(h0:x≠0)(hc:x≠c):retag tg v c b=x:=by
 unfold retag;rw[if_neg ?_,hx];intro e
 rcases hf b e with h|h<;>omega
theorem eC {v u:Value}{c x:Nat}(hf:Free tg v c)(hu:eD tg u x)(h0:x≠0)(hc:x≠c):eD (retag tg v c) u x:=fun b hb=>dJ hf (hu b hb) h0 hc
theorem oX (v:Value)(c:Nat):eD (retag tg v c) v c:=fun b hb=>by unfold retag;rw[if_pos hb]
theorem zG {v:Value}{c:Nat}{N:Nat}(h:∀b,tg b≠0→b<N)(hv:∀b,v.ownBlock=some b→b<N):∀b,retag tg v c b≠0→b<N:=fun b hb=>by
 unfold retag at hb
 split at hb
 ·exact hv b ‹_›
 ·exact h b hb
theorem bE.lt (h:bE w v n):∀b,v.ownBlock=some b→b<w.heap.size:=fun b hb=>by
 obtain⟨xs,hx⟩:=h;exact(hx.lt b hb).2
theorem xX.lt (h:xX w v n):∀b,v.ownBlock=some b→b<w.heap.size:=fun b hb=>by
 obtain⟨q,_,hx⟩:=h;exact hx.lt b hb
theorem lP.lt (h:lP tg w v n):∀b,v.ownBlock=some b→b<w.heap.size:=fun b hb=>by
 obtain⟨xs,hx,_⟩:=h;exact(hx.lt b hb).2
theorem lP.tags {gU:Nat→Nat}(h:lP tg w v n)(ht:∀u,eD tg u 7→eD gU u 7):lP gU w v n:=by
 obtain⟨xs,hx,hp⟩:=h;refine⟨xs,hx,fun i hi=>?_⟩;obtain⟨z,y,k,hz,h1,h2,h3,h4⟩:=hp i hi;exact⟨z,y,k,hz,h1,h2,h3,ht y h4⟩
theorem lP.retag {u:Value}{c:Nat}(h:lP tg w v n)(hf:Free tg u c)(hc:7≠c):lP (retag tg u c) w v n:=by
 obtain⟨xs,hx,hp⟩:=h;refine⟨xs,hx,fun i hi=>?_⟩;obtain⟨z,y,k,hz,h1,h2,h3,h4⟩:=hp i hi;exact⟨z,y,k,hz,h1,h2,h3,eC hf h4 qo hc⟩
theorem Mem.abB {w0:World}{i:Nat}(h:Mem tg a s w0)(r0:yQ tg a s (8+2*i) w)(hz:w0.heap.size≤w.heap.size)(hi:i<s.W){m:Nat}(hv:bE w v m)(hf:Free tg v (8+2*i)):
 Mem (retag tg v (8+2*i)) {a with F:=fun q=>if q=i then v else a.F q} {s with f:=fun q=>if q=i then m else s.f q} (w.setCell ⟨a.gf,i,none⟩ v):=by
 have k0:∀{u:Value} {c:Nat},eD tg u c→c≠2→∀b,u.ownBlock=some b→(w.setCell ⟨a.gf,i,none⟩ v).heap[b]?=w.heap[b]?:=fun hu hc b hb=>aE _ _ _ _ (by intro e;have:=hu b hb;rw[show b=a.gf from e,h.tf]at this;omega);have kb:∀{b c:Nat},tg b=c→c≠2→(w.setCell ⟨a.gf,i,none⟩ v).heap[b]?=w.heap[b]?:=fun hb hc=>aE _ _ _ _ (by intro e;rw[show _=a.gf from e,h.tf]at hb;omega);have kv:∀b,v.ownBlock=some b→(w.setCell ⟨a.gf,i,none⟩ v).heap[b]?=w.heap[b]?:=fun b hb=>aE _ _ _ _ (by intro e;rcases hf b hb with h'|h'<;>(rw[show b=a.gf from e,h.tf]at h';omega));have rf:=r0.f qo;refine⟨(kb h.tm qo).trans (r0.m qo),rf.1.setAt rf.2 hi v,rf.2.set _ _,(r0.k qo).1.blk (kb h.tk qo),(r0.k qo).2.blk (kb h.tk qo),(r0.cr qo).1.blk (kb h.tc qo),(r0.cr qo).2.blk (kb h.tc qo),fun q hq=>?_,fun q hq=>(r0.lk q hq qo).blk (k0 (h.tK q hq) qo),((r0.l qo qo).blk (k0 h.tL qo) fun b hb=>kb hb qo).retag hf qo,(r0.d qo).blk (k0 h.tD qo),dJ hf h.tm qo qo,dJ hf h.tf qo qo,dJ hf h.tk qo qo,dJ hf h.tc qo qo,eC hf h.tL qo qo,eC hf h.tD qo qo,fun q hq=>?_,fun q hq=>eC hf (h.tK q hq) qo qo,?_⟩
 ·show bE _ (if q=i then v else a.F q) (if q=i then m else s.f q)
  by_cases hqi:q=i
  ·rw[if_pos hqi,if_pos hqi]
   exact hv.blk kv
  ·rw[if_neg hqi,if_neg hqi]
   exact(r0.lf q hq qo).blk (k0 (h.tF q hq) qo)
 ·show eD _ (if q=i then v else a.F q) _
  by_cases hqi:q=i
  ·subst hqi
   rw[if_pos rfl];exact oX v _
  ·rw[if_neg hqi]
   exact eC hf (h.tF q hq) qo qo
 ·rw[fR]
  exact zG (fun b hb=>Nat.lt_of_lt_of_le (h.lt b hb) hz) hv.lt
theorem Mem.abA {w0:World}{i:Nat}(h:Mem tg a s w0)(r0:yQ tg a s (9+2*i) w)(hz:w0.heap.size≤w.heap.size)(hi:i<s.W){m:Nat}(hv:bE w v m)(hf:Free tg v (9+2*i)):
 Mem (retag tg v (9+2*i)) {a with K:=fun q=>if q=i then v else a.K q} {s with k:=fun q=>if q=i then m else s.k q} (w.setCell ⟨a.gk,i,none⟩ v):=by
 have k0:∀{u:Value} {c:Nat},eD tg u c→c≠3→∀b,u.ownBlock=some b→(w.setCell ⟨a.gk,i,none⟩ v).heap[b]?=w.heap[b]?:=fun hu hc b hb=>aE _ _ _ _ (by intro e;have:=hu b hb;rw[show b=a.gk from e,h.tk]at this;omega);have kb:∀{b c:Nat},tg b=c→c≠3→(w.setCell ⟨a.gk,i,none⟩ v).heap[b]?=w.heap[b]?:=fun hb hc=>aE _ _ _ _ (by intro e;rw[show _=a.gk from e,h.tk]at hb;omega);have kv:∀b,v.ownBlock=some b→(w.setCell ⟨a.gk,i,none⟩ v).heap[b]?=w.heap[b]?:=fun b hb=>aE _ _ _ _ (by intro e;rcases hf b hb with h'|h'<;>(rw[show b=a.gk from e,h.tk]at h';omega));have rf:=r0.k qo;refine⟨(kb h.tm qo).trans (r0.m qo),(r0.f qo).1.blk (kb h.tf qo),(r0.f qo).2.blk (kb h.tf qo),rf.1.setAt rf.2 hi v,rf.2.set _ _,(r0.cr qo).1.blk (kb h.tc qo),(r0.cr qo).2.blk (kb h.tc qo),fun q hq=>(r0.lf q hq qo).blk (k0 (h.tF q hq) qo),fun q hq=>?_,((r0.l qo qo).blk (k0 h.tL qo) fun b hb=>kb hb qo).retag hf qo,(r0.d qo).blk (k0 h.tD qo),dJ hf h.tm qo qo,dJ hf h.tf qo qo,dJ hf h.tk qo qo,dJ hf h.tc qo qo,eC hf h.tL qo qo,eC hf h.tD qo qo,fun q hq=>eC hf (h.tF q hq) qo qo,fun q hq=>?_,?_⟩
 ·show bE _ (if q=i then v else a.K q) (if q=i then m else s.k q)
  by_cases hqi:q=i
  ·rw[if_pos hqi,if_pos hqi]
   exact hv.blk kv
  ·rw[if_neg hqi,if_neg hqi]
   exact(r0.lk q hq qo).blk (k0 (h.tK q hq) qo)
 ·show eD _ (if q=i then v else a.K q) _
  by_cases hqi:q=i
  ·subst hqi
   rw[if_pos rfl];exact oX v _
  ·rw[if_neg hqi]
   exact eC hf (h.tK q hq) qo qo
 ·rw[fR]
  exact zG (fun b hb=>Nat.lt_of_lt_of_le (h.lt b hb) hz) hv.lt
theorem cells5 (a:bC)(s:aI)(v:Value)(m:Nat):(dM a s).setIfInBounds 5 v=dM {a with L:=v} {s with n:=m}:=rfl
theorem adF (a:bC)(s:aI)(v:Value)(m:Nat):(dM a s).setIfInBounds 6 v=dM {a with D:=v} {s with d:=m}:=rfl
theorem Mem.Bv {w0:World}(h:Mem tg a s w0)(r0:yQ tg a s 5 w)(hz:w0.heap.size≤w.heap.size){m:Nat}(hv:lP tg w v m)(hf:Free tg v 5):
 Mem (retag tg v 5) {a with L:=v} {s with n:=m} (w.setCell ⟨a.g,5,none⟩ v):=by
 have k0:∀{u:Value} {c:Nat},eD tg u c→c≠1→∀b,u.ownBlock=some b→(w.setCell ⟨a.g,5,none⟩ v).heap[b]?=w.heap[b]?:=fun hu hc b hb=>aE _ _ _ _ (by intro e;have:=hu b hb;rw[show b=a.g from e,h.tm]at this;omega);have kb:∀{b c:Nat},tg b=c→c≠1→(w.setCell ⟨a.g,5,none⟩ v).heap[b]?=w.heap[b]?:=fun hb hc=>aE _ _ _ _ (by intro e;rw[show _=a.g from e,h.tm]at hb;omega);have kv:∀b,v.ownBlock=some b→(w.setCell ⟨a.g,5,none⟩ v).heap[b]?=w.heap[b]?:=fun b hb=>aE _ _ _ _ (by intro e;rcases hf b hb with h'|h'<;>(rw[show b=a.g from e,h.tm]at h';omega));exact⟨by have:=(r0.m qo).bJ 5 v;rwa[cells5 a s v m]at this,(r0.f qo).1.blk (kb h.tf qo),(r0.f qo).2.blk (kb h.tf qo),(r0.k qo).1.blk (kb h.tk qo),(r0.k qo).2.blk (kb h.tk qo),(r0.cr qo).1.blk (kb h.tc qo),(r0.cr qo).2.blk (kb h.tc qo),fun q hq=>(r0.lf q hq qo).blk (k0 (h.tF q hq) qo),fun q hq=>(r0.lk q hq qo).blk (k0 (h.tK q hq) qo),((hv.blk kv fun b hb=>kb hb qo).retag hf qo),(r0.d qo).blk (k0 h.tD qo),dJ hf h.tm qo qo,dJ hf h.tf qo qo,dJ hf h.tk qo qo,dJ hf h.tc qo qo,oX v _,eC hf h.tD qo qo,fun q hq=>eC hf (h.tF q hq) qo qo,fun q hq=>eC hf (h.tK q hq) qo qo,by rw[fR];exact zG (fun b hb=>Nat.lt_of_lt_of_le (h.lt b hb) hz) hv.lt⟩
theorem Mem.Bw {w0:World}(h:Mem tg a s w0)(r0:yQ tg a s 6 w)(hz:w0.heap.size≤w.heap.size){m:Nat}(hv:xX w v m)(hf:Free tg v 6):
 Mem (retag tg v 6) {a with D:=v} {s with d:=m} (w.setCell ⟨a.g,6,none⟩ v):=by
 have k0:∀{u:Value} {c:Nat},eD tg u c→c≠1→∀b,u.ownBlock=some b→(w.setCell ⟨a.g,6,none⟩ v).heap[b]?=w.heap[b]?:=fun hu hc b hb=>aE _ _ _ _ (by intro e;have:=hu b hb;rw[show b=a.g from e,h.tm]at this;omega);have kb:∀{b c:Nat},tg b=c→c≠1→(w.setCell ⟨a.g,6,none⟩ v).heap[b]?=w.heap[b]?:=fun hb hc=>aE _ _ _ _ (by intro e;rw[show _=a.g from e,h.tm]at hb;omega);have kv:∀b,v.ownBlock=some b→(w.setCell ⟨a.g,6,none⟩ v).heap[b]?=w.heap[b]?:=fun b hb=>aE _ _ _ _ (by intro e;rcases hf b hb with h'|h'<;>(rw[show b=a.g from e,h.tm]at h';omega));exact⟨by have:=(r0.m qo).bJ 6 v;rwa[adF a s v m]at this,(r0.f qo).1.blk (kb h.tf qo),(r0.f qo).2.blk (kb h.tf qo),(r0.k qo).1.blk (kb h.tk qo),(r0.k qo).2.blk (kb h.tk qo),(r0.cr qo).1.blk (kb h.tc qo),(r0.cr qo).2.blk (kb h.tc qo),fun q hq=>(r0.lf q hq qo).blk (k0 (h.tF q hq) qo),fun q hq=>(r0.lk q hq qo).blk (k0 (h.tK q hq) qo),((r0.l qo qo).blk (k0 h.tL qo) fun b hb=>kb hb qo).retag hf qo,hv.blk kv,dJ hf h.tm qo qo,dJ hf h.tf qo qo,dJ hf h.tk qo qo,dJ hf h.tc qo qo,eC hf h.tL qo qo,oX v _,fun q hq=>eC hf (h.tF q hq) qo qo,fun q hq=>eC hf (h.tK q hq) qo qo,by rw[fR];exact zG (fun b hb=>Nat.lt_of_lt_of_le (h.lt b hb) hz) hv.lt⟩
theorem Mem.UW (h:Mem tg a s w)(hf:Free tg v 7)(hv:∀b,v.ownBlock=some b→b<w.heap.size):Mem (retag tg v 7) a s w where
 m:=h.m
 f:=h.f
 fw:=h.fw
 k:=h.k
 kw:=h.kw
 c:=h.c
 cw:=h.cw
 lf:=h.lf
 lk:=h.lk
 l:=by
  obtain⟨xs,hx,hp⟩:=h.l;refine⟨xs,hx,fun i hi=>?_⟩;obtain⟨z,y,k,hz,h1,h2,h3,h4⟩:=hp i hi;refine⟨z,y,k,hz,h1,h2,h3,fun b hb=>?_⟩;unfold Go.Proofs.YtdnmhhohcedjbaaGreat.retag
  split
  ·rfl
  ·exact h4 b hb
 d:=h.d
 tm:=dJ hf h.tm qo qo
 tf:=dJ hf h.tf qo qo
 tk:=dJ hf h.tk qo qo
 tc:=dJ hf h.tc qo qo
 tL:=eC hf h.tL qo qo
 tD:=eC hf h.tD qo qo
 tF:=fun i hi=>eC hf (h.tF i hi) qo qo
 tK:=fun i hi=>eC hf (h.tK i hi) qo qo
 lt:=zG h.lt hv
theorem IK (a b c d e:Int)(u:Value):∃z:Nat→Int,∀t,t<5→[Value.int .i64 a,.int .i64 b,.int .i64 c,.int .i64 d,.int .i64 e,u][t]?=some (.int .i64 (z t)):=
 ⟨fun t=>if t=0 then a else if t=1 then b else if t=2 then c else if t=3 then d else e,fun t ht=>by
  have h:t=0∨t=1∨t=2∨t=3∨t=4:=qo
  rcases h with rfl|rfl|rfl|rfl|rfl<;>rfl⟩
theorem lP.more {w2:World}{A:Option Addr}{q:Nat}{xs ys:List Value}{u:Value}{k:Nat}(hown:w2.ownsRow 0 126 6 (.slice A (n+1) q) (n+1) (xs++ys))(hx:xs.length=n*6)(hp:∀i,i<n→∃(z:Nat→Int) (u:Value) (k:Nat),(∀t,t<5→xs[i*6+t]?=some (.int .i64 (z t)))∧xs[i*6+5]?=some u∧k≤1048576∧bE w u k∧eD tg u 7)(hz:∃z:Nat→Int,∀t,t<5→ys[t]?=some (.int .i64 (z t)))(hy:ys[5]?=some u)(hk:k≤1048576)(hu:bE w u k)(ht:eD tg u 7)(h7:∀b,tg b=7→w2.heap[b]?=w.heap[b]?):lP tg w2 (.slice A (n+1) q) (n+1):=by
 refine⟨_,hown,fun i hi=>?_⟩
 by_cases hin:i<n
 ·obtain⟨z,y,k,hz,h1,h2,h3,h4⟩:=hp i hin
  exact⟨z,y,k,fun t ht=>by rw[List.getElem?_append_left qo];exact hz t ht,by rw[List.getElem?_append_left qo];exact h1,h2,h3.blk fun b hb=>h7 b (h4 b hb),h4⟩
 ·obtain rfl:i=n:=qo
  obtain⟨z,hz⟩:=hz;exact⟨z,u,k,fun t ht=>by rw[List.getElem?_append_right qo,hx,Nat.add_sub_cancel_left];exact hz t ht,by rw[List.getElem?_append_right qo,hx,Nat.add_sub_cancel_left];exact hy,hk,hu.blk fun b hb=>h7 b (ht b hb),ht⟩
end
end Go.Proofs.YtdnmhhohcedjbaaGreat
