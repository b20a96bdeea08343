/- Walks and plain lemmas. -/
import Derived.Test.YtdnmhhohcedjbaaGreatQ15
set_option linter.unusedVariables false
set_option linter.unusedSimpArgs false
set_option maxHeartbeats 40000000
set_option maxRecDepth 20000
namespace Go.Proofs.YtdnmhhohcedjbaaGreat
open Go.RowKit
theorem EH {P:Program}{o:Oper}{cond:Bool}{a:Act}{K:Act→World→Prop}{Q:Exit→Act→World→Prop}{E:Prop}(W:World)(hcond:cond=true)(s x:Operand)(t:TypeId)
 (ho:o.op=.call {callee:=.builtin .append,args:=#[s,x],argTypes:=#[t,t]})
 (base:Nat) (e:TypeId) (i:TypeInfo) (z:Value) (size bytes:Nat) (ht:P.underlying t=some (.slice e)) (hi:P.info? e=some i) (hz:i.zero=some z)
 (hsize:i.size=size) (hby:i.bytes=bytes) (hzs:z.cells.size=size) (hsz:0<size)
 (v:Value) (n:Nat) (xs:List Value) (hs:a.eval s=v) (hown:W.ownsRow base e size v n xs)
 (g2 o2 m c:Nat) (f:Nat→Value) (hx:a.eval x=.slice (some ⟨g2,o2,none⟩) m c) (hrd:bI W g2 o2 (m*size) f) (h1:∀j,(f j).oneCell'=true)
 (h63:n+m≤maxLen) (hbytes:(n+m)*bytes≤140737488355328) (hbase:base≤W.heap.size)
 (h:∀v' w',w'.ownsRow base e size v' (n+m) (xs++(List.range (m*size)).map f)→Fr W w' (fun b=>v.ownBlock=some b)→(v'.ownBlock=v.ownBlock∨v'.ownBlock=some W.heap.size)→K (a.put o.dst v') w'):
 if cond=true then Oper.wp P o a W K Q else E:=by
 rw[if_pos hcond];obtain⟨v',w',hr,h2,h3,_,h5⟩:=run_append_own_at (P:=P) W base t o.type e i z size bytes ht hi hz hsize hby hzs hsz v n xs hown ⟨g2,o2,none⟩ m c ((List.range (m*size)).map f) qj (by
  intro j u hu;obtain⟨hj,rfl⟩:j<m*size∧f j=u:=by
   by_cases hj:j<m*size
   ·simp[hj]at hu;exact⟨hj,hu⟩
   ·rw[List.getElem?_eq_none (by simpa using hj)]at hu;cases hu
  rw[Addr.add_lit];exact hrd j hj) (fun u hu=>by obtain⟨j,_,rfl⟩:=List.mem_map.1 hu;exact h1 j) h63 hbytes hbase
 unfold Oper.wp execOp
 simp only[ho,resolve,invoke,builtin,Sem.run_bind,Sem.run_pure,Result.andThen_ok,List.map_toArray,List.map_cons,List.map_nil,hs,hx,hr]
 exact h v' w' h2 ⟨h3.os,h3.tape,h3.output,h3.size,fun b hb hne=>h3.block b hb (fun e=>hne e.symm)⟩ h5
theorem MU (s:aI)(j:Nat):(nO s j).oneCell'=true:=by
 unfold nO
 split<;>rfl
abbrev Y4 (s:aI):List Value:=(List.range (4*2)).map (nO s)
theorem acJ:(Tryz.prog.info? 148).map (fun i=>(i.zero,i.size,i.bytes))=some (some (.agg #[.bool false,.int .i64 0]),2,16):=by kernel_rfl
structure JJ (B:Nat)(tg:Nat→Nat)(c:Nat)(o sz:Nat→Nat)(v:Value)(i:Nat)(xs:List Value)(w:World):Prop where
 r:w.ownsRow B 34 1 v i xs
 l:∀j,j<i→bE w (xs.getD j undef) (sz j)
 t:eD tg v c
 e:∀j,j<i→eD tg (xs.getD j undef) (o j)
section
variable {B c i:Nat}{tg gU o sz:Nat→Nat}{v:Value}{xs:List Value}{w w':World}
theorem JJ.keep (h:JJ B tg c o sz v i xs w)(hc:c≠0)(ho:∀j,o j≠0)(hk:∀b,(tg b=c∨∃j,tg b=o j)→w'.heap[b]?=w.heap[b]?)(ht:∀b,tg b≠0→gU b=tg b):JJ B gU c o sz v i xs w':=
 ⟨bF h.r fun b hb=>hk b (.inl (h.t b hb)),fun j hj=>(h.l j hj).blk fun b hb=>hk b (.inr ⟨j,h.e j hj b hb⟩),fun b hb=>(ht b (by rw[h.t b hb];exact hc)).trans (h.t b hb),fun j hj b hb=>(ht b (by rw[h.e j hj b hb];exact ho j)).trans (h.e j hj b hb)⟩
theorem JJ.step {u v':Value}{w2:World}(h:JJ B tg c o sz v i xs w)(ho:∀j,o j≠0)(hown:w2.ownsRow B 34 1 v' (i+1) (xs++[u]))(hv:∀b,v'.ownBlock=some b→w'.heap[b]?=w2.heap[b]?)
 (hu:bE w' u (sz i)) (hk:∀b,(∃j,tg b=o j)→w'.heap[b]?=w.heap[b]?) (ht:∀b,tg b≠0→gU b=tg b) (hv':eD gU v' c) (hu':eD gU u (o i)):JJ B gU c o sz v' (i+1) (xs++[u]) w':=by
 have hl:xs.length=i:=by have:=h.r.1;omega
 refine⟨bF hown hv,fun j hj=>?_,hv',fun j hj=>?_⟩
 ·by_cases hji:j=i
  ·subst hji
   rw[vG hl.symm];exact hu
  ·rw[vE qo]
   exact(h.l j qo).blk fun b hb=>hk b ⟨j,h.e j qo b hb⟩
 ·by_cases hji:j=i
  ·subst hji
   rw[vG hl.symm];exact hu'
  ·rw[vE qo]
   exact fun b hb=>(ht b (by rw[h.e j qo b hb];exact ho j)).trans (h.e j qo b hb)
end
abbrev P7 (s:aI)(gc cc:Nat)(vF vK vL vD:Value):Array Value:=#[.int .i64 s.W,.int .i64 s.rk,vF,vK,.slice (some ⟨gc,0,none⟩) 4 cc,vL,vD]
structure MO (B:Nat)(tg:Nat→Nat)(s:aI)(g gc cc i k n:Nat)(vF vK vL vD:Value)(xs ys:List Value)(w:World):Prop where
 m:aB w g 58 (P7 s gc cc vF vK vL vD)
 f:JJ B tg 2 (fun j=>8+2*j) s.f vF i xs w
 k:JJ B tg 3 (fun j=>9+2*j) s.k vK k ys w
 c:bI w gc 0 8 (nO s)
 cw:dS w gc 0 8
 l:lP tg w vL n
 d:xX w vD s.d
 tm:tg g=1
 tc:tg gc=4
 tL:eD tg vL 5
 tD:eD tg vD 6
 lt:∀b,tg b≠0→b<w.heap.size
 lo:∀b,tg b≠0→B≤b
section
variable {B g gc cc i k n:Nat}{tg:Nat→Nat}{s:aI}{vF vK vL vD:Value}{xs ys:List Value}{w w':World}
theorem MO.lists (h:MO B tg s g gc cc i k n vF vK vL vD xs ys w):(∃A c,vF=.slice A i c)∧(∃A c,vK=.slice A k c)∧∃A c,vL=.slice A n c:=by
 obtain⟨zs,hz,_⟩:=h.l;exact⟨aF h.f.r,aF h.k.r,aF hz⟩
theorem MO.keep (h:MO B tg s g gc cc i k n vF vK vL vD xs ys w)(hk:∀b,tg b≠0→w'.heap[b]?=w.heap[b]?)(hz:w.heap.size≤w'.heap.size):MO B tg s g gc cc i k n vF vK vL vD xs ys w':=
 ⟨(
  hk g (by rw[h.tm];omega)).trans h.m,h.f.keep qo (fun j=>by omega) (fun b hb=>hk b (by rcases hb with hb|⟨j,hb⟩<;>omega)) fun _ _=>rfl,h.k.keep qo (fun j=>by omega) (fun b hb=>hk b (by rcases hb with hb|⟨j,hb⟩<;>omega)) fun _ _=>rfl,
  h.c.blk (hk gc (by rw[h.tc];omega)),h.cw.blk (hk gc (by rw[h.tc];omega)),h.l.blk (fun b hb=>hk b (by rw[h.tL b hb];omega)) (fun b hb=>hk b qo),h.d.blk (fun b hb=>hk b (by rw[h.tD b hb];omega)),h.tm,h.tc,h.tL,h.tD,fun b hb=>Nat.lt_of_lt_of_le (h.lt b hb) hz,h.lo⟩
theorem MO.below (h:MO B tg s g gc cc i k n vF vK vL vD xs ys w)(hb:Below w.heap.size w w'):MO B tg s g gc cc i k n vF vK vL vD xs ys w':=h.keep (fun b ht=>hb.block b (h.lt b ht)) hb.size
def qI (tg:Nat→Nat)(u v:Value)(cu cv:Nat):Nat→Nat:=retag (retag tg u cu) v cv
theorem Qt {u v:Value}{cu cv:Nat}(hu:∀b,u.ownBlock=some b→tg b=0)(hv:∀b,v.ownBlock=some b→tg b=0∨tg b=cv)(b:Nat)(hb:tg b≠0):qI tg u v cu cv b=tg b:=by
 unfold qI retag
 by_cases h1:v.ownBlock=some b
 ·rw[if_pos h1]
  rcases hv b h1 with h|h
  ·exact absurd h hb
  ·exact h.symm
 ·rw[if_neg h1,if_neg fun e=>hb (hu b e)]
theorem VD (tg:Nat→Nat)(u v:Value)(cu cv:Nat):eD (qI tg u v cu cv) v cv:=oX _ _
theorem VE {u v:Value}{cu cv:Nat}(hd:∀b,u.ownBlock=some b→v.ownBlock≠some b):eD (qI tg u v cu cv) u cu:=fun b hb=>by
 unfold qI retag;rw[if_neg (hd b hb),if_pos hb]
theorem pq {u v:Value}{cu cv b:Nat}(hb:qI tg u v cu cv b≠0):v.ownBlock=some b∨u.ownBlock=some b∨tg b≠0:=by
 unfold qI retag at hb
 by_cases h1:v.ownBlock=some b
 ·exact .inl h1
 ·by_cases h2:u.ownBlock=some b
  ·exact .inr (.inl h2)
  ·rw[if_neg h1,if_neg h2]at hb
   exact .inr (.inr hb)
structure kF (B:Nat)(tg:Nat→Nat)(w w2:World)(u vo v':Value)(c:Nat):Prop where
 fr:Fr w w2 (fun b=>vo.ownBlock=some b)
 at_:v'.ownBlock=vo.ownBlock∨∃b,v'.ownBlock=some b∧w.heap.size≤b
 t:eD tg vo c
 u0:∀b,u.ownBlock=some b→tg b=0∧B≤b∧b<w.heap.size
 vlt:∀b,v'.ownBlock=some b→b<w2.heap.size
 vlo:B≤w.heap.size
 c0:c≠0
 lt:∀b,tg b≠0→b<w.heap.size
 lo:∀b,tg b≠0→B≤b
section
variable {w2:World}{u vo v':Value}{c cu:Nat}
theorem kF.v0 (h:kF B tg w w2 u vo v' c):∀b,v'.ownBlock=some b→tg b=0∨tg b=c:=fun b hb=>by
 rcases h.at_ with e|⟨b',e,hb'⟩
 ·exact .inr (h.t b (e.symm.trans hb))
 ·obtain rfl:=Option.some.inj (hb.symm.trans e)
  exact .inl (Decidable.byContradiction fun hn=>by have:=h.lt b hn;omega)
theorem kF.old (h:kF B tg w w2 u vo v' c)(b:Nat)(hb:tg b≠0):qI tg u v' cu c b=tg b:=Qt (fun b hb=>(h.u0 b hb).1) h.v0 b hb
theorem kF.uv (h:kF B tg w w2 u vo v' c)(hc:c≠0):∀b,u.ownBlock=some b→v'.ownBlock≠some b:=fun b hb e=>by
 have h1:=h.u0 b hb
 rcases h.at_ with e'|⟨b',e',hb'⟩
 ·have:=h.t b (e'.symm.trans e)
  omega
 ·have:=Option.some.inj (e.symm.trans e')
  omega
theorem kF.keep (h:kF B tg w w2 u vo v' c)(hg:tg g=1)(k:Nat)(x:Value){b:Nat}(hb:tg b≠0)(h1:tg b≠1)(h2:tg b≠c):(w2.setCell ⟨g,k,none⟩ x).heap[b]?=w.heap[b]?:=
 (aE _ _ _ _ (by intro e;rw[show b=g from e]at h1;exact h1 hg)).trans (h.fr.block b (h.lt b hb) fun e=>h2 (h.t b e))
theorem kF.Dx (h:kF B tg w w2 u vo v' c)(hg:tg g=1)(hc:c≠0)(k:Nat)(x:Value):∀b,u.ownBlock=some b→(w2.setCell ⟨g,k,none⟩ x).heap[b]?=w.heap[b]?:=fun b hb=>
 (aE _ _ _ _ (by intro e;have:=(h.u0 b hb).1;rw[show b=g from e,hg]at this;omega)).trans (h.fr.block b (h.u0 b hb).2.2 fun e=>by have h1:=h.t b e;rw[(h.u0 b hb).1]at h1;exact hc h1.symm)
theorem kF.vg (h:kF B tg w w2 u vo v' c)(hg:tg g=1)(hc:c≠1)(k:Nat)(x:Value):∀b,v'.ownBlock=some b→(w2.setCell ⟨g,k,none⟩ x).heap[b]?=w2.heap[b]?:=fun b hb=>
 aE _ _ _ _ (by intro e;have:=h.v0 b hb;rw[show b=g from e,hg]at this;omega)
theorem kF.blk (h:kF B tg w w2 u vo v' c)(hg:tg g=1)(hc:c≠1){t:TypeId}{cs:Array Value}(hb:aB w g t cs):aB w2 g t cs:=(h.fr.block g (h.lt g qo) fun e=>by have:=h.t g e;omega).trans hb
theorem kF.lt' (h:kF B tg w w2 u vo v' c)(p:Addr)(x:Value):∀b,qI tg u v' cu c b≠0→b<(w2.setCell p x).heap.size:=fun b hb=>by
 rw[fR]
 rcases pq hb with e|e|e
 ·exact h.vlt b e
 ·exact Nat.lt_of_lt_of_le (h.u0 b e).2.2 h.fr.size
 ·exact Nat.lt_of_lt_of_le (h.lt b e) h.fr.size
theorem kF.lo' (h:kF B tg w w2 u vo v' c):∀b,qI tg u v' cu c b≠0→B≤b:=fun b hb=>by
 rcases pq hb with e|e|e
 ·rcases h.at_ with e'|⟨b',e',hb'⟩
  ·exact h.lo b (by rw[h.t b (e'.symm.trans e)];exact h.c0)
  ·have:=Option.some.inj (e.symm.trans e')
   have:=h.vlo;omega
 ·exact(h.u0 b e).2.1
 ·exact h.lo b e
end
theorem MO.Bq {w2:World}{u v':Value}(h:MO B tg s g gc cc i k n vF vK vL vD xs ys w)(gr:kF B tg w w2 u vF v' 2)(hu:bE w u (s.f i))(hown:w2.ownsRow B 34 1 v' (i+1) (xs++[u])):
 MO B (qI tg u v' (8+2*i) 2) s g gc cc (i+1) k n v' vK vL vD (xs++[u]) ys (w2.setCell ⟨g,2,none⟩ v'):=by
 have kp:=fun{b:Nat}=>gr.keep (b:=b) h.tm 2 v';refine⟨(gr.blk h.tm qo h.m).bJ 2 v',h.f.step (fun j=>by omega) hown (gr.vg h.tm qo 2 v') (hu.blk (gr.Dx h.tm qo 2 v')) (fun b ⟨j,hb⟩=>kp qo qo qo) gr.old (VD _ _ _ _ _) (VE (gr.uv qo)),
  h.k.keep qo (fun j=>by omega) (fun b hb=>by rcases hb with hb|⟨j,hb⟩<;>exact kp qo qo qo) gr.old,h.c.blk (kp (by rw[h.tc];omega) (by rw[h.tc];omega) (by rw[h.tc];omega)),h.cw.blk (kp (by rw[h.tc];omega) (by rw[h.tc];omega) (by rw[h.tc];omega)),
  (h.l.blk (fun b hb=>kp (by rw[h.tL b hb];omega) (by rw[h.tL b hb];omega) (by rw[h.tL b hb];omega)) fun b hb=>kp qo qo qo).tags fun y hy b hb=>(gr.old b (by rw[hy b hb];omega)).trans (hy b hb),
  h.d.blk fun b hb=>kp (by rw[h.tD b hb];omega) (by rw[h.tD b hb];omega) (by rw[h.tD b hb];omega),(gr.old g (by rw[h.tm];omega)).trans h.tm,(gr.old gc (by rw[h.tc];omega)).trans h.tc,fun b hb=>(gr.old b (by rw[h.tL b hb];omega)).trans (h.tL b hb),fun b hb=>(gr.old b (by rw[h.tD b hb];omega)).trans (h.tD b hb),gr.lt' _ _,gr.lo'⟩
theorem MO.Bn {w2:World}{u v':Value}(h:MO B tg s g gc cc i k n vF vK vL vD xs ys w)(gr:kF B tg w w2 u vK v' 3)(hu:bE w u (s.k k))(hown:w2.ownsRow B 34 1 v' (k+1) (ys++[u])):
 MO B (qI tg u v' (9+2*k) 3) s g gc cc i (k+1) n vF v' vL vD xs (ys++[u]) (w2.setCell ⟨g,3,none⟩ v'):=by
 have kp:=fun{b:Nat}=>gr.keep (b:=b) h.tm 3 v';refine⟨(gr.blk h.tm qo h.m).bJ 3 v',h.f.keep qo (fun j=>by omega) (fun b hb=>by rcases hb with hb|⟨j,hb⟩<;>exact kp qo qo qo) gr.old,h.k.step (fun j=>by omega) hown (gr.vg h.tm qo 3 v') (hu.blk (gr.Dx h.tm qo 3 v')) (fun b ⟨j,hb⟩=>kp qo qo qo) gr.old (VD _ _ _ _ _) (VE (gr.uv qo)),
  h.c.blk (kp (by rw[h.tc];omega) (by rw[h.tc];omega) (by rw[h.tc];omega)),h.cw.blk (kp (by rw[h.tc];omega) (by rw[h.tc];omega) (by rw[h.tc];omega)),
  (h.l.blk (fun b hb=>kp (by rw[h.tL b hb];omega) (by rw[h.tL b hb];omega) (by rw[h.tL b hb];omega)) fun b hb=>kp qo qo qo).tags fun y hy b hb=>(gr.old b (by rw[hy b hb];omega)).trans (hy b hb),
  h.d.blk fun b hb=>kp (by rw[h.tD b hb];omega) (by rw[h.tD b hb];omega) (by rw[h.tD b hb];omega),(gr.old g (by rw[h.tm];omega)).trans h.tm,(gr.old gc (by rw[h.tc];omega)).trans h.tc,fun b hb=>(gr.old b (by rw[h.tL b hb];omega)).trans (h.tL b hb),fun b hb=>(gr.old b (by rw[h.tD b hb];omega)).trans (h.tD b hb),gr.lt' _ _,gr.lo'⟩
theorem MO.afg {w2:World}{u v':Value}{q:Nat}{a0 a1 a2 a3 a4:Int}{zs:List Value}(h:MO B tg s g gc cc i k n vF vK vL vD xs ys w)(gr:kF B tg w w2 u vL v' 5)(hq:q≤1048576)(hu:bE w u q)
 (hz:zs.length=n*6) (hp:∀i,i<n→∃(z:Nat→Int) (u:Value) (k:Nat),(∀t,t<5→zs[i*6+t]?=some (.int .i64 (z t)))∧zs[i*6+5]?=some u∧k≤1048576∧bE w u k∧eD tg u 7)
 (hown:w2.ownsRow 0 126 6 v' (n+1) (zs++[.int .i64 a0,.int .i64 a1,.int .i64 a2,.int .i64 a3,.int .i64 a4,u])):
 MO B (qI tg u v' 7 5) s g gc cc i k (n+1) vF vK v' vD xs ys (w2.setCell ⟨g,5,none⟩ v'):=by
 have kp:=fun{b:Nat}=>gr.keep (b:=b) h.tm 5 v';obtain⟨A',c',rfl⟩:=aF hown;have hl:lP (qI tg u (.slice A' (n+1) c') 7 5) (w2.setCell ⟨g,5,none⟩ (.slice A' (n+1) c')) (.slice A' (n+1) c') (n+1):=
  lP.more (w:=w2.setCell ⟨g,5,none⟩ (.slice A' (n+1) c')) (bF hown (gr.vg h.tm qo 5 _)) hz (fun j hj=>by
   obtain⟨z,y,r,h0,h1,h2,h3,h4⟩:=hp j hj;exact⟨z,y,r,h0,h1,h2,h3.blk fun b hb=>kp (by rw[h4 b hb];omega) (by rw[h4 b hb];omega) (by rw[h4 b hb];omega),fun b hb=>(gr.old b (by rw[h4 b hb];omega)).trans (h4 b hb)⟩) (IK _ _ _ _ _ _) (by rfl) hq (hu.blk (gr.Dx h.tm qo 5 _)) (VE (gr.uv qo)) fun _ _=>rfl
 refine⟨(gr.blk h.tm qo h.m).bJ 5 _,h.f.keep qo (fun j=>by omega) (fun b hb=>by rcases hb with hb|⟨j,hb⟩<;>exact kp qo qo qo) gr.old,h.k.keep qo (fun j=>by omega) (fun b hb=>by rcases hb with hb|⟨j,hb⟩<;>exact kp qo qo qo) gr.old,
  h.c.blk (kp (by rw[h.tc];omega) (by rw[h.tc];omega) (by rw[h.tc];omega)),h.cw.blk (kp (by rw[h.tc];omega) (by rw[h.tc];omega) (by rw[h.tc];omega)),hl,
  h.d.blk fun b hb=>kp (by rw[h.tD b hb];omega) (by rw[h.tD b hb];omega) (by rw[h.tD b hb];omega),(gr.old g (by rw[h.tm];omega)).trans h.tm,(gr.old gc (by rw[h.tc];omega)).trans h.tc,VD _ _ _ _ _,fun b hb=>(gr.old b (by rw[h.tD b hb];omega)).trans (h.tD b hb),gr.lt' _ _,gr.lo'⟩
theorem MO.mem (h:MO B tg s g gc cc s.W s.W s.n vF vK vL vD xs ys w)(hW:1≤s.W):fI B (.agg (P7 s gc cc vF vK vL vD)) s w:=by
 obtain⟨gf,cf,rfl⟩:∃gf cf,vF=.slice (some ⟨gf,0,none⟩) s.W cf:=by
  rcases h.f.r.2 with⟨_,h0⟩|⟨q,cap,_,e,_⟩
  ·omega
  ·exact⟨q,cap,e⟩
 obtain⟨gk,ck,rfl⟩:∃gf cf,vK=.slice (some ⟨gf,0,none⟩) s.W cf:=by
  rcases h.k.r.2 with⟨_,h0⟩|⟨q,cap,_,e,_⟩
  ·omega
  ·exact⟨q,cap,e⟩
 have NI:∀{q c:Nat} {zs:List Value},w.ownsRow B 34 1 (.slice (some ⟨q,0,none⟩) s.W c) s.W zs→bI w q 0 s.W (fun j=>zs.getD j undef)∧dS w q 0 s.W:=fun{q c zs} ho=>by
  have hl:=ho.1;refine⟨fun j hj=>?_,by have:=dS.kM ho;rwa[Nat.mul_one]at this⟩;rw[Nat.zero_add,ho.cellAt j qo]
  simp[List.getD,List.getElem?_eq_getElem (show j<zs.length by omega)]
 have hm:Mem tg ⟨g,gf,cf,gk,ck,gc,cc,fun j=>xs.getD j undef,fun j=>ys.getD j undef,vL,vD⟩ s w:=
  ⟨h.m,(NI h.f.r).1,(NI h.f.r).2,(NI h.k.r).1,(NI h.k.r).2,h.c,h.cw,h.f.l,h.k.l,h.l,h.d,h.tm,h.f.t _ rfl,h.k.t _ rfl,h.tc,h.tL,h.tD,h.f.e,h.k.e,h.lt⟩
 exact hm.makes h.lo
end
def Fq (W0:World)(s:aI)(q:Nat)(s3:Value)(wx:World):Prop:=
 ∃(g:Nat) (AC:OA) (cC:Nat) (AP:OA) (cP:Nat),s3=.pointer (some ⟨g,0,none⟩)∧aB wx g 58 #[.int .i64 s.W,.int .i64 s.rk,.slice none 0 0,.slice none 0 0,.slice AC 4 cC,.slice none 0 0,.slice AP q cP]∧wx.ownsRow W0.heap.size 148 2 (.slice AC 4 cC) 4 (Y4 s)∧bE wx (.slice AP q cP) q∧W0.heap.size≤g∧(∀b,(Value.slice AC 4 cC).ownBlock=some b→b≠g)∧(∀b,(Value.slice AP q cP).ownBlock=some b→W0.heap.size≤b∧b≠g∧∀c,(Value.slice AC 4 cC).ownBlock=some c→b≠c)∧Below W0.heap.size W0 wx
theorem Fq.start {W0 wx:World}{s:aI}{q:Nat}{s3:Value}(h:Fq W0 s q s3 wx)(hq:q≤s.d):∃g gc cc tg vD,s3=.pointer (some ⟨g,0,none⟩)∧MO W0.heap.size tg s g gc cc 0 0 0 (.slice none 0 0) (.slice none 0 0) (.slice none 0 0) vD [] [] wx∧Below W0.heap.size W0 wx:=by
 obtain⟨g,AC,cC,AP,cP,rfl,hm,hc,hd,hg,hnc,hnd,hb⟩:=h;obtain⟨gc,rfl,hgc⟩:∃gc,AC=some ⟨gc,0,none⟩∧W0.heap.size≤gc:=by
  rcases hc.2 with⟨_,h0⟩|⟨y,cap,_,e,hy,_⟩
  ·omega
  ·injection e with e1 e2 e3
   exact⟨y,e1,hy⟩
 have hcg:gc≠g:=hnc gc rfl;have ahK:gc<wx.heap.size:=(hc.lt gc rfl).2;have hrow:bI wx gc 0 8 (nO s):=fun j hj=>by
  rw[Nat.zero_add,hc.cellAt j qo]
  simp[Y4,List.getElem?_range hj]
 refine⟨g,gc,cC,fun b=>if b=g then 1 else if b=gc then 4 else if(Value.slice AP q cP).ownBlock=some b then 6 else 0,.slice AP q cP,rfl,⟨hm,⟨World.ownsRow_nil _ _ _ _,fun j hj=>absurd hj (Nat.not_lt_zero _),fun b hb=>(by cases hb),fun j hj=>absurd hj (Nat.not_lt_zero _)⟩,⟨World.ownsRow_nil _ _ _ _,fun j hj=>absurd hj (Nat.not_lt_zero _),fun b hb=>(by cases hb),fun j hj=>absurd hj (Nat.not_lt_zero _)⟩,hrow,dS.kM hc,
  ⟨[],World.ownsRow_nil _ _ _ _,fun i hi=>absurd hi (Nat.not_lt_zero _)⟩,⟨q,hq,hd⟩,if_pos rfl,?_,fun b hb=>(by cases hb),fun b hb=>?_,fun b hb=>?_,fun b hb=>?_⟩,hb⟩
 ·show(if gc=g then 1 else if gc=gc then 4 else _)=4
  rw[if_neg hcg,if_pos rfl]
 ·have h1:=hnd b hb
  show(if b=g then 1 else if b=gc then 4 else if _=some b then 6 else 0)=6;rw[if_neg h1.2.1,if_neg (h1.2.2 gc rfl),if_pos hb]
 ·by_cases h1:b=g
  ·subst h1;exact hm.lt
  ·by_cases h2:b=gc
   ·subst h2;exact ahK
   ·by_cases h3:(Value.slice AP q cP).ownBlock=some b
    ·exact hd.lt b h3
    ·exact absurd (show(if b=g then 1 else if b=gc then 4 else if(Value.slice AP q cP).ownBlock=some b then 6 else 0)=0 by rw[if_neg h1,if_neg h2,if_neg h3]) hb
 ·by_cases h1:b=g
  ·omega
  ·by_cases h2:b=gc
   ·omega
   ·by_cases h3:(Value.slice AP q cP).ownBlock=some b
    ·exact(hnd b h3).1
    ·exact absurd (show(if b=g then 1 else if b=gc then 4 else if(Value.slice AP q cP).ownBlock=some b then 6 else 0)=0 by rw[if_neg h1,if_neg h2,if_neg h3]) hb
section
variable {tg:Nat→Nat}{a:bC}{s:aI}{D:Nat}{w:World}
theorem EU (H:Mem tg a s w)(hs:bW s D)(hD:D≤1000000):Calls Tryz.prog 60 #[.pointer (some ⟨a.g,0,none⟩)] w (Fu w s):=by
 obtain⟨i0,hi,iz,is,ib⟩:=info_parts WQ;obtain⟨ic,hic,icz,ics,icb⟩:=info_parts acJ;obtain⟨j0,hj,jz,js,jb⟩:=info_parts Dz;have fB:=hs.fb;have hkb:=hs.kb;have hnb:=hs.nb;have hdb:=hs.db;have hW1:=hs.w1;have hW2:=hs.w2;obtain⟨W0,hW0⟩:=qx (w.alloc (.cells e9 58));have HB0:Hq (Below w.heap.size w W0):=qh (hW0▸qb);have xS:Hq (aB W0 w.heap.size 58 e9):=qh (hW0▸aB.at_ _ _ _ rfl);have HS0:Hq (W0.heap.size=w.heap.size+1):=qh (by rw[hW0];simp);have HW0:=qh hW0;have H0:=H.below HB0.o;obtain⟨q,SR,hq⟩:=H0.d;obtain⟨AD,cD,DR⟩:=hq.form;rw[DR]at hq;have m0:W0.cell? ⟨a.g,0,none⟩=some (.int .i64 s.W):=H0.m.cell 0;have m1:W0.cell? ⟨a.g,1,none⟩=some (.int .i64 s.rk):=H0.m.cell 1;have m4:W0.cell? ⟨a.g,4,none⟩=some (.slice (some ⟨a.gc,0,none⟩) 4 a.cc):=H0.m.cell 4;have m6:W0.cell? ⟨a.g,6,none⟩=some (.slice AD q cD):=(H0.m.cell 6).trans (by rw[←DR];rfl);have M0:=qh m0;have M1:=qh m1;have M4:=qh m4;have M6:=qh m6;have dP:Hq (a.g<W0.heap.size):=qh (H0.lt a.g (by rw[H0.tm];omega));have HLC:Hq (a.gc<W0.heap.size):=qh (H0.lt a.gc (by rw[H0.tc];omega));have xH:=qh H0.c;have HQ:=qh hq;have HH:=qh H0;obtain⟨W,hW⟩:=qx (W0.drew);have av:Hq (Below W0.heap.size W0 W):=qh (hW▸(Below.refl _ _).drew);have hq106:q≤1048576:=qo;clear H H0 hW0 hq hs DR
 go_enter Tryz.func60,Tryz.ntmps60
 go_upto_region 1 with(fail)
 unfold e9 at HW0;rw[←HW0.o]
 go_cut [3]from 7 to 26 (Fq W0 s q)
 case first=>
  refine cN (S:=fun w'=>w'.cell? ⟨a.g,0,none⟩=some (.int .i64 s.W)∧w'.cell? ⟨a.g,1,none⟩=some (.int .i64 s.rk)∧w'.cell? ⟨a.g,4,none⟩=some (.slice (some ⟨a.gc,0,none⟩) 4 a.cc)∧w'.cell? ⟨a.g,6,none⟩=some (.slice AD q cD)) _ qj qk qk ⟨m0,m1,m4,m6⟩ (fun gG=>?_)
  simp only[List.dropLast,List.getLast_cons_cons,List.getLast_singleton,List.length_cons,List.length_nil]
  rw[←hW];rw[←hW]at gG;have acg:W.cell? ⟨a.g,0,none⟩=some (.int .i64 s.W):=hW▸m0;have acf:W.cell? ⟨a.g,1,none⟩=some (.int .i64 s.rk):=hW▸m1;have ace:W.cell? ⟨a.g,4,none⟩=some (.slice (some ⟨a.gc,0,none⟩) 4 a.cc):=hW▸m4;have acd:W.cell? ⟨a.g,6,none⟩=some (.slice AD q cD):=hW▸m6;clear m0 m1 m4 m6 hW;refine qt 0 gG ?_;refine qt 1 gG ?_;refine qt 2 gG ?_;refine qt 3 gG ?_;refine qt 4 gG ?_;refine qt 5 gG ?_;refine qt 6 gG ?_;refine qt 7 gG ?_;refine qt 9 gG ?_;refine qt 10 gG ?_;refine qt 11 gG ?_;refine qt 12 gG ?_;refine qt 14 gG ?_;refine qt 15 gG ?_;refine qt 16 gG ?_;refine qt 17 gG ?_
  simp only[List.getElem_toArray,List.getElem_cons_succ,List.getElem_cons_zero,Act.put,List.setIfInBounds_toArray,List.set_cons_zero,List.set_cons_succ]
  refine wpAnyH_ready (rs:=[8,20]) qk qj ?_;refine AllReadyH.cons rfl (fun K hK=>?_) (AllReadyH.cons rfl (fun K hK=>?_) AllReadyH.nil)
  ·simp only[List.getElem_toArray,List.getElem_cons_succ,List.getElem_cons_zero]
   go_simp
   obtain⟨v1,hN⟩:=qx (W.alloc (.cells #[] 148));rw[←hN];have hbN:Below W.heap.size W v1:=hN▸qb;have vX:Hq (Below W0.heap.size W0 v1):=av.st hbN;have Cy:=((aA vX.o).1 a.g 0 dP.o).trans M0.out;have Cv:=((aA vX.o).1 a.g 1 dP.o).trans M1.out;have Ct:=((aA vX.o).1 a.g 4 dP.o).trans M4.out;have Cq:=((aA vX.o).1 a.g 6 dP.o).trans M6.out;clear acg acf ace acd;have Gf:Hq (v1.ownsRow W0.heap.size 148 2 (.slice (some ⟨W.heap.size,0,none⟩) 0 0) 0 []):=qh (hN▸eF (World.ownsRow_made (e:=148) (size:=2) W #[] 0 ql qm rfl) av.o.size);have Pt:Hq (W.heap.size<v1.heap.size):=qh (by rw[hN];simp);have eW:=qh av.o.size;clear hbN hN;refine hK.out _ _ ⟨Cy,Cv,Ct,Cq⟩ (fun XG=>?_);clear hK K gG;refine wpAnyH_ready (rs:=[13,20]) qk qj ?_;refine AllReadyH.cons rfl (fun K hK=>?_) (AllReadyH.cons rfl (fun K hK=>?_) AllReadyH.nil)
   ·simp only[List.getElem_toArray,List.getElem_cons_succ,List.getElem_cons_zero]
    refine EH v1 (by rfl) (.tmp 15) (.tmp 19) _ (by rfl) W0.heap.size 148 ic _ 2 16 Tryz.underlying55 hic icz ics icb rfl qo (.slice (some ⟨W.heap.size,0,none⟩) 0 0) 0 [] (by rfl) Gf.o a.gc 0 4 a.cc (nO s) (by rfl) ((xH.o).blk (vX.o.block _ HLC.o)) (MU s) qm qo vX.o.size ?_;intro vN v2 sR CZ II;obtain⟨AC,cC,rfl⟩:=aF sR;have hbN:Below W0.heap.size v1 v2:=CZ.below vX.o.size fun b hb=>by obtain rfl:W.heap.size=b:=Option.some.inj hb;exact eW.o
    have yS:Hq (Below W0.heap.size W0 v2):=qh (vX.o.trans hbN);have Cw:=((aA yS.o).1 a.g 0 dP.o).trans M0.out;have Cu:=((aA yS.o).1 a.g 1 dP.o).trans M1.out;have Cr:=((aA yS.o).1 a.g 4 dP.o).trans M4.out;have Co:=((aA yS.o).1 a.g 6 dP.o).trans M6.out;clear Cy Cv Ct Cq;have V2:Hq (v2.ownsRow W0.heap.size 148 2 (.slice AC 4 cC) 4 (Y4 s)):=qh sR;have HAT:Hq ((Value.slice AC (0+4) cC).ownBlock=some W.heap.size∨(Value.slice AC (0+4) cC).ownBlock=some v1.heap.size):=qh II;clear sR CZ II hbN;refine hK.out _ _ ⟨Cw,Cu,Cr,Co⟩ (fun XF=>?_);clear hK K XG;refine wpAnyH_ready (rs:=[18,20]) qk qj ?_;refine AllReadyH.cons rfl (fun K hK=>?_) (AllReadyH.cons rfl (fun K hK=>?_) AllReadyH.nil)
    ·simp only[List.getElem_toArray,List.getElem_cons_succ,List.getElem_cons_zero]
     go_simp
     refine(iO _ q v2 (HQ.o.blk fun b hb=>yS.o.block b (HQ.o.lt b hb)) qo).mono ?_;rintro e v3 ⟨vp,rfl,hlp,hnp,hbN⟩;obtain⟨AP,cP,rfl⟩:=hlp.form;have K8:Hq (Below W0.heap.size W0 v3):=yS.st hbN;have Xz:=((aA K8.o).1 a.g 0 dP.o).trans M0.out;have Xr:=((aA K8.o).1 a.g 1 dP.o).trans M1.out;have Xk:=((aA K8.o).1 a.g 4 dP.o).trans M4.out;have Xd:=((aA K8.o).1 a.g 6 dP.o).trans M6.out;clear Cw Cu Cr Co;have af0:=qh hlp;have aah:=qh (own_below V2.o hbN);have L6:Hq (∀b,(Value.slice AP q cP).ownBlock=some b→v2.heap.size≤b∧b<v3.heap.size):=qh (fun b hb=>⟨hnp b hb,hlp.lt b hb⟩);have N9:Hq (∀b,(Value.slice AC 4 cC).ownBlock=some b→b<v2.heap.size):=qh (fun b hb=>(V2.o.lt b hb).2);have E4:=qh yS.o.size;clear hlp hnp hbN;refine hK.out _ _ ⟨Xz,Xr,Xk,Xd⟩ (fun XE=>?_);clear hK K XF;refine qt 19 XE ?_
     simp only[List.getElem_toArray,List.getElem_cons_succ,List.getElem_cons_zero,Act.put,List.setIfInBounds_toArray,List.set_cons_zero,List.set_cons_succ]
     refine wpAnyH_ready (rs:=[20]) qk qj ?_;refine AllReadyH.cons rfl (fun K hK=>?_) AllReadyH.nil
     simp only[List.getElem_toArray,List.getElem_cons_succ,List.getElem_cons_zero]
     go_simp
     obtain⟨v4,hN⟩:=qx (v3.alloc (.cells e9 58));unfold e9 at hN;rw[←hN];have hbN:Below v3.heap.size v3 v4:=hN▸qb;have Q2:Hq (Below W0.heap.size W0 v4):=K8.st hbN;have Xy:=((aA Q2.o).1 a.g 0 dP.o).trans M0.out;have Xq:=((aA Q2.o).1 a.g 1 dP.o).trans M1.out;have Xj:=((aA Q2.o).1 a.g 4 dP.o).trans M4.out;have Xc:=((aA Q2.o).1 a.g 6 dP.o).trans M6.out;clear Xz Xr Xk Xd;have nS:Hq (aB v4 v3.heap.size 58 e9):=qh (hN▸aB.at_ _ _ _ rfl);have jN:=qh K8.o.size;have af5:=qh (own_below aah.o hbN);have iW:Hq (∀b,(Value.slice AC 4 cC).ownBlock=some b→b≠v3.heap.size):=qh (fun b hb=>by have:=(aah.o.lt b hb).2;omega);have afZ:=qh (af0.o.blk fun b hb=>hbN.block b (L6.o b hb).2);have eR:Hq (∀b,(Value.slice AP q cP).ownBlock=some b→W0.heap.size≤b∧b≠v3.heap.size∧∀c,(Value.slice AC 4 cC).ownBlock=some c→b≠c):=qh (fun b hb=>by
      have h1:=L6.o b hb;have h3:=E4.o;exact⟨by omega,by omega,fun c hc=>by have h4:=N9.o c hc;omega⟩)
     clear hbN hN;refine hK.out _ _ ⟨Xy,Xq,Xj,Xc⟩ (fun Sz=>?_);clear hK K XE;have hg0:=nS.o.cell 0;have hg1:=nS.o.cell 1;have hg2:=nS.o.cell 2;have hg3:=nS.o.cell 3;have hg4:=nS.o.cell 4;have hg5:=nS.o.cell 5;have mJ:=nS.o.cell 6;have hf0:=nS.o.frozen 0;have hf1:=nS.o.frozen 1;have hf2:=nS.o.frozen 2;have hf3:=nS.o.frozen 3;have fW:=nS.o.frozen 4;have rY:=nS.o.frozen 5;have nG:=nS.o.frozen 6;refine wpAnyH_done qk ?_ _;refine d8.of ?_
     go_simp
     clear Sz Xy Xq Xj Xc hg0 hg1 hg2 hg3 hg4 hg5 mJ hf0 hf1 hf2 hf3 fW rY nG
     go_wp2_with fail
     go_meet
     exact⟨v3.heap.size,AC,cC,AP,cP,rfl,(((((((nS.o.bJ 0 _).bJ 1 _).bJ 2 _).bJ 3 _).bJ 4 _).bJ 5 _).bJ 6 _),(bF (bF (bF (bF (bF (bF (bF af5.o fun b hb=>aE _ _ _ _ (iW.o b hb)) fun b hb=>aE _ _ _ _ (iW.o b hb)) fun b hb=>aE _ _ _ _ (iW.o b hb)) fun b hb=>aE _ _ _ _ (iW.o b hb)) fun b hb=>aE _ _ _ _ (iW.o b hb)) fun b hb=>aE _ _ _ _ (iW.o b hb)) fun b hb=>aE _ _ _ _ (iW.o b hb)),(((((((afZ.o.blk fun b hb=>aE _ _ _ _ (eR.o b hb).2.1).blk fun b hb=>aE _ _ _ _ (eR.o b hb).2.1).blk fun b hb=>aE _ _ _ _ (eR.o b hb).2.1).blk fun b hb=>aE _ _ _ _ (eR.o b hb).2.1).blk fun b hb=>aE _ _ _ _ (eR.o b hb).2.1).blk fun b hb=>aE _ _ _ _ (eR.o b hb).2.1).blk fun b hb=>aE _ _ _ _ (eR.o b hb).2.1),jN.o,iW.o,eR.o,(((((((Q2.o.setCell jN.o _).setCell jN.o _).setCell jN.o _).setCell jN.o _).setCell jN.o _).setCell jN.o _).setCell jN.o _)⟩
    ·simp only[List.getElem_toArray,List.getElem_cons_succ,List.getElem_cons_zero]
     go_simp
     obtain⟨v5,hN⟩:=qx (v2.alloc (.cells e9 58));unfold e9 at hN;rw[←hN];have hbN:Below v2.heap.size v2 v5:=hN▸qb;have fS7:Hq (Below W0.heap.size W0 v5):=yS.st hbN;have Xx:=((aA fS7.o).1 a.g 0 dP.o).trans M0.out;have Xp:=((aA fS7.o).1 a.g 1 dP.o).trans M1.out;have Xi:=((aA fS7.o).1 a.g 4 dP.o).trans M4.out;have Xb:=((aA fS7.o).1 a.g 6 dP.o).trans M6.out;clear Cw Cu Cr Co;have Gc:Hq (aB v5 v2.heap.size 58 e9):=qh (hN▸aB.at_ _ _ _ rfl);have jN:=qh yS.o.size;have aag:=qh (own_below V2.o hbN);have iW:Hq (∀b,(Value.slice AC 4 cC).ownBlock=some b→b≠v2.heap.size):=qh (fun b hb=>by have:=(V2.o.lt b hb).2;omega);clear hbN hN;refine hK.out _ _ ⟨Xx,Xp,Xi,Xb⟩ (fun Sy=>?_);clear hK K XF;refine wpAnyH_ready (rs:=[18]) qk qj ?_;refine AllReadyH.cons rfl (fun K hK=>?_) AllReadyH.nil
     simp only[List.getElem_toArray,List.getElem_cons_succ,List.getElem_cons_zero]
     go_simp
     refine(iO _ q v5 (HQ.o.blk fun b hb=>fS7.o.block b (HQ.o.lt b hb)) qo).mono ?_;rintro e v6 ⟨vp,rfl,hlp,hnp,hbN⟩;obtain⟨AP,cP,rfl⟩:=hlp.form;have Q1:Hq (Below W0.heap.size W0 v6):=fS7.st hbN;have Xw:=((aA Q1.o).1 a.g 0 dP.o).trans M0.out;have Xo:=((aA Q1.o).1 a.g 1 dP.o).trans M1.out;have Xh:=((aA Q1.o).1 a.g 4 dP.o).trans M4.out;have Xa:=((aA Q1.o).1 a.g 6 dP.o).trans M6.out;clear Xx Xp Xi Xb;have afY:=qh hlp;have af4:=qh (own_below aag.o hbN);have L6:Hq (∀b,(Value.slice AP q cP).ownBlock=some b→v5.heap.size≤b∧b<v6.heap.size):=qh (fun b hb=>⟨hnp b hb,hlp.lt b hb⟩);have N9:Hq (∀b,(Value.slice AC 4 cC).ownBlock=some b→b<v5.heap.size):=qh (fun b hb=>(aag.o.lt b hb).2);have E4:=qh fS7.o.size;have nR:=qh (Gc.o.below hbN Gc.o.lt);have eR:Hq (∀b,(Value.slice AP q cP).ownBlock=some b→W0.heap.size≤b∧b≠v2.heap.size∧∀c,(Value.slice AC 4 cC).ownBlock=some c→b≠c):=qh (fun b hb=>by
      have h1:=(L6.o b hb).1;have h2:=Gc.o.lt;have h3:=E4.o;exact⟨by omega,by omega,fun c hc=>by have h4:=N9.o c hc;omega⟩)
     clear hlp hnp hbN;refine hK.out _ _ ⟨Xw,Xo,Xh,Xa⟩ (fun XD=>?_);clear hK K Sy;refine qt 19 XD ?_
     simp only[List.getElem_toArray,List.getElem_cons_succ,List.getElem_cons_zero,Act.put,List.setIfInBounds_toArray,List.set_cons_zero,List.set_cons_succ]
     have hg0:=nR.o.cell 0;have hg1:=nR.o.cell 1;have hg2:=nR.o.cell 2;have hg3:=nR.o.cell 3;have hg4:=nR.o.cell 4;have hg5:=nR.o.cell 5;have mJ:=nR.o.cell 6;have hf0:=nR.o.frozen 0;have hf1:=nR.o.frozen 1;have hf2:=nR.o.frozen 2;have hf3:=nR.o.frozen 3;have fW:=nR.o.frozen 4;have rY:=nR.o.frozen 5;have nG:=nR.o.frozen 6;refine wpAnyH_done qk ?_ _;refine d8.of ?_
     go_simp
     clear XD Xw Xo Xh Xa hg0 hg1 hg2 hg3 hg4 hg5 mJ hf0 hf1 hf2 hf3 fW rY nG
     go_wp2_with fail
     go_meet
     exact⟨v2.heap.size,AC,cC,AP,cP,rfl,(((((((nR.o.bJ 0 _).bJ 1 _).bJ 2 _).bJ 3 _).bJ 4 _).bJ 5 _).bJ 6 _),(bF (bF (bF (bF (bF (bF (bF af4.o fun b hb=>aE _ _ _ _ (iW.o b hb)) fun b hb=>aE _ _ _ _ (iW.o b hb)) fun b hb=>aE _ _ _ _ (iW.o b hb)) fun b hb=>aE _ _ _ _ (iW.o b hb)) fun b hb=>aE _ _ _ _ (iW.o b hb)) fun b hb=>aE _ _ _ _ (iW.o b hb)) fun b hb=>aE _ _ _ _ (iW.o b hb)),(((((((afY.o.blk fun b hb=>aE _ _ _ _ (eR.o b hb).2.1).blk fun b hb=>aE _ _ _ _ (eR.o b hb).2.1).blk fun b hb=>aE _ _ _ _ (eR.o b hb).2.1).blk fun b hb=>aE _ _ _ _ (eR.o b hb).2.1).blk fun b hb=>aE _ _ _ _ (eR.o b hb).2.1).blk fun b hb=>aE _ _ _ _ (eR.o b hb).2.1).blk fun b hb=>aE _ _ _ _ (eR.o b hb).2.1),jN.o,iW.o,eR.o,(((((((Q1.o.setCell jN.o _).setCell jN.o _).setCell jN.o _).setCell jN.o _).setCell jN.o _).setCell jN.o _).setCell jN.o _)⟩
   ·simp only[List.getElem_toArray,List.getElem_cons_succ,List.getElem_cons_zero]
    go_simp
    obtain⟨v7,hN⟩:=qx (v1.alloc (.cells e9 58));unfold e9 at hN;rw[←hN];have hbN:Below v1.heap.size v1 v7:=hN▸qb;have CL:Hq (Below W0.heap.size W0 v7):=vX.st hbN;have Xv:=((aA CL.o).1 a.g 0 dP.o).trans M0.out;have Xn:=((aA CL.o).1 a.g 1 dP.o).trans M1.out;have Xg:=((aA CL.o).1 a.g 4 dP.o).trans M4.out;have Wz:=((aA CL.o).1 a.g 6 dP.o).trans M6.out;clear Cy Cv Ct Cq;have Zz:Hq (aB v7 v1.heap.size 58 e9):=qh (hN▸aB.at_ _ _ _ rfl);have jN:=qh vX.o.size;have af3:=qh (own_below Gf.o hbN);have ZB:Hq (W.heap.size<v1.heap.size):=qh (by have:=(Gf.o.lt _ rfl).2;omega);clear hbN hN;refine hK.out _ _ ⟨Xv,Xn,Xg,Wz⟩ (fun Sw=>?_);clear hK K XG;refine wpAnyH_ready (rs:=[13]) qk qj ?_;refine AllReadyH.cons rfl (fun K hK=>?_) AllReadyH.nil
    simp only[List.getElem_toArray,List.getElem_cons_succ,List.getElem_cons_zero]
    refine EH v7 (by rfl) (.tmp 15) (.tmp 19) _ (by rfl) W0.heap.size 148 ic _ 2 16 Tryz.underlying55 hic icz ics icb rfl qo (.slice (some ⟨W.heap.size,0,none⟩) 0 0) 0 [] (by rfl) af3.o a.gc 0 4 a.cc (nO s) (by rfl) ((xH.o).blk (CL.o.block _ HLC.o)) (MU s) qm qo CL.o.size ?_;intro vN v8 sR CZ II;obtain⟨AC,cC,rfl⟩:=aF sR;have hbN:Below W0.heap.size v7 v8:=CZ.below CL.o.size fun b hb=>by obtain rfl:W.heap.size=b:=Option.some.inj hb;exact eW.o
    have FQ:Hq (Below W0.heap.size W0 v8):=qh (CL.o.trans hbN);have Xu:=((aA FQ.o).1 a.g 0 dP.o).trans M0.out;have Xm:=((aA FQ.o).1 a.g 1 dP.o).trans M1.out;have Xf:=((aA FQ.o).1 a.g 4 dP.o).trans M4.out;have Wy:=((aA FQ.o).1 a.g 6 dP.o).trans M6.out;clear Xv Xn Xg Wz;have aaf:Hq (v8.ownsRow W0.heap.size 148 2 (.slice AC 4 cC) 4 (Y4 s)):=qh sR;have HAT:Hq ((Value.slice AC (0+4) cC).ownBlock=some W.heap.size∨(Value.slice AC (0+4) cC).ownBlock=some v7.heap.size):=qh II;have iW:Hq (∀b,(Value.slice AC 4 cC).ownBlock=some b→b≠v1.heap.size):=qh (fun b hb=>by
     have h1:=Zz.o.lt;have h2:=ZB.o
     rcases HAT.o with h|h
     ·have h3:=Option.some.inj (hb.symm.trans h);omega
     ·have h3:=Option.some.inj (hb.symm.trans h);omega)
    have Gb:=qh (Zz.o.fr CZ (fun e=>by have h2:=ZB.o;have h3:W.heap.size=v1.heap.size:=Option.some.inj e;omega));clear sR CZ II hbN;refine hK.out _ _ ⟨Xu,Xm,Xf,Wy⟩ (fun Sv=>?_);clear hK K Sw;refine wpAnyH_ready (rs:=[18]) qk qj ?_;refine AllReadyH.cons rfl (fun K hK=>?_) AllReadyH.nil
    simp only[List.getElem_toArray,List.getElem_cons_succ,List.getElem_cons_zero]
    go_simp
    refine(iO _ q v8 (HQ.o.blk fun b hb=>FQ.o.block b (HQ.o.lt b hb)) qo).mono ?_;rintro e v9 ⟨vp,rfl,hlp,hnp,hbN⟩;obtain⟨AP,cP,rfl⟩:=hlp.form;have Q0:Hq (Below W0.heap.size W0 v9):=FQ.st hbN;have Xt:=((aA Q0.o).1 a.g 0 dP.o).trans M0.out;have Xl:=((aA Q0.o).1 a.g 1 dP.o).trans M1.out;have Xe:=((aA Q0.o).1 a.g 4 dP.o).trans M4.out;have Wx:=((aA Q0.o).1 a.g 6 dP.o).trans M6.out;clear Xu Xm Xf Wy;have afX:=qh hlp;have af2:=qh (own_below aaf.o hbN);have L6:Hq (∀b,(Value.slice AP q cP).ownBlock=some b→v8.heap.size≤b∧b<v9.heap.size):=qh (fun b hb=>⟨hnp b hb,hlp.lt b hb⟩);have N9:Hq (∀b,(Value.slice AC 4 cC).ownBlock=some b→b<v8.heap.size):=qh (fun b hb=>(aaf.o.lt b hb).2);have E4:=qh FQ.o.size;have nQ:=qh (Gb.o.below hbN Gb.o.lt);have eR:Hq (∀b,(Value.slice AP q cP).ownBlock=some b→W0.heap.size≤b∧b≠v1.heap.size∧∀c,(Value.slice AC 4 cC).ownBlock=some c→b≠c):=qh (fun b hb=>by
     have h1:=(L6.o b hb).1;have h2:=Gb.o.lt;have h3:=E4.o;exact⟨by omega,by omega,fun c hc=>by have h4:=N9.o c hc;omega⟩)
    clear hlp hnp hbN;refine hK.out _ _ ⟨Xt,Xl,Xe,Wx⟩ (fun XC=>?_);clear hK K Sv;refine qt 19 XC ?_
    simp only[List.getElem_toArray,List.getElem_cons_succ,List.getElem_cons_zero,Act.put,List.setIfInBounds_toArray,List.set_cons_zero,List.set_cons_succ]
    have hg0:=nQ.o.cell 0;have hg1:=nQ.o.cell 1;have hg2:=nQ.o.cell 2;have hg3:=nQ.o.cell 3;have hg4:=nQ.o.cell 4;have hg5:=nQ.o.cell 5;have mJ:=nQ.o.cell 6;have hf0:=nQ.o.frozen 0;have hf1:=nQ.o.frozen 1;have hf2:=nQ.o.frozen 2;have hf3:=nQ.o.frozen 3;have fW:=nQ.o.frozen 4;have rY:=nQ.o.frozen 5;have nG:=nQ.o.frozen 6;refine wpAnyH_done qk ?_ _;refine d8.of ?_
    go_simp
    clear XC Xt Xl Xe Wx hg0 hg1 hg2 hg3 hg4 hg5 mJ hf0 hf1 hf2 hf3 fW rY nG
    go_wp2_with fail
    go_meet
    exact⟨v1.heap.size,AC,cC,AP,cP,rfl,(((((((nQ.o.bJ 0 _).bJ 1 _).bJ 2 _).bJ 3 _).bJ 4 _).bJ 5 _).bJ 6 _),(bF (bF (bF (bF (bF (bF (bF af2.o fun b hb=>aE _ _ _ _ (iW.o b hb)) fun b hb=>aE _ _ _ _ (iW.o b hb)) fun b hb=>aE _ _ _ _ (iW.o b hb)) fun b hb=>aE _ _ _ _ (iW.o b hb)) fun b hb=>aE _ _ _ _ (iW.o b hb)) fun b hb=>aE _ _ _ _ (iW.o b hb)) fun b hb=>aE _ _ _ _ (iW.o b hb)),(((((((afX.o.blk fun b hb=>aE _ _ _ _ (eR.o b hb).2.1).blk fun b hb=>aE _ _ _ _ (eR.o b hb).2.1).blk fun b hb=>aE _ _ _ _ (eR.o b hb).2.1).blk fun b hb=>aE _ _ _ _ (eR.o b hb).2.1).blk fun b hb=>aE _ _ _ _ (eR.o b hb).2.1).blk fun b hb=>aE _ _ _ _ (eR.o b hb).2.1).blk fun b hb=>aE _ _ _ _ (eR.o b hb).2.1),jN.o,iW.o,eR.o,(((((((Q0.o.setCell jN.o _).setCell jN.o _).setCell jN.o _).setCell jN.o _).setCell jN.o _).setCell jN.o _).setCell jN.o _)⟩
  ·simp only[List.getElem_toArray,List.getElem_cons_succ,List.getElem_cons_zero]
   go_simp
   obtain⟨v10,hN⟩:=qx (W.alloc (.cells e9 58));unfold e9 at hN;rw[←hN];have hbN:Below W.heap.size W v10:=hN▸qb;have BF:Hq (Below W0.heap.size W0 v10):=av.st hbN;have Ki:=((aA BF.o).1 a.g 0 dP.o).trans M0.out;have Kc:=((aA BF.o).1 a.g 1 dP.o).trans M1.out;have Jw:=((aA BF.o).1 a.g 4 dP.o).trans M4.out;have Js:=((aA BF.o).1 a.g 6 dP.o).trans M6.out;clear acg acf ace acd;have ZN:Hq (aB v10 W.heap.size 58 e9):=qh (hN▸aB.at_ _ _ _ rfl);have jN:=qh av.o.size;clear hbN hN;refine hK.out _ _ ⟨Ki,Kc,Jw,Js⟩ (fun Mi=>?_);clear hK K gG;refine wpAnyH_ready (rs:=[8]) qk qj ?_;refine AllReadyH.cons rfl (fun K hK=>?_) AllReadyH.nil
   simp only[List.getElem_toArray,List.getElem_cons_succ,List.getElem_cons_zero]
   go_simp
   obtain⟨v11,hN⟩:=qx (v10.alloc (.cells #[] 148));rw[←hN];have hbN:Below v10.heap.size v10 v11:=hN▸qb;have xI:Hq (Below W0.heap.size W0 v11):=BF.st hbN;have Kh:=((aA xI.o).1 a.g 0 dP.o).trans M0.out;have Ka:=((aA xI.o).1 a.g 1 dP.o).trans M1.out;have Jv:=((aA xI.o).1 a.g 4 dP.o).trans M4.out;have Jr:=((aA xI.o).1 a.g 6 dP.o).trans M6.out;clear Ki Kc Jw Js;have aeS:Hq (v11.ownsRow W0.heap.size 148 2 (.slice (some ⟨v10.heap.size,0,none⟩) 0 0) 0 []):=qh (hN▸eF (World.ownsRow_made (e:=148) (size:=2) v10 #[] 0 ql qm rfl) BF.o.size);have Qb:=qh (ZN.o.below hbN ZN.o.lt);have HG8:Hq (W.heap.size<v10.heap.size):=qh ZN.o.lt;have Pt:Hq (v10.heap.size<v11.heap.size):=qh (by rw[hN];simp);have eW:=qh BF.o.size;clear hbN hN;have ZB:Hq (v10.heap.size≠W.heap.size):=qh (by have:=HG8.o;omega);refine hK.out _ _ ⟨Kh,Ka,Jv,Jr⟩ (fun Mh=>?_);clear hK K Mi;refine wpAnyH_ready (rs:=[13]) qk qj ?_;refine AllReadyH.cons rfl (fun K hK=>?_) AllReadyH.nil
   simp only[List.getElem_toArray,List.getElem_cons_succ,List.getElem_cons_zero]
   refine EH v11 (by rfl) (.tmp 15) (.tmp 19) _ (by rfl) W0.heap.size 148 ic _ 2 16 Tryz.underlying55 hic icz ics icb rfl qo (.slice (some ⟨v10.heap.size,0,none⟩) 0 0) 0 [] (by rfl) aeS.o a.gc 0 4 a.cc (nO s) (by rfl) ((xH.o).blk (xI.o.block _ HLC.o)) (MU s) qm qo xI.o.size ?_;intro vN v12 sR CZ II;obtain⟨AC,cC,rfl⟩:=aF sR;have hbN:Below W0.heap.size v11 v12:=CZ.below xI.o.size fun b hb=>by obtain rfl:v10.heap.size=b:=Option.some.inj hb;exact eW.o
   have BE:Hq (Below W0.heap.size W0 v12):=qh (xI.o.trans hbN);have Kg:=((aA BE.o).1 a.g 0 dP.o).trans M0.out;have Jz:=((aA BE.o).1 a.g 1 dP.o).trans M1.out;have Ju:=((aA BE.o).1 a.g 4 dP.o).trans M4.out;have Jq:=((aA BE.o).1 a.g 6 dP.o).trans M6.out;clear Kh Ka Jv Jr;have Qh:Hq (v12.ownsRow W0.heap.size 148 2 (.slice AC 4 cC) 4 (Y4 s)):=qh sR;have HAT:Hq ((Value.slice AC (0+4) cC).ownBlock=some v10.heap.size∨(Value.slice AC (0+4) cC).ownBlock=some v11.heap.size):=qh II;have iW:Hq (∀b,(Value.slice AC 4 cC).ownBlock=some b→b≠W.heap.size):=qh (fun b hb=>by
    have h1:=Qb.o.lt;have h2:=ZB.o
    rcases HAT.o with h|h
    ·have h3:=Option.some.inj (hb.symm.trans h);omega
    ·have h3:=Option.some.inj (hb.symm.trans h);omega)
   have ZM:=qh (Qb.o.fr CZ (fun e=>by have h2:=ZB.o;have h3:v10.heap.size=W.heap.size:=Option.some.inj e;omega));clear sR CZ II hbN;refine hK.out _ _ ⟨Kg,Jz,Ju,Jq⟩ (fun Mg=>?_);clear hK K Mh;refine wpAnyH_ready (rs:=[18]) qk qj ?_;refine AllReadyH.cons rfl (fun K hK=>?_) AllReadyH.nil
   simp only[List.getElem_toArray,List.getElem_cons_succ,List.getElem_cons_zero]
   go_simp
   refine(iO _ q v12 (HQ.o.blk fun b hb=>BE.o.block b (HQ.o.lt b hb)) qo).mono ?_;rintro e v13 ⟨vp,rfl,hlp,hnp,hbN⟩;obtain⟨AP,cP,rfl⟩:=hlp.form;have JE:Hq (Below W0.heap.size W0 v13):=BE.st hbN;have Ke:=((aA JE.o).1 a.g 0 dP.o).trans M0.out;have Jy:=((aA JE.o).1 a.g 1 dP.o).trans M1.out;have Jt:=((aA JE.o).1 a.g 4 dP.o).trans M4.out;have Jp:=((aA JE.o).1 a.g 6 dP.o).trans M6.out;clear Kg Jz Ju Jq;have aeQ:=qh hlp;have aeR:=qh (own_below Qh.o hbN);have L6:Hq (∀b,(Value.slice AP q cP).ownBlock=some b→v12.heap.size≤b∧b<v13.heap.size):=qh (fun b hb=>⟨hnp b hb,hlp.lt b hb⟩);have N9:Hq (∀b,(Value.slice AC 4 cC).ownBlock=some b→b<v12.heap.size):=qh (fun b hb=>(Qh.o.lt b hb).2);have E4:=qh BE.o.size;have kX:=qh (ZM.o.below hbN ZM.o.lt);have eR:Hq (∀b,(Value.slice AP q cP).ownBlock=some b→W0.heap.size≤b∧b≠W.heap.size∧∀c,(Value.slice AC 4 cC).ownBlock=some c→b≠c):=qh (fun b hb=>by
    have h1:=(L6.o b hb).1;have h2:=ZM.o.lt;have h3:=E4.o;exact⟨by omega,by omega,fun c hc=>by have h4:=N9.o c hc;omega⟩)
   clear hlp hnp hbN;refine hK.out _ _ ⟨Ke,Jy,Jt,Jp⟩ (fun SV=>?_);clear hK K Mg;refine qt 19 SV ?_
   simp only[List.getElem_toArray,List.getElem_cons_succ,List.getElem_cons_zero,Act.put,List.setIfInBounds_toArray,List.set_cons_zero,List.set_cons_succ]
   have hg0:=kX.o.cell 0;have hg1:=kX.o.cell 1;have hg2:=kX.o.cell 2;have hg3:=kX.o.cell 3;have hg4:=kX.o.cell 4;have hg5:=kX.o.cell 5;have mJ:=kX.o.cell 6;have hf0:=kX.o.frozen 0;have hf1:=kX.o.frozen 1;have hf2:=kX.o.frozen 2;have hf3:=kX.o.frozen 3;have fW:=kX.o.frozen 4;have rY:=kX.o.frozen 5;have nG:=kX.o.frozen 6;refine wpAnyH_done qk ?_ _;refine d8.of ?_
   go_simp
   clear SV Ke Jy Jt Jp hg0 hg1 hg2 hg3 hg4 hg5 mJ hf0 hf1 hf2 hf3 fW rY nG
   go_wp2_with fail
   go_meet
   exact⟨W.heap.size,AC,cC,AP,cP,rfl,(((((((kX.o.bJ 0 _).bJ 1 _).bJ 2 _).bJ 3 _).bJ 4 _).bJ 5 _).bJ 6 _),(bF (bF (bF (bF (bF (bF (bF aeR.o fun b hb=>aE _ _ _ _ (iW.o b hb)) fun b hb=>aE _ _ _ _ (iW.o b hb)) fun b hb=>aE _ _ _ _ (iW.o b hb)) fun b hb=>aE _ _ _ _ (iW.o b hb)) fun b hb=>aE _ _ _ _ (iW.o b hb)) fun b hb=>aE _ _ _ _ (iW.o b hb)) fun b hb=>aE _ _ _ _ (iW.o b hb)),(((((((aeQ.o.blk fun b hb=>aE _ _ _ _ (eR.o b hb).2.1).blk fun b hb=>aE _ _ _ _ (eR.o b hb).2.1).blk fun b hb=>aE _ _ _ _ (eR.o b hb).2.1).blk fun b hb=>aE _ _ _ _ (eR.o b hb).2.1).blk fun b hb=>aE _ _ _ _ (eR.o b hb).2.1).blk fun b hb=>aE _ _ _ _ (eR.o b hb).2.1).blk fun b hb=>aE _ _ _ _ (eR.o b hb).2.1),jN.o,iW.o,eR.o,(((((((JE.o.setCell jN.o _).setCell jN.o _).setCell jN.o _).setCell jN.o _).setCell jN.o _).setCell jN.o _).setCell jN.o _)⟩
 case rest=>
  obtain⟨g,gc,cc,Vy,vD,rfl,hmo,hbc⟩:=hcut.start SR;have HMO:=qh hmo;have HBC:=qh hbc;have HDF:Hq (∃A n c,vD=.slice A n c):=qh (by obtain⟨y,_,ys,hy⟩:=hmo.d;obtain⟨A,c,e⟩:=aF hy;exact⟨A,y,c,e⟩);clear hcut hmo hbc m0 m1 m4 m6 hW
  go_wp2_with fail
  go_loopw [4] (fun iv wr=>∃(i:Nat) (Bc:Nat→Nat) (vF vK:Value) (xs ys:List Value),i≤s.W∧iv=.int .i64 i∧MO W0.heap.size Bc s g gc cc i i 0 vF vK (.slice none 0 0) vD xs ys wr∧Below W0.heap.size W0 wr) (fun iv _=>s.W-(intOf iv).toNat)
  case atStart=>exact⟨0,_,_,_,_,_,Nat.zero_le _,rfl,HMO.o,HBC.o⟩
  case round=>
   obtain⟨i,Bc,vF,vK,xs,ys,hile,rfl,hm,hb⟩:=hrel;have Ga:=qh hm;have tG:=qh hb;obtain⟨⟨AF,cF,rfl⟩,⟨AK,cK,rfl⟩,_⟩:=hm.lists;have Ef:=HH.o.below hb;have m0:wr.cell? ⟨a.g,0,none⟩=some (.int .i64 s.W):=Ef.m.cell 0;have m5:=Ef.m.cell 5;clear hm hb Ef
   by_cases hlt:i<s.W
   ·clear m5
    have gr2:Hq (wr.cell? ⟨g,2,none⟩=some (.slice AF i cF)):=qh (Ga.o.m.cell 2);have hmem:=HH.o.below tG.o;have m2:wr.cell? ⟨a.g,2,none⟩=some (.slice (some ⟨a.gf,0,none⟩) s.W a.cf):=hmem.m.cell 2;obtain⟨Al,cl,hal⟩:=(hmem.lf i hlt).form;have WY:=hmem.lf i hlt;rw[hal]at WY;have x2:wr.cell? ⟨a.gf,i,none⟩=some (.slice Al (s.f i) cl):=by have h:=hmem.f i hlt;rw[Nat.zero_add]at h;rw[h,hal]
    have hl4:=fB i hlt;have Pq:=qh WY;have hgf:Hq (a.gf<W0.heap.size):=qh (HH.o.lt a.gf (by rw[HH.o.tf];omega));have g2:=gr2.out;have X2:=qh x2;have M2:=qh m2;have CK:Hq (i+1≤maxLen∧(i+1)*24≤140737488355328∧s.f i≤1048576):=qh ⟨by unfold maxLen;omega,by omega,by omega⟩;clear hmem hal WY hl4
    go_wp2_with fail
    refine cN (S:=fun w'=>w'.cell? ⟨g,2,none⟩=some (.slice AF i cF)∧w'.cell? ⟨a.g,2,none⟩=some (.slice (some ⟨a.gf,0,none⟩) s.W a.cf)∧w'.cell? ⟨a.gf,i,none⟩=some (.slice Al (s.f i) cl)) _ qj qk qk ⟨g2,m2,x2⟩ (fun cY=>?_)
    simp only[List.dropLast,List.getLast_cons_cons,List.getLast_singleton,List.length_cons,List.length_nil]
    refine qt 0 cY ?_;refine qt 1 cY ?_;refine qt 2 cY ?_;refine qt 3 cY ?_;refine qt 4 cY ?_;refine qt 5 cY ?_;refine qt 6 cY ?_;refine qt 7 cY ?_;refine qt 8 cY ?_
    simp only[List.getElem_toArray,List.getElem_cons_succ,List.getElem_cons_zero,Act.put,List.setIfInBounds_toArray,List.set_cons_zero,List.set_cons_succ]
    refine wpAnyH_ready (rs:=[9]) qk qj ?_;refine AllReadyH.cons rfl (fun K hK=>?_) AllReadyH.nil
    simp only[List.getElem_toArray,List.getElem_cons_succ,List.getElem_cons_zero]
    go_simp
    refine(iO _ (s.f i) wr.drew (Pq.o.blk fun _ _=>rfl) CK.o.2.2).mono ?_;rintro e v1 ⟨vp,rfl,hlp,hnp,hbN⟩;obtain⟨Ap,cp,rfl⟩:=hlp.form;have dN:Hq (Below wr.heap.size wr v1):=qh (((Below.refl wr.heap.size wr).drew).trans hbN);have bZ:=qh (Ga.o.below dN.o);have GF:=qh hlp;have yF:Hq (∀b,(Value.slice Ap (s.f i) cp).ownBlock=some b→wr.heap.size≤b):=qh hnp;have k0:v1.cell? ⟨g,2,none⟩=some (.slice AF i cF):=bZ.o.m.cell 2;have k1:=((aA dN.o).1 a.g 2 (Nat.lt_of_lt_of_le dP.o tG.o.size)).trans M2.out;have k2:=((aA dN.o).1 a.gf i (Nat.lt_of_lt_of_le hgf.out tG.o.size)).trans X2.out;clear hlp hnp hbN m2 x2 g2;refine hK.out _ _ ⟨k0,k1,k2⟩ (fun jL=>?_);clear hK K cY;refine wpAnyH_ready (rs:=[10]) qk qj ?_;refine AllReadyH.cons rfl (fun K hK=>?_) AllReadyH.nil
    simp only[List.getElem_toArray,List.getElem_cons_succ,List.getElem_cons_zero]
    go_simp
    refine hK.out _ _ (by go_keep) (fun fY=>?_);clear hK K jL;refine wpAnyH_ready (rs:=[11]) qk qj ?_;refine AllReadyH.cons rfl (fun K hK=>?_) AllReadyH.nil
    simp only[List.getElem_toArray,List.getElem_cons_succ,List.getElem_cons_zero]
    refine pU v1 (by rfl) (.tmp 36) (.tmp 45) _ (by rfl) W0.heap.size 34 i0 _ 1 24 Tryz.underlying54 hi iz is ib rfl qo (.slice AF i cF) i xs (by rfl) bZ.o.f.r _ 1 1 [.slice Ap (s.f i) cp] (by rfl) rfl (by simp[Value.oneCell']) CK.o.1 CK.o.2.1 (Nat.le_trans tG.o.size dN.o.size) ?_;intro v2 w2 hown2 hfr2 gF;obtain⟨A2,c2,rfl⟩:=aF hown2;have gr:kF W0.heap.size Bc v1 w2 (.slice Ap (s.f i) cp) (.slice AF i cF) (.slice A2 (i+1) c2) 2:=
     ⟨hfr2,gF.imp_right fun e=>⟨_,e,by omega⟩,bZ.o.f.t,fun b hb=>⟨Decidable.byContradiction fun hn=>by have h1:=Ga.o.lt b hn;have h2:=yF.o b hb;omega,Nat.le_trans tG.o.size (yF.o b hb),GF.o.lt b hb⟩,fun b hb=>(hown2.lt b hb).2,Nat.le_trans tG.o.size dN.o.size,by omega,bZ.o.lt,bZ.o.lo⟩
    have hm2:=bZ.o.Bq gr GF.o hown2;have hblk:=gr.blk bZ.o.tm qo bZ.o.m;have Ky:=qc hblk 2 rfl;have jf:w2.frozen? ⟨g,2,none⟩=false:=hblk.frozen 2;have hno:∀b,b<W0.heap.size→¬(Value.slice AF i cF).ownBlock=some b:=fun b hb e=>by have:=bZ.o.lo b (by rw[bZ.o.f.t b e];omega);omega
    have j1:=(hfr2.cells (Nat.lt_of_lt_of_le dP.o (Nat.le_trans tG.o.size dN.o.size)) (hno _ dP.o) 2).trans k1;have j2:=(hfr2.cells (Nat.lt_of_lt_of_le hgf.out (Nat.le_trans tG.o.size dN.o.size)) (hno _ hgf.out) i).trans k2;refine hK.out _ _ ⟨Ky,j1,j2⟩ (fun bU=>?_);clear hK K fY;have Mj:W0.heap.size≤g:=bZ.o.lo g (by rw[bZ.o.tm];omega);have NA:Hq (Below W0.heap.size W0 (w2.setCell ⟨g,2,none⟩ (.slice A2 (i+1) c2))):=qh (((tG.o.trans (dN.o.mono tG.o.size)).trans (hfr2.below (Nat.le_trans tG.o.size dN.o.size) fun b hb=>bZ.o.lo b (by rw[bZ.o.f.t b hb];omega))).setCell Mj _);have FK:=qh hm2;clear gr hm2 hblk hno hfr2 gF hown2 k0 k1 k2 Mj;refine qt 12 bU ?_
    simp only[List.getElem_toArray,List.getElem_cons_succ,List.getElem_cons_zero,Act.put,List.setIfInBounds_toArray,List.set_cons_zero,List.set_cons_succ]
    refine wpAnyH_done qk ?_ _;refine d8.of ?_
    go_simp
    obtain⟨w3,hw3⟩:=qx (w2.setCell ⟨g,2,none⟩ (.slice A2 (i+1) c2));rw[←hw3];rw[←hw3]at FK NA;obtain⟨abt,WS⟩:=qx (qI Bc (.slice Ap (s.f i) cp) (.slice A2 (i+1) c2) (8+2*i) 2);rw[←WS]at FK;have Uw:=FK;have BC:=NA;clear bU Ky jf j1 j2 hw3 WS FK NA bZ dN GF yF Pq X2 M2 gr2 hgf CK;have gr3:Hq (w3.cell? ⟨g,3,none⟩=some (.slice AK i cK)):=qh (Uw.o.m.cell 3);have hmem:=HH.o.below BC.o;have m2:w3.cell? ⟨a.g,3,none⟩=some (.slice (some ⟨a.gk,0,none⟩) s.W a.ck):=hmem.m.cell 3;obtain⟨Bl,dl,hal⟩:=(hmem.lk i hlt).form;have WY:=hmem.lk i hlt;rw[hal]at WY;have x2:w3.cell? ⟨a.gk,i,none⟩=some (.slice Bl (s.k i) dl):=by have h:=hmem.k i hlt;rw[Nat.zero_add]at h;rw[h,hal]
    have hl4:=hkb i hlt;have Pq:=qh WY;have hgf:Hq (a.gk<W0.heap.size):=qh (HH.o.lt a.gk (by rw[HH.o.tk];omega));have g2:=gr3.out;have X2:=qh x2;have M2:=qh m2;have CK:Hq (i+1≤maxLen∧(i+1)*24≤140737488355328∧s.k i≤1048576):=qh ⟨by unfold maxLen;omega,by omega,by omega⟩;clear hmem hal WY hl4
    go_wp2_with fail
    refine cN (S:=fun w'=>w'.cell? ⟨g,3,none⟩=some (.slice AK i cK)∧w'.cell? ⟨a.g,3,none⟩=some (.slice (some ⟨a.gk,0,none⟩) s.W a.ck)∧w'.cell? ⟨a.gk,i,none⟩=some (.slice Bl (s.k i) dl)) _ qj qk qk ⟨g2,m2,x2⟩ (fun cY=>?_)
    simp only[List.dropLast,List.getLast_cons_cons,List.getLast_singleton,List.length_cons,List.length_nil]
    refine qt 0 cY ?_;refine qt 1 cY ?_;refine qt 2 cY ?_;refine qt 3 cY ?_;refine qt 4 cY ?_;refine qt 5 cY ?_;refine qt 6 cY ?_;refine qt 7 cY ?_;refine qt 8 cY ?_
    simp only[List.getElem_toArray,List.getElem_cons_succ,List.getElem_cons_zero,Act.put,List.setIfInBounds_toArray,List.set_cons_zero,List.set_cons_succ]
    refine wpAnyH_ready (rs:=[9]) qk qj ?_;refine AllReadyH.cons rfl (fun K hK=>?_) AllReadyH.nil
    simp only[List.getElem_toArray,List.getElem_cons_succ,List.getElem_cons_zero]
    go_simp
    refine(iO _ (s.k i) w3.drew (Pq.o.blk fun _ _=>rfl) CK.o.2.2).mono ?_;rintro e v4 ⟨vp,rfl,hlp,hnp,hbN⟩;obtain⟨Bp,dp,rfl⟩:=hlp.form;have dN:Hq (Below w3.heap.size w3 v4):=qh (((Below.refl w3.heap.size w3).drew).trans hbN);have bZ:=qh (Uw.o.below dN.o);have GF:=qh hlp;have yF:Hq (∀b,(Value.slice Bp (s.k i) dp).ownBlock=some b→w3.heap.size≤b):=qh hnp;have k0:v4.cell? ⟨g,3,none⟩=some (.slice AK i cK):=bZ.o.m.cell 3;have k1:=((aA dN.o).1 a.g 3 (Nat.lt_of_lt_of_le dP.o BC.o.size)).trans M2.out;have k2:=((aA dN.o).1 a.gk i (Nat.lt_of_lt_of_le hgf.out BC.o.size)).trans X2.out;clear hlp hnp hbN m2 x2 g2;refine hK.out _ _ ⟨k0,k1,k2⟩ (fun jL=>?_);clear hK K cY;refine wpAnyH_ready (rs:=[10]) qk qj ?_;refine AllReadyH.cons rfl (fun K hK=>?_) AllReadyH.nil
    simp only[List.getElem_toArray,List.getElem_cons_succ,List.getElem_cons_zero]
    go_simp
    refine hK.out _ _ (by go_keep) (fun fY=>?_);clear hK K jL;refine wpAnyH_ready (rs:=[11]) qk qj ?_;refine AllReadyH.cons rfl (fun K hK=>?_) AllReadyH.nil
    simp only[List.getElem_toArray,List.getElem_cons_succ,List.getElem_cons_zero]
    refine pU v4 (by rfl) (.tmp 49) (.tmp 58) _ (by rfl) W0.heap.size 34 i0 _ 1 24 Tryz.underlying54 hi iz is ib rfl qo (.slice AK i cK) i ys (by rfl) bZ.o.k.r _ 1 1 [.slice Bp (s.k i) dp] (by rfl) rfl (by simp[Value.oneCell']) CK.o.1 CK.o.2.1 (Nat.le_trans BC.o.size dN.o.size) ?_;intro v2 w5 hown2 hfr2 gF;obtain⟨B2,d2,rfl⟩:=aF hown2;have gr:kF W0.heap.size abt v4 w5 (.slice Bp (s.k i) dp) (.slice AK i cK) (.slice B2 (i+1) d2) 3:=
     ⟨hfr2,gF.imp_right fun e=>⟨_,e,by omega⟩,bZ.o.k.t,fun b hb=>⟨Decidable.byContradiction fun hn=>by have h1:=Uw.o.lt b hn;have h2:=yF.o b hb;omega,Nat.le_trans BC.o.size (yF.o b hb),GF.o.lt b hb⟩,fun b hb=>(hown2.lt b hb).2,Nat.le_trans BC.o.size dN.o.size,by omega,bZ.o.lt,bZ.o.lo⟩
    have hm2:=bZ.o.Bn gr GF.o hown2;have hblk:=gr.blk bZ.o.tm qo bZ.o.m;have Ky:=qc hblk 3 rfl;have jf:w5.frozen? ⟨g,3,none⟩=false:=hblk.frozen 3;have hno:∀b,b<W0.heap.size→¬(Value.slice AK i cK).ownBlock=some b:=fun b hb e=>by have:=bZ.o.lo b (by rw[bZ.o.k.t b e];omega);omega
    have j1:=(hfr2.cells (Nat.lt_of_lt_of_le dP.o (Nat.le_trans BC.o.size dN.o.size)) (hno _ dP.o) 3).trans k1;have j2:=(hfr2.cells (Nat.lt_of_lt_of_le hgf.out (Nat.le_trans BC.o.size dN.o.size)) (hno _ hgf.out) i).trans k2;refine hK.out _ _ ⟨Ky,j1,j2⟩ (fun bU=>?_);clear hK K fY;have Mj:W0.heap.size≤g:=bZ.o.lo g (by rw[bZ.o.tm];omega);have NA:Hq (Below W0.heap.size W0 (w5.setCell ⟨g,3,none⟩ (.slice B2 (i+1) d2))):=qh (((BC.o.trans (dN.o.mono BC.o.size)).trans (hfr2.below (Nat.le_trans BC.o.size dN.o.size) fun b hb=>bZ.o.lo b (by rw[bZ.o.k.t b hb];omega))).setCell Mj _);have FK:=qh hm2;clear gr hm2 hblk hno hfr2 gF hown2 k0 k1 k2 Mj;refine qt 12 bU ?_
    simp only[List.getElem_toArray,List.getElem_cons_succ,List.getElem_cons_zero,Act.put,List.setIfInBounds_toArray,List.set_cons_zero,List.set_cons_succ]
    refine wpAnyH_done qk ?_ _;refine d8.of ?_
    go_simp
    obtain⟨w6,hw3⟩:=qx (w5.setCell ⟨g,3,none⟩ (.slice B2 (i+1) d2));rw[←hw3];rw[←hw3]at FK NA;obtain⟨tgw6,WS⟩:=qx (qI abt (.slice Bp (s.k i) dp) (.slice B2 (i+1) d2) (9+2*i) 3);rw[←WS]at FK;have aio:=FK;have aiI:=NA;clear bU Ky jf j1 j2 hw3 WS FK NA bZ dN GF yF Pq X2 M2 gr3 hgf CK
    go_wp2_with fail
    go_roundw
    case rel=>exact⟨i+1,_,_,_,_,_,hlt,qg,aio.o,aiI.o⟩
    case measure=>exact qs
   ·obtain rfl:s.W=i:=qo
    obtain⟨zs0,acN,_⟩:=(HH.o.below tG.o).l;obtain⟨AL,cL,iG⟩:=aF acN;have iX:=qh iG;replace m5:wr.cell? ⟨a.g,5,none⟩=some (.slice AL s.n cL):=m5.trans (by rw[←iG];rfl);clear acN iG m5;have HB0r:=qh (show Below W0.heap.size W0 wr from tG.o)
    go_wp2_with fail
    go_loopw [5] (fun iv wx=>∃(i:Nat) (Vx:Nat→Nat) (vL:Value),i≤s.n∧iv=.int .i64 i∧MO W0.heap.size Vx s g gc cc s.W s.W i (.slice AF s.W cF) (.slice AK s.W cK) vL vD xs ys wx∧Below W0.heap.size W0 wx) (fun iv _=>s.n-(intOf iv).toNat)
    case atStart=>exact⟨0,_,_,Nat.zero_le _,rfl,Ga.o,tG.o⟩
    case round=>
     obtain⟨i,Vx,vL,hix,rfl,hmx,hbx⟩:=hrel;have L5:=qh hmx;have GJ:=qh hbx;obtain⟨_,_,Av,cv,rfl⟩:=hmx.lists;have UX:=HH.o.below hbx;have m5:wr.cell? ⟨a.g,5,none⟩=some (.slice AL s.n cL):=(UX.m.cell 5).trans (by rw[←iX.o];rfl)
     by_cases hlx:i<s.n
     ·obtain⟨zs,hzs,hps⟩:=UX.l
      rw[iX.o]at hzs;obtain⟨gL,iG⟩:∃gL,AL=some ⟨gL,0,none⟩:=by
       rcases hzs.2 with⟨_,h0⟩|⟨y,cap,_,e,_⟩
       ·omega
       ·injection e with e1 e2 e3
        exact⟨y,e1⟩
      subst iG;obtain⟨z,u,k,hz,tu,hk,hul,_⟩:=hps i hlx;obtain⟨Au,cu,rfl⟩:=hul.form;have c0:wr.cell? ⟨gL,i*6,none⟩=some (.int .i64 (z 0)):=(hzs.cellAt (i*6) qo).trans (hz 0 qo);have c1:wr.cell? ⟨gL,i*6+1,none⟩=some (.int .i64 (z 1)):=(hzs.cellAt _ qo).trans (hz 1 qo);have c2:wr.cell? ⟨gL,i*6+2,none⟩=some (.int .i64 (z 2)):=(hzs.cellAt _ qo).trans (hz 2 qo);have c3:wr.cell? ⟨gL,i*6+3,none⟩=some (.int .i64 (z 3)):=(hzs.cellAt _ qo).trans (hz 3 qo);have c4:wr.cell? ⟨gL,i*6+4,none⟩=some (.int .i64 (z 4)):=(hzs.cellAt _ qo).trans (hz 4 qo);have c5:wr.cell? ⟨gL,i*6+5,none⟩=some (.slice Au k cu):=(hzs.cellAt _ qo).trans tu;obtain⟨z0,hz0⟩:=qx (z 0);obtain⟨z1,hz1⟩:=qx (z 1);obtain⟨z2,hz2⟩:=qx (z 2);obtain⟨z3,hz3⟩:=qx (z 3);obtain⟨z4,jF⟩:=qx (z 4);rw[←hz0]at c0;rw[←hz1]at c1;rw[←hz2]at c2;rw[←hz3]at c3;rw[←jF]at c4;have HUL:=qh hul;have CK:Hq (i+1≤maxLen∧(i+1)*64≤140737488355328∧k≤1048576):=qh ⟨by unfold maxLen;omega,by omega,hk⟩;clear hz hz0 hz1 hz2 hz3 jF hzs hps tu hul UX hmx hbx hk
      go_upto_region 11 with(fail)
      obtain⟨W1,hW1⟩:=qx (wr.alloc (.cells #[.int .i64 z0,.int .i64 z1,.int .i64 z2,.int .i64 z3,.int .i64 z4,.slice Au k cu] 126));rw[←hW1];have hb1:Below wr.heap.size wr W1:=hW1▸qb;have hx1:aB W1 wr.heap.size 126 #[.int .i64 z0,.int .i64 z1,.int .i64 z2,.int .i64 z3,.int .i64 z4,.slice Au k cu]:=hW1▸aB.at_ _ _ _ rfl;have y5:=qc hx1 5 rfl;have HB1:=qh hb1;have dN:=qh hx1;clear hW1 hb1 hx1 c0 c1 c2 c3 c4 c5 m5
      go_wp2_with fail
      refine(iO _ k W1 (HUL.o.blk fun b hb=>HB1.o.block b (HUL.o.lt b hb)) CK.o.2.2).mono ?_;rintro e w2 ⟨vp,rfl,hlp,hnp,hb2⟩;obtain⟨Ap,cp,rfl⟩:=hlp.form;have hx2:=dN.o.below hb2 dN.o.lt;have y5':=qc hx2 5 rfl;have yf:=hx2.frozen 5;obtain⟨W3,hW3⟩:=qx (w2.setCell ⟨wr.heap.size,5,none⟩ (.slice Ap k cp));have CE:Hq (aB W3 wr.heap.size 126 #[.int .i64 z0,.int .i64 z1,.int .i64 z2,.int .i64 z3,.int .i64 z4,.slice Ap k cp]):=qh (hW3▸hx2.bJ 5 (.slice Ap k cp));have HB3:Hq (Below wr.heap.size wr W3):=qh (hW3▸(HB1.o.trans (hb2.mono HB1.o.size)).setCell ql _);have jM:Hq (wr.heap.size<W1.heap.size):=qh dN.o.lt;have yF:Hq (∀b,(Value.slice Ap k cp).ownBlock=some b→W1.heap.size≤b):=qh hnp;have aeA:Hq (bE W3 (.slice Ap k cp) k):=qh (hW3▸hlp.blk fun b hb=>aE _ _ _ _ (by intro e;have h1:W1.heap.size≤b:=hnp b hb;have h2:=jM.o;rw[show b=wr.heap.size from e]at h1;omega));have nH:=qh (L5.o.below HB3.o);have HW3:=qh hW3;clear hlp hnp hb2 hx2 y5 hW3
      go_upto_region 12 with(fail)
      rw[←HW3.o];obtain⟨ys3,acO,acY⟩:=nH.o.l;have HY3:=qh acO;have ah9:=qh acY;have p5:W3.cell? ⟨g,5,none⟩=some (.slice Av i cv):=nH.o.m.cell 5;have q0:W3.cell? ⟨wr.heap.size,0,none⟩=some (.int .i64 z0):=CE.o.cell 0;have q1:W3.cell? ⟨wr.heap.size,1,none⟩=some (.int .i64 z1):=CE.o.cell 1;have q2:W3.cell? ⟨wr.heap.size,2,none⟩=some (.int .i64 z2):=CE.o.cell 2;have q3:W3.cell? ⟨wr.heap.size,3,none⟩=some (.int .i64 z3):=CE.o.cell 3;have q4:W3.cell? ⟨wr.heap.size,4,none⟩=some (.int .i64 z4):=CE.o.cell 4;have q5:W3.cell? ⟨wr.heap.size,5,none⟩=some (.slice Ap k cp):=CE.o.cell 5;have HGW:Hq (W0.heap.size≤g):=qh (nH.o.lo g (by rw[nH.o.tm];omega));have adX:Hq (W0.heap.size≤W3.heap.size):=qh (Nat.le_trans GJ.o.size HB3.o.size);have HU0:Hq (∀b,(Value.slice Ap k cp).ownBlock=some b→Vx b=0∧W0.heap.size≤b∧b<W3.heap.size):=qh fun b hb=>⟨Decidable.byContradiction fun hn=>by have h1:=L5.o.lt b hn;have h2:=yF.o b hb;have h3:=jM.o;omega,by have h2:=yF.o b hb;have h3:=jM.o;have h4:=GJ.o.size;omega,aeA.o.lt b hb⟩;clear acO acY y5' yf
      go_wp2_with (at_builtin;go_must (refine cB W3 rfl (.tmp 82) (.tmp 84) _ rfl 0 126 j0 _ 6 64 Tryz.underlying56 hj jz js jb rfl qo (.slice Av i cv) i ys3 rfl HY3.o _ 1 1 [.int .i64 z0,.int .i64 z1,.int .i64 z2,.int .i64 z3,.int .i64 z4,.slice Ap k cp] rfl rfl (by simp[Value.oneCell']) CK.o.1 CK.o.2.1 (Nat.zero_le _) ?_);intro v' w4 C4 oH qM;obtain⟨A4,c4,rfl⟩:=aF C4;have gr:kF W0.heap.size Vx W3 w4 (.slice Ap k cp) (.slice Av i cv) (.slice A4 (i+1) c4) 5:=⟨oH,qM.imp_right fun e=>⟨_,e,by omega⟩,nH.o.tL,HU0.o,fun b hb=>(C4.lt b hb).2,adX.o,by omega,nH.o.lt,nH.o.lo⟩;have qB:=nH.o.afg gr CK.o.2.2 aeA.o HY3.o.1 ah9.o C4;have hblk:=gr.blk nH.o.tm qo nH.o.m;have Wp:w4.cell? ⟨g,5,none⟩=some (.slice Av i cv):=hblk.cell 5;have pf:w4.frozen? ⟨g,5,none⟩=false:=hblk.frozen 5;have oQ:=qh qB;have aZ:Hq (Below W0.heap.size W0 (w4.setCell ⟨g,5,none⟩ (.slice A4 (i+1) c4))):=qh (((GJ.o.trans (HB3.o.mono GJ.o.size)).trans (oH.below adX.o fun b hb=>nH.o.lo b (by rw[nH.o.tL b hb];omega))).setCell HGW.o _);clear gr qB hblk C4 oH qM)
      go_roundw
      case rel=>exact⟨i+1,_,_,hlx,qg,oQ.o,aZ.o⟩
      case measure=>exact qs
     ·obtain rfl:s.n=i:=qo
      have hres:=xS.o.below hbx xS.o.lt;have HF:Hq (fI W0.heap.size (.agg (P7 s gc cc (.slice AF s.W cF) (.slice AK s.W cK) (.slice Av s.n cv) vD)) s wr):=qh (L5.o.mem hW1);have dU:Hq (Below w.heap.size w wr):=HB0.st hbx;have dC:Hq (w.heap.size<W0.heap.size):=qh (by have:=HS0.o;omega);obtain⟨AD2,nD2,cD2,rfl⟩:=HDF.o;have r0:=(show _=some (Value.int .i64 s.W)from L5.o.m.cell 0);have r1:=(show _=some (Value.int .i64 s.rk)from L5.o.m.cell 1);have r2:=(show _=some (Value.slice AF s.W cF)from L5.o.m.cell 2);have r3:=(show _=some (Value.slice AK s.W cK)from L5.o.m.cell 3);have r4:=(show _=some (Value.slice (some ⟨gc,0,none⟩) 4 cc)from L5.o.m.cell 4);have r5:=(show _=some (Value.slice Av s.n cv)from L5.o.m.cell 5);have r6:=(show _=some (Value.slice AD2 nD2 cD2)from L5.o.m.cell 6);have q0:=(qc hres 0 rfl);have q1:=(qc hres 1 rfl);have q2:=(qc hres 2 rfl);have q3:=(qc hres 3 rfl);have q4:=(qc hres 4 rfl);have q5:=(qc hres 5 rfl);have q6:=(qc hres 6 rfl);have f0:=fun o=>hres.frozen o;clear hres UX hmx hbx
      go_wp2_with fail
      refine bodyPost_ret (v:=.agg (P7 s gc cc (.slice AF s.W cF) (.slice AK s.W cK) (.slice Av s.n cv) (.slice AD2 nD2 cD2))) (by simp[results,Tryz.results60,go_sem,q0,q1,q2,q3,q4,q5,q6]) rfl ⟨_,rfl,?_,?_⟩
      ·exact(((((((HF.o.set _ _ _ dC.o).set _ _ _ dC.o).set _ _ _ dC.o).set _ _ _ dC.o).set _ _ _ dC.o).set _ _ _ dC.o).set _ _ _ dC.o).lower (Nat.le_of_lt dC.o)
      ·exact((((((dU.o.setCell ql _).setCell ql _).setCell ql _).setCell ql _).setCell ql _).setCell ql _).setCell ql _
end
end Go.Proofs.YtdnmhhohcedjbaaGreat
namespace Go.Proofs.YtdnmhhohcedjbaaGreat
open Go.RowKit
def pkS (s:aI)(st:Nat):Nat→Nat
 |0=>st
 |i+1=>max (pkS s st i) (max (s.f i) (s.k i))
def pkN (s:aI):Nat→Nat
 |0=>0
 |i+1=>pkN s i+(s.f i+s.k i)
section
variable {tg:Nat→Nat}{a:bC}{s:aI}{D:Nat}{w:World}
end
end Go.Proofs.YtdnmhhohcedjbaaGreat
namespace Go.Proofs.YtdnmhhohcedjbaaGreat
open Go.RowKit
def afl (k:Int):Int:=if k=1∨k=2∨k=3∨k=5 then 1 else if k=4 then 2 else if k=6 then 3 else 0
def afd (k:Int):Int:=if k=1 then 4 else if k=2 then 2 else if k=3 then 1 else 4
def afe (s:aI)(k d fb fa:Int)(j:Nat):Int:=if afl k=1 then(if d= -1 then s.cat j-aL fb fa s.rk-1 else aL fb fa s.rk-s.cat j)+afd k else 0
section
variable {tg:Nat→Nat}{a:bC}{s:aI}{D:Nat}{w:World}
end
end Go.Proofs.YtdnmhhohcedjbaaGreat
namespace Go.Proofs.YtdnmhhohcedjbaaGreat
open Go.RowKit Go.Sort
theorem zQ23x0 {p:Prop}(h:p:=by
 have hm:Tryz.prog.follows .mixedOrders=true:=by kernel_rfl
 have h0:=H.o.c0;have hg:=H.o.lt;have hL:=(Below.refl w.heap.size w).alloc ql (.cells #[.int .i64 0,.int .i64 0] 65);have HL:=qh hL;have HW:=qh (H.o.below hL);have N0:=vJ w #[.int .i64 0,.int .i64 0] 65;have k0:=cell_grown HW.o.lt HW.o.c0;have k1:=cell_grown HW.o.lt HW.o.c1;have k2:=cell_grown HW.o.lt HW.o.c2;have k4:=cell_grown HW.o.lt HW.o.c4;have k6:=cell_grown HW.o.lt HW.o.c6;have k7:=cell_grown HW.o.lt HW.o.c7;have k3:=cell_grown (a:=⟨g,o+2+1,none⟩) HW.o.lt HW.o.c3;have k5:=cell_grown (a:=⟨g,o+4+1,none⟩) HW.o.lt HW.o.c5;have k8:∀n os,(grow ((w.alloc (.cells #[.int .i64 0,.int .i64 0] 65)).drewN n) os).cell? ⟨w.heap.size,0,none⟩=some (.int .i64 0):=cell_grown qj (N0 0);have k9:∀n os,(grow ((w.alloc (.cells #[.int .i64 0,.int .i64 0] 65)).drewN n) os).cell? ⟨w.heap.size,1,none⟩=some (.int .i64 0):=cell_grown qj (N0 1);clear hL N0
 go_enter Tryz.func81,Tryz.ntmps81
 go_upto_region 6 with fail
 refine wp_region_quiet_grown hm qk ?_
 repeat(
  with_reducible refine wpQuiet_step (fun K hK=>?_)
  go_simp
  first
   |(with_reducible refine hK _ ?_;clear hK K)
   |(
    apply Exists.intro
    refine⟨fun _=>?_,hK _ ?_⟩
    (first|(go_at_call 111;exact Calls.grown_of (aN _ _ _ _))|(go_at_call 113;exact Calls.grown_of (aJ _ _ _ _))|(go_at_call 31;exact Calls.grown_of (aP _ _ _ _ _ _))|(go_at_call 112;exact Calls.grown_of (aG _ _ _ _ _)))
    clear hK K))
 cases hD:kA d
 ·repeat(
   with_reducible refine wpQuiet_step (fun K hK=>?_)
   go_simp
   first
    |(with_reducible refine hK _ ?_;clear hK K)
    |(
     apply Exists.intro
     refine⟨fun _=>?_,hK _ ?_⟩
     (first|(go_at_call 111;exact Calls.grown_of (aN _ _ _ _))|(go_at_call 113;exact Calls.grown_of (aJ _ _ _ _))|(go_at_call 31;exact Calls.grown_of (aP _ _ _ _ _ _))|(go_at_call 112;exact Calls.grown_of (aG _ _ _ _ _)))
     clear hK K))
  with_reducible refine wpQuiet_nil ?_
  intro _ hw';obtain⟨⟨nq,osq⟩,hw''⟩:=hw';subst hw''
  go_wp2_with fail
  go_ret
  exact⟨qr (by simp_all [aW]),below_grown HL.o qj _ _⟩
 ·repeat(
   with_reducible refine wpQuiet_step (fun K hK=>?_)
   go_simp
   first
    |(with_reducible refine hK _ ?_;clear hK K)
    |(
     apply Exists.intro
     refine⟨fun _=>?_,hK _ ?_⟩
     (first|(go_at_call 111;exact Calls.grown_of (aN _ _ _ _))|(go_at_call 113;exact Calls.grown_of (aJ _ _ _ _))|(go_at_call 31;exact Calls.grown_of (aP _ _ _ _ _ _))|(go_at_call 112;exact Calls.grown_of (aG _ _ _ _ _)))
     clear hK K))
  cases hF:kG fb fa
  ·repeat(
    with_reducible refine wpQuiet_step (fun K hK=>?_)
    go_simp
    first
     |(with_reducible refine hK _ ?_;clear hK K)
     |(
      apply Exists.intro
      refine⟨fun _=>?_,hK _ ?_⟩
      (first|(go_at_call 111;exact Calls.grown_of (aN _ _ _ _))|(go_at_call 113;exact Calls.grown_of (aJ _ _ _ _))|(go_at_call 31;exact Calls.grown_of (aP _ _ _ _ _ _))|(go_at_call 112;exact Calls.grown_of (aG _ _ _ _ _)))
      clear hK K))
   with_reducible refine wpQuiet_nil ?_
   intro _ hw';obtain⟨⟨nq,osq⟩,hw''⟩:=hw';subst hw''
   go_wp2_with fail
   go_ret
   exact⟨qr (by simp_all [aW]),below_grown HL.o qj _ _⟩
  ·repeat(
    with_reducible refine wpQuiet_step (fun K hK=>?_)
    go_simp
    first
     |(with_reducible refine hK _ ?_;clear hK K)
     |(
      apply Exists.intro
      refine⟨fun _=>?_,hK _ ?_⟩
      (first|(go_at_call 111;exact Calls.grown_of (aN _ _ _ _))|(go_at_call 113;exact Calls.grown_of (aJ _ _ _ _))|(go_at_call 31;exact Calls.grown_of (aP _ _ _ _ _ _))|(go_at_call 112;exact Calls.grown_of (aG _ _ _ _ _)))
      clear hK K))
   by_cases rP:tb=0
   ·subst rP
    by_cases rQ:ta=0
    ·subst rQ
     repeat(
      with_reducible refine wpQuiet_step (fun K hK=>?_)
      go_simp
      first
       |(with_reducible refine hK _ ?_;clear hK K)
       |(
        apply Exists.intro
        refine⟨fun _=>?_,hK _ ?_⟩
        (first|(go_at_call 111;exact Calls.grown_of (aN _ _ _ _))|(go_at_call 113;exact Calls.grown_of (aJ _ _ _ _))|(go_at_call 31;exact Calls.grown_of (aP _ _ _ _ _ _))|(go_at_call 112;exact Calls.grown_of (aG _ _ _ _ _)))
        clear hK K))
     cases hY:aK c 1 4
     ·repeat(
       with_reducible refine wpQuiet_step (fun K hK=>?_)
       go_simp
       first
        |(with_reducible refine hK _ ?_;clear hK K)
        |(
         apply Exists.intro
         refine⟨fun _=>?_,hK _ ?_⟩
         (first|(go_at_call 111;exact Calls.grown_of (aN _ _ _ _))|(go_at_call 113;exact Calls.grown_of (aJ _ _ _ _))|(go_at_call 31;exact Calls.grown_of (aP _ _ _ _ _ _))|(go_at_call 112;exact Calls.grown_of (aG _ _ _ _ _)))
         clear hK K))
      with_reducible refine wpQuiet_nil ?_
      intro _ hw';obtain⟨⟨nq,osq⟩,hw''⟩:=hw';subst hw''
      go_wp2_with fail
      go_ret
      exact⟨qr (by simp_all [aW]),below_grown HL.o qj _ _⟩
     ·repeat(
       with_reducible refine wpQuiet_step (fun K hK=>?_)
       go_simp
       first
        |(with_reducible refine hK _ ?_;clear hK K)
        |(
         apply Exists.intro
         refine⟨fun _=>?_,hK _ ?_⟩
         (first|(go_at_call 111;exact Calls.grown_of (aN _ _ _ _))|(go_at_call 113;exact Calls.grown_of (aJ _ _ _ _))|(go_at_call 31;exact Calls.grown_of (aP _ _ _ _ _ _))|(go_at_call 112;exact Calls.grown_of (aG _ _ _ _ _)))
         clear hK K))
      with_reducible refine wpQuiet_nil ?_
      intro _ hw';obtain⟨⟨nq,osq⟩,hw''⟩:=hw';subst hw''
      go_wp2_with fail
      go_ret
      exact⟨qr (by simp_all [aW]),below_grown HL.o qj _ _⟩
    ·have ou:(ta==0)=false:=by simpa using rQ
     repeat(
      with_reducible refine wpQuiet_step (fun K hK=>?_)
      go_simp
      first
       |(with_reducible refine hK _ ?_;clear hK K)
       |(
        apply Exists.intro
        refine⟨fun _=>?_,hK _ ?_⟩
        (first|(go_at_call 111;exact Calls.grown_of (aN _ _ _ _))|(go_at_call 113;exact Calls.grown_of (aJ _ _ _ _))|(go_at_call 31;exact Calls.grown_of (aP _ _ _ _ _ _))|(go_at_call 112;exact Calls.grown_of (aG _ _ _ _ _)))
        clear hK K))
     with_reducible refine wpQuiet_nil ?_
     intro _ hw';obtain⟨⟨nq,osq⟩,hw''⟩:=hw';subst hw''
     go_wp2_with fail
     go_ret
     exact⟨qr (by simp_all [aW]),below_grown HL.o qj _ _⟩
   ·have oh:(tb==0)=false:=by simpa using rP
    repeat(
     with_reducible refine wpQuiet_step (fun K hK=>?_)
     go_simp
     first
      |(with_reducible refine hK _ ?_;clear hK K)
      |(
       apply Exists.intro
       refine⟨fun _=>?_,hK _ ?_⟩
       (first|(go_at_call 111;exact Calls.grown_of (aN _ _ _ _))|(go_at_call 113;exact Calls.grown_of (aJ _ _ _ _))|(go_at_call 31;exact Calls.grown_of (aP _ _ _ _ _ _))|(go_at_call 112;exact Calls.grown_of (aG _ _ _ _ _)))
       clear hK K))
    with_reducible refine wpQuiet_nil ?_
    intro _ hw';obtain⟨⟨nq,osq⟩,hw''⟩:=hw';subst hw''
    go_wp2_with fail
    go_ret
    exact⟨qr (by simp_all [aW]),below_grown HL.o qj _ _⟩):p:=h
theorem Dk (d fb fa tb ta c r:Int)(g o:Nat)(w:World)(H:Hq (oI w g o 2 d fb fa tb ta c r)):
 Calls Tryz.prog 81 #[.pointer (some ⟨g,o,none⟩)] w fun e w'=>e=.returned (.bool (aW 2 d fb fa tb ta c r))∧Below w.heap.size w w':=by
 exact zQ23x0
theorem Dj (d fb fa tb ta c r:Int)(g o:Nat)(w:World)(H:Hq (oI w g o 3 d fb fa tb ta c r)):
 Calls Tryz.prog 81 #[.pointer (some ⟨g,o,none⟩)] w fun e w'=>e=.returned (.bool (aW 3 d fb fa tb ta c r))∧Below w.heap.size w w':=by
 exact zQ23x0
end Go.Proofs.YtdnmhhohcedjbaaGreat
