/- Walks and plain lemmas. -/
import Derived.Test.YtimlpmbabbbcaaaGreatP14
set_option linter.unusedVariables false
set_option linter.unusedSimpArgs false
set_option maxHeartbeats 40000000
set_option maxRecDepth 20000
namespace Go.Proofs.YtimlpmbabbbcaaaGreat
open Go.RowKit
abbrev abS (s:aP):List Value:=(List.range (4*2)).map (vE s)
structure KP (B:Nat)(tg:Nat→Nat)(c:Nat)(o sz:Nat→Nat)(v:Value)(i:Nat)(xs:List Value)(w:World):Prop where
 r:w.ownsRow B 61 1 v i xs
 l:∀j,j<i→bR w (xs.getD j undef) (sz j)
 t:fE tg v c
 e:∀j,j<i→fE tg (xs.getD j undef) (o j)
section
variable {B c i:Nat}{tg eZ o sz:Nat→Nat}{v:Value}{xs:List Value}{w w':World}
theorem KP.keep (h:KP B tg c o sz v i xs w)(hc:c≠0)(ho:∀j,o j≠0)(hk:∀b,(tg b=c∨∃j,tg b=o j)→w'.heap[b]?=w.heap[b]?)(ht:∀b,tg b≠0→eZ b=tg b):KP B eZ c o sz v i xs w':=
 ⟨sS h.r fun b hb=>hk b (.inl (h.t b hb)),fun j hj=>(h.l j hj).blk fun b hb=>hk b (.inr ⟨j,h.e j hj b hb⟩),fun b hb=>(ht b (by rw[h.t b hb];exact hc)).trans (h.t b hb),fun j hj b hb=>(ht b (by rw[h.e j hj b hb];exact ho j)).trans (h.e j hj b hb)⟩
theorem KP.step {u v':Value}{w2:World}(h:KP B tg c o sz v i xs w)(ho:∀j,o j≠0)(hown:w2.ownsRow B 61 1 v' (i+1) (xs++[u]))(hv:∀b,v'.ownBlock=some b→w'.heap[b]?=w2.heap[b]?)
 (hu:bR w' u (sz i)) (hk:∀b,(∃j,tg b=o j)→w'.heap[b]?=w.heap[b]?) (ht:∀b,tg b≠0→eZ b=tg b) (hv':fE eZ v' c) (hu':fE eZ u (o i)):KP B eZ c o sz v' (i+1) (xs++[u]) w':=by
 have hl:xs.length=i:=by have:=h.r.1;omega
 refine⟨sS hown hv,fun j hj=>?_,hv',fun j hj=>?_⟩
 ·by_cases hji:j=i
  ·subst hji
   rw[wR hl.symm];exact hu
  ·rw[wQ qo]
   exact(h.l j qo).blk fun b hb=>hk b ⟨j,h.e j qo b hb⟩
 ·by_cases hji:j=i
  ·subst hji
   rw[wR hl.symm];exact hu'
  ·rw[wQ qo]
   exact fun b hb=>(ht b (by rw[h.e j qo b hb];exact ho j)).trans (h.e j qo b hb)
end
abbrev Lu (s:aP)(gc cc:Nat)(vF vK vL vD:Value):Array Value:=#[.int .i64 s.W,.int .i64 s.rk,vF,vK,.slice (some ⟨gc,0,none⟩) 4 cc,vL,vD]
structure MO (B:Nat)(tg:Nat→Nat)(s:aP)(g gc cc i k n:Nat)(vF vK vL vD:Value)(xs ys:List Value)(w:World):Prop where
 m:aG w g 93 (Lu s gc cc vF vK vL vD)
 f:KP B tg 2 (fun j=>8+2*j) s.f vF i xs w
 k:KP B tg 3 (fun j=>9+2*j) s.k vK k ys w
 c:d7 w gc 0 8 (vE s)
 cw:eB w gc 0 8
 l:o8 tg w vL n
 d:z8 w vD s.d
 tm:tg g=1
 tc:tg gc=4
 tL:fE tg vL 5
 tD:fE tg vD 6
 lt:∀b,tg b≠0→b<w.heap.size
 lo:∀b,tg b≠0→B≤b
section
variable {B g gc cc i k n:Nat}{tg:Nat→Nat}{s:aP}{vF vK vL vD:Value}{xs ys:List Value}{w w':World}
theorem MO.lists (h:MO B tg s g gc cc i k n vF vK vL vD xs ys w):(∃A c,vF=.slice A i c)∧(∃A c,vK=.slice A k c)∧∃A c,vL=.slice A n c:=by
 obtain⟨zs,hz,_⟩:=h.l;exact⟨aE h.f.r,aE h.k.r,aE hz⟩
theorem MO.keep (h:MO B tg s g gc cc i k n vF vK vL vD xs ys w)(hk:∀b,tg b≠0→w'.heap[b]?=w.heap[b]?)(hz:w.heap.size≤w'.heap.size):MO B tg s g gc cc i k n vF vK vL vD xs ys w':=
 ⟨(
  hk g (by rw[h.tm];omega)).trans h.m,h.f.keep qo (fun j=>by omega) (fun b hb=>hk b (by rcases hb with hb|⟨j,hb⟩<;>omega)) fun _ _=>rfl,h.k.keep qo (fun j=>by omega) (fun b hb=>hk b (by rcases hb with hb|⟨j,hb⟩<;>omega)) fun _ _=>rfl,
  h.c.blk (hk gc (by rw[h.tc];omega)),h.cw.blk (hk gc (by rw[h.tc];omega)),h.l.blk (fun b hb=>hk b (by rw[h.tL b hb];omega)) (fun b hb=>hk b qo),h.d.blk (fun b hb=>hk b (by rw[h.tD b hb];omega)),h.tm,h.tc,h.tL,h.tD,fun b hb=>Nat.lt_of_lt_of_le (h.lt b hb) hz,h.lo⟩
theorem MO.below (h:MO B tg s g gc cc i k n vF vK vL vD xs ys w)(hb:Below w.heap.size w w'):MO B tg s g gc cc i k n vF vK vL vD xs ys w':=h.keep (fun b ht=>hb.block b (h.lt b ht)) hb.size
def yS (tg:Nat→Nat)(u v:Value)(cu cv:Nat):Nat→Nat:=retag (retag tg u cu) v cv
theorem Oy {u v:Value}{cu cv:Nat}(hu:∀b,u.ownBlock=some b→tg b=0)(hv:∀b,v.ownBlock=some b→tg b=0∨tg b=cv)(b:Nat)(hb:tg b≠0):yS tg u v cu cv b=tg b:=by
 unfold yS retag
 by_cases h1:v.ownBlock=some b
 ·rw[if_pos h1]
  rcases hv b h1 with h|h
  ·exact absurd h hb
  ·exact h.symm
 ·rw[if_neg h1,if_neg fun e=>hb (hu b e)]
theorem Gg (tg:Nat→Nat)(u v:Value)(cu cv:Nat):fE (yS tg u v cu cv) v cv:=pV _ _
theorem Gh {u v:Value}{cu cv:Nat}(hd:∀b,u.ownBlock=some b→v.ownBlock≠some b):fE (yS tg u v cu cv) u cu:=fun b hb=>by
 unfold yS retag;rw[if_neg (hd b hb),if_pos hb]
theorem mq {u v:Value}{cu cv b:Nat}(hb:yS tg u v cu cv b≠0):v.ownBlock=some b∨u.ownBlock=some b∨tg b≠0:=by
 unfold yS retag at hb
 by_cases h1:v.ownBlock=some b
 ·exact .inl h1
 ·by_cases h2:u.ownBlock=some b
  ·exact .inr (.inl h2)
  ·rw[if_neg h1,if_neg h2]at hb
   exact .inr (.inr hb)
structure oD (B:Nat)(tg:Nat→Nat)(w w2:World)(u vo v':Value)(c:Nat):Prop where
 fr:Fr w w2 (fun b=>vo.ownBlock=some b)
 at_:v'.ownBlock=vo.ownBlock∨∃b,v'.ownBlock=some b∧w.heap.size≤b
 t:fE tg vo c
 u0:∀b,u.ownBlock=some b→tg b=0∧B≤b∧b<w.heap.size
 vlt:∀b,v'.ownBlock=some b→b<w2.heap.size
 vlo:B≤w.heap.size
 c0:c≠0
 lt:∀b,tg b≠0→b<w.heap.size
 lo:∀b,tg b≠0→B≤b
section
variable {w2:World}{u vo v':Value}{c cu:Nat}
theorem oD.v0 (h:oD B tg w w2 u vo v' c):∀b,v'.ownBlock=some b→tg b=0∨tg b=c:=fun b hb=>by
 rcases h.at_ with e|⟨b',e,hb'⟩
 ·exact .inr (h.t b (e.symm.trans hb))
 ·obtain rfl:=Option.some.inj (hb.symm.trans e)
  exact .inl (Decidable.byContradiction fun hn=>by have:=h.lt b hn;omega)
theorem oD.old (h:oD B tg w w2 u vo v' c)(b:Nat)(hb:tg b≠0):yS tg u v' cu c b=tg b:=Oy (fun b hb=>(h.u0 b hb).1) h.v0 b hb
theorem oD.uv (h:oD B tg w w2 u vo v' c)(hc:c≠0):∀b,u.ownBlock=some b→v'.ownBlock≠some b:=fun b hb e=>by
 have h1:=h.u0 b hb
 rcases h.at_ with e'|⟨b',e',hb'⟩
 ·have:=h.t b (e'.symm.trans e)
  omega
 ·have:=Option.some.inj (e.symm.trans e')
  omega
theorem oD.keep (h:oD B tg w w2 u vo v' c)(hg:tg g=1)(k:Nat)(x:Value){b:Nat}(hb:tg b≠0)(h1:tg b≠1)(h2:tg b≠c):(w2.setCell ⟨g,k,none⟩ x).heap[b]?=w.heap[b]?:=
 (bI _ _ _ _ (by intro e;rw[show b=g from e]at h1;exact h1 hg)).trans (h.fr.block b (h.lt b hb) fun e=>h2 (h.t b e))
theorem oD.Vr (h:oD B tg w w2 u vo v' c)(hg:tg g=1)(hc:c≠0)(k:Nat)(x:Value):∀b,u.ownBlock=some b→(w2.setCell ⟨g,k,none⟩ x).heap[b]?=w.heap[b]?:=fun b hb=>
 (bI _ _ _ _ (by intro e;have:=(h.u0 b hb).1;rw[show b=g from e,hg]at this;omega)).trans (h.fr.block b (h.u0 b hb).2.2 fun e=>by have h1:=h.t b e;rw[(h.u0 b hb).1]at h1;exact hc h1.symm)
theorem oD.vg (h:oD B tg w w2 u vo v' c)(hg:tg g=1)(hc:c≠1)(k:Nat)(x:Value):∀b,v'.ownBlock=some b→(w2.setCell ⟨g,k,none⟩ x).heap[b]?=w2.heap[b]?:=fun b hb=>
 bI _ _ _ _ (by intro e;have:=h.v0 b hb;rw[show b=g from e,hg]at this;omega)
theorem oD.blk (h:oD B tg w w2 u vo v' c)(hg:tg g=1)(hc:c≠1){t:TypeId}{cs:Array Value}(hb:aG w g t cs):aG w2 g t cs:=(h.fr.block g (h.lt g qo) fun e=>by have:=h.t g e;omega).trans hb
theorem oD.lt' (h:oD B tg w w2 u vo v' c)(p:Addr)(x:Value):∀b,yS tg u v' cu c b≠0→b<(w2.setCell p x).heap.size:=fun b hb=>by
 rw[jJ]
 rcases mq hb with e|e|e
 ·exact h.vlt b e
 ·exact Nat.lt_of_lt_of_le (h.u0 b e).2.2 h.fr.size
 ·exact Nat.lt_of_lt_of_le (h.lt b e) h.fr.size
theorem oD.lo' (h:oD B tg w w2 u vo v' c):∀b,yS tg u v' cu c b≠0→B≤b:=fun b hb=>by
 rcases mq hb with e|e|e
 ·rcases h.at_ with e'|⟨b',e',hb'⟩
  ·exact h.lo b (by rw[h.t b (e'.symm.trans e)];exact h.c0)
  ·have:=Option.some.inj (e.symm.trans e')
   have:=h.vlo;omega
 ·exact(h.u0 b e).2.1
 ·exact h.lo b e
end
theorem MO.Vg {w2:World}{u v':Value}(h:MO B tg s g gc cc i k n vF vK vL vD xs ys w)(gr:oD B tg w w2 u vF v' 2)(hu:bR w u (s.f i))(hown:w2.ownsRow B 61 1 v' (i+1) (xs++[u])):
 MO B (yS tg u v' (8+2*i) 2) s g gc cc (i+1) k n v' vK vL vD (xs++[u]) ys (w2.setCell ⟨g,2,none⟩ v'):=by
 have kp:=fun{b:Nat}=>gr.keep (b:=b) h.tm 2 v';refine⟨(gr.blk h.tm qo h.m).fH 2 v',h.f.step (fun j=>by omega) hown (gr.vg h.tm qo 2 v') (hu.blk (gr.Vr h.tm qo 2 v')) (fun b ⟨j,hb⟩=>kp qo qo qo) gr.old (Gg _ _ _ _ _) (Gh (gr.uv qo)),
  h.k.keep qo (fun j=>by omega) (fun b hb=>by rcases hb with hb|⟨j,hb⟩<;>exact kp qo qo qo) gr.old,h.c.blk (kp (by rw[h.tc];omega) (by rw[h.tc];omega) (by rw[h.tc];omega)),h.cw.blk (kp (by rw[h.tc];omega) (by rw[h.tc];omega) (by rw[h.tc];omega)),
  (h.l.blk (fun b hb=>kp (by rw[h.tL b hb];omega) (by rw[h.tL b hb];omega) (by rw[h.tL b hb];omega)) fun b hb=>kp qo qo qo).tags fun y hy b hb=>(gr.old b (by rw[hy b hb];omega)).trans (hy b hb),
  h.d.blk fun b hb=>kp (by rw[h.tD b hb];omega) (by rw[h.tD b hb];omega) (by rw[h.tD b hb];omega),(gr.old g (by rw[h.tm];omega)).trans h.tm,(gr.old gc (by rw[h.tc];omega)).trans h.tc,fun b hb=>(gr.old b (by rw[h.tL b hb];omega)).trans (h.tL b hb),fun b hb=>(gr.old b (by rw[h.tD b hb];omega)).trans (h.tD b hb),gr.lt' _ _,gr.lo'⟩
theorem MO.Vf {w2:World}{u v':Value}(h:MO B tg s g gc cc i k n vF vK vL vD xs ys w)(gr:oD B tg w w2 u vK v' 3)(hu:bR w u (s.k k))(hown:w2.ownsRow B 61 1 v' (k+1) (ys++[u])):
 MO B (yS tg u v' (9+2*k) 3) s g gc cc i (k+1) n vF v' vL vD xs (ys++[u]) (w2.setCell ⟨g,3,none⟩ v'):=by
 have kp:=fun{b:Nat}=>gr.keep (b:=b) h.tm 3 v';refine⟨(gr.blk h.tm qo h.m).fH 3 v',h.f.keep qo (fun j=>by omega) (fun b hb=>by rcases hb with hb|⟨j,hb⟩<;>exact kp qo qo qo) gr.old,h.k.step (fun j=>by omega) hown (gr.vg h.tm qo 3 v') (hu.blk (gr.Vr h.tm qo 3 v')) (fun b ⟨j,hb⟩=>kp qo qo qo) gr.old (Gg _ _ _ _ _) (Gh (gr.uv qo)),
  h.c.blk (kp (by rw[h.tc];omega) (by rw[h.tc];omega) (by rw[h.tc];omega)),h.cw.blk (kp (by rw[h.tc];omega) (by rw[h.tc];omega) (by rw[h.tc];omega)),
  (h.l.blk (fun b hb=>kp (by rw[h.tL b hb];omega) (by rw[h.tL b hb];omega) (by rw[h.tL b hb];omega)) fun b hb=>kp qo qo qo).tags fun y hy b hb=>(gr.old b (by rw[hy b hb];omega)).trans (hy b hb),
  h.d.blk fun b hb=>kp (by rw[h.tD b hb];omega) (by rw[h.tD b hb];omega) (by rw[h.tD b hb];omega),(gr.old g (by rw[h.tm];omega)).trans h.tm,(gr.old gc (by rw[h.tc];omega)).trans h.tc,fun b hb=>(gr.old b (by rw[h.tL b hb];omega)).trans (h.tL b hb),fun b hb=>(gr.old b (by rw[h.tD b hb];omega)).trans (h.tD b hb),gr.lt' _ _,gr.lo'⟩
theorem MO.mem (h:MO B tg s g gc cc s.W s.W s.n vF vK vL vD xs ys w)(hW:1≤s.W):l3 B (.agg (Lu s gc cc vF vK vL vD)) s w:=by
 obtain⟨gf,cf,rfl⟩:∃gf cf,vF=.slice (some ⟨gf,0,none⟩) s.W cf:=by
  rcases h.f.r.2 with⟨_,h0⟩|⟨q,cap,_,e,_⟩
  ·omega
  ·exact⟨q,cap,e⟩
 obtain⟨gk,ck,rfl⟩:∃gf cf,vK=.slice (some ⟨gf,0,none⟩) s.W cf:=by
  rcases h.k.r.2 with⟨_,h0⟩|⟨q,cap,_,e,_⟩
  ·omega
  ·exact⟨q,cap,e⟩
 have OK:∀{q c:Nat} {zs:List Value},w.ownsRow B 61 1 (.slice (some ⟨q,0,none⟩) s.W c) s.W zs→d7 w q 0 s.W (fun j=>zs.getD j undef)∧eB w q 0 s.W:=fun{q c zs} ho=>by
  have hl:=ho.1;refine⟨fun j hj=>?_,by have:=eB.lQ ho;rwa[Nat.mul_one]at this⟩;rw[Nat.zero_add,ho.cellAt j qo]
  simp[List.getD,List.getElem?_eq_getElem (show j<zs.length by omega)]
 have hm:Mem tg ⟨g,gf,cf,gk,ck,gc,cc,fun j=>xs.getD j undef,fun j=>ys.getD j undef,vL,vD⟩ s w:=
  ⟨h.m,(OK h.f.r).1,(OK h.f.r).2,(OK h.k.r).1,(OK h.k.r).2,h.c,h.cw,h.f.l,h.k.l,h.l,h.d,h.tm,h.f.t _ rfl,h.k.t _ rfl,h.tc,h.tL,h.tD,h.f.e,h.k.e,h.lt⟩
 exact hm.makes h.lo
end
def Wt (W0:World)(s:aP)(q:Nat)(s3:Value)(wx:World):Prop:=
 ∃(g:Nat) (AC:OA) (cC:Nat) (AP:OA) (cP:Nat),s3=.pointer (some ⟨g,0,none⟩)∧aG wx g 93 #[.int .i64 s.W,.int .i64 s.rk,.slice none 0 0,.slice none 0 0,.slice AC 4 cC,.slice none 0 0,.slice AP q cP]∧wx.ownsRow W0.heap.size 158 2 (.slice AC 4 cC) 4 (abS s)∧bR wx (.slice AP q cP) q∧W0.heap.size≤g∧(∀b,(Value.slice AC 4 cC).ownBlock=some b→b≠g)∧(∀b,(Value.slice AP q cP).ownBlock=some b→W0.heap.size≤b∧b≠g∧∀c,(Value.slice AC 4 cC).ownBlock=some c→b≠c)∧Below W0.heap.size W0 wx
theorem Wt.start {W0 wx:World}{s:aP}{q:Nat}{s3:Value}(h:Wt W0 s q s3 wx)(hq:q≤s.d):∃g gc cc tg vD,s3=.pointer (some ⟨g,0,none⟩)∧MO W0.heap.size tg s g gc cc 0 0 0 (.slice none 0 0) (.slice none 0 0) (.slice none 0 0) vD [] [] wx∧Below W0.heap.size W0 wx:=by
 obtain⟨g,AC,cC,AP,cP,rfl,hm,hc,hd,hg,hnc,hnd,hb⟩:=h;obtain⟨gc,rfl,hgc⟩:∃gc,AC=some ⟨gc,0,none⟩∧W0.heap.size≤gc:=by
  rcases hc.2 with⟨_,h0⟩|⟨y,cap,_,e,hy,_⟩
  ·omega
  ·injection e with e1 e2 e3
   exact⟨y,e1,hy⟩
 have hcg:gc≠g:=hnc gc rfl;have afE:gc<wx.heap.size:=(hc.lt gc rfl).2;have hrow:d7 wx gc 0 8 (vE s):=fun j hj=>by
  rw[Nat.zero_add,hc.cellAt j qo]
  simp[abS,List.getElem?_range hj]
 refine⟨g,gc,cC,fun b=>if b=g then 1 else if b=gc then 4 else if(Value.slice AP q cP).ownBlock=some b then 6 else 0,.slice AP q cP,rfl,⟨hm,⟨World.ownsRow_nil _ _ _ _,fun j hj=>absurd hj (Nat.not_lt_zero _),fun b hb=>(by cases hb),fun j hj=>absurd hj (Nat.not_lt_zero _)⟩,⟨World.ownsRow_nil _ _ _ _,fun j hj=>absurd hj (Nat.not_lt_zero _),fun b hb=>(by cases hb),fun j hj=>absurd hj (Nat.not_lt_zero _)⟩,hrow,eB.lQ hc,
  ⟨[],World.ownsRow_nil _ _ _ _,fun i hi=>absurd hi (Nat.not_lt_zero _)⟩,⟨q,hq,hd⟩,if_pos rfl,?_,fun b hb=>(by cases hb),fun b hb=>?_,fun b hb=>?_,fun b hb=>?_⟩,hb⟩
 ·show(if gc=g then 1 else if gc=gc then 4 else _)=4
  rw[if_neg hcg,if_pos rfl]
 ·have h1:=hnd b hb
  show(if b=g then 1 else if b=gc then 4 else if _=some b then 6 else 0)=6;rw[if_neg h1.2.1,if_neg (h1.2.2 gc rfl),if_pos hb]
 ·by_cases h1:b=g
  ·subst h1;exact hm.lt
  ·by_cases h2:b=gc
   ·subst h2;exact afE
   ·by_cases h3:(Value.slice AP q cP).ownBlock=some b
    ·exact hd.lt b h3
    ·exact absurd (show(if b=g then 1 else if b=gc then 4 else if(Value.slice AP q cP).ownBlock=some b then 6 else 0)=0 by rw[if_neg h1,if_neg h2,if_neg h3]) hb
 ·by_cases h1:b=g
  ·omega
  ·by_cases h2:b=gc
   ·omega
   ·by_cases h3:(Value.slice AP q cP).ownBlock=some b
    ·exact(hnd b h3).1
    ·exact absurd (show(if b=g then 1 else if b=gc then 4 else if(Value.slice AP q cP).ownBlock=some b then 6 else 0)=0 by rw[if_neg h1,if_neg h2,if_neg h3]) hb
section
variable {tg:Nat→Nat}{a:bV}{s:aP}{D:Nat}{w:World}
end
end Go.Proofs.YtimlpmbabbbcaaaGreat
namespace Go.Proofs.YtimlpmbabbbcaaaGreat
open Go.RowKit Go.Sort
theorem zP19x0 {p:Prop}(h:p:=by
 go_quiet (first|(go_at_call 75;exact Calls.quiet_of_same (eF _ _))|(go_at_call 77;exact Calls.quiet_of_same (dH _ _))|(go_at_call 47;exact Calls.quiet_of_same (eG _ _ _ _)))
 go_wp2_with fail
 go_ret
 exact⟨qr (by simp_all [bD]),Below.drewN' HL.o _⟩):p:=h
theorem zP19x1 {p:Prop}(h:p:=by
 go_enter Tryz.func45,Tryz.ntmps45
 go_upto_region 14 with fail
 exact zP19x0):p:=h
theorem Ct (d fb fa tb ta c r:Int)(g o:Nat)(w:World)(H:Hq (pJ w g o 7 d fb fa tb ta c r)):
 Calls Tryz.prog 45 #[.pointer (some ⟨g,o,none⟩)] w fun e w'=>e=.returned (.bool (bD 7 d fb fa tb ta c r))∧Below w.heap.size w w':=by
 have h0:=H.o.c0;have hg:=H.o.lt;have hL:=(Below.refl w.heap.size w).alloc ql (.cells #[.int .i64 0,.int .i64 0] 49);have HL:=qh hL;have HW:=qh (H.o.below hL);have k0:=HW.o.c0;have k1:=HW.o.c1;have k2:=HW.o.c2;have k3:=HW.o.c3;have k4:=HW.o.c4;have k5:=HW.o.c5;have k6:=HW.o.c6;have k7:=HW.o.c7;clear hL
 by_cases zd:d=0
 ·subst zd
  by_cases RX:fb=0
  ·subst RX
   by_cases RY:fa=0
   ·subst RY
    by_cases sM:tb=0
    ·subst sM
     by_cases sN:ta=0
     ·subst sN
      by_cases zc:c=0
      ·subst zc
       cases hRK:aJ r (-3) 3
       ·go_enter Tryz.func45,Tryz.ntmps45
        go_upto_region 14 with fail
        exact zP19x0
       ·go_enter Tryz.func45,Tryz.ntmps45
        go_upto_region 14 with fail
        exact zP19x0
      ·have yc:(c==0)=false:=by simpa using zc
       exact zP19x1
     ·have lu:(ta==0)=false:=by simpa using sN
      exact zP19x1
    ·have lq:(tb==0)=false:=by simpa using sM
     exact zP19x1
   ·have yfa:(fa==0)=false:=by simpa using RY
    exact zP19x1
  ·have yfb:(fb==0)=false:=by simpa using RX
   exact zP19x1
 ·have yd:(d==0)=false:=by simpa using zd
  exact zP19x1
theorem zP19x3 {p:Prop}(h:p:=by
 go_enter Tryz.func45,Tryz.ntmps45
 go_upto_region 16 with fail
 exact zP19x0):p:=h
theorem Cr (d fb fa tb ta c r:Int)(g o:Nat)(w:World)(H:Hq (pJ w g o 8 d fb fa tb ta c r)):
 Calls Tryz.prog 45 #[.pointer (some ⟨g,o,none⟩)] w fun e w'=>e=.returned (.bool (bD 8 d fb fa tb ta c r))∧Below w.heap.size w w':=by
 have h0:=H.o.c0;have hg:=H.o.lt;have hL:=(Below.refl w.heap.size w).alloc ql (.cells #[.int .i64 0,.int .i64 0] 49);have HL:=qh hL;have HW:=qh (H.o.below hL);have k0:=HW.o.c0;have k1:=HW.o.c1;have k2:=HW.o.c2;have k3:=HW.o.c3;have k4:=HW.o.c4;have k5:=HW.o.c5;have k6:=HW.o.c6;have k7:=HW.o.c7;clear hL
 by_cases RX:fb=0
 ·subst RX
  by_cases RY:fa=0
  ·subst RY
   by_cases sM:tb=0
   ·subst sM
    by_cases sN:ta=0
    ·subst sN
     by_cases zr:r=0
     ·subst zr
      cases hD:gQ d
      ·go_enter Tryz.func45,Tryz.ntmps45
       go_upto_region 16 with fail
       exact zP19x0
      ·cases hY:aJ c 1 4
       ·go_enter Tryz.func45,Tryz.ntmps45
        go_upto_region 16 with fail
        exact zP19x0
       ·go_enter Tryz.func45,Tryz.ntmps45
        go_upto_region 16 with fail
        exact zP19x0
     ·have yr:(r==0)=false:=by simpa using zr
      exact zP19x3
    ·have lu:(ta==0)=false:=by simpa using sN
     exact zP19x3
   ·have lq:(tb==0)=false:=by simpa using sM
    exact zP19x3
  ·have yfa:(fa==0)=false:=by simpa using RY
   exact zP19x3
 ·have yfb:(fb==0)=false:=by simpa using RX
  exact zP19x3
theorem zP19x2 {p:Prop}(h:p:=by
 go_enter Tryz.func45,Tryz.ntmps45
 go_upto_region 18 with fail
 exact zP19x0):p:=h
theorem Cq (d fb fa tb ta c r:Int)(g o:Nat)(w:World)(H:Hq (pJ w g o 9 d fb fa tb ta c r)):
 Calls Tryz.prog 45 #[.pointer (some ⟨g,o,none⟩)] w fun e w'=>e=.returned (.bool (bD 9 d fb fa tb ta c r))∧Below w.heap.size w w':=by
 have h0:=H.o.c0;have hg:=H.o.lt;have hL:=(Below.refl w.heap.size w).alloc ql (.cells #[.int .i64 0,.int .i64 0] 49);have HL:=qh hL;have HW:=qh (H.o.below hL);have k0:=HW.o.c0;have k1:=HW.o.c1;have k2:=HW.o.c2;have k3:=HW.o.c3;have k4:=HW.o.c4;have k5:=HW.o.c5;have k6:=HW.o.c6;have k7:=HW.o.c7;clear hL
 by_cases zd:d=0
 ·subst zd
  by_cases RX:fb=0
  ·subst RX
   by_cases RY:fa=0
   ·subst RY
    by_cases sM:tb=0
    ·subst sM
     by_cases sN:ta=0
     ·subst sN
      by_cases zr:r=0
      ·subst zr
       cases hY:aJ c 1 4
       ·go_enter Tryz.func45,Tryz.ntmps45
        go_upto_region 18 with fail
        exact zP19x0
       ·go_enter Tryz.func45,Tryz.ntmps45
        go_upto_region 18 with fail
        exact zP19x0
      ·have yr:(r==0)=false:=by simpa using zr
       exact zP19x2
     ·have lu:(ta==0)=false:=by simpa using sN
      exact zP19x2
    ·have lq:(tb==0)=false:=by simpa using sM
     exact zP19x2
   ·have yfa:(fa==0)=false:=by simpa using RY
    exact zP19x2
  ·have yfb:(fb==0)=false:=by simpa using RX
   exact zP19x2
 ·have yd:(d==0)=false:=by simpa using zd
  exact zP19x2
end Go.Proofs.YtimlpmbabbbcaaaGreat
