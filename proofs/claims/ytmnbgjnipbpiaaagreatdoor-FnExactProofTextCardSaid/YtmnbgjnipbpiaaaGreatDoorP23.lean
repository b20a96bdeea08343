/- Walks and plain lemmas. -/
import Derived.Test.YtmnbgjnipbpiaaaGreatDoorP22
set_option linter.unusedVariables false
set_option linter.unusedSimpArgs false
namespace Go.Proofs.YtmnbgjnipbpiaaaGreatDoor
open Go.RowKit
def fC (o:List bP)(d:cG)(i:Nat):Value:=if i%3=0 then .int .i64 (o.getD (i/3) (0,[],[])).1 else if i%3=1 then .slice (d.W (i/3)) (o.getD (i/3) (0,[],[])).2.1.length (d.cw (i/3))else .slice (d.S (i/3)) (d.m (i/3)) (d.cs (i/3))
def cX (N:Nat)(d:cG):Value:=.slice (d.S (N-1)) (d.m (N-1)) (d.cs (N-1))
structure dC (B:Nat)(v:Value)(o:List bP)(d:cG)(w:World):Prop where
 own:w.ownsRow B 86 3 v o.length ((List.range (o.length*3)).map (fC o d))
 rw:∀j b,o[j]?=some b→aW w (d.W j) b.2.1
 ln:∀j b,o[j]?=some b→b.2.2.length=d.m j*6
 rs:∀j b,o[j]?=some b→Rd w (d.S j) (d.m j*6) (fun i=>.int .i64 (b.2.2.getD i 0))
 fw:∀j b,o[j]?=some b→∀x,Fb (d.W j) b.2.1.length x→¬v.ownBlock=some x∧¬(cX o.length d).ownBlock=some x
 fs:∀j b,o[j]?=some b→∀x,Fb (d.S j) (d.m j*6) x→¬v.ownBlock=some x∧(j+1<o.length→¬(cX o.length d).ownBlock=some x)
 lo:∀b,o.getLast?=some b→w.ownsRow B 61 6 (cX o.length d) (d.m (o.length-1)) (ints b.2.2)
 lv:∀x,v.ownBlock=some x→¬(cX o.length d).ownBlock=some x
 bw:∀j b,o[j]?=some b→∀x,Fb (d.W j) b.2.1.length x→B≤x
 bs:∀j b,o[j]?=some b→∀x,Fb (d.S j) (d.m j*6) x→B≤x
section
variable {B:Nat}{v:Value}{o:List bP}{d:cG}{w w':World}
theorem dC.below (h:dC B v o d w)(hb:Below w.heap.size w w'):dC B v o d w':=
 ⟨own_below h.own hb,fun j b hj=>(h.rw j b hj).below hb,h.ln,fun j b hj=>(h.rs j b hj).below hb,h.fw,h.fs,fun b hl=>own_below (h.lo b hl) hb,h.lv,h.bw,h.bs⟩
theorem dC.drewN (h:dC B v o d w)(q:Nat):dC B v o d (w.drewN q):=⟨h.own,h.rw,h.ln,h.rs,h.fw,h.fs,h.lo,h.lv,h.bw,h.bs⟩
theorem sF {j:Nat}{b:bP}(h:o[j]?=some b):o.getD j (0,[],[])=b:=by simp[List.getD,h]
theorem dC.form (h:dC B v o d w)(h0:0<o.length):∃g cap,v=.slice (some ⟨g,0,none⟩) o.length cap∧B≤g∧g<w.heap.size:=by
 rcases h.own.2 with⟨_,h1⟩|⟨g,cap,_,e,hB,hc,_⟩
 ·omega
 ·exact⟨g,cap,e,hB,(Array.getElem?_eq_some_iff.1 hc).1⟩
def cG.add (d:cG)(k:Nat)(A:OA)(c:Nat):cG:=⟨d.W,fun j=>if j=k then A else d.S j,d.cw,fun j=>if j=k then c else d.cs j,fun j=>if j=k then d.m j+1 else d.m j⟩
theorem nG {b:bP}(h:o.getLast?=some b)(s:List Int):iR o s=o.set (o.length-1) (b.1,b.2.1,b.2.2++s):=by
 unfold iR;rw[h];have h0:0<o.length:=List.length_pos_iff.2 fun e=>by rw[e]at h;cases h
 apply List.ext_getElem?
 intro i;rw[List.getElem?_set,List.getElem?_append,List.length_dropLast]
 by_cases h1:i<o.length-1
 ·rw[if_pos h1,if_neg qo,List.getElem?_dropLast,if_pos h1]
 ·rw[if_neg h1]
  by_cases h2:o.length-1=i
  ·subst h2
   rw[if_pos rfl,if_pos qo,Nat.sub_self]
   rfl
  ·rw[if_neg h2,List.getElem?_eq_none (l:=[_]) (by rw[List.length_singleton];omega),List.getElem?_eq_none qo]
theorem r6 {w:World}{A:Option Addr}{n c:Nat}{L:List Int}(ho:w.ownsRow B 61 6 (.slice A n c) n (ints L)):Rd w A (n*6) (fun i=>.int .i64 (L.getD i 0)):=fun h0=>by
 have hl:L.length=n*6:=by have:=ho.1;simpa [ints]using this
 rcases ho.2 with⟨_,h1⟩|⟨g',cap,_,hg,_⟩
 ·omega
 injection hg with hA _ hc;subst hA;refine⟨g',0,rfl,(ho.lt g' rfl).2,fun j hj=>?_⟩;rw[Nat.zero_add,ho.cellAt j qo]
 simp[ints,List.getD,show j<L.length by omega]
theorem dC.add {g cap:Nat}(h:dC B (.slice (some ⟨g,0,none⟩) o.length cap) o d w){b:bP}(hb:o.getLast?=some b){A':Option Addr}{c':Nat}{s:List Int}(hs:s.length=6)
 (hown:w'.ownsRow B 61 6 (.slice A' (d.m (o.length-1)+1) c') (d.m (o.length-1)+1) (ints b.2.2++ints s)) (hf:Fr w w' (fun x=>(cX o.length d).ownBlock=some x)) (hat:(Value.slice A' (d.m (o.length-1)+1) c').ownBlock=(cX o.length d).ownBlock∨(Value.slice A' (d.m (o.length-1)+1) c').ownBlock=some (w.heap.size+1)):
 dC B (.slice (some ⟨g,0,none⟩) o.length cap) (iR o s) (d.add (o.length-1) A' c') (w'.setCell ⟨g,(o.length-1)*3+2,none⟩ (.slice A' (d.m (o.length-1)+1) c')):=by
 have h0:0<o.length:=List.length_pos_iff.2 fun e=>by rw[e]at hb;cases hb
 obtain⟨l,hl⟩:∃l,o.length=l+1:=⟨o.length-1,by omega⟩;have hl1:o.length-1=l:=qo;have hbl:o[l]?=some b:=by rw[←hb,List.getLast?_eq_getElem?,hl1]
 have hgz:g<w.heap.size:=(h.own.lt g rfl).2;have hgl:¬(cX o.length d).ownBlock=some g:=h.lv g rfl;rw[nG hb];have hlen:(o.set (o.length-1) (b.1,b.2.1,b.2.2++s)).length=o.length:=by rw[List.length_set]
 have hnew:∀x,x<w.heap.size→¬(cX o.length d).ownBlock=some x→¬(Value.slice A' (d.m (o.length-1)+1) c').ownBlock=some x:=fun x h1 h2 h3=>by
  rcases hat with e|e
  ·exact h2 (e.symm.trans h3)
  ·rw[e]at h3
   injection h3 with h3;omega
 have hgn:=hnew g hgz hgl;have hlv:cX (o.set (o.length-1) (b.1,b.2.1,b.2.2++s)).length (d.add (o.length-1) A' c')=.slice A' (d.m (o.length-1)+1) c':=by
  rw[hlen]
  simp[cX,cG.add]
 have hcs:∀j b',(o.set (o.length-1) (b.1,b.2.1,b.2.2++s))[j]?=some b'→(j≠l∧o[j]?=some b')∨(j=l∧b'=(b.1,b.2.1,b.2.2++s)):=fun j b' hj=>by
  rw[List.getElem?_set,hl1]at hj
  by_cases e:l=j
  ·rw[if_pos e,if_pos qo]at hj
   injection hj with hj;exact .inr ⟨e.symm,hj.symm⟩
  ·rw[if_neg e]at hj
   exact .inl ⟨fun e'=>e e'.symm,hj⟩
 have hset:∀x,x≠g→(w'.setCell ⟨g,(o.length-1)*3+2,none⟩ (.slice A' (d.m (o.length-1)+1) c')).heap[x]?=w'.heap[x]?:=fun x hx=>Below.heap_setCell w' _ _ x hx;have hown2:w'.ownsRow B 61 6 (.slice A' (d.m (o.length-1)+1) c') (d.m (o.length-1)+1) (ints (b.2.2++s)):=by rw[eB];exact hown
 refine⟨?_,fun j b' hj=>?_,fun j b' hj=>?_,fun j b' hj=>?_,fun j b' hj x hx=>?_,fun j b' hj x hx=>?_,fun b' hb'=>?_,fun x hx=>?_,fun j b' hj x hx=>?_,fun j b' hj x hx=>?_⟩
 ·rw[hlen]
  have h1:w'.ownsRow B 86 3 (.slice (some ⟨g,0,none⟩) o.length cap) o.length ((List.range (o.length*3)).map (fC o d)):=bT h.own fun x hx=>hf.block x (h.own.lt x hx).2 fun e=>h.lv x hx e;have h2:=(h1.stored ((o.length-1)*3+2) (.slice A' (d.m (o.length-1)+1) c')).1;have e:(List.range (o.length*3)).map (fC (o.set (o.length-1) (b.1,b.2.1,b.2.2++s)) (d.add (o.length-1) A' c'))=((List.range (o.length*3)).map (fC o d)).set ((o.length-1)*3+2) (.slice A' (d.m (o.length-1)+1) c'):=by
   apply List.ext_getElem?
   intro i;rw[List.getElem?_set]
   by_cases hi:i<o.length*3
   ·rw[List.getElem?_map,List.getElem?_range hi,Option.map_some]
    by_cases e:(o.length-1)*3+2=i
    ·rw[if_pos e,if_pos (by simp;omega)]
     have e3:i/3=o.length-1:=qo;have e4:i%3=2:=qo
     simp only[fC,e3,e4,cG.add,if_true]
     simp
    ·rw[if_neg e,List.getElem?_map,List.getElem?_range hi,Option.map_some]
     congr 1
     have hg3:(o.set (o.length-1) (b.1,b.2.1,b.2.2++s)).getD (i/3) (0,[],[])=if i/3=l then(b.1,b.2.1,b.2.2++s)else o.getD (i/3) (0,[],[]):=by
      rw[hl1]
      simp only[List.getD,List.getElem?_set]
      by_cases e5:l=i/3
      ·rw[if_pos e5,if_pos qo,if_pos e5.symm]
       rfl
      ·rw[if_neg e5,if_neg fun e=>e5 e.symm]
     by_cases e5:i/3=l
     ·have e6:i%3=0∨i%3=1:=qo
      simp only[fC,hg3,if_pos e5,cG.add]
      rw[e5,sF hbl]
      rcases e6 with e6|e6
      ·simp[e6]
      ·simp[e6]
     ·rw[hl1]at hg3
      simp only[fC,hl1,hg3,if_neg e5,cG.add]
   ·rw[if_neg qo,List.getElem?_eq_none (by simp;omega),List.getElem?_eq_none (by simp;omega)]
  rw[e];exact h2
 ·rcases hcs j b' hj with⟨hjl,hj⟩|⟨rfl,rfl⟩
  ·exact(aU _ _ _).1 _ _ ((aU _ _ _).fr (h.rw j b' hj) hf fun x hx he=>(h.fw j b' hj x hx).2 he) fun x hx=>hset x fun e=>(h.fw j b' hj x hx).1 (by rw[e];rfl)
  ·exact(aU _ _ _).1 _ _ ((aU _ _ _).fr (h.rw j b hbl) hf fun x hx he=>(h.fw j b hbl x hx).2 he) fun x hx=>hset x fun e=>(h.fw j b hbl x hx).1 (by rw[e];rfl)
 ·rcases hcs j b' hj with⟨hjl,hj⟩|⟨rfl,rfl⟩
  ·simp only[cG.add,if_neg (show j≠o.length-1 by omega)]
   exact h.ln j b' hj
  ·simp only[cG.add,if_pos hl1.symm,List.length_append,h.ln j b hbl,hs]
   omega
 ·rcases hcs j b' hj with⟨hjl,hj⟩|⟨rfl,rfl⟩
  ·simp only[cG.add,if_neg (show j≠o.length-1 by omega)]
   have hjlt:j<o.length:=(List.getElem?_eq_some_iff.1 hj).1;exact(aU _ _ _).1 _ _ ((aU _ _ _).fr (h.rs j b' hj) hf fun x hx he=>(h.fs j b' hj x hx).2 qo he) fun x hx=>hset x fun e=>(h.fs j b' hj x hx).1 (by rw[e];rfl)
  ·simp only[cG.add,if_pos hl1.symm]
   have h1:=r6 hown2;rw[hl1]at h1;refine(aU _ _ _).1 _ _ h1 fun x hx=>hset x fun e=>?_;obtain⟨_,a,rfl,rfl⟩:=hx;exact hgn (by rw[←e];rfl)
 ·rw[hlv]
  rcases hcs j b' hj with⟨hjl,hj⟩|⟨rfl,rfl⟩
  ·exact⟨(h.fw j b' hj x hx).1,hnew x ((aU _ _ _).2 w x (h.rw j b' hj) hx) (h.fw j b' hj x hx).2⟩
  ·exact⟨(h.fw j b hbl x hx).1,hnew x ((aU _ _ _).2 w x (h.rw j b hbl) hx) (h.fw j b hbl x hx).2⟩
 ·rw[hlv,hlen]
  rcases hcs j b' hj with⟨hjl,hj⟩|⟨rfl,rfl⟩
  ·simp only[cG.add,if_neg (show j≠o.length-1 by omega)]at hx
   exact⟨(h.fs j b' hj x hx).1,fun hlt=>hnew x ((aU _ _ _).2 w x (h.rs j b' hj) hx) ((h.fs j b' hj x hx).2 hlt)⟩
  ·simp only[cG.add,if_pos hl1.symm]at hx
   obtain⟨_,a,rfl,rfl⟩:=hx;refine⟨fun e=>?_,fun hlt=>by omega⟩;have e:some g=some a.block:=e;exact hgn (by rw[e];rfl)
 ·rw[hlv,hlen]
  have e:b'=(b.1,b.2.1,b.2.2++s):=by
   rw[List.getLast?_eq_getElem?,hlen,hl1,List.getElem?_set_self qo]at hb';injection hb' with hb';exact hb'.symm
  subst e
  simp only[cG.add,if_true]
  exact bT hown2 fun x hx=>hset x fun e=>hgn (by rw[←e];exact hx)
 ·rw[hlv]
  have e:some g=some x:=hx;injection e with e;rw[←e];exact hgn
 ·rcases hcs j b' hj with⟨hjl,hj⟩|⟨rfl,rfl⟩
  ·exact h.bw j b' hj x hx
  ·exact h.bw j b hbl x hx
 ·rcases hcs j b' hj with⟨hjl,hj⟩|⟨rfl,rfl⟩
  ·simp only[cG.add,if_neg (show j≠o.length-1 by omega)]at hx
   exact h.bs j b' hj x hx
  ·simp only[cG.add,if_pos hl1.symm]at hx
   obtain⟨_,a,rfl,rfl⟩:=hx;exact(hown2.lt a.block rfl).1
def sM (v:Value)(o:List bP)(d:cG)(x:Nat):Prop:=v.ownBlock=some x∨(cX o.length d).ownBlock=some x∨∃j b,o[j]?=some b∧(Fb (d.W j) b.2.1.length x∨Fb (d.S j) (d.m j*6) x)
theorem dC.rV (h:dC B v o d w)(ho:0<o.length){x:Nat}(hx:sM v o d x):x<w.heap.size:=by
 rcases hx with hx|hx|⟨j,b,hj,hx|hx⟩
 ·exact(h.own.lt x hx).2
 ·obtain⟨b,hb⟩:∃b,o.getLast?=some b:=⟨o[o.length-1],by rw[List.getLast?_eq_getElem?,List.getElem?_eq_getElem]⟩
  exact((h.lo b hb).lt x hx).2
 ·exact(aU _ _ _).2 w x (h.rw j b hj) hx
 ·exact(aU _ _ _).2 w x (h.rs j b hj) hx
theorem dC.keep (h:dC B v o d w)(ho:0<o.length)(hk:∀x,sM v o d x→w'.heap[x]?=w.heap[x]?):dC B v o d w':=
 ⟨bT h.own fun x hx=>hk x (.inl hx),
  fun j b hj=>(aU _ _ _).1 _ _ (h.rw j b hj) fun x hx=>hk x (.inr (.inr ⟨j,b,hj,.inl hx⟩)),
  h.ln,
  fun j b hj=>(aU _ _ _).1 _ _ (h.rs j b hj) fun x hx=>hk x (.inr (.inr ⟨j,b,hj,.inr hx⟩)),
  h.fw,h.fs,
  fun b hb=>bT (h.lo b hb) fun x hx=>hk x (.inr (.inl hx)),
  h.lv,h.bw,h.bs⟩
theorem dC.fr {F:Nat→Prop}(h:dC B v o d w)(ho:0<o.length)(hf:Fr w w' F)(hF:∀x,sM v o d x→¬F x):dC B v o d w':=
 ⟨bT h.own fun x hx=>hf.block x (h.rV ho (.inl hx)) (hF x (.inl hx)),
  fun j b hj=>(aU _ _ _).fr (h.rw j b hj) hf fun x hx=>hF x (.inr (.inr ⟨j,b,hj,.inl hx⟩)),
  h.ln,
  fun j b hj=>(aU _ _ _).fr (h.rs j b hj) hf fun x hx=>hF x (.inr (.inr ⟨j,b,hj,.inr hx⟩)),
  h.fw,h.fs,
  fun b hb=>bT (h.lo b hb) fun x hx=>hf.block x (h.rV ho (.inr (.inl hx))) (hF x (.inr (.inl hx))),
  h.lv,h.bw,h.bs⟩
end
end Go.Proofs.YtmnbgjnipbpiaaaGreatDoor
