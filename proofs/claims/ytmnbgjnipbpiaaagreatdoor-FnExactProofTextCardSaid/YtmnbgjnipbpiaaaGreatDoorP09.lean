/- Walks and plain lemmas. -/
import Derived.Test.YtmnbgjnipbpiaaaGreatDoorP07
import Derived.Test.YtmnbgjnipbpiaaaGreatDoorP06
set_option linter.unusedVariables false
set_option linter.unusedSimpArgs false
namespace Go.Proofs.YtmnbgjnipbpiaaaGreatDoor
open Go.RowKit
theorem bT {B:Nat}{w w':World}{e:TypeId}{size n:Nat}{v:Value}{xs:List Value}(ho:w.ownsRow B e size v n xs)(h:∀b,v.ownBlock=some b→w'.heap[b]?=w.heap[b]?):w'.ownsRow B e size v n xs:=by
 refine⟨ho.1,?_⟩
 rcases ho.2 with hn|⟨g,cap,cur,rfl,hb,hgg,rest⟩
 ·exact .inl hn
 ·exact .inr ⟨g,cap,cur,rfl,hb,(h g rfl).trans hgg,rest⟩
abbrev aW (w:World)(A:OA)(L:List Int):Prop:=Rd w A L.length (fun j=>.int .i64 (L.getD j 0))
structure cE (B:Nat)(v:Value)(Ls:List (List Int))(As:Nat→OA)(cs:Nat→Nat)(w:World):Prop where
 own:w.ownsRow B 57 1 v Ls.length ((List.range Ls.length).map fun j=>.slice (As j) (Ls.getD j []).length (cs j))
 rd:∀j,j<Ls.length→aW w (As j) (Ls.getD j [])
 far:∀j,j<Ls.length→∀b,Fb (As j) (Ls.getD j []).length b→¬v.ownBlock=some b
section
variable {B:Nat}{v:Value}{Ls:List (List Int)}{As:Nat→Option Addr}{cs:Nat→Nat}{w w':World}
theorem cE.lt (h:cE B v Ls As cs w){j:Nat}(hj:j<Ls.length){b:Nat}(hb:Fb (As j) (Ls.getD j []).length b):b<w.heap.size:=(aU _ _ _).2 w b (h.rd j hj) hb
theorem cE.keep (h:cE B v Ls As cs w)(hk:∀b,(v.ownBlock=some b∨∃j,j<Ls.length∧Fb (As j) (Ls.getD j []).length b)→w'.heap[b]?=w.heap[b]?):cE B v Ls As cs w':=
 ⟨bT h.own fun b hb=>hk b (.inl hb),fun j hj=>(aU _ _ _).1 _ _ (h.rd j hj) fun b hb=>hk b (.inr ⟨j,hj,hb⟩),h.far⟩
theorem cE.below (h:cE B v Ls As cs w)(hb:Below w.heap.size w w'):cE B v Ls As cs w':=h.keep fun b hx=>hb.block b (by
 rcases hx with hx|⟨j,hj,hx⟩
 ·exact(h.own.lt b hx).2
 ·exact h.lt hj hx)
theorem cE.drewN (h:cE B v Ls As cs w)(k:Nat):cE B v Ls As cs (w.drewN k):=h.keep fun _ _=>rfl
theorem cE.nil {v:Value}(ho:w.ownsRow B 57 1 v 0 [])(As:Nat→OA)(cs:Nat→Nat):cE B v [] As cs w:=⟨ho,fun j hj=>absurd hj (Nat.not_lt_zero j),fun j hj=>absurd hj (Nat.not_lt_zero j)⟩
theorem cE.form (h:cE B v Ls As cs w)(hn:0<Ls.length):∃g cap,v=.slice (some ⟨g,0,none⟩) Ls.length cap∧g<w.heap.size∧B≤g:=by
 rcases h.own.2 with⟨_,h0⟩|⟨g,cap,_,e,hB,hc,_⟩
 ·omega
 ·exact⟨g,cap,e,(Array.getElem?_eq_some_iff.1 hc).1,hB⟩
theorem cE.cell {g cap:Nat}(h:cE B (.slice (some ⟨g,0,none⟩) Ls.length cap) Ls As cs w){j:Nat}(hj:j<Ls.length):w.cell? ⟨g,j,none⟩=some (.slice (As j) (Ls.getD j []).length (cs j)):=by
 rw[h.own.cellAt j qo]
 simp[hj]
theorem cE.frozen {g cap:Nat}(h:cE B (.slice (some ⟨g,0,none⟩) Ls.length cap) Ls As cs w)(j:Nat):w.frozen? ⟨g,j,none⟩=false:=h.own.frozenAt j
theorem cE.put {g cap:Nat}(h:cE B (.slice (some ⟨g,0,none⟩) Ls.length cap) Ls As cs w){i:Nat}(hi:i<Ls.length){A:Option Addr}{L:List Int}{c:Nat}(hA:aW w A L)(hv:∀b,Fb A L.length b→b≠g):
 cE B (.slice (some ⟨g,0,none⟩) Ls.length cap) (Ls.set i L) (fun j=>if j=i then A else As j) (fun j=>if j=i then c else cs j) (w.setCell ⟨g,i,none⟩ (.slice A L.length c)):=by
 have hg:∀j,j≠i→(Ls.set i L).getD j []=Ls.getD j []:=fun j hj=>by simp[List.getD,List.getElem?_set,Ne.symm hj]
 have hg2:(Ls.set i L).getD i []=L:=by simp[List.getD,hi]
 have hst:=(h.own.stored i (.slice A L.length c)).1;have hk:∀b,b≠g→(w.setCell ⟨g,i,none⟩ (.slice A L.length c)).heap[b]?=w.heap[b]?:=fun b hb=>Below.heap_setCell w _ _ b hb;refine⟨?_,fun j hj=>?_,fun j hj b hb=>?_⟩
 ·rw[List.length_set]
  have e:(List.range Ls.length).map (fun j=>Value.slice (if j=i then A else As j) ((Ls.set i L).getD j []).length (if j=i then c else cs j))=((List.range Ls.length).map fun j=>Value.slice (As j) (Ls.getD j []).length (cs j)).set i (.slice A L.length c):=by
   apply List.ext_getElem?
   intro j;rw[List.getElem?_set]
   by_cases hij:i=j
   ·subst hij
    simp[hi]
   ·have hji:¬j=i:=fun e=>hij e.symm
    rw[if_neg hij]
    by_cases hj:j<Ls.length
    ·simp[hj,hji,List.getElem?_set,hij]
    ·simp[hj]
  rw[e];exact hst
 ·rw[List.length_set]at hj
  by_cases hji:j=i
  ·subst hji
   rw[if_pos rfl,hg2];exact(aU _ _ _).1 _ _ hA fun b hb=>hk b (hv b hb)
  ·rw[if_neg hji,hg j hji]
   exact(aU _ _ _).1 _ _ (h.rd j hj) fun b hb=>hk b fun e=>h.far j hj b hb (by rw[e];rfl)
 ·rw[List.length_set]at hj
  by_cases hji:j=i
  ·subst hji
   rw[if_pos rfl,hg2]at hb;exact fun e=>hv b hb (by injection e with e;exact e.symm)
  ·rw[if_neg hji,hg j hji]at hb
   exact h.far j hj b hb
end
end Go.Proofs.YtmnbgjnipbpiaaaGreatDoor
