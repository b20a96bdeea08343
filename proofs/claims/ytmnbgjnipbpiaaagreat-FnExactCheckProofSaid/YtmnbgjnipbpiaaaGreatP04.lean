/- Walks and plain lemmas. -/
import Derived.Test.YtmnbgjnipbpiaaaGreatP01
set_option linter.unusedVariables false
set_option linter.unusedSimpArgs false
namespace Go.Proofs.YtmnbgjnipbpiaaaGreat
open Go.RowKit
theorem Loc.drewN {P:World→Prop}{F:Nat→Prop}{w:World}(h:Loc P F)(hp:P w)(n:Nat):P (w.drewN n):=h.1 w _ hp fun _ _=>rfl
theorem pV.lo {w w':World}{R W:World→Prop}{F:Nat→Prop}{k:Nat}(h:pV w w' R W F)(hk:k≤w.heap.size):∀b,F b→k≤b:=fun b hb=>Nat.le_trans hk (h.ab b hb)
theorem pV.hi {w w':World}{R W:World→Prop}{F:Nat→Prop}(h:pV w w' R W F):∀b,F b→b<w'.heap.size:=fun b hb=>h.or.2 _ b h.r hb
def aA (w:World)(g:Nat)(t:TypeId)(cs:Array Value):Prop:=w.heap[g]?=some (.cells cs t (0,0))
section
variable {w w':World}{g:Nat}{t:TypeId}{cs:Array Value}
theorem aA.lt (h:aA w g t cs):g<w.heap.size:=(Array.getElem?_eq_some_iff.1 h).1
theorem aA.cell (h:aA w g t cs)(i:Nat):w.cell? ⟨g,i,none⟩=cs[i]?:=cell_of_row w g i cs t (0,0) h
theorem aA.frozen (h:aA w g t cs)(i:Nat):w.frozen? ⟨g,i,none⟩=false:=by
 unfold aA at h
 simp[World.frozen?,h]
theorem aA.at_ {g':Nat}(w:World)(t:TypeId)(cs:Array Value)(hg:g'=w.heap.size):aA (w.alloc (.cells cs t)) g' t cs:=by
 subst hg;exact heap_alloc_new w _
theorem aA.drewN (h:aA w g t cs)(n:Nat):aA (w.drewN n) g t cs:=h
theorem aA.alloc (h:aA w g t cs)(o:Obj):aA (w.alloc o) g t cs:=(Below.heap_alloc w o g h.lt).trans h
theorem aA.cM (h:aA w g t cs)(i:Nat)(u:Value):aA (w.setCell ⟨g,i,none⟩ u) g t (cs.setIfInBounds i u):=by
 unfold aA at h ⊢
 simp[World.setCell,Array.getElem?_modify,h]
theorem aA.far (h:aA w g t cs){p:Addr}(hp:g≠p.block)(u:Value):aA (w.setCell p u) g t cs:=(Below.heap_setCell w p u g hp).trans h
theorem aA.below {B:Nat}(h:aA w g t cs)(hb:Below B w w')(hg:g<B):aA w' g t cs:=(hb.block g hg).trans h
theorem aA.fr {F:Nat→Prop}(h:aA w g t cs)(hf:Fr w w' F)(hg:¬F g):aA w' g t cs:=(hf.block g h.lt hg).trans h
end
theorem xO {B:Nat}{w w':World}{e:TypeId}{size n:Nat}{v:Value}{xs:List Value}(ho:w.ownsRow B e size v n xs)(hblk:∀b,B≤b→b<w.heap.size→w'.heap[b]?=w.heap[b]?):w'.ownsRow B e size v n xs:=by
 refine⟨ho.1,?_⟩
 rcases ho.2 with hn|⟨g,cap,cur,rfl,hb,hgg,rest⟩
 ·exact .inl hn
 ·exact .inr ⟨g,cap,cur,rfl,hb,(hblk g hb (Array.getElem?_eq_some_iff.1 hgg).1).trans hgg,rest⟩
theorem aD {B:Nat}{w:World}{e:TypeId}{size n:Nat}{v:Value}{xs:List Value}(ho:w.ownsRow B e size v n xs):∃A c,v=.slice A n c:=by
 rcases ho.2 with⟨rfl,rfl⟩|⟨g,cap,cur,rfl,_⟩
 ·exact⟨none,0,rfl⟩
 ·exact⟨_,_,rfl⟩
theorem own_drewN {B:Nat}{w:World}{e:TypeId}{size n:Nat}{v:Value}{xs:List Value}(ho:w.ownsRow B e size v n xs)(q:Nat):(w.drewN q).ownsRow B e size v n xs:=ho
theorem qc {w:World}{g:Nat}{t:TypeId}{cs:Array Value}{v:Value}(h:aA w g t cs)(i:Nat)(hv:cs[i]?=some v):w.cell? ⟨g,i,none⟩=some v:=(h.cell i).trans hv
theorem Fr.own {B:Nat}{w w':World}{e:TypeId}{size n:Nat}{v:Value}{xs:List Value}(h:Fr w w' (fun b=>v.ownBlock=some b))(ho:w.ownsRow B e size v n xs)(hB:B≤w.heap.size):Below B w w':=
 h.below hB fun b hb=>(ho.lt b hb).1
theorem Fr.cells {g:Nat}{w w':World}{F:Nat→Prop}(h:Fr w w' F)(hg:g<w.heap.size)(hF:¬F g)(o:Nat):w'.cell? ⟨g,o,none⟩=w.cell? ⟨g,o,none⟩:=World.cell?_of_block (h.block g hg hF)
end Go.Proofs.YtmnbgjnipbpiaaaGreat
