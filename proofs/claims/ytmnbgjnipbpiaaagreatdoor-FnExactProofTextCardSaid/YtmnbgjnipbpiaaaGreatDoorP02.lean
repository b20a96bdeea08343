/- Walks and plain lemmas. -/
import Derived.Test.YtmnbgjnipbpiaaaGreatDoorP01
set_option linter.unusedVariables false
set_option linter.unusedSimpArgs false
namespace Go.Proofs.YtmnbgjnipbpiaaaGreatDoor
open Go.RowKit
theorem Loc.drewN {P:World→Prop}{F:Nat→Prop}{w:World}(h:Loc P F)(hp:P w)(n:Nat):P (w.drewN n):=h.1 w _ hp fun _ _=>rfl
theorem iS.lo {w w':World}{R W:World→Prop}{F:Nat→Prop}{k:Nat}(h:iS w w' R W F)(hk:k≤w.heap.size):∀b,F b→k≤b:=fun b hb=>Nat.le_trans hk (h.ab b hb)
theorem iS.hi {w w':World}{R W:World→Prop}{F:Nat→Prop}(h:iS w w' R W F):∀b,F b→b<w'.heap.size:=fun b hb=>h.or.2 _ b h.r hb
def aJ (w:World)(g:Nat)(t:TypeId)(cs:Array Value):Prop:=w.heap[g]?=some (.cells cs t (0,0))
section
variable {w w':World}{g:Nat}{t:TypeId}{cs:Array Value}
theorem aJ.lt (h:aJ w g t cs):g<w.heap.size:=(Array.getElem?_eq_some_iff.1 h).1
theorem aJ.cell (h:aJ w g t cs)(i:Nat):w.cell? ⟨g,i,none⟩=cs[i]?:=cell_of_row w g i cs t (0,0) h
theorem aJ.frozen (h:aJ w g t cs)(i:Nat):w.frozen? ⟨g,i,none⟩=false:=by
 unfold aJ at h
 simp[World.frozen?,h]
theorem aJ.at_ {g':Nat}(w:World)(t:TypeId)(cs:Array Value)(hg:g'=w.heap.size):aJ (w.alloc (.cells cs t)) g' t cs:=by
 subst hg;exact heap_alloc_new w _
theorem aJ.drewN (h:aJ w g t cs)(n:Nat):aJ (w.drewN n) g t cs:=h
theorem aJ.alloc (h:aJ w g t cs)(o:Obj):aJ (w.alloc o) g t cs:=(Below.heap_alloc w o g h.lt).trans h
theorem aJ.vY (h:aJ w g t cs)(i:Nat)(u:Value):aJ (w.setCell ⟨g,i,none⟩ u) g t (cs.setIfInBounds i u):=by
 unfold aJ at h ⊢
 simp[World.setCell,Array.getElem?_modify,h]
theorem aJ.far (h:aJ w g t cs){p:Addr}(hp:g≠p.block)(u:Value):aJ (w.setCell p u) g t cs:=(Below.heap_setCell w p u g hp).trans h
theorem aJ.below {B:Nat}(h:aJ w g t cs)(hb:Below B w w')(hg:g<B):aJ w' g t cs:=(hb.block g hg).trans h
theorem aJ.fr {F:Nat→Prop}(h:aJ w g t cs)(hf:Fr w w' F)(hg:¬F g):aJ w' g t cs:=(hf.block g h.lt hg).trans h
end
theorem cK {B:Nat}{w:World}{e:TypeId}{size n:Nat}{v:Value}{xs:List Value}(ho:w.ownsRow B e size v n xs):∃A c,v=.slice A n c:=by
 rcases ho.2 with⟨rfl,rfl⟩|⟨g,cap,cur,rfl,_⟩
 ·exact⟨none,0,rfl⟩
 ·exact⟨_,_,rfl⟩
theorem own_drewN {B:Nat}{w:World}{e:TypeId}{size n:Nat}{v:Value}{xs:List Value}(ho:w.ownsRow B e size v n xs)(q:Nat):(w.drewN q).ownsRow B e size v n xs:=ho
theorem qc {w:World}{g:Nat}{t:TypeId}{cs:Array Value}{v:Value}(h:aJ w g t cs)(i:Nat)(hv:cs[i]?=some v):w.cell? ⟨g,i,none⟩=some v:=(h.cell i).trans hv
end Go.Proofs.YtmnbgjnipbpiaaaGreatDoor
