/- Plain lemmas: what is known of values goes on behind a draw; the bounds of what was made. -/
import Derived.Test.YtacppheedleamaaObjs
namespace Go.Proofs.Ytacppheedleamaa
open Go.RowKit
theorem Loc.drewN {P : World → Prop} {F : Nat → Prop} {w : World} (h : Loc P F) (hp : P w) (n : Nat) : P (w.drewN n) := h.1 w _ hp fun _ _ => rfl
theorem NewO.lo {w w' : World} {R W : World → Prop} {F : Nat → Prop} {k : Nat} (h : NewO w w' R W F) (hk : k ≤ w.heap.size) : ∀ b, F b → k ≤ b := fun b hb => Nat.le_trans hk (h.ab b hb)
theorem NewO.hi {w w' : World} {R W : World → Prop} {F : Nat → Prop} (h : NewO w w' R W F) : ∀ b, F b → b < w'.heap.size := fun b hb => h.or.2 _ b h.r hb

/-- Block g is just the cells cs, and none is frozen. -/
def Blk (w : World) (g : Nat) (t : TypeId) (cs : Array Value) : Prop := w.heap[g]? = some (.cells cs t (0, 0))
section
variable {w w' : World} {g : Nat} {t : TypeId} {cs : Array Value}
theorem Blk.lt (h : Blk w g t cs) : g < w.heap.size := (Array.getElem?_eq_some_iff.1 h).1
theorem Blk.cell (h : Blk w g t cs) (i : Nat) : w.cell? ⟨g, i, none⟩ = cs[i]? := cell_of_row w g i cs t (0, 0) h
theorem Blk.frozen (h : Blk w g t cs) (i : Nat) : w.frozen? ⟨g, i, none⟩ = false := by
  unfold Blk at h
  simp [World.frozen?, h]
theorem Blk.at_ {g' : Nat} (w : World) (t : TypeId) (cs : Array Value) (hg : g' = w.heap.size) : Blk (w.alloc (.cells cs t)) g' t cs := by
  subst hg
  exact heap_alloc_new w _
theorem Blk.drewN (h : Blk w g t cs) (n : Nat) : Blk (w.drewN n) g t cs := h
theorem Blk.alloc (h : Blk w g t cs) (o : Obj) : Blk (w.alloc o) g t cs := (Below.heap_alloc w o g h.lt).trans h
theorem Blk.set_ (h : Blk w g t cs) (i : Nat) (u : Value) : Blk (w.setCell ⟨g, i, none⟩ u) g t (cs.setIfInBounds i u) := by
  unfold Blk at h ⊢
  simp [World.setCell, Array.getElem?_modify, h]
theorem Blk.far (h : Blk w g t cs) {p : Addr} (hp : g ≠ p.block) (u : Value) : Blk (w.setCell p u) g t cs := (Below.heap_setCell w p u g hp).trans h
theorem Blk.below {B : Nat} (h : Blk w g t cs) (hb : Below B w w') (hg : g < B) : Blk w' g t cs := (hb.block g hg).trans h
theorem Blk.fr {F : Nat → Prop} (h : Blk w g t cs) (hf : Fr w w' F) (hg : ¬ F g) : Blk w' g t cs := (hf.block g h.lt hg).trans h
end
theorem own_far {B : Nat} {w w' : World} {e : TypeId} {size n : Nat} {v : Value} {xs : List Value} (ho : w.ownsRow B e size v n xs) (hblk : ∀ b, B ≤ b → b < w.heap.size → w'.heap[b]? = w.heap[b]?) : w'.ownsRow B e size v n xs := by
  refine ⟨ho.1, ?_⟩
  rcases ho.2 with hn | ⟨g, cap, cur, rfl, hb, hgg, rest⟩
  · exact .inl hn
  · exact .inr ⟨g, cap, cur, rfl, hb, (hblk g hb (Array.getElem?_eq_some_iff.1 hgg).1).trans hgg, rest⟩
theorem own_set {B : Nat} {w : World} {e : TypeId} {size n : Nat} {v : Value} {xs : List Value} (ho : w.ownsRow B e size v n xs) {p : Addr} (hp : p.block < B) (u : Value) : (w.setCell p u).ownsRow B e size v n xs :=
  own_far ho fun b hb _ => Below.heap_setCell w p u b (by omega)
theorem own_form {B : Nat} {w : World} {e : TypeId} {size n : Nat} {v : Value} {xs : List Value} (ho : w.ownsRow B e size v n xs) : ∃ A c, v = .slice A n c := by
  rcases ho.2 with ⟨rfl, rfl⟩ | ⟨g, cap, cur, rfl, _⟩
  · exact ⟨none, 0, rfl⟩
  · exact ⟨_, _, rfl⟩
theorem own_drewN {B : Nat} {w : World} {e : TypeId} {size n : Nat} {v : Value} {xs : List Value} (ho : w.ownsRow B e size v n xs) (q : Nat) : (w.drewN q).ownsRow B e size v n xs := ho
theorem new_row {w w' : World} {A : Option Addr} {N : Nat} {f : Nat → Value} (hp : New w w' A N f) (hN : 0 < N) : ∃ g o, A = some ⟨g, o, none⟩ ∧ w.heap.size ≤ g ∧ g < w'.heap.size ∧ RowR w' g o N f ∧ RowW w' g o N := by
  obtain ⟨g, o, e, hg, hr⟩ := hp.rd hN
  obtain ⟨g', o', e', hw⟩ := hp.wr hN
  rw [e] at e'
  injection e' with e'
  injection e' with e1 e2
  subst e1 e2
  exact ⟨g, o, e, hp.ab _ e, hg, hr, hw⟩

end Go.Proofs.Ytacppheedleamaa
