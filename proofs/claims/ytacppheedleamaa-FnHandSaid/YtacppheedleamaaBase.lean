/- Plain lemmas on worlds that all walks of this seat use: what is below a block number stays as it was; a slice value that reads as a list of cells. -/
import Derived.Test.YtacppheedleamaaProg
import Derived.WalkKit
import Derived.WalkSpells
import Derived.RowKit3
import Derived.Lib.Hide
import Derived.Deep.Draws
import Derived.Laws.OwnMore
import Derived.Laws.Strings
namespace Go.Proofs.Ytacppheedleamaa
open Go.RowKit

theorem bcell {B : Nat} {W w1 : World} (hb : Below B W w1) : (∀ b o, b < B → w1.cell? ⟨b, o, none⟩ = W.cell? ⟨b, o, none⟩) ∧ (∀ b o, b < B → w1.frozen? ⟨b, o, none⟩ = W.frozen? ⟨b, o, none⟩) :=
  ⟨fun b o h => hb.cell (p := ⟨b, o, none⟩) h, fun b o h => hb.frozen (p := ⟨b, o, none⟩) h⟩
theorem blt {B : Nat} {W w1 : World} {n : Nat} (hb : Below B W w1) (h : n < W.heap.size) : n < w1.heap.size := Nat.lt_of_lt_of_le h hb.size
theorem ret_str {a b : ByteArray} (h : a = b) : Ending.returned (.string a) = .returned (.string b) := by rw [h]
theorem ret_int {k : IntKind} {a b : Int} (h : a = b) : Ending.returned (.int k a) = .returned (.int k b) := by rw [h]
theorem ret_bool {a b : Bool} (h : a = b) : Ending.returned (.bool a) = .returned (.bool b) := by rw [h]
theorem Below.drewN' {B : Nat} {a w : World} (h : Below B a w) (n : Nat) : Below B a (w.drewN n) := ⟨h.os, h.tape, h.output, h.size, h.block⟩

theorem frozen_new (w : World) (cs : Array Value) (t : TypeId) (o : Nat) : (w.alloc (.cells cs t)).frozen? ⟨w.heap.size, o, none⟩ = false := by
  have h := heap_alloc_new w (.cells cs t)
  unfold World.frozen?
  simp only [h]
  simp
theorem cell_alloc_at {W : World} {g : Nat} {cs : Array Value} {t : TypeId} (h : g = W.heap.size) (o : Nat) : (W.alloc (.cells cs t)).cell? ⟨g, o, none⟩ = cs[o]? := by
  subst h
  exact cell_of_row _ _ _ _ _ _ (heap_alloc_new W (.cells cs t))
theorem take_snoc' {α : Type} {l : List α} {k : Nat} {x : α} (h : l[k]? = some x) : l.take (k + 1) = l.take k ++ [x] := by
  obtain ⟨hk, rfl⟩ := List.getElem?_eq_some_iff.1 h
  exact List.take_succ_eq_append_getElem hk

theorem bytes_ne {s t : ByteArray} (h : s ≠ t) : (s.toList == t.toList) = false := by
  rw [beq_eq_false_iff_ne]
  intro e
  apply h
  apply ByteArray.ext
  apply Array.toList_inj.1
  rw [← ByteArray.toList_eq, ← ByteArray.toList_eq]; exact e

/-- The row at ⟨g, o⟩ of n cells can be written. -/
def RowW (w : World) (g o n : Nat) : Prop := ∀ j, j < n → (∃ u, w.cell? ⟨g, o + j, none⟩ = some u) ∧ w.frozen? ⟨g, o + j, none⟩ = false
/-- The row at ⟨g, o⟩ reads as f from 0 to n - 1. -/
def RowR (w : World) (g o n : Nat) (f : Nat → Value) : Prop := ∀ j, j < n → w.cell? ⟨g, o + j, none⟩ = some (f j)
/-- Only block g may have changed, and what is new. -/
def Only (w w' : World) (g : Nat) : Prop := w.grownBy w' (some g)
/-- What a law's mark function leaves: the N cells of the slice at A read as f; only its block may have changed. -/
def MarkP (w : World) (A : Option Addr) (N : Nat) (r : Int) (f : Nat → Value) (e : Ending) (w' : World) : Prop :=
  e = .returned (.int .i64 r) ∧ w.heap.size ≤ w'.heap.size ∧ (N = 0 → w' = w) ∧ ∀ g o, A = some ⟨g, o, none⟩ → 0 < N → Only w w' g ∧ RowW w' g o N ∧ RowR w' g o N f

section
variable {w w' w'' : World} {g o n : Nat} {f : Nat → Value}
theorem Only.refl (w : World) (g : Nat) : Only w w g := World.grownBy.refl w _
theorem Only.below (h : Only w w' g) (hb : Below w'.heap.size w' w'') : Only w w'' g :=
  ⟨hb.os.trans h.os, hb.tape.trans h.tape, hb.output.trans h.output, Nat.le_trans h.size hb.size, fun i hi hn => (hb.block i (Nat.lt_of_lt_of_le hi h.size)).trans (h.block i hi hn)⟩
theorem Only.set (h : Only w w' g) (o : Nat) (u : Value) : Only w (w'.setCell ⟨g, o, none⟩ u) g :=
  ⟨h.os, h.tape, h.output, by simpa [World.setCell] using h.size, fun i hi hne => (Below.heap_setCell w' ⟨g, o, none⟩ u i (by rintro rfl; exact hne rfl)).trans (h.block i hi hne)⟩
theorem Only.drewN (h : Only w w' g) (q : Nat) : Only w (w'.drewN q) g := ⟨h.os, h.tape, h.output, h.size, h.block⟩
theorem RowW.lt (h : RowW w g o n) (hn : 0 < n) : g < w.heap.size := by
  obtain ⟨⟨u, hu⟩, _⟩ := h 0 hn
  exact World.block_lt_of_cell? w _ hu
theorem RowW.below (h : RowW w g o n) (hb : Below w.heap.size w w') : RowW w' g o n := fun j hj => by
  have hg := h.lt (by omega)
  obtain ⟨⟨u, hu⟩, hf⟩ := h j hj
  exact ⟨⟨u, ((bcell hb).1 _ _ hg).trans hu⟩, ((bcell hb).2 _ _ hg).trans hf⟩
theorem RowW.set (h : RowW w g o n) (a : Addr) (u : Value) : RowW (w.setCell a u) g o n := fun j hj => by
  obtain ⟨⟨v, hv⟩, hf⟩ := h j hj
  refine ⟨?_, (World.frozen?_setCell _ _ _ _).trans hf⟩
  obtain ⟨v', hv'⟩ := cell?_setCell_some (w := w) (p := a) (x := u) (q := ⟨g, o + j, none⟩) (v := v) hv
  exact ⟨v', hv'⟩
theorem RowR.below (h : RowR w g o n f) (hg : g < w.heap.size) (hb : Below w.heap.size w w') : RowR w' g o n f := fun j hj => ((bcell hb).1 _ _ hg).trans (h j hj)
theorem RowR.cast {n' : Nat} (h : n' = n) (hr : RowR w g o n' f) : RowR w g o n f := by subst h; exact hr
theorem RowR.step {N m a : Nat} {u : Value} (hr : RowR w g o m f) (hw : RowW w g o N) (hm : m < N) (ha : a = o + m) (hu : u = f m) : RowR (w.setCell ⟨g, a, none⟩ u) g o (m + 1) f := fun j hj => by
  subst ha hu
  by_cases hjm : j = m
  · subst hjm
    obtain ⟨⟨v, hv⟩, _⟩ := hw j hm
    exact World.cell?_setCell_same _ _ _ hv
  · rw [World.cell?_setCell_other _ _ _ _ (by intro e; injection e; omega)]
    exact hr j (by omega)
theorem Only.row {g' o' N : Nat} {f : Nat → Value} (h : Only w w' g) (hr : RowR w g' o' N f) (hlt : g' < w.heap.size) (hne : g' ≠ g) : RowR w' g' o' N f := fun j hj =>
  (World.cell?_of_block (w := w) (a := ⟨g', o' + j, none⟩) (h.block g' hlt (by intro e; injection e with e; exact hne e))).trans (hr j hj)
theorem RowR.set (h : RowR w g o n f) {k : Nat} (hk : n ≤ k) (u : Value) : RowR (w.setCell ⟨g, o + k, none⟩ u) g o n f := fun j hj => by
  rw [World.cell?_setCell_other w _ _ u (by intro e; injection e; omega)]
  exact h j hj
end

/-- The slice at A reads as f over its N cells; its block is there. -/
def Rd (w : World) (A : Option Addr) (N : Nat) (f : Nat → Value) : Prop := 0 < N → ∃ g o, A = some ⟨g, o, none⟩ ∧ g < w.heap.size ∧ RowR w g o N f
/-- The N cells of the slice at A can be written. -/
def Wr (w : World) (A : Option Addr) (N : Nat) : Prop := 0 < N → ∃ g o, A = some ⟨g, o, none⟩ ∧ RowW w g o N
/-- The slice at A lies in a block from B on (if it has a block). -/
def Ab (A : Option Addr) (B : Nat) : Prop := ∀ a, A = some a → B ≤ a.block
/-- The slice at A lies below B. -/
def Bl (A : Option Addr) (B : Nat) : Prop := ∀ a, A = some a → a.block < B
section
variable {w w' : World} {A : Option Addr} {N : Nat} {f : Nat → Value} {B : Nat}
theorem Rd.below (h : Rd w A N f) (hb : Below w.heap.size w w') : Rd w' A N f := fun hN => by
  obtain ⟨g, o, e, hg, hr⟩ := h hN
  exact ⟨g, o, e, blt hb hg, hr.below hg hb⟩
theorem Rd.drewN (h : Rd w A N f) (q : Nat) : Rd (w.drewN q) A N f := h
theorem Wr.below (h : Wr w A N) (hb : Below w.heap.size w w') : Wr w' A N := fun hN => by
  obtain ⟨g, o, e, hr⟩ := h hN
  exact ⟨g, o, e, hr.below hb⟩
theorem Rd.row (h : Rd w A N f) {k : Nat} (hk : k < N) : ∃ g o, A = some ⟨g, o, none⟩ ∧ w.cell? ⟨g, o + k, none⟩ = some (f k) := by
  obtain ⟨g, o, e, _, hr⟩ := h (by omega)
  exact ⟨g, o, e, hr k hk⟩
/-- Behind a mark: what lies in another block reads as before. -/
theorem Rd.marked {A' : Option Addr} {N' : Nat} {r : Int} {f' : Nat → Value} {e : Ending} (h : Rd w A N f) (hm : MarkP w A' N' r f' e w') (hne : ∀ a a', A = some a → A' = some a' → a.block ≠ a'.block) (hw : Wr w A' N') : Rd w' A N f := fun hN => by
  obtain ⟨g, o, e, hg, hr⟩ := h hN
  rcases Nat.eq_zero_or_pos N' with h0 | h0
  · rw [hm.2.2.1 h0]
    exact ⟨g, o, e, hg, hr⟩
  · obtain ⟨g', o', e', _⟩ := hw h0
    exact ⟨g, o, e, Nat.lt_of_lt_of_le hg hm.2.1, (hm.2.2.2 g' o' e' h0).1.row hr hg (hne _ _ e e')⟩
/-- Behind a mark on a slice that was made later: what was there before reads as before. -/
theorem Rd.kept {w0 : World} {A' : Option Addr} {N' : Nat} {r : Int} {f' f0 : Nat → Value} {e : Ending} (h : Rd w A N f) (h0 : Rd w0 A N f0) (hab : Ab A' B) (hB : w0.heap.size ≤ B) (hm : MarkP w A' N' r f' e w') (hw : Wr w A' N') : Rd w' A N f := fun hN => by
  obtain ⟨g, o, e, hg, hr⟩ := h hN
  obtain ⟨g0, o0, e0, hg0, _⟩ := h0 hN
  rw [e] at e0
  injection e0 with e0
  injection e0 with e1 e2
  subst e1
  rcases Nat.eq_zero_or_pos N' with h0 | h0
  · rw [hm.2.2.1 h0]
    exact ⟨g, o, e, hg, hr⟩
  · obtain ⟨g', o', e', _⟩ := hw h0
    have := hab _ e'
    exact ⟨g, o, e, Nat.lt_of_lt_of_le hg hm.2.1, (hm.2.2.2 g' o' e' h0).1.row hr hg (by simp at this; omega)⟩
/-- Behind a mark on a slice that was made earlier: what was made later reads and can be written as before. -/
theorem Rd.later {A' : Option Addr} {N' : Nat} {r : Int} {f' f0 : Nat → Value} {e : Ending} {w0 : World} (h : Rd w A N f) (hab : Ab A B) (h0 : Rd w0 A' N' f0) (hB : w0.heap.size ≤ B) (hm : MarkP w A' N' r f' e w') (hw : Wr w A' N') : Rd w' A N f := fun hN => by
  obtain ⟨g, o, e, hg, hr⟩ := h hN
  have := hab _ e
  rcases Nat.eq_zero_or_pos N' with hz | hz
  · rw [hm.2.2.1 hz]
    exact ⟨g, o, e, hg, hr⟩
  · obtain ⟨g', o', e', _⟩ := hw hz
    obtain ⟨g0, o0, e0, hg0, _⟩ := h0 hz
    rw [e'] at e0
    injection e0 with e0
    injection e0 with e1 e2
    subst e1
    exact ⟨g, o, e, Nat.lt_of_lt_of_le hg hm.2.1, (hm.2.2.2 g' o' e' hz).1.row hr hg (by simp at this; omega)⟩
theorem Wr.later {A' : Option Addr} {N' : Nat} {r : Int} {f' f0 : Nat → Value} {e : Ending} {w0 : World} (h : Wr w A N) (hab : Ab A B) (h0 : Rd w0 A' N' f0) (hB : w0.heap.size ≤ B) (hm : MarkP w A' N' r f' e w') (hw : Wr w A' N') : Wr w' A N := fun hN => by
  obtain ⟨g, o, e, hr⟩ := h hN
  have := hab _ e
  rcases Nat.eq_zero_or_pos N' with hz | hz
  · rw [hm.2.2.1 hz]
    exact ⟨g, o, e, hr⟩
  · obtain ⟨g', o', e', _⟩ := hw hz
    obtain ⟨g0, o0, e0, hg0, _⟩ := h0 hz
    rw [e'] at e0
    injection e0 with e0
    injection e0 with e1 e2
    subst e1
    have hO := (hm.2.2.2 g' o' e' hz).1
    refine ⟨g, o, e, fun j hj => ?_⟩
    have hg := hr.lt hN
    have hblk := hO.block g hg (by simp at this; intro e; injection e; omega)
    obtain ⟨⟨u, hu⟩, hf⟩ := hr j hj
    exact ⟨⟨u, (World.cell?_of_block (a := ⟨g, o + j, none⟩) hblk).trans hu⟩, (World.frozen?_of_block (a := ⟨g, o + j, none⟩) hblk).trans hf⟩
theorem MarkP.rd {r : Int} {e : Ending} (hm : MarkP w A N r f e w') (hw : Wr w A N) : Rd w' A N f := fun hN => by
  obtain ⟨g, o, e', _⟩ := hw hN
  obtain ⟨_, h2, h3⟩ := hm.2.2.2 g o e' hN
  exact ⟨g, o, e', h2.lt hN, h3⟩
theorem MarkP.below {r : Int} {e : Ending} (hm : MarkP w A N r f e w') (hA : Ab A B) (hw : Wr w A N) : Below B w w' := by
  rcases Nat.eq_zero_or_pos N with h0 | h0
  · rw [hm.2.2.1 h0]
    exact Below.refl _ _
  · obtain ⟨g, o, e', hr⟩ := hw h0
    obtain ⟨h1, _, _⟩ := hm.2.2.2 g o e' h0
    have hB : B ≤ g := hA _ e'
    have hg := hr.lt h0
    exact ⟨h1.os, h1.tape, h1.output, h1.size, fun k hk => h1.block k (by omega) (by intro e; injection e with e; omega)⟩
theorem Ab.ne {A' : Option Addr} (h : Ab A' B) (h' : Bl A B) : ∀ a a', A = some a → A' = some a' → a.block ≠ a'.block := fun a a' e e' => by
  have := h a' e'
  have := h' a e
  omega
theorem Ab.mono {B' : Nat} (h : Ab A B) (hB : B' ≤ B) : Ab A B' := fun a e => Nat.le_trans hB (h a e)
theorem Bl.mono {B' : Nat} (h : Bl A B) (hB : B ≤ B') : Bl A B' := fun a e => Nat.lt_of_lt_of_le (h a e) hB
end

/-- A new slice whose N cells read as f: it lies in a block that the call made, it can be written, and all that was there is as it was. -/
def New (w w' : World) (A : Option Addr) (N : Nat) (f : Nat → Value) : Prop :=
  Below w.heap.size w w' ∧ Ab A w.heap.size ∧ Bl A w'.heap.size ∧ Wr w' A N ∧ Rd w' A N f
section
variable {w w1 w2 w' : World} {A A' : Option Addr} {N N' : Nat} {f f' : Nat → Value}
theorem New.bl (h : New w w' A N f) : Below w.heap.size w w' := h.1
theorem New.ab (h : New w w' A N f) : Ab A w.heap.size := h.2.1
theorem New.bb (h : New w w' A N f) : Bl A w'.heap.size := h.2.2.1
theorem New.wr (h : New w w' A N f) : Wr w' A N := h.2.2.2.1
theorem New.rd (h : New w w' A N f) : Rd w' A N f := h.2.2.2.2
theorem New.ne (h : New w1 w2 A N f) (h' : Bl A' w1.heap.size) : ∀ a a', A' = some a → A = some a' → a.block ≠ a'.block := h.ab.ne h'
/-- A block just laid, as a new slice. -/
theorem New.block (w : World) (cs : Array Value) (t : TypeId) (N : Nat) (f : Nat → Value) (hf : ∀ j, j < N → cs[j]? = some (f j)) :
    New w (w.alloc (.cells cs t)) (some ⟨w.heap.size, 0, none⟩) N f := by
  have h := heap_alloc_new w (.cells cs t)
  have hc : ∀ i, (w.alloc (.cells cs t)).cell? ⟨w.heap.size, i, none⟩ = cs[i]? := fun i => cell_of_row _ _ _ _ _ _ h
  refine ⟨(Below.refl _ _).alloc (Nat.le_refl _) _, fun a e => by injection e with e; subst e; exact Nat.le_refl _, fun a e => by injection e with e; subst e; simp, fun _ => ⟨_, _, rfl, fun j hj => ⟨⟨_, (hc _).trans (by rw [Nat.zero_add]; exact hf j hj)⟩, ?_⟩⟩, fun _ => ⟨_, _, rfl, by simp, fun j hj => (hc _).trans (by rw [Nat.zero_add]; exact hf j hj)⟩⟩
  unfold World.frozen?
  simp only [h]
  simp
end

section
variable {w w' : World} {A : Option Addr} {N N' : Nat} {f f' : Nat → Value} {e : TypeId} {size n : Nat} {v : Value} {xs : List Value}
theorem Rd.congr (h : Rd w A N f) (hf : ∀ j, j < N → f j = f' j) : Rd w A N f' := fun hN => by
  obtain ⟨g, o, e, hg, hr⟩ := h hN
  exact ⟨g, o, e, hg, fun j hj => (hr j hj).trans (by rw [hf j hj])⟩
theorem New.congr (h : New w w' A N f) (hf : ∀ j, j < N → f j = f' j) : New w w' A N f' := ⟨h.bl, h.ab, h.bb, h.wr, h.rd.congr hf⟩
/-- What a call has built by append or make, and hands back: a new slice. -/
theorem New.of_own (hb : Below w.heap.size w w') (h : w'.ownsRow w.heap.size e size v n xs) : ∃ A c, v = .slice A n c ∧ New w w' A (n * size) (fun j => xs.getD j undef) := by
  rcases h.2 with ⟨rfl, rfl⟩ | ⟨g, cap, cur, rfl, hg, hh, hn, hc, hs, ht⟩
  · exact ⟨none, 0, rfl, hb, fun a e => (by cases e), fun a e => (by cases e), fun h0 => absurd h0 (by omega), fun h0 => absurd h0 (by omega)⟩
  · have hlt : g < w'.heap.size := (Array.getElem?_eq_some_iff.1 hh).1
    have hc : ∀ j, j < n * size → w'.cell? ⟨g, 0 + j, none⟩ = some (xs.getD j undef) := fun j hj => by
      rw [Nat.zero_add, h.cellAt j hj]
      simp [List.getD, List.getElem?_eq_getElem (show j < xs.length by rw [h.1]; exact hj)]
    exact ⟨_, cap, rfl, hb, fun a e => by injection e with e; subst e; exact hg, fun a e => by injection e with e; subst e; exact hlt,
      fun _ => ⟨g, 0, rfl, fun j hj => ⟨⟨_, hc j hj⟩, h.frozenAt _⟩⟩, fun _ => ⟨g, 0, rfl, hlt, hc⟩⟩
theorem RowW.of_own {B g c : Nat} (h : w'.ownsRow B e size (.slice (some ⟨g, 0, none⟩) n c) n xs) : RowW w' g 0 (n * size) := fun j hj => by
  rw [Nat.zero_add]
  refine ⟨⟨xs.getD j undef, ?_⟩, h.frozenAt _⟩
  rw [h.cellAt j hj]
  simp [List.getD, List.getElem?_eq_getElem (show j < xs.length by rw [h.1]; exact hj)]
/-- A row of the call's own, all of it written: a new slice. -/
theorem New.of_row {g : Nat} (hb : Below w.heap.size w w') (hg : w.heap.size ≤ g) (hlt : g < w'.heap.size) (hw : RowW w' g 0 N) (hr : RowR w' g 0 N f) : New w w' (some ⟨g, 0, none⟩) N f :=
  ⟨hb, fun a e => by injection e with e; subst e; exact hg, fun a e => by injection e with e; subst e; exact hlt, fun _ => ⟨g, 0, rfl, hw⟩, fun _ => ⟨g, 0, rfl, hlt, hr⟩⟩
theorem getD_map {α : Type} (l : List α) (F : α → Value) (d : α) (j : Nat) (h : j < l.length) : (l.map F).getD j undef = F (l.getD j d) := by
  simp [List.getD, List.getElem?_eq_getElem h]
end

theorem Below.own {B : Nat} {a w w' : World} {e : TypeId} {size n : Nat} {v : Value} {xs : List Value} (h : Below B a w) (hg : w.grownBy w' v.ownBlock) (ho : w.ownsRow B e size v n xs) (hB : B ≤ w.heap.size) : Below B a w' :=
  h.grown hg hB (fun k hk => (ho.lt k hk).1)
theorem own_below {B : Nat} {w w' : World} {e : TypeId} {size n : Nat} {v : Value} {xs : List Value} (ho : w.ownsRow B e size v n xs) (hb : Below w.heap.size w w') : w'.ownsRow B e size v n xs :=
  ho.kept (row := none) ⟨hb.os, hb.tape, hb.output, hb.size, fun k hk _ => hb.block k hk⟩ (by cases h : v.ownBlock <;> simp)
/-- 'out = append(out, x ..)': the elements to be appended were just laid in a block of their own; out is the call's own. -/
theorem wpList_app {P : Program} (W : World) {ops : Array Oper} {rest : List Oper} {o : Oper} {a : Act} {Q : Exit → Act → World → Prop} (hgd : o.guard = none) (s x : Operand) (t : TypeId)
    (ho : o.op = .call { callee := .builtin .append, args := #[s, x], argTypes := #[t, t] })
    (base : Nat) (e : TypeId) (i : TypeInfo) (z : Value) (size bytes : Nat) (ht : P.underlying t = some (.slice e)) (hi : P.info? e = some i) (hz : i.zero = some z)
    (hsize : i.size = size) (hby : i.bytes = bytes) (hzs : z.cells.size = size) (hsz : 0 < size)
    (v : Value) (n : Nat) (xs : List Value) (hs : a.eval s = v) (hown : W.ownsRow base e size v n xs)
    (te : TypeId) (m c : Nat) (news : List Value) (hx : a.eval x = .slice (some ⟨W.heap.size, 0, none⟩) m c) (hl : news.length = m * size) (h1 : ∀ u ∈ news, u.oneCell' = true)
    (h63 : n + m ≤ maxLen) (hbytes : (n + m) * bytes ≤ 140737488355328) (hbase : base ≤ W.heap.size)
    (h : ∀ v' w', w'.ownsRow base e size v' (n + m) (xs ++ news) → Below base W w' → wpList P ops Q rest (a.put o.dst v') w') :
    wpList P ops Q (o :: rest) a (W.alloc (.cells news.toArray te)) := by
  have hn := heap_alloc_new W (.cells news.toArray te)
  refine wpList_append_own _ hgd s x t ho base e i z size bytes ht hi hz hsize hby hzs hsz v n xs hs (hown.alloc _) ⟨W.heap.size, 0, none⟩ m c news hx hl ?_ h1 h63 hbytes (by simp; omega) ?_
  · intro j u hu
    rw [Addr.add_lit, cell_of_row _ _ _ _ _ _ hn]
    simpa using hu
  · intro v' w' h2 h3 _
    exact h v' w' h2 (Below.own ((Below.refl _ _).alloc hbase _) h3 (hown.alloc _) (by simp; omega))

/-- Made behind a world that already stands over the first. -/
theorem New.under {w w1 w2 : World} {A : Option Addr} {N : Nat} {f : Nat → Value} (h : New w1 w2 A N f) (hb : Below w.heap.size w w1) : New w w2 A N f :=
  ⟨hb.trans (h.bl.mono hb.size), h.ab.mono hb.size, h.bb, h.wr, h.rd⟩
/-- A function that hands back a new slice of n elements whose N cells read as f. -/
def NewP (w : World) (n N : Nat) (f : Nat → Value) (e : Ending) (w' : World) : Prop := ∃ A c, e = .returned (.slice A n c) ∧ New w w' A N f
/-- The same beside a code. -/
def NewP2 (w : World) (n N : Nat) (f : Nat → Value) (code : Int) (e : Ending) (w' : World) : Prop := ∃ A c, e = .returned (.tuple #[.slice A n c, .int .i64 code]) ∧ New w w' A N f
theorem New.none_ {w w' : World} (hb : Below w.heap.size w w') (f : Nat → Value) : New w w' none 0 f :=
  ⟨hb, fun a e => (by cases e), fun a e => (by cases e), fun h0 => absurd h0 (by omega), fun h0 => absurd h0 (by omega)⟩
theorem getD_int {n j : Nat} {z : Nat → Int} (h : j < n) : ((List.range n).map fun i => Value.int .i64 (z i)).getD j undef = .int .i64 (z j) := by
  simp [List.getD, h]

theorem own_lit {base : Nat} {e : TypeId} {size : Nat} (w : World) (cs : List Value) (n : Nat) (hb : base ≤ w.heap.size) (hn : n ≤ maxLen) (hl : cs.length = n * size) :
    (w.alloc (.cells cs.toArray e)).ownsRow base e size (.slice (some ⟨w.heap.size, 0, none⟩) n n) n cs :=
  ⟨hl, .inr ⟨w.heap.size, n, cs.toArray, rfl, hb, heap_alloc_new w _, Nat.le_refl _, hn, by simpa using hl, by simp [← hl]⟩⟩
def inB (n lo hi : Int) : Bool := decide (lo ≤ n) && decide (n ≤ hi)
theorem inB_true {n lo hi : Int} (h : inB n lo hi = true) : lo ≤ n ∧ n ≤ hi := by simpa [inB] using h
theorem inB_false {n lo hi : Int} (h : inB n lo hi = false) : n < lo ∨ hi < n := by simp [inB] at h; omega
end Go.Proofs.Ytacppheedleamaa
