/- Plain lemmas: what a value reads as in memory, told with the set of blocks that it lies in; what a call makes anew; what a mark leaves. -/
import Derived.Test.YtacppheedleamaaBase
namespace Go.Proofs.Ytacppheedleamaa
open Go.RowKit

/-- P speaks of the blocks F alone, and these are there. -/
def Loc (P : World → Prop) (F : Nat → Prop) : Prop := (∀ w w', P w → (∀ b, F b → w'.heap[b]? = w.heap[b]?) → P w') ∧ ∀ w b, P w → F b → b < w.heap.size
/-- All blocks that were there, but for those in F, are as they were. -/
structure Fr (w w' : World) (F : Nat → Prop) : Prop where
  os : w'.os = w.os
  tape : w'.tape = w.tape
  output : w'.output = w.output
  size : w.heap.size ≤ w'.heap.size
  block : ∀ b, b < w.heap.size → ¬ F b → w'.heap[b]? = w.heap[b]?
/-- The call made a value that lies in the new blocks F: it reads as R says and can be written as W says. -/
structure NewO (w w' : World) (R W : World → Prop) (F : Nat → Prop) : Prop where
  bl : Below w.heap.size w w'
  ab : ∀ b, F b → w.heap.size ≤ b
  r : R w'
  w : W w'
  or : Loc R F
  ow : Loc W F
/-- A mark wrote the blocks F alone; what is there now reads as M says. -/
structure MarkO (w : World) (F : Nat → Prop) (r : Int) (M : World → Prop) (e : Ending) (w' : World) : Prop where
  ret : e = .returned (.int .i64 r)
  fr : Fr w w' F
  m : M w'
  om : Loc M F

section
variable {w w' w'' : World} {P R W M : World → Prop} {F F' : Nat → Prop}
theorem Loc.below (h : Loc P F) (hp : P w) (hb : Below w.heap.size w w') : P w' := h.1 w w' hp fun b hF => hb.block b (h.2 w b hp hF)
theorem Loc.fr (h : Loc P F) (hp : P w) (hf : Fr w w' F') (hd : ∀ b, F b → ¬ F' b) : P w' := h.1 w w' hp fun b hF => hf.block b (h.2 w b hp hF) (hd b hF)
/-- Made earlier (it lay in the world w0 already), the marked value made later. -/
theorem Loc.kept {w0 : World} {P0 R' W' : World → Prop} {B w1 : World} (h : Loc P F) (hp : P w) (h0 : Loc P0 F) (hp0 : P0 w0) (hn : NewO B w1 R' W' F') (hB : w0.heap.size ≤ B.heap.size) (hf : Fr w w' F') : P w' :=
  h.fr hp hf fun b hb hb' => by
    have := hn.ab b hb'
    have := h0.2 w0 b hp0 hb
    omega
/-- Made later, the marked value made earlier. -/
theorem Loc.later {w0 : World} {P0 R' W' : World → Prop} {B w1 : World} (h : Loc P F) (hp : P w) (hn : NewO B w1 R' W' F) (h0 : Loc P0 F') (hp0 : P0 w0) (hB : w0.heap.size ≤ B.heap.size) (hf : Fr w w' F') : P w' :=
  h.fr hp hf fun b hb hb' => by
    have := hn.ab b hb
    have := h0.2 w0 b hp0 hb'
    omega
theorem Fr.below {B : Nat} (h : Fr w w' F) (hB : B ≤ w.heap.size) (hF : ∀ b, F b → B ≤ b) : Below B w w' :=
  ⟨h.os, h.tape, h.output, h.size, fun k hk => h.block k (by omega) fun hk' => by have := hF k hk'; omega⟩
theorem Fr.refl (w : World) (F : Nat → Prop) : Fr w w F := ⟨rfl, rfl, rfl, Nat.le_refl _, fun _ _ _ => rfl⟩
theorem Fr.trans (h : Fr w w' F) (h' : Fr w' w'' F) : Fr w w'' F :=
  ⟨h'.os.trans h.os, h'.tape.trans h.tape, h'.output.trans h.output, Nat.le_trans h.size h'.size, fun b hb hF => (h'.block b (Nat.lt_of_lt_of_le hb h.size) hF).trans (h.block b hb hF)⟩
theorem Fr.mono (h : Fr w w' F) (hF : ∀ b, F b → F' b) : Fr w w' F' := ⟨h.os, h.tape, h.output, h.size, fun b hb hn => h.block b hb fun hb' => hn (hF b hb')⟩
theorem Fr.of_below (h : Below w.heap.size w w') (F : Nat → Prop) : Fr w w' F := ⟨h.os, h.tape, h.output, h.size, fun b hb _ => h.block b hb⟩
theorem Fr.then_below (h : Fr w w' F) (hb : Below w.heap.size w' w'') : Fr w w'' F :=
  ⟨hb.os.trans h.os, hb.tape.trans h.tape, hb.output.trans h.output, Nat.le_trans h.size hb.size, fun b hlt hF => (hb.block b hlt).trans (h.block b hlt hF)⟩
theorem Fr.set (h : Fr w w' F) {p : Addr} (hp : F p.block) (v : Value) : Fr w (w'.setCell p v) F :=
  ⟨h.os, h.tape, h.output, by simpa [World.setCell] using h.size, fun b hb hn => (Below.heap_setCell w' p v b (fun e => hn (e ▸ hp))).trans (h.block b hb hn)⟩
theorem Fr.of_only {g : Nat} (h : Only w w' g) (hF : F g) : Fr w w' F := ⟨h.os, h.tape, h.output, h.size, fun b hb hn => h.block b hb fun e => by injection e with e; subst e; exact hn hF⟩
theorem Loc.true_ (F : Nat → Prop) (hF : ∀ b, ¬ F b) : Loc (fun _ => True) F := ⟨fun _ _ _ _ => trivial, fun _ b _ h => absurd h (hF b)⟩
theorem Loc.mono (h : Loc P F) (hF : ∀ b, F' b → F b) (h' : ∀ w w', P w → (∀ b, F' b → w'.heap[b]? = w.heap[b]?) → P w') : Loc P F' := ⟨h', fun w b hp hb => h.2 w b hp (hF b hb)⟩
end

/-! ### A flat slice: N cells at A -/
/-- Its block. -/
def Fb (A : Option Addr) (N : Nat) (b : Nat) : Prop := 0 < N ∧ ∃ a, A = some a ∧ a.block = b
section
variable {w w' : World} {A : Option Addr} {N : Nat} {f : Nat → Value}
theorem rd_obj (A : Option Addr) (N : Nat) (f : Nat → Value) : Loc (fun w => Rd w A N f) (Fb A N) := by
  refine ⟨fun w w' h hF hN => ?_, fun w b h ⟨hN, a, e, hb⟩ => ?_⟩
  · obtain ⟨g, o, e, hg, hr⟩ := h hN
    have hblk := hF g ⟨hN, _, e, rfl⟩
    have hr' : RowR w' g o N f := fun j hj => (World.cell?_of_block (w := w) (a := ⟨g, o + j, none⟩) hblk).trans (hr j hj)
    exact ⟨g, o, e, World.block_lt_of_cell? w' _ (hr' 0 hN), hr'⟩
  · obtain ⟨g, o, e', hg, _⟩ := h hN
    rw [e] at e'
    injection e' with e'
    subst e'
    subst hb
    exact hg
theorem wr_obj (A : Option Addr) (N : Nat) : Loc (fun w => Wr w A N) (Fb A N) := by
  refine ⟨fun w w' h hF hN => ?_, fun w b h ⟨hN, a, e, hb⟩ => ?_⟩
  · obtain ⟨g, o, e, hr⟩ := h hN
    have hblk := hF g ⟨hN, _, e, rfl⟩
    refine ⟨g, o, e, fun j hj => ?_⟩
    obtain ⟨⟨u, hu⟩, hf⟩ := hr j hj
    exact ⟨⟨u, (World.cell?_of_block (w := w) (a := ⟨g, o + j, none⟩) hblk).trans hu⟩, (World.frozen?_of_block (w := w) (a := ⟨g, o + j, none⟩) hblk).trans hf⟩
  · obtain ⟨g, o, e', hr⟩ := h hN
    rw [e] at e'
    injection e' with e'
    subst e'
    subst hb
    exact hr.lt hN
theorem New.obj (h : New w w' A N f) : NewO w w' (fun w => Rd w A N f) (fun w => Wr w A N) (Fb A N) :=
  ⟨h.bl, fun _ ⟨_, a, e, hb⟩ => hb ▸ h.ab a e, h.rd, h.wr, rd_obj A N f, wr_obj A N⟩
theorem MarkP.obj {r : Int} {e : Ending} (h : MarkP w A N r f e w') (hw : Wr w A N) : MarkO w (Fb A N) r (fun w => Rd w A N f) e w' := by
  refine ⟨h.1, ?_, h.rd hw, rd_obj A N f⟩
  rcases Nat.eq_zero_or_pos N with h0 | h0
  · rw [h.2.2.1 h0]
    exact Fr.refl _ _
  · obtain ⟨g, o, e, hr⟩ := hw h0
    exact Fr.of_only (h.2.2.2 g o e h0).1 ⟨h0, _, e, rfl⟩
end

/-- What was made inside, behind blocks of the call's own that are written afterwards. -/
theorem New.after {w W w1 w2 : World} {A : Option Addr} {N : Nat} {f : Nat → Value} {F : Nat → Prop} (hn : New W w1 A N f) (h0 : Below w.heap.size w W) (hf : Fr w1 w2 F) (hF : ∀ b, F b → w.heap.size ≤ b ∧ b < W.heap.size) : New w w2 A N f := by
  have hd : ∀ b, Fb A N b → ¬ F b := fun b ⟨_, a, e, hb⟩ hFb => by
    have := hn.ab a e
    have := (hF b hFb).2
    omega
  have hs := h0.size
  have hs1 := hn.bl.size
  refine ⟨(h0.trans (hn.bl.mono hs)).trans (hf.below (by omega) fun b hb => (hF b hb).1), hn.ab.mono hs, fun a e => Nat.lt_of_lt_of_le (hn.bb a e) hf.size, (wr_obj A N).fr hn.wr hf hd, (rd_obj A N f).fr hn.rd hf hd⟩
/-! ### A slice of flat slices -/
def RdSS (S : Nat) (A : Option Addr) (n : Nat) (As : Nat → Option Addr) (ns cs : Nat → Nat) (z : Nat → Nat → Int) (w : World) : Prop :=
  Rd w A n (fun j => .slice (As j) (ns j) (cs j)) ∧ ∀ j, j < n → Rd w (As j) (ns j * S) (fun i => .int .i64 (z j i))
/-- It can be written, and its rows lie apart. -/
def WrSS (S : Nat) (A : Option Addr) (n : Nat) (As : Nat → Option Addr) (ns cs : Nat → Nat) (w : World) : Prop :=
  Rd w A n (fun j => .slice (As j) (ns j) (cs j)) ∧ (∀ j, j < n → Wr w (As j) (ns j * S)) ∧ (∀ j b, j < n → Fb (As j) (ns j * S) b → ¬ Fb A n b) ∧ ∀ i j b, i < j → j < n → Fb (As i) (ns i * S) b → ¬ Fb (As j) (ns j * S) b
def FSS (S : Nat) (A : Option Addr) (n : Nat) (As : Nat → Option Addr) (ns : Nat → Nat) (b : Nat) : Prop := Fb A n b ∨ ∃ j, j < n ∧ Fb (As j) (ns j * S) b
theorem rdSS_obj (S : Nat) (A : Option Addr) (n : Nat) (As : Nat → Option Addr) (ns cs : Nat → Nat) (z : Nat → Nat → Int) : Loc (RdSS S A n As ns cs z) (FSS S A n As ns) := by
  refine ⟨fun w w' h hF => ⟨(rd_obj _ _ _).1 w w' h.1 fun b hb => hF b (.inl hb), fun j hj => (rd_obj _ _ _).1 w w' (h.2 j hj) fun b hb => hF b (.inr ⟨j, hj, hb⟩)⟩, fun w b h hb => ?_⟩
  rcases hb with hb | ⟨j, hj, hb⟩
  · exact (rd_obj _ _ _).2 w b h.1 hb
  · exact (rd_obj _ _ _).2 w b (h.2 j hj) hb
theorem wrSS_obj (S : Nat) (A : Option Addr) (n : Nat) (As : Nat → Option Addr) (ns cs : Nat → Nat) : Loc (WrSS S A n As ns cs) (FSS S A n As ns) := by
  refine ⟨fun w w' h hF => ⟨(rd_obj _ _ _).1 w w' h.1 fun b hb => hF b (.inl hb), fun j hj => (wr_obj _ _).1 w w' (h.2.1 j hj) fun b hb => hF b (.inr ⟨j, hj, hb⟩), h.2.2⟩, fun w b h hb => ?_⟩
  rcases hb with hb | ⟨j, hj, hb⟩
  · exact (rd_obj _ _ _).2 w b h.1 hb
  · exact (wr_obj _ _).2 w b (h.2.1 j hj) hb
/-- How many cells lie ahead of row j. -/
def offS (S : Nat) (ns : Nat → Nat) : Nat → Nat
  | 0 => 0
  | j + 1 => offS S ns j + ns j * S
theorem offS_mono (S : Nat) (ns : Nat → Nat) {i j : Nat} (h : i ≤ j) : offS S ns i ≤ offS S ns j := by
  induction j with
  | zero =>
    obtain rfl : i = 0 := by omega
    exact Nat.le_refl _
  | succ j ih =>
    rcases Nat.lt_or_ge j i with hlt | hge
    · obtain rfl : i = j + 1 := by omega
      exact Nat.le_refl _
    · have := ih hge
      simp only [offS]
      omega

/-- Block g holds the cells cs (a struct that a call keeps in a variable of its own). -/
def BoxAt (g : Nat) (cs : Array Value) (w : World) : Prop := ∀ o, w.cell? ⟨g, o, none⟩ = cs[o]?
theorem box_loc (g : Nat) (cs : Array Value) (h : 0 < cs.size) : Loc (BoxAt g cs) (fun b => b = g) :=
  ⟨fun w w' hp hF o => (World.cell?_of_block (w := w) (a := ⟨g, o, none⟩) (hF g rfl)).trans (hp o), fun w b hp hb => by
    subst hb
    exact World.block_lt_of_cell? w ⟨b, 0, none⟩ ((hp 0).trans (Array.getElem?_eq_getElem h))⟩
theorem box_new (w : World) (cs : Array Value) (t : TypeId) : BoxAt w.heap.size cs (w.alloc (.cells cs t)) := fun _ => cell_of_row _ _ _ _ _ _ (heap_alloc_new w (.cells cs t))
end Go.Proofs.Ytacppheedleamaa
