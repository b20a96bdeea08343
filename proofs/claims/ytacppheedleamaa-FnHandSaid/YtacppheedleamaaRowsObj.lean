/- Plain lemmas: a slice of rows of stitches (two numbers and a slice of numbers each) as a value in memory. -/
import Derived.Test.YtacppheedleamaaObj2
namespace Go.Proofs.Ytacppheedleamaa
open Go.RowKit

/-- The cells of a slice of rows. -/
def rowF (d c : Nat → Int) (As : Nat → Option Addr) (ns cs : Nat → Nat) (q : Nat) : Value :=
  if q % 3 = 0 then .int .i64 (d (q / 3)) else if q % 3 = 1 then .int .i64 (c (q / 3)) else .slice (As (q / 3)) (ns (q / 3)) (cs (q / 3))
theorem rowF_0 (d c : Nat → Int) (As : Nat → Option Addr) (ns cs : Nat → Nat) (k : Nat) : rowF d c As ns cs (k * 3) = .int .i64 (d k) := by
  unfold rowF; rw [if_pos (by omega), show k * 3 / 3 = k by omega]
theorem rowF_1 (d c : Nat → Int) (As : Nat → Option Addr) (ns cs : Nat → Nat) (k : Nat) : rowF d c As ns cs (k * 3 + 1) = .int .i64 (c k) := by
  unfold rowF; rw [if_neg (by omega), if_pos (by omega), show (k * 3 + 1) / 3 = k by omega]
theorem rowF_2 (d c : Nat → Int) (As : Nat → Option Addr) (ns cs : Nat → Nat) (k : Nat) : rowF d c As ns cs (k * 3 + 2) = .slice (As k) (ns k) (cs k) := by
  unfold rowF; rw [if_neg (by omega), if_neg (by omega), show (k * 3 + 2) / 3 = k by omega]
/-- It reads as rows: their directions, carriers and stitches. -/
def RdRows (A : Option Addr) (n : Nat) (d c : Nat → Int) (As : Nat → Option Addr) (ns cs : Nat → Nat) (z : Nat → Nat → Int) (w : World) : Prop :=
  Rd w A (n * 3) (rowF d c As ns cs) ∧ ∀ j, j < n → Rd w (As j) (ns j) (fun i => .int .i64 (z j i))
/-- It can be written, and its rows lie apart. -/
def WrRows (A : Option Addr) (n : Nat) (As : Nat → Option Addr) (ns cs : Nat → Nat) (w : World) : Prop :=
  Wr w A (n * 3) ∧ (∀ j, j < n → ∃ g o, A = some ⟨g, o, none⟩ ∧ w.cell? ⟨g, o + (j * 3 + 2), none⟩ = some (.slice (As j) (ns j) (cs j))) ∧ (∀ j, j < n → Wr w (As j) (ns j)) ∧ (∀ j b, j < n → Fb (As j) (ns j) b → ¬ Fb A (n * 3) b) ∧ ∀ i j b, i < j → j < n → Fb (As i) (ns i) b → ¬ Fb (As j) (ns j) b
def FRows (A : Option Addr) (n : Nat) (As : Nat → Option Addr) (ns : Nat → Nat) (b : Nat) : Prop := Fb A (n * 3) b ∨ ∃ j, j < n ∧ Fb (As j) (ns j) b
theorem rdRows_obj (A : Option Addr) (n : Nat) (d c : Nat → Int) (As : Nat → Option Addr) (ns cs : Nat → Nat) (z : Nat → Nat → Int) : Loc (RdRows A n d c As ns cs z) (FRows A n As ns) := by
  refine ⟨fun w w' h hF => ⟨(rd_obj _ _ _).1 w w' h.1 fun b hb => hF b (.inl hb), fun j hj => (rd_obj _ _ _).1 w w' (h.2 j hj) fun b hb => hF b (.inr ⟨j, hj, hb⟩)⟩, fun w b h hb => ?_⟩
  rcases hb with hb | ⟨j, hj, hb⟩
  · exact (rd_obj _ _ _).2 w b h.1 hb
  · exact (rd_obj _ _ _).2 w b (h.2 j hj) hb
theorem wrRows_obj (A : Option Addr) (n : Nat) (As : Nat → Option Addr) (ns cs : Nat → Nat) : Loc (WrRows A n As ns cs) (FRows A n As ns) := by
  refine ⟨fun w w' h hF => ⟨(wr_obj _ _).1 w w' h.1 fun b hb => hF b (.inl hb), fun j hj => ?_, fun j hj => (wr_obj _ _).1 w w' (h.2.2.1 j hj) fun b hb => hF b (.inr ⟨j, hj, hb⟩), h.2.2.2.1, h.2.2.2.2⟩, fun w b h hb => ?_⟩
  · obtain ⟨g, o, e, hc⟩ := h.2.1 j hj
    exact ⟨g, o, e, (World.cell?_of_block (w := w) (a := ⟨g, o + (j * 3 + 2), none⟩) (hF g (.inl ⟨by omega, _, e, rfl⟩))).trans hc⟩
  · rcases hb with hb | ⟨j, hj, hb⟩
    · exact (wr_obj _ _).2 w b h.1 hb
    · exact (wr_obj _ _).2 w b (h.2.2.1 j hj) hb
/-- Row k, as the walks read it. -/
theorem RdRows.row {A : Option Addr} {n : Nat} {d c : Nat → Int} {As : Nat → Option Addr} {ns cs : Nat → Nat} {z : Nat → Nat → Int} {w : World} (h : RdRows A n d c As ns cs z w) {k : Nat} (hk : k < n) :
    ∃ g o, A = some ⟨g, o, none⟩ ∧ g < w.heap.size ∧ w.cell? ⟨g, o + k * 3, none⟩ = some (.int .i64 (d k)) ∧ w.cell? ⟨g, o + k * 3 + 1, none⟩ = some (.int .i64 (c k)) ∧ w.cell? ⟨g, o + k * 3 + 2, none⟩ = some (.slice (As k) (ns k) (cs k)) := by
  obtain ⟨g, o, e, hg, hr⟩ := h.1 (by omega)
  refine ⟨g, o, e, hg, ?_, ?_, ?_⟩
  · exact (hr (k * 3) (by omega)).trans (by rw [rowF_0])
  · rw [Nat.add_assoc]; exact (hr (k * 3 + 1) (by omega)).trans (by rw [rowF_1])
  · rw [Nat.add_assoc]; exact (hr (k * 3 + 2) (by omega)).trans (by rw [rowF_2])

def updA {α : Type} (f : Nat → α) (k : Nat) (x : α) (j : Nat) : α := if j = k then x else f j
theorem updA_at {α : Type} (f : Nat → α) (k : Nat) (x : α) : updA f k x k = x := if_pos rfl
theorem updA_ne {α : Type} (f : Nat → α) {k j : Nat} (x : α) (h : j ≠ k) : updA f k x j = f j := if_neg h
/-- Rows that a call copies into block G, one after the other. -/
structure AccRows (G n k : Nat) (d c : Nat → Int) (As : Nat → Option Addr) (ns cs : Nat → Nat) (z : Nat → Nat → Int) (w : World) : Prop where
  lt : G < w.heap.size
  rw_ : RowW w G 0 (n * 3)
  rr : RowR w G 0 (k * 3) (rowF d c As ns cs)
  rd : ∀ j, j < k → Rd w (As j) (ns j) (fun i => .int .i64 (z j i))
  wr : ∀ j, j < k → Wr w (As j) (ns j)
  ab : ∀ j b, j < k → Fb (As j) (ns j) b → G < b
  dis : ∀ i j b, i < j → j < k → Fb (As i) (ns i) b → ¬ Fb (As j) (ns j) b
theorem RowR.congrR {w : World} {g o N : Nat} {f f' : Nat → Value} (hr : RowR w g o N f) (h : ∀ j, j < N → f j = f' j) : RowR w g o N f' := fun j hj => (hr j hj).trans (by rw [h j hj])
theorem rowF_congr {d c : Nat → Int} {As As' : Nat → Option Addr} {ns cs cs' : Nat → Nat} {q k : Nat} (hq : q < k * 3) (h : ∀ j, j < k → As j = As' j ∧ cs j = cs' j) : rowF d c As ns cs q = rowF d c As' ns cs' q := by
  unfold rowF
  have := h (q / 3) (by omega)
  rw [this.1, this.2]
theorem AccRows.next {G n k : Nat} {d c : Nat → Int} {As : Nat → Option Addr} {ns cs : Nat → Nat} {z : Nat → Nat → Int} {w w1 : World} (h : AccRows G n k d c As ns cs z w) (hk : k < n) {A1 : Option Addr} {c1 : Nat} (hn : New w w1 A1 (ns k) (fun i => .int .i64 (z k i))) :
    AccRows G n (k + 1) d c (updA As k A1) ns (updA cs k c1) z (((w1.setCell ⟨G, k * 3, none⟩ (.int .i64 (d k))).setCell ⟨G, k * 3 + 1, none⟩ (.int .i64 (c k))).setCell ⟨G, k * 3 + 2, none⟩ (.slice A1 (ns k) c1)) := by
  have hs := hn.bl.size
  have hrw := h.rw_.below hn.bl
  have hrr := h.rr.below h.lt hn.bl
  have hne : ∀ j b, j < k → Fb (As j) (ns j) b → b ≠ G := fun j b hj hb e => by have := h.ab j b hj hb; omega
  have hA1 : ∀ b, Fb A1 (ns k) b → w.heap.size ≤ b := fun b ⟨_, a, e, hb⟩ => hb ▸ hn.ab a e
  have hblk : ∀ b, b ≠ G → (((w1.setCell ⟨G, k * 3, none⟩ (.int .i64 (d k))).setCell ⟨G, k * 3 + 1, none⟩ (.int .i64 (c k))).setCell ⟨G, k * 3 + 2, none⟩ (.slice A1 (ns k) c1)).heap[b]? = w1.heap[b]? := fun b hb =>
    (Below.heap_setCell _ _ _ b hb).trans ((Below.heap_setCell _ _ _ b hb).trans (Below.heap_setCell _ _ _ b hb))
  have hr3 := ((hrr.congrR (f' := rowF d c (updA As k A1) ns (updA cs k c1)) fun q hq => rowF_congr (k := k) hq fun j hj => ⟨(updA_ne _ _ (by omega)).symm, (updA_ne _ _ (by omega)).symm⟩).step (a := k * 3) (u := .int .i64 (d k)) hrw (by omega) (by omega) (by rw [rowF_0])).step (a := k * 3 + 1) (u := .int .i64 (c k)) (hrw.set _ _) (by omega) (by omega) (by rw [rowF_1])
  have hr4 := hr3.step (a := k * 3 + 2) (u := .slice A1 (ns k) c1) ((hrw.set _ _).set _ _) (by omega) (by omega) (by rw [rowF_2, updA_at, updA_at])
  refine ⟨by simp [World.setCell]; have := h.lt; omega, ((hrw.set _ _).set _ _).set _ _, RowR.cast (by omega) hr4, fun j hj => ?_, fun j hj => ?_, fun j b hj hb => ?_, fun i j b hij hj hb hb' => ?_⟩
  · by_cases hjk : j = k
    · subst hjk
      rw [updA_at]
      exact (rd_obj _ _ _).1 w1 _ hn.rd fun b hb => hblk b (by have := hA1 b hb; have := h.lt; omega)
    · rw [updA_ne _ _ hjk]
      exact (rd_obj _ _ _).1 w1 _ ((h.rd j (by omega)).below hn.bl) fun b hb => hblk b (hne j b (by omega) hb)
  · by_cases hjk : j = k
    · subst hjk
      rw [updA_at]
      exact (wr_obj _ _).1 w1 _ hn.wr fun b hb => hblk b (by have := hA1 b hb; have := h.lt; omega)
    · rw [updA_ne _ _ hjk]
      exact (wr_obj _ _).1 w1 _ ((h.wr j (by omega)).below hn.bl) fun b hb => hblk b (hne j b (by omega) hb)
  · by_cases hjk : j = k
    · subst hjk
      rw [updA_at] at hb
      have := hA1 b hb
      have := h.lt
      omega
    · rw [updA_ne _ _ hjk] at hb
      exact h.ab j b (by omega) hb
  · rw [updA_ne _ _ (show i ≠ k by omega)] at hb
    by_cases hjk : j = k
    · subst hjk
      rw [updA_at] at hb'
      have := hA1 b hb'
      have := (rd_obj _ _ _).2 w b (h.rd i (by omega)) hb
      omega
    · rw [updA_ne _ _ hjk] at hb'
      exact h.dis i j b hij (by omega) hb hb'
theorem AccRows.new {n : Nat} {d c : Nat → Int} {As : Nat → Option Addr} {ns cs : Nat → Nat} {z : Nat → Nat → Int} {w w' : World} (h : AccRows w.heap.size n n d c As ns cs z w') (hb : Below w.heap.size w w') :
    NewO w w' (RdRows (some ⟨w.heap.size, 0, none⟩) n d c As ns cs z) (WrRows (some ⟨w.heap.size, 0, none⟩) n As ns cs) (FRows (some ⟨w.heap.size, 0, none⟩) n As ns) := by
  refine ⟨hb, fun b hF => ?_, ⟨fun _ => ⟨_, 0, rfl, h.lt, h.rr⟩, h.rd⟩, ⟨fun _ => ⟨_, 0, rfl, h.rw_⟩, fun j hj => ⟨_, 0, rfl, (h.rr (j * 3 + 2) (by omega)).trans (by rw [rowF_2])⟩, h.wr, fun j b hj hb' ⟨_, a, e, hb2⟩ => ?_, h.dis⟩, rdRows_obj _ _ _ _ _ _ _ _, wrRows_obj _ _ _ _ _⟩
  · rcases hF with ⟨_, a, e, hb'⟩ | ⟨j, hj, hb'⟩
    · injection e with e; subst e; simp at hb'; omega
    · have := h.ab j b hj hb'; omega
  · injection e with e
    subst e
    have := h.ab j b hj hb'
    simp at hb2
    omega
end Go.Proofs.Ytacppheedleamaa
