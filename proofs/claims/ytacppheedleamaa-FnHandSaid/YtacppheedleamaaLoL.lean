/- Plain: lists of lists of numbers in memory: a slice of slices of its own, whose parts are only read. -/
import Derived.Test.YtacppheedleamaaAppR
import Derived.Test.YtacppheedleamaaAppAt
set_option linter.unusedVariables false
set_option linter.unusedSimpArgs false
namespace Go.Proofs.Ytacppheedleamaa
open Go.RowKit

theorem own_keep {B : Nat} {w w' : World} {e : TypeId} {size n : Nat} {v : Value} {xs : List Value} (ho : w.ownsRow B e size v n xs) (h : ∀ b, v.ownBlock = some b → w'.heap[b]? = w.heap[b]?) : w'.ownsRow B e size v n xs := by
  refine ⟨ho.1, ?_⟩
  rcases ho.2 with hn | ⟨g, cap, cur, rfl, hb, hgg, rest⟩
  · exact .inl hn
  · exact .inr ⟨g, cap, cur, rfl, hb, (h g rfl).trans hgg, rest⟩
/-- It reads as a list of numbers. -/
abbrev RdI (w : World) (A : Option Addr) (L : List Int) : Prop := Rd w A L.length (fun j => .int .i64 (L.getD j 0))
/-- The slice v, of its own behind B, holds slices that read as Ls; none of them lies in v's block. -/
structure LoL (B : Nat) (v : Value) (Ls : List (List Int)) (As : Nat → Option Addr) (cs : Nat → Nat) (w : World) : Prop where
  own : w.ownsRow B 38 1 v Ls.length ((List.range Ls.length).map fun j => .slice (As j) (Ls.getD j []).length (cs j))
  rd : ∀ j, j < Ls.length → RdI w (As j) (Ls.getD j [])
  far : ∀ j, j < Ls.length → ∀ b, Fb (As j) (Ls.getD j []).length b → ¬ v.ownBlock = some b
section
variable {B : Nat} {v : Value} {Ls : List (List Int)} {As : Nat → Option Addr} {cs : Nat → Nat} {w w' : World}
theorem LoL.lt (h : LoL B v Ls As cs w) {j : Nat} (hj : j < Ls.length) {b : Nat} (hb : Fb (As j) (Ls.getD j []).length b) : b < w.heap.size := (rd_obj _ _ _).2 w b (h.rd j hj) hb
theorem LoL.keep (h : LoL B v Ls As cs w) (hk : ∀ b, (v.ownBlock = some b ∨ ∃ j, j < Ls.length ∧ Fb (As j) (Ls.getD j []).length b) → w'.heap[b]? = w.heap[b]?) : LoL B v Ls As cs w' :=
  ⟨own_keep h.own fun b hb => hk b (.inl hb), fun j hj => (rd_obj _ _ _).1 _ _ (h.rd j hj) fun b hb => hk b (.inr ⟨j, hj, hb⟩), h.far⟩
theorem LoL.below (h : LoL B v Ls As cs w) (hb : Below w.heap.size w w') : LoL B v Ls As cs w' := h.keep fun b hx => hb.block b (by
  rcases hx with hx | ⟨j, hj, hx⟩
  · exact (h.own.lt b hx).2
  · exact h.lt hj hx)
theorem LoL.drewN (h : LoL B v Ls As cs w) (k : Nat) : LoL B v Ls As cs (w.drewN k) := h.keep fun _ _ => rfl
theorem LoL.nil {v : Value} (ho : w.ownsRow B 38 1 v 0 []) (As : Nat → Option Addr) (cs : Nat → Nat) : LoL B v [] As cs w := ⟨ho, fun j hj => absurd hj (Nat.not_lt_zero j), fun j hj => absurd hj (Nat.not_lt_zero j)⟩
theorem LoL.form (h : LoL B v Ls As cs w) (hn : 0 < Ls.length) : ∃ g cap, v = .slice (some ⟨g, 0, none⟩) Ls.length cap ∧ g < w.heap.size ∧ B ≤ g := by
  rcases h.own.2 with ⟨_, h0⟩ | ⟨g, cap, _, e, hB, hc, _⟩
  · omega
  · exact ⟨g, cap, e, (Array.getElem?_eq_some_iff.1 hc).1, hB⟩
theorem LoL.cell {g cap : Nat} (h : LoL B (.slice (some ⟨g, 0, none⟩) Ls.length cap) Ls As cs w) {j : Nat} (hj : j < Ls.length) : w.cell? ⟨g, j, none⟩ = some (.slice (As j) (Ls.getD j []).length (cs j)) := by
  rw [h.own.cellAt j (by omega)]
  simp [hj]
theorem LoL.frozen {g cap : Nat} (h : LoL B (.slice (some ⟨g, 0, none⟩) Ls.length cap) Ls As cs w) (j : Nat) : w.frozen? ⟨g, j, none⟩ = false := h.own.frozenAt j
/-- One list more, behind it. -/
theorem LoL.snoc (h : LoL B v Ls As cs w) {A : Option Addr} {L : List Int} {c : Nat} {v' : Value} (hA : RdI w A L) (hv : ∀ b, Fb A L.length b → ¬ v.ownBlock = some b)
    (hown : w'.ownsRow B 38 1 v' (Ls.length + 1) (((List.range Ls.length).map fun j => Value.slice (As j) (Ls.getD j []).length (cs j)) ++ [.slice A L.length c])) (hf : Fr w w' (fun b => v.ownBlock = some b)) (hat : v'.ownBlock = v.ownBlock ∨ v'.ownBlock = some (w.heap.size + 1)) :
    LoL B v' (Ls ++ [L]) (fun j => if j = Ls.length then A else As j) (fun j => if j = Ls.length then c else cs j) w' := by
  have hlt : ∀ b, Fb A L.length b → b < w.heap.size := fun b hb => (rd_obj _ _ _).2 w b hA hb
  have hg : ∀ j, j < Ls.length → (Ls ++ [L]).getD j [] = Ls.getD j [] := fun j hj => by simp only [List.getD]; rw [List.getElem?_append_left hj]
  have hg2 : (Ls ++ [L]).getD Ls.length [] = L := by simp [List.getD]
  have hnv : ∀ b, b < w.heap.size → ¬ v.ownBlock = some b → ¬ v'.ownBlock = some b := fun b h1 h2 h3 => by
    rcases hat with h | h
    · exact h2 (h.symm.trans h3)
    · rw [h] at h3
      injection h3 with h3
      omega
  refine ⟨?_, fun j hj => ?_, fun j hj b hb => ?_⟩
  · have e : (List.range (Ls ++ [L]).length).map (fun j => Value.slice (if j = Ls.length then A else As j) ((Ls ++ [L]).getD j []).length (if j = Ls.length then c else cs j)) = ((List.range Ls.length).map fun j => Value.slice (As j) (Ls.getD j []).length (cs j)) ++ [.slice A L.length c] := by
      rw [List.length_append, List.length_singleton, List.range_succ, List.map_append]
      congr 1
      · exact List.map_congr_left fun j hj => by
          have := List.mem_range.1 hj
          rw [if_neg (by omega), if_neg (by omega), hg j this]
      · simp
    rw [e, List.length_append, List.length_singleton]
    exact hown
  · rw [List.length_append, List.length_singleton] at hj
    by_cases hjn : j = Ls.length
    · subst hjn
      rw [if_pos rfl, hg2]
      exact (rd_obj _ _ _).fr hA hf fun b hb he => hv b hb he
    · rw [if_neg hjn, hg j (by omega)]
      exact (rd_obj _ _ _).fr (h.rd j (by omega)) hf fun b hb he => h.far j (by omega) b hb he
  · rw [List.length_append, List.length_singleton] at hj
    by_cases hjn : j = Ls.length
    · subst hjn
      rw [if_pos rfl, hg2] at hb
      exact hnv b (hlt b hb) (hv b hb)
    · rw [if_neg hjn, hg j (by omega)] at hb
      exact hnv b (h.lt (by omega) hb) (h.far j (by omega) b hb)
/-- Another list at a place. -/
theorem LoL.put {g cap : Nat} (h : LoL B (.slice (some ⟨g, 0, none⟩) Ls.length cap) Ls As cs w) {i : Nat} (hi : i < Ls.length) {A : Option Addr} {L : List Int} {c : Nat} (hA : RdI w A L) (hv : ∀ b, Fb A L.length b → b ≠ g) :
    LoL B (.slice (some ⟨g, 0, none⟩) Ls.length cap) (Ls.set i L) (fun j => if j = i then A else As j) (fun j => if j = i then c else cs j) (w.setCell ⟨g, i, none⟩ (.slice A L.length c)) := by
  have hg : ∀ j, j ≠ i → (Ls.set i L).getD j [] = Ls.getD j [] := fun j hj => by simp [List.getD, List.getElem?_set, Ne.symm hj]
  have hg2 : (Ls.set i L).getD i [] = L := by simp [List.getD, hi]
  have hst := (h.own.stored i (.slice A L.length c)).1
  have hk : ∀ b, b ≠ g → (w.setCell ⟨g, i, none⟩ (.slice A L.length c)).heap[b]? = w.heap[b]? := fun b hb => Below.heap_setCell w _ _ b hb
  refine ⟨?_, fun j hj => ?_, fun j hj b hb => ?_⟩
  · rw [List.length_set]
    have e : (List.range Ls.length).map (fun j => Value.slice (if j = i then A else As j) ((Ls.set i L).getD j []).length (if j = i then c else cs j)) = ((List.range Ls.length).map fun j => Value.slice (As j) (Ls.getD j []).length (cs j)).set i (.slice A L.length c) := by
      apply List.ext_getElem?
      intro j
      rw [List.getElem?_set]
      by_cases hij : i = j
      · subst hij
        simp [hi]
      · have hji : ¬ j = i := fun e => hij e.symm
        rw [if_neg hij]
        by_cases hj : j < Ls.length
        · simp [hj, hji, List.getElem?_set, hij]
        · simp [hj]
    rw [e]
    exact hst
  · rw [List.length_set] at hj
    by_cases hji : j = i
    · subst hji
      rw [if_pos rfl, hg2]
      exact (rd_obj _ _ _).1 _ _ hA fun b hb => hk b (hv b hb)
    · rw [if_neg hji, hg j hji]
      exact (rd_obj _ _ _).1 _ _ (h.rd j hj) fun b hb => hk b fun e => h.far j hj b hb (by rw [e]; rfl)
  · rw [List.length_set] at hj
    by_cases hji : j = i
    · subst hji
      rw [if_pos rfl, hg2] at hb
      exact fun e => hv b hb (by injection e with e; exact e.symm)
    · rw [if_neg hji, hg j hji] at hb
      exact h.far j hj b hb
end
end Go.Proofs.Ytacppheedleamaa
