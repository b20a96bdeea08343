/- Walks: the greatest numbers of loops, by the program. No condition but the bounds. Walks: the greatest numbers of loops over a run, by the program. No condition but the bounds. Walks: both PeakStack and both PeakLoops: the same numbers. No condition but the bounds. -/
import Derived.Test.YtpmfkpehmckgmaaGreatMachZ
namespace Go.Proofs.YtpmfkpehmckgmaaGreat
open Go.RowKit
set_option maxRecDepth 20000

/-- How many loops list t of both beds has. -/
def lenAt (s : Mst) (t : Nat) : Nat := if t < s.W then s.f t else s.k (t - s.W)
def pq (s : Mst) (st : Nat) : Nat → Nat
  | 0 => st
  | t + 1 => max (pq s st t) (lenAt s t)
def sq (s : Mst) : Nat → Nat
  | 0 => 0
  | t + 1 => sq s t + lenAt s t
def fm (s : Mst) (st : Nat) : Nat → Nat
  | 0 => st
  | t + 1 => max (fm s st t) (s.f t)
def km (s : Mst) : Nat → Nat
  | 0 => 0
  | t + 1 => max (km s t) (s.k t)
theorem pq_f (s : Mst) (st i : Nat) (hi : i ≤ s.W) : pq s st i = fm s st i := by
  induction i with
  | zero => rfl
  | succ i ih => simp only [pq, fm]; rw [ih (by omega)]; unfold lenAt; rw [if_pos (by omega)]
theorem pq_k (s : Mst) (st i : Nat) (hi : i ≤ s.W) : pq s st (s.W + i) = max (fm s st s.W) (km s i) := by
  induction i with
  | zero => rw [Nat.add_zero, pq_f s st s.W (Nat.le_refl _)]; simp [km]
  | succ i ih =>
    show max (pq s st (s.W + i)) (lenAt s (s.W + i)) = _
    rw [ih (by omega)]
    unfold lenAt
    rw [if_neg (by omega), show s.W + i - s.W = i by omega]
    simp only [km]
    omega
theorem pkS_eq (s : Mst) (st i : Nat) : pkS s st i = max (fm s st i) (km s i) := by
  induction i with
  | zero => simp [pkS, fm, km]
  | succ i ih => simp only [pkS, fm, km]; omega
theorem pq_all (s : Mst) (st : Nat) : pq s st (s.W + s.W) = pkS s st s.W := by rw [pq_k s st s.W (Nat.le_refl _), pkS_eq]
def fs (s : Mst) : Nat → Nat
  | 0 => 0
  | t + 1 => fs s t + s.f t
def ks (s : Mst) : Nat → Nat
  | 0 => 0
  | t + 1 => ks s t + s.k t
theorem sq_f (s : Mst) (i : Nat) (hi : i ≤ s.W) : sq s i = fs s i := by
  induction i with
  | zero => rfl
  | succ i ih => simp only [sq, fs]; rw [ih (by omega)]; unfold lenAt; rw [if_pos (by omega)]
theorem sq_k (s : Mst) (i : Nat) (hi : i ≤ s.W) : sq s (s.W + i) = fs s s.W + ks s i := by
  induction i with
  | zero => rw [Nat.add_zero, sq_f s s.W (Nat.le_refl _)]; rfl
  | succ i ih =>
    show sq s (s.W + i) + lenAt s (s.W + i) = _
    rw [ih (by omega)]
    unfold lenAt
    rw [if_neg (by omega), show s.W + i - s.W = i by omega]
    simp only [ks]
    omega
theorem pkN_eq (s : Mst) (i : Nat) : pkN s i = fs s i + ks s i := by
  induction i with
  | zero => rfl
  | succ i ih => simp only [pkN, fs, ks]; omega
theorem sq_all (s : Mst) : sq s (s.W + s.W) = pkN s s.W := by rw [sq_k s s.W (Nat.le_refl _), pkN_eq]
theorem lenAt_le {s : Mst} {D : Nat} (hs : MOk s D) {t : Nat} (ht : t < s.W + s.W) : lenAt s t ≤ 4 := by
  unfold lenAt
  split
  · exact hs.fb _ ‹_›
  · exact hs.kb _ (by omega)
theorem pq_le {s : Mst} {D : Nat} (hs : MOk s D) {st : Nat} (h4 : st ≤ 4) (t : Nat) (ht : t ≤ s.W + s.W) : pq s st t ≤ 4 ∧ sq s t ≤ 4 * t := by
  induction t with
  | zero => exact ⟨h4, Nat.zero_le _⟩
  | succ t ih =>
    have h1 := ih (by omega)
    have h2 := lenAt_le hs (t := t) (by omega)
    simp only [pq, sq]
    omega
end Go.Proofs.YtpmfkpehmckgmaaGreat

namespace Go.Proofs.YtpmfkpehmckgmaaGreat
open Go.RowKit
set_option maxRecDepth 20000

def cutF (W : Nat) (F : Nat → Value) (j : Nat) : Value := if j < W then F j else .slice none 0 0
theorem cutF_one {w : World} {W : Nat} {F : Nat → Value} {f : Nat → Nat} (h : ∀ j, j < W → LOwn w (F j) (f j)) (j : Nat) : (cutF W F j).oneCell' = true := by
  unfold cutF
  split
  · obtain ⟨A, c, e⟩ := (h j ‹_›).form
    rw [e]
    rfl
  · rfl
/-- List t of both beds, one after the other. -/
theorem beds_at {w : World} {tg : Nat → Nat} {a : MAdr} {s : Mst} (H : Mem tg a s w) {t : Nat} (ht : t < s.W + s.W) : ∃ A c, ((List.range s.W).map (cutF s.W a.F) ++ (List.range s.W).map (cutF s.W a.K))[t]? = some (.slice A (lenAt s t) c) := by
  unfold lenAt
  by_cases h : t < s.W
  · obtain ⟨A, c, e⟩ := (H.lf t h).form
    refine ⟨A, c, ?_⟩
    rw [if_pos h, List.getElem?_append_left (by simpa using h)]
    simp [h, cutF, e]
  · obtain ⟨A, c, e⟩ := (H.lk (t - s.W) (by omega)).form
    refine ⟨A, c, ?_⟩
    rw [if_neg h, List.getElem?_append_right (by simp; omega)]
    simp [show t - s.W < s.W by omega, cutF, e]
end Go.Proofs.YtpmfkpehmckgmaaGreat

namespace Go.Proofs.YtpmfkpehmckgmaaGreat
open Go.RowKit
set_option maxRecDepth 20000

def okN (W : Int) (z : Nat → Int) (n : Nat) (x : Nat) : Nat := if codeOf W z n = 0 then x else 0
def PkP (w : World) (x : Nat) (c : Int) (e : Ending) (w' : World) : Prop := e = .returned (.tuple #[.int .i64 (x : Nat), .int .i64 c]) ∧ Below w.heap.size w w'
section
variable (W : Int) (A : Option Addr) (n q : Nat) (z : Nat → Int) (w : World)
/-- A code of 0: the program is valid, and all goes well. -/
theorem codeOf_ok {W : Int} {z : Nat → Int} {n : Nat} (h : codeOf W z n = 0) : ∃ W' : Nat, W = W' ∧ 1 ≤ W' ∧ W' ≤ 24 ∧ n ≤ 1500 ∧ (∀ i, i < n → opW W' z i = true) ∧ okTo W' z n := by
  cases hpb : progB W z n
  · rw [codeOf_no hpb] at h
    omega
  · obtain ⟨W', rfl, h1, h2, h3, h4, h5⟩ := prog_parts hpb
    refine ⟨W', rfl, h1, h2, h3, h4, fun i => ?_⟩
    rw [h5] at h
    induction i using Nat.strongRecOn with
    | _ i ih =>
      intro hi
      refine Decidable.byContradiction fun hk => ?_
      exact hk ((runC_stop (fun q hq => ih q hq (by omega)) hi hk).symm.trans h)
end
end Go.Proofs.YtpmfkpehmckgmaaGreat
