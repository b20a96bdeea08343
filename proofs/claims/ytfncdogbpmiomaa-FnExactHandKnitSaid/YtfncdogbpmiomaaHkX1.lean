/- Plain: what a hand knitter does in a row: the events, and for each stitch the sizes of its columns. Plain lemmas: a row that is knitted by hand, in memory: a block with the slice of events and the slice of the stitches' columns. Walks: what the reference's hand knitter computes with: sums, the strands ahead of a stitch, the sign of a crossing, the order of a row, its sources, the letters of a crossing. No condition but the bounds. Walks: the reference's hand knitter adds an event. No condition but the bounds. Walks: the reference's hand knitter knits the columns of a stitch. No condition but the bounds. Walks: the letters of a crossing, by the reference. No condition but the bounds. Walks: numbers from one on, and the order of a row, by the reference. No condition but the bounds. Walks: the reference's hand knitter makes a stitch: those that are knitted, a slipped one, a new one. No condition but the bounds. Walks: the reference's hand knitter makes a stitch of two columns. No condition but the bounds. Walks: the reference's hand knitter makes a tuck. No condition but the bounds. Walks: the reference's hand knitter makes a stitch of any kind. No condition but the bounds. Walks: the reference's hand knitter makes a crossing. No condition but the bounds. Walks: a list of numbers is copied, by the reference: the contents. No condition but the bounds. Walks: the columns that each stitch of a row takes, by the reference. No condition but the bounds. Plain law: 'append(out, x...)' at a step of a region that draws its order. Walks: the reference's hand knitter makes a crossing of two columns No condition but the bounds. Walks: the reference's hand knitter makes a crossing of four columns No condition but the bounds. Plain: bounds for a row that is knitted by hand; a crossing of any kind. Walks: the reference's hand knitter makes a row. No condition but the bounds. -/
import Derived.Test.YtfncdogbpmiomaaChartF
import Derived.Test.YtfncdogbpmiomaaAppAt
import Derived.Test.YtfncdogbpmiomaaAppend
import Derived.Test.YtfncdogbpmiomaaRowsObj
import Derived.Test.YtfncdogbpmiomaaStepApp
import Derived.Test.YtfncdogbpmiomaaRegLast
import Derived.Test.YtfncdogbpmiomaaCastOn
import Derived.Test.YtfncdogbpmiomaaChartG
import Derived.Test.YtfncdogbpmiomaaAppR
import Derived.Maps.AppendAt
namespace Go.Proofs.Ytfncdogbpmiomaa
open Go.RowKit

def sumI : List Int → Int
  | [] => 0
  | x :: l => x + sumI l
theorem sumI_app (a b : List Int) : sumI (a ++ b) = sumI a + sumI b := by
  induction a with
  | nil => simp [sumI]
  | cons x a ih => simp [sumI, ih]; omega
theorem sumI_rep (n : Nat) : sumI (List.replicate n 1) = n := by
  induction n with
  | zero => rfl
  | succ n ih => simp only [List.replicate_succ, sumI, ih]; omega
theorem sumI_bounds {l : List Int} {b : Int} (h : ∀ x ∈ l, 0 ≤ x ∧ x ≤ b) : 0 ≤ sumI l ∧ sumI l ≤ b * l.length := by
  induction l with
  | nil => simp [sumI]
  | cons x l ih =>
    have h1 := ih fun y hy => h y (List.mem_cons_of_mem _ hy)
    have h2 := h x List.mem_cons_self
    simp only [sumI, List.length_cons]
    rw [show b * ((l.length + 1 : Nat) : Int) = b * l.length + b by rw [Int.natCast_add, Int.mul_add]; simp]
    omega
/-- The sizes of the first i stitches' columns together. -/
def befI (C : Nat → List Int) : Nat → Int
  | 0 => 0
  | i + 1 => befI C i + sumI (C i)
theorem befI_congr {C D : Nat → List Int} {i : Nat} (h : ∀ j, j < i → C j = D j) : befI C i = befI D i := by
  induction i with
  | zero => rfl
  | succ i ih => simp only [befI]; rw [ih fun j hj => h j (by omega), h i (by omega)]
theorem befI_set {C D : Nat → List Int} {q k : Nat} (hk : k < q) (h : ∀ j, j < q → j ≠ k → D j = C j) : befI D q = befI C q + sumI (D k) - sumI (C k) := by
  induction q with
  | zero => omega
  | succ q ih =>
    simp only [befI]
    by_cases hkq : k = q
    · subst hkq
      rw [befI_congr (C := D) (D := C) fun j hj => h j (by omega) (by omega)]
      omega
    · rw [ih (by omega) fun j hj hn => h j (by omega) hn, h q (by omega) (by omega)]
      omega
theorem befI_bounds {C : Nat → List Int} {q : Nat} {b : Int} (h : ∀ i, i < q → 0 ≤ sumI (C i) ∧ sumI (C i) ≤ b) : 0 ≤ befI C q ∧ befI C q ≤ b * q := by
  induction q with
  | zero => simp [befI]
  | succ q ih =>
    have h1 := ih fun i hi => h i (by omega)
    have h2 := h q (by omega)
    simp only [befI]
    rw [show b * ((q + 1 : Nat) : Int) = b * q + b by rw [Int.natCast_add, Int.mul_add]; simp]
    omega
/-- All columns, one stitch after the other. -/
def catC (C : Nat → List Int) : Nat → List Int
  | 0 => []
  | i + 1 => catC C i ++ C i
theorem sum_catC (C : Nat → List Int) (i : Nat) : sumI (catC C i) = befI C i := by
  induction i with
  | zero => rfl
  | succ i ih => simp only [catC, befI, sumI_app, ih]
theorem catC_congr {C D : Nat → List Int} {i : Nat} (h : ∀ j, j < i → C j = D j) : catC C i = catC D i := by
  induction i with
  | zero => rfl
  | succ i ih => simp only [catC]; rw [ih fun j hj => h j (by omega), h i (by omega)]

/-- An event's six numbers. -/
def evL (k p n b c d : Int) : List Int := [k, p, n, b, c, d]
/-- The places of a crossing of a block of a strands at place p with the block behind it: round t, the first rounds. -/
def plK (p : Int) (t : Nat) : Nat → List Int
  | 0 => []
  | a + 1 => (p + t + a) :: plK p t a
def plE (p : Int) (a : Nat) : Nat → List Int
  | 0 => []
  | t + 1 => plE p a t ++ plK p t a
theorem plK_length (p : Int) (t a : Nat) : (plK p t a).length = a := by
  induction a with
  | zero => rfl
  | succ a ih => simp [plK, ih]
theorem plE_length (p : Int) (a t : Nat) : (plE p a t).length = t * a := by
  induction t with
  | zero => simp [plE]
  | succ t ih => simp [plE, ih, plK_length, Nat.succ_mul]
theorem plK_bounds {p : Int} {t a : Nat} : ∀ x ∈ plK p t a, p ≤ x ∧ x < p + t + a := by
  induction a with
  | zero => intro x hx; cases hx
  | succ a ih =>
    intro x hx
    rcases List.mem_cons.1 hx with rfl | hx
    · omega
    · have := ih x hx
      omega
theorem plE_bounds {p : Int} {a t : Nat} : ∀ x ∈ plE p a t, p ≤ x ∧ x < p + t + a := by
  induction t with
  | zero => intro x hx; cases hx
  | succ t ih =>
    intro x hx
    rcases List.mem_append.1 hx with hx | hx
    · have := ih x hx
      omega
    · have := plK_bounds x hx
      omega
/-- The letters at places, and the events. -/
def letL (s : Int) (l : List Int) : List Int := l.map fun x => s * (x + 1)
def crossL (s : Int) : List Int → List Int
  | [] => []
  | x :: l => evL 1 x s 0 0 0 ++ crossL s l
theorem crossL_app (s : Int) (l m : List Int) : crossL s (l ++ m) = crossL s l ++ crossL s m := by
  induction l with
  | nil => rfl
  | cons x l ih => simp [crossL, ih]
theorem crossL_length (s : Int) (l : List Int) : (crossL s l).length = 6 * l.length := by
  induction l with
  | nil => rfl
  | cons x l ih => simp [crossL, evL, ih]; omega
def signI (k : Int) : Int := if k = 8 ∨ k = 10 then 1 else if k = 9 ∨ k = 11 ∨ k = 5 then -1 else 0
theorem signI_cases (k : Int) : signI k = 0 ∨ signI k = 1 ∨ signI k = -1 := by
  unfold signI
  split
  · exact .inr (.inl rfl)
  · split
    · exact .inr (.inr rfl)
    · exact .inl rfl
/-- The columns of a stitch of kind k behind its crossing, and the crossing's events, the stitch at place p. -/
def crs (k : Int) (L : List Int) : List Int := if signI k = 0 then L else L.drop (L.length / 2) ++ L.take (L.length / 2)
def crsE (p k : Int) (L : List Int) : List Int := if signI k = 0 then [] else crossL (signI k) (plE p (sumI (L.take (L.length / 2))).toNat (sumI (L.drop (L.length / 2))).toNat)
theorem crs_length (k : Int) (L : List Int) : (crs k L).length = L.length := by
  unfold crs
  split
  · rfl
  · simp; omega
theorem crs_sum (k : Int) (L : List Int) : sumI (crs k L) = sumI L := by
  unfold crs
  split
  · rfl
  · rw [sumI_app]
    conv => rhs; rw [← List.take_append_drop (L.length / 2) L, sumI_app]
    omega
theorem crs_mem {k : Int} {L : List Int} {x : Int} (h : x ∈ crs k L) : x ∈ L := by
  unfold crs at h
  split at h
  · exact h
  · rcases List.mem_append.1 h with h | h
    · exact List.mem_of_mem_drop h
    · exact List.mem_of_mem_take h
/-- The first t columns of a stitch at place p are knitted: the events, the columns. -/
def knN (d : Int) (n t : Nat) : Nat := if d = -1 then n - 1 - t else t
def knS (p bed c d : Int) (L : List Int) : Nat → List Int × List Int
  | 0 => ([], L)
  | t + 1 => ((knS p bed c d L t).1 ++ evL 2 (p + sumI ((knS p bed c d L t).2.take (knN d L.length t))) ((knS p bed c d L t).2.getD (knN d L.length t) 0) bed c d,
      (knS p bed c d L t).2.set (knN d L.length t) 1)
theorem knS_length (p bed c d : Int) (L : List Int) (t : Nat) : (knS p bed c d L t).2.length = L.length ∧ (knS p bed c d L t).1.length = 6 * t := by
  induction t with
  | zero => exact ⟨rfl, rfl⟩
  | succ t ih =>
    refine ⟨?_, ?_⟩
    · simp [knS, ih.1]
    · simp [knS, evL, ih.2]; omega
theorem knS_get (p bed c d : Int) (L : List Int) {t : Nat} (ht : t ≤ L.length) (j : Nat) (hj : j < t) : (knS p bed c d L t).2[knN d L.length j]? = some 1 := by
  induction t with
  | zero => omega
  | succ t ih =>
    have hl := (knS_length p bed c d L t).1
    have hn : knN d L.length j < L.length := by unfold knN; split <;> omega
    simp only [knS, List.getElem?_set]
    by_cases h : knN d L.length t = knN d L.length j
    · rw [if_pos h, if_pos (by omega)]
    · rw [if_neg h]
      have hjt : j ≠ t := fun e => h (by rw [e])
      exact ih (by omega) (by omega)
theorem knS_all (p bed c d : Int) (L : List Int) : (knS p bed c d L L.length).2 = List.replicate L.length 1 := by
  apply List.ext_getElem?
  intro i
  by_cases hi : i < L.length
  · have h := knS_get p bed c d L (Nat.le_refl _) (knN d L.length i) (by unfold knN; split <;> omega)
    have h2 : knN d L.length (knN d L.length i) = i := by unfold knN; split <;> omega
    rw [h2] at h
    rw [h]
    simp [hi]
  · rw [List.getElem?_eq_none (by rw [(knS_length p bed c d L _).1]; omega), List.getElem?_eq_none (by simp; omega)]
theorem knS_mem {p bed c d : Int} {L : List Int} {b : Int} (hb : 1 ≤ b) (h : ∀ x ∈ L, 0 ≤ x ∧ x ≤ b) (t : Nat) : ∀ x ∈ (knS p bed c d L t).2, 0 ≤ x ∧ x ≤ b := by
  induction t with
  | zero => exact h
  | succ t ih =>
    intro x hx
    rcases List.mem_or_eq_of_mem_set hx with hx | rfl
    · exact ih x hx
    · omega
/-- The columns of a stitch of kind k when it is made, and its events. -/
def finL (k : Int) (L : List Int) : List Int := if k = 3 ∨ k = 4 ∨ k = 5 then [1] else if k = 6 then L.set 0 (L.getD 0 0 + 1) else if k = 7 then L else List.replicate L.length 1
def stE (p c d k : Int) (L : List Int) : List Int :=
  if k = 3 then evL 3 p 0 1 c d else if k = 6 then evL 3 (p + L.getD 0 0) 0 1 c d else if k = 7 then [] else if k = 4 ∨ k = 5 then evL 2 p (sumI L) 1 c d
  else (knS p (if k = 2 then 2 else 1) c d L L.length).1
theorem finL_made {k : Int} {L : List Int} (hk : 1 ≤ k ∧ k ≤ 11) (hl : L.length = tkN k) : finL k L = madeL k (L.getD 0 0) := by
  rcases kinds_11 hk with rfl | rfl | rfl | rfl | rfl | rfl | rfl | rfl | rfl | rfl | rfl
  all_goals first
    | (simp only [finL, madeL, hl]; rfl)
    | (match L, hl with
       | [x], _ => rfl)
theorem stE_length {p c d k : Int} {L : List Int} : (stE p c d k L).length ≤ 6 * (L.length + 1) ∧ (stE p c d k L).length % 6 = 0 := by
  unfold stE
  repeat' split
  all_goals first
    | (simp [evL]; omega)
    | (rw [(knS_length _ _ _ _ _ _).2]; omega)
    | simp [evL]

section
variable (s z : Nat → Int)
/-- The columns that stitch i takes. -/
def seg (i : Nat) : List Int := (List.range (tkN (z i))).map fun t => s (segT z i + t)
theorem seg_length (i : Nat) : (seg s z i).length = tkN (z i) := by simp [seg]
def cel0 (i : Nat) : List Int := crs (z i) (seg s z i)
/-- The crossings of the first i stitches. -/
def bgE : Nat → List Int
  | 0 => []
  | i + 1 => bgE i ++ crsE (befI (seg s z) i) (z i) (seg s z i)
/-- Stitch i has been made at time t. -/
def doneB (d : Int) (m t i : Nat) : Bool := if d = -1 then decide (m ≤ i + t) else decide (i < t)
/-- The columns of stitch i at time t. -/
def celT (d : Int) (m t i : Nat) : List Int := if doneB d m t i = true then finL (z i) (cel0 s z i) else cel0 s z i
/-- The events of a row up to time t. -/
def rowE (c d : Int) (m : Nat) : Nat → List Int
  | 0 => bgE s z m
  | t + 1 => rowE c d m t ++ stE (befI (celT s z d m t) (ordN d m t)) c d (z (ordN d m t)) (cel0 s z (ordN d m t))
end
section
variable {s z : Nat → Int} {d : Int} {m t : Nat}
theorem cel0_sum (i : Nat) : sumI (cel0 s z i) = sumI (seg s z i) := crs_sum _ _
theorem cel0_length (i : Nat) : (cel0 s z i).length = tkN (z i) := by rw [cel0, crs_length, seg_length]
theorem befI_cel0 (i : Nat) : befI (cel0 s z) i = befI (seg s z) i := by
  induction i with
  | zero => rfl
  | succ i ih => simp only [befI, ih, cel0_sum]
theorem celT_zero (i : Nat) (hi : i < m) : celT s z d m 0 i = cel0 s z i := by
  unfold celT doneB
  rw [if_neg]
  split <;> simp <;> omega
theorem celT_at (ht : t < m) : celT s z d m t (ordN d m t) = cel0 s z (ordN d m t) := by
  unfold celT doneB ordN
  rw [if_neg]
  split <;> simp <;> omega
theorem celT_next (ht : t < m) (i : Nat) (hi : i < m) : celT s z d m (t + 1) i = if i = ordN d m t then finL (z i) (cel0 s z i) else celT s z d m t i := by
  by_cases h : i = ordN d m t
  · rw [if_pos h]
    unfold celT doneB
    rw [if_pos]
    unfold ordN at h
    split
    · rename_i hd
      rw [if_pos hd] at h
      simp
      omega
    · rename_i hd
      rw [if_neg hd] at h
      simp
      omega
  · rw [if_neg h]
    unfold celT
    have : doneB d m (t + 1) i = doneB d m t i := by
      unfold doneB ordN at *
      split
      · rename_i hd
        rw [if_pos hd] at h
        by_cases h1 : m ≤ i + t
        · rw [decide_eq_true h1, decide_eq_true (by omega)]
        · rw [decide_eq_false h1, decide_eq_false (by omega)]
      · rename_i hd
        rw [if_neg hd] at h
        by_cases h1 : i < t
        · rw [decide_eq_true h1, decide_eq_true (by omega)]
        · rw [decide_eq_false h1, decide_eq_false (by omega)]
    rw [this]
theorem celT_last (i : Nat) (hi : i < m) : celT s z d m m i = finL (z i) (cel0 s z i) := by
  unfold celT doneB
  rw [if_pos]
  split <;> simp <;> omega
theorem seg_sum (i : Nat) : sumI (seg s z i) = sumR s (segT z i) (tkN (z i)) := by
  unfold seg
  generalize tkN (z i) = n
  induction n with
  | zero => rfl
  | succ n ih => rw [List.range_succ, List.map_append, sumI_app, ih]; simp [sumI, sumR]
theorem befI_seg (i : Nat) : befI (seg s z) i = sumR s 0 (segT z i) := by
  induction i with
  | zero => rfl
  | succ i ih => simp only [befI, segT]; rw [sumR_add, ih, seg_sum, Nat.zero_add]
/-- The finished columns of stitch i are those that the law of stacks tells. -/
theorem fin_made (hz : ∀ j, j < m → 1 ≤ z j ∧ z j ≤ 11) {i : Nat} (hi : i < m) : finL (z i) (cel0 s z i) = madeL (z i) (s (segT z i)) := by
  rw [finL_made (hz i hi) (cel0_length i)]
  unfold madeL
  by_cases h6 : z i = 6
  · rw [if_pos h6, if_pos h6]
    simp [cel0, crs, signI, seg, h6, tkN]
  · rw [if_neg h6, if_neg h6]
    by_cases h7 : z i = 7
    · rw [if_pos h7, if_pos h7]
      simp [cel0, crs, signI, seg, h7, tkN]
    · rw [if_neg h7, if_neg h7]
theorem cat_last (hz : ∀ j, j < m → 1 ≤ z j ∧ z j ≤ 11) {i : Nat} (hi : i ≤ m) : catC (celT s z d m m) i = aft s z i := by
  induction i with
  | zero => rfl
  | succ i ih => simp only [catC, aft]; rw [ih (by omega), celT_last i (by omega), fin_made hz (by omega)]
theorem sumI_made (k t : Int) (hk : 1 ≤ k ∧ k ≤ 11) : sumI (madeL k t) = madeS k t := by
  have h : ∀ (l : List Int) (n : Nat), n = l.length → sumI l = sumR (fun j => l.getD j 0) 0 n := by
    intro l n hn
    subst hn
    have : ∀ n, n ≤ l.length → sumI (l.take n) = sumR (fun j => l.getD j 0) 0 n := by
      intro n hn
      induction n with
      | zero => simp [sumI, sumR]
      | succ n ih =>
        rw [List.take_succ_eq_append_getElem (show n < l.length by omega), sumI_app, ih (by omega)]
        simp [sumI, sumR, List.getD, List.getElem?_eq_getElem (show n < l.length by omega)]
    have h2 := this l.length (Nat.le_refl _)
    rwa [List.take_length] at h2
  exact h _ _ (madeL_length t hk).symm
/-- The strands at time t. -/
theorem befI_keep {n : Nat} (hz : ∀ j, j < m → 1 ≤ z j ∧ z j ≤ 11) (hT : segT z m = n) (ht : t ≤ m) : befI (celT s z d m t) m = keepS s n z m d t := by
  induction t with
  | zero =>
    rw [befI_congr (D := cel0 s z) fun j hj => celT_zero j hj, befI_cel0, befI_seg, hT]
    rfl
  | succ t ih =>
    have ho : ordN d m t < m := ordN_lt (by omega)
    rw [befI_set ho (C := celT s z d m t) fun j hj hn => by rw [celT_next (by omega) j hj, if_neg hn], ih (by omega), celT_next (by omega) _ ho, if_pos rfl, celT_at (by omega), fin_made hz ho, sumI_made _ _ (hz _ ho), cel0_sum, seg_sum]
    simp only [keepS, chg]
    omega
theorem keepS_le {n k : Nat} (h : keepB s n z m d k = true) (ht : 0 < t) (htk : t ≤ k) : keepS s n z m d t ≤ 12 := by
  induction k with
  | zero => omega
  | succ k ih =>
    simp only [keepB, Bool.and_eq_true, decide_eq_true_eq] at h
    by_cases htk' : t = k + 1
    · rw [htk']; exact h.2
    · exact ih h.1 (by omega)
end
end Go.Proofs.Ytfncdogbpmiomaa

namespace Go.Proofs.Ytfncdogbpmiomaa
open Go.RowKit

theorem hown_blk {B : Nat} {w w' : World} {e : TypeId} {size n : Nat} {v : Value} {xs : List Value} (ho : w.ownsRow B e size v n xs) (h : ∀ b, v.ownBlock = some b → w'.heap[b]? = w.heap[b]?) : w'.ownsRow B e size v n xs := by
  refine ⟨ho.1, ?_⟩
  rcases ho.2 with hn | ⟨g, cap, cur, rfl, hb, hgg, rest⟩
  · exact .inl hn
  · exact .inr ⟨g, cap, cur, rfl, hb, (h g rfl).trans hgg, rest⟩
/-- The value's block bears the mark c. -/
def HTag (tg : Nat → Nat) (v : Value) (c : Nat) : Prop := ∀ b, v.ownBlock = some b → tg b = c
/-- The marks with a new one on a value's block. -/
def hretag (tg : Nat → Nat) (v : Value) (c : Nat) (b : Nat) : Nat := if v.ownBlock = some b then c else tg b
/-- A value's block is free, or bears the mark already. -/
def HFree (tg : Nat → Nat) (v : Value) (c : Nat) : Prop := ∀ b, v.ownBlock = some b → tg b = 0 ∨ tg b = c
/-- A stitch's columns: an empty list, or a block of their own with the mark c. -/
def HCel (B : Nat) (tg : Nat → Nat) (c : Nat) (w : World) (u : Value) (L : List Int) : Prop := (∃ A k, u = .slice A 0 k ∧ L = []) ∨ (w.ownsRow B 2 1 u L.length (ints L) ∧ HTag tg u c)
/-- What else the hand is known to leave as it is: a fact P of the blocks F (a row's order ..). Given as the default of a type, so that no contract has to name it. -/
structure HKeepT where
  P : World → Prop
  F : Nat → Prop
  loc : ∀ w w', P w → (∀ b, F b → w'.heap[b]? = w.heap[b]?) → P w'
/-- The row: its block g (the cells mk ev cl), n events, q stitches. All lies behind B; tg marks the blocks: 1 the block g, 2 the events, 3 the stitches, 4 + i the columns of stitch i. -/
structure HkS [Inhabited HKeepT] (T : TypeId) (mk : Value → Value → Array Value) (B g : Nat) (tg : Nat → Nat) (ev cl : Value) (n q : Nat) (E : List Int) (U : Nat → Value) (C : Nat → List Int) (w : World) : Prop where
  b : Blk w g T (mk ev cl)
  e : w.ownsRow B 96 6 ev n (ints E)
  c : w.ownsRow B 41 1 cl q ((List.range q).map U)
  u : ∀ i, i < q → HCel B tg (4 + i) w (U i) (C i)
  tb : tg g = 1
  te : HTag tg ev 2
  tc : HTag tg cl 3
  lt : ∀ b, tg b ≠ 0 → b < w.heap.size
  lo : B ≤ g
  k : (default : HKeepT).P w
  kf : ∀ b, (default : HKeepT).F b → tg b = 1 ∧ b ≠ g
def HkM [Inhabited HKeepT] (T : TypeId) (mk : Value → Value → Array Value) (B g q : Nat) (E : List Int) (C : Nat → List Int) (w : World) : Prop := ∃ tg ev cl n U, HkS T mk B g tg ev cl n q E U C w

section
variable {tg : Nat → Nat} {u v : Value} {c x : Nat} {B : Nat} {w w' : World} {L : List Int}
theorem hretag_old {b : Nat} (hf : HFree tg v c) (hx : tg b = x) (h0 : x ≠ 0) (hc : x ≠ c) : hretag tg v c b = x := by
  unfold hretag
  rw [if_neg ?_, hx]
  intro e
  rcases hf b e with h | h <;> omega
theorem hretag_tag (hf : HFree tg v c) (hu : HTag tg u x) (h0 : x ≠ 0) (hc : x ≠ c) : HTag (hretag tg v c) u x := fun b hb => hretag_old hf (hu b hb) h0 hc
theorem hretag_new (v : Value) (c : Nat) : HTag (hretag tg v c) v c := fun b hb => by unfold hretag; rw [if_pos hb]
theorem hretag_lt {N : Nat} (h : ∀ b, tg b ≠ 0 → b < N) (hv : ∀ b, v.ownBlock = some b → b < N) : ∀ b, hretag tg v c b ≠ 0 → b < N := fun b hb => by
  unfold hretag at hb
  split at hb
  · exact hv b ‹_›
  · exact h b hb
theorem HCel.tag (h : HCel B tg x w u L) (hf : HFree tg v c) (h0 : x ≠ 0) (hc : x ≠ c) : HCel B (hretag tg v c) x w u L := by
  rcases h with h | ⟨h1, h2⟩
  · exact .inl h
  · exact .inr ⟨h1, hretag_tag hf h2 h0 hc⟩
theorem HCel.blk (h : HCel B tg x w u L) (hk : ∀ b, tg b = x → w'.heap[b]? = w.heap[b]?) : HCel B tg x w' u L := by
  rcases h with h | ⟨h1, h2⟩
  · exact .inl h
  · exact .inr ⟨hown_blk h1 fun b hb => hk b (h2 b hb), h2⟩
end
theorem hset_keep (w : World) (p : Addr) (v : Value) (b : Nat) (h : b ≠ p.block) : (w.setCell p v).heap[b]? = w.heap[b]? := Below.heap_setCell w p v b h
theorem hset_size (w : World) (p : Addr) (v : Value) : (w.setCell p v).heap.size = w.heap.size := by simp [World.setCell]
theorem map_range_set (U : Nat → Value) (q i : Nat) (u : Value) : ((List.range q).map U).set i u = (List.range q).map (fun j => if j = i then u else U j) := by
  apply List.ext_getElem?
  intro j
  rw [List.getElem?_set]
  by_cases h : i = j
  · subst h
    by_cases hi : i < q
    · simp [hi]
    · simp [hi]
  · rw [if_neg h]
    by_cases hj : j < q
    · have h' : ¬ j = i := fun e => h e.symm
      simp [hj, h']
    · simp [hj]
section
variable [Inhabited HKeepT] {T : TypeId} {mk : Value → Value → Array Value} {B g : Nat} {tg : Nat → Nat} {ev cl : Value} {n q : Nat} {E : List Int} {U : Nat → Value} {C : Nat → List Int} {w w' : World}
theorem HkS.same (h : HkS T mk B g tg ev cl n q E U C w) (hk : ∀ b, tg b ≠ 0 → w'.heap[b]? = w.heap[b]?) (hz : w.heap.size ≤ w'.heap.size) : HkS T mk B g tg ev cl n q E U C w' where
  b := (hk g (by rw [h.tb]; omega)).trans h.b
  e := hown_blk h.e fun b hb => hk b (by rw [h.te b hb]; omega)
  c := hown_blk h.c fun b hb => hk b (by rw [h.tc b hb]; omega)
  u := fun i hi => (h.u i hi).blk fun b hb => hk b (by omega)
  tb := h.tb
  te := h.te
  tc := h.tc
  lt := fun b hb => Nat.lt_of_lt_of_le (h.lt b hb) hz
  lo := h.lo
  k := HKeepT.loc _ _ _ h.k fun b hb => hk b (by rw [(h.kf b hb).1]; omega)
  kf := h.kf
theorem HkS.below (h : HkS T mk B g tg ev cl n q E U C w) (hb : Below w.heap.size w w') : HkS T mk B g tg ev cl n q E U C w' := h.same (fun b ht => hb.block b (h.lt b ht)) hb.size
theorem HkS.drewN (h : HkS T mk B g tg ev cl n q E U C w) (k : Nat) : HkS T mk B g tg ev cl n q E U C (w.drewN k) := h.same (fun _ _ => rfl) (Nat.le_refl _)
/-- Events were appended, the slice is stored now. -/
theorem HkS.putE (h : HkS T mk B g tg ev cl n q E U C w) (hk : ∀ b, tg b ≠ 0 → tg b ≠ 2 → w'.heap[b]? = w.heap[b]?) (hz : w.heap.size ≤ w'.heap.size) {ev' : Value} {n' : Nat} {E' : List Int} (ho : w'.ownsRow B 96 6 ev' n' (ints E')) (hf : HFree tg ev' 2) {o : Nat} (hmk : (mk ev cl).setIfInBounds o ev' = mk ev' cl) :
    HkS T mk B g (hretag tg ev' 2) ev' cl n' q E' U C (w'.setCell ⟨g, o, none⟩ ev') where
  b := by
    have h1 : Blk w' g T (mk ev cl) := (hk g (by rw [h.tb]; omega) (by rw [h.tb]; omega)).trans h.b
    have := h1.set_ o ev'
    rwa [hmk] at this
  e := hown_blk ho fun b hb => hset_keep _ _ _ _ (by rintro rfl; have := hf _ hb; have := h.tb; omega)
  c := hown_blk (hown_blk h.c fun b hb => hk b (by rw [h.tc b hb]; omega) (by rw [h.tc b hb]; omega)) fun b hb => hset_keep _ _ _ _ (by rintro rfl; have := h.tc _ hb; have := h.tb; omega)
  u := fun i hi => (((h.u i hi).blk fun b hb => hk b (by omega) (by omega)).blk fun b hb => hset_keep _ _ _ _ (by rintro rfl; have := h.tb; omega)).tag hf (by omega) (by omega)
  tb := hretag_old hf h.tb (by omega) (by omega)
  te := hretag_new _ _
  tc := hretag_tag hf h.tc (by omega) (by omega)
  lt := by
    rw [hset_size]
    exact hretag_lt (fun b hb => Nat.lt_of_lt_of_le (h.lt b hb) hz) fun b hb => (ho.lt b hb).2
  lo := h.lo
  k := HKeepT.loc _ _ _ h.k fun b hb => (hset_keep _ _ _ _ (h.kf b hb).2).trans (hk b (by rw [(h.kf b hb).1]; omega) (by rw [(h.kf b hb).1]; omega))
  kf := fun b hb => ⟨hretag_old hf (h.kf b hb).1 (by omega) (by omega), (h.kf b hb).2⟩
/-- A stitch was appended (its columns lie in a free block), the slice is stored now. -/
theorem HkS.putC (h : HkS T mk B g tg ev cl n q E U C w) (hk : ∀ b, tg b ≠ 0 → tg b ≠ 3 → w'.heap[b]? = w.heap[b]?) (hz : w.heap.size ≤ w'.heap.size) {cl' u : Value} {L : List Int} (ho : w'.ownsRow B 41 1 cl' (q + 1) ((List.range q).map U ++ [u])) (hf : HFree tg cl' 3) (hu : (∃ A k, u = .slice A 0 k ∧ L = []) ∨ (w'.ownsRow B 2 1 u L.length (ints L) ∧ (∀ b, u.ownBlock = some b → tg b = 0 ∧ ¬ cl'.ownBlock = some b))) {o : Nat} (hmk : (mk ev cl).setIfInBounds o cl' = mk ev cl') :
    ∃ tg', HkS T mk B g tg' ev cl' n (q + 1) E (fun i => if i = q then u else U i) (fun i => if i = q then L else C i) (w'.setCell ⟨g, o, none⟩ cl') ∧ ∀ b, tg b = 0 → ¬ cl'.ownBlock = some b → ¬ u.ownBlock = some b → tg' b = 0 := by
  have hz0 : ∀ b, tg b = 0 → ¬ cl'.ownBlock = some b → hretag tg cl' 3 b = 0 := fun b h0 h1 => by unfold hretag; rw [if_neg h1]; exact h0
  have hf2 : (∃ A k, u = .slice A 0 k ∧ L = []) ∨ (w'.ownsRow B 2 1 u L.length (ints L) ∧ HFree (hretag tg cl' 3) u (4 + q)) := by
    rcases hu with hu | ⟨hu, hu2⟩
    · exact .inl hu
    · exact .inr ⟨hu, fun b hb => .inl (by unfold hretag; rw [if_neg (hu2 b hb).2]; exact (hu2 b hb).1)⟩
  have hb' : Blk (w'.setCell ⟨g, o, none⟩ cl') g T (mk ev cl') := by
    have h1 : Blk w' g T (mk ev cl) := (hk g (by rw [h.tb]; omega) (by rw [h.tb]; omega)).trans h.b
    have := h1.set_ o cl'
    rwa [hmk] at this
  have hg : ∀ b, b ≠ g → (w'.setCell ⟨g, o, none⟩ cl').heap[b]? = w'.heap[b]? := fun b hb => hset_keep _ _ _ _ hb
  have he' : (w'.setCell ⟨g, o, none⟩ cl').ownsRow B 96 6 ev n (ints E) := hown_blk (hown_blk h.e fun b hb => hk b (by rw [h.te b hb]; omega) (by rw [h.te b hb]; omega)) fun b hb => hg b (by rintro rfl; have := h.te _ hb; have := h.tb; omega)
  have hc' : (w'.setCell ⟨g, o, none⟩ cl').ownsRow B 41 1 cl' (q + 1) ((List.range (q + 1)).map fun i => if i = q then u else U i) := by
    have h1 : (List.range (q + 1)).map (fun i => if i = q then u else U i) = (List.range q).map U ++ [u] := by
      rw [List.range_succ, List.map_append]
      congr 1
      · exact List.map_congr_left fun i hi => by rw [if_neg (by have := List.mem_range.1 hi; omega)]
      · simp
    rw [h1]
    exact hown_blk ho fun b hb => hg b (by rintro rfl; have := hf _ hb; have := h.tb; omega)
  have hu' : ∀ i, i < q → HCel B (hretag tg cl' 3) (4 + i) (w'.setCell ⟨g, o, none⟩ cl') (U i) (C i) := fun i hi => (((h.u i hi).blk fun b hb => hk b (by omega) (by omega)).blk fun b hb => hg b (by rintro rfl; have := h.tb; omega)).tag hf (by omega) (by omega)
  have hlt' : ∀ b, hretag tg cl' 3 b ≠ 0 → b < (w'.setCell ⟨g, o, none⟩ cl').heap.size := by
    rw [hset_size]
    exact hretag_lt (fun b hb => Nat.lt_of_lt_of_le (h.lt b hb) hz) fun b hb => (ho.lt b hb).2
  have htb' := hretag_old hf h.tb (by omega) (by omega)
  have hte' := hretag_tag hf h.te (by omega) (by omega)
  have htc' := hretag_new (tg := tg) cl' 3
  have hk' : (default : HKeepT).P (w'.setCell ⟨g, o, none⟩ cl') := HKeepT.loc _ _ _ h.k fun b hb => (hset_keep _ _ _ _ (h.kf b hb).2).trans (hk b (by rw [(h.kf b hb).1]; omega) (by rw [(h.kf b hb).1]; omega))
  have hkf' : ∀ b, (default : HKeepT).F b → hretag tg cl' 3 b = 1 ∧ b ≠ g := fun b hb => ⟨hretag_old hf (h.kf b hb).1 (by omega) (by omega), (h.kf b hb).2⟩
  rcases hf2 with ⟨A, k, hA, hL⟩ | ⟨hu1, hu2⟩
  · refine ⟨_, ⟨hb', he', hc', fun i hi => ?_, htb', hte', htc', hlt', h.lo, hk', hkf'⟩, fun b h0 h1 _ => hz0 b h0 h1⟩
    by_cases hiq : i = q
    · subst hiq
      simp only [if_true]
      exact .inl ⟨A, k, hA, hL⟩
    · simp only [if_neg hiq]
      exact hu' i (by omega)
  · refine ⟨hretag (hretag tg cl' 3) u (4 + q), ⟨hb', he', hc', fun i hi => ?_, hretag_old hu2 htb' (by omega) (by omega), hretag_tag hu2 hte' (by omega) (by omega), hretag_tag hu2 htc' (by omega) (by omega), hretag_lt hlt' fun b hb => by rw [hset_size]; exact (hu1.lt b hb).2, h.lo, hk', fun b hb => ⟨hretag_old hu2 (hkf' b hb).1 (by omega) (by omega), (hkf' b hb).2⟩⟩, fun b h0 h1 h2 => by unfold hretag; rw [if_neg h2]; exact hz0 b h0 h1⟩
    by_cases hiq : i = q
    · subst hiq
      simp only [if_true]
      refine .inr ⟨hown_blk hu1 fun b hb => hg b ?_, hretag_new _ _⟩
      rintro rfl
      rcases hu with ⟨A, k, rfl, hL⟩ | ⟨_, h3⟩
      · have := hu2 _ hb
        omega
      · have := (h3 _ hb).1
        have := h.tb
        omega
    · simp only [if_neg hiq]
      exact (hu' i (by omega)).tag hu2 (by omega) (by omega)
/-- The columns of stitch i are others now, in a free block. -/
theorem HkS.setC {gc cap : Nat} (h : HkS T mk B g tg ev (.slice (some ⟨gc, 0, none⟩) q cap) n q E U C w) {i : Nat} (hi : i < q) {u : Value} {L : List Int} (hu : w.ownsRow B 2 1 u L.length (ints L)) (hf : ∀ b, u.ownBlock = some b → tg b = 0) :
    HkS T mk B g (hretag tg u (4 + i)) ev (.slice (some ⟨gc, 0, none⟩) q cap) n q E (fun j => if j = i then u else U j) (fun j => if j = i then L else C j) (w.setCell ⟨gc, i, none⟩ u) := by
  have hF : HFree tg u (4 + i) := fun b hb => .inl (hf b hb)
  have hgc : tg gc = 3 := h.tc gc rfl
  have hk : ∀ b, tg b ≠ 3 → (w.setCell ⟨gc, i, none⟩ u).heap[b]? = w.heap[b]? := fun b hb => hset_keep _ _ _ _ (by rintro rfl; exact hb hgc)
  refine ⟨(hk g (by rw [h.tb]; omega)).trans h.b, hown_blk h.e fun b hb => hk b (by rw [h.te b hb]; omega), by have := (h.c.stored i u).1; rwa [map_range_set] at this, fun j hj => ?_, hretag_old hF h.tb (by omega) (by omega), hretag_tag hF h.te (by omega) (by omega), hretag_tag hF h.tc (by omega) (by omega), ?_, h.lo, HKeepT.loc _ _ _ h.k fun b hb => hk b (by rw [(h.kf b hb).1]; omega), fun b hb => ⟨hretag_old hF (h.kf b hb).1 (by omega) (by omega), (h.kf b hb).2⟩⟩
  · by_cases hji : j = i
    · subst hji
      simp only [if_true]
      exact .inr ⟨hown_blk hu fun b hb => hk b (by rw [hf b hb]; omega), hretag_new _ _⟩
    · simp only [if_neg hji]
      exact ((h.u j hj).blk fun b hb => hk b (by omega)).tag hF (by omega) (by omega)
  · rw [hset_size]
    exact hretag_lt h.lt fun b hb => (hu.lt b hb).2
/-- A column of stitch i has another size now. -/
theorem HkS.setN {gi cap : Nat} (h : HkS T mk B g tg ev cl n q E U C w) {i k : Nat} (hi : i < q) (hU : U i = .slice (some ⟨gi, 0, none⟩) (C i).length cap) (hk : k < (C i).length) (x : Int) :
    HkS T mk B g tg ev cl n q E U (fun j => if j = i then (C i).set k x else C j) (w.setCell ⟨gi, k, none⟩ (.int .i64 x)) := by
  have hc := h.u i hi
  rw [hU] at hc
  rcases hc with ⟨A, c, e, hL⟩ | ⟨ho, ht⟩
  · rw [hL] at hk
    simp at hk
  have hgi : tg gi = 4 + i := ht gi rfl
  have hkp : ∀ b, tg b ≠ 4 + i → (w.setCell ⟨gi, k, none⟩ (.int .i64 x)).heap[b]? = w.heap[b]? := fun b hb => hset_keep _ _ _ _ (by rintro rfl; exact hb hgi)
  refine ⟨(hkp g (by rw [h.tb]; omega)).trans h.b, hown_blk h.e fun b hb => hkp b (by rw [h.te b hb]; omega), hown_blk h.c fun b hb => hkp b (by rw [h.tc b hb]; omega), fun j hj => ?_, h.tb, h.te, h.tc, fun b hb => by rw [hset_size]; exact h.lt b hb, h.lo, HKeepT.loc _ _ _ h.k fun b hb => hkp b (by rw [(h.kf b hb).1]; omega), h.kf⟩
  by_cases hji : j = i
  · subst hji
    simp only [if_true]
    refine .inr ⟨?_, by rw [hU]; exact ht⟩
    have := (ho.stored k (.int .i64 x)).1
    rw [hU, List.length_set]
    have h2 : ints ((C j).set k x) = (ints (C j)).set k (.int .i64 x) := by simp [ints, List.map_set]
    rw [h2]
    exact this
  · simp only [if_neg hji]
    exact (h.u j hj).blk fun b hb => hkp b (by omega)
/-- What is loaded: the slice of stitch i; its numbers. -/
theorem HkS.cellAt {gc cap : Nat} (h : HkS T mk B g tg ev (.slice (some ⟨gc, 0, none⟩) q cap) n q E U C w) {i : Nat} (hi : i < q) : w.cell? ⟨gc, i, none⟩ = some (U i) := by
  rw [h.c.cellAt i (by omega)]
  simp [hi]
theorem HkS.form (h : HkS T mk B g tg ev cl n q E U C w) (hq : 0 < q) : ∃ gc cap, cl = .slice (some ⟨gc, 0, none⟩) q cap := by
  rcases h.c.2 with ⟨_, h0⟩ | ⟨gc, cap, _, rfl, _⟩
  · omega
  · exact ⟨gc, cap, rfl⟩
theorem HkS.len (h : HkS T mk B g tg ev cl n q E U C w) : E.length = 6 * n := by
  have := h.e.1
  simp [ints] at this
  omega
/-- A stitch's columns as a slice that reads as they are. -/
theorem HkS.read (h : HkS T mk B g tg ev cl n q E U C w) {i : Nat} (hi : i < q) : ∃ A c, U i = .slice A (C i).length c ∧ Rd w A (C i).length (fun j => .int .i64 ((C i).getD j 0)) := by
  rcases h.u i hi with ⟨A, c, e, hL⟩ | ⟨ho, _⟩
  · refine ⟨A, c, ?_, ?_⟩
    · rw [e, hL]; rfl
    · rw [hL]
      intro h0
      simp at h0
  · obtain ⟨A, c, e⟩ := own_form ho
    refine ⟨A, c, e, fun h0 => ?_⟩
    rw [e] at ho
    rcases ho.2 with ⟨_, h1⟩ | ⟨g', cap, _, hg, _⟩
    · omega
    injection hg with hA _ hc
    subst hA
    refine ⟨g', 0, rfl, (ho.lt g' rfl).2, fun j hj => ?_⟩
    rw [Nat.zero_add, ho.cellAt j (by omega)]
    simp [ints, List.getD, hj]
/-- A stitch's columns where there are some. -/
theorem HkS.readO (h : HkS T mk B g tg ev cl n q E U C w) {i : Nat} (hi : i < q) (h0 : 0 < (C i).length) : ∃ gi cap, U i = .slice (some ⟨gi, 0, none⟩) (C i).length cap ∧ ((C i).length ≤ cap ∧ cap ≤ maxLen) ∧ gi < w.heap.size ∧ B ≤ gi ∧ tg gi = 4 + i ∧ (∀ j, j < (C i).length → w.cell? ⟨gi, j, none⟩ = some (.int .i64 ((C i).getD j 0))) ∧ ∀ j, w.frozen? ⟨gi, j, none⟩ = false := by
  rcases h.u i hi with ⟨A, c, e, hL⟩ | ⟨ho, ht⟩
  · rw [hL] at h0
    simp at h0
  · rcases ho.2 with ⟨_, h1⟩ | ⟨gi, cap, cur, e, hb, hc, hnc, hcm, _⟩
    · omega
    refine ⟨gi, cap, e, ⟨hnc, hcm⟩, (Array.getElem?_eq_some_iff.1 hc).1, hb, ht gi (by rw [e]; rfl), fun j hj => ?_, fun j => ?_⟩
    · rw [e] at ho
      rw [ho.cellAt j (by omega)]
      simp [ints, List.getD, hj]
    · rw [e] at ho
      exact ho.frozenAt j
theorem HkS.cFrozen {gc cap : Nat} (h : HkS T mk B g tg ev (.slice (some ⟨gc, 0, none⟩) q cap) n q E U C w) (i : Nat) : w.frozen? ⟨gc, i, none⟩ = false := h.c.frozenAt i
end
/-- Nothing else is kept. -/
instance noKeep : Inhabited HKeepT := ⟨⟨fun _ => True, fun _ => False, fun _ _ _ _ => trivial⟩⟩
/-- A row's numbers are kept. -/
@[reducible] def rowKeep (A : Option Addr) (N : Nat) (f : Nat → Value) : Inhabited HKeepT := ⟨⟨fun w => Rd w A N f, Fb A N, (rd_obj A N f).1⟩⟩
open Classical in
theorem HkM.keep {T : TypeId} {mk : Value → Value → Array Value} {B g q : Nat} {E : List Int} {C : Nat → List Int} {w w' : World} (h : @HkM noKeep T mk B g q E C w) (hb : Below w.heap.size w w') (K : Inhabited HKeepT) (hk : K.default.P w') (hf : ∀ b, K.default.F b → w.heap.size ≤ b ∧ b < w'.heap.size) : @HkM K T mk B g q E C w' := by
  obtain ⟨tg, ev, cl, n, U, H⟩ := h
  have hlt := @HkS.lt noKeep _ _ _ _ _ _ _ _ _ _ _ _ _ H
  have hH := @HkS.below noKeep _ _ _ _ _ _ _ _ _ _ _ _ _ _ H hb
  have h0 : ∀ b, K.default.F b → tg b = 0 := fun b hb => Decidable.byContradiction fun hn => by have := hlt b hn; have := (hf b hb).1; omega
  have hold : ∀ b, tg b ≠ 0 → (if K.default.F b then 1 else tg b) = tg b := fun b hb => if_neg fun hF => hb (h0 b hF)
  have htag : ∀ (v : Value) (c : Nat), c ≠ 0 → HTag tg v c → HTag (fun b => if K.default.F b then 1 else tg b) v c := fun v c hc hv b hb => by
    have := hv b hb
    exact (hold b (by omega)).trans this
  refine ⟨fun b => if K.default.F b then 1 else tg b, ev, cl, n, U, ?_⟩
  have hb1 := @HkS.b noKeep _ _ _ _ _ _ _ _ _ _ _ _ _ hH
  have he1 := @HkS.e noKeep _ _ _ _ _ _ _ _ _ _ _ _ _ hH
  have hc1 := @HkS.c noKeep _ _ _ _ _ _ _ _ _ _ _ _ _ hH
  have hu1 := @HkS.u noKeep _ _ _ _ _ _ _ _ _ _ _ _ _ hH
  have htb := @HkS.tb noKeep _ _ _ _ _ _ _ _ _ _ _ _ _ hH
  have hte := @HkS.te noKeep _ _ _ _ _ _ _ _ _ _ _ _ _ hH
  have htc := @HkS.tc noKeep _ _ _ _ _ _ _ _ _ _ _ _ _ hH
  have hlt2 := @HkS.lt noKeep _ _ _ _ _ _ _ _ _ _ _ _ _ hH
  have hlo := @HkS.lo noKeep _ _ _ _ _ _ _ _ _ _ _ _ _ hH
  refine @HkS.mk K _ _ _ _ _ _ _ _ _ _ _ _ _ hb1 he1 hc1 (fun i hi => ?_) ((hold g (by omega)).trans htb) (htag _ _ (by omega) hte) (htag _ _ (by omega) htc) (fun b hb => ?_) hlo hk (fun b hb => ⟨if_pos hb, fun e => ?_⟩)
  · rcases hu1 i hi with h | ⟨h1, h2⟩
    · exact .inl h
    · exact .inr ⟨h1, htag _ _ (by omega) h2⟩
  · by_cases hF : K.default.F b
    · exact (hf b hF).2
    · rw [if_neg hF] at hb
      exact hlt2 b hb
  · have := h0 b hb
    rw [e] at this
    omega
theorem HkS.free (K : Inhabited HKeepT) {T : TypeId} {mk : Value → Value → Array Value} {B g : Nat} {tg : Nat → Nat} {ev cl : Value} {n q : Nat} {E : List Int} {U : Nat → Value} {C : Nat → List Int} {w : World} (h : @HkS K T mk B g tg ev cl n q E U C w) : @HkS noKeep T mk B g tg ev cl n q E U C w :=
  @HkS.mk noKeep _ _ _ _ _ _ _ _ _ _ _ _ _ (@HkS.b K _ _ _ _ _ _ _ _ _ _ _ _ _ h) (@HkS.e K _ _ _ _ _ _ _ _ _ _ _ _ _ h) (@HkS.c K _ _ _ _ _ _ _ _ _ _ _ _ _ h) (@HkS.u K _ _ _ _ _ _ _ _ _ _ _ _ _ h) (@HkS.tb K _ _ _ _ _ _ _ _ _ _ _ _ _ h) (@HkS.te K _ _ _ _ _ _ _ _ _ _ _ _ _ h) (@HkS.tc K _ _ _ _ _ _ _ _ _ _ _ _ _ h) (@HkS.lt K _ _ _ _ _ _ _ _ _ _ _ _ _ h) (@HkS.lo K _ _ _ _ _ _ _ _ _ _ _ _ _ h) trivial (fun _ hb => hb.elim)
theorem HkM.free (K : Inhabited HKeepT) {T : TypeId} {mk : Value → Value → Array Value} {B g q : Nat} {E : List Int} {C : Nat → List Int} {w : World} (h : @HkM K T mk B g q E C w) : @HkM noKeep T mk B g q E C w ∧ K.default.P w := by
  obtain ⟨tg, ev, cl, n, U, H⟩ := h
  exact ⟨⟨tg, ev, cl, n, U, HkS.free K H⟩, @HkS.k K _ _ _ _ _ _ _ _ _ _ _ _ _ H⟩
end Go.Proofs.Ytfncdogbpmiomaa

namespace Go.Proofs.Ytfncdogbpmiomaa
open Go.RowKit
set_option maxRecDepth 20000

theorem sumI_take (L : List Int) {k : Nat} (hk : k < L.length) : sumI (L.take (k + 1)) = sumI (L.take k) + L.getD k 0 := by
  rw [List.take_succ_eq_append_getElem hk, sumI_app]
  simp [sumI, List.getD, List.getElem?_eq_getElem hk]
/-- No number is too great. -/
def Sml (L : List Int) : Prop := L.length ≤ 1000 ∧ ∀ x ∈ L, 0 ≤ x ∧ x ≤ 1000
theorem Sml.take {L : List Int} (h : Sml L) (k : Nat) : Sml (L.take k) := ⟨by have := h.1; simp; omega, fun x hx => h.2 x (List.mem_of_mem_take hx)⟩
theorem Sml.drop {L : List Int} (h : Sml L) (k : Nat) : Sml (L.drop k) := ⟨by have := h.1; simp; omega, fun x hx => h.2 x (List.mem_of_mem_drop hx)⟩
theorem Sml.sum {L : List Int} (h : Sml L) : 0 ≤ sumI L ∧ sumI L ≤ 1000000 := by
  have h1 := sumI_bounds h.2
  have h2 := h.1
  omega
theorem Sml.get {L : List Int} (h : Sml L) (k : Nat) : 0 ≤ L.getD k 0 ∧ L.getD k 0 ≤ 1000 := by
  by_cases hk : k < L.length
  · have := h.2 L[k] (List.getElem_mem hk)
    simp only [List.getD, List.getElem?_eq_getElem hk, Option.getD_some]
    exact this
  · simp [List.getD, List.getElem?_eq_none (Nat.le_of_not_lt hk)]
theorem l17Sum_any (A : Option Addr) (n c : Nat) (L : List Int) (w : World) (hl : L.length = n) (ha : Rd w A n (fun j => .int .i64 (L.getD j 0))) (hL : Sml L) :
    Calls Try.prog 156 #[.slice A n c] w fun e w' => e = .returned (.int .i64 (sumI L)) ∧ w = w' := by
  subst hl
  have HA := Lib.hid ha
  have HL := Lib.hid hL
  have hn := hL.1
  clear ha hL
  go_enter Try.func156, Try.ntmps156
  go_wp2
  go_loop [3, 4] (fun s i => ∃ k : Nat, k ≤ L.length ∧ i = .int .i64 k ∧ s = .int .i64 (sumI (L.take k))) (fun _ i => L.length - (intOf i).toNat)
  case atStart => exact ⟨0, Nat.zero_le _, rfl, rfl⟩
  case round =>
    obtain ⟨k, hk, rfl, rfl⟩ := hrel
    have hs := (HL.out.take k).sum
    by_cases hlt : k < L.length
    · obtain ⟨ga, o, rfl, hg, hr⟩ := HA.out (by omega)
      have hc := hr k hlt
      have hzk := HL.out.get k
      have HS := Lib.hid (sumI_take L hlt)
      obtain ⟨y, hy⟩ : ∃ y, y = L.getD k 0 := ⟨_, rfl⟩
      obtain ⟨t, ht⟩ : ∃ t, t = sumI (L.take k) := ⟨_, rfl⟩
      simp only [← hy, ← ht] at hc hzk HS hs ⊢
      clear hr hy ht
      go_wp2
      go_round
      case rel => exact ⟨k + 1, by omega, by go_num, i64c HS.out.symm⟩
      case measure => simp [intOf] <;> omega
    · obtain rfl : L.length = k := by omega
      go_wp2
      go_ret
      exact ⟨rfl, rfl⟩
theorem l17Sign_any (k : Int) (w : World) : Calls Try.prog 154 #[.int .i64 k] w fun e w' => e = .returned (.int .i64 (signI k)) ∧ w = w' := by
  by_cases h1 : k = 8
  · subst h1
    go_enter Try.func154, Try.ntmps154
    go_wp2
    go_ret
    exact ⟨rfl, rfl⟩
  by_cases h2 : k = 10
  · subst h2
    go_enter Try.func154, Try.ntmps154
    go_wp2
    go_ret
    exact ⟨rfl, rfl⟩
  by_cases h3 : k = 9
  · subst h3
    go_enter Try.func154, Try.ntmps154
    go_wp2
    go_ret
    exact ⟨rfl, rfl⟩
  by_cases h4 : k = 11
  · subst h4
    go_enter Try.func154, Try.ntmps154
    go_wp2
    go_ret
    exact ⟨rfl, rfl⟩
  by_cases h5 : k = 5
  · subst h5
    go_enter Try.func154, Try.ntmps154
    go_wp2
    go_ret
    exact ⟨rfl, rfl⟩
  have hs : signI k = 0 := by unfold signI; rw [if_neg (by omega), if_neg (by omega)]
  have HS := Lib.hid hs
  clear hs
  go_enter Try.func154, Try.ntmps154
  go_wp2
  go_ret
  exact ⟨by rw [HS.out]; rfl, rfl⟩
theorem l03Abs_any (x : Int) (w : World) (hx : -4000000000 ≤ x ∧ x ≤ 4000000000) : Calls Try.prog 157 #[.int .i64 x] w fun e w' => e = .returned (.int .i64 x.natAbs) ∧ w = w' := by
  by_cases h : x < 0
  · have HN := Lib.hid (show -x = (x.natAbs : Int) by omega)
    go_enter Try.func157, Try.ntmps157
    go_wp2
    go_ret
    exact ⟨by rw [← HN.out]; rfl, rfl⟩
  · have HN := Lib.hid (show x = (x.natAbs : Int) by omega)
    go_enter Try.func157, Try.ntmps157
    go_wp2
    go_ret
    exact ⟨by rw [← HN.out]; rfl, rfl⟩
/-- The hand's block in the reference. -/
def mkS (ev cl : Value) : Array Value := #[ev, cl]
/-- All columns are small. -/
def SmlC (C : Nat → List Int) (q : Nat) : Prop := q ≤ 1000 ∧ ∀ i, i < q → Sml (C i)
theorem SmlC.bef {C : Nat → List Int} {q : Nat} (h : SmlC C q) {i : Nat} (hi : i ≤ q) : 0 ≤ befI C i ∧ befI C i ≤ 1000000000 := by
  have h1 := befI_bounds (C := C) (q := i) (b := 1000000) fun j hj => (h.2 j (by omega)).sum
  have := h.1
  omega
section
variable [Inhabited HKeepT] {B g : Nat} {tg : Nat → Nat} {ev cl : Value} {n q : Nat} {E : List Int} {U : Nat → Value} {C : Nat → List Int} {w : World}
theorem before_any (i : Nat) (H : HkS 148 mkS B g tg ev cl n q E U C w) (hi : i ≤ q) (hC : SmlC C q) :
    Calls Try.prog 105 #[.pointer (some ⟨g, 0, none⟩), .int .i64 i] w fun e w' => e = .returned (.int .i64 (befI C i)) ∧ w = w' := by
  have HH := Lib.hid H
  have HC := Lib.hid hC
  have hq := hC.1
  clear H hC
  go_enter Try.func105, Try.ntmps105
  go_wp2
  go_loop [5, 6] (fun s x => ∃ k : Nat, k ≤ i ∧ x = .int .i64 k ∧ s = .int .i64 (befI C k)) (fun _ x => i - (intOf x).toNat)
  case atStart => exact ⟨0, Nat.zero_le _, rfl, rfl⟩
  case round =>
    obtain ⟨k, hk, rfl, rfl⟩ := hrel
    have hs := HC.out.bef (show k ≤ q by omega)
    by_cases hlt : k < i
    · obtain ⟨gc, cap, rfl⟩ := HH.out.form (by omega)
      have c1 : w.cell? ⟨g, 1, none⟩ = some (.slice (some ⟨gc, 0, none⟩) q cap) := HH.out.b.cell 1
      have c2 := HH.out.cellAt (show k < q by omega)
      obtain ⟨A, c, hU, hrd⟩ := HH.out.read (show k < q by omega)
      rw [hU] at c2
      have HR := Lib.hid hrd
      have hsum := (HC.out.2 k (by omega)).sum
      have HS := Lib.hid (show befI C (k + 1) = befI C k + sumI (C k) from rfl)
      obtain ⟨L, hL⟩ : ∃ L, L = C k := ⟨_, rfl⟩
      rw [← hL] at c2 HR hsum HS
      have HSM := Lib.hid (show Sml L by rw [hL]; exact HC.out.2 k (by omega))
      clear hU hrd hL
      go_wp2_with fail
      refine (l17Sum_any A L.length c L _ rfl HR.out HSM.out).mono ?_
      rintro e w' ⟨rfl, rfl⟩
      go_wp2
      go_round
      case rel => exact ⟨k + 1, by omega, by go_num, by rw [HS.out]⟩
      case measure => simp [intOf] <;> omega
    · obtain rfl : i = k := by omega
      go_wp2
      go_ret
      exact ⟨rfl, rfl⟩
end
end Go.Proofs.Ytfncdogbpmiomaa

namespace Go.Proofs.Ytfncdogbpmiomaa
open Go.RowKit
set_option maxRecDepth 20000

/-- The hand's row went on from w: nothing ahead of B was written. -/
def HkP [Inhabited HKeepT] (T : TypeId) (mk : Value → Value → Array Value) (B g q : Nat) (E : List Int) (C : Nat → List Int) (w : World) (e : Ending) (w' : World) : Prop := e = .returned (.tuple #[]) ∧ HkM T mk B g q E C w' ∧ Below B w w'
section
variable [Inhabited HKeepT] {B g : Nat} {tg : Nat → Nat} {ev cl : Value} {n q : Nat} {E : List Int} {U : Nat → Value} {C : Nat → List Int} {w : World}
set_option maxHeartbeats 4000000 in
theorem specAdd_any (gr o : Nat) (d c : Int) (A : Option Addr) (m qq : Nat) (k p x b : Int) (H : HkS 148 mkS B g tg ev cl n q E U C w) (hB : B ≤ w.heap.size) (HR : Hid (RowAt w gr o d c A m qq)) (hgr : gr < B) (hn : n ≤ 1048576) :
    Calls Try.prog 159 #[.pointer (some ⟨g, 0, none⟩), .pointer (some ⟨gr, o, none⟩), .int .i64 k, .int .i64 p, .int .i64 x, .int .i64 b] w (HkP 148 mkS B g q (E ++ evL k p x b c d) C w) := by
  obtain ⟨i0, hi, iz, is, ib⟩ := info_parts infoEvent
  obtain ⟨Ae, ce, rfl⟩ := own_form H.e
  have m0 : w.cell? ⟨g, 0, none⟩ = some (.slice Ae n ce) := H.b.cell 0
  have f0 : w.frozen? ⟨g, 0, none⟩ = false := H.b.frozen 0
  have r0 := HR.out.c0
  have r1 := HR.out.c1
  have HH := Lib.hid H
  clear H
  go_enter Try.func159, Try.ntmps159
  go_wp2_with fail
  refine wp_region_lastL (S := fun w' => w'.cell? ⟨g, 0, none⟩ = some (.slice Ae n ce) ∧ w'.cell? ⟨gr, o, none⟩ = some (.int .i64 d) ∧ w'.cell? ⟨gr, o + 1, none⟩ = some (.int .i64 c)) _ (by simp) (by kernel_rfl) (by kernel_rfl) ⟨m0, r0, r1⟩ (fun hHeld => ?_)
  simp only [List.dropLast, List.getLast_cons_cons, List.getLast_singleton, List.length_cons, List.length_nil]
  refine wpAnyH_take (i := 0) (v := ?_) rfl (by kernel_rfl) (by kernel_rfl) (by kernel_rfl) (fun _ _ _ h => h) (Or.inl ⟨by rfl, ?_⟩) hHeld ?_
  rotate_left
  · (intro w0 hSw; (try dsimp only at hSw); go_simp <;> with_reducible rfl)
  simp only [List.getElem_toArray, List.getElem_cons_succ, List.getElem_cons_zero, Act.put, List.setIfInBounds_toArray, List.set_cons_zero, List.set_cons_succ]
  refine wpAnyH_take (i := 1) (v := ?_) rfl (by kernel_rfl) (by kernel_rfl) (by kernel_rfl) (fun _ _ _ h => h) (Or.inl ⟨by rfl, ?_⟩) hHeld ?_
  rotate_left
  · (intro w0 hSw; (try dsimp only at hSw); go_simp <;> with_reducible rfl)
  simp only [List.getElem_toArray, List.getElem_cons_succ, List.getElem_cons_zero, Act.put, List.setIfInBounds_toArray, List.set_cons_zero, List.set_cons_succ]
  refine wpAnyH_take (i := 2) (v := ?_) rfl (by kernel_rfl) (by kernel_rfl) (by kernel_rfl) (fun _ _ _ h => h) (Or.inl ⟨by rfl, ?_⟩) hHeld ?_
  rotate_left
  · (intro w0 hSw; (try dsimp only at hSw); go_simp <;> with_reducible rfl)
  simp only [List.getElem_toArray, List.getElem_cons_succ, List.getElem_cons_zero, Act.put, List.setIfInBounds_toArray, List.set_cons_zero, List.set_cons_succ]
  refine wpAnyH_take (i := 3) (v := ?_) rfl (by kernel_rfl) (by kernel_rfl) (by kernel_rfl) (fun _ _ _ h => h) (Or.inl ⟨by rfl, ?_⟩) hHeld ?_
  rotate_left
  · (intro w0 hSw; (try dsimp only at hSw); go_simp <;> with_reducible rfl)
  simp only [List.getElem_toArray, List.getElem_cons_succ, List.getElem_cons_zero, Act.put, List.setIfInBounds_toArray, List.set_cons_zero, List.set_cons_succ]
  refine wpAnyH_take (i := 4) (v := ?_) rfl (by kernel_rfl) (by kernel_rfl) (by kernel_rfl) (fun _ _ _ h => h) (Or.inl ⟨by rfl, ?_⟩) hHeld ?_
  rotate_left
  · (intro w0 hSw; (try dsimp only at hSw); go_simp <;> with_reducible rfl)
  simp only [List.getElem_toArray, List.getElem_cons_succ, List.getElem_cons_zero, Act.put, List.setIfInBounds_toArray, List.set_cons_zero, List.set_cons_succ]
  refine wpAnyH_take (i := 5) (v := ?_) rfl (by kernel_rfl) (by kernel_rfl) (by kernel_rfl) (fun _ _ _ h => h) (Or.inl ⟨by rfl, ?_⟩) hHeld ?_
  rotate_left
  · (intro w0 hSw; (try dsimp only at hSw); go_simp <;> with_reducible rfl)
  simp only [List.getElem_toArray, List.getElem_cons_succ, List.getElem_cons_zero, Act.put, List.setIfInBounds_toArray, List.set_cons_zero, List.set_cons_succ]
  refine wpAnyH_take (i := 6) (v := ?_) rfl (by kernel_rfl) (by kernel_rfl) (by kernel_rfl) (fun _ _ _ h => h) (Or.inl ⟨by rfl, ?_⟩) hHeld ?_
  rotate_left
  · (intro w0 hSw; (try dsimp only at hSw); go_simp <;> with_reducible rfl)
  simp only [List.getElem_toArray, List.getElem_cons_succ, List.getElem_cons_zero, Act.put, List.setIfInBounds_toArray, List.set_cons_zero, List.set_cons_succ]
  refine wpAnyH_take (i := 7) (v := ?_) rfl (by kernel_rfl) (by kernel_rfl) (by kernel_rfl) (fun _ _ _ h => h) (Or.inl ⟨by rfl, ?_⟩) hHeld ?_
  rotate_left
  · (intro w0 hSw; (try dsimp only at hSw); go_simp <;> with_reducible rfl)
  simp only [List.getElem_toArray, List.getElem_cons_succ, List.getElem_cons_zero, Act.put, List.setIfInBounds_toArray, List.set_cons_zero, List.set_cons_succ]
  refine wpAnyH_take (i := 8) (v := ?_) rfl (by kernel_rfl) (by kernel_rfl) (by kernel_rfl) (fun _ _ _ h => h) (Or.inl ⟨by rfl, ?_⟩) hHeld ?_
  rotate_left
  · (intro w0 hSw; (try dsimp only at hSw); go_simp <;> with_reducible rfl)
  simp only [List.getElem_toArray, List.getElem_cons_succ, List.getElem_cons_zero, Act.put, List.setIfInBounds_toArray, List.set_cons_zero, List.set_cons_succ]
  refine wpAnyH_take (i := 9) (v := ?_) rfl (by kernel_rfl) (by kernel_rfl) (by kernel_rfl) (fun _ _ _ h => h) (Or.inl ⟨by rfl, ?_⟩) hHeld ?_
  rotate_left
  · (intro w0 hSw; (try dsimp only at hSw); go_simp <;> with_reducible rfl)
  simp only [List.getElem_toArray, List.getElem_cons_succ, List.getElem_cons_zero, Act.put, List.setIfInBounds_toArray, List.set_cons_zero, List.set_cons_succ]
  refine wpAnyH_take (i := 10) (v := ?_) rfl (by kernel_rfl) (by kernel_rfl) (by kernel_rfl) (fun _ _ _ h => h) (Or.inl ⟨by rfl, ?_⟩) hHeld ?_
  rotate_left
  · (intro w0 hSw; (try dsimp only at hSw); go_simp <;> with_reducible rfl)
  simp only [List.getElem_toArray, List.getElem_cons_succ, List.getElem_cons_zero, Act.put, List.setIfInBounds_toArray, List.set_cons_zero, List.set_cons_succ]
  refine wpAnyH_take (i := 11) (v := ?_) rfl (by kernel_rfl) (by kernel_rfl) (by kernel_rfl) (fun _ _ _ h => h) (Or.inl ⟨by rfl, ?_⟩) hHeld ?_
  rotate_left
  · (intro w0 hSw; (try dsimp only at hSw); go_simp <;> with_reducible rfl)
  simp only [List.getElem_toArray, List.getElem_cons_succ, List.getElem_cons_zero, Act.put, List.setIfInBounds_toArray, List.set_cons_zero, List.set_cons_succ]
  refine wpAnyH_take (i := 12) (v := ?_) rfl (by kernel_rfl) (by kernel_rfl) (by kernel_rfl) (fun _ _ _ h => h) (Or.inl ⟨by rfl, ?_⟩) hHeld ?_
  rotate_left
  · (intro w0 hSw; (try dsimp only at hSw); go_simp <;> with_reducible rfl)
  simp only [List.getElem_toArray, List.getElem_cons_succ, List.getElem_cons_zero, Act.put, List.setIfInBounds_toArray, List.set_cons_zero, List.set_cons_succ]
  refine wpAnyH_take (i := 13) (v := ?_) rfl (by kernel_rfl) (by kernel_rfl) (by kernel_rfl) (fun _ _ _ h => h) (Or.inl ⟨by rfl, ?_⟩) hHeld ?_
  rotate_left
  · (intro w0 hSw; (try dsimp only at hSw); go_simp <;> with_reducible rfl)
  simp only [List.getElem_toArray, List.getElem_cons_succ, List.getElem_cons_zero, Act.put, List.setIfInBounds_toArray, List.set_cons_zero, List.set_cons_succ]
  refine wpAnyH_take (i := 14) (v := ?_) rfl (by kernel_rfl) (by kernel_rfl) (by kernel_rfl) (fun _ _ _ h => h) (Or.inl ⟨by rfl, ?_⟩) hHeld ?_
  rotate_left
  · (intro w0 hSw; (try dsimp only at hSw); go_simp <;> with_reducible rfl)
  simp only [List.getElem_toArray, List.getElem_cons_succ, List.getElem_cons_zero, Act.put, List.setIfInBounds_toArray, List.set_cons_zero, List.set_cons_succ]
  refine wpAnyH_take (i := 15) (v := ?_) rfl (by kernel_rfl) (by kernel_rfl) (by kernel_rfl) (fun _ _ _ h => h) (Or.inl ⟨by rfl, ?_⟩) hHeld ?_
  rotate_left
  · (intro w0 hSw; (try dsimp only at hSw); go_simp <;> with_reducible rfl)
  simp only [List.getElem_toArray, List.getElem_cons_succ, List.getElem_cons_zero, Act.put, List.setIfInBounds_toArray, List.set_cons_zero, List.set_cons_succ]
  refine wpAnyH_take (i := 16) (v := ?_) rfl (by kernel_rfl) (by kernel_rfl) (by kernel_rfl) (fun _ _ _ h => h) (Or.inl ⟨by rfl, ?_⟩) hHeld ?_
  rotate_left
  · (intro w0 hSw; (try dsimp only at hSw); go_simp <;> with_reducible rfl)
  simp only [List.getElem_toArray, List.getElem_cons_succ, List.getElem_cons_zero, Act.put, List.setIfInBounds_toArray, List.set_cons_zero, List.set_cons_succ]
  refine wpAnyH_take (i := 17) (v := ?_) rfl (by kernel_rfl) (by kernel_rfl) (by kernel_rfl) (fun _ _ _ h => h) (Or.inl ⟨by rfl, ?_⟩) hHeld ?_
  rotate_left
  · (intro w0 hSw; (try dsimp only at hSw); go_simp <;> with_reducible rfl)
  simp only [List.getElem_toArray, List.getElem_cons_succ, List.getElem_cons_zero, Act.put, List.setIfInBounds_toArray, List.set_cons_zero, List.set_cons_succ]
  refine wpAnyH_ready (rs := [18]) (by kernel_rfl) (by simp) ?_
  refine AllReadyH.cons rfl (fun K hK => ?_) AllReadyH.nil
  simp only [List.getElem_toArray, List.getElem_cons_succ, List.getElem_cons_zero]
  go_simp
  refine hK.out _ _ (by go_keep) (fun hHeld2 => ?_)
  clear hK K hHeld
  refine wpAnyH_ready (rs := [19]) (by kernel_rfl) (by simp) ?_
  refine AllReadyH.cons rfl (fun K hK => ?_) AllReadyH.nil
  simp only [List.getElem_toArray, List.getElem_cons_succ, List.getElem_cons_zero]
  refine step_appGb w.drew (by rfl) (.tmp 16) (.tmp 30) _ (by rfl) B 96 i0 _ 6 48 Try.underlying26 hi iz is ib rfl (by omega) (.slice Ae n ce) n (ints E) (by rfl) HH.out.e _ 1 1 [.int .i64 k, .int .i64 p, .int .i64 x, .int .i64 b, .int .i64 c, .int .i64 d] (by rfl) rfl (by simp [Value.oneCell']) (by unfold maxLen; omega) (by omega) hB ?_
  intro v2 w2 hown2 hfr2 hat2
  obtain ⟨A2, c2, rfl⟩ := own_form hown2
  have hob : ∀ b, (Value.slice Ae n ce).ownBlock = some b → tg b = 2 := HH.out.te
  have hgn : ¬ (Value.slice Ae n ce).ownBlock = some g := fun e => by have := hob _ e; have := HH.out.tb; omega
  have hon : ¬ (Value.slice Ae n ce).ownBlock = some gr := fun e => by have := (HH.out.e.lt _ e).1; omega
  have hlg := World.block_lt_of_cell? w _ m0
  have hlo := World.block_lt_of_cell? w _ r0
  have k2m := (hfr2.cells hlg hgn 0).trans m0
  have k2r0 := (hfr2.cells hlo hon o).trans r0
  have k2r1 := (hfr2.cells hlo hon (o + 1)).trans r1
  have k2f : w2.frozen? ⟨g, 0, none⟩ = false := (World.frozen?_of_block (w := w.drew) (a := ⟨g, 0, none⟩) (hfr2.block g hlg hgn)).trans f0
  refine hK.out _ _ ⟨k2m, k2r0, k2r1⟩ (fun hHeld3 => ?_)
  clear hK K hHeld2
  have hfree : HFree tg (.slice A2 (n + 1) c2) 2 := fun b hb => by
    rcases hat2 with h | h
    · exact .inr (hob b (h.symm.trans hb))
    · refine .inl (Decidable.byContradiction fun hne => ?_)
      have h1 := HH.out.lt b hne
      rw [hb] at h
      injection h with h
      have h2 : w.drew.heap.size = w.heap.size := rfl
      omega
  have hown3 : w2.ownsRow B 96 6 (.slice A2 (n + 1) c2) (n + 1) (ints (E ++ evL k p x b c d)) := by rw [ints_app]; exact hown2
  have HM := Lib.hid (HH.out.putE (w' := w2) (fun b h0 h2 => hfr2.block b (HH.out.lt b h0) fun e => h2 (hob b e)) hfr2.size hown3 hfree (o := 0) rfl)
  have HBL := Lib.hid (Below.setCell (p := ⟨g, 0, none⟩) (Below.trans ((Below.refl B w).drew) (hfr2.own (w := w.drew) HH.out.e hB)) HH.out.lo (.slice A2 (n + 1) c2))
  clear hob hgn hon hlg hlo m0 r0 r1 f0 hfree hfr2 hown2 hat2 hown3
  refine wpAnyH_take (i := 20) (v := ?_) rfl (by kernel_rfl) (by kernel_rfl) (by kernel_rfl) (fun _ _ _ h => h) (Or.inl ⟨by rfl, ?_⟩) hHeld3 ?_
  rotate_left
  · (intro w0 hSw; (try dsimp only at hSw); go_simp <;> with_reducible rfl)
  simp only [List.getElem_toArray, List.getElem_cons_succ, List.getElem_cons_zero, Act.put, List.setIfInBounds_toArray, List.set_cons_zero, List.set_cons_succ]
  refine wpAnyH_take (i := 21) (v := ?_) rfl (by kernel_rfl) (by kernel_rfl) (by kernel_rfl) (fun _ _ _ h => h) (Or.inl ⟨by rfl, ?_⟩) hHeld3 ?_
  rotate_left
  · (intro w0 hSw; (try dsimp only at hSw); go_simp <;> with_reducible rfl)
  simp only [List.getElem_toArray, List.getElem_cons_succ, List.getElem_cons_zero, Act.put, List.setIfInBounds_toArray, List.set_cons_zero, List.set_cons_succ]
  refine wpAnyH_done (by kernel_rfl) ?_ _
  refine LastPost.of ?_
  go_simp
  clear hHeld3 k2m k2r0 k2r1 k2f
  go_wp2_with fail
  go_end0
  exact ⟨rfl, ⟨_, _, _, _, _, HM.out⟩, HBL.out⟩
end
end Go.Proofs.Ytfncdogbpmiomaa

namespace Go.Proofs.Ytfncdogbpmiomaa
open Go.RowKit
set_option maxRecDepth 20000

theorem RowAt.bel {B : Nat} {w w' : World} {g o : Nat} {d c : Int} {A : Option Addr} {n q : Nat} (h : RowAt w g o d c A n q) (hb : Below B w w') (hg : g < B) : RowAt w' g o d c A n q := ⟨at_below hb hg h.c0, at_below hb hg h.c1, at_below hb hg h.c2⟩
/-- The columns of stitch i are L now. -/
def hupd (C : Nat → List Int) (i : Nat) (L : List Int) (j : Nat) : List Int := if j = i then L else C j
theorem hupd_same (C : Nat → List Int) (i : Nat) (L : List Int) : hupd C i L i = L := if_pos rfl
theorem hupd_upd (C : Nat → List Int) (i : Nat) (L M : List Int) : hupd (hupd C i L) i M = hupd C i M := by
  funext j
  unfold hupd
  by_cases h : j = i
  · rw [if_pos h, if_pos h]
  · rw [if_neg h, if_neg h, if_neg h]
theorem hupd_self (C : Nat → List Int) (i : Nat) : hupd C i (C i) = C := by
  funext j
  unfold hupd
  by_cases h : j = i
  · rw [if_pos h, h]
  · rw [if_neg h]
theorem befI_hupd (C : Nat → List Int) (i : Nat) (L : List Int) : befI (hupd C i L) i = befI C i := befI_congr fun j hj => if_neg (by omega)
theorem SmlC.hupd {C : Nat → List Int} {q : Nat} (h : SmlC C q) {i : Nat} {L : List Int} (hL : Sml L) : SmlC (hupd C i L) q := ⟨h.1, fun j hj => by
  unfold Go.Proofs.Ytfncdogbpmiomaa.hupd
  split
  · exact hL
  · exact h.2 j hj⟩
theorem Sml.kn {p bed c d : Int} {L : List Int} (h : Sml L) (t : Nat) : Sml (knS p bed c d L t).2 := ⟨by rw [(knS_length p bed c d L t).1]; exact h.1, knS_mem (by omega) h.2 t⟩
theorem hupd_set (C : Nat → List Int) (i : Nat) (X : List Int) (k : Nat) (x : Int) : (fun j => if j = i then (hupd C i X i).set k x else hupd C i X j) = hupd C i (X.set k x) := by
  funext j
  unfold hupd
  by_cases h : j = i
  · rw [if_pos h, if_pos h, if_pos rfl]
  · rw [if_neg h, if_neg h, if_neg h]
section
variable [Inhabited HKeepT] {B g q : Nat} {E : List Int} {C : Nat → List Int} {w : World}
set_option maxHeartbeats 4000000 in
theorem specKnit_any (gr o : Nat) (d c : Int) (A : Option Addr) (m qq : Nat) (i : Nat) (bed : Int) (L : List Int) (H : HkM 148 mkS B g q E C w) (hB : B ≤ w.heap.size) (HR : Hid (RowAt w gr o d c A m qq)) (hgr : gr < B) (hE : E.length ≤ 600000) (hi : i < q) (hC : SmlC C q) (HL : Hid (C i = L)) :
    Calls Try.prog 158 #[.pointer (some ⟨g, 0, none⟩), .pointer (some ⟨gr, o, none⟩), .int .i64 i, .int .i64 bed] w (HkP 148 mkS B g q (E ++ (knS (befI C i) bed c d L L.length).1) (hupd C i (List.replicate L.length 1)) w) := by
  have HC := Lib.hid hC
  have hq := hC.1
  have HSM := Lib.hid (show Sml L by rw [← HL.out]; exact hC.2 i hi)
  have hLn := HSM.out.1
  have HM0 := Lib.hid H
  have HALL := Lib.hid (knS_all (befI C i) bed c d L)
  obtain ⟨tg, ev, cl, n, U, H⟩ := H
  obtain ⟨gc, cap, rfl⟩ := H.form (by omega)
  obtain ⟨Au, cu, hU, hrd⟩ := H.read hi
  have m1 : w.cell? ⟨g, 1, none⟩ = some (.slice (some ⟨gc, 0, none⟩) q cap) := H.b.cell 1
  have m2 := H.cellAt hi
  rw [hU, HL.out] at m2
  clear H hU hrd hC
  go_enter Try.func158, Try.ntmps158
  go_wp2_with fail
  clear m1 m2
  go_loopw [9] (fun t wr => ∃ k : Nat, k ≤ L.length ∧ t = .int .i64 k ∧ Hid (HkM 148 mkS B g q (E ++ (knS (befI C i) bed c d L k).1) (hupd C i (knS (befI C i) bed c d L k).2) wr) ∧ Hid (Below B w wr)) (fun t _ => L.length - (intOf t).toNat)
  case atStart => exact ⟨0, Nat.zero_le _, rfl, Lib.hid (by simp only [knS]; rw [List.append_nil, ← HL.out, hupd_self]; exact HM0.out), Lib.hid (Below.refl _ _)⟩
  case round =>
    obtain ⟨k, hk, rfl, HM, HB⟩ := hrel
    by_cases hlt : k < L.length
    · have HRR := Lib.hid (HR.out.bel HB.out hgr)
      have r0 := HRR.out.c0
      have hsz := HB.out.size
      have hlen := knS_length (befI C i) bed c d L k
      obtain ⟨K, hK⟩ : ∃ K, K = knN d L.length k := ⟨_, rfl⟩
      have HSM2 := Lib.hid (HSM.out.kn (p := befI C i) (bed := bed) (c := c) (d := d) k)
      have HN1 := Lib.hid (show (knS (befI C i) bed c d L (k + 1)).1 = (knS (befI C i) bed c d L k).1 ++ evL 2 (befI C i + sumI ((knS (befI C i) bed c d L k).2.take K)) ((knS (befI C i) bed c d L k).2.getD K 0) bed c d by rw [hK]; rfl)
      have HN2 := Lib.hid (show (knS (befI C i) bed c d L (k + 1)).2 = (knS (befI C i) bed c d L k).2.set K 1 by rw [hK]; rfl)
      obtain ⟨X1, hX1⟩ : ∃ X, X = (knS (befI C i) bed c d L k).1 := ⟨_, rfl⟩
      obtain ⟨X2, hX2⟩ : ∃ X, X = (knS (befI C i) bed c d L k).2 := ⟨_, rfl⟩
      rw [← hX1, ← hX2] at HM hlen
      rw [← hX1, ← hX2] at HN1
      rw [← hX2] at HN2 HSM2
      clear hX1 hX2
      have hKl : K < L.length := by rw [hK]; unfold knN; split <;> omega
      have HK := Lib.hid hK
      clear hK
      have hbef := HC.out.bef (show i ≤ q by omega)
      have HBU := befI_hupd C i X2
      obtain ⟨P0, hP0⟩ : ∃ P, P = befI C i := ⟨_, rfl⟩
      rw [← hP0] at HBU hbef HN1 HN2
      have HP0 := Lib.hid hP0
      clear hP0
      obtain ⟨y, hy⟩ : ∃ y, y = X2.getD K 0 := ⟨_, rfl⟩
      have hyb := HSM2.out.get K
      have hSb := (HSM2.out.take K).sum
      obtain ⟨S, hS⟩ : ∃ S, S = sumI (X2.take K) := ⟨_, rfl⟩
      rw [← hy] at hyb
      rw [← hS] at hSb
      rw [← hS, ← hy] at HN1
      obtain ⟨tg, ev, cl, n, U, H⟩ := HM.out
      obtain ⟨gc, cap, rfl⟩ := H.form (by omega)
      have h0 : 0 < (hupd C i X2 i).length := by rw [hupd_same]; omega
      obtain ⟨gi, ci, hU, hci, hgi, hBi, htg, hcl, hfr⟩ := H.readO hi h0
      rw [hupd_same] at hU hci hcl
      have m1 : wr.cell? ⟨g, 1, none⟩ = some (.slice (some ⟨gc, 0, none⟩) q cap) := H.b.cell 1
      have m2 := H.cellAt hi
      rw [hU, hlen.1] at m2
      have m3 : wr.cell? ⟨gi, K, none⟩ = some (.int .i64 y) := by rw [hy]; exact hcl K (by omega)
      have hn := H.len
      have hn2 : n ≤ 1048576 := by
        simp only [List.length_append, hlen.2] at hn
        omega
      have hHS := Lib.hid H
      have hq1 : ∀ z, Calls Try.prog 105 #[.pointer (some ⟨g, 0, none⟩), .int .i64 i] (wr.drewN z) fun e w' => e = .returned (.int .i64 P0) ∧ w' = wr.drewN z := fun z => ((before_any i (hHS.out.drewN z) (by omega) (HC.out.hupd HSM2.out)).mono fun _ _ h => ⟨by rw [h.1, HBU], h.2.symm⟩)
      have hq2 : ∀ z, Calls Try.prog 156 #[.slice (some ⟨gi, 0, none⟩) K ci] (wr.drewN z) fun e w' => e = .returned (.int .i64 S) ∧ w' = wr.drewN z := fun z => ((l17Sum_any (some ⟨gi, 0, none⟩) K ci (X2.take K) (wr.drewN z) (by simp; omega) (fun _ => ⟨gi, 0, rfl, hgi, fun j hj => by
        have := hcl j (by omega)
        rw [Nat.zero_add]
        simp only [List.getD, List.getElem?_take, if_pos hj]
        exact this⟩) (HSM2.out.take K)).mono fun _ _ h => ⟨by rw [h.1, hS], h.2.symm⟩)
      have hci2 : K ≤ ci := by omega
      clear H hU hcl hfr htg h0 HBU hS hy hn hci
      have b1 : (0 : Int) ≤ (i : Int) := by omega
      have b2 : (i : Int) < (q : Int) := by omega
      have b3 : (0 : Int) ≤ (K : Int) := by omega
      have b4 : (K : Int) < (L.length : Int) := by omega
      have b5 : (K : Int) ≤ (ci : Int) := by omega
      by_cases hd : d = -1
      · subst hd
        have hKI : (L.length : Int) - 1 - (k : Int) = (K : Int) := by rw [HK.out, knN, if_pos rfl]; omega
        go_wp2_with fail
        go_quiet (first | (go_at_call 105; exact Calls.quiet_of_same (hq1 _)) | (go_at_call 156; exact Calls.quiet_of_same (hq2 _)))
        go_wp2_with fail
        have HR8 : Hid (RowAt (wr.drewN nq) gr o (-1) c A m qq) := Lib.hid ⟨HRR.out.c0, HRR.out.c1, HRR.out.c2⟩
        have hBz : B ≤ (wr.drewN nq).heap.size := Nat.le_trans hB hsz
        refine (specAdd_any gr o (-1) c A m qq 2 (P0 + S) y bed (hHS.out.drewN nq) hBz HR8 hgr hn2).mono ?_
        rintro e w3 ⟨rfl, HM3, hb3⟩
        obtain ⟨tg3, ev3, cl3, n3, U3, H3⟩ := HM3
        obtain ⟨gc3, cap3, rfl⟩ := H3.form (by omega)
        have h03 : 0 < (hupd C i X2 i).length := by rw [hupd_same]; omega
        obtain ⟨gi3, ci3, hU3, hci3, hgi3, hBi3, htg3, hcl3, hfr3⟩ := H3.readO hi h03
        have HSN := Lib.hid (H3.setN (k := K) hi hU3 (by rw [hupd_same]; omega) 1)
        rw [hupd_same] at hU3 hcl3
        have n1 : w3.cell? ⟨g, 1, none⟩ = some (.slice (some ⟨gc3, 0, none⟩) q cap3) := H3.b.cell 1
        have n2 := H3.cellAt hi
        rw [hU3, hlen.1] at n2
        have n4 := hcl3 K (by omega)
        have n5 := hfr3 K
        have HB3 := Lib.hid (Below.setCell (p := ⟨gi3, K, none⟩) (HB.out.trans (Below.trans (Below.drewN' (Below.refl B wr) nq) hb3)) hBi3 (.int .i64 1))
        obtain ⟨y3, hy3⟩ : ∃ y3, y3 = X2.getD K 0 := ⟨_, rfl⟩
        rw [← hy3] at n4
        clear hy3 H3 hU3 hci3 htg3 hcl3 hfr3 hb3 h03 m1 m2 m3 hq1 hq2 r0
        go_wp2_with fail
        go_roundw
        case rel => exact ⟨k + 1, by omega, by go_num, Lib.hid ⟨tg3, ev3, _, n3, U3, by rw [← HP0.out, HN1.out, HN2.out, ← hupd_set, ← List.append_assoc]; exact HSN.out⟩, HB3⟩
        case measure => simp [intOf] <;> omega
      · have hdb : (d == -1) = false := by simpa using hd
        have hKI : k = K := by rw [HK.out, knN, if_neg hd]
        subst hKI
        go_wp2_with fail
        go_quiet (first | (go_at_call 105; exact Calls.quiet_of_same (hq1 _)) | (go_at_call 156; exact Calls.quiet_of_same (hq2 _)))
        go_wp2_with fail
        have HR8 : Hid (RowAt (wr.drewN nq) gr o d c A m qq) := Lib.hid ⟨HRR.out.c0, HRR.out.c1, HRR.out.c2⟩
        have hBz : B ≤ (wr.drewN nq).heap.size := Nat.le_trans hB hsz
        refine (specAdd_any gr o d c A m qq 2 (P0 + S) y bed (hHS.out.drewN nq) hBz HR8 hgr hn2).mono ?_
        rintro e w3 ⟨rfl, HM3, hb3⟩
        obtain ⟨tg3, ev3, cl3, n3, U3, H3⟩ := HM3
        obtain ⟨gc3, cap3, rfl⟩ := H3.form (by omega)
        have h03 : 0 < (hupd C i X2 i).length := by rw [hupd_same]; omega
        obtain ⟨gi3, ci3, hU3, hci3, hgi3, hBi3, htg3, hcl3, hfr3⟩ := H3.readO hi h03
        have HSN := Lib.hid (H3.setN (k := k) hi hU3 (by rw [hupd_same]; omega) 1)
        rw [hupd_same] at hU3 hcl3
        have n1 : w3.cell? ⟨g, 1, none⟩ = some (.slice (some ⟨gc3, 0, none⟩) q cap3) := H3.b.cell 1
        have n2 := H3.cellAt hi
        rw [hU3, hlen.1] at n2
        have n4 := hcl3 k (by omega)
        have n5 := hfr3 k
        have HB3 := Lib.hid (Below.setCell (p := ⟨gi3, k, none⟩) (HB.out.trans (Below.trans (Below.drewN' (Below.refl B wr) nq) hb3)) hBi3 (.int .i64 1))
        obtain ⟨y3, hy3⟩ : ∃ y3, y3 = X2.getD k 0 := ⟨_, rfl⟩
        rw [← hy3] at n4
        clear hy3 H3 hU3 hci3 htg3 hcl3 hfr3 hb3 h03 m1 m2 m3 hq1 hq2 r0
        go_wp2_with fail
        go_roundw
        case rel => exact ⟨k + 1, by omega, by go_num, Lib.hid ⟨tg3, ev3, _, n3, U3, by rw [← HP0.out, HN1.out, HN2.out, ← hupd_set, ← List.append_assoc]; exact HSN.out⟩, HB3⟩
        case measure => simp [intOf] <;> omega
    · obtain rfl : L.length = k := by omega
      go_wp2
      go_end0
      exact ⟨rfl, by rw [← HALL.out]; exact HM.out, HB.out⟩
end
end Go.Proofs.Ytfncdogbpmiomaa

namespace Go.Proofs.Ytfncdogbpmiomaa
open Go.RowKit
set_option maxRecDepth 20000

theorem letL_app (s : Int) (l m : List Int) : letL s (l ++ m) = letL s l ++ letL s m := List.map_append
theorem letL_length (s : Int) (l : List Int) : (letL s l).length = l.length := List.length_map _
set_option maxHeartbeats 4000000 in
theorem l03Swap_any (p : Int) (a b : Nat) (s : Int) (w : World) (hp : 0 ≤ p ∧ p ≤ 1000000000) (ha : a ≤ 1000) (hb : b ≤ 1000) (hs : s = 1 ∨ s = -1) :
    Calls Try.prog 155 #[.int .i64 p, .int .i64 a, .int .i64 b, .int .i64 s] w (NewPC w (b * a) (b * a) (fun j => .int .i64 ((letL s (plE p a b)).getD j 0))) := by
  obtain ⟨i0, hi, iz, is, ib⟩ := info_parts info64
  have HS := Lib.hid hs
  clear hs
  go_enter Try.func155, Try.ntmps155
  go_wp2
  go_loopg [9, 10] b (fun q v i wr => ∃ t : Nat, t ≤ b ∧ q + t = b ∧ i = .int .i64 t ∧ wr.ownsRow w.heap.size 2 1 v (t * a) (ints (letL s (plE p a t))) ∧ Below w.heap.size w wr)
  case atStart => exact ⟨0, Nat.zero_le _, rfl, rfl, by rw [Nat.zero_mul]; exact World.ownsRow_made _ #[] 0 (Nat.le_refl _) (by unfold maxLen; omega) rfl, (Below.refl _ _).alloc (Nat.le_refl _) _⟩
  case round =>
    obtain ⟨t, ht, hq, rfl, hown, hbl⟩ := hrel
    have HB := Lib.hid hbl
    have HOWN := Lib.hid hown
    clear hbl hown
    by_cases hlt : t < b
    · have hta : t * a ≤ 1000000 := Nat.le_trans (Nat.mul_le_mul (show t ≤ 1000 by omega) ha) (by omega)
      have HTA := Lib.hid (show (t + 1) * a = t * a + a from Nat.succ_mul t a)
      have HE := Lib.hid (show letL s (plE p a (t + 1)) = letL s (plE p a t) ++ letL s (plK p t a) by simp only [plE, letL_app])
      obtain ⟨N, hN⟩ : ∃ N, N = t * a := ⟨_, rfl⟩
      rw [← hN] at hta HOWN HTA
      have HNN := Lib.hid hN
      clear hN
      go_wp2_with fail
      go_loopg [9, 11] a (fun q2 v i wi => ∃ (r : Nat) (xs : List Int), r ≤ a ∧ q2 = r ∧ i = .int .i64 ((r : Int) - 1) ∧ wi.ownsRow w.heap.size 2 1 v (N + (a - r)) (ints xs) ∧ Hid (xs ++ letL s (plK p t r) = letL s (plE p a (t + 1))) ∧ Below w.heap.size w wi)
      case atStart => exact ⟨a, letL s (plE p a t), Nat.le_refl _, rfl, by go_num, by rw [Nat.sub_self, Nat.add_zero]; exact HOWN.out, Lib.hid HE.out.symm, HB.out⟩
      case round =>
        obtain ⟨r, xs, hr, hq2, rfl, hown2, HX, hbl2⟩ := hrel
        have HB2 := Lib.hid hbl2
        have HOWN2 := Lib.hid hown2
        clear hown2 hbl2
        by_cases hr0 : 0 < r
        · obtain ⟨r', rfl⟩ : ∃ r', r = r' + 1 := ⟨r - 1, by omega⟩
          have e1 : ((r' + 1 : Nat) : Int) - 1 = (r' : Int) := by omega
          rw [e1]
          have hV : ∃ V, V = s * (p + t + r' + 1) ∧ -2000000000 ≤ V ∧ V ≤ 2000000000 := ⟨_, rfl, by rcases HS.out with h | h <;> rw [h] <;> omega, by rcases HS.out with h | h <;> rw [h] <;> omega⟩
          obtain ⟨V, hV, hV1, hV2⟩ := hV
          have s1 : IntKind.i64.wrap (s * (p + t + r' + 1)) = V := by rw [← hV]; exact IntWalk.i64_in _ (by omega)
          have s2 : wrap64 (s * (p + t + r' + 1)) = V := (IntWalk.i64_left _).symm.trans s1
          have HV := Lib.hid hV
          clear hV
          go_wp2_with (at_builtin; go_must (refine wpList_app _ rfl (.tmp 24) (.tmp 33) _ rfl w.heap.size 2 i0 _ 1 8 Try.underlying41 hi iz is ib rfl (by omega) u9 (N + (a - (r' + 1))) (ints xs) rfl HOWN2.out _ 1 1 _ rfl rfl (by simp [Value.oneCell']) (by unfold maxLen; omega) (by omega) HB2.out.size ?_); intro v' w' hown' hb'; have HOWN' := Lib.hid hown'; have HB' := Lib.hid (HB2.out.trans hb'); clear hown' hb')
          go_wp2
          go_roundg r'
          case measure => omega
          case rel => exact ⟨r', xs ++ [V], by omega, rfl, by go_num, by have := HOWN'.out; rw [ints_app, show N + (a - r') = N + (a - (r' + 1)) + 1 by omega]; exact this, Lib.hid (by rw [List.append_assoc, HV.out]; exact HX.out), HB'.out⟩
        · obtain rfl : r = 0 := by omega
          go_wp2
          go_roundg (b - (t + 1))
          case measure => omega
          case rel => exact ⟨t + 1, by omega, by omega, by go_num, by have h1 := HX.out; simp only [plK, letL, List.map_nil, List.append_nil] at h1; have h2 := HOWN2.out; rw [h1] at h2; rw [HTA.out]; simpa [letL] using h2, HB2.out⟩
    · obtain rfl : b = t := by omega
      obtain ⟨A4, c4, rfl, hc4, hnew⟩ := New.of_own_c (w := w) HB.out HOWN.out
      have HN := Lib.hid hnew
      clear hnew
      go_wp2
      go_ret
      refine ⟨A4, c4, rfl, hc4, ?_⟩
      have := HN.out
      rw [Nat.mul_one] at this
      exact this.congr fun j hj => by rw [← ints_get (letL s (plE p a b)) (b * a) (by rw [letL_length, plE_length])]; simp [List.getD, hj]
end Go.Proofs.Ytfncdogbpmiomaa

namespace Go.Proofs.Ytfncdogbpmiomaa
open Go.RowKit
set_option maxRecDepth 20000

/-- n numbers from p on. -/
def cntL (p : Int) : Nat → List Int
  | 0 => []
  | k + 1 => cntL p k ++ [p + k]
theorem cntL_length (p : Int) (n : Nat) : (cntL p n).length = n := by
  induction n with
  | zero => rfl
  | succ n ih => simp [cntL, ih]
theorem cntL_get (p : Int) {n j : Nat} (h : j < n) : (cntL p n).getD j 0 = p + j := by
  induction n with
  | zero => omega
  | succ n ih =>
    simp only [cntL, List.getD]
    by_cases hj : j < n
    · rw [List.getElem?_append_left (by rw [cntL_length]; exact hj)]
      exact ih hj
    · obtain rfl : j = n := by omega
      rw [List.getElem?_append_right (by rw [cntL_length]; omega), cntL_length]
      simp
set_option maxHeartbeats 1000000 in
theorem l20Count_any (p : Int) (n : Nat) (w : World) (hp : -1000000 ≤ p ∧ p ≤ 1000000) (hn : n ≤ 1000) :
    Calls Try.prog 153 #[.int .i64 p, .int .i64 n] w (NewPC w n n (fun j => .int .i64 (p + j))) := by
  obtain ⟨i0, hi, iz, is, ib⟩ := info_parts info64
  go_enter Try.func153, Try.ntmps153
  go_wp2
  go_loopg [5, 6] n (fun q v i wr => ∃ t : Nat, t ≤ n ∧ q + t = n ∧ i = .int .i64 t ∧ wr.ownsRow w.heap.size 2 1 v t (ints (cntL p t)) ∧ Below w.heap.size w wr)
  case atStart => exact ⟨0, Nat.zero_le _, rfl, rfl, World.ownsRow_made _ #[] 0 (Nat.le_refl _) (by unfold maxLen; omega) rfl, (Below.refl _ _).alloc (Nat.le_refl _) _⟩
  case round =>
    obtain ⟨t, ht, hq, rfl, hown, hbl⟩ := hrel
    have HB := Lib.hid hbl
    have HOWN := Lib.hid hown
    clear hbl hown
    by_cases hlt : t < n
    · have HE := Lib.hid (show cntL p (t + 1) = cntL p t ++ [p + t] from rfl)
      go_wp2_with (at_builtin; go_must (refine wpList_app _ rfl (.tmp 13) (.tmp 17) _ rfl w.heap.size 2 i0 _ 1 8 Try.underlying41 hi iz is ib rfl (by omega) u5 t (ints (cntL p t)) rfl HOWN.out _ 1 1 _ rfl rfl (by simp [Value.oneCell']) (by unfold maxLen; omega) (by omega) HB.out.size ?_); intro v' w' hown' hb'; have HOWN' := Lib.hid hown'; have HB' := Lib.hid (HB.out.trans hb'); clear hown' hb')
      go_wp2
      go_roundg (n - (t + 1))
      case measure => omega
      case rel => exact ⟨t + 1, by omega, by omega, by go_num, by have := HOWN'.out; rw [HE.out, ints_app]; exact this, HB'.out⟩
    · obtain rfl : n = t := by omega
      obtain ⟨A4, c4, rfl, hc4, hnew⟩ := New.of_own_c (w := w) HB.out HOWN.out
      have HN := Lib.hid hnew
      clear hnew
      go_wp2
      go_ret
      refine ⟨A4, c4, rfl, hc4, ?_⟩
      have := HN.out
      rw [Nat.mul_one] at this
      exact this.congr fun j hj => by rw [← ints_get (cntL p n) n (cntL_length p n)]; simp only [List.getD, List.getElem?_map, List.getElem?_range hj, Option.map_some, Option.getD_some]; exact i64c (cntL_get p hj)
/-- The order of a row as a list. -/
def ordL (d : Int) (m : Nat) : Nat → List Int
  | 0 => []
  | t + 1 => ordL d m t ++ [(ordN d m t : Int)]
theorem ordL_length (d : Int) (m n : Nat) : (ordL d m n).length = n := by
  induction n with
  | zero => rfl
  | succ n ih => simp [ordL, ih]
theorem ordL_get (d : Int) (m : Nat) {n j : Nat} (h : j < n) : (ordL d m n).getD j 0 = ordN d m j := by
  induction n with
  | zero => omega
  | succ n ih =>
    simp only [ordL, List.getD]
    by_cases hj : j < n
    · rw [List.getElem?_append_left (by rw [ordL_length]; exact hj)]
      exact ih hj
    · obtain rfl : j = n := by omega
      rw [List.getElem?_append_right (by rw [ordL_length]; omega), ordL_length]
      simp
set_option maxHeartbeats 2000000 in
theorem l17Order_any (gr o : Nat) (d c : Int) (A : Option Addr) (n qq : Nat) (w : World) (HR : Hid (RowAt w gr o d c A n qq)) (hd : dirB d = true) (hn : n ≤ 1000) :
    Calls Try.prog 103 #[.pointer (some ⟨gr, o, none⟩)] w (NewPC w n n (fun j => .int .i64 (ordN d n j))) := by
  obtain ⟨i0, hi, iz, is, ib⟩ := info_parts info64
  have r2 := HR.out.c2
  have hgw := World.block_lt_of_cell? w _ HR.out.c0
  simp only at hgw
  have HD := Lib.hid (show d = 1 ∨ d = -1 by simpa [dirB] using hd)
  clear hd
  go_enter Try.func103, Try.ntmps103
  go_wp2
  clear r2
  go_loopg [3, 5] n (fun q v i wr => ∃ t : Nat, t ≤ n ∧ q + t = n ∧ i = .int .i64 t ∧ wr.ownsRow w.heap.size 2 1 v t (ints (ordL d n t)) ∧ Below w.heap.size w wr)
  case atStart => exact ⟨0, Nat.zero_le _, rfl, rfl, World.ownsRow_made _ #[] 0 (Nat.le_refl _) (by unfold maxLen; omega) rfl, (Below.refl _ _).alloc (Nat.le_refl _) _⟩
  case round =>
    obtain ⟨t, ht, hq, rfl, hown, hbl⟩ := hrel
    have HB := Lib.hid hbl
    have HOWN := Lib.hid hown
    clear hbl hown
    by_cases hlt : t < n
    · have HE := Lib.hid (show ordL d n (t + 1) = ordL d n t ++ [(ordN d n t : Int)] from rfl)
      have r0 := at_below HB.out hgw HR.out.c0
      rcases HD.out with rfl | rfl
      · have HV := Lib.hid (show (ordN 1 n t : Int) = t by simp [ordN])
        go_wp2_with (at_builtin; go_must (refine wpList_app _ rfl (.tmp 22) (.tmp 24) _ rfl w.heap.size 2 i0 _ 1 8 Try.underlying41 hi iz is ib rfl (by omega) u3 t (ints (ordL 1 n t)) rfl HOWN.out _ 1 1 _ rfl rfl (by simp [Value.oneCell']) (by unfold maxLen; omega) (by omega) HB.out.size ?_); intro v' w' hown' hb'; have HOWN' := Lib.hid hown'; have HB' := Lib.hid (HB.out.trans hb'); clear hown' hb')
        go_wp2
        go_roundg (n - (t + 1))
        case measure => omega
        case rel => exact ⟨t + 1, by omega, by omega, by go_num, by have := HOWN'.out; rw [HE.out, HV.out, ints_app]; exact this, HB'.out⟩
      · have HV := Lib.hid (show (ordN (-1) n t : Int) = (n : Int) - 1 - t by simp [ordN]; omega)
        go_wp2_with (at_builtin; go_must (refine wpList_app _ rfl (.tmp 26) (.tmp 31) _ rfl w.heap.size 2 i0 _ 1 8 Try.underlying41 hi iz is ib rfl (by omega) u3 t (ints (ordL (-1) n t)) rfl HOWN.out _ 1 1 _ rfl rfl (by simp [Value.oneCell']) (by unfold maxLen; omega) (by omega) HB.out.size ?_); intro v' w' hown' hb'; have HOWN' := Lib.hid hown'; have HB' := Lib.hid (HB.out.trans hb'); clear hown' hb')
        go_wp2
        go_roundg (n - (t + 1))
        case measure => omega
        case rel => exact ⟨t + 1, by omega, by omega, by go_num, by have := HOWN'.out; rw [HE.out, HV.out, ints_app]; exact this, HB'.out⟩
    · obtain rfl : n = t := by omega
      obtain ⟨A4, c4, rfl, hc4, hnew⟩ := New.of_own_c (w := w) HB.out HOWN.out
      have HN := Lib.hid hnew
      clear hnew
      go_wp2
      go_ret
      refine ⟨A4, c4, rfl, hc4, ?_⟩
      have := HN.out
      rw [Nat.mul_one] at this
      exact this.congr fun j hj => by rw [← ints_get (ordL d n n) n (ordL_length d n n)]; simp only [List.getD, List.getElem?_map, List.getElem?_range hj, Option.map_some, Option.getD_some]; exact i64c (ordL_get d n hj)
end Go.Proofs.Ytfncdogbpmiomaa

namespace Go.Proofs.Ytfncdogbpmiomaa
open Go.RowKit
set_option maxRecDepth 20000

section
variable [Inhabited HKeepT] {B g q : Nat} {E : List Int} {C : Nat → List Int} {w : World}
set_option maxHeartbeats 4000000 in
theorem stitchKnit_any (gr o : Nat) (d c : Int) (A : Option Addr) (m qq : Nat) (z : Nat → Int) (i : Nat) (L : List Int) (H : HkM 148 mkS B g q E C w) (hB : B ≤ w.heap.size) (HR : Hid (RowAt w gr o d c A m qq)) (hz : Rd w A m (fun j => .int .i64 (z j))) (hgr : gr < B) (hE : E.length ≤ 600000) (hi : i < q) (him : i < m) (hC : SmlC C q) (HL : Hid (C i = L)) (hk : 1 ≤ z i ∧ z i ≤ 11) (h3 : z i ≠ 3) (h4 : z i ≠ 4) (h5 : z i ≠ 5) (h6 : z i ≠ 6) (h7 : z i ≠ 7) :
    Calls Try.prog 104 #[.pointer (some ⟨g, 0, none⟩), .pointer (some ⟨gr, o, none⟩), .int .i64 i] w (HkP 148 mkS B g q (E ++ stE (befI C i) c d (z i) L) (hupd C i (finL (z i) L)) w) := by
  have HE := Lib.hid (show stE (befI C i) c d (z i) L = (knS (befI C i) (if z i = 2 then 2 else 1) c d L L.length).1 by unfold stE; rw [if_neg h3, if_neg h6, if_neg h7, if_neg (by omega)])
  have HF := Lib.hid (show finL (z i) L = List.replicate L.length 1 by unfold finL; rw [if_neg (by omega), if_neg h6, if_neg h7])
  have HK : ∀ bed, Hid (Calls Try.prog 158 #[.pointer (some ⟨g, 0, none⟩), .pointer (some ⟨gr, o, none⟩), .int .i64 i, .int .i64 bed] w (HkP 148 mkS B g q (E ++ (knS (befI C i) bed c d L L.length).1) (hupd C i (List.replicate L.length 1)) w)) := fun bed => Lib.hid (specKnit_any gr o d c A m qq i bed L H hB HR hgr hE hi hC HL)
  have HK1 := HK 1
  have HK2 := HK 2
  obtain ⟨gz, oz, rfl, hgz, hrz⟩ := hz (by omega)
  have c2 := HR.out.c2
  have cz := hrz i him
  obtain ⟨y, hy⟩ : ∃ y, y = z i := ⟨_, rfl⟩
  simp only [← hy] at cz hk h3 h4 h5 h6 h7 HE HF ⊢
  have b1 : (0 : Int) ≤ (i : Int) := by omega
  have b2 : (i : Int) < (m : Int) := by omega
  clear hrz hy H HK hC hE
  by_cases h2 : y = 2
  · subst h2
    go_enter Try.func104, Try.ntmps104
    go_wp2_with fail
    refine HK2.out.mono ?_
    rintro e w1 ⟨rfl, hm, hb⟩
    go_wp2_with fail
    go_end0
    exact ⟨rfl, by rw [HE.out, HF.out]; exact hm, hb⟩
  · have hb2 : (y == 2) = false := by simpa using h2
    have hb3 : (y == 3) = false := by simpa using h3
    have hb4 : (y == 4) = false := by simpa using h4
    have hb5 : (y == 5) = false := by simpa using h5
    have hb6 : (y == 6) = false := by simpa using h6
    have hb7 : (y == 7) = false := by simpa using h7
    go_enter Try.func104, Try.ntmps104
    go_wp2_with fail
    refine HK1.out.mono ?_
    rintro e w1 ⟨rfl, hm, hb⟩
    go_wp2_with fail
    go_end0
    exact ⟨rfl, by rw [HE.out, HF.out, if_neg h2]; exact hm, hb⟩
set_option maxHeartbeats 4000000 in
theorem stitchSlip_any (gr o : Nat) (d c : Int) (A : Option Addr) (m qq : Nat) (z : Nat → Int) (i : Nat) (L : List Int) (H : HkM 148 mkS B g q E C w) (HR : Hid (RowAt w gr o d c A m qq)) (hz : Rd w A m (fun j => .int .i64 (z j))) (him : i < m) (HL : Hid (C i = L)) (h7 : z i = 7) :
    Calls Try.prog 104 #[.pointer (some ⟨g, 0, none⟩), .pointer (some ⟨gr, o, none⟩), .int .i64 i] w (HkP 148 mkS B g q (E ++ stE (befI C i) c d (z i) L) (hupd C i (finL (z i) L)) w) := by
  have HM := Lib.hid (show HkM 148 mkS B g q (E ++ stE (befI C i) c d (z i) L) (hupd C i (finL (z i) L)) w by
    have e1 : stE (befI C i) c d (z i) L = [] := by rw [h7]; rfl
    have e2 : finL (z i) L = L := by rw [h7]; rfl
    rw [e1, e2, List.append_nil, ← HL.out, hupd_self]
    exact H)
  obtain ⟨gz, oz, rfl, hgz, hrz⟩ := hz (by omega)
  have c2 := HR.out.c2
  have cz := hrz i him
  simp only [h7] at cz
  have b1 : (0 : Int) ≤ (i : Int) := by omega
  have b2 : (i : Int) < (m : Int) := by omega
  clear hrz H h7
  go_enter Try.func104, Try.ntmps104
  go_wp2_with fail
  go_end0
  exact ⟨rfl, HM.out, Below.refl _ _⟩
set_option maxHeartbeats 4000000 in
theorem stitchOver_any (gr o : Nat) (d c : Int) (A : Option Addr) (m qq : Nat) (z : Nat → Int) (i : Nat) (L : List Int) (H : HkM 148 mkS B g q E C w) (hB : B ≤ w.heap.size) (HR : Hid (RowAt w gr o d c A m qq)) (hz : Rd w A m (fun j => .int .i64 (z j))) (hgr : gr < B) (hE : E.length ≤ 600000) (hi : i < q) (him : i < m) (hC : SmlC C q) (h3 : z i = 3) :
    Calls Try.prog 104 #[.pointer (some ⟨g, 0, none⟩), .pointer (some ⟨gr, o, none⟩), .int .i64 i] w (HkP 148 mkS B g q (E ++ stE (befI C i) c d (z i) L) (hupd C i (finL (z i) L)) w) := by
  have HE := Lib.hid (show stE (befI C i) c d (z i) L = evL 3 (befI C i) 0 1 c d by rw [h3]; rfl)
  have HF := Lib.hid (show finL (z i) L = [1] by rw [h3]; rfl)
  obtain ⟨gz, oz, rfl, hgz, hrz⟩ := hz (by omega)
  have c2 := HR.out.c2
  have cz := hrz i him
  simp only [h3] at cz
  have b1 : (0 : Int) ≤ (i : Int) := by omega
  have b2 : (i : Int) < (m : Int) := by omega
  have hbef := hC.bef (show i ≤ q by omega)
  have HC := Lib.hid hC
  obtain ⟨P0, hP0⟩ : ∃ P, P = befI C i := ⟨_, rfl⟩
  rw [← hP0] at hbef HE
  have HP0 := Lib.hid hP0
  obtain ⟨tg, ev, cl, n, U, H⟩ := H
  have hn := H.len
  have hn2 : n ≤ 1048576 := by omega
  have HH := Lib.hid H
  clear hrz H h3 hP0 hC hn
  go_enter Try.func104, Try.ntmps104
  go_wp2_with fail
  refine (before_any i HH.out (by omega) HC.out).mono ?_
  rintro e w' ⟨rfl, rfl⟩
  rw [← HP0.out]
  go_wp2_with fail
  refine (specAdd_any gr o d c _ m qq 3 P0 0 1 HH.out hB HR hgr hn2).mono ?_
  rintro e w3 ⟨rfl, HM3, hb3⟩
  obtain ⟨tg3, ev3, cl3, n3, U3, H3⟩ := HM3
  obtain ⟨gc3, cap3, rfl⟩ := H3.form (by omega)
  have n1 : w3.cell? ⟨g, 1, none⟩ = some (.slice (some ⟨gc3, 0, none⟩) q cap3) := H3.b.cell 1
  have n2 := H3.cellAt hi
  have n5 := H3.cFrozen i
  have hB3 : B ≤ w3.heap.size := Nat.le_trans hB hb3.size
  have h4 := H3.below ((Below.refl w3.heap.size w3).alloc (Nat.le_refl _) (.cells #[.int .i64 1] 2))
  have hlit := World.ownsRow_lit (base := B) (e := 2) (size := 1) w3 #[.int .i64 1] 1 hB3 (by unfold maxLen; omega) rfl
  have HSC := Lib.hid (h4.setC hi (u := .slice (some ⟨w3.heap.size, 0, none⟩) 1 1) (L := [1]) hlit (fun b hb => by
    injection hb with hb
    refine Decidable.byContradiction fun hne => ?_
    have := H3.lt b hne
    simp only at hb
    omega))
  have hgc : B ≤ gc3 := (H3.c.lt gc3 rfl).1
  have HB3 := Lib.hid (Below.setCell (p := ⟨gc3, i, none⟩) (hb3.alloc hB3 (.cells #[.int .i64 1] 2)) hgc (.slice (some ⟨w3.heap.size, 0, none⟩) 1 1))
  have hlt3 : gc3 < w3.heap.size := (H3.c.lt gc3 rfl).2
  have hltg : g < w3.heap.size := H3.b.lt
  rw [World.setCell_alloc_past _ _ _ _ hlt3] at HSC HB3
  clear h4 hlit H3 hb3 hgc hgz cz c2
  go_wp2_with fail
  go_end0
  exact ⟨rfl, ⟨_, _, _, _, _, by rw [← HP0.out, HE.out, HF.out]; exact HSC.out⟩, HB3.out⟩
end
end Go.Proofs.Ytfncdogbpmiomaa

namespace Go.Proofs.Ytfncdogbpmiomaa
open Go.RowKit
set_option maxRecDepth 20000

theorem knS_one (p bed c d x : Int) : (knS p bed c d [x] 1).1 = evL 2 p x bed c d := by
  have h : knN d 1 0 = 0 := by unfold knN; split <;> simp
  simp [knS, h, sumI]
theorem HkS.drew [Inhabited HKeepT] {T : TypeId} {mk : Value → Value → Array Value} {B g : Nat} {tg : Nat → Nat} {ev cl : Value} {n q : Nat} {E : List Int} {U : Nat → Value} {C : Nat → List Int} {w : World} (h : HkS T mk B g tg ev cl n q E U C w) : HkS T mk B g tg ev cl n q E U C w.drew := h.same (fun _ _ => rfl) (Nat.le_refl _)
section
variable [Inhabited HKeepT] {B g q : Nat} {E : List Int} {C : Nat → List Int} {w : World}
set_option maxHeartbeats 4000000 in
theorem stitchTwo_any (gr o : Nat) (d c : Int) (A : Option Addr) (m qq : Nat) (z : Nat → Int) (i : Nat) (L : List Int) (H : HkM 148 mkS B g q E C w) (hB : B ≤ w.heap.size) (HR : Hid (RowAt w gr o d c A m qq)) (hz : Rd w A m (fun j => .int .i64 (z j))) (hgr : gr < B) (hE : E.length ≤ 600000) (hi : i < q) (him : i < m) (hC : SmlC C q) (HL : Hid (C i = L)) (hs : sumI L ≤ 1000) (h45 : z i = 4 ∨ z i = 5) :
    Calls Try.prog 104 #[.pointer (some ⟨g, 0, none⟩), .pointer (some ⟨gr, o, none⟩), .int .i64 i] w (HkP 148 mkS B g q (E ++ stE (befI C i) c d (z i) L) (hupd C i (finL (z i) L)) w) := by
  have HE := Lib.hid (show stE (befI C i) c d (z i) L = evL 2 (befI C i) (sumI L) 1 c d by unfold stE; rw [if_neg (by omega), if_neg (by omega), if_neg (by omega), if_pos h45])
  have HF := Lib.hid (show finL (z i) L = [1] by unfold finL; rw [if_pos (by omega)])
  obtain ⟨gz, oz, rfl, hgz, hrz⟩ := hz (by omega)
  have c2 := HR.out.c2
  have cz := hrz i him
  obtain ⟨y, hy⟩ : ∃ y, y = z i := ⟨_, rfl⟩
  simp only [← hy] at cz h45 HE HF ⊢
  have b1 : (0 : Int) ≤ (i : Int) := by omega
  have b2 : (i : Int) < (m : Int) := by omega
  have HC := Lib.hid hC
  have HSM := Lib.hid (show Sml L by rw [← HL.out]; exact hC.2 i hi)
  have hs0 := HSM.out.sum.1
  obtain ⟨tg, ev, cl, n, U, H⟩ := H
  obtain ⟨gc, cap, rfl⟩ := H.form (by omega)
  obtain ⟨Au, cu, hU, hrd⟩ := H.read hi
  have m1 : w.cell? ⟨g, 1, none⟩ = some (.slice (some ⟨gc, 0, none⟩) q cap) := H.b.cell 1
  have m2 := H.cellAt hi
  have m5 := H.cFrozen i
  rw [hU, HL.out] at m2
  rw [HL.out] at hrd
  have HRD := Lib.hid hrd
  have hlt : gc < w.heap.size := (H.c.lt gc rfl).2
  have hgc : B ≤ gc := (H.c.lt gc rfl).1
  have h4 := H.below ((Below.refl w.heap.size w).alloc (Nat.le_refl _) (.cells #[.int .i64 (sumI L)] 2))
  have hlit := World.ownsRow_lit (base := B) (e := 2) (size := 1) w #[.int .i64 (sumI L)] 1 hB (by unfold maxLen; omega) rfl
  have HSC := Lib.hid (h4.setC hi (u := .slice (some ⟨w.heap.size, 0, none⟩) 1 1) (L := [sumI L]) hlit (fun b hb => by
    injection hb with hb
    refine Decidable.byContradiction fun hne => ?_
    have h9 := H.lt b hne
    simp only at hb
    omega))
  have HBB := Lib.hid (Below.setCell (p := ⟨gc, i, none⟩) ((Below.refl B w).alloc hB (.cells #[.int .i64 (sumI L)] 2)) hgc (.slice (some ⟨w.heap.size, 0, none⟩) 1 1))
  rw [World.setCell_alloc_past _ _ _ _ hlt] at HSC HBB
  have HBD := Lib.hid HBB.out.drew
  have HSD := Lib.hid HSC.out.drew
  clear hrz hy h4 hlit H hU hrd hC hgc
  have HMM := Lib.hid (show HkM 148 mkS B g q E (hupd C i [sumI L]) _ from ⟨_, _, _, _, _, HSD.out⟩)
  have hBW := Nat.le_trans hB HBD.out.size
  have HKN := Lib.hid (specKnit_any gr o d c (some ⟨gz, oz, none⟩) m qq i 1 [sumI L] HMM.out hBW (Lib.hid (HR.out.bel HBD.out hgr)) hgr hE hi (HC.out.hupd ⟨by simp, fun x hx => by rw [List.mem_singleton.1 hx]; omega⟩) (Lib.hid (hupd_same _ _ _)))
  clear hBW
  have hyy : y = 4 ∨ y = 5 := h45
  clear h45
  rcases hyy with rfl | rfl
  all_goals
    go_enter Try.func104, Try.ntmps104
    go_wp2_with fail
    refine wp_region_lastL (S := fun w' => w'.cell? ⟨g, 1, none⟩ = some (.slice (some ⟨gc, 0, none⟩) q cap) ∧ w'.cell? ⟨gc, i, none⟩ = some (.slice Au L.length cu)) _ (by simp) (by kernel_rfl) (by kernel_rfl) ⟨m1, m2⟩ (fun hHeld => ?_)
    simp only [List.dropLast, List.getLast_cons_cons, List.getLast_singleton, List.length_cons, List.length_nil]
    refine wpAnyH_take (i := 0) (v := ?_) rfl (by kernel_rfl) (by kernel_rfl) (by kernel_rfl) (fun _ _ _ h => h) (Or.inl ⟨by rfl, ?_⟩) hHeld ?_
    rotate_left
    · (intro w0 hSw; (try dsimp only at hSw); go_simp <;> with_reducible rfl)
    simp only [List.getElem_toArray, List.getElem_cons_succ, List.getElem_cons_zero, Act.put, List.setIfInBounds_toArray, List.set_cons_zero, List.set_cons_succ]
    refine wpAnyH_take (i := 1) (v := ?_) rfl (by kernel_rfl) (by kernel_rfl) (by kernel_rfl) (fun _ _ _ h => h) (Or.inl ⟨by rfl, ?_⟩) hHeld ?_
    rotate_left
    · (intro w0 hSw; (try dsimp only at hSw); go_simp <;> with_reducible rfl)
    simp only [List.getElem_toArray, List.getElem_cons_succ, List.getElem_cons_zero, Act.put, List.setIfInBounds_toArray, List.set_cons_zero, List.set_cons_succ]
    refine wpAnyH_take (i := 2) (v := ?_) rfl (by kernel_rfl) (by kernel_rfl) (by kernel_rfl) (fun _ _ _ h => h) (Or.inl ⟨by rfl, ?_⟩) hHeld ?_
    rotate_left
    · (intro w0 hSw; (try dsimp only at hSw); go_simp <;> with_reducible rfl)
    simp only [List.getElem_toArray, List.getElem_cons_succ, List.getElem_cons_zero, Act.put, List.setIfInBounds_toArray, List.set_cons_zero, List.set_cons_succ]
    refine wpAnyH_take (i := 3) (v := ?_) rfl (by kernel_rfl) (by kernel_rfl) (by kernel_rfl) (fun _ _ _ h => h) (Or.inl ⟨by rfl, ?_⟩) hHeld ?_
    rotate_left
    · (intro w0 hSw; (try dsimp only at hSw); go_simp <;> with_reducible rfl)
    simp only [List.getElem_toArray, List.getElem_cons_succ, List.getElem_cons_zero, Act.put, List.setIfInBounds_toArray, List.set_cons_zero, List.set_cons_succ]
    refine wpAnyH_take (i := 4) (v := ?_) rfl (by kernel_rfl) (by kernel_rfl) (by kernel_rfl) (fun _ _ _ h => h) (Or.inl ⟨by rfl, ?_⟩) hHeld ?_
    rotate_left
    · (intro w0 hSw; (try dsimp only at hSw); go_simp <;> with_reducible rfl)
    simp only [List.getElem_toArray, List.getElem_cons_succ, List.getElem_cons_zero, Act.put, List.setIfInBounds_toArray, List.set_cons_zero, List.set_cons_succ]
    refine wpAnyH_take (i := 5) (v := ?_) rfl (by kernel_rfl) (by kernel_rfl) (by kernel_rfl) (fun _ _ _ h => h) (Or.inl ⟨by rfl, ?_⟩) hHeld ?_
    rotate_left
    · (intro w0 hSw; (try dsimp only at hSw); go_simp <;> with_reducible rfl)
    simp only [List.getElem_toArray, List.getElem_cons_succ, List.getElem_cons_zero, Act.put, List.setIfInBounds_toArray, List.set_cons_zero, List.set_cons_succ]
    refine wpAnyH_take (i := 6) (v := ?_) rfl (by kernel_rfl) (by kernel_rfl) (by kernel_rfl) (fun _ _ _ h => h) (Or.inl ⟨by rfl, ?_⟩) hHeld ?_
    rotate_left
    · (intro w0 hSw; (try dsimp only at hSw); go_simp <;> with_reducible rfl)
    simp only [List.getElem_toArray, List.getElem_cons_succ, List.getElem_cons_zero, Act.put, List.setIfInBounds_toArray, List.set_cons_zero, List.set_cons_succ]
    refine wpAnyH_take (i := 7) (v := ?_) rfl (by kernel_rfl) (by kernel_rfl) (by kernel_rfl) (fun _ _ _ h => h) (Or.inl ⟨by rfl, ?_⟩) hHeld ?_
    rotate_left
    · (intro w0 hSw; (try dsimp only at hSw); go_simp <;> with_reducible rfl)
    simp only [List.getElem_toArray, List.getElem_cons_succ, List.getElem_cons_zero, Act.put, List.setIfInBounds_toArray, List.set_cons_zero, List.set_cons_succ]
    refine wpAnyH_take (i := 8) (v := ?_) rfl (by kernel_rfl) (by kernel_rfl) (by kernel_rfl) (fun _ _ _ h => h) (Or.inl ⟨by rfl, ?_⟩) hHeld ?_
    rotate_left
    · (intro w0 hSw; (try dsimp only at hSw); go_simp <;> with_reducible rfl)
    simp only [List.getElem_toArray, List.getElem_cons_succ, List.getElem_cons_zero, Act.put, List.setIfInBounds_toArray, List.set_cons_zero, List.set_cons_succ]
    refine wpAnyH_take (i := 9) (v := ?_) rfl (by kernel_rfl) (by kernel_rfl) (by kernel_rfl) (fun _ _ _ h => h) (Or.inl ⟨by rfl, ?_⟩) hHeld ?_
    rotate_left
    · (intro w0 hSw; (try dsimp only at hSw); go_simp <;> with_reducible rfl)
    simp only [List.getElem_toArray, List.getElem_cons_succ, List.getElem_cons_zero, Act.put, List.setIfInBounds_toArray, List.set_cons_zero, List.set_cons_succ]
    refine wpAnyH_take (i := 10) (v := ?_) rfl (by kernel_rfl) (by kernel_rfl) (by kernel_rfl) (fun _ _ _ h => h) (Or.inl ⟨by rfl, ?_⟩) hHeld ?_
    rotate_left
    · (intro w0 hSw; (try dsimp only at hSw); go_simp <;> with_reducible rfl)
    simp only [List.getElem_toArray, List.getElem_cons_succ, List.getElem_cons_zero, Act.put, List.setIfInBounds_toArray, List.set_cons_zero, List.set_cons_succ]
    refine wpAnyH_take (i := 11) (v := ?_) rfl (by kernel_rfl) (by kernel_rfl) (by kernel_rfl) (fun _ _ _ h => h) (Or.inl ⟨by rfl, ?_⟩) hHeld ?_
    rotate_left
    · (intro w0 hSw; (try dsimp only at hSw); go_simp <;> with_reducible rfl)
    simp only [List.getElem_toArray, List.getElem_cons_succ, List.getElem_cons_zero, Act.put, List.setIfInBounds_toArray, List.set_cons_zero, List.set_cons_succ]
    refine wpAnyH_ready (rs := [12]) (by kernel_rfl) (by simp) ?_
    refine AllReadyH.cons rfl (fun K hK => ?_) AllReadyH.nil
    simp only [List.getElem_toArray, List.getElem_cons_succ, List.getElem_cons_zero]
    go_simp
    refine (l17Sum_any Au L.length cu L w.drew rfl (HRD.out.drewN 1) HSM.out).mono ?_
    rintro e w1 ⟨rfl, rfl⟩
    refine hK.out _ _ ⟨m1, m2⟩ (fun hHeld1 => ?_)
    clear hK K hHeld
    refine wpAnyH_ready (rs := [13]) (by kernel_rfl) (by simp) ?_
    refine AllReadyH.cons rfl (fun K hK => ?_) AllReadyH.nil
    simp only [List.getElem_toArray, List.getElem_cons_succ, List.getElem_cons_zero]
    go_simp
    refine hK.out _ _ (by go_keep) (fun hHeld2 => ?_)
    clear hK K hHeld1
    refine wpAnyH_take (i := 14) (v := ?_) rfl (by kernel_rfl) (by kernel_rfl) (by kernel_rfl) (fun _ _ _ h => h) (Or.inl ⟨by rfl, ?_⟩) hHeld2 ?_
    rotate_left
    · (intro w0 hSw; (try dsimp only at hSw); go_simp <;> with_reducible rfl)
    simp only [List.getElem_toArray, List.getElem_cons_succ, List.getElem_cons_zero, Act.put, List.setIfInBounds_toArray, List.set_cons_zero, List.set_cons_succ]
    refine wpAnyH_done (by kernel_rfl) ?_ _
    refine LastPost.of ?_
    go_simp
    clear hHeld2
    go_wp2_with fail
    refine HKN.out.mono ?_
    rintro e w3 ⟨rfl, hm, hb⟩
    go_wp2_with fail
    go_end0
    refine ⟨rfl, ?_, HBD.out.trans hb⟩
    rw [HE.out, HF.out]
    rw [befI_hupd, hupd_upd, show [sumI L].length = 1 from rfl, knS_one] at hm
    exact hm
end
end Go.Proofs.Ytfncdogbpmiomaa

namespace Go.Proofs.Ytfncdogbpmiomaa
open Go.RowKit
set_option maxRecDepth 20000

section
variable [Inhabited HKeepT] {B g q : Nat} {E : List Int} {C : Nat → List Int} {w : World}
set_option maxHeartbeats 1000000 in
theorem stitchTuck_any (gr o : Nat) (d c : Int) (A : Option Addr) (m qq : Nat) (z : Nat → Int) (i : Nat) (L : List Int) (H : HkM 148 mkS B g q E C w) (hB : B ≤ w.heap.size) (HR : Hid (RowAt w gr o d c A m qq)) (hz : Rd w A m (fun j => .int .i64 (z j))) (hgr : gr < B) (hE : E.length ≤ 600000) (hi : i < q) (him : i < m) (hC : SmlC C q) (HL : Hid (C i = L)) (hL0 : 0 < L.length) (h6 : z i = 6) :
    Calls Try.prog 104 #[.pointer (some ⟨g, 0, none⟩), .pointer (some ⟨gr, o, none⟩), .int .i64 i] w (HkP 148 mkS B g q (E ++ stE (befI C i) c d (z i) L) (hupd C i (finL (z i) L)) w) := by
  have HE := Lib.hid (show stE (befI C i) c d (z i) L = evL 3 (befI C i + L.getD 0 0) 0 1 c d by rw [h6]; rfl)
  have HF := Lib.hid (show finL (z i) L = L.set 0 (L.getD 0 0 + 1) by rw [h6]; rfl)
  obtain ⟨gz, oz, rfl, hgz, hrz⟩ := hz (by omega)
  have c2 := HR.out.c2
  have cz := hrz i him
  simp only [h6] at cz
  have b1 : (0 : Int) ≤ (i : Int) := by omega
  have b2 : (i : Int) < (m : Int) := by omega
  have b3 : (0 : Int) < (L.length : Int) := by omega
  have hbef := hC.bef (show i ≤ q by omega)
  have HC := Lib.hid hC
  have hyb := (hC.2 i hi).get 0
  rw [HL.out] at hyb
  obtain ⟨P0, hP0⟩ : ∃ P, P = befI C i := ⟨_, rfl⟩
  obtain ⟨y, hy⟩ : ∃ y, y = L.getD 0 0 := ⟨_, rfl⟩
  rw [← hP0] at hbef HE
  rw [← hy] at HE HF hyb
  have HP0 := Lib.hid hP0
  have HY := Lib.hid hy
  obtain ⟨tg, ev, cl, n, U, H⟩ := H
  have hn := H.len
  have hn2 : n ≤ 1048576 := by omega
  obtain ⟨gc, cap, rfl⟩ := H.form (by omega)
  have hL1 : 0 < (C i).length := by rw [HL.out]; exact hL0
  obtain ⟨gi, ci, hU, hci, hgi, hBi, htg, hcl, hfr⟩ := H.readO hi hL1
  have m1 : w.cell? ⟨g, 1, none⟩ = some (.slice (some ⟨gc, 0, none⟩) q cap) := H.b.cell 1
  have m2 := H.cellAt hi
  rw [hU, HL.out] at m2
  have m3 : w.cell? ⟨gi, 0, none⟩ = some (.int .i64 y) := by rw [hy, ← HL.out]; exact hcl 0 hL1
  have HH := Lib.hid H.drew
  have HR8 : Hid (RowAt w.drew gr o d c (some ⟨gz, oz, none⟩) m qq) := Lib.hid ⟨HR.out.c0, HR.out.c1, HR.out.c2⟩
  clear hrz H h6 hP0 hC hn hy hU hci htg hcl hfr
  go_enter Try.func104, Try.ntmps104
  go_wp2_with fail
  refine wp_region_lastL (S := fun w' => w'.cell? ⟨g, 1, none⟩ = some (.slice (some ⟨gc, 0, none⟩) q cap) ∧ w'.cell? ⟨gc, i, none⟩ = some (.slice (some ⟨gi, 0, none⟩) L.length ci) ∧ w'.cell? ⟨gi, 0, none⟩ = some (.int .i64 y)) _ (by simp) (by kernel_rfl) (by kernel_rfl) ⟨m1, m2, m3⟩ (fun hHeld => ?_)
  simp only [List.dropLast, List.getLast_cons_cons, List.getLast_singleton, List.length_cons, List.length_nil]
  refine wpAnyH_take (i := 0) (v := ?_) rfl (by kernel_rfl) (by kernel_rfl) (by kernel_rfl) (fun _ _ _ h => h) (Or.inl ⟨by rfl, ?_⟩) hHeld ?_
  rotate_left
  · (intro w0 hSw; (try dsimp only at hSw); go_simp <;> with_reducible rfl)
  simp only [List.getElem_toArray, List.getElem_cons_succ, List.getElem_cons_zero, Act.put, List.setIfInBounds_toArray, List.set_cons_zero, List.set_cons_succ]
  refine wpAnyH_take (i := 1) (v := ?_) rfl (by kernel_rfl) (by kernel_rfl) (by kernel_rfl) (fun _ _ _ h => h) (Or.inl ⟨by rfl, ?_⟩) hHeld ?_
  rotate_left
  · (intro w0 hSw; (try dsimp only at hSw); go_simp <;> with_reducible rfl)
  simp only [List.getElem_toArray, List.getElem_cons_succ, List.getElem_cons_zero, Act.put, List.setIfInBounds_toArray, List.set_cons_zero, List.set_cons_succ]
  refine wpAnyH_take (i := 2) (v := ?_) rfl (by kernel_rfl) (by kernel_rfl) (by kernel_rfl) (fun _ _ _ h => h) (Or.inl ⟨by rfl, ?_⟩) hHeld ?_
  rotate_left
  · (intro w0 hSw; (try dsimp only at hSw); go_simp <;> with_reducible rfl)
  simp only [List.getElem_toArray, List.getElem_cons_succ, List.getElem_cons_zero, Act.put, List.setIfInBounds_toArray, List.set_cons_zero, List.set_cons_succ]
  refine wpAnyH_take (i := 3) (v := ?_) rfl (by kernel_rfl) (by kernel_rfl) (by kernel_rfl) (fun _ _ _ h => h) (Or.inl ⟨by rfl, ?_⟩) hHeld ?_
  rotate_left
  · (intro w0 hSw; (try dsimp only at hSw); go_simp <;> with_reducible rfl)
  simp only [List.getElem_toArray, List.getElem_cons_succ, List.getElem_cons_zero, Act.put, List.setIfInBounds_toArray, List.set_cons_zero, List.set_cons_succ]
  refine wpAnyH_take (i := 5) (v := ?_) rfl (by kernel_rfl) (by kernel_rfl) (by kernel_rfl) (fun _ _ _ h => h) (Or.inl ⟨by rfl, ?_⟩) hHeld ?_
  rotate_left
  · (intro w0 hSw; (try dsimp only at hSw); go_simp <;> with_reducible rfl)
  simp only [List.getElem_toArray, List.getElem_cons_succ, List.getElem_cons_zero, Act.put, List.setIfInBounds_toArray, List.set_cons_zero, List.set_cons_succ]
  refine wpAnyH_take (i := 6) (v := ?_) rfl (by kernel_rfl) (by kernel_rfl) (by kernel_rfl) (fun _ _ _ h => h) (Or.inl ⟨by rfl, ?_⟩) hHeld ?_
  rotate_left
  · (intro w0 hSw; (try dsimp only at hSw); go_simp <;> with_reducible rfl)
  simp only [List.getElem_toArray, List.getElem_cons_succ, List.getElem_cons_zero, Act.put, List.setIfInBounds_toArray, List.set_cons_zero, List.set_cons_succ]
  refine wpAnyH_take (i := 7) (v := ?_) rfl (by kernel_rfl) (by kernel_rfl) (by kernel_rfl) (fun _ _ _ h => h) (Or.inl ⟨by rfl, ?_⟩) hHeld ?_
  rotate_left
  · (intro w0 hSw; (try dsimp only at hSw); go_simp <;> with_reducible rfl)
  simp only [List.getElem_toArray, List.getElem_cons_succ, List.getElem_cons_zero, Act.put, List.setIfInBounds_toArray, List.set_cons_zero, List.set_cons_succ]
  refine wpAnyH_take (i := 8) (v := ?_) rfl (by kernel_rfl) (by kernel_rfl) (by kernel_rfl) (fun _ _ _ h => h) (Or.inl ⟨by rfl, ?_⟩) hHeld ?_
  rotate_left
  · (intro w0 hSw; (try dsimp only at hSw); go_simp <;> with_reducible rfl)
  simp only [List.getElem_toArray, List.getElem_cons_succ, List.getElem_cons_zero, Act.put, List.setIfInBounds_toArray, List.set_cons_zero, List.set_cons_succ]
  refine wpAnyH_take (i := 9) (v := ?_) rfl (by kernel_rfl) (by kernel_rfl) (by kernel_rfl) (fun _ _ _ h => h) (Or.inl ⟨by rfl, ?_⟩) hHeld ?_
  rotate_left
  · (intro w0 hSw; (try dsimp only at hSw); go_simp <;> with_reducible rfl)
  simp only [List.getElem_toArray, List.getElem_cons_succ, List.getElem_cons_zero, Act.put, List.setIfInBounds_toArray, List.set_cons_zero, List.set_cons_succ]
  refine wpAnyH_take (i := 10) (v := ?_) rfl (by kernel_rfl) (by kernel_rfl) (by kernel_rfl) (fun _ _ _ h => h) (Or.inl ⟨by rfl, ?_⟩) hHeld ?_
  rotate_left
  · (intro w0 hSw; (try dsimp only at hSw); go_simp <;> with_reducible rfl)
  simp only [List.getElem_toArray, List.getElem_cons_succ, List.getElem_cons_zero, Act.put, List.setIfInBounds_toArray, List.set_cons_zero, List.set_cons_succ]
  refine wpAnyH_take (i := 11) (v := ?_) rfl (by kernel_rfl) (by kernel_rfl) (by kernel_rfl) (fun _ _ _ h => h) (Or.inl ⟨by rfl, ?_⟩) hHeld ?_
  rotate_left
  · (intro w0 hSw; (try dsimp only at hSw); go_simp <;> with_reducible rfl)
  simp only [List.getElem_toArray, List.getElem_cons_succ, List.getElem_cons_zero, Act.put, List.setIfInBounds_toArray, List.set_cons_zero, List.set_cons_succ]
  refine wpAnyH_take (i := 12) (v := ?_) rfl (by kernel_rfl) (by kernel_rfl) (by kernel_rfl) (fun _ _ _ h => h) (Or.inl ⟨by rfl, ?_⟩) hHeld ?_
  rotate_left
  · (intro w0 hSw; (try dsimp only at hSw); go_simp <;> with_reducible rfl)
  simp only [List.getElem_toArray, List.getElem_cons_succ, List.getElem_cons_zero, Act.put, List.setIfInBounds_toArray, List.set_cons_zero, List.set_cons_succ]
  refine wpAnyH_take (i := 13) (v := ?_) rfl (by kernel_rfl) (by kernel_rfl) (by kernel_rfl) (fun _ _ _ h => h) (Or.inl ⟨by rfl, ?_⟩) hHeld ?_
  rotate_left
  · (intro w0 hSw; (try dsimp only at hSw); go_simp <;> with_reducible rfl)
  simp only [List.getElem_toArray, List.getElem_cons_succ, List.getElem_cons_zero, Act.put, List.setIfInBounds_toArray, List.set_cons_zero, List.set_cons_succ]
  refine wpAnyH_ready (rs := [4]) (by kernel_rfl) (by simp) ?_
  refine AllReadyH.cons rfl (fun K hK => ?_) AllReadyH.nil
  simp only [List.getElem_toArray, List.getElem_cons_succ, List.getElem_cons_zero]
  go_simp
  refine (before_any i HH.out (by omega) HC.out).mono ?_
  rintro e w1 ⟨rfl, rfl⟩
  rw [← HP0.out]
  refine hK.out _ _ ⟨m1, m2, m3⟩ (fun hHeld1 => ?_)
  clear hK K hHeld
  refine wpAnyH_take (i := 14) (v := ?_) rfl (by kernel_rfl) (by kernel_rfl) (by kernel_rfl) (fun _ _ _ h => h) (Or.inl ⟨by rfl, ?_⟩) hHeld1 ?_
  rotate_left
  · (intro w0 hSw; (try dsimp only at hSw); go_simp <;> with_reducible rfl)
  simp only [List.getElem_toArray, List.getElem_cons_succ, List.getElem_cons_zero, Act.put, List.setIfInBounds_toArray, List.set_cons_zero, List.set_cons_succ]
  refine wpAnyH_done (by kernel_rfl) ?_ _
  refine LastPost.of ?_
  go_simp
  clear hHeld1
  rw [show IntKind.i64.wrap (P0 + y) = P0 + y from IntWalk.i64_in _ (by omega)]
  refine (specAdd_any gr o d c _ m qq 3 (P0 + y) 0 1 HH.out hB HR8 hgr hn2).mono ?_
  rintro e w3 ⟨rfl, HM3, hb3⟩
  obtain ⟨tg3, ev3, cl3, n3, U3, H3⟩ := HM3
  obtain ⟨gc3, cap3, rfl⟩ := H3.form (by omega)
  obtain ⟨gi3, ci3, hU3, hci3, hgi3, hBi3, htg3, hcl3, hfr3⟩ := H3.readO hi hL1
  have HSN := Lib.hid (H3.setN (k := 0) hi hU3 hL1 (y + 1))
  have n1 : w3.cell? ⟨g, 1, none⟩ = some (.slice (some ⟨gc3, 0, none⟩) q cap3) := H3.b.cell 1
  have n2 := H3.cellAt hi
  rw [hU3, HL.out] at n2
  have n4 : w3.cell? ⟨gi3, 0, none⟩ = some (.int .i64 y) := by rw [HY.out, ← HL.out]; exact hcl3 0 hL1
  have n5 := hfr3 0
  have HB3 := Lib.hid (Below.setCell (p := ⟨gi3, 0, none⟩) (Below.trans ((Below.refl B w).drew) hb3) hBi3 (.int .i64 (y + 1)))
  clear H3 hU3 hci3 htg3 hcl3 hfr3 hb3 m1 m2 m3 c2 cz
  go_wp2_with fail
  go_end0
  refine ⟨rfl, ⟨tg3, ev3, .slice (some ⟨gc3, 0, none⟩) q cap3, n3, U3, ?_⟩, HB3.out⟩
  rw [← HP0.out, HE.out, HF.out]
  have h9 := HSN.out
  rw [HL.out] at h9
  exact h9
end
end Go.Proofs.Ytfncdogbpmiomaa

namespace Go.Proofs.Ytfncdogbpmiomaa
open Go.RowKit

section
variable [Inhabited HKeepT] {B g q : Nat} {E : List Int} {C : Nat → List Int} {w : World}
theorem specStitch_any (gr o : Nat) (d c : Int) (A : Option Addr) (m qq : Nat) (z : Nat → Int) (i : Nat) (L : List Int) (H : HkM 148 mkS B g q E C w) (hB : B ≤ w.heap.size) (HR : Hid (RowAt w gr o d c A m qq)) (hz : Rd w A m (fun j => .int .i64 (z j))) (hgr : gr < B) (hE : E.length ≤ 600000) (hi : i < q) (him : i < m) (hC : SmlC C q) (HL : Hid (C i = L)) (hl : L.length = tkN (z i)) (hs : sumI L ≤ 1000) (hk : 1 ≤ z i ∧ z i ≤ 11) :
    Calls Try.prog 104 #[.pointer (some ⟨g, 0, none⟩), .pointer (some ⟨gr, o, none⟩), .int .i64 i] w (HkP 148 mkS B g q (E ++ stE (befI C i) c d (z i) L) (hupd C i (finL (z i) L)) w) := by
  by_cases h3 : z i = 3
  · exact stitchOver_any gr o d c A m qq z i L H hB HR hz hgr hE hi him hC h3
  by_cases h45 : z i = 4 ∨ z i = 5
  · exact stitchTwo_any gr o d c A m qq z i L H hB HR hz hgr hE hi him hC HL hs h45
  by_cases h6 : z i = 6
  · exact stitchTuck_any gr o d c A m qq z i L H hB HR hz hgr hE hi him hC HL (by rw [hl, h6]; decide) h6
  by_cases h7 : z i = 7
  · exact stitchSlip_any gr o d c A m qq z i L H HR hz him HL h7
  exact stitchKnit_any gr o d c A m qq z i L H hB HR hz hgr hE hi him hC HL hk h3 (fun h => h45 (.inl h)) (fun h => h45 (.inr h)) h6 h7
end
end Go.Proofs.Ytfncdogbpmiomaa

namespace Go.Proofs.Ytfncdogbpmiomaa
open Go.RowKit
set_option maxRecDepth 20000

section
variable [Inhabited HKeepT] {B g q : Nat} {E : List Int} {C : Nat → List Int} {w : World}
theorem specCross0_any (i : Nat) (k : Int) (L : List Int) (H : HkM 148 mkS B g q E C w) (HL : Hid (C i = L)) (h0 : signI k = 0) :
    Calls Try.prog 102 #[.pointer (some ⟨g, 0, none⟩), .int .i64 i, .int .i64 k] w (HkP 148 mkS B g q (E ++ crsE (befI C i) k L) (hupd C i (crs k L)) w) := by
  have HM := Lib.hid (show HkM 148 mkS B g q (E ++ crsE (befI C i) k L) (hupd C i (crs k L)) w by
    rw [crsE, crs, if_pos h0, if_pos h0, List.append_nil, ← HL.out, hupd_self]
    exact H)
  have H0 := Lib.hid h0
  clear H h0
  go_enter Try.func102, Try.ntmps102
  go_wp2_with fail
  refine (l17Sign_any k _).mono ?_
  rintro e w' ⟨rfl, rfl⟩
  rw [H0.out]
  go_wp2_with fail
  go_end0
  exact ⟨rfl, HM.out, Below.refl _ _⟩
end
end Go.Proofs.Ytfncdogbpmiomaa

namespace Go.Proofs.Ytfncdogbpmiomaa
open Go.RowKit

theorem l00OwnC_any (A : Option Addr) (c : Nat) (L : List Int) (w : World) (ha : Rd w A L.length (fun j => .int .i64 (L.getD j 0))) (hn : L.length ≤ 1048576) :
    Calls Try.prog 83 #[.slice A L.length c] w fun e w' => ∃ v, e = .returned v ∧ w'.ownsRow w.heap.size 2 1 v L.length (ints L) ∧ Below w.heap.size w w' := by
  obtain ⟨i0, hi, iz, is, ib⟩ := info_parts info64
  have hb0 : Below w.heap.size w (w.alloc (.cells #[] 2)) := (Below.refl _ _).alloc (Nat.le_refl _) _
  have HR := Lib.hid (ha.below hb0)
  have HO := Lib.hid (World.ownsRow_made (e := 2) (size := 1) w #[] 0 (Nat.le_refl _) (by unfold maxLen; omega) rfl)
  have HB := Lib.hid hb0
  clear ha hb0
  go_enter Try.func83, Try.ntmps83
  go_wp2_with (at_builtin; go_must (refine wpList_appR (w.alloc (.cells #[] 2)) rfl (.tmp 3) (.tmp 4) _ rfl w.heap.size 2 i0 _ 1 8 Try.underlying41 hi iz is ib rfl (by omega) _ 0 [] rfl HO.out A L.length c (fun j => .int .i64 (L.getD j 0)) rfl (by rw [Nat.mul_one]; exact HR.out) (fun j => rfl) (by unfold maxLen; omega) (by omega) (by simp) ?_); intro v' w' hown' hfr; have HOWN' := Lib.hid hown'; have HFR := Lib.hid hfr; clear hown' hfr)
  go_ret
  have ho := HOWN'.out
  rw [Nat.zero_add, List.nil_append, Nat.mul_one, ints_get L L.length rfl] at ho
  exact ⟨_, rfl, ho, HB.out.trans (HFR.out.own HO.out (by simp))⟩
end Go.Proofs.Ytfncdogbpmiomaa

namespace Go.Proofs.Ytfncdogbpmiomaa
open Go.RowKit
set_option maxRecDepth 20000

/-- The first t stitches' columns lie in the rows of v, behind B. -/
structure SrcS (B : Nat) (z : Nat → Int) (v : Value) (t : Nat) (As : Nat → Option Addr) (cs : Nat → Nat) (w : World) : Prop where
  own : w.ownsRow B 41 1 v t ((List.range t).map fun j => .slice (As j) (tkN (z j)) (cs j))
  rd : ∀ j, j < t → Rd w (As j) (tkN (z j)) (fun x => .int .i64 ((segT z j : Int) + x))
  far : ∀ j, j < t → ∀ b, Fb (As j) (tkN (z j)) b → B ≤ b ∧ b < w.heap.size ∧ ¬ v.ownBlock = some b
theorem SrcS.below {B : Nat} {z : Nat → Int} {v : Value} {t : Nat} {As : Nat → Option Addr} {cs : Nat → Nat} {w w' : World} (h : SrcS B z v t As cs w) (hb : Below w.heap.size w w') : SrcS B z v t As cs w' :=
  ⟨own_below h.own hb, fun j hj => (h.rd j hj).below hb, fun j hj b hF => ⟨(h.far j hj b hF).1, Nat.lt_of_lt_of_le (h.far j hj b hF).2.1 hb.size, (h.far j hj b hF).2.2⟩⟩
def SrcP (z : Nat → Int) (m : Nat) (w : World) (e : Ending) (w' : World) : Prop := ∃ v As cs, e = .returned v ∧ SrcS w.heap.size z v m As cs w' ∧ Below w.heap.size w w'
set_option maxHeartbeats 1000000 in
theorem l20Sources_any (gr o : Nat) (d c : Int) (A : Option Addr) (m qq : Nat) (z : Nat → Int) (w : World) (HR : Hid (RowAt w gr o d c A m qq)) (hz : Rd w A m (fun j => .int .i64 (z j))) (hm : m ≤ 16) (hk : ∀ j, j < m → 1 ≤ z j ∧ z j ≤ 11) :
    Calls Try.prog 101 #[.pointer (some ⟨gr, o, none⟩)] w (SrcP z m w) := by
  obtain ⟨i0, hi, iz, is, ib⟩ := info_parts infoSl64
  have HZ := Lib.hid hz
  have HK := Lib.hid hk
  have hgw := World.block_lt_of_cell? w _ HR.out.c0
  simp only at hgw
  clear hz hk
  go_enter Try.func101, Try.ntmps101
  go_wp2
  go_loopg [3, 4, 5] m (fun q v a i wr => ∃ (t : Nat) (As : Nat → Option Addr) (cs : Nat → Nat), t ≤ m ∧ q + t = m ∧ i = .int .i64 t ∧ a = .int .i64 (segT z t) ∧ SrcS w.heap.size z v t As cs wr ∧ Below w.heap.size w wr)
  case atStart => exact ⟨0, fun _ => none, fun _ => 0, Nat.zero_le _, rfl, rfl, rfl, ⟨World.ownsRow_made _ #[] 0 (Nat.le_refl _) (by unfold maxLen; omega) rfl, fun j hj => by omega, fun j hj => by omega⟩, (Below.refl _ _).alloc (Nat.le_refl _) _⟩
  case round =>
    obtain ⟨t, As, cs, ht, hq, rfl, rfl, hsrc, hbl⟩ := hrel
    have HB := Lib.hid hbl
    have HSR := Lib.hid hsrc
    clear hbl hsrc
    have r2 := at_below HB.out hgw HR.out.c2
    have hTk := segT_le z t
    by_cases hlt : t < m
    · obtain ⟨gz, oz, rfl, hgz, hrz⟩ := HZ.out (by omega)
      have cz := at_below HB.out hgz (hrz t hlt)
      have hzk := HK.out t hlt
      have HT2 := Lib.hid (show segT z (t + 1) = segT z t + tkN (z t) from rfl)
      have htk := tkN_le (z t)
      obtain ⟨y, hy⟩ : ∃ y, y = z t := ⟨_, rfl⟩
      obtain ⟨P, hP⟩ : ∃ P, P = segT z t := ⟨_, rfl⟩
      simp only [← hy, ← hP] at cz hzk HT2 htk hTk ⊢
      have HY := Lib.hid hy
      have HP := Lib.hid hP
      clear hrz hy hP
      go_wp2_with fail
      with_reducible refine (specColumnsTaken_any y _ hzk).mono ?_
      rintro e w2 ⟨rfl, hb2⟩
      have HB2 := Lib.hid (HB.out.trans (hb2.mono HB.out.size))
      have HS2 := Lib.hid (HSR.out.below hb2)
      clear hb2 cz r2
      go_wp2_with fail
      refine (l20Count_any P (tkN y) _ (by omega) (by omega)).mono ?_
      rintro e w3 ⟨A3, c3, rfl, hc3, hn3⟩
      have HS3 := Lib.hid (HS2.out.below hn3.bl)
      have HB3 := Lib.hid (HB2.out.trans (hn3.bl.mono HB2.out.size))
      have HN3 := Lib.hid hn3
      clear hn3
      go_wp2_with (at_builtin; go_must (refine wpList_appGa w3 rfl (.tmp 25) (.tmp 29) _ rfl w.heap.size 41 i0 _ 1 24 Try.underlying38 hi iz is ib rfl (by omega) u3 t _ rfl HS3.out.own _ 1 1 _ rfl rfl (by simp [Value.oneCell']) (by unfold maxLen; omega) (by omega) HB3.out.size ?_); intro v' w' hown' hf' hat'; have HOWN' := Lib.hid hown'; have HF' := Lib.hid hf'; have HAT' := Lib.hid hat'; clear hown' hf' hat')
      have hNb : ∀ b, Fb A3 (tkN y) b → w2.heap.size ≤ b ∧ b < w3.heap.size := fun b ⟨_, a, e, hb⟩ => ⟨hb ▸ HN3.out.ab a e, hb ▸ HN3.out.bb a e⟩
      have hub : ∀ b, u3.ownBlock = some b → b < w2.heap.size := fun b hb => (HS2.out.own.lt b hb).2
      have hvb : ∀ b, b < w3.heap.size → ¬ u3.ownBlock = some b → ¬ v'.ownBlock = some b := fun b h1 h2 h3 => by
        rcases HAT'.out with h | h
        · exact h2 (h.symm.trans h3)
        · rw [h] at h3
          injection h3 with h3
          omega
      have hz3 := HF'.out.size
      have hz2 := HB2.out.size
      have HSN := Lib.hid (show SrcS w.heap.size z v' (t + 1) (fun j => if j = t then A3 else As j) (fun j => if j = t then c3 else cs j) w' from by
        refine ⟨?_, fun j hj => ?_, fun j hj b hF => ?_⟩
        · have h1 : (List.range (t + 1)).map (fun j => Value.slice (if j = t then A3 else As j) (tkN (z j)) (if j = t then c3 else cs j)) = (List.range t).map (fun j => Value.slice (As j) (tkN (z j)) (cs j)) ++ [.slice A3 (tkN y) c3] := by
            rw [List.range_succ, List.map_append]
            congr 1
            · exact List.map_congr_left fun j hj => by have := List.mem_range.1 hj; rw [if_neg (by omega), if_neg (by omega)]
            · simp [← HY.out]
          rw [h1]
          exact HOWN'.out
        · by_cases hjt : j = t
          · subst hjt
            rw [if_pos rfl, ← HY.out, ← HP.out]
            exact (rd_obj _ _ _).fr HN3.out.rd HF'.out fun b hb he => by have := hNb b hb; have := hub b he; omega
          · rw [if_neg hjt]
            exact (rd_obj _ _ _).fr (HS3.out.rd j (by omega)) HF'.out fun b hb he => (HS3.out.far j (by omega) b hb).2.2 he
        · by_cases hjt : j = t
          · subst hjt
            rw [if_pos rfl, ← HY.out] at hF
            have h1 := hNb b hF
            exact ⟨by omega, by omega, hvb b h1.2 fun he => by have := hub b he; omega⟩
          · rw [if_neg hjt] at hF
            have h1 := HS3.out.far j (by omega) b hF
            exact ⟨h1.1, by omega, hvb b h1.2.1 h1.2.2⟩)
      have HBN := Lib.hid (HB3.out.trans (HF'.out.own HS3.out.own HB3.out.size))
      clear hNb hub hvb hz3 hz2 hc3
      go_wp2
      go_roundg (m - (t + 1))
      case measure => omega
      case rel => exact ⟨t + 1, _, _, by omega, by omega, by go_num, i64c (by rw [HT2.out]; omega), HSN.out, HBN.out⟩
    · obtain rfl : m = t := by omega
      go_wp2
      go_ret
      exact ⟨_, As, cs, rfl, HSR.out, HB.out⟩
end Go.Proofs.Ytfncdogbpmiomaa

namespace Go.Proofs.Ytfncdogbpmiomaa
open Go.RowKit

/-- 'append(out, x...)' at a step of a region that draws its order: x reads as known cells. -/
theorem step_appRg {P : Program} {o : Oper} {cond : Bool} {a : Act} {K : Act → World → Prop} {Q : Exit → Act → World → Prop} {E : Prop} (W : World) (hcond : cond = true) (s x : Operand) (t : TypeId)
    (ho : o.op = .call { callee := .builtin .append, args := #[s, x], argTypes := #[t, t] })
    (base : Nat) (e : TypeId) (i : TypeInfo) (z : Value) (size bytes : Nat) (ht : P.underlying t = some (.slice e)) (hi : P.info? e = some i) (hz : i.zero = some z)
    (hsize : i.size = size) (hby : i.bytes = bytes) (hzs : z.cells.size = size) (hsz : 0 < size)
    (v : Value) (n : Nat) (xs : List Value) (hs : a.eval s = v) (hown : W.ownsRow base e size v n xs)
    (A2 : Option Addr) (m c : Nat) (f : Nat → Value) (hx : a.eval x = .slice A2 m c) (hrd : Rd W A2 (m * size) f) (h1 : ∀ j, (f j).oneCell' = true)
    (h63 : n + m ≤ maxLen) (hbytes : (n + m) * bytes ≤ 140737488355328) (hbase : base ≤ W.heap.size)
    (h : ∀ v' w', w'.ownsRow base e size v' (n + m) (xs ++ (List.range (m * size)).map f) → Fr W w' (fun b => v.ownBlock = some b) → K (a.put o.dst v') w') :
    if cond = true then Oper.wp P o a W K Q else E := by
  rw [if_pos hcond]
  rcases A2 with _ | ad
  · have hm : m = 0 := by
      rcases Nat.eq_zero_or_pos m with h0 | h0
      · exact h0
      · obtain ⟨g, o', e, _⟩ := hrd (Nat.mul_pos h0 hsz)
        cases e
    subst hm
    have hr := append_nil_run (P := P) W base t o.type e i size ht hi v n xs hown c
    unfold Oper.wp execOp
    simp only [ho, resolve, invoke, builtin, Sem.run_bind, Sem.run_pure, Result.andThen_ok, List.map_toArray, List.map_cons, List.map_nil, hs, hx, hr]
    exact h _ _ (by simpa using hown) (Fr.refl _ _)
  · refine wp_append_own W s x t ho base e i z size bytes ht hi hz hsize hby hzs hsz v n xs hs hown ad m c ((List.range (m * size)).map f) hx (by simp) (fun j u hu => ?_) (fun u hu => ?_) h63 hbytes hbase ?_
    · obtain ⟨hj, rfl⟩ : j < m * size ∧ f j = u := by
        by_cases hj : j < m * size
        · simp [hj] at hu; exact ⟨hj, hu⟩
        · rw [List.getElem?_eq_none (by simpa using hj)] at hu; cases hu
      obtain ⟨g, o', e, _, hr⟩ := hrd (by omega)
      injection e with e
      subst e
      rw [Addr.add_lit]
      exact hr j hj
    · obtain ⟨j, _, rfl⟩ := List.mem_map.1 hu
      exact h1 j
    · intro v' w' h2 h3 _
      exact h v' w' h2 ⟨h3.os, h3.tape, h3.output, h3.size, fun b hb hne => h3.block b hb (fun e => hne e.symm)⟩
/-- 'append(out, x...)' at a step of a region that draws its order: x reads as known cells; where the new value lies. -/
theorem step_appRx {P : Program} {o : Oper} {cond : Bool} {a : Act} {K : Act → World → Prop} {Q : Exit → Act → World → Prop} {E : Prop} (W : World) (hcond : cond = true) (s x : Operand) (t : TypeId)
    (ho : o.op = .call { callee := .builtin .append, args := #[s, x], argTypes := #[t, t] })
    (base : Nat) (e : TypeId) (i : TypeInfo) (z : Value) (size bytes : Nat) (ht : P.underlying t = some (.slice e)) (hi : P.info? e = some i) (hz : i.zero = some z)
    (hsize : i.size = size) (hby : i.bytes = bytes) (hzs : z.cells.size = size) (hsz : 0 < size)
    (v : Value) (n : Nat) (xs : List Value) (hs : a.eval s = v) (hown : W.ownsRow base e size v n xs)
    (g2 o2 m c : Nat) (f : Nat → Value) (hx : a.eval x = .slice (some ⟨g2, o2, none⟩) m c) (hrd : RowR W g2 o2 (m * size) f) (h1 : ∀ j, (f j).oneCell' = true)
    (h63 : n + m ≤ maxLen) (hbytes : (n + m) * bytes ≤ 140737488355328) (hbase : base ≤ W.heap.size)
    (h : ∀ v' w', w'.ownsRow base e size v' (n + m) (xs ++ (List.range (m * size)).map f) → Fr W w' (fun b => v.ownBlock = some b) → (v'.ownBlock = v.ownBlock ∨ v'.ownBlock = some W.heap.size) → K (a.put o.dst v') w') :
    if cond = true then Oper.wp P o a W K Q else E := by
  rw [if_pos hcond]
  obtain ⟨v', w', hr, h2, h3, _, h5⟩ := run_append_own_at (P := P) W base t o.type e i z size bytes ht hi hz hsize hby hzs hsz v n xs hown ⟨g2, o2, none⟩ m c ((List.range (m * size)).map f) (by simp) (by
    intro j u hu
    obtain ⟨hj, rfl⟩ : j < m * size ∧ f j = u := by
      by_cases hj : j < m * size
      · simp [hj] at hu; exact ⟨hj, hu⟩
      · rw [List.getElem?_eq_none (by simpa using hj)] at hu; cases hu
    rw [Addr.add_lit]
    exact hrd j hj) (fun u hu => by obtain ⟨j, _, rfl⟩ := List.mem_map.1 hu; exact h1 j) h63 hbytes hbase
  unfold Oper.wp execOp
  simp only [ho, resolve, invoke, builtin, Sem.run_bind, Sem.run_pure, Result.andThen_ok, List.map_toArray, List.map_cons, List.map_nil, hs, hx, hr]
  exact h v' w' h2 ⟨h3.os, h3.tape, h3.output, h3.size, fun b hb hne => h3.block b hb (fun e => hne e.symm)⟩ h5
end Go.Proofs.Ytfncdogbpmiomaa

namespace Go.Proofs.Ytfncdogbpmiomaa
open Go.RowKit
set_option maxRecDepth 20000

section
variable [Inhabited HKeepT] {B g q : Nat} {E : List Int} {C : Nat → List Int} {w : World}
set_option maxHeartbeats 1000000 in
theorem specCross1_any (i : Nat) (k : Int) (L : List Int) (H : HkM 148 mkS B g q E C w) (hB : B ≤ w.heap.size) (hE : E.length ≤ 500000) (hi : i < q) (hC : SmlC C q) (HL : Hid (C i = L)) (hl : L.length = 2) (hs : sumI L ≤ 100) (s : Int) (hs1 : s = 1 ∨ s = -1) (h0 : signI k = s) :
    Calls Try.prog 102 #[.pointer (some ⟨g, 0, none⟩), .int .i64 i, .int .i64 k] w (HkP 148 mkS B g q (E ++ crsE (befI C i) k L) (hupd C i (crs k L)) w) := by
  have HS := Lib.hid h0
  have HS1 := Lib.hid hs1
  have hbef := hC.bef (show i ≤ q by omega)
  have HC := Lib.hid hC
  have HSM := Lib.hid (show Sml L by rw [← HL.out]; exact hC.2 i hi)
  obtain ⟨P0, hP0⟩ : ∃ P, P = befI C i := ⟨_, rfl⟩
  rw [← hP0] at hbef
  have HP0 := Lib.hid hP0
  obtain ⟨tg, ev, cl, n, U, H⟩ := H
  obtain ⟨gc, cap, rfl⟩ := H.form (by omega)
  have hL1 : 0 < (C i).length := by rw [HL.out]; omega
  obtain ⟨gi, ci, hU, hci, hgi, hBi, htg, hcl, hfr⟩ := H.readO hi hL1
  have m1 : w.cell? ⟨g, 1, none⟩ = some (.slice (some ⟨gc, 0, none⟩) q cap) := H.b.cell 1
  have m2 := H.cellAt hi
  rw [hU, HL.out, hl] at m2
  rw [HL.out, hl] at hci hcl
  have hne : ¬ ci = 1 := by omega
  have hci1 : (1 : Int) ≤ (ci : Int) := by omega
  have b1 : (0 : Int) ≤ (i : Int) := by omega
  have b2 : (i : Int) < (q : Int) := by omega
  have hsN : s ≠ 0 := by rcases hs1 with rfl | rfl <;> decide
  have hsb : (s == 0) = false := by simpa using hsN
  obtain ⟨a, ha⟩ : ∃ a, a = (sumI (L.take 1)).toNat := ⟨_, rfl⟩
  obtain ⟨b, hb⟩ : ∃ b, b = (sumI (L.drop 1)).toNat := ⟨_, rfl⟩
  have hsum : sumI L = sumI (L.take 1) + sumI (L.drop 1) := by rw [← sumI_app, List.take_append_drop]
  have hta := (HSM.out.take 1).sum
  have htb := (HSM.out.drop 1).sum
  have ha2 : sumI (L.take 1) = (a : Int) := by omega
  have hb2 : sumI (L.drop 1) = (b : Int) := by omega
  have hab : a ≤ 100 ∧ b ≤ 100 := by omega
  have hq1 : Calls Try.prog 105 #[.pointer (some ⟨g, 0, none⟩), .int .i64 i] w.drew fun e w' => e = .returned (.int .i64 P0) ∧ w.drew = w' := (before_any i H.drew (by omega) HC.out).mono fun _ _ h => ⟨by rw [h.1, HP0.out], h.2⟩
  have hq2 : Calls Try.prog 156 #[.slice (some ⟨gi, 0, none⟩) 1 ci] w.drew fun e w' => e = .returned (.int .i64 a) ∧ w.drew = w' := (l17Sum_any (some ⟨gi, 0, none⟩) 1 ci (L.take 1) w.drew (by simp; omega) (fun _ => ⟨gi, 0, rfl, hgi, fun j hj => by
    have := hcl j (by omega)
    rw [Nat.zero_add]
    simp only [List.getD, List.getElem?_take, if_pos hj]
    exact this⟩) (HSM.out.take 1)).mono fun _ _ h => ⟨by rw [h.1, ha2], h.2⟩
  have hq3 : Calls Try.prog 156 #[.slice (some ⟨gi, 1, none⟩) 1 (ci - 1)] w.drew fun e w' => e = .returned (.int .i64 b) ∧ w.drew = w' := (l17Sum_any (some ⟨gi, 1, none⟩) 1 (ci - 1) (L.drop 1) w.drew (by simp; omega) (fun _ => ⟨gi, 1, rfl, hgi, fun j hj => by
    have := hcl (1 + j) (by omega)
    simp only [List.getD, List.getElem?_drop]
    exact this⟩) (HSM.out.drop 1)).mono fun _ _ h => ⟨by rw [h.1, hb2], h.2⟩
  have HQ1 := Lib.hid hq1
  have HQ2 := Lib.hid hq2
  have HQ3 := Lib.hid hq3
  have HH := Lib.hid H
  have HU := Lib.hid hU
  have hL2 : L.length / 2 = 1 := by omega
  have HE := Lib.hid (show crsE P0 k L = crossL s (plE P0 a b) by rw [crsE, if_neg (by rw [h0]; exact hsN), hL2, h0, ha, hb])
  have HCR := Lib.hid (show crs k L = L.drop 1 ++ L.take 1 by rw [crs, if_neg (by rw [h0]; exact hsN), hL2])
  have HCRL := Lib.hid (show (L.drop 1).length = 1 ∧ (L.take 1).length = 1 by simp [hl])
  clear hL2
  clear hq1 hq2 hq3 H h0 hs1 hP0 hC ha hb hsum hta htb ha2 hb2 hU htg hcl hfr hs hsN hl
  go_enter Try.func102, Try.ntmps102
  go_wp2_with fail
  refine (l17Sign_any k _).mono ?_
  rintro e w' ⟨rfl, rfl⟩
  rw [HS.out]
  go_wp2_with fail
  go_region_held3 (fun _ => True) (trivial) (first
    | (go_at_call 105; refine HQ1.out.mono ?_; rintro e w' ⟨rfl, rfl⟩)
    | (go_at_call_of 156 (Value.slice (some ⟨gi, 0, none⟩) 1 ci); refine HQ2.out.mono ?_; rintro e w' ⟨rfl, rfl⟩)
    | (go_at_call 156; refine HQ3.out.mono ?_; rintro e w' ⟨rfl, rfl⟩)
    | (go_at_call 155; refine (l03Swap_any P0 a b s _ hbef (by omega) (by omega) HS1.out).mono ?_; rintro e w4 ⟨A4, c4, rfl, hc4, hn4⟩))
  have HN4 := Lib.hid hn4
  have HABH := Lib.hid hab
  have hNab : b * a ≤ 10000 := Nat.le_trans (Nat.mul_le_mul hab.2 hab.1) (by omega)
  have hlen : (plE P0 a b).length = b * a := plE_length P0 a b
  obtain ⟨N, hN⟩ : ∃ N, N = b * a := ⟨_, rfl⟩
  rw [← hN] at HN4 hNab hlen hc4 ⊢
  have HNN := Lib.hid hN
  clear hn4 hN
  obtain ⟨i0, hi0, iz, is, ib⟩ := info_parts infoEvent
  have hszw : w.heap.size ≤ w4.heap.size := HN4.out.bl.size
  have HPL := Lib.hid hlen
  clear hlen
  go_wp2_with fail
  go_loopw [10] (fun x wr => ∃ (k : Nat) (tg : Nat → Nat) (ev : Value) (n : Nat), k ≤ N ∧ x = .int .i64 k ∧ Hid (HkS 148 mkS B g tg ev (.slice (some ⟨gc, 0, none⟩) q cap) n q (E ++ crossL s ((plE P0 a b).take k)) U C wr) ∧ Hid (Rd wr A4 N (fun j => .int .i64 ((letL s (plE P0 a b)).getD j 0))) ∧ Hid (∀ bb, Fb A4 N bb → tg bb = 0 ∧ bb < wr.heap.size) ∧ Hid (Below B w wr)) (fun x _ => N - (intOf x).toNat)
  case atStart => exact ⟨0, tg, ev, n, Nat.zero_le _, rfl, Lib.hid (by simp only [List.take_zero, crossL, List.append_nil]; exact HH.out.drew.below HN4.out.bl), Lib.hid HN4.out.rd, Lib.hid (fun bb ⟨_, ad, e, hb⟩ => ⟨Decidable.byContradiction fun hne => by have h1 := HH.out.lt bb hne; have h2 := HN4.out.ab ad e; have h3 : w.drew.heap.size = w.heap.size := rfl; omega, hb ▸ HN4.out.bb ad e⟩), Lib.hid (((Below.refl B w).drew).trans (HN4.out.bl.mono hB))⟩
  case round =>
    obtain ⟨k2, tg2, ev2, n2, hk2, rfl, HS2, HR2, HF2, HB2⟩ := hrel
    by_cases hlt : k2 < N
    · obtain ⟨g4, o4, rfl, hg4, hr4⟩ := HR2.out (by omega)
      have c4k := hr4 k2 hlt
      obtain ⟨Ae, ce, rfl⟩ := own_form HS2.out.e
      have e0 : wr.cell? ⟨g, 0, none⟩ = some (.slice Ae n2 ce) := HS2.out.b.cell 0
      have f0 : wr.frozen? ⟨g, 0, none⟩ = false := HS2.out.b.frozen 0
      obtain ⟨V, hV⟩ : ∃ V, V = (letL s (plE P0 a b)).getD k2 0 := ⟨_, rfl⟩
      simp only [← hV] at c4k
      have HV := Lib.hid hV
      clear hV hr4
      go_wp2_with fail
      have hBz : B ≤ wr.heap.size := Nat.le_trans hB HB2.out.size
      have hn2 := HS2.out.len
      have hkk := HPL.out
      have hn2b : n2 ≤ 1048576 := by
        simp only [List.length_append, crossL_length, List.length_take] at hn2
        omega
      have hVb : -1000000000 - 1000 ≤ V ∧ V ≤ 1000000000 + 1000 ∧ (V.natAbs : Int) - 1 = (plE P0 a b).getD k2 0 ∧ V = s * ((plE P0 a b).getD k2 0 + 1) := by
        have hx : k2 < (plE P0 a b).length := by omega
        have h1 := plE_bounds (p := P0) (a := a) (t := b) (plE P0 a b)[k2] (List.getElem_mem hx)
        have h2 := HABH.out
        have h3 : (plE P0 a b).getD k2 0 = (plE P0 a b)[k2] := by simp [List.getD, List.getElem?_eq_getElem hx]
        have h4 : V = s * ((plE P0 a b)[k2] + 1) := by rw [HV.out]; simp [letL, List.getD, List.getElem?_eq_getElem hx]
        rw [h3, h4]
        rcases HS1.out with h5 | h5 <;> rw [h5] <;> omega
      obtain ⟨hv1, hv2, hv3, hv4⟩ := hVb
      have HV3 := Lib.hid hv3
      clear hv3 hv4
      refine wp_region_lastL (S := fun w' => w'.cell? ⟨g, 0, none⟩ = some (.slice Ae n2 ce) ∧ w'.cell? ⟨g4, o4 + k2, none⟩ = some (.int .i64 V)) _ (by simp) (by kernel_rfl) (by kernel_rfl) ⟨e0, c4k⟩ (fun hHeld => ?_)
      simp only [List.dropLast, List.getLast_cons_cons, List.getLast_singleton, List.length_cons, List.length_nil]
      refine wpAnyH_take (i := 0) (v := ?_) rfl (by kernel_rfl) (by kernel_rfl) (by kernel_rfl) (fun _ _ _ h => h) (Or.inl ⟨by rfl, ?_⟩) hHeld ?_
      rotate_left
      · (intro w0 hSw; (try dsimp only at hSw); go_simp <;> with_reducible rfl)
      simp only [List.getElem_toArray, List.getElem_cons_succ, List.getElem_cons_zero, Act.put, List.setIfInBounds_toArray, List.set_cons_zero, List.set_cons_succ]
      refine wpAnyH_take (i := 1) (v := ?_) rfl (by kernel_rfl) (by kernel_rfl) (by kernel_rfl) (fun _ _ _ h => h) (Or.inl ⟨by rfl, ?_⟩) hHeld ?_
      rotate_left
      · (intro w0 hSw; (try dsimp only at hSw); go_simp <;> with_reducible rfl)
      simp only [List.getElem_toArray, List.getElem_cons_succ, List.getElem_cons_zero, Act.put, List.setIfInBounds_toArray, List.set_cons_zero, List.set_cons_succ]
      refine wpAnyH_take (i := 2) (v := ?_) rfl (by kernel_rfl) (by kernel_rfl) (by kernel_rfl) (fun _ _ _ h => h) (Or.inl ⟨by rfl, ?_⟩) hHeld ?_
      rotate_left
      · (intro w0 hSw; (try dsimp only at hSw); go_simp <;> with_reducible rfl)
      simp only [List.getElem_toArray, List.getElem_cons_succ, List.getElem_cons_zero, Act.put, List.setIfInBounds_toArray, List.set_cons_zero, List.set_cons_succ]
      refine wpAnyH_take (i := 3) (v := ?_) rfl (by kernel_rfl) (by kernel_rfl) (by kernel_rfl) (fun _ _ _ h => h) (Or.inl ⟨by rfl, ?_⟩) hHeld ?_
      rotate_left
      · (intro w0 hSw; (try dsimp only at hSw); go_simp <;> with_reducible rfl)
      simp only [List.getElem_toArray, List.getElem_cons_succ, List.getElem_cons_zero, Act.put, List.setIfInBounds_toArray, List.set_cons_zero, List.set_cons_succ]
      refine wpAnyH_take (i := 4) (v := ?_) rfl (by kernel_rfl) (by kernel_rfl) (by kernel_rfl) (fun _ _ _ h => h) (Or.inl ⟨by rfl, ?_⟩) hHeld ?_
      rotate_left
      · (intro w0 hSw; (try dsimp only at hSw); go_simp <;> with_reducible rfl)
      simp only [List.getElem_toArray, List.getElem_cons_succ, List.getElem_cons_zero, Act.put, List.setIfInBounds_toArray, List.set_cons_zero, List.set_cons_succ]
      refine wpAnyH_take (i := 5) (v := ?_) rfl (by kernel_rfl) (by kernel_rfl) (by kernel_rfl) (fun _ _ _ h => h) (Or.inl ⟨by rfl, ?_⟩) hHeld ?_
      rotate_left
      · (intro w0 hSw; (try dsimp only at hSw); go_simp <;> with_reducible rfl)
      simp only [List.getElem_toArray, List.getElem_cons_succ, List.getElem_cons_zero, Act.put, List.setIfInBounds_toArray, List.set_cons_zero, List.set_cons_succ]
      refine wpAnyH_take (i := 6) (v := ?_) rfl (by kernel_rfl) (by kernel_rfl) (by kernel_rfl) (fun _ _ _ h => h) (Or.inl ⟨by rfl, ?_⟩) hHeld ?_
      rotate_left
      · (intro w0 hSw; (try dsimp only at hSw); go_simp <;> with_reducible rfl)
      simp only [List.getElem_toArray, List.getElem_cons_succ, List.getElem_cons_zero, Act.put, List.setIfInBounds_toArray, List.set_cons_zero, List.set_cons_succ]
      refine wpAnyH_take (i := 7) (v := ?_) rfl (by kernel_rfl) (by kernel_rfl) (by kernel_rfl) (fun _ _ _ h => h) (Or.inl ⟨by rfl, ?_⟩) hHeld ?_
      rotate_left
      · (intro w0 hSw; (try dsimp only at hSw); go_simp <;> with_reducible rfl)
      simp only [List.getElem_toArray, List.getElem_cons_succ, List.getElem_cons_zero, Act.put, List.setIfInBounds_toArray, List.set_cons_zero, List.set_cons_succ]
      refine wpAnyH_take (i := 8) (v := ?_) rfl (by kernel_rfl) (by kernel_rfl) (by kernel_rfl) (fun _ _ _ h => h) (Or.inl ⟨by rfl, ?_⟩) hHeld ?_
      rotate_left
      · (intro w0 hSw; (try dsimp only at hSw); go_simp <;> with_reducible rfl)
      simp only [List.getElem_toArray, List.getElem_cons_succ, List.getElem_cons_zero, Act.put, List.setIfInBounds_toArray, List.set_cons_zero, List.set_cons_succ]
      refine wpAnyH_take (i := 11) (v := ?_) rfl (by kernel_rfl) (by kernel_rfl) (by kernel_rfl) (fun _ _ _ h => h) (Or.inl ⟨by rfl, ?_⟩) hHeld ?_
      rotate_left
      · (intro w0 hSw; (try dsimp only at hSw); go_simp <;> with_reducible rfl)
      simp only [List.getElem_toArray, List.getElem_cons_succ, List.getElem_cons_zero, Act.put, List.setIfInBounds_toArray, List.set_cons_zero, List.set_cons_succ]
      refine wpAnyH_ready (rs := [9]) (by kernel_rfl) (by simp) ?_
      refine AllReadyH.cons rfl (fun K hK => ?_) AllReadyH.nil
      simp only [List.getElem_toArray, List.getElem_cons_succ, List.getElem_cons_zero]
      go_simp
      refine (l03Abs_any V _ (by omega)).mono ?_
      rintro e w1 ⟨rfl, rfl⟩
      refine hK.out _ _ ⟨e0, c4k⟩ (fun hHeld1 => ?_)
      clear hK K hHeld
      refine wpAnyH_take (i := 10) (v := ?_) rfl (by kernel_rfl) (by kernel_rfl) (by kernel_rfl) (fun _ _ _ h => h) (Or.inl ⟨by rfl, ?_⟩) hHeld1 ?_
      rotate_left
      · (intro w0 hSw; (try dsimp only at hSw); go_simp <;> with_reducible rfl)
      simp only [List.getElem_toArray, List.getElem_cons_succ, List.getElem_cons_zero, Act.put, List.setIfInBounds_toArray, List.set_cons_zero, List.set_cons_succ]
      refine wpAnyH_take (i := 12) (v := ?_) rfl (by kernel_rfl) (by kernel_rfl) (by kernel_rfl) (fun _ _ _ h => h) (Or.inl ⟨by rfl, ?_⟩) hHeld1 ?_
      rotate_left
      · (intro w0 hSw; (try dsimp only at hSw); go_simp <;> with_reducible rfl)
      simp only [List.getElem_toArray, List.getElem_cons_succ, List.getElem_cons_zero, Act.put, List.setIfInBounds_toArray, List.set_cons_zero, List.set_cons_succ]
      refine wpAnyH_ready (rs := [13]) (by kernel_rfl) (by simp) ?_
      refine AllReadyH.cons rfl (fun K hK => ?_) AllReadyH.nil
      simp only [List.getElem_toArray, List.getElem_cons_succ, List.getElem_cons_zero]
      go_simp
      refine hK.out _ _ (by go_keep) (fun hHeld2 => ?_)
      clear hK K hHeld1
      refine wpAnyH_ready (rs := [14]) (by kernel_rfl) (by simp) ?_
      refine AllReadyH.cons rfl (fun K hK => ?_) AllReadyH.nil
      simp only [List.getElem_toArray, List.getElem_cons_succ, List.getElem_cons_zero]
      refine step_appGb wr.drew (by rfl) (.tmp 48) (.tmp 57) _ (by rfl) B 96 i0 _ 6 48 Try.underlying26 hi0 iz is ib rfl (by omega) (.slice Ae n2 ce) n2 _ (by rfl) HS2.out.drew.e _ 1 1 [.int .i64 1, .int .i64 (IntKind.i64.wrap ((V.natAbs : Int) - 1)), .int .i64 s, .int .i64 0, .int .i64 0, .int .i64 0] (by rfl) rfl (by simp [Value.oneCell']) (by unfold maxLen; omega) (by omega) hBz ?_
      intro v2 w2 hown2 hfr2 hat2
      obtain ⟨A2, c2, rfl⟩ := own_form hown2
      have hob : ∀ bb, (Value.slice Ae n2 ce).ownBlock = some bb → tg2 bb = 2 := HS2.out.te
      have hgn : ¬ (Value.slice Ae n2 ce).ownBlock = some g := fun e => by have := hob _ e; have := HS2.out.tb; omega
      have hon : ¬ (Value.slice Ae n2 ce).ownBlock = some g4 := fun e => by have := hob _ e; have := (HF2.out g4 ⟨by omega, _, rfl, rfl⟩).1; omega
      have hlg := World.block_lt_of_cell? wr _ e0
      have hlo := World.block_lt_of_cell? wr _ c4k
      have k2m := (hfr2.cells hlg hgn 0).trans e0
      have k2r := (hfr2.cells hlo hon (o4 + k2)).trans c4k
      have k2f : w2.frozen? ⟨g, 0, none⟩ = false := (World.frozen?_of_block (w := wr.drew) (a := ⟨g, 0, none⟩) (hfr2.block g hlg hgn)).trans f0
      refine hK.out _ _ ⟨k2m, k2r⟩ (fun hHeld3 => ?_)
      clear hK K hHeld2
      have hfree : HFree tg2 (.slice A2 (n2 + 1) c2) 2 := fun bb hb => by
        rcases hat2 with h | h
        · exact .inr (hob bb (h.symm.trans hb))
        · refine .inl (Decidable.byContradiction fun hne => ?_)
          have h1 := HS2.out.lt bb hne
          rw [hb] at h
          injection h with h
          have h2 : wr.drew.heap.size = wr.heap.size := rfl
          omega
      have htk : (plE P0 a b).take (k2 + 1) = (plE P0 a b).take k2 ++ [(plE P0 a b).getD k2 0] := by
        have hx : k2 < (plE P0 a b).length := by omega
        rw [List.take_succ_eq_append_getElem hx]
        simp [List.getD, List.getElem?_eq_getElem hx]
      have hown3 : w2.ownsRow B 96 6 (.slice A2 (n2 + 1) c2) (n2 + 1) (ints (E ++ crossL s ((plE P0 a b).take (k2 + 1)))) := by
        rw [IntWalk.i64_in _ (by omega), HV3.out] at hown2
        rw [htk, crossL_app, ← List.append_assoc, ints_app]
        exact hown2
      have HM := Lib.hid (HS2.out.putE (w' := w2) (fun bb h0 h2 => hfr2.block bb (HS2.out.lt bb h0) fun e => h2 (hob bb e)) hfr2.size hown3 hfree (o := 0) rfl)
      have HBL := Lib.hid (Below.setCell (p := ⟨g, 0, none⟩) (HB2.out.trans (Below.trans ((Below.refl B wr).drew) (hfr2.own (w := wr.drew) HS2.out.e hBz))) HS2.out.lo (.slice A2 (n2 + 1) c2))
      have hfw : ∀ bb, Fb (some ⟨g4, o4, none⟩) N bb → (w2.setCell ⟨g, 0, none⟩ (.slice A2 (n2 + 1) c2)).heap[bb]? = wr.heap[bb]? := fun bb hb => by
        have h1 := HF2.out bb hb
        refine (hset_keep _ _ _ _ (by rintro rfl; have := HS2.out.tb; omega)).trans (hfr2.block bb h1.2 fun e => by have := hob bb e; omega)
      have HRW := Lib.hid ((rd_obj _ _ _).1 _ _ HR2.out hfw)
      have HFW := Lib.hid (show ∀ bb, Fb (some ⟨g4, o4, none⟩) N bb → hretag tg2 (.slice A2 (n2 + 1) c2) 2 bb = 0 ∧ bb < (w2.setCell ⟨g, 0, none⟩ (.slice A2 (n2 + 1) c2)).heap.size from fun bb hb => by
        have h1 := HF2.out bb hb
        have h3 := hfr2.size
        have h2 : wr.drew.heap.size = wr.heap.size := rfl
        refine ⟨?_, by rw [hset_size]; omega⟩
        unfold hretag
        rw [if_neg ?_]
        · exact h1.1
        · intro e
          rcases hat2 with h | h
          · have := hob bb (h.symm.trans e)
            omega
          · rw [e] at h
            injection h with h
            omega)
      clear hob hgn hon hlg hlo e0 c4k f0 hfree hfr2 hown2 hat2 hown3 htk hfw hn2 hkk
      refine wpAnyH_take (i := 15) (v := ?_) rfl (by kernel_rfl) (by kernel_rfl) (by kernel_rfl) (fun _ _ _ h => h) (Or.inl ⟨by rfl, ?_⟩) hHeld3 ?_
      rotate_left
      · (intro w0 hSw; (try dsimp only at hSw); go_simp <;> with_reducible rfl)
      simp only [List.getElem_toArray, List.getElem_cons_succ, List.getElem_cons_zero, Act.put, List.setIfInBounds_toArray, List.set_cons_zero, List.set_cons_succ]
      refine wpAnyH_take (i := 16) (v := ?_) rfl (by kernel_rfl) (by kernel_rfl) (by kernel_rfl) (fun _ _ _ h => h) (Or.inl ⟨by rfl, ?_⟩) hHeld3 ?_
      rotate_left
      · (intro w0 hSw; (try dsimp only at hSw); go_simp <;> with_reducible rfl)
      simp only [List.getElem_toArray, List.getElem_cons_succ, List.getElem_cons_zero, Act.put, List.setIfInBounds_toArray, List.set_cons_zero, List.set_cons_succ]
      refine wpAnyH_done (by kernel_rfl) ?_ _
      refine LastPost.of ?_
      go_simp
      clear hHeld3 k2r
      go_wp2_with fail
      go_roundw
      case rel => exact ⟨k2 + 1, _, _, n2 + 1, by omega, by go_num, HM, HRW, HFW, HBL⟩
      case measure => simp [intOf] <;> omega
    · obtain rfl : N = k2 := by omega
      obtain ⟨gi2, ci2, hU2, hci2, hgi2, hBi2, htg2, hcl2, hfr2⟩ := HS2.out.readO hi hL1
      rw [HU.out, HL.out] at hU2
      injection hU2 with e1 e2 e3
      injection e1 with e1
      injection e1 with e1
      subst e1 e3
      rw [HL.out] at hcl2
      have n1 : wr.cell? ⟨g, 1, none⟩ = some (.slice (some ⟨gc, 0, none⟩) q cap) := HS2.out.b.cell 1
      have HCL := Lib.hid hcl2
      have hBz : B ≤ wr.heap.size := Nat.le_trans hB HB2.out.size
      have hcfr := HS2.out.cFrozen i
      have HTK := Lib.hid (show (plE P0 a b).take N = plE P0 a b by rw [← HPL.out, List.take_length])
      clear hci2 htg2 hcl2 hfr2 m1 m2
      obtain ⟨j0, hj0, jz, js, jb⟩ := info_parts info64
      go_wp2_with fail
      refine wp_region_lastL (S := fun w' => w'.cell? ⟨g, 1, none⟩ = some (.slice (some ⟨gc, 0, none⟩) q cap)) _ (by simp) (by kernel_rfl) (by kernel_rfl) n1 (fun hHeld => ?_)
      simp only [List.dropLast, List.getLast_cons_cons, List.getLast_singleton, List.length_cons, List.length_nil]
      refine wpAnyH_take (i := 0) (v := ?_) rfl (by kernel_rfl) (by kernel_rfl) (by kernel_rfl) (fun _ _ _ h => h) (Or.inl ⟨by rfl, ?_⟩) hHeld ?_
      rotate_left
      · (intro w0 hSw; (try dsimp only at hSw); go_simp <;> with_reducible rfl)
      simp only [List.getElem_toArray, List.getElem_cons_succ, List.getElem_cons_zero, Act.put, List.setIfInBounds_toArray, List.set_cons_zero, List.set_cons_succ]
      refine wpAnyH_take (i := 1) (v := ?_) rfl (by kernel_rfl) (by kernel_rfl) (by kernel_rfl) (fun _ _ _ h => h) (Or.inl ⟨by rfl, ?_⟩) hHeld ?_
      rotate_left
      · (intro w0 hSw; (try dsimp only at hSw); go_simp <;> with_reducible rfl)
      simp only [List.getElem_toArray, List.getElem_cons_succ, List.getElem_cons_zero, Act.put, List.setIfInBounds_toArray, List.set_cons_zero, List.set_cons_succ]
      refine wpAnyH_take (i := 2) (v := ?_) rfl (by kernel_rfl) (by kernel_rfl) (by kernel_rfl) (fun _ _ _ h => h) (Or.inl ⟨by rfl, ?_⟩) hHeld ?_
      rotate_left
      · (intro w0 hSw; (try dsimp only at hSw); go_simp <;> with_reducible rfl)
      simp only [List.getElem_toArray, List.getElem_cons_succ, List.getElem_cons_zero, Act.put, List.setIfInBounds_toArray, List.set_cons_zero, List.set_cons_succ]
      refine wpAnyH_take (i := 3) (v := ?_) rfl (by kernel_rfl) (by kernel_rfl) (by kernel_rfl) (fun _ _ _ h => h) (Or.inl ⟨by rfl, ?_⟩) hHeld ?_
      rotate_left
      · (intro w0 hSw; (try dsimp only at hSw); go_simp <;> with_reducible rfl)
      simp only [List.getElem_toArray, List.getElem_cons_succ, List.getElem_cons_zero, Act.put, List.setIfInBounds_toArray, List.set_cons_zero, List.set_cons_succ]
      refine wpAnyH_take (i := 4) (v := ?_) rfl (by kernel_rfl) (by kernel_rfl) (by kernel_rfl) (fun _ _ _ h => h) (Or.inl ⟨by rfl, ?_⟩) hHeld ?_
      rotate_left
      · (intro w0 hSw; (try dsimp only at hSw); go_simp <;> with_reducible rfl)
      simp only [List.getElem_toArray, List.getElem_cons_succ, List.getElem_cons_zero, Act.put, List.setIfInBounds_toArray, List.set_cons_zero, List.set_cons_succ]
      refine wpAnyH_take (i := 5) (v := ?_) rfl (by kernel_rfl) (by kernel_rfl) (by kernel_rfl) (fun _ _ _ h => h) (Or.inl ⟨by rfl, ?_⟩) hHeld ?_
      rotate_left
      · (intro w0 hSw; (try dsimp only at hSw); go_simp <;> with_reducible rfl)
      simp only [List.getElem_toArray, List.getElem_cons_succ, List.getElem_cons_zero, Act.put, List.setIfInBounds_toArray, List.set_cons_zero, List.set_cons_succ]
      refine wpAnyH_take (i := 6) (v := ?_) rfl (by kernel_rfl) (by kernel_rfl) (by kernel_rfl) (fun _ _ _ h => h) (Or.inl ⟨by rfl, ?_⟩) hHeld ?_
      rotate_left
      · (intro w0 hSw; (try dsimp only at hSw); go_simp <;> with_reducible rfl)
      simp only [List.getElem_toArray, List.getElem_cons_succ, List.getElem_cons_zero, Act.put, List.setIfInBounds_toArray, List.set_cons_zero, List.set_cons_succ]
      refine wpAnyH_take (i := 7) (v := ?_) rfl (by kernel_rfl) (by kernel_rfl) (by kernel_rfl) (fun _ _ _ h => h) (Or.inl ⟨by rfl, ?_⟩) hHeld ?_
      rotate_left
      · (intro w0 hSw; (try dsimp only at hSw); go_simp <;> with_reducible rfl)
      simp only [List.getElem_toArray, List.getElem_cons_succ, List.getElem_cons_zero, Act.put, List.setIfInBounds_toArray, List.set_cons_zero, List.set_cons_succ]
      refine wpAnyH_take (i := 9) (v := ?_) rfl (by kernel_rfl) (by kernel_rfl) (by kernel_rfl) (fun _ _ _ h => h) (Or.inl ⟨by rfl, ?_⟩) hHeld ?_
      rotate_left
      · (intro w0 hSw; (try dsimp only at hSw); go_simp <;> with_reducible rfl)
      simp only [List.getElem_toArray, List.getElem_cons_succ, List.getElem_cons_zero, Act.put, List.setIfInBounds_toArray, List.set_cons_zero, List.set_cons_succ]
      refine wpAnyH_take (i := 10) (v := ?_) rfl (by kernel_rfl) (by kernel_rfl) (by kernel_rfl) (fun _ _ _ h => h) (Or.inl ⟨by rfl, ?_⟩) hHeld ?_
      rotate_left
      · (intro w0 hSw; (try dsimp only at hSw); go_simp <;> with_reducible rfl)
      simp only [List.getElem_toArray, List.getElem_cons_succ, List.getElem_cons_zero, Act.put, List.setIfInBounds_toArray, List.set_cons_zero, List.set_cons_succ]
      refine wpAnyH_take (i := 11) (v := ?_) rfl (by kernel_rfl) (by kernel_rfl) (by kernel_rfl) (fun _ _ _ h => h) (Or.inl ⟨by rfl, ?_⟩) hHeld ?_
      rotate_left
      · (intro w0 hSw; (try dsimp only at hSw); go_simp <;> with_reducible rfl)
      simp only [List.getElem_toArray, List.getElem_cons_succ, List.getElem_cons_zero, Act.put, List.setIfInBounds_toArray, List.set_cons_zero, List.set_cons_succ]
      refine wpAnyH_ready (rs := [8]) (by kernel_rfl) (by simp) ?_
      refine AllReadyH.cons rfl (fun K hK => ?_) AllReadyH.nil
      simp only [List.getElem_toArray, List.getElem_cons_succ, List.getElem_cons_zero]
      go_simp
      have ho1 := l00OwnC_any (some ⟨gi, 1, none⟩) (ci - 1) (L.drop 1) wr.drew (fun _ => ⟨gi, 1, rfl, hgi2, fun j hj => by
        have hj2 := HCRL.out
        have h9 := HCL.out (1 + j) (by have h8 := List.length_drop (i := 1) (l := L); omega)
        simp only [List.getD, List.getElem?_drop]
        exact h9⟩) (by have := HCRL.out; omega)
      rw [HCRL.out.1] at ho1
      refine ho1.mono ?_
      clear ho1
      rintro e w1 ⟨v1, rfl, ho1, hb1⟩
      have k1 : w1.cell? ⟨g, 1, none⟩ = some (.slice (some ⟨gc, 0, none⟩) q cap) := (HS2.out.drew.below hb1).b.cell 1
      refine hK.out _ _ k1 (fun hHeld1 => ?_)
      clear hK K hHeld
      refine wpAnyH_ready (rs := [12]) (by kernel_rfl) (by simp) ?_
      refine AllReadyH.cons rfl (fun K hK => ?_) AllReadyH.nil
      simp only [List.getElem_toArray, List.getElem_cons_succ, List.getElem_cons_zero]
      obtain ⟨A1, c1, rfl⟩ := own_form ho1
      refine step_appRg w1 (by rfl) (.tmp 69) (.tmp 72) _ (by rfl) wr.heap.size 2 j0 _ 1 8 Try.underlying41 hj0 jz js jb rfl (by omega) (.slice A1 1 c1) 1 (ints (L.drop 1)) (by rfl) ho1 (some ⟨gi, 0, none⟩) 1 ci (fun j => .int .i64 ((L.take 1).getD j 0)) (by rfl) (fun _ => ⟨gi, 0, rfl, Nat.lt_of_lt_of_le hgi2 hb1.size, fun j hj => by
        have h9 := at_below hb1 (g := gi) hgi2 (HCL.out j (by have h8 := List.length_take (i := 1) (l := L); have := HCRL.out; omega))
        rw [Nat.zero_add]
        simp only [List.getD, List.getElem?_take, if_pos (show j < 1 by omega)]
        exact h9⟩) (fun j => rfl) (by unfold maxLen; omega) (by omega) hb1.size ?_
      intro v2 w2 ho2 hfr2
      obtain ⟨A2, c2, rfl⟩ := own_form ho2
      have hnb : ∀ bb, (Value.slice A1 1 c1).ownBlock = some bb → wr.heap.size ≤ bb := fun bb hb => (ho1.lt bb hb).1
      have hHS2 : HkS 148 mkS B g tg2 ev2 (.slice (some ⟨gc, 0, none⟩) q cap) n2 q (E ++ crossL s ((plE P0 a b).take N)) U C w2 := (HS2.out.drew.below hb1).same (fun bb h0 => hfr2.block bb ((HS2.out.drew.below hb1).lt bb h0) fun e => by have := hnb bb e; have := HS2.out.lt bb h0; omega) hfr2.size
      have k2m : w2.cell? ⟨g, 1, none⟩ = some (.slice (some ⟨gc, 0, none⟩) q cap) := hHS2.b.cell 1
      refine hK.out _ _ k2m (fun hHeld2 => ?_)
      clear hK K hHeld1
      have hcf2 := hHS2.cFrozen i
      have hcc2 := hHS2.cellAt hi
      have hown : w2.ownsRow B 2 1 (.slice A2 (1 + 1) c2) (crs k L).length (ints (crs k L)) := by
        have h9 := own_base ho2 hBz
        have h8 : (crs k L).length = 1 + 1 := by have := HCRL.out; rw [HCR.out, List.length_append]; omega
        rw [h8, HCR.out, ints_app]
        rw [Nat.mul_one, ints_get (L.take 1) 1 HCRL.out.2] at h9
        exact h9
      have HM := Lib.hid (hHS2.setC hi hown fun bb hb => Decidable.byContradiction fun hne => by have h1 := (ho2.lt bb hb).1; have h2 := HS2.out.lt bb hne; omega)
      have HBW : Hid (Below B w2 (w2.setCell ⟨gc, i, none⟩ (.slice A2 (1 + 1) c2))) := Lib.hid ((Below.refl B w2).setCell (p := ⟨gc, i, none⟩) (hHS2.c.lt gc rfl).1 _)
      have HBL := Lib.hid ((HB2.out.trans ((((Below.refl wr.heap.size wr).drew.trans hb1).trans (hfr2.own ho1 hb1.size)).mono hBz)).trans HBW.out)
      clear hHS2 hown ho1 ho2 hfr2 hb1 hnb
      refine wpAnyH_take (i := 13) (v := ?_) rfl (by kernel_rfl) (by kernel_rfl) (by kernel_rfl) (fun _ _ _ h => h) (Or.inl ⟨by rfl, ?_⟩) hHeld2 ?_
      rotate_left
      · (intro w0 hSw; (try dsimp only at hSw); go_simp <;> with_reducible rfl)
      simp only [List.getElem_toArray, List.getElem_cons_succ, List.getElem_cons_zero, Act.put, List.setIfInBounds_toArray, List.set_cons_zero, List.set_cons_succ]
      refine wpAnyH_done (by kernel_rfl) ?_ _
      refine LastPost.of ?_
      go_simp
      clear hHeld2 k2m
      go_wp2_with fail
      go_end0
      have h9 : HkM 148 mkS B g q (E ++ crossL s ((plE P0 a b).take N)) (hupd C i (crs k L)) _ := ⟨_, _, _, _, _, HM.out⟩
      rw [HTK.out, ← HE.out] at h9
      rw [← HP0.out]
      exact ⟨rfl, h9, HBL.out⟩
end
end Go.Proofs.Ytfncdogbpmiomaa

namespace Go.Proofs.Ytfncdogbpmiomaa
open Go.RowKit
set_option maxRecDepth 20000

section
variable [Inhabited HKeepT] {B g q : Nat} {E : List Int} {C : Nat → List Int} {w : World}
set_option maxHeartbeats 1000000 in
theorem specCross2_any (i : Nat) (k : Int) (L : List Int) (H : HkM 148 mkS B g q E C w) (hB : B ≤ w.heap.size) (hE : E.length ≤ 500000) (hi : i < q) (hC : SmlC C q) (HL : Hid (C i = L)) (hl : L.length = 4) (hs : sumI L ≤ 100) (s : Int) (hs1 : s = 1 ∨ s = -1) (h0 : signI k = s) :
    Calls Try.prog 102 #[.pointer (some ⟨g, 0, none⟩), .int .i64 i, .int .i64 k] w (HkP 148 mkS B g q (E ++ crsE (befI C i) k L) (hupd C i (crs k L)) w) := by
  have HS := Lib.hid h0
  have HS1 := Lib.hid hs1
  have hbef := hC.bef (show i ≤ q by omega)
  have HC := Lib.hid hC
  have HSM := Lib.hid (show Sml L by rw [← HL.out]; exact hC.2 i hi)
  obtain ⟨P0, hP0⟩ : ∃ P, P = befI C i := ⟨_, rfl⟩
  rw [← hP0] at hbef
  have HP0 := Lib.hid hP0
  obtain ⟨tg, ev, cl, n, U, H⟩ := H
  obtain ⟨gc, cap, rfl⟩ := H.form (by omega)
  have hL1 : 0 < (C i).length := by rw [HL.out]; omega
  obtain ⟨gi, ci, hU, hci, hgi, hBi, htg, hcl, hfr⟩ := H.readO hi hL1
  have m1 : w.cell? ⟨g, 1, none⟩ = some (.slice (some ⟨gc, 0, none⟩) q cap) := H.b.cell 1
  have m2 := H.cellAt hi
  rw [hU, HL.out, hl] at m2
  rw [HL.out, hl] at hci hcl
  have hne : ¬ ci = 2 := by omega
  have hci1 : (2 : Int) ≤ (ci : Int) := by omega
  have b1 : (0 : Int) ≤ (i : Int) := by omega
  have b2 : (i : Int) < (q : Int) := by omega
  have hsN : s ≠ 0 := by rcases hs1 with rfl | rfl <;> decide
  have hsb : (s == 0) = false := by simpa using hsN
  obtain ⟨a, ha⟩ : ∃ a, a = (sumI (L.take 2)).toNat := ⟨_, rfl⟩
  obtain ⟨b, hb⟩ : ∃ b, b = (sumI (L.drop 2)).toNat := ⟨_, rfl⟩
  have hsum : sumI L = sumI (L.take 2) + sumI (L.drop 2) := by rw [← sumI_app, List.take_append_drop]
  have hta := (HSM.out.take 2).sum
  have htb := (HSM.out.drop 2).sum
  have ha2 : sumI (L.take 2) = (a : Int) := by omega
  have hb2 : sumI (L.drop 2) = (b : Int) := by omega
  have hab : a ≤ 100 ∧ b ≤ 100 := by omega
  have hq1 : Calls Try.prog 105 #[.pointer (some ⟨g, 0, none⟩), .int .i64 i] w.drew fun e w' => e = .returned (.int .i64 P0) ∧ w.drew = w' := (before_any i H.drew (by omega) HC.out).mono fun _ _ h => ⟨by rw [h.1, HP0.out], h.2⟩
  have hq2 : Calls Try.prog 156 #[.slice (some ⟨gi, 0, none⟩) 2 ci] w.drew fun e w' => e = .returned (.int .i64 a) ∧ w.drew = w' := (l17Sum_any (some ⟨gi, 0, none⟩) 2 ci (L.take 2) w.drew (by simp; omega) (fun _ => ⟨gi, 0, rfl, hgi, fun j hj => by
    have := hcl j (by omega)
    rw [Nat.zero_add]
    simp only [List.getD, List.getElem?_take, if_pos hj]
    exact this⟩) (HSM.out.take 2)).mono fun _ _ h => ⟨by rw [h.1, ha2], h.2⟩
  have hq3 : Calls Try.prog 156 #[.slice (some ⟨gi, 2, none⟩) 2 (ci - 2)] w.drew fun e w' => e = .returned (.int .i64 b) ∧ w.drew = w' := (l17Sum_any (some ⟨gi, 2, none⟩) 2 (ci - 2) (L.drop 2) w.drew (by simp; omega) (fun _ => ⟨gi, 2, rfl, hgi, fun j hj => by
    have := hcl (2 + j) (by omega)
    simp only [List.getD, List.getElem?_drop]
    exact this⟩) (HSM.out.drop 2)).mono fun _ _ h => ⟨by rw [h.1, hb2], h.2⟩
  have HQ1 := Lib.hid hq1
  have HQ2 := Lib.hid hq2
  have HQ3 := Lib.hid hq3
  have HH := Lib.hid H
  have HU := Lib.hid hU
  have hL2 : L.length / 2 = 2 := by omega
  have HE := Lib.hid (show crsE P0 k L = crossL s (plE P0 a b) by rw [crsE, if_neg (by rw [h0]; exact hsN), hL2, h0, ha, hb])
  have HCR := Lib.hid (show crs k L = L.drop 2 ++ L.take 2 by rw [crs, if_neg (by rw [h0]; exact hsN), hL2])
  have HCRL := Lib.hid (show (L.drop 2).length = 2 ∧ (L.take 2).length = 2 by simp [hl])
  clear hL2
  clear hq1 hq2 hq3 H h0 hs1 hP0 hC ha hb hsum hta htb ha2 hb2 hU htg hcl hfr hs hsN hl
  go_enter Try.func102, Try.ntmps102
  go_wp2_with fail
  refine (l17Sign_any k _).mono ?_
  rintro e w' ⟨rfl, rfl⟩
  rw [HS.out]
  go_wp2_with fail
  go_region_held3 (fun _ => True) (trivial) (first
    | (go_at_call 105; refine HQ1.out.mono ?_; rintro e w' ⟨rfl, rfl⟩)
    | (go_at_call_of 156 (Value.slice (some ⟨gi, 0, none⟩) 2 ci); refine HQ2.out.mono ?_; rintro e w' ⟨rfl, rfl⟩)
    | (go_at_call 156; refine HQ3.out.mono ?_; rintro e w' ⟨rfl, rfl⟩)
    | (go_at_call 155; refine (l03Swap_any P0 a b s _ hbef (by omega) (by omega) HS1.out).mono ?_; rintro e w4 ⟨A4, c4, rfl, hc4, hn4⟩))
  have HN4 := Lib.hid hn4
  have HABH := Lib.hid hab
  have hNab : b * a ≤ 10000 := Nat.le_trans (Nat.mul_le_mul hab.2 hab.1) (by omega)
  have hlen : (plE P0 a b).length = b * a := plE_length P0 a b
  obtain ⟨N, hN⟩ : ∃ N, N = b * a := ⟨_, rfl⟩
  rw [← hN] at HN4 hNab hlen hc4 ⊢
  have HNN := Lib.hid hN
  clear hn4 hN
  obtain ⟨i0, hi0, iz, is, ib⟩ := info_parts infoEvent
  have hszw : w.heap.size ≤ w4.heap.size := HN4.out.bl.size
  have HPL := Lib.hid hlen
  clear hlen
  go_wp2_with fail
  go_loopw [10] (fun x wr => ∃ (k : Nat) (tg : Nat → Nat) (ev : Value) (n : Nat), k ≤ N ∧ x = .int .i64 k ∧ Hid (HkS 148 mkS B g tg ev (.slice (some ⟨gc, 0, none⟩) q cap) n q (E ++ crossL s ((plE P0 a b).take k)) U C wr) ∧ Hid (Rd wr A4 N (fun j => .int .i64 ((letL s (plE P0 a b)).getD j 0))) ∧ Hid (∀ bb, Fb A4 N bb → tg bb = 0 ∧ bb < wr.heap.size) ∧ Hid (Below B w wr)) (fun x _ => N - (intOf x).toNat)
  case atStart => exact ⟨0, tg, ev, n, Nat.zero_le _, rfl, Lib.hid (by simp only [List.take_zero, crossL, List.append_nil]; exact HH.out.drew.below HN4.out.bl), Lib.hid HN4.out.rd, Lib.hid (fun bb ⟨_, ad, e, hb⟩ => ⟨Decidable.byContradiction fun hne => by have h1 := HH.out.lt bb hne; have h2 := HN4.out.ab ad e; have h3 : w.drew.heap.size = w.heap.size := rfl; omega, hb ▸ HN4.out.bb ad e⟩), Lib.hid (((Below.refl B w).drew).trans (HN4.out.bl.mono hB))⟩
  case round =>
    obtain ⟨k2, tg2, ev2, n2, hk2, rfl, HS2, HR2, HF2, HB2⟩ := hrel
    by_cases hlt : k2 < N
    · obtain ⟨g4, o4, rfl, hg4, hr4⟩ := HR2.out (by omega)
      have c4k := hr4 k2 hlt
      obtain ⟨Ae, ce, rfl⟩ := own_form HS2.out.e
      have e0 : wr.cell? ⟨g, 0, none⟩ = some (.slice Ae n2 ce) := HS2.out.b.cell 0
      have f0 : wr.frozen? ⟨g, 0, none⟩ = false := HS2.out.b.frozen 0
      obtain ⟨V, hV⟩ : ∃ V, V = (letL s (plE P0 a b)).getD k2 0 := ⟨_, rfl⟩
      simp only [← hV] at c4k
      have HV := Lib.hid hV
      clear hV hr4
      go_wp2_with fail
      have hBz : B ≤ wr.heap.size := Nat.le_trans hB HB2.out.size
      have hn2 := HS2.out.len
      have hkk := HPL.out
      have hn2b : n2 ≤ 1048576 := by
        simp only [List.length_append, crossL_length, List.length_take] at hn2
        omega
      have hVb : -1000000000 - 1000 ≤ V ∧ V ≤ 1000000000 + 1000 ∧ (V.natAbs : Int) - 1 = (plE P0 a b).getD k2 0 ∧ V = s * ((plE P0 a b).getD k2 0 + 1) := by
        have hx : k2 < (plE P0 a b).length := by omega
        have h1 := plE_bounds (p := P0) (a := a) (t := b) (plE P0 a b)[k2] (List.getElem_mem hx)
        have h2 := HABH.out
        have h3 : (plE P0 a b).getD k2 0 = (plE P0 a b)[k2] := by simp [List.getD, List.getElem?_eq_getElem hx]
        have h4 : V = s * ((plE P0 a b)[k2] + 1) := by rw [HV.out]; simp [letL, List.getD, List.getElem?_eq_getElem hx]
        rw [h3, h4]
        rcases HS1.out with h5 | h5 <;> rw [h5] <;> omega
      obtain ⟨hv1, hv2, hv3, hv4⟩ := hVb
      have HV3 := Lib.hid hv3
      clear hv3 hv4
      refine wp_region_lastL (S := fun w' => w'.cell? ⟨g, 0, none⟩ = some (.slice Ae n2 ce) ∧ w'.cell? ⟨g4, o4 + k2, none⟩ = some (.int .i64 V)) _ (by simp) (by kernel_rfl) (by kernel_rfl) ⟨e0, c4k⟩ (fun hHeld => ?_)
      simp only [List.dropLast, List.getLast_cons_cons, List.getLast_singleton, List.length_cons, List.length_nil]
      refine wpAnyH_take (i := 0) (v := ?_) rfl (by kernel_rfl) (by kernel_rfl) (by kernel_rfl) (fun _ _ _ h => h) (Or.inl ⟨by rfl, ?_⟩) hHeld ?_
      rotate_left
      · (intro w0 hSw; (try dsimp only at hSw); go_simp <;> with_reducible rfl)
      simp only [List.getElem_toArray, List.getElem_cons_succ, List.getElem_cons_zero, Act.put, List.setIfInBounds_toArray, List.set_cons_zero, List.set_cons_succ]
      refine wpAnyH_take (i := 1) (v := ?_) rfl (by kernel_rfl) (by kernel_rfl) (by kernel_rfl) (fun _ _ _ h => h) (Or.inl ⟨by rfl, ?_⟩) hHeld ?_
      rotate_left
      · (intro w0 hSw; (try dsimp only at hSw); go_simp <;> with_reducible rfl)
      simp only [List.getElem_toArray, List.getElem_cons_succ, List.getElem_cons_zero, Act.put, List.setIfInBounds_toArray, List.set_cons_zero, List.set_cons_succ]
      refine wpAnyH_take (i := 2) (v := ?_) rfl (by kernel_rfl) (by kernel_rfl) (by kernel_rfl) (fun _ _ _ h => h) (Or.inl ⟨by rfl, ?_⟩) hHeld ?_
      rotate_left
      · (intro w0 hSw; (try dsimp only at hSw); go_simp <;> with_reducible rfl)
      simp only [List.getElem_toArray, List.getElem_cons_succ, List.getElem_cons_zero, Act.put, List.setIfInBounds_toArray, List.set_cons_zero, List.set_cons_succ]
      refine wpAnyH_take (i := 3) (v := ?_) rfl (by kernel_rfl) (by kernel_rfl) (by kernel_rfl) (fun _ _ _ h => h) (Or.inl ⟨by rfl, ?_⟩) hHeld ?_
      rotate_left
      · (intro w0 hSw; (try dsimp only at hSw); go_simp <;> with_reducible rfl)
      simp only [List.getElem_toArray, List.getElem_cons_succ, List.getElem_cons_zero, Act.put, List.setIfInBounds_toArray, List.set_cons_zero, List.set_cons_succ]
      refine wpAnyH_take (i := 4) (v := ?_) rfl (by kernel_rfl) (by kernel_rfl) (by kernel_rfl) (fun _ _ _ h => h) (Or.inl ⟨by rfl, ?_⟩) hHeld ?_
      rotate_left
      · (intro w0 hSw; (try dsimp only at hSw); go_simp <;> with_reducible rfl)
      simp only [List.getElem_toArray, List.getElem_cons_succ, List.getElem_cons_zero, Act.put, List.setIfInBounds_toArray, List.set_cons_zero, List.set_cons_succ]
      refine wpAnyH_take (i := 5) (v := ?_) rfl (by kernel_rfl) (by kernel_rfl) (by kernel_rfl) (fun _ _ _ h => h) (Or.inl ⟨by rfl, ?_⟩) hHeld ?_
      rotate_left
      · (intro w0 hSw; (try dsimp only at hSw); go_simp <;> with_reducible rfl)
      simp only [List.getElem_toArray, List.getElem_cons_succ, List.getElem_cons_zero, Act.put, List.setIfInBounds_toArray, List.set_cons_zero, List.set_cons_succ]
      refine wpAnyH_take (i := 6) (v := ?_) rfl (by kernel_rfl) (by kernel_rfl) (by kernel_rfl) (fun _ _ _ h => h) (Or.inl ⟨by rfl, ?_⟩) hHeld ?_
      rotate_left
      · (intro w0 hSw; (try dsimp only at hSw); go_simp <;> with_reducible rfl)
      simp only [List.getElem_toArray, List.getElem_cons_succ, List.getElem_cons_zero, Act.put, List.setIfInBounds_toArray, List.set_cons_zero, List.set_cons_succ]
      refine wpAnyH_take (i := 7) (v := ?_) rfl (by kernel_rfl) (by kernel_rfl) (by kernel_rfl) (fun _ _ _ h => h) (Or.inl ⟨by rfl, ?_⟩) hHeld ?_
      rotate_left
      · (intro w0 hSw; (try dsimp only at hSw); go_simp <;> with_reducible rfl)
      simp only [List.getElem_toArray, List.getElem_cons_succ, List.getElem_cons_zero, Act.put, List.setIfInBounds_toArray, List.set_cons_zero, List.set_cons_succ]
      refine wpAnyH_take (i := 8) (v := ?_) rfl (by kernel_rfl) (by kernel_rfl) (by kernel_rfl) (fun _ _ _ h => h) (Or.inl ⟨by rfl, ?_⟩) hHeld ?_
      rotate_left
      · (intro w0 hSw; (try dsimp only at hSw); go_simp <;> with_reducible rfl)
      simp only [List.getElem_toArray, List.getElem_cons_succ, List.getElem_cons_zero, Act.put, List.setIfInBounds_toArray, List.set_cons_zero, List.set_cons_succ]
      refine wpAnyH_take (i := 11) (v := ?_) rfl (by kernel_rfl) (by kernel_rfl) (by kernel_rfl) (fun _ _ _ h => h) (Or.inl ⟨by rfl, ?_⟩) hHeld ?_
      rotate_left
      · (intro w0 hSw; (try dsimp only at hSw); go_simp <;> with_reducible rfl)
      simp only [List.getElem_toArray, List.getElem_cons_succ, List.getElem_cons_zero, Act.put, List.setIfInBounds_toArray, List.set_cons_zero, List.set_cons_succ]
      refine wpAnyH_ready (rs := [9]) (by kernel_rfl) (by simp) ?_
      refine AllReadyH.cons rfl (fun K hK => ?_) AllReadyH.nil
      simp only [List.getElem_toArray, List.getElem_cons_succ, List.getElem_cons_zero]
      go_simp
      refine (l03Abs_any V _ (by omega)).mono ?_
      rintro e w1 ⟨rfl, rfl⟩
      refine hK.out _ _ ⟨e0, c4k⟩ (fun hHeld1 => ?_)
      clear hK K hHeld
      refine wpAnyH_take (i := 10) (v := ?_) rfl (by kernel_rfl) (by kernel_rfl) (by kernel_rfl) (fun _ _ _ h => h) (Or.inl ⟨by rfl, ?_⟩) hHeld1 ?_
      rotate_left
      · (intro w0 hSw; (try dsimp only at hSw); go_simp <;> with_reducible rfl)
      simp only [List.getElem_toArray, List.getElem_cons_succ, List.getElem_cons_zero, Act.put, List.setIfInBounds_toArray, List.set_cons_zero, List.set_cons_succ]
      refine wpAnyH_take (i := 12) (v := ?_) rfl (by kernel_rfl) (by kernel_rfl) (by kernel_rfl) (fun _ _ _ h => h) (Or.inl ⟨by rfl, ?_⟩) hHeld1 ?_
      rotate_left
      · (intro w0 hSw; (try dsimp only at hSw); go_simp <;> with_reducible rfl)
      simp only [List.getElem_toArray, List.getElem_cons_succ, List.getElem_cons_zero, Act.put, List.setIfInBounds_toArray, List.set_cons_zero, List.set_cons_succ]
      refine wpAnyH_ready (rs := [13]) (by kernel_rfl) (by simp) ?_
      refine AllReadyH.cons rfl (fun K hK => ?_) AllReadyH.nil
      simp only [List.getElem_toArray, List.getElem_cons_succ, List.getElem_cons_zero]
      go_simp
      refine hK.out _ _ (by go_keep) (fun hHeld2 => ?_)
      clear hK K hHeld1
      refine wpAnyH_ready (rs := [14]) (by kernel_rfl) (by simp) ?_
      refine AllReadyH.cons rfl (fun K hK => ?_) AllReadyH.nil
      simp only [List.getElem_toArray, List.getElem_cons_succ, List.getElem_cons_zero]
      refine step_appGb wr.drew (by rfl) (.tmp 48) (.tmp 57) _ (by rfl) B 96 i0 _ 6 48 Try.underlying26 hi0 iz is ib rfl (by omega) (.slice Ae n2 ce) n2 _ (by rfl) HS2.out.drew.e _ 1 1 [.int .i64 1, .int .i64 (IntKind.i64.wrap ((V.natAbs : Int) - 1)), .int .i64 s, .int .i64 0, .int .i64 0, .int .i64 0] (by rfl) rfl (by simp [Value.oneCell']) (by unfold maxLen; omega) (by omega) hBz ?_
      intro v2 w2 hown2 hfr2 hat2
      obtain ⟨A2, c2, rfl⟩ := own_form hown2
      have hob : ∀ bb, (Value.slice Ae n2 ce).ownBlock = some bb → tg2 bb = 2 := HS2.out.te
      have hgn : ¬ (Value.slice Ae n2 ce).ownBlock = some g := fun e => by have := hob _ e; have := HS2.out.tb; omega
      have hon : ¬ (Value.slice Ae n2 ce).ownBlock = some g4 := fun e => by have := hob _ e; have := (HF2.out g4 ⟨by omega, _, rfl, rfl⟩).1; omega
      have hlg := World.block_lt_of_cell? wr _ e0
      have hlo := World.block_lt_of_cell? wr _ c4k
      have k2m := (hfr2.cells hlg hgn 0).trans e0
      have k2r := (hfr2.cells hlo hon (o4 + k2)).trans c4k
      have k2f : w2.frozen? ⟨g, 0, none⟩ = false := (World.frozen?_of_block (w := wr.drew) (a := ⟨g, 0, none⟩) (hfr2.block g hlg hgn)).trans f0
      refine hK.out _ _ ⟨k2m, k2r⟩ (fun hHeld3 => ?_)
      clear hK K hHeld2
      have hfree : HFree tg2 (.slice A2 (n2 + 1) c2) 2 := fun bb hb => by
        rcases hat2 with h | h
        · exact .inr (hob bb (h.symm.trans hb))
        · refine .inl (Decidable.byContradiction fun hne => ?_)
          have h1 := HS2.out.lt bb hne
          rw [hb] at h
          injection h with h
          have h2 : wr.drew.heap.size = wr.heap.size := rfl
          omega
      have htk : (plE P0 a b).take (k2 + 1) = (plE P0 a b).take k2 ++ [(plE P0 a b).getD k2 0] := by
        have hx : k2 < (plE P0 a b).length := by omega
        rw [List.take_succ_eq_append_getElem hx]
        simp [List.getD, List.getElem?_eq_getElem hx]
      have hown3 : w2.ownsRow B 96 6 (.slice A2 (n2 + 1) c2) (n2 + 1) (ints (E ++ crossL s ((plE P0 a b).take (k2 + 1)))) := by
        rw [IntWalk.i64_in _ (by omega), HV3.out] at hown2
        rw [htk, crossL_app, ← List.append_assoc, ints_app]
        exact hown2
      have HM := Lib.hid (HS2.out.putE (w' := w2) (fun bb h0 h2 => hfr2.block bb (HS2.out.lt bb h0) fun e => h2 (hob bb e)) hfr2.size hown3 hfree (o := 0) rfl)
      have HBL := Lib.hid (Below.setCell (p := ⟨g, 0, none⟩) (HB2.out.trans (Below.trans ((Below.refl B wr).drew) (hfr2.own (w := wr.drew) HS2.out.e hBz))) HS2.out.lo (.slice A2 (n2 + 1) c2))
      have hfw : ∀ bb, Fb (some ⟨g4, o4, none⟩) N bb → (w2.setCell ⟨g, 0, none⟩ (.slice A2 (n2 + 1) c2)).heap[bb]? = wr.heap[bb]? := fun bb hb => by
        have h1 := HF2.out bb hb
        refine (hset_keep _ _ _ _ (by rintro rfl; have := HS2.out.tb; omega)).trans (hfr2.block bb h1.2 fun e => by have := hob bb e; omega)
      have HRW := Lib.hid ((rd_obj _ _ _).1 _ _ HR2.out hfw)
      have HFW := Lib.hid (show ∀ bb, Fb (some ⟨g4, o4, none⟩) N bb → hretag tg2 (.slice A2 (n2 + 1) c2) 2 bb = 0 ∧ bb < (w2.setCell ⟨g, 0, none⟩ (.slice A2 (n2 + 1) c2)).heap.size from fun bb hb => by
        have h1 := HF2.out bb hb
        have h3 := hfr2.size
        have h2 : wr.drew.heap.size = wr.heap.size := rfl
        refine ⟨?_, by rw [hset_size]; omega⟩
        unfold hretag
        rw [if_neg ?_]
        · exact h1.1
        · intro e
          rcases hat2 with h | h
          · have := hob bb (h.symm.trans e)
            omega
          · rw [e] at h
            injection h with h
            omega)
      clear hob hgn hon hlg hlo e0 c4k f0 hfree hfr2 hown2 hat2 hown3 htk hfw hn2 hkk
      refine wpAnyH_take (i := 15) (v := ?_) rfl (by kernel_rfl) (by kernel_rfl) (by kernel_rfl) (fun _ _ _ h => h) (Or.inl ⟨by rfl, ?_⟩) hHeld3 ?_
      rotate_left
      · (intro w0 hSw; (try dsimp only at hSw); go_simp <;> with_reducible rfl)
      simp only [List.getElem_toArray, List.getElem_cons_succ, List.getElem_cons_zero, Act.put, List.setIfInBounds_toArray, List.set_cons_zero, List.set_cons_succ]
      refine wpAnyH_take (i := 16) (v := ?_) rfl (by kernel_rfl) (by kernel_rfl) (by kernel_rfl) (fun _ _ _ h => h) (Or.inl ⟨by rfl, ?_⟩) hHeld3 ?_
      rotate_left
      · (intro w0 hSw; (try dsimp only at hSw); go_simp <;> with_reducible rfl)
      simp only [List.getElem_toArray, List.getElem_cons_succ, List.getElem_cons_zero, Act.put, List.setIfInBounds_toArray, List.set_cons_zero, List.set_cons_succ]
      refine wpAnyH_done (by kernel_rfl) ?_ _
      refine LastPost.of ?_
      go_simp
      clear hHeld3 k2r
      go_wp2_with fail
      go_roundw
      case rel => exact ⟨k2 + 1, _, _, n2 + 1, by omega, by go_num, HM, HRW, HFW, HBL⟩
      case measure => simp [intOf] <;> omega
    · obtain rfl : N = k2 := by omega
      obtain ⟨gi2, ci2, hU2, hci2, hgi2, hBi2, htg2, hcl2, hfr2⟩ := HS2.out.readO hi hL1
      rw [HU.out, HL.out] at hU2
      injection hU2 with e1 e2 e3
      injection e1 with e1
      injection e1 with e1
      subst e1 e3
      rw [HL.out] at hcl2
      have n1 : wr.cell? ⟨g, 1, none⟩ = some (.slice (some ⟨gc, 0, none⟩) q cap) := HS2.out.b.cell 1
      have HCL := Lib.hid hcl2
      have hBz : B ≤ wr.heap.size := Nat.le_trans hB HB2.out.size
      have hcfr := HS2.out.cFrozen i
      have HTK := Lib.hid (show (plE P0 a b).take N = plE P0 a b by rw [← HPL.out, List.take_length])
      clear hci2 htg2 hcl2 hfr2 m1 m2
      obtain ⟨j0, hj0, jz, js, jb⟩ := info_parts info64
      go_wp2_with fail
      refine wp_region_lastL (S := fun w' => w'.cell? ⟨g, 1, none⟩ = some (.slice (some ⟨gc, 0, none⟩) q cap)) _ (by simp) (by kernel_rfl) (by kernel_rfl) n1 (fun hHeld => ?_)
      simp only [List.dropLast, List.getLast_cons_cons, List.getLast_singleton, List.length_cons, List.length_nil]
      refine wpAnyH_take (i := 0) (v := ?_) rfl (by kernel_rfl) (by kernel_rfl) (by kernel_rfl) (fun _ _ _ h => h) (Or.inl ⟨by rfl, ?_⟩) hHeld ?_
      rotate_left
      · (intro w0 hSw; (try dsimp only at hSw); go_simp <;> with_reducible rfl)
      simp only [List.getElem_toArray, List.getElem_cons_succ, List.getElem_cons_zero, Act.put, List.setIfInBounds_toArray, List.set_cons_zero, List.set_cons_succ]
      refine wpAnyH_take (i := 1) (v := ?_) rfl (by kernel_rfl) (by kernel_rfl) (by kernel_rfl) (fun _ _ _ h => h) (Or.inl ⟨by rfl, ?_⟩) hHeld ?_
      rotate_left
      · (intro w0 hSw; (try dsimp only at hSw); go_simp <;> with_reducible rfl)
      simp only [List.getElem_toArray, List.getElem_cons_succ, List.getElem_cons_zero, Act.put, List.setIfInBounds_toArray, List.set_cons_zero, List.set_cons_succ]
      refine wpAnyH_take (i := 2) (v := ?_) rfl (by kernel_rfl) (by kernel_rfl) (by kernel_rfl) (fun _ _ _ h => h) (Or.inl ⟨by rfl, ?_⟩) hHeld ?_
      rotate_left
      · (intro w0 hSw; (try dsimp only at hSw); go_simp <;> with_reducible rfl)
      simp only [List.getElem_toArray, List.getElem_cons_succ, List.getElem_cons_zero, Act.put, List.setIfInBounds_toArray, List.set_cons_zero, List.set_cons_succ]
      refine wpAnyH_take (i := 3) (v := ?_) rfl (by kernel_rfl) (by kernel_rfl) (by kernel_rfl) (fun _ _ _ h => h) (Or.inl ⟨by rfl, ?_⟩) hHeld ?_
      rotate_left
      · (intro w0 hSw; (try dsimp only at hSw); go_simp <;> with_reducible rfl)
      simp only [List.getElem_toArray, List.getElem_cons_succ, List.getElem_cons_zero, Act.put, List.setIfInBounds_toArray, List.set_cons_zero, List.set_cons_succ]
      refine wpAnyH_take (i := 4) (v := ?_) rfl (by kernel_rfl) (by kernel_rfl) (by kernel_rfl) (fun _ _ _ h => h) (Or.inl ⟨by rfl, ?_⟩) hHeld ?_
      rotate_left
      · (intro w0 hSw; (try dsimp only at hSw); go_simp <;> with_reducible rfl)
      simp only [List.getElem_toArray, List.getElem_cons_succ, List.getElem_cons_zero, Act.put, List.setIfInBounds_toArray, List.set_cons_zero, List.set_cons_succ]
      refine wpAnyH_take (i := 5) (v := ?_) rfl (by kernel_rfl) (by kernel_rfl) (by kernel_rfl) (fun _ _ _ h => h) (Or.inl ⟨by rfl, ?_⟩) hHeld ?_
      rotate_left
      · (intro w0 hSw; (try dsimp only at hSw); go_simp <;> with_reducible rfl)
      simp only [List.getElem_toArray, List.getElem_cons_succ, List.getElem_cons_zero, Act.put, List.setIfInBounds_toArray, List.set_cons_zero, List.set_cons_succ]
      refine wpAnyH_take (i := 6) (v := ?_) rfl (by kernel_rfl) (by kernel_rfl) (by kernel_rfl) (fun _ _ _ h => h) (Or.inl ⟨by rfl, ?_⟩) hHeld ?_
      rotate_left
      · (intro w0 hSw; (try dsimp only at hSw); go_simp <;> with_reducible rfl)
      simp only [List.getElem_toArray, List.getElem_cons_succ, List.getElem_cons_zero, Act.put, List.setIfInBounds_toArray, List.set_cons_zero, List.set_cons_succ]
      refine wpAnyH_take (i := 7) (v := ?_) rfl (by kernel_rfl) (by kernel_rfl) (by kernel_rfl) (fun _ _ _ h => h) (Or.inl ⟨by rfl, ?_⟩) hHeld ?_
      rotate_left
      · (intro w0 hSw; (try dsimp only at hSw); go_simp <;> with_reducible rfl)
      simp only [List.getElem_toArray, List.getElem_cons_succ, List.getElem_cons_zero, Act.put, List.setIfInBounds_toArray, List.set_cons_zero, List.set_cons_succ]
      refine wpAnyH_take (i := 9) (v := ?_) rfl (by kernel_rfl) (by kernel_rfl) (by kernel_rfl) (fun _ _ _ h => h) (Or.inl ⟨by rfl, ?_⟩) hHeld ?_
      rotate_left
      · (intro w0 hSw; (try dsimp only at hSw); go_simp <;> with_reducible rfl)
      simp only [List.getElem_toArray, List.getElem_cons_succ, List.getElem_cons_zero, Act.put, List.setIfInBounds_toArray, List.set_cons_zero, List.set_cons_succ]
      refine wpAnyH_take (i := 10) (v := ?_) rfl (by kernel_rfl) (by kernel_rfl) (by kernel_rfl) (fun _ _ _ h => h) (Or.inl ⟨by rfl, ?_⟩) hHeld ?_
      rotate_left
      · (intro w0 hSw; (try dsimp only at hSw); go_simp <;> with_reducible rfl)
      simp only [List.getElem_toArray, List.getElem_cons_succ, List.getElem_cons_zero, Act.put, List.setIfInBounds_toArray, List.set_cons_zero, List.set_cons_succ]
      refine wpAnyH_take (i := 11) (v := ?_) rfl (by kernel_rfl) (by kernel_rfl) (by kernel_rfl) (fun _ _ _ h => h) (Or.inl ⟨by rfl, ?_⟩) hHeld ?_
      rotate_left
      · (intro w0 hSw; (try dsimp only at hSw); go_simp <;> with_reducible rfl)
      simp only [List.getElem_toArray, List.getElem_cons_succ, List.getElem_cons_zero, Act.put, List.setIfInBounds_toArray, List.set_cons_zero, List.set_cons_succ]
      refine wpAnyH_ready (rs := [8]) (by kernel_rfl) (by simp) ?_
      refine AllReadyH.cons rfl (fun K hK => ?_) AllReadyH.nil
      simp only [List.getElem_toArray, List.getElem_cons_succ, List.getElem_cons_zero]
      go_simp
      have ho1 := l00OwnC_any (some ⟨gi, 2, none⟩) (ci - 2) (L.drop 2) wr.drew (fun _ => ⟨gi, 2, rfl, hgi2, fun j hj => by
        have hj2 := HCRL.out
        have h9 := HCL.out (2 + j) (by have h8 := List.length_drop (i := 2) (l := L); omega)
        simp only [List.getD, List.getElem?_drop]
        exact h9⟩) (by have := HCRL.out; omega)
      rw [HCRL.out.1] at ho1
      refine ho1.mono ?_
      clear ho1
      rintro e w1 ⟨v1, rfl, ho1, hb1⟩
      have k1 : w1.cell? ⟨g, 1, none⟩ = some (.slice (some ⟨gc, 0, none⟩) q cap) := (HS2.out.drew.below hb1).b.cell 1
      refine hK.out _ _ k1 (fun hHeld1 => ?_)
      clear hK K hHeld
      refine wpAnyH_ready (rs := [12]) (by kernel_rfl) (by simp) ?_
      refine AllReadyH.cons rfl (fun K hK => ?_) AllReadyH.nil
      simp only [List.getElem_toArray, List.getElem_cons_succ, List.getElem_cons_zero]
      obtain ⟨A1, c1, rfl⟩ := own_form ho1
      refine step_appRg w1 (by rfl) (.tmp 69) (.tmp 72) _ (by rfl) wr.heap.size 2 j0 _ 1 8 Try.underlying41 hj0 jz js jb rfl (by omega) (.slice A1 2 c1) 2 (ints (L.drop 2)) (by rfl) ho1 (some ⟨gi, 0, none⟩) 2 ci (fun j => .int .i64 ((L.take 2).getD j 0)) (by rfl) (fun _ => ⟨gi, 0, rfl, Nat.lt_of_lt_of_le hgi2 hb1.size, fun j hj => by
        have h9 := at_below hb1 (g := gi) hgi2 (HCL.out j (by have h8 := List.length_take (i := 2) (l := L); have := HCRL.out; omega))
        rw [Nat.zero_add]
        simp only [List.getD, List.getElem?_take, if_pos (show j < 2 by omega)]
        exact h9⟩) (fun j => rfl) (by unfold maxLen; omega) (by omega) hb1.size ?_
      intro v2 w2 ho2 hfr2
      obtain ⟨A2, c2, rfl⟩ := own_form ho2
      have hnb : ∀ bb, (Value.slice A1 2 c1).ownBlock = some bb → wr.heap.size ≤ bb := fun bb hb => (ho1.lt bb hb).1
      have hHS2 : HkS 148 mkS B g tg2 ev2 (.slice (some ⟨gc, 0, none⟩) q cap) n2 q (E ++ crossL s ((plE P0 a b).take N)) U C w2 := (HS2.out.drew.below hb1).same (fun bb h0 => hfr2.block bb ((HS2.out.drew.below hb1).lt bb h0) fun e => by have := hnb bb e; have := HS2.out.lt bb h0; omega) hfr2.size
      have k2m : w2.cell? ⟨g, 1, none⟩ = some (.slice (some ⟨gc, 0, none⟩) q cap) := hHS2.b.cell 1
      refine hK.out _ _ k2m (fun hHeld2 => ?_)
      clear hK K hHeld1
      have hcf2 := hHS2.cFrozen i
      have hcc2 := hHS2.cellAt hi
      have hown : w2.ownsRow B 2 1 (.slice A2 (2 + 2) c2) (crs k L).length (ints (crs k L)) := by
        have h9 := own_base ho2 hBz
        have h8 : (crs k L).length = 2 + 2 := by have := HCRL.out; rw [HCR.out, List.length_append]; omega
        rw [h8, HCR.out, ints_app]
        rw [Nat.mul_one, ints_get (L.take 2) 2 HCRL.out.2] at h9
        exact h9
      have HM := Lib.hid (hHS2.setC hi hown fun bb hb => Decidable.byContradiction fun hne => by have h1 := (ho2.lt bb hb).1; have h2 := HS2.out.lt bb hne; omega)
      have HBW : Hid (Below B w2 (w2.setCell ⟨gc, i, none⟩ (.slice A2 (2 + 2) c2))) := Lib.hid ((Below.refl B w2).setCell (p := ⟨gc, i, none⟩) (hHS2.c.lt gc rfl).1 _)
      have HBL := Lib.hid ((HB2.out.trans ((((Below.refl wr.heap.size wr).drew.trans hb1).trans (hfr2.own ho1 hb1.size)).mono hBz)).trans HBW.out)
      clear hHS2 hown ho1 ho2 hfr2 hb1 hnb
      refine wpAnyH_take (i := 13) (v := ?_) rfl (by kernel_rfl) (by kernel_rfl) (by kernel_rfl) (fun _ _ _ h => h) (Or.inl ⟨by rfl, ?_⟩) hHeld2 ?_
      rotate_left
      · (intro w0 hSw; (try dsimp only at hSw); go_simp <;> with_reducible rfl)
      simp only [List.getElem_toArray, List.getElem_cons_succ, List.getElem_cons_zero, Act.put, List.setIfInBounds_toArray, List.set_cons_zero, List.set_cons_succ]
      refine wpAnyH_done (by kernel_rfl) ?_ _
      refine LastPost.of ?_
      go_simp
      clear hHeld2 k2m
      go_wp2_with fail
      go_end0
      have h9 : HkM 148 mkS B g q (E ++ crossL s ((plE P0 a b).take N)) (hupd C i (crs k L)) _ := ⟨_, _, _, _, _, HM.out⟩
      rw [HTK.out, ← HE.out] at h9
      rw [← HP0.out]
      exact ⟨rfl, h9, HBL.out⟩
end
end Go.Proofs.Ytfncdogbpmiomaa

namespace Go.Proofs.Ytfncdogbpmiomaa
open Go.RowKit

theorem HkM.congr [Inhabited HKeepT] {T : TypeId} {mk : Value → Value → Array Value} {B g q : Nat} {E : List Int} {C D : Nat → List Int} {w : World} (h : HkM T mk B g q E C w) (hc : ∀ i, i < q → C i = D i) : HkM T mk B g q E D w := by
  obtain ⟨tg, ev, cl, n, U, H⟩ := h
  exact ⟨tg, ev, cl, n, U, ⟨H.b, H.e, H.c, fun i hi => by rw [← hc i hi]; exact H.u i hi, H.tb, H.te, H.tc, H.lt, H.lo, H.k, H.kf⟩⟩
/-- What is known of a row that fits: m stitches on n columns. -/
structure RowFit (s z : Nat → Int) (n m : Nat) : Prop where
  hz : ∀ j, j < m → 1 ≤ z j ∧ z j ≤ 11
  hs : ∀ j, j < n → 1 ≤ s j ∧ s j ≤ 4
  m8 : m ≤ 8
  n8 : n ≤ 8
  t : segT z m = n
theorem RowFit.of {s z : Nat → Int} {n m : Nat} (h : saC s n z m = 0) : RowFit s z n m := by
  obtain ⟨h1, h2, h3, h4, _⟩ := saC_zero h
  have hz := (stitchesB_of h2).2
  refine ⟨hz, (stacksB_of h1).2, ?_, (stacksB_of h1).1, h3⟩
  have : ∀ i, i ≤ m → i ≤ segM z i := by
    intro i hi
    induction i with
    | zero => omega
    | succ i ih =>
      have h1 := ih (by omega)
      have h0 := hz i (by omega)
      have h2 : 1 ≤ mkN (z i) := by
        unfold mkN
        repeat' split
        all_goals omega
      simp only [segM]
      omega
  have := this m (Nat.le_refl _)
  omega
section
variable {s z : Nat → Int} {n m : Nat}
theorem RowFit.seg (h : RowFit s z n m) {i : Nat} (hi : i < m) : (∀ x ∈ seg s z i, 1 ≤ x ∧ x ≤ 4) ∧ (seg s z i).length ≤ 4 := by
  refine ⟨fun x hx => ?_, by rw [seg_length]; exact tkN_le _⟩
  unfold Go.Proofs.Ytfncdogbpmiomaa.seg at hx
  obtain ⟨t, ht, rfl⟩ := List.mem_map.1 hx
  have h1 := List.mem_range.1 ht
  have h2 := segT_mono z (show i + 1 ≤ m by omega)
  have h3 := h.t
  simp only [segT] at h2
  exact h.hs _ (by omega)
theorem RowFit.cel0 (h : RowFit s z n m) {i : Nat} (hi : i < m) : (∀ x ∈ cel0 s z i, 1 ≤ x ∧ x ≤ 4) ∧ (cel0 s z i).length ≤ 4 := ⟨fun x hx => (h.seg hi).1 x (crs_mem hx), by rw [cel0_length]; exact tkN_le _⟩
theorem finL_small {k : Int} {L : List Int} (h : (∀ x ∈ L, 1 ≤ x ∧ x ≤ 4) ∧ L.length ≤ 4) : (∀ x ∈ finL k L, 1 ≤ x ∧ x ≤ 5) ∧ (finL k L).length ≤ 4 := by
  have h0 : ∀ x ∈ L, 1 ≤ x ∧ x ≤ 5 := fun x hx => by have := h.1 x hx; omega
  have h1 : 1 ≤ L.getD 0 0 + 1 ∧ L.getD 0 0 + 1 ≤ 5 := by
    cases L with
    | nil => simp
    | cons x L => have := h.1 x List.mem_cons_self; simp; omega
  have h2 := h.2
  unfold finL
  repeat' split
  · exact ⟨fun x hx => by have := List.mem_singleton.1 hx; omega, by simp⟩
  · refine ⟨fun x hx => ?_, by simpa using h2⟩
    rcases List.mem_or_eq_of_mem_set hx with hx | rfl
    · exact h0 x hx
    · exact h1
  · exact ⟨h0, h2⟩
  · exact ⟨fun x hx => by have := (List.mem_replicate.1 hx).2; omega, by simpa using h2⟩
theorem RowFit.celT (h : RowFit s z n m) {d : Int} {t i : Nat} (hi : i < m) : (∀ x ∈ celT s z d m t i, 1 ≤ x ∧ x ≤ 5) ∧ (celT s z d m t i).length ≤ 4 := by
  unfold Go.Proofs.Ytfncdogbpmiomaa.celT
  split
  · exact finL_small (h.cel0 hi)
  · exact ⟨fun x hx => by have := (h.cel0 hi).1 x hx; omega, (h.cel0 hi).2⟩
theorem small_sml {L : List Int} (h : (∀ x ∈ L, 1 ≤ x ∧ x ≤ 5) ∧ L.length ≤ 4) : Sml L ∧ 0 ≤ sumI L ∧ sumI L ≤ 20 := by
  have h1 := sumI_bounds (l := L) (b := 5) fun x hx => by have := h.1 x hx; omega
  have h2 := h.2
  exact ⟨⟨by omega, fun x hx => by have := h.1 x hx; omega⟩, by omega, by omega⟩
theorem up5 {L : List Int} (h : (∀ x ∈ L, 1 ≤ x ∧ x ≤ 4) ∧ L.length ≤ 4) : (∀ x ∈ L, 1 ≤ x ∧ x ≤ 5) ∧ L.length ≤ 4 := ⟨fun x hx => by have := h.1 x hx; omega, h.2⟩
theorem crsE_length {p k : Int} {L : List Int} (h : (∀ x ∈ L, 1 ≤ x ∧ x ≤ 4) ∧ L.length ≤ 4) : (crsE p k L).length ≤ 2400 := by
  unfold crsE
  split
  · simp
  · rw [crossL_length, plE_length]
    have h1 := (small_sml (L := L.take (L.length / 2)) ⟨fun x hx => by have := h.1 x (List.mem_of_mem_take hx); omega, by have := h.2; simp; omega⟩).2
    have h2 := (small_sml (L := L.drop (L.length / 2)) ⟨fun x hx => by have := h.1 x (List.mem_of_mem_drop hx); omega, by have := h.2; simp; omega⟩).2
    have h3 : (sumI (L.drop (L.length / 2))).toNat * (sumI (L.take (L.length / 2))).toNat ≤ 20 * 20 := Nat.mul_le_mul (by omega) (by omega)
    omega
theorem RowFit.bgE (h : RowFit s z n m) {i : Nat} (hi : i ≤ m) : (bgE s z i).length ≤ 2400 * i := by
  induction i with
  | zero => simp [Go.Proofs.Ytfncdogbpmiomaa.bgE]
  | succ i ih =>
    have h1 := ih (by omega)
    have h2 := crsE_length (p := befI (Go.Proofs.Ytfncdogbpmiomaa.seg s z) i) (k := z i) (h.seg (show i < m by omega))
    simp only [Go.Proofs.Ytfncdogbpmiomaa.bgE, List.length_append]
    omega
theorem RowFit.rowE (h : RowFit s z n m) {c d : Int} {t : Nat} (ht : t ≤ m) : (rowE s z c d m t).length ≤ 2400 * m + 30 * t := by
  induction t with
  | zero => exact h.bgE (Nat.le_refl _)
  | succ t ih =>
    have h1 := ih (by omega)
    have h2 := (stE_length (p := befI (Go.Proofs.Ytfncdogbpmiomaa.celT s z d m t) (ordN d m t)) (c := c) (d := d) (k := z (ordN d m t)) (L := Go.Proofs.Ytfncdogbpmiomaa.cel0 s z (ordN d m t))).1
    have h3 := (h.cel0 (ordN_lt (d := d) (show t < m by omega))).2
    simp only [Go.Proofs.Ytfncdogbpmiomaa.rowE, List.length_append]
    omega
/-- The columns when the first i crossings are made. -/
def celB (s z : Nat → Int) (i j : Nat) : List Int := if j < i then cel0 s z j else seg s z j
theorem celB_zero (s z : Nat → Int) : celB s z 0 = seg s z := funext fun j => if_neg (Nat.not_lt_zero j)
theorem celB_at (s z : Nat → Int) (i : Nat) : celB s z i i = seg s z i := if_neg (Nat.lt_irrefl i)
theorem celB_bef (s z : Nat → Int) {i q : Nat} : befI (celB s z i) q = befI (seg s z) q := by
  induction q with
  | zero => rfl
  | succ q ih =>
    simp only [befI, ih]
    congr 1
    unfold celB
    split
    · exact cel0_sum q
    · rfl
theorem celB_next (s z : Nat → Int) (i : Nat) : hupd (celB s z i) i (crs (z i) (seg s z i)) = celB s z (i + 1) := by
  funext j
  unfold hupd celB
  by_cases h : j = i
  · subst h
    rw [if_pos rfl, if_pos (by omega)]
    rfl
  · rw [if_neg h]
    by_cases h2 : j < i
    · rw [if_pos h2, if_pos (by omega)]
    · rw [if_neg h2, if_neg (by omega)]
theorem RowFit.celB (h : RowFit s z n m) {i j : Nat} (hj : j < m) : (∀ x ∈ celB s z i j, 1 ≤ x ∧ x ≤ 4) ∧ (celB s z i j).length ≤ 4 := by
  unfold Go.Proofs.Ytfncdogbpmiomaa.celB
  split
  · exact h.cel0 hj
  · exact h.seg hj
end
section
variable [Inhabited HKeepT] {B g q : Nat} {E : List Int} {C : Nat → List Int} {w : World}
theorem specCross_any (i : Nat) (k : Int) (L : List Int) (H : HkM 148 mkS B g q E C w) (hB : B ≤ w.heap.size) (hE : E.length ≤ 500000) (hi : i < q) (hC : SmlC C q) (HL : Hid (C i = L)) (hl : L.length = tkN k) (hs : sumI L ≤ 100) (hk : 1 ≤ k ∧ k ≤ 11) :
    Calls Try.prog 102 #[.pointer (some ⟨g, 0, none⟩), .int .i64 i, .int .i64 k] w (HkP 148 mkS B g q (E ++ crsE (befI C i) k L) (hupd C i (crs k L)) w) := by
  by_cases h0 : signI k = 0
  · exact specCross0_any i k L H HL h0
  have hs1 := (signI_cases k).resolve_left h0
  have hk2 : tkN k = 2 ∨ tkN k = 4 := by
    have h1 : k = 8 ∨ k = 10 ∨ k = 9 ∨ k = 11 ∨ k = 5 := Decidable.byContradiction fun hn => h0 (by unfold signI; rw [if_neg (by omega), if_neg (by omega)])
    rcases h1 with rfl | rfl | rfl | rfl | rfl
    all_goals decide
  rcases hk2 with h2 | h2
  · exact specCross1_any i k L H hB hE hi hC HL (by omega) hs _ hs1 rfl
  · exact specCross2_any i k L H hB hE hi hC HL (by omega) hs _ hs1 rfl
end
end Go.Proofs.Ytfncdogbpmiomaa

namespace Go.Proofs.Ytfncdogbpmiomaa
open Go.RowKit
set_option maxRecDepth 20000

/-- A row's events and the sizes behind it, new. -/
def RowP (E L : List Int) (w : World) (e : Ending) (w' : World) : Prop := ∃ ev af n, e = .returned (.tuple #[ev, af, .bool true]) ∧ w'.ownsRow w.heap.size 96 6 ev n (ints E) ∧ w'.ownsRow w.heap.size 2 1 af L.length (ints L) ∧ Below w.heap.size w w'
/-- The hand at its start. -/
theorem hand_new (w : World) (B : Nat) (hB : B ≤ w.heap.size) (T : TypeId) : @HkS noKeep T mkS B (w.heap.size + 1) (fun b => if b = w.heap.size + 1 then 1 else if b = w.heap.size then 2 else 0) (.slice (some ⟨w.heap.size, 0, none⟩) 0 0) (.slice none 0 0) 0 0 [] (fun _ => undef) (fun _ => []) ((w.alloc (.cells #[] 96)).alloc (.cells #[.slice (some ⟨w.heap.size, 0, none⟩) 0 0, .slice none 0 0] T)) where
  b := Blk.at_ _ _ _ (by simp)
  e := own_below (World.ownsRow_made w #[] 0 hB (by unfold maxLen; omega) rfl) ((Below.refl _ _).alloc (Nat.le_refl _) _)
  c := World.ownsRow_nil _ _ _ _
  u := fun i hi => by omega
  tb := if_pos rfl
  te := fun b hb => by injection hb with hb; subst hb; show (if w.heap.size = w.heap.size + 1 then 1 else if w.heap.size = w.heap.size then 2 else 0) = 2; rw [if_neg (by omega), if_pos rfl]
  tc := fun b hb => by cases hb
  lt := fun b hb => by
    simp only [World.size_alloc]
    by_cases h1 : b = w.heap.size + 1
    · omega
    · by_cases h2 : b = w.heap.size
      · omega
      · rw [if_neg h1, if_neg h2] at hb
        exact absurd rfl hb
  lo := by omega
  k := trivial
  kf := fun b hb => hb.elim

theorem SrcS.keep {B : Nat} {z : Nat → Int} {v : Value} {t : Nat} {As : Nat → Option Addr} {cs : Nat → Nat} {w w' : World} (h : SrcS B z v t As cs w) (hz : w.heap.size ≤ w'.heap.size) (hk : ∀ b, (v.ownBlock = some b ∨ ∃ j, j < t ∧ Fb (As j) (tkN (z j)) b) → w'.heap[b]? = w.heap[b]?) : SrcS B z v t As cs w' :=
  ⟨hown_blk h.own fun b hb => hk b (.inl hb), fun j hj => (rd_obj _ _ _).1 _ _ (h.rd j hj) fun b hb => hk b (.inr ⟨j, hj, hb⟩), fun j hj b hF => ⟨(h.far j hj b hF).1, Nat.lt_of_lt_of_le (h.far j hj b hF).2.1 hz, (h.far j hj b hF).2.2⟩⟩
set_option maxHeartbeats 2000000 in
theorem l17Row_any (gr o : Nat) (d c : Int) (A : Option Addr) (m qq : Nat) (z s : Nat → Int) (As : Option Addr) (n cs : Nat) (w : World) (HR : Hid (RowAt w gr o d c A m qq)) (hz : Rd w A m (fun j => .int .i64 (z j))) (hs : Rd w As n (fun j => .int .i64 (s j))) (hgr : gr < w.heap.size) (hd : dirB d = true) (hf : RowFit s z n m) (hk : keepB s n z m d m = true) :
    Calls Try.prog 48 #[.pointer (some ⟨gr, o, none⟩), .slice As n cs] w (RowP (rowE s z c d m m) (aft s z m) w) := by
  obtain ⟨i0, hi0, iz, is, ib⟩ := info_parts info64
  obtain ⟨j0, hj0, jz, js, jb⟩ := info_parts infoSl64
  have hm8 := hf.m8
  have hn8 := hf.n8
  have hkk := hf.hz
  have HF := Lib.hid hf
  have HK := Lib.hid hk
  have HZ := Lib.hid hz
  have HS := Lib.hid hs
  have HD := Lib.hid hd
  have HH0 := Lib.hid (hand_new w w.heap.size (Nat.le_refl _) 148)
  have HB0 := Lib.hid (((Below.refl w.heap.size w).alloc (Nat.le_refl _) (.cells #[] 96)).alloc (by simp) (.cells #[.slice (some ⟨w.heap.size, 0, none⟩) 0 0, .slice none 0 0] 148))
  have HKK := Lib.hid hkk
  clear hz hs hd hf hk hkk
  go_enter Try.func48, Try.ntmps48
  go_wp2_with fail
  refine (l20Sources_any gr o d c A m qq z _ (Lib.hid (HR.out.bel HB0.out hgr)) (HZ.out.below HB0.out) (by omega) HKK.out).mono ?_
  rintro e w1 ⟨v, Ac, cc, rfl, hsrc, hb1⟩
  have HH1 := Lib.hid (HH0.out.below hb1)
  have HB1 := Lib.hid (HB0.out.trans (hb1.mono (by simp; omega)))
  have HLO := Lib.hid (show w.heap.size + 2 ≤ w1.heap.size from by have := hb1.size; simp only [World.size_alloc] at this; omega)
  have HSRC : Hid (SrcS (w.heap.size + 2) z v m Ac cc w1) := Lib.hid (by have h := hsrc; simp only [World.size_alloc] at h; exact h)
  obtain ⟨Av, cv, rfl⟩ := own_form hsrc.own
  clear hsrc hb1
  go_wp2_with fail
  go_loopw [9] (fun x wr => ∃ (t : Nat) (tg : Nat → Nat) (ev cl : Value) (nE : Nat) (U : Nat → Value), t ≤ m ∧ x = .int .i64 t ∧ Hid (HkS 148 mkS w.heap.size (w.heap.size + 1) tg ev cl nE t [] U (seg s z) wr) ∧ Hid (SrcS (w.heap.size + 2) z (.slice Av m cv) m Ac cc wr) ∧ Hid (∀ b, ((Value.slice Av m cv).ownBlock = some b ∨ ∃ j, j < m ∧ Fb (Ac j) (tkN (z j)) b) → tg b = 0) ∧ Hid (Below w.heap.size w wr)) (fun x _ => m - (intOf x).toNat)
  case atStart => exact ⟨0, _, _, _, 0, _, Nat.zero_le _, rfl, Lib.hid (by
    have h := HH1.out
    exact ⟨h.b, h.e, h.c, fun i hi => by omega, h.tb, h.te, h.tc, h.lt, h.lo, h.k, h.kf⟩), HSRC, Lib.hid (fun b hb => by
    have h1 : w.heap.size + 2 ≤ b := by
      rcases hb with hb | ⟨j, hj, hb⟩
      · exact (HSRC.out.own.lt b hb).1
      · exact (HSRC.out.far j hj b hb).1
    show (if b = w.heap.size + 1 then 1 else if b = w.heap.size then 2 else 0) = 0
    rw [if_neg (by omega), if_neg (by omega)]), HB1⟩
  case round =>
    rename World => wo
    obtain ⟨t, tg, ev, cl, nE, U, ht, rfl, HH2, HS2, HT2, HB2⟩ := hrel
    by_cases hlt : t < m
    · obtain ⟨gv, rfl, hgv⟩ : ∃ gv, Av = some ⟨gv, 0, none⟩ ∧ gv < wo.heap.size := by
        rcases HS2.out.own.2 with ⟨_, h0⟩ | ⟨gv, cap, _, e, _, hc, _⟩
        · omega
        · injection e with e _ _
          exact ⟨gv, e, (Array.getElem?_eq_some_iff.1 hc).1⟩
      have cS : wo.cell? ⟨gv, t, none⟩ = some (.slice (Ac t) (tkN (z t)) (cc t)) := by rw [HS2.out.own.cellAt t (by omega)]; simp [hlt]
      have HCS := Lib.hid cS
      have HRS := Lib.hid (HS2.out.rd t hlt)
      have HSW := Lib.hid (HS.out.below HB2.out)
      have hsg := HF.out.seg hlt
      have hTn : segT z t + tkN (z t) ≤ n := by
        have h1 := segT_mono z (show t + 1 ≤ m by omega)
        rw [HF.out.t] at h1
        exact h1
      have htk := tkN_le (z t)
      obtain ⟨T, hT⟩ : ∃ T, T = tkN (z t) := ⟨_, rfl⟩
      obtain ⟨P, hP⟩ : ∃ P, P = segT z t := ⟨_, rfl⟩
      have HTT := Lib.hid hT
      have HPP := Lib.hid hP
      have HSEG := Lib.hid (show seg s z t = (List.range T).map fun x => s (P + x) by rw [hT, hP]; rfl)
      rw [← hT] at HRS cS HCS htk hTn
      rw [← hP] at HRS hTn
      have HW0 := Lib.hid ((Below.refl wo.heap.size wo).alloc (Nat.le_refl _) (.cells #[] 2))
      have HO0 := Lib.hid (World.ownsRow_made (e := 2) (size := 1) wo #[] 0 (Nat.le_refl _) (by unfold maxLen; omega) rfl)
      clear hT hP cS
      go_wp2_with fail
      go_loopw [10, 11] (fun cu x wq => ∃ k : Nat, k ≤ T ∧ x = .int .i64 k ∧ Hid (wq.ownsRow wo.heap.size 2 1 cu k (ints ((seg s z t).take k))) ∧ Hid (Below wo.heap.size wo wq)) (fun _ x _ => T - (intOf x).toNat)
      case atStart => exact ⟨0, Nat.zero_le _, rfl, Lib.hid (by simp only [List.take_zero]; exact HO0.out), HW0⟩
      case round =>
        obtain ⟨k, hk, rfl, HO2, HW2⟩ := hrel
        have k1 := at_below HW2.out hgv HCS.out
        by_cases hkl : k < T
        · obtain ⟨ga, oa, hAc, hga, hra⟩ := HRS.out (by omega)
          obtain ⟨gs, os, hAs, hgs, hrs⟩ := HSW.out (by omega)
          rw [hAc] at k1
          subst hAs
          have k2 : wr.cell? ⟨ga, oa + k, none⟩ = some (.int .i64 ((P + k : Nat) : Int)) := by
            have h := at_below HW2.out hga (hra k hkl)
            rw [h, Int.natCast_add]
          have k3 := at_below HW2.out hgs (hrs (P + k) (by omega))
          obtain ⟨y, hy⟩ : ∃ y, y = s (P + k) := ⟨_, rfl⟩
          simp only [← hy] at k3
          have HN := Lib.hid (show (seg s z t).take (k + 1) = (seg s z t).take k ++ [y] by
            rw [HSEG.out, List.take_succ_eq_append_getElem (by simp; omega)]
            simp [hy])
          have b1 : (0 : Int) ≤ (t : Int) := by omega
          have b2 : (t : Int) < (m : Int) := by omega
          have b3 : (0 : Int) ≤ (k : Int) := by omega
          have b4 : (k : Int) < (T : Int) := by omega
          have b5 : (0 : Int) ≤ ((P + k : Nat) : Int) := by omega
          have b6 : ((P + k : Nat) : Int) < (n : Int) := by omega
          clear hy hra hrs
          go_wp2_with (at_builtin; go_must (refine wpList_app wr rfl (.tmp 38) (.tmp 49) _ rfl wo.heap.size 2 i0 _ 1 8 Try.underlying41 hi0 iz is ib rfl (by omega) u10 k _ rfl HO2.out _ 1 1 _ rfl rfl (by simp [Value.oneCell']) (by unfold maxLen; omega) (by omega) HW2.out.size ?_); intro v' w' hown' hb'; have HO3 := Lib.hid hown'; have HW3 := Lib.hid (HW2.out.trans hb'); clear hown' hb')
          go_roundw
          case rel => exact ⟨k + 1, by omega, by go_num, Lib.hid (by rw [HN.out, ints_app]; exact HO3.out), HW3⟩
          case measure => simp [intOf] <;> omega
        · obtain rfl : T = k := by omega
          obtain ⟨Al, ccl, rfl⟩ := own_form HH2.out.c
          obtain ⟨Aq, cq, rfl⟩ := own_form HO2.out
          have HHQ := Lib.hid (HH2.out.below HW2.out)
          have HSEGT := Lib.hid (show (seg s z t).take T = seg s z t by rw [List.take_of_length_le]; rw [seg_length, ← HTT.out]; exact Nat.le_refl _)
          have m1 : wr.cell? ⟨w.heap.size + 1, 1, none⟩ = some (.slice Al t ccl) := HHQ.out.b.cell 1
          have f1 : wr.frozen? ⟨w.heap.size + 1, 1, none⟩ = false := HHQ.out.b.frozen 1
          have hgn : ¬ (Value.slice Al t ccl).ownBlock = some (w.heap.size + 1) := fun e => by have h1 := HHQ.out.tc _ e; have h2 := HHQ.out.tb; omega
          have HGN := Lib.hid hgn
          have HM1 := Lib.hid m1
          have HF1 := Lib.hid f1
          have HBR := Lib.hid (HB2.out.trans (HW2.out.mono HB2.out.size))
          have hlg := World.block_lt_of_cell? wr _ m1
          simp only at hlg
          clear hgn f1
          go_wp2_with (at_builtin; go_must (refine wpList_appGa wr rfl (.tmp 55) (.tmp 57) _ rfl w.heap.size 41 j0 _ 1 24 Try.underlying38 hj0 jz js jb rfl (by omega) (.slice Al t ccl) t _ rfl HHQ.out.c _ 1 1 _ rfl rfl (by simp [Value.oneCell']) (by unfold maxLen; omega) (by omega) HBR.out.size ?_); intro v' w' hown' hf' hat'; obtain ⟨A9, c9, rfl⟩ := own_form hown'; have HOWN' := Lib.hid hown'; have HF' := Lib.hid hf'; have HAT' := Lib.hid hat'; have k9 := (hf'.cells hlg HGN.out 1).trans HM1.out; have f9 := (World.frozen?_of_block (a := ⟨w.heap.size + 1, 1, none⟩) (hf'.block _ hlg HGN.out)).trans HF1.out; clear hown' hf' hat')
          clear k9 f9 m1 hlg
          go_roundw
          case rel =>
            have hz1 := HHQ.out.lt
            have hu0 : ∀ b, (Value.slice Aq T cq).ownBlock = some b → wo.heap.size ≤ b ∧ b < wr.heap.size := fun b hb => HO2.out.lt b hb
            have hl0 : ∀ b, (Value.slice Al t ccl).ownBlock = some b → b < wo.heap.size := fun b hb => (HH2.out.c.lt b hb).2
            have hown2 : w'.ownsRow w.heap.size 2 1 (.slice Aq T cq) (seg s z t).length (ints (seg s z t)) := by
              have h1 := HO2.out
              rw [HSEGT.out] at h1
              have h2 : (seg s z t).length = T := by rw [seg_length, ← HTT.out]
              rw [h2]
              exact own_base (hown_blk h1 fun b hb => HF'.out.block b (hu0 b hb).2 fun e => by have := hl0 b e; have := (hu0 b hb).1; omega) HB2.out.size
            obtain ⟨tg', H', hz'⟩ := HHQ.out.putC (w' := w') (cl' := .slice A9 (t + 1) c9) (u := .slice Aq T cq) (L := seg s z t) (o := 1) (fun b h0 h3 => HF'.out.block b (hz1 b h0) fun e => h3 (HHQ.out.tc b e)) HF'.out.size HOWN'.out (fun b hb => by
              rcases HAT'.out with h | h
              · exact .inr (HHQ.out.tc b (h.symm.trans hb))
              · refine .inl (Decidable.byContradiction fun hne => ?_)
                have h1 := hz1 b hne
                rw [hb] at h
                injection h with h
                omega) (.inr ⟨hown2, fun b hb => ⟨Decidable.byContradiction fun hne => by have h1 := HH2.out.lt b hne; have h2 := (hu0 b hb).1; omega, fun e => by
              have h2 := hu0 b hb
              rcases HAT'.out with h | h
              · have := hl0 b (h.symm.trans e)
                omega
              · rw [e] at h
                injection h with h
                omega⟩⟩) rfl
            have h1 : (fun i => if i = t then seg s z t else seg s z i) = seg s z := by
              funext i
              by_cases h : i = t
              · rw [if_pos h, h]
              · rw [if_neg h]
            rw [h1] at H'
            have hsb : ∀ b, ((Value.slice (some ⟨gv, 0, none⟩) m cv).ownBlock = some b ∨ ∃ j, j < m ∧ Fb (Ac j) (tkN (z j)) b) → b < wo.heap.size ∧ tg b = 0 := fun b hb => ⟨by
              rcases hb with hb | ⟨j, hj, hb⟩
              · exact (HS2.out.own.lt b hb).2
              · exact (HS2.out.far j hj b hb).2.1, HT2.out b hb⟩
            have hsz := HW2.out.size
            have hS' : SrcS (w.heap.size + 2) z (.slice (some ⟨gv, 0, none⟩) m cv) m Ac cc (w'.setCell ⟨w.heap.size + 1, 1, none⟩ (.slice A9 (t + 1) c9)) := HS2.out.keep (by rw [hset_size]; exact Nat.le_trans hsz HF'.out.size) fun b hb => by
              obtain ⟨hb1, hb2⟩ := hsb b hb
              refine (hset_keep _ _ _ _ (fun e => by have e2 : b = w.heap.size + 1 := e; have h3 := HH2.out.tb; rw [← e2] at h3; omega)).trans ((HF'.out.block b (by omega) fun e => ?_).trans (HW2.out.block b hb1))
              have := HHQ.out.tc b e
              omega
            have hT' : ∀ b, ((Value.slice (some ⟨gv, 0, none⟩) m cv).ownBlock = some b ∨ ∃ j, j < m ∧ Fb (Ac j) (tkN (z j)) b) → tg' b = 0 := fun b hb => by
              obtain ⟨hb1, hb2⟩ := hsb b hb
              refine hz' b hb2 (fun e => ?_) (fun e => by have := (hu0 b e).1; omega)
              rcases HAT'.out with h | h
              · have := HHQ.out.tc b (h.symm.trans e)
                omega
              · rw [e] at h
                injection h with h
                omega
            exact ⟨t + 1, tg', ev, _, nE, _, by omega, by go_num, Lib.hid H', Lib.hid hS', Lib.hid hT', Lib.hid (Below.setCell (p := ⟨w.heap.size + 1, 1, none⟩) (HBR.out.trans (HF'.out.own HHQ.out.c HBR.out.size)) (Nat.le_succ _) _)⟩
          case measure => simp [intOf] <;> omega
    · obtain rfl : m = t := by omega
      have HMC := Lib.hid (show HkM 148 mkS w.heap.size (w.heap.size + 1) m [] (celB s z 0) wo from ⟨_, _, _, _, _, by rw [celB_zero]; exact HH2.out⟩)
      clear HH2 HS2 HT2
      go_wp2_with fail
      go_loopw [12] (fun x wr => ∃ i : Nat, i ≤ m ∧ x = .int .i64 i ∧ Hid (HkM 148 mkS w.heap.size (w.heap.size + 1) m (bgE s z i) (celB s z i) wr) ∧ Hid (Below w.heap.size w wr)) (fun x _ => m - (intOf x).toNat)
      case atStart => exact ⟨0, Nat.zero_le _, rfl, HMC, HB2⟩
      case round =>
        obtain ⟨i, hi, rfl, HM3, HB3⟩ := hrel
        obtain ⟨tg3, ev3, cl3, n3, U3, H3⟩ := HM3.out
        obtain ⟨A3, c3, rfl⟩ := own_form H3.c
        have m1 : wr.cell? ⟨w.heap.size + 1, 1, none⟩ = some (.slice A3 m c3) := H3.b.cell 1
        by_cases hil : i < m
        · obtain ⟨gz, oz, hA, hgz, hrz⟩ := HZ.out (by omega)
          have r2 := at_below HB3.out hgr HR.out.c2
          have cz := at_below HB3.out hgz (hrz i hil)
          rw [hA] at r2
          have hzk := HKK.out i hil
          have hsm := small_sml (up5 (HF.out.seg hil))
          have HSM := Lib.hid hsm
          have HCE := Lib.hid (celB_at s z i)
          have HSC : Hid (SmlC (celB s z i) m) := Lib.hid ⟨by omega, fun j hj => (small_sml (up5 (HF.out.celB hj))).1⟩
          have hbl := HF.out.bgE hi
          have HNX := Lib.hid (celB_next s z i)
          have HBX := Lib.hid (show bgE s z i ++ crsE (befI (celB s z i) i) (z i) (seg s z i) = bgE s z (i + 1) by rw [celB_bef]; rfl)
          have hsl := seg_length (s := s) (z := z) (i := i)
          obtain ⟨y, hy⟩ : ∃ y, y = z i := ⟨_, rfl⟩
          simp only [← hy] at cz hzk hsl
          rw [← hy] at HNX HBX
          have b1 : (0 : Int) ≤ (i : Int) := by omega
          have b2 : (i : Int) < (m : Int) := by omega
          clear hA hrz hy H3
          go_wp2_with fail
          refine (specCross_any i y (seg s z i) HM3.out HB3.out.size (by omega) hil HSC.out HCE hsl (by have := HSM.out; omega) hzk).mono ?_
          rintro e w4 ⟨rfl, HM4, hb4⟩
          have HM4' := Lib.hid HM4
          have HB4 := Lib.hid (HB3.out.trans hb4)
          clear HM4 hb4
          go_wp2_with fail
          go_roundw
          case rel => exact ⟨i + 1, by omega, by go_num, Lib.hid (by have h := HM4'.out; rw [HNX.out, HBX.out] at h; exact h), HB4⟩
          case measure => simp [intOf] <;> omega
        · obtain rfl : m = i := by omega
          clear H3
          go_wp2_with fail
          refine (l17Order_any gr o d c A m qq _ (Lib.hid (HR.out.bel HB3.out hgr)) HD.out (by omega)).mono ?_
          rintro e w4 ⟨A4, c4, rfl, hc4, hn4⟩
          have HM4 := Lib.hid (HM3.out.keep hn4.bl (rowKeep A4 m (fun j => .int .i64 (ordN d m j))) hn4.rd (fun b hb => by
            obtain ⟨_, a, e, hb⟩ := hb
            exact ⟨hb ▸ hn4.ab a e, hb ▸ hn4.bb a e⟩))
          have HB4 := Lib.hid (HB3.out.trans (hn4.bl.mono HB3.out.size))
          clear hn4 HM3 HB3 m1
          go_wp2_with fail
          go_loopw [14] (fun x wr => ∃ t : Nat, t ≤ m ∧ x = .int .i64 t ∧ Hid (@HkM (rowKeep A4 m (fun j => .int .i64 (ordN d m j))) 148 mkS w.heap.size (w.heap.size + 1) m (rowE s z c d m t) (celT s z d m t) wr) ∧ Hid (Below w.heap.size w wr)) (fun x _ => m - (intOf x).toNat)
          case atStart => exact ⟨0, Nat.zero_le _, rfl, Lib.hid (@HkM.congr (rowKeep A4 m (fun j => .int .i64 (ordN d m j))) _ _ _ _ _ _ _ _ _ HM4.out fun j hj => by rw [celT_zero j hj]; exact if_pos hj), HB4⟩
          case round =>
            obtain ⟨t, ht, rfl, HM5, HB5⟩ := hrel
            obtain ⟨HM6, hrd6⟩ := HkM.free _ HM5.out
            obtain ⟨tg6, ev6, cl6, n6, U6, H6⟩ := HM6
            by_cases htm : t < m
            · obtain ⟨g4, o4, rfl, hg4, hr4⟩ := hrd6 (by omega)
              have k4 := hr4 t htm
              have HO := Lib.hid (ordN_lt (d := d) htm)
              have HSC : Hid (SmlC (celT s z d m t) m) := Lib.hid ⟨by omega, fun j hj => (small_sml (HF.out.celT hj)).1⟩
              have HSC2 : Hid (SmlC (celT s z d m (t + 1)) m) := Lib.hid ⟨by omega, fun j hj => (small_sml (HF.out.celT hj)).1⟩
              have HCA := Lib.hid (celT_at (s := s) (z := z) (d := d) htm)
              have HSM := Lib.hid (small_sml (up5 (HF.out.cel0 HO.out)))
              have HRE := Lib.hid (HF.out.rowE (c := c) (d := d) ht)
              have HKT := Lib.hid (befI_keep (s := s) (d := d) HF.out.hz HF.out.t (show t + 1 ≤ m by omega))
              have hkb := HSC2.out.bef (Nat.le_refl m)
              have hk12 : ¬ 12 < befI (celT s z d m (t + 1)) m := by
                have := keepS_le HK.out (t := t + 1) (by omega) (by omega)
                rw [HKT.out]
                omega
              obtain ⟨K, hK⟩ : ∃ K, K = befI (celT s z d m (t + 1)) m := ⟨_, rfl⟩
              obtain ⟨i, hi⟩ : ∃ i, i = ordN d m t := ⟨_, rfl⟩
              have HI := Lib.hid hi
              rw [← hi] at HO HCA HSM
              rw [← hK] at hkb hk12
              simp only [← hi] at k4
              have HKE := Lib.hid hK
              have HRW := Lib.hid (HR.out.bel HB5.out hgr)
              have HZW := Lib.hid (HZ.out.below HB5.out)
              have b1 : (0 : Int) ≤ (t : Int) := by omega
              have b2 : (t : Int) < (m : Int) := by omega
              clear hr4 H6 hi hK
              go_wp2_with fail
              refine (@specStitch_any (rowKeep (some ⟨g4, o4, none⟩) m (fun j => .int .i64 (ordN d m j))) _ _ _ _ _ _ gr o d c A m qq z i (cel0 s z i) HM5.out HB5.out.size HRW HZW.out hgr (by have := HRE.out; omega) HO.out HO.out HSC.out HCA (cel0_length i) (by have := HSM.out; omega) (HKK.out i HO.out)).mono ?_
              rintro e w7 ⟨rfl, HM7, hb7⟩
              have HM8 := Lib.hid (@HkM.congr (rowKeep (some ⟨g4, o4, none⟩) m (fun j => .int .i64 (ordN d m j))) _ _ _ _ _ _ _ (celT s z d m (t + 1)) _ HM7 fun j hj => by
                rw [celT_next htm j hj, ← HI.out]
                unfold hupd
                by_cases h : j = i
                · rw [if_pos h, if_pos h, h]
                · rw [if_neg h, if_neg h])
              have HB8 := Lib.hid (HB5.out.trans hb7)
              obtain ⟨HM9, _⟩ := HkM.free _ HM8.out
              obtain ⟨tg9, ev9, cl9, n9, U9, H9⟩ := HM9
              obtain ⟨A9, c9, rfl⟩ := own_form H9.c
              have m9 : w7.cell? ⟨w.heap.size + 1, 1, none⟩ = some (.slice A9 m c9) := H9.b.cell 1
              have HH9 := Lib.hid H9
              clear H9 HM7 hb7 k4
              go_wp2_with fail
              refine (before_any m HH9.out (Nat.le_refl m) HSC2.out).mono ?_
              rintro e w8 ⟨rfl, rfl⟩
              rw [← HKE.out]
              clear m9
              go_wp2_with fail
              go_roundw
              case rel => exact ⟨t + 1, by omega, by go_num, Lib.hid (by have h := HM8.out; rw [HI.out] at h; exact h), HB8⟩
              case measure => simp [intOf] <;> omega
            · obtain rfl : m = t := by omega
              have HH6 := Lib.hid H6
              have HLST := Lib.hid (cat_last (s := s) (d := d) HF.out.hz (Nat.le_refl m))
              have HLN := Lib.hid (show ∀ i, i ≤ m → (catC (celT s z d m m) i).length ≤ 4 * i from fun i => by
                induction i with
                | zero => intro _; simp [catC]
                | succ i ih =>
                  intro hi
                  have h1 := ih (by omega)
                  have h2 := (HF.out.celT (d := d) (t := m) (show i < m by omega)).2
                  simp only [catC, List.length_append]
                  omega)
              have HBW := Lib.hid ((Below.refl wr.heap.size wr).alloc (Nat.le_refl _) (.cells #[] 2))
              have HOW := Lib.hid (World.ownsRow_made (e := 2) (size := 1) wr #[] 0 (Nat.le_refl _) (by unfold maxLen; omega) rfl)
              rename World => w5
              clear H6 HM5 hrd6
              go_wp2_with fail
              go_loopw [15, 16] (fun cu x wq => ∃ i : Nat, i ≤ m ∧ x = .int .i64 i ∧ Hid (wq.ownsRow w5.heap.size 2 1 cu (catC (celT s z d m m) i).length (ints (catC (celT s z d m m) i))) ∧ Hid (Below w5.heap.size w5 wq)) (fun _ x _ => m - (intOf x).toNat)
              case atStart => exact ⟨0, Nat.zero_le _, rfl, HOW, HBW⟩
              case round =>
                obtain ⟨i, hi, rfl, HO7, HB7⟩ := hrel
                have HH7 := Lib.hid (HH6.out.below HB7.out)
                obtain ⟨A7, c7, hcl7⟩ := own_form HH7.out.c
                have m1 : wr.cell? ⟨w.heap.size + 1, 1, none⟩ = some (.slice A7 m c7) := by rw [← hcl7]; exact HH7.out.b.cell 1
                clear hcl7
                by_cases him : i < m
                · obtain ⟨gc7, cc7, hcl⟩ := HH7.out.form (by omega)
                  have hH7 := HH7.out
                  rw [hcl] at hH7
                  have m2 := hH7.cellAt him
                  have m3 : wr.cell? ⟨w.heap.size + 1, 1, none⟩ = some (.slice (some ⟨gc7, 0, none⟩) m cc7) := hH7.b.cell 1
                  obtain ⟨Au, cu, hU, hrd⟩ := hH7.read him
                  rw [hU] at m2
                  have HRD := Lib.hid hrd
                  have HL1 := Lib.hid (show (catC (celT s z d m m) (i + 1)).length = (catC (celT s z d m m) i).length + (celT s z d m m i).length by simp [catC])
                  have HL2 := Lib.hid (show catC (celT s z d m m) (i + 1) = catC (celT s z d m m) i ++ celT s z d m m i from rfl)
                  have hl1 := HLN.out i hi
                  have hl2 := (HF.out.celT (d := d) (t := m) him).2
                  have b1 : (0 : Int) ≤ (i : Int) := by omega
                  have b2 : (i : Int) < (m : Int) := by omega
                  clear m1 hH7 hU hcl hrd
                  go_wp2_with (at_builtin; go_must (refine wpList_appR wr rfl (.tmp 113) (.tmp 120) _ rfl w5.heap.size 2 i0 _ 1 8 Try.underlying41 hi0 iz is ib rfl (by omega) _ _ _ rfl HO7.out Au (celT s z d m m i).length cu (fun j => .int .i64 ((celT s z d m m i).getD j 0)) rfl (by rw [Nat.mul_one]; exact HRD.out) (fun j => rfl) (by unfold maxLen; omega) (by omega) HB7.out.size ?_); intro v' w' hown' hfr; have HO8 := Lib.hid hown'; have HB8 := Lib.hid (HB7.out.trans (hfr.own HO7.out HB7.out.size)); clear hown' hfr)
                  clear m2 m3
                  go_roundw
                  case rel => exact ⟨i + 1, by omega, by go_num, Lib.hid (by
                    have h := HO8.out
                    rw [Nat.mul_one, ints_get _ _ rfl, ← ints_app, ← HL2.out, ← HL1.out] at h
                    exact h), HB8⟩
                  case measure => simp [intOf] <;> omega
                · obtain rfl : m = i := by omega
                  have m0 : wr.cell? ⟨w.heap.size + 1, 0, none⟩ = some ev6 := HH7.out.b.cell 0
                  go_wp2_with fail
                  go_ret3
                  refine ⟨_, _, n6, rfl, HH7.out.e, ?_, HB5.out.trans (HB7.out.mono HB5.out.size)⟩
                  have h := own_base HO7.out HB5.out.size
                  rw [HLST.out] at h
                  exact h
end Go.Proofs.Ytfncdogbpmiomaa
