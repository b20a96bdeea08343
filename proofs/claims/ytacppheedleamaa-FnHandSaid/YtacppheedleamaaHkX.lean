/- Plain: what a hand knitter does in a row: the events, and for each stitch the sizes of its columns. Plain lemmas: a row that is knitted by hand, in memory: a block with the slice of events and the slice of the stitches' columns. Walks: what the reference's hand knitter computes with: sums, the strands ahead of a stitch, the sign of a crossing, the order of a row, its sources, the letters of a crossing. No condition but the bounds. Walks: the reference's hand knitter adds an event. No condition but the bounds. Walks: the reference's hand knitter knits the columns of a stitch. No condition but the bounds. Walks: the reference's hand knitter makes a stitch: those that are knitted, a slipped one, a new one. No condition but the bounds. Walks: the reference's hand knitter makes a stitch of two columns. No condition but the bounds. Walks: the reference's hand knitter makes a tuck. No condition but the bounds. Walks: the reference's hand knitter makes a stitch of any kind. No condition but the bounds. Walks: the letters of a crossing, by the reference. No condition but the bounds. Walks: the reference's hand knitter makes a crossing. No condition but the bounds. Walks: numbers from one on, and the order of a row, by the reference. No condition but the bounds. Walks: a list of numbers is copied, by the reference: the contents. No condition but the bounds. Walks: the columns that each stitch of a row takes, by the reference. No condition but the bounds. Plain law: 'append(out, x...)' at a step of a region that draws its order. Walks: the reference's hand knitter makes a crossing of two columns No condition but the bounds. Walks: the reference's hand knitter makes a crossing of four columns No condition but the bounds. Plain: bounds for a row that is knitted by hand; a crossing of any kind. Walks: the reference's hand knitter makes a row. No condition but the bounds. -/
import Derived.Test.YtacppheedleamaaChartF
import Derived.Test.YtacppheedleamaaAppAt
import Derived.Test.YtacppheedleamaaAppend
import Derived.Test.YtacppheedleamaaRowsObj
import Derived.Test.YtacppheedleamaaStepApp
import Derived.Test.YtacppheedleamaaRegLast
import Derived.Test.YtacppheedleamaaCastOn
import Derived.Test.YtacppheedleamaaChartG
import Derived.Test.YtacppheedleamaaAppR
import Derived.Maps.AppendAt
set_option linter.unusedVariables false
set_option linter.unusedSimpArgs false
namespace Go.Proofs.Ytacppheedleamaa
open Go.RowKit

def sumI : List Int → Int
  | [] => 0
  | x :: l => x + sumI l
theorem sumI_app (a b : List Int) : sumI (a ++ b) = sumI a + sumI b := by
  induction a with
  | nil => simp [sumI]
  | cons x a ih => simp [sumI, ih]; omega
theorem sumI_rep (n : Nat) : sumI (List.replicate n 1) = n := by
  induction n with
  | zero => rfl
  | succ n ih => simp only [List.replicate_succ, sumI, ih]; omega
theorem sumI_bounds {l : List Int} {b : Int} (h : ∀ x ∈ l, 0 ≤ x ∧ x ≤ b) : 0 ≤ sumI l ∧ sumI l ≤ b * l.length := by
  induction l with
  | nil => simp [sumI]
  | cons x l ih =>
    have h1 := ih fun y hy => h y (List.mem_cons_of_mem _ hy)
    have h2 := h x List.mem_cons_self
    simp only [sumI, List.length_cons]
    rw [show b * ((l.length + 1 : Nat) : Int) = b * l.length + b by rw [Int.natCast_add, Int.mul_add]; simp]
    omega
/-- The sizes of the first i stitches' columns together. -/
def befI (C : Nat → List Int) : Nat → Int
  | 0 => 0
  | i + 1 => befI C i + sumI (C i)
theorem befI_congr {C D : Nat → List Int} {i : Nat} (h : ∀ j, j < i → C j = D j) : befI C i = befI D i := by
  induction i with
  | zero => rfl
  | succ i ih => simp only [befI]; rw [ih fun j hj => h j (by omega), h i (by omega)]
theorem befI_set {C D : Nat → List Int} {q k : Nat} (hk : k < q) (h : ∀ j, j < q → j ≠ k → D j = C j) : befI D q = befI C q + sumI (D k) - sumI (C k) := by
  induction q with
  | zero => omega
  | succ q ih =>
    simp only [befI]
    by_cases hkq : k = q
    · subst hkq
      rw [befI_congr (C := D) (D := C) fun j hj => h j (by omega) (by omega)]
      omega
    · rw [ih (by omega) fun j hj hn => h j (by omega) hn, h q (by omega) (by omega)]
      omega
theorem befI_bounds {C : Nat → List Int} {q : Nat} {b : Int} (h : ∀ i, i < q → 0 ≤ sumI (C i) ∧ sumI (C i) ≤ b) : 0 ≤ befI C q ∧ befI C q ≤ b * q := by
  induction q with
  | zero => simp [befI]
  | succ q ih =>
    have h1 := ih fun i hi => h i (by omega)
    have h2 := h q (by omega)
    simp only [befI]
    rw [show b * ((q + 1 : Nat) : Int) = b * q + b by rw [Int.natCast_add, Int.mul_add]; simp]
    omega
/-- All columns, one stitch after the other. -/
def catC (C : Nat → List Int) : Nat → List Int
  | 0 => []
  | i + 1 => catC C i ++ C i
theorem sum_catC (C : Nat → List Int) (i : Nat) : sumI (catC C i) = befI C i := by
  induction i with
  | zero => rfl
  | succ i ih => simp only [catC, befI, sumI_app, ih]
theorem catC_congr {C D : Nat → List Int} {i : Nat} (h : ∀ j, j < i → C j = D j) : catC C i = catC D i := by
  induction i with
  | zero => rfl
  | succ i ih => simp only [catC]; rw [ih fun j hj => h j (by omega), h i (by omega)]

/-- An event's six numbers. -/
def evL (k p n b c d : Int) : List Int := [k, p, n, b, c, d]
/-- The places of a crossing of a block of a strands at place p with the block behind it: round t, the first rounds. -/
def plK (p : Int) (t : Nat) : Nat → List Int
  | 0 => []
  | a + 1 => (p + t + a) :: plK p t a
def plE (p : Int) (a : Nat) : Nat → List Int
  | 0 => []
  | t + 1 => plE p a t ++ plK p t a
theorem plK_length (p : Int) (t a : Nat) : (plK p t a).length = a := by
  induction a with
  | zero => rfl
  | succ a ih => simp [plK, ih]
theorem plE_length (p : Int) (a t : Nat) : (plE p a t).length = t * a := by
  induction t with
  | zero => simp [plE]
  | succ t ih => simp [plE, ih, plK_length, Nat.succ_mul]
theorem plK_bounds {p : Int} {t a : Nat} : ∀ x ∈ plK p t a, p ≤ x ∧ x < p + t + a := by
  induction a with
  | zero => intro x hx; cases hx
  | succ a ih =>
    intro x hx
    rcases List.mem_cons.1 hx with rfl | hx
    · omega
    · have := ih x hx
      omega
theorem plE_bounds {p : Int} {a t : Nat} : ∀ x ∈ plE p a t, p ≤ x ∧ x < p + t + a := by
  induction t with
  | zero => intro x hx; cases hx
  | succ t ih =>
    intro x hx
    rcases List.mem_append.1 hx with hx | hx
    · have := ih x hx
      omega
    · have := plK_bounds x hx
      omega
/-- The letters at places, and the events. -/
def letL (s : Int) (l : List Int) : List Int := l.map fun x => s * (x + 1)
def crossL (s : Int) : List Int → List Int
  | [] => []
  | x :: l => evL 1 x s 0 0 0 ++ crossL s l
theorem crossL_app (s : Int) (l m : List Int) : crossL s (l ++ m) = crossL s l ++ crossL s m := by
  induction l with
  | nil => rfl
  | cons x l ih => simp [crossL, ih]
theorem crossL_length (s : Int) (l : List Int) : (crossL s l).length = 6 * l.length := by
  induction l with
  | nil => rfl
  | cons x l ih => simp [crossL, evL, ih]; omega
def signI (k : Int) : Int := if k = 8 ∨ k = 10 then 1 else if k = 9 ∨ k = 11 ∨ k = 5 then -1 else 0
theorem signI_cases (k : Int) : signI k = 0 ∨ signI k = 1 ∨ signI k = -1 := by
  unfold signI
  split
  · exact .inr (.inl rfl)
  · split
    · exact .inr (.inr rfl)
    · exact .inl rfl
/-- The columns of a stitch of kind k behind its crossing, and the crossing's events, the stitch at place p. -/
def crs (k : Int) (L : List Int) : List Int := if signI k = 0 then L else L.drop (L.length / 2) ++ L.take (L.length / 2)
def crsE (p k : Int) (L : List Int) : List Int := if signI k = 0 then [] else crossL (signI k) (plE p (sumI (L.take (L.length / 2))).toNat (sumI (L.drop (L.length / 2))).toNat)
theorem crs_length (k : Int) (L : List Int) : (crs k L).length = L.length := by
  unfold crs
  split
  · rfl
  · simp; omega
theorem crs_sum (k : Int) (L : List Int) : sumI (crs k L) = sumI L := by
  unfold crs
  split
  · rfl
  · rw [sumI_app]
    conv => rhs; rw [← List.take_append_drop (L.length / 2) L, sumI_app]
    omega
theorem crs_mem {k : Int} {L : List Int} {x : Int} (h : x ∈ crs k L) : x ∈ L := by
  unfold crs at h
  split at h
  · exact h
  · rcases List.mem_append.1 h with h | h
    · exact List.mem_of_mem_drop h
    · exact List.mem_of_mem_take h
/-- The first t columns of a stitch at place p are knitted: the events, the columns. -/
def knN (d : Int) (n t : Nat) : Nat := if d = -1 then n - 1 - t else t
def knS (p bed c d : Int) (L : List Int) : Nat → List Int × List Int
  | 0 => ([], L)
  | t + 1 => ((knS p bed c d L t).1 ++ evL 2 (p + sumI ((knS p bed c d L t).2.take (knN d L.length t))) ((knS p bed c d L t).2.getD (knN d L.length t) 0) bed c d,
      (knS p bed c d L t).2.set (knN d L.length t) 1)
theorem knS_length (p bed c d : Int) (L : List Int) (t : Nat) : (knS p bed c d L t).2.length = L.length ∧ (knS p bed c d L t).1.length = 6 * t := by
  induction t with
  | zero => exact ⟨rfl, rfl⟩
  | succ t ih =>
    refine ⟨?_, ?_⟩
    · simp [knS, ih.1]
    · simp [knS, evL, ih.2]; omega
theorem knS_get (p bed c d : Int) (L : List Int) {t : Nat} (ht : t ≤ L.length) (j : Nat) (hj : j < t) : (knS p bed c d L t).2[knN d L.length j]? = some 1 := by
  induction t with
  | zero => omega
  | succ t ih =>
    have hl := (knS_length p bed c d L t).1
    have hn : knN d L.length j < L.length := by unfold knN; split <;> omega
    simp only [knS, List.getElem?_set]
    by_cases h : knN d L.length t = knN d L.length j
    · rw [if_pos h, if_pos (by omega)]
    · rw [if_neg h]
      have hjt : j ≠ t := fun e => h (by rw [e])
      exact ih (by omega) (by omega)
theorem knS_all (p bed c d : Int) (L : List Int) : (knS p bed c d L L.length).2 = List.replicate L.length 1 := by
  apply List.ext_getElem?
  intro i
  by_cases hi : i < L.length
  · have h := knS_get p bed c d L (Nat.le_refl _) (knN d L.length i) (by unfold knN; split <;> omega)
    have h2 : knN d L.length (knN d L.length i) = i := by unfold knN; split <;> omega
    rw [h2] at h
    rw [h]
    simp [hi]
  · rw [List.getElem?_eq_none (by rw [(knS_length p bed c d L _).1]; omega), List.getElem?_eq_none (by simp; omega)]
theorem knS_mem {p bed c d : Int} {L : List Int} {b : Int} (hb : 1 ≤ b) (h : ∀ x ∈ L, 0 ≤ x ∧ x ≤ b) (t : Nat) : ∀ x ∈ (knS p bed c d L t).2, 0 ≤ x ∧ x ≤ b := by
  induction t with
  | zero => exact h
  | succ t ih =>
    intro x hx
    rcases List.mem_or_eq_of_mem_set hx with hx | rfl
    · exact ih x hx
    · omega
/-- The columns of a stitch of kind k when it is made, and its events. -/
def finL (k : Int) (L : List Int) : List Int := if k = 3 ∨ k = 4 ∨ k = 5 then [1] else if k = 6 then L.set 0 (L.getD 0 0 + 1) else if k = 7 then L else List.replicate L.length 1
def stE (p c d k : Int) (L : List Int) : List Int :=
  if k = 3 then evL 3 p 0 1 c d else if k = 6 then evL 3 (p + L.getD 0 0) 0 1 c d else if k = 7 then [] else if k = 4 ∨ k = 5 then evL 2 p (sumI L) 1 c d
  else (knS p (if k = 2 then 2 else 1) c d L L.length).1
theorem finL_made {k : Int} {L : List Int} (hk : 1 ≤ k ∧ k ≤ 11) (hl : L.length = tkN k) : finL k L = madeL k (L.getD 0 0) := by
  rcases kinds_11 hk with rfl | rfl | rfl | rfl | rfl | rfl | rfl | rfl | rfl | rfl | rfl
  all_goals first
    | (simp only [finL, madeL, hl]; rfl)
    | (match L, hl with
       | [x], _ => rfl)
theorem stE_length {p c d k : Int} {L : List Int} : (stE p c d k L).length ≤ 6 * (L.length + 1) ∧ (stE p c d k L).length % 6 = 0 := by
  unfold stE
  repeat' split
  all_goals first
    | (simp [evL]; omega)
    | (rw [(knS_length _ _ _ _ _ _).2]; omega)
    | simp [evL]

section
variable (s z : Nat → Int)
/-- The columns that stitch i takes. -/
def seg (i : Nat) : List Int := (List.range (tkN (z i))).map fun t => s (segT z i + t)
theorem seg_length (i : Nat) : (seg s z i).length = tkN (z i) := by simp [seg]
def cel0 (i : Nat) : List Int := crs (z i) (seg s z i)
/-- The crossings of the first i stitches. -/
def bgE : Nat → List Int
  | 0 => []
  | i + 1 => bgE i ++ crsE (befI (seg s z) i) (z i) (seg s z i)
/-- Stitch i has been made at time t. -/
def doneB (d : Int) (m t i : Nat) : Bool := if d = -1 then decide (m ≤ i + t) else decide (i < t)
/-- The columns of stitch i at time t. -/
def celT (d : Int) (m t i : Nat) : List Int := if doneB d m t i = true then finL (z i) (cel0 s z i) else cel0 s z i
/-- The events of a row up to time t. -/
def rowE (c d : Int) (m : Nat) : Nat → List Int
  | 0 => bgE s z m
  | t + 1 => rowE c d m t ++ stE (befI (celT s z d m t) (ordN d m t)) c d (z (ordN d m t)) (cel0 s z (ordN d m t))
end
section
variable {s z : Nat → Int} {d : Int} {m t : Nat}
theorem cel0_sum (i : Nat) : sumI (cel0 s z i) = sumI (seg s z i) := crs_sum _ _
theorem cel0_length (i : Nat) : (cel0 s z i).length = tkN (z i) := by rw [cel0, crs_length, seg_length]
theorem befI_cel0 (i : Nat) : befI (cel0 s z) i = befI (seg s z) i := by
  induction i with
  | zero => rfl
  | succ i ih => simp only [befI, ih, cel0_sum]
theorem celT_zero (i : Nat) (hi : i < m) : celT s z d m 0 i = cel0 s z i := by
  unfold celT doneB
  rw [if_neg]
  split <;> simp <;> omega
theorem celT_at (ht : t < m) : celT s z d m t (ordN d m t) = cel0 s z (ordN d m t) := by
  unfold celT doneB ordN
  rw [if_neg]
  split <;> simp <;> omega
theorem celT_next (ht : t < m) (i : Nat) (hi : i < m) : celT s z d m (t + 1) i = if i = ordN d m t then finL (z i) (cel0 s z i) else celT s z d m t i := by
  by_cases h : i = ordN d m t
  · rw [if_pos h]
    unfold celT doneB
    rw [if_pos]
    unfold ordN at h
    split
    · rename_i hd
      rw [if_pos hd] at h
      simp
      omega
    · rename_i hd
      rw [if_neg hd] at h
      simp
      omega
  · rw [if_neg h]
    unfold celT
    have : doneB d m (t + 1) i = doneB d m t i := by
      unfold doneB ordN at *
      split
      · rename_i hd
        rw [if_pos hd] at h
        by_cases h1 : m ≤ i + t
        · rw [decide_eq_true h1, decide_eq_true (by omega)]
        · rw [decide_eq_false h1, decide_eq_false (by omega)]
      · rename_i hd
        rw [if_neg hd] at h
        by_cases h1 : i < t
        · rw [decide_eq_true h1, decide_eq_true (by omega)]
        · rw [decide_eq_false h1, decide_eq_false (by omega)]
    rw [this]
theorem celT_last (i : Nat) (hi : i < m) : celT s z d m m i = finL (z i) (cel0 s z i) := by
  unfold celT doneB
  rw [if_pos]
  split <;> simp <;> omega
theorem seg_sum (i : Nat) : sumI (seg s z i) = sumR s (segT z i) (tkN (z i)) := by
  unfold seg
  generalize tkN (z i) = n
  induction n with
  | zero => rfl
  | succ n ih => rw [List.range_succ, List.map_append, sumI_app, ih]; simp [sumI, sumR]
theorem befI_seg (i : Nat) : befI (seg s z) i = sumR s 0 (segT z i) := by
  induction i with
  | zero => rfl
  | succ i ih => simp only [befI, segT]; rw [sumR_add, ih, seg_sum, Nat.zero_add]
/-- The finished columns of stitch i are those that the law of stacks tells. -/
theorem fin_made (hz : ∀ j, j < m → 1 ≤ z j ∧ z j ≤ 11) {i : Nat} (hi : i < m) : finL (z i) (cel0 s z i) = madeL (z i) (s (segT z i)) := by
  rw [finL_made (hz i hi) (cel0_length i)]
  unfold madeL
  by_cases h6 : z i = 6
  · rw [if_pos h6, if_pos h6]
    simp [cel0, crs, signI, seg, h6, tkN]
  · rw [if_neg h6, if_neg h6]
    by_cases h7 : z i = 7
    · rw [if_pos h7, if_pos h7]
      simp [cel0, crs, signI, seg, h7, tkN]
    · rw [if_neg h7, if_neg h7]
theorem cat_last (hz : ∀ j, j < m → 1 ≤ z j ∧ z j ≤ 11) {i : Nat} (hi : i ≤ m) : catC (celT s z d m m) i = aft s z i := by
  induction i with
  | zero => rfl
  | succ i ih => simp only [catC, aft]; rw [ih (by omega), celT_last i (by omega), fin_made hz (by omega)]
theorem sumI_made (k t : Int) (hk : 1 ≤ k ∧ k ≤ 11) : sumI (madeL k t) = madeS k t := by
  have h : ∀ (l : List Int) (n : Nat), n = l.length → sumI l = sumR (fun j => l.getD j 0) 0 n := by
    intro l n hn
    subst hn
    have : ∀ n, n ≤ l.length → sumI (l.take n) = sumR (fun j => l.getD j 0) 0 n := by
      intro n hn
      induction n with
      | zero => simp [sumI, sumR]
      | succ n ih =>
        rw [List.take_succ_eq_append_getElem (show n < l.length by omega), sumI_app, ih (by omega)]
        simp [sumI, sumR, List.getD, List.getElem?_eq_getElem (show n < l.length by omega)]
    have h2 := this l.length (Nat.le_refl _)
    rwa [List.take_length] at h2
  exact h _ _ (madeL_length t hk).symm
/-- The strands at time t. -/
theorem befI_keep {n : Nat} (hz : ∀ j, j < m → 1 ≤ z j ∧ z j ≤ 11) (hT : segT z m = n) (ht : t ≤ m) : befI (celT s z d m t) m = keepS s n z m d t := by
  induction t with
  | zero =>
    rw [befI_congr (D := cel0 s z) fun j hj => celT_zero j hj, befI_cel0, befI_seg, hT]
    rfl
  | succ t ih =>
    have ho : ordN d m t < m := ordN_lt (by omega)
    rw [befI_set ho (C := celT s z d m t) fun j hj hn => by rw [celT_next (by omega) j hj, if_neg hn], ih (by omega), celT_next (by omega) _ ho, if_pos rfl, celT_at (by omega), fin_made hz ho, sumI_made _ _ (hz _ ho), cel0_sum, seg_sum]
    simp only [keepS, chg]
    omega
theorem keepS_le {n k : Nat} (h : keepB s n z m d k = true) (ht : 0 < t) (htk : t ≤ k) : keepS s n z m d t ≤ 12 := by
  induction k with
  | zero => omega
  | succ k ih =>
    simp only [keepB, Bool.and_eq_true, decide_eq_true_eq] at h
    by_cases htk' : t = k + 1
    · rw [htk']; exact h.2
    · exact ih h.1 (by omega)
end
end Go.Proofs.Ytacppheedleamaa

set_option linter.unusedVariables false
set_option linter.unusedSimpArgs false
namespace Go.Proofs.Ytacppheedleamaa
open Go.RowKit

theorem hown_blk {B : Nat} {w w' : World} {e : TypeId} {size n : Nat} {v : Value} {xs : List Value} (ho : w.ownsRow B e size v n xs) (h : ∀ b, v.ownBlock = some b → w'.heap[b]? = w.heap[b]?) : w'.ownsRow B e size v n xs := by
  refine ⟨ho.1, ?_⟩
  rcases ho.2 with hn | ⟨g, cap, cur, rfl, hb, hgg, rest⟩
  · exact .inl hn
  · exact .inr ⟨g, cap, cur, rfl, hb, (h g rfl).trans hgg, rest⟩
/-- The value's block bears the mark c. -/
def HTag (tg : Nat → Nat) (v : Value) (c : Nat) : Prop := ∀ b, v.ownBlock = some b → tg b = c
/-- The marks with a new one on a value's block. -/
def hretag (tg : Nat → Nat) (v : Value) (c : Nat) (b : Nat) : Nat := if v.ownBlock = some b then c else tg b
/-- A value's block is free, or bears the mark already. -/
def HFree (tg : Nat → Nat) (v : Value) (c : Nat) : Prop := ∀ b, v.ownBlock = some b → tg b = 0 ∨ tg b = c
/-- A stitch's columns: an empty list, or a block of their own with the mark c. -/
def HCel (B : Nat) (tg : Nat → Nat) (c : Nat) (w : World) (u : Value) (L : List Int) : Prop := (∃ A k, u = .slice A 0 k ∧ L = []) ∨ (w.ownsRow B 2 1 u L.length (ints L) ∧ HTag tg u c)
/-- What else the hand is known to leave as it is: a fact P of the blocks F (a row's order ..). Given as the default of a type, so that no contract has to name it. -/
structure HKeepT where
  P : World → Prop
  F : Nat → Prop
  loc : ∀ w w', P w → (∀ b, F b → w'.heap[b]? = w.heap[b]?) → P w'
/-- The row: its block g (the cells mk ev cl), n events, q stitches. All lies behind B; tg marks the blocks: 1 the block g, 2 the events, 3 the stitches, 4 + i the columns of stitch i. -/
structure HkS [Inhabited HKeepT] (T : TypeId) (mk : Value → Value → Array Value) (B g : Nat) (tg : Nat → Nat) (ev cl : Value) (n q : Nat) (E : List Int) (U : Nat → Value) (C : Nat → List Int) (w : World) : Prop where
  b : Blk w g T (mk ev cl)
  e : w.ownsRow B 77 6 ev n (ints E)
  c : w.ownsRow B 38 1 cl q ((List.range q).map U)
  u : ∀ i, i < q → HCel B tg (4 + i) w (U i) (C i)
  tb : tg g = 1
  te : HTag tg ev 2
  tc : HTag tg cl 3
  lt : ∀ b, tg b ≠ 0 → b < w.heap.size
  lo : B ≤ g
  k : (default : HKeepT).P w
  kf : ∀ b, (default : HKeepT).F b → tg b = 1 ∧ b ≠ g
def HkM [Inhabited HKeepT] (T : TypeId) (mk : Value → Value → Array Value) (B g q : Nat) (E : List Int) (C : Nat → List Int) (w : World) : Prop := ∃ tg ev cl n U, HkS T mk B g tg ev cl n q E U C w

section
variable {tg : Nat → Nat} {u v : Value} {c x : Nat} {B : Nat} {w w' : World} {L : List Int}
theorem hretag_old {b : Nat} (hf : HFree tg v c) (hx : tg b = x) (h0 : x ≠ 0) (hc : x ≠ c) : hretag tg v c b = x := by
  unfold hretag
  rw [if_neg ?_, hx]
  intro e
  rcases hf b e with h | h <;> omega
theorem hretag_tag (hf : HFree tg v c) (hu : HTag tg u x) (h0 : x ≠ 0) (hc : x ≠ c) : HTag (hretag tg v c) u x := fun b hb => hretag_old hf (hu b hb) h0 hc
theorem hretag_new (v : Value) (c : Nat) : HTag (hretag tg v c) v c := fun b hb => by unfold hretag; rw [if_pos hb]
theorem hretag_lt {N : Nat} (h : ∀ b, tg b ≠ 0 → b < N) (hv : ∀ b, v.ownBlock = some b → b < N) : ∀ b, hretag tg v c b ≠ 0 → b < N := fun b hb => by
  unfold hretag at hb
  split at hb
  · exact hv b ‹_›
  · exact h b hb
theorem HCel.tag (h : HCel B tg x w u L) (hf : HFree tg v c) (h0 : x ≠ 0) (hc : x ≠ c) : HCel B (hretag tg v c) x w u L := by
  rcases h with h | ⟨h1, h2⟩
  · exact .inl h
  · exact .inr ⟨h1, hretag_tag hf h2 h0 hc⟩
theorem HCel.blk (h : HCel B tg x w u L) (hk : ∀ b, tg b = x → w'.heap[b]? = w.heap[b]?) : HCel B tg x w' u L := by
  rcases h with h | ⟨h1, h2⟩
  · exact .inl h
  · exact .inr ⟨hown_blk h1 fun b hb => hk b (h2 b hb), h2⟩
end
theorem hset_keep (w : World) (p : Addr) (v : Value) (b : Nat) (h : b ≠ p.block) : (w.setCell p v).heap[b]? = w.heap[b]? := Below.heap_setCell w p v b h
theorem hset_size (w : World) (p : Addr) (v : Value) : (w.setCell p v).heap.size = w.heap.size := by simp [World.setCell]
theorem map_range_set (U : Nat → Value) (q i : Nat) (u : Value) : ((List.range q).map U).set i u = (List.range q).map (fun j => if j = i then u else U j) := by
  apply List.ext_getElem?
  intro j
  rw [List.getElem?_set]
  by_cases h : i = j
  · subst h
    by_cases hi : i < q
    · simp [hi]
    · simp [hi]
  · rw [if_neg h]
    by_cases hj : j < q
    · have h' : ¬ j = i := fun e => h e.symm
      simp [hj, h']
    · simp [hj]
section
variable [Inhabited HKeepT] {T : TypeId} {mk : Value → Value → Array Value} {B g : Nat} {tg : Nat → Nat} {ev cl : Value} {n q : Nat} {E : List Int} {U : Nat → Value} {C : Nat → List Int} {w w' : World}
theorem HkS.same (h : HkS T mk B g tg ev cl n q E U C w) (hk : ∀ b, tg b ≠ 0 → w'.heap[b]? = w.heap[b]?) (hz : w.heap.size ≤ w'.heap.size) : HkS T mk B g tg ev cl n q E U C w' where
  b := (hk g (by rw [h.tb]; omega)).trans h.b
  e := hown_blk h.e fun b hb => hk b (by rw [h.te b hb]; omega)
  c := hown_blk h.c fun b hb => hk b (by rw [h.tc b hb]; omega)
  u := fun i hi => (h.u i hi).blk fun b hb => hk b (by omega)
  tb := h.tb
  te := h.te
  tc := h.tc
  lt := fun b hb => Nat.lt_of_lt_of_le (h.lt b hb) hz
  lo := h.lo
  k := HKeepT.loc _ _ _ h.k fun b hb => hk b (by rw [(h.kf b hb).1]; omega)
  kf := h.kf
theorem HkS.below (h : HkS T mk B g tg ev cl n q E U C w) (hb : Below w.heap.size w w') : HkS T mk B g tg ev cl n q E U C w' := h.same (fun b ht => hb.block b (h.lt b ht)) hb.size
theorem HkS.drewN (h : HkS T mk B g tg ev cl n q E U C w) (k : Nat) : HkS T mk B g tg ev cl n q E U C (w.drewN k) := h.same (fun _ _ => rfl) (Nat.le_refl _)
/-- Events were appended, the slice is stored now. -/
theorem HkS.putE (h : HkS T mk B g tg ev cl n q E U C w) (hk : ∀ b, tg b ≠ 0 → tg b ≠ 2 → w'.heap[b]? = w.heap[b]?) (hz : w.heap.size ≤ w'.heap.size) {ev' : Value} {n' : Nat} {E' : List Int} (ho : w'.ownsRow B 77 6 ev' n' (ints E')) (hf : HFree tg ev' 2) {o : Nat} (hmk : (mk ev cl).setIfInBounds o ev' = mk ev' cl) :
    HkS T mk B g (hretag tg ev' 2) ev' cl n' q E' U C (w'.setCell ⟨g, o, none⟩ ev') where
  b := by
    have h1 : Blk w' g T (mk ev cl) := (hk g (by rw [h.tb]; omega) (by rw [h.tb]; omega)).trans h.b
    have := h1.set_ o ev'
    rwa [hmk] at this
  e := hown_blk ho fun b hb => hset_keep _ _ _ _ (by rintro rfl; have := hf _ hb; have := h.tb; omega)
  c := hown_blk (hown_blk h.c fun b hb => hk b (by rw [h.tc b hb]; omega) (by rw [h.tc b hb]; omega)) fun b hb => hset_keep _ _ _ _ (by rintro rfl; have := h.tc _ hb; have := h.tb; omega)
  u := fun i hi => (((h.u i hi).blk fun b hb => hk b (by omega) (by omega)).blk fun b hb => hset_keep _ _ _ _ (by rintro rfl; have := h.tb; omega)).tag hf (by omega) (by omega)
  tb := hretag_old hf h.tb (by omega) (by omega)
  te := hretag_new _ _
  tc := hretag_tag hf h.tc (by omega) (by omega)
  lt := by
    rw [hset_size]
    exact hretag_lt (fun b hb => Nat.lt_of_lt_of_le (h.lt b hb) hz) fun b hb => (ho.lt b hb).2
  lo := h.lo
  k := HKeepT.loc _ _ _ h.k fun b hb => (hset_keep _ _ _ _ (h.kf b hb).2).trans (hk b (by rw [(h.kf b hb).1]; omega) (by rw [(h.kf b hb).1]; omega))
  kf := fun b hb => ⟨hretag_old hf (h.kf b hb).1 (by omega) (by omega), (h.kf b hb).2⟩
/-- A stitch was appended (its columns lie in a free block), the slice is stored now. -/
theorem HkS.putC (h : HkS T mk B g tg ev cl n q E U C w) (hk : ∀ b, tg b ≠ 0 → tg b ≠ 3 → w'.heap[b]? = w.heap[b]?) (hz : w.heap.size ≤ w'.heap.size) {cl' u : Value} {L : List Int} (ho : w'.ownsRow B 38 1 cl' (q + 1) ((List.range q).map U ++ [u])) (hf : HFree tg cl' 3) (hu : (∃ A k, u = .slice A 0 k ∧ L = []) ∨ (w'.ownsRow B 2 1 u L.length (ints L) ∧ (∀ b, u.ownBlock = some b → tg b = 0 ∧ ¬ cl'.ownBlock = some b))) {o : Nat} (hmk : (mk ev cl).setIfInBounds o cl' = mk ev cl') :
    ∃ tg', HkS T mk B g tg' ev cl' n (q + 1) E (fun i => if i = q then u else U i) (fun i => if i = q then L else C i) (w'.setCell ⟨g, o, none⟩ cl') ∧ ∀ b, tg b = 0 → ¬ cl'.ownBlock = some b → ¬ u.ownBlock = some b → tg' b = 0 := by
  have hz0 : ∀ b, tg b = 0 → ¬ cl'.ownBlock = some b → hretag tg cl' 3 b = 0 := fun b h0 h1 => by unfold hretag; rw [if_neg h1]; exact h0
  have hf2 : (∃ A k, u = .slice A 0 k ∧ L = []) ∨ (w'.ownsRow B 2 1 u L.length (ints L) ∧ HFree (hretag tg cl' 3) u (4 + q)) := by
    rcases hu with hu | ⟨hu, hu2⟩
    · exact .inl hu
    · exact .inr ⟨hu, fun b hb => .inl (by unfold hretag; rw [if_neg (hu2 b hb).2]; exact (hu2 b hb).1)⟩
  have hb' : Blk (w'.setCell ⟨g, o, none⟩ cl') g T (mk ev cl') := by
    have h1 : Blk w' g T (mk ev cl) := (hk g (by rw [h.tb]; omega) (by rw [h.tb]; omega)).trans h.b
    have := h1.set_ o cl'
    rwa [hmk] at this
  have hg : ∀ b, b ≠ g → (w'.setCell ⟨g, o, none⟩ cl').heap[b]? = w'.heap[b]? := fun b hb => hset_keep _ _ _ _ hb
  have he' : (w'.setCell ⟨g, o, none⟩ cl').ownsRow B 77 6 ev n (ints E) := hown_blk (hown_blk h.e fun b hb => hk b (by rw [h.te b hb]; omega) (by rw [h.te b hb]; omega)) fun b hb => hg b (by rintro rfl; have := h.te _ hb; have := h.tb; omega)
  have hc' : (w'.setCell ⟨g, o, none⟩ cl').ownsRow B 38 1 cl' (q + 1) ((List.range (q + 1)).map fun i => if i = q then u else U i) := by
    have h1 : (List.range (q + 1)).map (fun i => if i = q then u else U i) = (List.range q).map U ++ [u] := by
      rw [List.range_succ, List.map_append]
      congr 1
      · exact List.map_congr_left fun i hi => by rw [if_neg (by have := List.mem_range.1 hi; omega)]
      · simp
    rw [h1]
    exact hown_blk ho fun b hb => hg b (by rintro rfl; have := hf _ hb; have := h.tb; omega)
  have hu' : ∀ i, i < q → HCel B (hretag tg cl' 3) (4 + i) (w'.setCell ⟨g, o, none⟩ cl') (U i) (C i) := fun i hi => (((h.u i hi).blk fun b hb => hk b (by omega) (by omega)).blk fun b hb => hg b (by rintro rfl; have := h.tb; omega)).tag hf (by omega) (by omega)
  have hlt' : ∀ b, hretag tg cl' 3 b ≠ 0 → b < (w'.setCell ⟨g, o, none⟩ cl').heap.size := by
    rw [hset_size]
    exact hretag_lt (fun b hb => Nat.lt_of_lt_of_le (h.lt b hb) hz) fun b hb => (ho.lt b hb).2
  have htb' := hretag_old hf h.tb (by omega) (by omega)
  have hte' := hretag_tag hf h.te (by omega) (by omega)
  have htc' := hretag_new (tg := tg) cl' 3
  have hk' : (default : HKeepT).P (w'.setCell ⟨g, o, none⟩ cl') := HKeepT.loc _ _ _ h.k fun b hb => (hset_keep _ _ _ _ (h.kf b hb).2).trans (hk b (by rw [(h.kf b hb).1]; omega) (by rw [(h.kf b hb).1]; omega))
  have hkf' : ∀ b, (default : HKeepT).F b → hretag tg cl' 3 b = 1 ∧ b ≠ g := fun b hb => ⟨hretag_old hf (h.kf b hb).1 (by omega) (by omega), (h.kf b hb).2⟩
  rcases hf2 with ⟨A, k, hA, hL⟩ | ⟨hu1, hu2⟩
  · refine ⟨_, ⟨hb', he', hc', fun i hi => ?_, htb', hte', htc', hlt', h.lo, hk', hkf'⟩, fun b h0 h1 _ => hz0 b h0 h1⟩
    by_cases hiq : i = q
    · subst hiq
      simp only [if_true]
      exact .inl ⟨A, k, hA, hL⟩
    · simp only [if_neg hiq]
      exact hu' i (by omega)
  · refine ⟨hretag (hretag tg cl' 3) u (4 + q), ⟨hb', he', hc', fun i hi => ?_, hretag_old hu2 htb' (by omega) (by omega), hretag_tag hu2 hte' (by omega) (by omega), hretag_tag hu2 htc' (by omega) (by omega), hretag_lt hlt' fun b hb => by rw [hset_size]; exact (hu1.lt b hb).2, h.lo, hk', fun b hb => ⟨hretag_old hu2 (hkf' b hb).1 (by omega) (by omega), (hkf' b hb).2⟩⟩, fun b h0 h1 h2 => by unfold hretag; rw [if_neg h2]; exact hz0 b h0 h1⟩
    by_cases hiq : i = q
    · subst hiq
      simp only [if_true]
      refine .inr ⟨hown_blk hu1 fun b hb => hg b ?_, hretag_new _ _⟩
      rintro rfl
      rcases hu with ⟨A, k, rfl, hL⟩ | ⟨_, h3⟩
      · have := hu2 _ hb
        omega
      · have := (h3 _ hb).1
        have := h.tb
        omega
    · simp only [if_neg hiq]
      exact (hu' i (by omega)).tag hu2 (by omega) (by omega)
/-- The columns of stitch i are others now, in a free block. -/
theorem HkS.setC {gc cap : Nat} (h : HkS T mk B g tg ev (.slice (some ⟨gc, 0, none⟩) q cap) n q E U C w) {i : Nat} (hi : i < q) {u : Value} {L : List Int} (hu : w.ownsRow B 2 1 u L.length (ints L)) (hf : ∀ b, u.ownBlock = some b → tg b = 0) :
    HkS T mk B g (hretag tg u (4 + i)) ev (.slice (some ⟨gc, 0, none⟩) q cap) n q E (fun j => if j = i then u else U j) (fun j => if j = i then L else C j) (w.setCell ⟨gc, i, none⟩ u) := by
  have hF : HFree tg u (4 + i) := fun b hb => .inl (hf b hb)
  have hgc : tg gc = 3 := h.tc gc rfl
  have hk : ∀ b, tg b ≠ 3 → (w.setCell ⟨gc, i, none⟩ u).heap[b]? = w.heap[b]? := fun b hb => hset_keep _ _ _ _ (by rintro rfl; exact hb hgc)
  refine ⟨(hk g (by rw [h.tb]; omega)).trans h.b, hown_blk h.e fun b hb => hk b (by rw [h.te b hb]; omega), by have := (h.c.stored i u).1; rwa [map_range_set] at this, fun j hj => ?_, hretag_old hF h.tb (by omega) (by omega), hretag_tag hF h.te (by omega) (by omega), hretag_tag hF h.tc (by omega) (by omega), ?_, h.lo, HKeepT.loc _ _ _ h.k fun b hb => hk b (by rw [(h.kf b hb).1]; omega), fun b hb => ⟨hretag_old hF (h.kf b hb).1 (by omega) (by omega), (h.kf b hb).2⟩⟩
  · by_cases hji : j = i
    · subst hji
      simp only [if_true]
      exact .inr ⟨hown_blk hu fun b hb => hk b (by rw [hf b hb]; omega), hretag_new _ _⟩
    · simp only [if_neg hji]
      exact ((h.u j hj).blk fun b hb => hk b (by omega)).tag hF (by omega) (by omega)
  · rw [hset_size]
    exact hretag_lt h.lt fun b hb => (hu.lt b hb).2
/-- A column of stitch i has another size now. -/
theorem HkS.setN {gi cap : Nat} (h : HkS T mk B g tg ev cl n q E U C w) {i k : Nat} (hi : i < q) (hU : U i = .slice (some ⟨gi, 0, none⟩) (C i).length cap) (hk : k < (C i).length) (x : Int) :
    HkS T mk B g tg ev cl n q E U (fun j => if j = i then (C i).set k x else C j) (w.setCell ⟨gi, k, none⟩ (.int .i64 x)) := by
  have hc := h.u i hi
  rw [hU] at hc
  rcases hc with ⟨A, c, e, hL⟩ | ⟨ho, ht⟩
  · rw [hL] at hk
    simp at hk
  have hgi : tg gi = 4 + i := ht gi rfl
  have hkp : ∀ b, tg b ≠ 4 + i → (w.setCell ⟨gi, k, none⟩ (.int .i64 x)).heap[b]? = w.heap[b]? := fun b hb => hset_keep _ _ _ _ (by rintro rfl; exact hb hgi)
  refine ⟨(hkp g (by rw [h.tb]; omega)).trans h.b, hown_blk h.e fun b hb => hkp b (by rw [h.te b hb]; omega), hown_blk h.c fun b hb => hkp b (by rw [h.tc b hb]; omega), fun j hj => ?_, h.tb, h.te, h.tc, fun b hb => by rw [hset_size]; exact h.lt b hb, h.lo, HKeepT.loc _ _ _ h.k fun b hb => hkp b (by rw [(h.kf b hb).1]; omega), h.kf⟩
  by_cases hji : j = i
  · subst hji
    simp only [if_true]
    refine .inr ⟨?_, by rw [hU]; exact ht⟩
    have := (ho.stored k (.int .i64 x)).1
    rw [hU, List.length_set]
    have h2 : ints ((C j).set k x) = (ints (C j)).set k (.int .i64 x) := by simp [ints, List.map_set]
    rw [h2]
    exact this
  · simp only [if_neg hji]
    exact (h.u j hj).blk fun b hb => hkp b (by omega)
/-- What is loaded: the slice of stitch i; its numbers. -/
theorem HkS.cellAt {gc cap : Nat} (h : HkS T mk B g tg ev (.slice (some ⟨gc, 0, none⟩) q cap) n q E U C w) {i : Nat} (hi : i < q) : w.cell? ⟨gc, i, none⟩ = some (U i) := by
  rw [h.c.cellAt i (by omega)]
  simp [hi]
theorem HkS.form (h : HkS T mk B g tg ev cl n q E U C w) (hq : 0 < q) : ∃ gc cap, cl = .slice (some ⟨gc, 0, none⟩) q cap := by
  rcases h.c.2 with ⟨_, h0⟩ | ⟨gc, cap, _, rfl, _⟩
  · omega
  · exact ⟨gc, cap, rfl⟩
theorem HkS.len (h : HkS T mk B g tg ev cl n q E U C w) : E.length = 6 * n := by
  have := h.e.1
  simp [ints] at this
  omega
/-- A stitch's columns as a slice that reads as they are. -/
theorem HkS.read (h : HkS T mk B g tg ev cl n q E U C w) {i : Nat} (hi : i < q) : ∃ A c, U i = .slice A (C i).length c ∧ Rd w A (C i).length (fun j => .int .i64 ((C i).getD j 0)) := by
  rcases h.u i hi with ⟨A, c, e, hL⟩ | ⟨ho, _⟩
  · refine ⟨A, c, ?_, ?_⟩
    · rw [e, hL]; rfl
    · rw [hL]
      intro h0
      simp at h0
  · obtain ⟨A, c, e⟩ := own_form ho
    refine ⟨A, c, e, fun h0 => ?_⟩
    rw [e] at ho
    rcases ho.2 with ⟨_, h1⟩ | ⟨g', cap, _, hg, _⟩
    · omega
    injection hg with hA _ hc
    subst hA
    refine ⟨g', 0, rfl, (ho.lt g' rfl).2, fun j hj => ?_⟩
    rw [Nat.zero_add, ho.cellAt j (by omega)]
    simp [ints, List.getD, hj]
/-- A stitch's columns where there are some. -/
theorem HkS.readO (h : HkS T mk B g tg ev cl n q E U C w) {i : Nat} (hi : i < q) (h0 : 0 < (C i).length) : ∃ gi cap, U i = .slice (some ⟨gi, 0, none⟩) (C i).length cap ∧ ((C i).length ≤ cap ∧ cap ≤ maxLen) ∧ gi < w.heap.size ∧ B ≤ gi ∧ tg gi = 4 + i ∧ (∀ j, j < (C i).length → w.cell? ⟨gi, j, none⟩ = some (.int .i64 ((C i).getD j 0))) ∧ ∀ j, w.frozen? ⟨gi, j, none⟩ = false := by
  rcases h.u i hi with ⟨A, c, e, hL⟩ | ⟨ho, ht⟩
  · rw [hL] at h0
    simp at h0
  · rcases ho.2 with ⟨_, h1⟩ | ⟨gi, cap, cur, e, hb, hc, hnc, hcm, _⟩
    · omega
    refine ⟨gi, cap, e, ⟨hnc, hcm⟩, (Array.getElem?_eq_some_iff.1 hc).1, hb, ht gi (by rw [e]; rfl), fun j hj => ?_, fun j => ?_⟩
    · rw [e] at ho
      rw [ho.cellAt j (by omega)]
      simp [ints, List.getD, hj]
    · rw [e] at ho
      exact ho.frozenAt j
theorem HkS.cFrozen {gc cap : Nat} (h : HkS T mk B g tg ev (.slice (some ⟨gc, 0, none⟩) q cap) n q E U C w) (i : Nat) : w.frozen? ⟨gc, i, none⟩ = false := h.c.frozenAt i
end
/-- Nothing else is kept. -/
instance noKeep : Inhabited HKeepT := ⟨⟨fun _ => True, fun _ => False, fun _ _ _ _ => trivial⟩⟩
/-- A row's numbers are kept. -/
@[reducible] def rowKeep (A : Option Addr) (N : Nat) (f : Nat → Value) : Inhabited HKeepT := ⟨⟨fun w => Rd w A N f, Fb A N, (rd_obj A N f).1⟩⟩
open Classical in
theorem HkM.keep {T : TypeId} {mk : Value → Value → Array Value} {B g q : Nat} {E : List Int} {C : Nat → List Int} {w w' : World} (h : @HkM noKeep T mk B g q E C w) (hb : Below w.heap.size w w') (K : Inhabited HKeepT) (hk : K.default.P w') (hf : ∀ b, K.default.F b → w.heap.size ≤ b ∧ b < w'.heap.size) : @HkM K T mk B g q E C w' := by
  obtain ⟨tg, ev, cl, n, U, H⟩ := h
  have hlt := @HkS.lt noKeep _ _ _ _ _ _ _ _ _ _ _ _ _ H
  have hH := @HkS.below noKeep _ _ _ _ _ _ _ _ _ _ _ _ _ _ H hb
  have h0 : ∀ b, K.default.F b → tg b = 0 := fun b hb => Decidable.byContradiction fun hn => by have := hlt b hn; have := (hf b hb).1; omega
  have hold : ∀ b, tg b ≠ 0 → (if K.default.F b then 1 else tg b) = tg b := fun b hb => if_neg fun hF => hb (h0 b hF)
  have htag : ∀ (v : Value) (c : Nat), c ≠ 0 → HTag tg v c → HTag (fun b => if K.default.F b then 1 else tg b) v c := fun v c hc hv b hb => by
    have := hv b hb
    exact (hold b (by omega)).trans this
  refine ⟨fun b => if K.default.F b then 1 else tg b, ev, cl, n, U, ?_⟩
  have hb1 := @HkS.b noKeep _ _ _ _ _ _ _ _ _ _ _ _ _ hH
  have he1 := @HkS.e noKeep _ _ _ _ _ _ _ _ _ _ _ _ _ hH
  have hc1 := @HkS.c noKeep _ _ _ _ _ _ _ _ _ _ _ _ _ hH
  have hu1 := @HkS.u noKeep _ _ _ _ _ _ _ _ _ _ _ _ _ hH
  have htb := @HkS.tb noKeep _ _ _ _ _ _ _ _ _ _ _ _ _ hH
  have hte := @HkS.te noKeep _ _ _ _ _ _ _ _ _ _ _ _ _ hH
  have htc := @HkS.tc noKeep _ _ _ _ _ _ _ _ _ _ _ _ _ hH
  have hlt2 := @HkS.lt noKeep _ _ _ _ _ _ _ _ _ _ _ _ _ hH
  have hlo := @HkS.lo noKeep _ _ _ _ _ _ _ _ _ _ _ _ _ hH
  refine @HkS.mk K _ _ _ _ _ _ _ _ _ _ _ _ _ hb1 he1 hc1 (fun i hi => ?_) ((hold g (by omega)).trans htb) (htag _ _ (by omega) hte) (htag _ _ (by omega) htc) (fun b hb => ?_) hlo hk (fun b hb => ⟨if_pos hb, fun e => ?_⟩)
  · rcases hu1 i hi with h | ⟨h1, h2⟩
    · exact .inl h
    · exact .inr ⟨h1, htag _ _ (by omega) h2⟩
  · by_cases hF : K.default.F b
    · exact (hf b hF).2
    · rw [if_neg hF] at hb
      exact hlt2 b hb
  · have := h0 b hb
    rw [e] at this
    omega
theorem HkS.free (K : Inhabited HKeepT) {T : TypeId} {mk : Value → Value → Array Value} {B g : Nat} {tg : Nat → Nat} {ev cl : Value} {n q : Nat} {E : List Int} {U : Nat → Value} {C : Nat → List Int} {w : World} (h : @HkS K T mk B g tg ev cl n q E U C w) : @HkS noKeep T mk B g tg ev cl n q E U C w :=
  @HkS.mk noKeep _ _ _ _ _ _ _ _ _ _ _ _ _ (@HkS.b K _ _ _ _ _ _ _ _ _ _ _ _ _ h) (@HkS.e K _ _ _ _ _ _ _ _ _ _ _ _ _ h) (@HkS.c K _ _ _ _ _ _ _ _ _ _ _ _ _ h) (@HkS.u K _ _ _ _ _ _ _ _ _ _ _ _ _ h) (@HkS.tb K _ _ _ _ _ _ _ _ _ _ _ _ _ h) (@HkS.te K _ _ _ _ _ _ _ _ _ _ _ _ _ h) (@HkS.tc K _ _ _ _ _ _ _ _ _ _ _ _ _ h) (@HkS.lt K _ _ _ _ _ _ _ _ _ _ _ _ _ h) (@HkS.lo K _ _ _ _ _ _ _ _ _ _ _ _ _ h) trivial (fun _ hb => hb.elim)
theorem HkM.free (K : Inhabited HKeepT) {T : TypeId} {mk : Value → Value → Array Value} {B g q : Nat} {E : List Int} {C : Nat → List Int} {w : World} (h : @HkM K T mk B g q E C w) : @HkM noKeep T mk B g q E C w ∧ K.default.P w := by
  obtain ⟨tg, ev, cl, n, U, H⟩ := h
  exact ⟨⟨tg, ev, cl, n, U, HkS.free K H⟩, @HkS.k K _ _ _ _ _ _ _ _ _ _ _ _ _ H⟩
end Go.Proofs.Ytacppheedleamaa

set_option linter.unusedVariables false
set_option linter.unusedSimpArgs false
namespace Go.Proofs.Ytacppheedleamaa
open Go.RowKit
set_option maxRecDepth 20000

theorem sumI_take (L : List Int) {k : Nat} (hk : k < L.length) : sumI (L.take (k + 1)) = sumI (L.take k) + L.getD k 0 := by
  rw [List.take_succ_eq_append_getElem hk, sumI_app]
  simp [sumI, List.getD, List.getElem?_eq_getElem hk]
/-- No number is too great. -/
def Sml (L : List Int) : Prop := L.length ≤ 1000 ∧ ∀ x ∈ L, 0 ≤ x ∧ x ≤ 1000
theorem Sml.take {L : List Int} (h : Sml L) (k : Nat) : Sml (L.take k) := ⟨by have := h.1; simp; omega, fun x hx => h.2 x (List.mem_of_mem_take hx)⟩
theorem Sml.drop {L : List Int} (h : Sml L) (k : Nat) : Sml (L.drop k) := ⟨by have := h.1; simp; omega, fun x hx => h.2 x (List.mem_of_mem_drop hx)⟩
theorem Sml.sum {L : List Int} (h : Sml L) : 0 ≤ sumI L ∧ sumI L ≤ 1000000 := by
  have h1 := sumI_bounds h.2
  have h2 := h.1
  omega
theorem Sml.get {L : List Int} (h : Sml L) (k : Nat) : 0 ≤ L.getD k 0 ∧ L.getD k 0 ≤ 1000 := by
  by_cases hk : k < L.length
  · have := h.2 L[k] (List.getElem_mem hk)
    simp only [List.getD, List.getElem?_eq_getElem hk, Option.getD_some]
    exact this
  · simp [List.getD, List.getElem?_eq_none (Nat.le_of_not_lt hk)]
/-- The hand's block in the reference. -/
def mkS (ev cl : Value) : Array Value := #[ev, cl]
/-- All columns are small. -/
def SmlC (C : Nat → List Int) (q : Nat) : Prop := q ≤ 1000 ∧ ∀ i, i < q → Sml (C i)
theorem SmlC.bef {C : Nat → List Int} {q : Nat} (h : SmlC C q) {i : Nat} (hi : i ≤ q) : 0 ≤ befI C i ∧ befI C i ≤ 1000000000 := by
  have h1 := befI_bounds (C := C) (q := i) (b := 1000000) fun j hj => (h.2 j (by omega)).sum
  have := h.1
  omega
section
variable [Inhabited HKeepT] {B g : Nat} {tg : Nat → Nat} {ev cl : Value} {n q : Nat} {E : List Int} {U : Nat → Value} {C : Nat → List Int} {w : World}
end
end Go.Proofs.Ytacppheedleamaa

set_option linter.unusedVariables false
set_option linter.unusedSimpArgs false
namespace Go.Proofs.Ytacppheedleamaa
open Go.RowKit
set_option maxRecDepth 20000

/-- The hand's row went on from w: nothing ahead of B was written. -/
def HkP [Inhabited HKeepT] (T : TypeId) (mk : Value → Value → Array Value) (B g q : Nat) (E : List Int) (C : Nat → List Int) (w : World) (e : Ending) (w' : World) : Prop := e = .returned (.tuple #[]) ∧ HkM T mk B g q E C w' ∧ Below B w w'
section
variable [Inhabited HKeepT] {B g : Nat} {tg : Nat → Nat} {ev cl : Value} {n q : Nat} {E : List Int} {U : Nat → Value} {C : Nat → List Int} {w : World}
end
end Go.Proofs.Ytacppheedleamaa

set_option linter.unusedVariables false
set_option linter.unusedSimpArgs false
namespace Go.Proofs.Ytacppheedleamaa
open Go.RowKit
set_option maxRecDepth 20000

theorem RowAt.bel {B : Nat} {w w' : World} {g o : Nat} {d c : Int} {A : Option Addr} {n q : Nat} (h : RowAt w g o d c A n q) (hb : Below B w w') (hg : g < B) : RowAt w' g o d c A n q := ⟨at_below hb hg h.c0, at_below hb hg h.c1, at_below hb hg h.c2⟩
/-- The columns of stitch i are L now. -/
def hupd (C : Nat → List Int) (i : Nat) (L : List Int) (j : Nat) : List Int := if j = i then L else C j
theorem hupd_same (C : Nat → List Int) (i : Nat) (L : List Int) : hupd C i L i = L := if_pos rfl
theorem hupd_upd (C : Nat → List Int) (i : Nat) (L M : List Int) : hupd (hupd C i L) i M = hupd C i M := by
  funext j
  unfold hupd
  by_cases h : j = i
  · rw [if_pos h, if_pos h]
  · rw [if_neg h, if_neg h, if_neg h]
theorem hupd_self (C : Nat → List Int) (i : Nat) : hupd C i (C i) = C := by
  funext j
  unfold hupd
  by_cases h : j = i
  · rw [if_pos h, h]
  · rw [if_neg h]
theorem befI_hupd (C : Nat → List Int) (i : Nat) (L : List Int) : befI (hupd C i L) i = befI C i := befI_congr fun j hj => if_neg (by omega)
theorem SmlC.hupd {C : Nat → List Int} {q : Nat} (h : SmlC C q) {i : Nat} {L : List Int} (hL : Sml L) : SmlC (hupd C i L) q := ⟨h.1, fun j hj => by
  unfold Go.Proofs.Ytacppheedleamaa.hupd
  split
  · exact hL
  · exact h.2 j hj⟩
theorem Sml.kn {p bed c d : Int} {L : List Int} (h : Sml L) (t : Nat) : Sml (knS p bed c d L t).2 := ⟨by rw [(knS_length p bed c d L t).1]; exact h.1, knS_mem (by omega) h.2 t⟩
theorem hupd_set (C : Nat → List Int) (i : Nat) (X : List Int) (k : Nat) (x : Int) : (fun j => if j = i then (hupd C i X i).set k x else hupd C i X j) = hupd C i (X.set k x) := by
  funext j
  unfold hupd
  by_cases h : j = i
  · rw [if_pos h, if_pos h, if_pos rfl]
  · rw [if_neg h, if_neg h, if_neg h]
section
variable [Inhabited HKeepT] {B g q : Nat} {E : List Int} {C : Nat → List Int} {w : World}
end
end Go.Proofs.Ytacppheedleamaa

set_option linter.unusedVariables false
set_option linter.unusedSimpArgs false
namespace Go.Proofs.Ytacppheedleamaa
open Go.RowKit
set_option maxRecDepth 20000

section
variable [Inhabited HKeepT] {B g q : Nat} {E : List Int} {C : Nat → List Int} {w : World}
end
end Go.Proofs.Ytacppheedleamaa

set_option linter.unusedVariables false
set_option linter.unusedSimpArgs false
namespace Go.Proofs.Ytacppheedleamaa
open Go.RowKit
set_option maxRecDepth 20000

theorem knS_one (p bed c d x : Int) : (knS p bed c d [x] 1).1 = evL 2 p x bed c d := by
  have h : knN d 1 0 = 0 := by unfold knN; split <;> simp
  simp [knS, h, sumI]
theorem HkS.drew [Inhabited HKeepT] {T : TypeId} {mk : Value → Value → Array Value} {B g : Nat} {tg : Nat → Nat} {ev cl : Value} {n q : Nat} {E : List Int} {U : Nat → Value} {C : Nat → List Int} {w : World} (h : HkS T mk B g tg ev cl n q E U C w) : HkS T mk B g tg ev cl n q E U C w.drew := h.same (fun _ _ => rfl) (Nat.le_refl _)
section
variable [Inhabited HKeepT] {B g q : Nat} {E : List Int} {C : Nat → List Int} {w : World}
end
end Go.Proofs.Ytacppheedleamaa

set_option linter.unusedVariables false
set_option linter.unusedSimpArgs false
namespace Go.Proofs.Ytacppheedleamaa
open Go.RowKit
set_option maxRecDepth 20000

section
variable [Inhabited HKeepT] {B g q : Nat} {E : List Int} {C : Nat → List Int} {w : World}
end
end Go.Proofs.Ytacppheedleamaa

set_option linter.unusedVariables false
set_option linter.unusedSimpArgs false
namespace Go.Proofs.Ytacppheedleamaa
open Go.RowKit

section
variable [Inhabited HKeepT] {B g q : Nat} {E : List Int} {C : Nat → List Int} {w : World}
end
end Go.Proofs.Ytacppheedleamaa

set_option linter.unusedVariables false
set_option linter.unusedSimpArgs false
namespace Go.Proofs.Ytacppheedleamaa
open Go.RowKit
set_option maxRecDepth 20000

theorem letL_app (s : Int) (l m : List Int) : letL s (l ++ m) = letL s l ++ letL s m := List.map_append
theorem letL_length (s : Int) (l : List Int) : (letL s l).length = l.length := List.length_map _
end Go.Proofs.Ytacppheedleamaa

set_option linter.unusedVariables false
set_option linter.unusedSimpArgs false
namespace Go.Proofs.Ytacppheedleamaa
open Go.RowKit
set_option maxRecDepth 20000

section
variable [Inhabited HKeepT] {B g q : Nat} {E : List Int} {C : Nat → List Int} {w : World}
end
end Go.Proofs.Ytacppheedleamaa

set_option linter.unusedVariables false
set_option linter.unusedSimpArgs false
namespace Go.Proofs.Ytacppheedleamaa
open Go.RowKit
set_option maxRecDepth 20000

/-- n numbers from p on. -/
def cntL (p : Int) : Nat → List Int
  | 0 => []
  | k + 1 => cntL p k ++ [p + k]
theorem cntL_length (p : Int) (n : Nat) : (cntL p n).length = n := by
  induction n with
  | zero => rfl
  | succ n ih => simp [cntL, ih]
theorem cntL_get (p : Int) {n j : Nat} (h : j < n) : (cntL p n).getD j 0 = p + j := by
  induction n with
  | zero => omega
  | succ n ih =>
    simp only [cntL, List.getD]
    by_cases hj : j < n
    · rw [List.getElem?_append_left (by rw [cntL_length]; exact hj)]
      exact ih hj
    · obtain rfl : j = n := by omega
      rw [List.getElem?_append_right (by rw [cntL_length]; omega), cntL_length]
      simp
/-- The order of a row as a list. -/
def ordL (d : Int) (m : Nat) : Nat → List Int
  | 0 => []
  | t + 1 => ordL d m t ++ [(ordN d m t : Int)]
theorem ordL_length (d : Int) (m n : Nat) : (ordL d m n).length = n := by
  induction n with
  | zero => rfl
  | succ n ih => simp [ordL, ih]
theorem ordL_get (d : Int) (m : Nat) {n j : Nat} (h : j < n) : (ordL d m n).getD j 0 = ordN d m j := by
  induction n with
  | zero => omega
  | succ n ih =>
    simp only [ordL, List.getD]
    by_cases hj : j < n
    · rw [List.getElem?_append_left (by rw [ordL_length]; exact hj)]
      exact ih hj
    · obtain rfl : j = n := by omega
      rw [List.getElem?_append_right (by rw [ordL_length]; omega), ordL_length]
      simp
end Go.Proofs.Ytacppheedleamaa

set_option linter.unusedVariables false
set_option linter.unusedSimpArgs false
namespace Go.Proofs.Ytacppheedleamaa
open Go.RowKit

theorem l00OwnC_any (A : Option Addr) (c : Nat) (L : List Int) (w : World) (ha : Rd w A L.length (fun j => .int .i64 (L.getD j 0))) (hn : L.length ≤ 1048576) :
    Calls Try.prog 32 #[.slice A L.length c] w fun e w' => ∃ v, e = .returned v ∧ w'.ownsRow w.heap.size 2 1 v L.length (ints L) ∧ Below w.heap.size w w' := by
  obtain ⟨i0, hi, iz, is, ib⟩ := info_parts info64
  have hb0 : Below w.heap.size w (w.alloc (.cells #[] 2)) := (Below.refl _ _).alloc (Nat.le_refl _) _
  have HR := Lib.hid (ha.below hb0)
  have HO := Lib.hid (World.ownsRow_made (e := 2) (size := 1) w #[] 0 (Nat.le_refl _) (by unfold maxLen; omega) rfl)
  have HB := Lib.hid hb0
  clear ha hb0
  go_enter Try.func32, Try.ntmps32
  go_wp2_with (at_builtin; go_must (refine wpList_appR (w.alloc (.cells #[] 2)) rfl (.tmp 3) (.tmp 4) _ rfl w.heap.size 2 i0 _ 1 8 Try.underlying38 hi iz is ib rfl (by omega) _ 0 [] rfl HO.out A L.length c (fun j => .int .i64 (L.getD j 0)) rfl (by rw [Nat.mul_one]; exact HR.out) (fun j => rfl) (by unfold maxLen; omega) (by omega) (by simp) ?_); intro v' w' hown' hfr; have HOWN' := Lib.hid hown'; have HFR := Lib.hid hfr; clear hown' hfr)
  go_ret
  have ho := HOWN'.out
  rw [Nat.zero_add, List.nil_append, Nat.mul_one, ints_get L L.length rfl] at ho
  exact ⟨_, rfl, ho, HB.out.trans (HFR.out.own HO.out (by simp))⟩
end Go.Proofs.Ytacppheedleamaa

set_option linter.unusedVariables false
set_option linter.unusedSimpArgs false
namespace Go.Proofs.Ytacppheedleamaa
open Go.RowKit
set_option maxRecDepth 20000

/-- The first t stitches' columns lie in the rows of v, behind B. -/
structure SrcS (B : Nat) (z : Nat → Int) (v : Value) (t : Nat) (As : Nat → Option Addr) (cs : Nat → Nat) (w : World) : Prop where
  own : w.ownsRow B 38 1 v t ((List.range t).map fun j => .slice (As j) (tkN (z j)) (cs j))
  rd : ∀ j, j < t → Rd w (As j) (tkN (z j)) (fun x => .int .i64 ((segT z j : Int) + x))
  far : ∀ j, j < t → ∀ b, Fb (As j) (tkN (z j)) b → B ≤ b ∧ b < w.heap.size ∧ ¬ v.ownBlock = some b
theorem SrcS.below {B : Nat} {z : Nat → Int} {v : Value} {t : Nat} {As : Nat → Option Addr} {cs : Nat → Nat} {w w' : World} (h : SrcS B z v t As cs w) (hb : Below w.heap.size w w') : SrcS B z v t As cs w' :=
  ⟨own_below h.own hb, fun j hj => (h.rd j hj).below hb, fun j hj b hF => ⟨(h.far j hj b hF).1, Nat.lt_of_lt_of_le (h.far j hj b hF).2.1 hb.size, (h.far j hj b hF).2.2⟩⟩
def SrcP (z : Nat → Int) (m : Nat) (w : World) (e : Ending) (w' : World) : Prop := ∃ v As cs, e = .returned v ∧ SrcS w.heap.size z v m As cs w' ∧ Below w.heap.size w w'
end Go.Proofs.Ytacppheedleamaa

set_option linter.unusedVariables false
set_option linter.unusedSimpArgs false
namespace Go.Proofs.Ytacppheedleamaa
open Go.RowKit

/-- 'append(out, x...)' at a step of a region that draws its order: x reads as known cells. -/
theorem step_appRg {P : Program} {o : Oper} {cond : Bool} {a : Act} {K : Act → World → Prop} {Q : Exit → Act → World → Prop} {E : Prop} (W : World) (hcond : cond = true) (s x : Operand) (t : TypeId)
    (ho : o.op = .call { callee := .builtin .append, args := #[s, x], argTypes := #[t, t] })
    (base : Nat) (e : TypeId) (i : TypeInfo) (z : Value) (size bytes : Nat) (ht : P.underlying t = some (.slice e)) (hi : P.info? e = some i) (hz : i.zero = some z)
    (hsize : i.size = size) (hby : i.bytes = bytes) (hzs : z.cells.size = size) (hsz : 0 < size)
    (v : Value) (n : Nat) (xs : List Value) (hs : a.eval s = v) (hown : W.ownsRow base e size v n xs)
    (A2 : Option Addr) (m c : Nat) (f : Nat → Value) (hx : a.eval x = .slice A2 m c) (hrd : Rd W A2 (m * size) f) (h1 : ∀ j, (f j).oneCell' = true)
    (h63 : n + m ≤ maxLen) (hbytes : (n + m) * bytes ≤ 140737488355328) (hbase : base ≤ W.heap.size)
    (h : ∀ v' w', w'.ownsRow base e size v' (n + m) (xs ++ (List.range (m * size)).map f) → Fr W w' (fun b => v.ownBlock = some b) → K (a.put o.dst v') w') :
    if cond = true then Oper.wp P o a W K Q else E := by
  rw [if_pos hcond]
  rcases A2 with _ | ad
  · have hm : m = 0 := by
      rcases Nat.eq_zero_or_pos m with h0 | h0
      · exact h0
      · obtain ⟨g, o', e, _⟩ := hrd (Nat.mul_pos h0 hsz)
        cases e
    subst hm
    have hr := append_nil_run (P := P) W base t o.type e i size ht hi v n xs hown c
    unfold Oper.wp execOp
    simp only [ho, resolve, invoke, builtin, Sem.run_bind, Sem.run_pure, Result.andThen_ok, List.map_toArray, List.map_cons, List.map_nil, hs, hx, hr]
    exact h _ _ (by simpa using hown) (Fr.refl _ _)
  · refine wp_append_own W s x t ho base e i z size bytes ht hi hz hsize hby hzs hsz v n xs hs hown ad m c ((List.range (m * size)).map f) hx (by simp) (fun j u hu => ?_) (fun u hu => ?_) h63 hbytes hbase ?_
    · obtain ⟨hj, rfl⟩ : j < m * size ∧ f j = u := by
        by_cases hj : j < m * size
        · simp [hj] at hu; exact ⟨hj, hu⟩
        · rw [List.getElem?_eq_none (by simpa using hj)] at hu; cases hu
      obtain ⟨g, o', e, _, hr⟩ := hrd (by omega)
      injection e with e
      subst e
      rw [Addr.add_lit]
      exact hr j hj
    · obtain ⟨j, _, rfl⟩ := List.mem_map.1 hu
      exact h1 j
    · intro v' w' h2 h3 _
      exact h v' w' h2 ⟨h3.os, h3.tape, h3.output, h3.size, fun b hb hne => h3.block b hb (fun e => hne e.symm)⟩
/-- 'append(out, x...)' at a step of a region that draws its order: x reads as known cells; where the new value lies. -/
theorem step_appRx {P : Program} {o : Oper} {cond : Bool} {a : Act} {K : Act → World → Prop} {Q : Exit → Act → World → Prop} {E : Prop} (W : World) (hcond : cond = true) (s x : Operand) (t : TypeId)
    (ho : o.op = .call { callee := .builtin .append, args := #[s, x], argTypes := #[t, t] })
    (base : Nat) (e : TypeId) (i : TypeInfo) (z : Value) (size bytes : Nat) (ht : P.underlying t = some (.slice e)) (hi : P.info? e = some i) (hz : i.zero = some z)
    (hsize : i.size = size) (hby : i.bytes = bytes) (hzs : z.cells.size = size) (hsz : 0 < size)
    (v : Value) (n : Nat) (xs : List Value) (hs : a.eval s = v) (hown : W.ownsRow base e size v n xs)
    (g2 o2 m c : Nat) (f : Nat → Value) (hx : a.eval x = .slice (some ⟨g2, o2, none⟩) m c) (hrd : RowR W g2 o2 (m * size) f) (h1 : ∀ j, (f j).oneCell' = true)
    (h63 : n + m ≤ maxLen) (hbytes : (n + m) * bytes ≤ 140737488355328) (hbase : base ≤ W.heap.size)
    (h : ∀ v' w', w'.ownsRow base e size v' (n + m) (xs ++ (List.range (m * size)).map f) → Fr W w' (fun b => v.ownBlock = some b) → (v'.ownBlock = v.ownBlock ∨ v'.ownBlock = some W.heap.size) → K (a.put o.dst v') w') :
    if cond = true then Oper.wp P o a W K Q else E := by
  rw [if_pos hcond]
  obtain ⟨v', w', hr, h2, h3, _, h5⟩ := run_append_own_at (P := P) W base t o.type e i z size bytes ht hi hz hsize hby hzs hsz v n xs hown ⟨g2, o2, none⟩ m c ((List.range (m * size)).map f) (by simp) (by
    intro j u hu
    obtain ⟨hj, rfl⟩ : j < m * size ∧ f j = u := by
      by_cases hj : j < m * size
      · simp [hj] at hu; exact ⟨hj, hu⟩
      · rw [List.getElem?_eq_none (by simpa using hj)] at hu; cases hu
    rw [Addr.add_lit]
    exact hrd j hj) (fun u hu => by obtain ⟨j, _, rfl⟩ := List.mem_map.1 hu; exact h1 j) h63 hbytes hbase
  unfold Oper.wp execOp
  simp only [ho, resolve, invoke, builtin, Sem.run_bind, Sem.run_pure, Result.andThen_ok, List.map_toArray, List.map_cons, List.map_nil, hs, hx, hr]
  exact h v' w' h2 ⟨h3.os, h3.tape, h3.output, h3.size, fun b hb hne => h3.block b hb (fun e => hne e.symm)⟩ h5
end Go.Proofs.Ytacppheedleamaa

set_option linter.unusedVariables false
set_option linter.unusedSimpArgs false
namespace Go.Proofs.Ytacppheedleamaa
open Go.RowKit
set_option maxRecDepth 20000

section
variable [Inhabited HKeepT] {B g q : Nat} {E : List Int} {C : Nat → List Int} {w : World}
end
end Go.Proofs.Ytacppheedleamaa

set_option linter.unusedVariables false
set_option linter.unusedSimpArgs false
namespace Go.Proofs.Ytacppheedleamaa
open Go.RowKit
set_option maxRecDepth 20000

section
variable [Inhabited HKeepT] {B g q : Nat} {E : List Int} {C : Nat → List Int} {w : World}
end
end Go.Proofs.Ytacppheedleamaa

set_option linter.unusedVariables false
set_option linter.unusedSimpArgs false
namespace Go.Proofs.Ytacppheedleamaa
open Go.RowKit

theorem HkM.congr [Inhabited HKeepT] {T : TypeId} {mk : Value → Value → Array Value} {B g q : Nat} {E : List Int} {C D : Nat → List Int} {w : World} (h : HkM T mk B g q E C w) (hc : ∀ i, i < q → C i = D i) : HkM T mk B g q E D w := by
  obtain ⟨tg, ev, cl, n, U, H⟩ := h
  exact ⟨tg, ev, cl, n, U, ⟨H.b, H.e, H.c, fun i hi => by rw [← hc i hi]; exact H.u i hi, H.tb, H.te, H.tc, H.lt, H.lo, H.k, H.kf⟩⟩
/-- What is known of a row that fits: m stitches on n columns. -/
structure RowFit (s z : Nat → Int) (n m : Nat) : Prop where
  hz : ∀ j, j < m → 1 ≤ z j ∧ z j ≤ 11
  hs : ∀ j, j < n → 1 ≤ s j ∧ s j ≤ 4
  m8 : m ≤ 8
  n8 : n ≤ 8
  t : segT z m = n
theorem RowFit.of {s z : Nat → Int} {n m : Nat} (h : saC s n z m = 0) : RowFit s z n m := by
  obtain ⟨h1, h2, h3, h4, _⟩ := saC_zero h
  have hz := (stitchesB_of h2).2
  refine ⟨hz, (stacksB_of h1).2, ?_, (stacksB_of h1).1, h3⟩
  have : ∀ i, i ≤ m → i ≤ segM z i := by
    intro i hi
    induction i with
    | zero => omega
    | succ i ih =>
      have h1 := ih (by omega)
      have h0 := hz i (by omega)
      have h2 : 1 ≤ mkN (z i) := by
        unfold mkN
        repeat' split
        all_goals omega
      simp only [segM]
      omega
  have := this m (Nat.le_refl _)
  omega
section
variable {s z : Nat → Int} {n m : Nat}
theorem RowFit.seg (h : RowFit s z n m) {i : Nat} (hi : i < m) : (∀ x ∈ seg s z i, 1 ≤ x ∧ x ≤ 4) ∧ (seg s z i).length ≤ 4 := by
  refine ⟨fun x hx => ?_, by rw [seg_length]; exact tkN_le _⟩
  unfold Go.Proofs.Ytacppheedleamaa.seg at hx
  obtain ⟨t, ht, rfl⟩ := List.mem_map.1 hx
  have h1 := List.mem_range.1 ht
  have h2 := segT_mono z (show i + 1 ≤ m by omega)
  have h3 := h.t
  simp only [segT] at h2
  exact h.hs _ (by omega)
theorem RowFit.cel0 (h : RowFit s z n m) {i : Nat} (hi : i < m) : (∀ x ∈ cel0 s z i, 1 ≤ x ∧ x ≤ 4) ∧ (cel0 s z i).length ≤ 4 := ⟨fun x hx => (h.seg hi).1 x (crs_mem hx), by rw [cel0_length]; exact tkN_le _⟩
theorem finL_small {k : Int} {L : List Int} (h : (∀ x ∈ L, 1 ≤ x ∧ x ≤ 4) ∧ L.length ≤ 4) : (∀ x ∈ finL k L, 1 ≤ x ∧ x ≤ 5) ∧ (finL k L).length ≤ 4 := by
  have h0 : ∀ x ∈ L, 1 ≤ x ∧ x ≤ 5 := fun x hx => by have := h.1 x hx; omega
  have h1 : 1 ≤ L.getD 0 0 + 1 ∧ L.getD 0 0 + 1 ≤ 5 := by
    cases L with
    | nil => simp
    | cons x L => have := h.1 x List.mem_cons_self; simp; omega
  have h2 := h.2
  unfold finL
  repeat' split
  · exact ⟨fun x hx => by have := List.mem_singleton.1 hx; omega, by simp⟩
  · refine ⟨fun x hx => ?_, by simpa using h2⟩
    rcases List.mem_or_eq_of_mem_set hx with hx | rfl
    · exact h0 x hx
    · exact h1
  · exact ⟨h0, h2⟩
  · exact ⟨fun x hx => by have := (List.mem_replicate.1 hx).2; omega, by simpa using h2⟩
theorem RowFit.celT (h : RowFit s z n m) {d : Int} {t i : Nat} (hi : i < m) : (∀ x ∈ celT s z d m t i, 1 ≤ x ∧ x ≤ 5) ∧ (celT s z d m t i).length ≤ 4 := by
  unfold Go.Proofs.Ytacppheedleamaa.celT
  split
  · exact finL_small (h.cel0 hi)
  · exact ⟨fun x hx => by have := (h.cel0 hi).1 x hx; omega, (h.cel0 hi).2⟩
theorem small_sml {L : List Int} (h : (∀ x ∈ L, 1 ≤ x ∧ x ≤ 5) ∧ L.length ≤ 4) : Sml L ∧ 0 ≤ sumI L ∧ sumI L ≤ 20 := by
  have h1 := sumI_bounds (l := L) (b := 5) fun x hx => by have := h.1 x hx; omega
  have h2 := h.2
  exact ⟨⟨by omega, fun x hx => by have := h.1 x hx; omega⟩, by omega, by omega⟩
theorem up5 {L : List Int} (h : (∀ x ∈ L, 1 ≤ x ∧ x ≤ 4) ∧ L.length ≤ 4) : (∀ x ∈ L, 1 ≤ x ∧ x ≤ 5) ∧ L.length ≤ 4 := ⟨fun x hx => by have := h.1 x hx; omega, h.2⟩
theorem crsE_length {p k : Int} {L : List Int} (h : (∀ x ∈ L, 1 ≤ x ∧ x ≤ 4) ∧ L.length ≤ 4) : (crsE p k L).length ≤ 2400 := by
  unfold crsE
  split
  · simp
  · rw [crossL_length, plE_length]
    have h1 := (small_sml (L := L.take (L.length / 2)) ⟨fun x hx => by have := h.1 x (List.mem_of_mem_take hx); omega, by have := h.2; simp; omega⟩).2
    have h2 := (small_sml (L := L.drop (L.length / 2)) ⟨fun x hx => by have := h.1 x (List.mem_of_mem_drop hx); omega, by have := h.2; simp; omega⟩).2
    have h3 : (sumI (L.drop (L.length / 2))).toNat * (sumI (L.take (L.length / 2))).toNat ≤ 20 * 20 := Nat.mul_le_mul (by omega) (by omega)
    omega
theorem RowFit.bgE (h : RowFit s z n m) {i : Nat} (hi : i ≤ m) : (bgE s z i).length ≤ 2400 * i := by
  induction i with
  | zero => simp [Go.Proofs.Ytacppheedleamaa.bgE]
  | succ i ih =>
    have h1 := ih (by omega)
    have h2 := crsE_length (p := befI (Go.Proofs.Ytacppheedleamaa.seg s z) i) (k := z i) (h.seg (show i < m by omega))
    simp only [Go.Proofs.Ytacppheedleamaa.bgE, List.length_append]
    omega
theorem RowFit.rowE (h : RowFit s z n m) {c d : Int} {t : Nat} (ht : t ≤ m) : (rowE s z c d m t).length ≤ 2400 * m + 30 * t := by
  induction t with
  | zero => exact h.bgE (Nat.le_refl _)
  | succ t ih =>
    have h1 := ih (by omega)
    have h2 := (stE_length (p := befI (Go.Proofs.Ytacppheedleamaa.celT s z d m t) (ordN d m t)) (c := c) (d := d) (k := z (ordN d m t)) (L := Go.Proofs.Ytacppheedleamaa.cel0 s z (ordN d m t))).1
    have h3 := (h.cel0 (ordN_lt (d := d) (show t < m by omega))).2
    simp only [Go.Proofs.Ytacppheedleamaa.rowE, List.length_append]
    omega
/-- The columns when the first i crossings are made. -/
def celB (s z : Nat → Int) (i j : Nat) : List Int := if j < i then cel0 s z j else seg s z j
theorem celB_zero (s z : Nat → Int) : celB s z 0 = seg s z := funext fun j => if_neg (Nat.not_lt_zero j)
theorem celB_at (s z : Nat → Int) (i : Nat) : celB s z i i = seg s z i := if_neg (Nat.lt_irrefl i)
theorem celB_bef (s z : Nat → Int) {i q : Nat} : befI (celB s z i) q = befI (seg s z) q := by
  induction q with
  | zero => rfl
  | succ q ih =>
    simp only [befI, ih]
    congr 1
    unfold celB
    split
    · exact cel0_sum q
    · rfl
theorem celB_next (s z : Nat → Int) (i : Nat) : hupd (celB s z i) i (crs (z i) (seg s z i)) = celB s z (i + 1) := by
  funext j
  unfold hupd celB
  by_cases h : j = i
  · subst h
    rw [if_pos rfl, if_pos (by omega)]
    rfl
  · rw [if_neg h]
    by_cases h2 : j < i
    · rw [if_pos h2, if_pos (by omega)]
    · rw [if_neg h2, if_neg (by omega)]
theorem RowFit.celB (h : RowFit s z n m) {i j : Nat} (hj : j < m) : (∀ x ∈ celB s z i j, 1 ≤ x ∧ x ≤ 4) ∧ (celB s z i j).length ≤ 4 := by
  unfold Go.Proofs.Ytacppheedleamaa.celB
  split
  · exact h.cel0 hj
  · exact h.seg hj
end
section
variable [Inhabited HKeepT] {B g q : Nat} {E : List Int} {C : Nat → List Int} {w : World}
end
end Go.Proofs.Ytacppheedleamaa

set_option linter.unusedVariables false
set_option linter.unusedSimpArgs false
namespace Go.Proofs.Ytacppheedleamaa
open Go.RowKit
set_option maxRecDepth 20000

/-- A row's events and the sizes behind it, new. -/
def RowP (E L : List Int) (w : World) (e : Ending) (w' : World) : Prop := ∃ ev af n, e = .returned (.tuple #[ev, af, .bool true]) ∧ w'.ownsRow w.heap.size 77 6 ev n (ints E) ∧ w'.ownsRow w.heap.size 2 1 af L.length (ints L) ∧ Below w.heap.size w w'
/-- The hand at its start. -/
theorem hand_new (w : World) (B : Nat) (hB : B ≤ w.heap.size) (T : TypeId) : @HkS noKeep T mkS B (w.heap.size + 1) (fun b => if b = w.heap.size + 1 then 1 else if b = w.heap.size then 2 else 0) (.slice (some ⟨w.heap.size, 0, none⟩) 0 0) (.slice none 0 0) 0 0 [] (fun _ => undef) (fun _ => []) ((w.alloc (.cells #[] 77)).alloc (.cells #[.slice (some ⟨w.heap.size, 0, none⟩) 0 0, .slice none 0 0] T)) where
  b := Blk.at_ _ _ _ (by simp)
  e := own_below (World.ownsRow_made w #[] 0 hB (by unfold maxLen; omega) rfl) ((Below.refl _ _).alloc (Nat.le_refl _) _)
  c := World.ownsRow_nil _ _ _ _
  u := fun i hi => by omega
  tb := if_pos rfl
  te := fun b hb => by injection hb with hb; subst hb; show (if w.heap.size = w.heap.size + 1 then 1 else if w.heap.size = w.heap.size then 2 else 0) = 2; rw [if_neg (by omega), if_pos rfl]
  tc := fun b hb => by cases hb
  lt := fun b hb => by
    simp only [World.size_alloc]
    by_cases h1 : b = w.heap.size + 1
    · omega
    · by_cases h2 : b = w.heap.size
      · omega
      · rw [if_neg h1, if_neg h2] at hb
        exact absurd rfl hb
  lo := by omega
  k := trivial
  kf := fun b hb => hb.elim

theorem SrcS.keep {B : Nat} {z : Nat → Int} {v : Value} {t : Nat} {As : Nat → Option Addr} {cs : Nat → Nat} {w w' : World} (h : SrcS B z v t As cs w) (hz : w.heap.size ≤ w'.heap.size) (hk : ∀ b, (v.ownBlock = some b ∨ ∃ j, j < t ∧ Fb (As j) (tkN (z j)) b) → w'.heap[b]? = w.heap[b]?) : SrcS B z v t As cs w' :=
  ⟨hown_blk h.own fun b hb => hk b (.inl hb), fun j hj => (rd_obj _ _ _).1 _ _ (h.rd j hj) fun b hb => hk b (.inr ⟨j, hj, hb⟩), fun j hj b hF => ⟨(h.far j hj b hF).1, Nat.lt_of_lt_of_le (h.far j hj b hF).2.1 hz, (h.far j hj b hF).2.2⟩⟩
end Go.Proofs.Ytacppheedleamaa
