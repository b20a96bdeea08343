/- Plain lemmas: the operations that are executed with a fault. -/
import Derived.Test.YtpmfkpehmckgmaaMachFo
namespace Go.Proofs.Ytpmfkpehmckgmaa
open Go.RowKit
set_option maxRecDepth 20000

/-- The cells of an operation; of the first operations. -/
def opL (y : Nat → Int) (j : Nat) : List Int := [y (j * 8), y (j * 8 + 1), y (j * 8 + 2), y (j * 8 + 3), y (j * 8 + 4), y (j * 8 + 5), y (j * 8 + 6), y (j * 8 + 7)]
def opsL (y : Nat → Int) : Nat → List Int
  | 0 => []
  | j + 1 => opsL y j ++ opL y j
/-- An operation is executed if it can be. -/
def yStep (p : Mst × List Int) (y : Nat → Int) (j : Nat) : Mst × List Int := if kC p.1 y j = 0 then (kS p.1 y j, p.2 ++ opL y j) else p
def ySeq (y : Nat → Int) (p : Mst × List Int) : Nat → Mst × List Int
  | 0 => p
  | j + 1 => yStep (ySeq y p j) y j
def dropL (fb fa : Int) : List Int := [6, 0, fb, fa, 0, 0, 0, 0]
def missL (d fb fa c : Int) : List Int := [3, d, fb, fa, 0, 0, c, 0]
def newR (r : Int) : Int := if r < 3 then r + 1 else r - 1
def rackL (r : Int) : List Int := [7, 0, 0, 0, 0, 0, 0, newR r]
/-- What is executed instead of an operation with a fault; how many operations these are. -/
def insL (s : Mst) (z : Nat → Int) (i : Nat) (f : Int) : List Int :=
  if f = 2 then opL z i ++ dropL (z (i * 8 + 2)) (z (i * 8 + 3))
  else if f = 3 then (if lstN s (z (i * 8 + 2)) (z (i * 8 + 3)) = 0 then missL (z (i * 8 + 1)) (z (i * 8 + 2)) (z (i * 8 + 3)) (z (i * 8 + 6)) else dropL (z (i * 8 + 2)) (z (i * 8 + 3)) ++ missL (z (i * 8 + 1)) (z (i * 8 + 2)) (z (i * 8 + 3)) (z (i * 8 + 6)))
  else if f = 4 then rackL (z (i * 8 + 7)) else []
def insN (s : Mst) (z : Nat → Int) (i : Nat) (f : Int) : Nat :=
  if f = 2 then 2 else if f = 3 then (if lstN s (z (i * 8 + 2)) (z (i * 8 + 3)) = 0 then 1 else 2) else if f = 4 then 1 else 0
def insF (s : Mst) (z : Nat → Int) (i : Nat) (f : Int) (t : Nat) : Int := (insL s z i f).getD t 0
theorem insL_len (s : Mst) (z : Nat → Int) (i : Nat) (f : Int) : (insL s z i f).length = 8 * insN s z i f := by
  unfold insL insN
  by_cases h2 : f = 2
  · rw [if_pos h2, if_pos h2]; rfl
  · rw [if_neg h2, if_neg h2]
    by_cases h3 : f = 3
    · rw [if_pos h3, if_pos h3]
      by_cases h : lstN s (z (i * 8 + 2)) (z (i * 8 + 3)) = 0
      · rw [if_pos h, if_pos h]; rfl
      · rw [if_neg h, if_neg h]; rfl
    · rw [if_neg h3, if_neg h3]
      by_cases h4 : f = 4
      · rw [if_pos h4, if_pos h4]; rfl
      · rw [if_neg h4, if_neg h4]; rfl
theorem insN_le (s : Mst) (z : Nat → Int) (i : Nat) (f : Int) : insN s z i f ≤ 2 := by
  unfold insN
  split
  · omega
  · split
    · split <;> omega
    · split <;> omega
theorem opW_drop {W : Nat} {z y : Nat → Int} {i j : Nat} (h : opW W z i = true) (hk : z (i * 8) = 1 ∨ z (i * 8) = 2 ∨ z (i * 8) = 5) (h0 : y (j * 8) = 6) (h1 : y (j * 8 + 1) = 0) (h2 : y (j * 8 + 2) = z (i * 8 + 2)) (h3 : y (j * 8 + 3) = z (i * 8 + 3)) (h4 : y (j * 8 + 4) = 0) (h5 : y (j * 8 + 5) = 0) (h6 : y (j * 8 + 6) = 0) (h7 : y (j * 8 + 7) = 0) : opW W y j = true := by
  unfold opW at h ⊢
  rw [h0, h1, h2, h3, h4, h5, h6, h7]
  generalize z (i * 8 + 2) = fb at *
  generalize z (i * 8 + 3) = fa at *
  generalize z (i * 8 + 1) = d at *
  generalize z (i * 8 + 4) = tb at *
  generalize z (i * 8 + 5) = ta at *
  generalize z (i * 8 + 6) = c at *
  generalize z (i * 8 + 7) = r at *
  generalize z (i * 8) = k at *
  rcases hk with rfl | rfl | rfl
  all_goals
    simp [opB, ndB, inB, dirB] at h ⊢
    omega
theorem opW_miss {W : Nat} {z y : Nat → Int} {i j : Nat} (h : opW W z i = true) (hk : z (i * 8) = 1) (h0 : y (j * 8) = 3) (h1 : y (j * 8 + 1) = z (i * 8 + 1)) (h2 : y (j * 8 + 2) = z (i * 8 + 2)) (h3 : y (j * 8 + 3) = z (i * 8 + 3)) (h4 : y (j * 8 + 4) = 0) (h5 : y (j * 8 + 5) = 0) (h6 : y (j * 8 + 6) = z (i * 8 + 6)) (h7 : y (j * 8 + 7) = 0) : opW W y j = true := by
  unfold opW at h ⊢
  rw [h0, h1, h2, h3, h4, h5, h6, h7]
  rw [hk] at h
  generalize z (i * 8 + 2) = fb at *
  generalize z (i * 8 + 3) = fa at *
  generalize z (i * 8 + 1) = d at *
  generalize z (i * 8 + 4) = tb at *
  generalize z (i * 8 + 5) = ta at *
  generalize z (i * 8 + 6) = c at *
  generalize z (i * 8 + 7) = r at *
  simp [opB, ndB, inB, dirB] at h ⊢
  omega
theorem opW_rack {W : Nat} {z y : Nat → Int} {i j : Nat} (hW : 1 ≤ W) (h : opW W z i = true) (hk : z (i * 8) = 7) (h0 : y (j * 8) = 7) (h1 : y (j * 8 + 1) = 0) (h2 : y (j * 8 + 2) = 0) (h3 : y (j * 8 + 3) = 0) (h4 : y (j * 8 + 4) = 0) (h5 : y (j * 8 + 5) = 0) (h6 : y (j * 8 + 6) = 0) (h7 : y (j * 8 + 7) = newR (z (i * 8 + 7))) : opW W y j = true := by
  unfold opW at h ⊢
  rw [h0, h1, h2, h3, h4, h5, h6, h7]
  rw [hk] at h
  unfold newR
  generalize z (i * 8 + 2) = fb at *
  generalize z (i * 8 + 3) = fa at *
  generalize z (i * 8 + 1) = d at *
  generalize z (i * 8 + 4) = tb at *
  generalize z (i * 8 + 5) = ta at *
  generalize z (i * 8 + 6) = c at *
  generalize z (i * 8 + 7) = r at *
  simp [opB, ndB, inB, dirB] at h ⊢
  by_cases hr : r < 3
  · rw [if_pos hr]; omega
  · rw [if_neg hr]; omega
theorem opW_same {W : Nat} {z y : Nat → Int} {i j : Nat} (h : opW W z i = true) (he : ∀ t, t < 8 → y (j * 8 + t) = z (i * 8 + t)) : opW W y j = true := by
  have h0 := he 0 (by omega)
  rw [Nat.add_zero, Nat.add_zero] at h0
  unfold opW at h ⊢
  rw [h0, he 1 (by omega), he 2 (by omega), he 3 (by omega), he 4 (by omega), he 5 (by omega), he 6 (by omega), he 7 (by omega)]
  exact h
theorem insF2 (s : Mst) (z : Nat → Int) (i : Nat) (t : Nat) : insF s z i 2 t = (opL z i ++ dropL (z (i * 8 + 2)) (z (i * 8 + 3))).getD t 0 := rfl
theorem ins_ok {W : Nat} {s : Mst} {z : Nat → Int} {i j : Nat} {f : Int} (hW : 1 ≤ W) (h : opW W z i = true) (hc : canB f (z (i * 8)) = true) (hj : j < insN s z i f) : opW W (insF s z i f) j = true := by
  by_cases h2 : f = 2
  · subst h2
    have hk : z (i * 8) = 1 ∨ z (i * 8) = 2 ∨ z (i * 8) = 5 := by
      rw [canB2] at hc
      simpa [or_assoc] using hc
    have hj' : j = 0 ∨ j = 1 := by have := insN_le s z i 2; omega
    rcases hj' with rfl | rfl
    · refine opW_same h fun t ht => ?_
      have h8 : t = 0 ∨ t = 1 ∨ t = 2 ∨ t = 3 ∨ t = 4 ∨ t = 5 ∨ t = 6 ∨ t = 7 := by omega
      rcases h8 with rfl | rfl | rfl | rfl | rfl | rfl | rfl | rfl <;> rfl
    · exact opW_drop h hk rfl rfl rfl rfl rfl rfl rfl rfl
  · by_cases h3 : f = 3
    · subst h3
      have hk : z (i * 8) = 1 := by rw [canB3] at hc; simpa using hc
      have hL : insL s z i 3 = (if lstN s (z (i * 8 + 2)) (z (i * 8 + 3)) = 0 then missL (z (i * 8 + 1)) (z (i * 8 + 2)) (z (i * 8 + 3)) (z (i * 8 + 6)) else dropL (z (i * 8 + 2)) (z (i * 8 + 3)) ++ missL (z (i * 8 + 1)) (z (i * 8 + 2)) (z (i * 8 + 3)) (z (i * 8 + 6))) := rfl
      have hN : insN s z i 3 = (if lstN s (z (i * 8 + 2)) (z (i * 8 + 3)) = 0 then 1 else 2) := rfl
      by_cases hl : lstN s (z (i * 8 + 2)) (z (i * 8 + 3)) = 0
      · rw [if_pos hl] at hL hN
        obtain rfl : j = 0 := by omega
        exact opW_miss h hk (by unfold insF; rw [hL]; rfl) (by unfold insF; rw [hL]; rfl) (by unfold insF; rw [hL]; rfl) (by unfold insF; rw [hL]; rfl) (by unfold insF; rw [hL]; rfl) (by unfold insF; rw [hL]; rfl) (by unfold insF; rw [hL]; rfl) (by unfold insF; rw [hL]; rfl)
      · rw [if_neg hl] at hL hN
        have hj' : j = 0 ∨ j = 1 := by omega
        rcases hj' with rfl | rfl
        · exact opW_drop h (.inl hk) (by unfold insF; rw [hL]; rfl) (by unfold insF; rw [hL]; rfl) (by unfold insF; rw [hL]; rfl) (by unfold insF; rw [hL]; rfl) (by unfold insF; rw [hL]; rfl) (by unfold insF; rw [hL]; rfl) (by unfold insF; rw [hL]; rfl) (by unfold insF; rw [hL]; rfl)
        · exact opW_miss h hk (by unfold insF; rw [hL]; rfl) (by unfold insF; rw [hL]; rfl) (by unfold insF; rw [hL]; rfl) (by unfold insF; rw [hL]; rfl) (by unfold insF; rw [hL]; rfl) (by unfold insF; rw [hL]; rfl) (by unfold insF; rw [hL]; rfl) (by unfold insF; rw [hL]; rfl)
    · by_cases h4 : f = 4
      · subst h4
        have hk : z (i * 8) = 7 := by rw [canB4] at hc; simpa using hc
        obtain rfl : j = 0 := by have : insN s z i 4 = 1 := rfl; omega
        exact opW_rack hW h hk rfl rfl rfl rfl rfl rfl rfl rfl
      · have : insN s z i f = 0 := by unfold insN; rw [if_neg h2, if_neg h3, if_neg h4]
        omega
/-- The state and the operations that were executed, after i operations, with the fault f at the operation At. -/
def gAt (W : Nat) (z : Nat → Int) (f : Int) (At : Nat) : Nat → Mst × List Int
  | 0 => (newM W, [])
  | i + 1 => if i = At then ySeq (insF (gAt W z f At i).1 z i f) (gAt W z f At i) (insN (gAt W z f At i).1 z i f) else yStep (gAt W z f At i) z i
/-- What holds of such a state. -/
structure YOk (W : Nat) (D m : Nat) (p : Mst × List Int) : Prop where
  w : p.1.W = W
  o : MOk p.1 D
  l : ∃ k, p.2.length = 8 * k ∧ k ≤ m
theorem yStep_ok {W D m : Nat} {p : Mst × List Int} {y : Nat → Int} {j : Nat} (hW : 1 ≤ W) (h : YOk W D m p) (hp : opW W y j = true) : YOk W (D + 4) (m + 1) (yStep p y j) := by
  obtain ⟨k, hk, hkm⟩ := h.l
  unfold yStep
  split
  · have hq := opOk_at hW hp
    rw [← h.w] at hq
    exact ⟨(doSt_W _ _ _ _ _ _ _ _ _).trans h.w, doSt_ok h.o hq ‹_›, k + 1, by simp [opL, hk]; omega, by omega⟩
  · exact ⟨h.w, { h.o with db := Nat.le_trans h.o.db (Nat.le_add_right _ _) }, k, hk, by omega⟩
theorem ySeq_ok {W D m : Nat} {p : Mst × List Int} {y : Nat → Int} (hW : 1 ≤ W) (h : YOk W D m p) : ∀ K, (∀ j, j < K → opW W y j = true) → YOk W (D + 4 * K) (m + K) (ySeq y p K)
  | 0, _ => h
  | K + 1, hp => by
    have h1 := yStep_ok (j := K) hW (ySeq_ok hW h K fun j hj => hp j (by omega)) (hp K (by omega))
    exact ⟨h1.w, { h1.o with db := Nat.le_trans h1.o.db (by omega) }, by obtain ⟨k, h2, h3⟩ := h1.l; exact ⟨k, h2, by omega⟩⟩
theorem YOk.more {W D m D' m' : Nat} {p : Mst × List Int} (h : YOk W D m p) (hD : D ≤ D') (hm : m ≤ m') : YOk W D' m' p :=
  ⟨h.w, { h.o with db := Nat.le_trans h.o.db hD }, by obtain ⟨k, h2, h3⟩ := h.l; exact ⟨k, h2, by omega⟩⟩
theorem gAt_ok {W : Nat} {z : Nat → Int} {f : Int} {At : Nat} (h1 : 1 ≤ W) (h2 : W ≤ 24) : ∀ i, (∀ j, j < i → opW W z j = true) → (At < i → canB f (z (At * 8)) = true) → YOk W (8 * i) (2 * i) (gAt W z f At i)
  | 0, _, _ => ⟨rfl, mSt_ok (z := z) h1 h2 0 (fun _ h => absurd h (Nat.not_lt_zero _)) fun _ h => absurd h (Nat.not_lt_zero _), 0, rfl, Nat.le_refl _⟩
  | i + 1, hp, hc => by
    have h := gAt_ok (f := f) (At := At) h1 h2 i (fun j hj => hp j (by omega)) fun hi => hc (by omega)
    unfold gAt
    by_cases hi : i = At
    · rw [if_pos hi]
      have hN := insN_le (gAt W z f At i).1 z i f
      exact (ySeq_ok h1 h _ fun j hj => ins_ok h1 (hp i (by omega)) (by rw [hi]; exact hc (by omega)) hj).more (by omega) (by omega)
    · rw [if_neg hi]
      exact (yStep_ok h1 h (hp i (by omega))).more (by omega) (by omega)
theorem gAt_before {W : Nat} {z : Nat → Int} {f : Int} {At : Nat} : ∀ i, i ≤ At → okTo W z i → gAt W z f At i = (mSt W z i, opsL z i)
  | 0, _, _ => rfl
  | i + 1, hi, hok => by
    have h := gAt_before (f := f) (At := At) i (by omega) fun j hj => hok j (by omega)
    unfold gAt
    rw [if_neg (by omega), h]
    unfold yStep
    rw [if_pos (hok i (by omega))]
    rfl
theorem opsL_len (y : Nat → Int) : ∀ j, (opsL y j).length = 8 * j
  | 0 => rfl
  | j + 1 => by
    have := opsL_len y j
    simp [opsL, opL, this]
    omega
end Go.Proofs.Ytpmfkpehmckgmaa
