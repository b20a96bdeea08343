/- Plain lemmas: the states of a machine along a program, by what is known of them. -/
import Derived.Test.YtpmfkpehmckgmaaMachG
import Derived.Test.YtpmfkpehmckgmaaOpsList
namespace Go.Proofs.Ytpmfkpehmckgmaa
open Go.RowKit

theorem opOk_B {W : Nat} {k d fb fa tb ta c r : Int} (_hW : 1 ≤ W) (h : (opB k d fb fa tb ta c r && (decide (fa < (W : Int)) && decide (ta < (W : Int)))) = true) : OpOk W k d fb fa tb ta c r (c - 1).toNat := by
  unfold opB dirB ndB inB at h
  split at h
  · simp only [Bool.and_eq_true, decide_eq_true_eq, beq_iff_eq] at h
    refine ⟨?_, ?_, ?_, ?_, ?_, ?_, ?_, ?_, ?_, ?_⟩ <;> omega
  split at h
  · simp only [Bool.and_eq_true, decide_eq_true_eq, beq_iff_eq] at h
    refine ⟨?_, ?_, ?_, ?_, ?_, ?_, ?_, ?_, ?_, ?_⟩ <;> omega
  split at h
  · simp only [Bool.and_eq_true, decide_eq_true_eq, beq_iff_eq] at h
    refine ⟨?_, ?_, ?_, ?_, ?_, ?_, ?_, ?_, ?_, ?_⟩ <;> omega
  split at h
  · simp only [Bool.and_eq_true, decide_eq_true_eq, beq_iff_eq] at h
    refine ⟨?_, ?_, ?_, ?_, ?_, ?_, ?_, ?_, ?_, ?_⟩ <;> omega
  split at h
  · simp only [Bool.and_eq_true, decide_eq_true_eq, beq_iff_eq] at h
    refine ⟨?_, ?_, ?_, ?_, ?_, ?_, ?_, ?_, ?_, ?_⟩ <;> omega
  split at h
  · simp only [Bool.and_eq_true, decide_eq_true_eq, beq_iff_eq] at h
    refine ⟨?_, ?_, ?_, ?_, ?_, ?_, ?_, ?_, ?_, ?_⟩ <;> omega
  split at h
  · simp only [Bool.and_eq_true, decide_eq_true_eq, beq_iff_eq] at h
    refine ⟨?_, ?_, ?_, ?_, ?_, ?_, ?_, ?_, ?_, ?_⟩ <;> omega
  · simp at h
def kC (s : Mst) (z : Nat → Int) (i : Nat) : Int := doCode s (z (i * 8)) (z (i * 8 + 1)) (z (i * 8 + 2)) (z (i * 8 + 3)) (z (i * 8 + 4)) (z (i * 8 + 5)) (z (i * 8 + 6) - 1).toNat
def kS (s : Mst) (z : Nat → Int) (i : Nat) : Mst := doSt s (z (i * 8)) (z (i * 8 + 1)) (z (i * 8 + 2)) (z (i * 8 + 3)) (z (i * 8 + 4)) (z (i * 8 + 5)) (z (i * 8 + 7)) (z (i * 8 + 6) - 1).toNat
def newM (W : Nat) : Mst := ⟨W, 0, fun _ => 0, fun _ => 0, fun _ => false, fun _ => 0, 0, 0⟩
def mSt (W : Nat) (z : Nat → Int) : Nat → Mst
  | 0 => newM W
  | i + 1 => kS (mSt W z i) z i
theorem newM_ok {W : Nat} (h1 : 1 ≤ W) (h2 : W ≤ 24) : MOk (newM W) 0 :=
  ⟨h1, h2, by show (-3 : Int) ≤ 0; omega, by show (0 : Int) ≤ 3; omega, fun _ _ => Nat.zero_le _, fun _ _ => Nat.zero_le _, fun _ _ => by show (-3 : Int) ≤ 0 ∧ (0 : Int) ≤ 30; omega, Nat.zero_le _, Nat.le_refl _⟩
theorem setN_ok {s : Mst} {D : Nat} (hs : MOk s D) (b x : Int) {m : Nat} (hm : m ≤ 4) : MOk (setN s b x m) D := by
  unfold setN
  split
  · exact ⟨hs.w1, hs.w2, hs.r1, hs.r2, fun i hi => by show (if i = x.toNat then m else s.f i) ≤ 4; split; exact hm; exact hs.fb i hi, hs.kb, hs.ca, hs.nb, hs.db⟩
  · exact ⟨hs.w1, hs.w2, hs.r1, hs.r2, hs.fb, fun i hi => by show (if i = x.toNat then m else s.k i) ≤ 4; split; exact hm; exact hs.kb i hi, hs.ca, hs.nb, hs.db⟩
theorem more_ok {s : Mst} {D : Nat} (hs : MOk s D) (hn : s.n < 300) : MOk (more s) D := ⟨hs.w1, hs.w2, hs.r1, hs.r2, hs.fb, hs.kb, hs.ca, hn, hs.db⟩
theorem MOk.le {s : Mst} {D D' : Nat} (hs : MOk s D) (h : D ≤ D') : MOk s D' := ⟨hs.w1, hs.w2, hs.r1, hs.r2, hs.fb, hs.kb, hs.ca, hs.nb, Nat.le_trans hs.db h⟩
theorem lstN_car (s : Mst) (d x : Int) (j : Nat) (b y : Int) : lstN (carrySt s d x j) b y = lstN s b y := rfl
theorem doSt_W (s : Mst) (k d fb fa tb ta r : Int) (j : Nat) : (doSt s k d fb fa tb ta r j).W = s.W := by
  unfold doSt formSt
  split
  · split
    · rw [setN_W]; rfl
    · split
      · rw [setN_W]; rfl
      · rw [setN_W]; exact moveSt_W _ _ _ _ _
  split
  · rfl
  split
  · exact moveSt_W _ _ _ _ _
  split
  · rw [setN_W]
  split <;> rfl
theorem doSt_ok {s : Mst} {D : Nat} (hs : MOk s D) {k d fb fa tb ta c r : Int} {j : Nat} (hp : OpOk s.W k d fb fa tb ta c r j) (h : doCode s k d fb fa tb ta j = 0) : MOk (doSt s k d fb fa tb ta r j) (D + 4) := by
  have hw2 := hs.w2
  have hf1 := hp.f1
  have hxb := placeI_bd (b := fb) hp.f0 (show fa ≤ 23 by omega) hs.r1 hs.r2
  have hcs := carrySt_ok (d := d) (j := j) hs hxb.1 hxb.2
  have h4f := lstN_le (b := fb) hs hp.f0 hp.f1
  have h4t := lstN_le (b := tb) hs hp.t0 hp.t1
  have hmove : ∀ {s' : Mst}, MOk s' D → moveCode s' fb fa tb ta = 0 → MOk (moveSt s' fb fa tb ta) D := fun {s'} hs' hm => by
    unfold moveCode at hm
    unfold moveSt
    refine setN_ok (setN_ok hs' _ _ ?_) _ _ (Nat.zero_le _)
    split at hm
    · split at hm
      · omega
      · split at hm <;> omega
    · omega
  unfold doCode at h
  unfold doSt
  by_cases hk : k = 1 ∨ k = 2 ∨ k = 5
  · rw [if_pos hk] at h ⊢
    unfold formCode at h
    unfold formSt
    have hcb : carryB s d (placeI fb fa s.rk) j = true := Decidable.byContradiction fun hc => by
      rw [if_neg hc] at h
      omega
    rw [if_pos hcb] at h
    have hn : s.n < 300 := by
      rcases Nat.lt_or_ge s.n 300 with h' | h'
      · exact h'
      · rw [if_pos h'] at h
        omega
    rw [if_neg (by omega)] at h
    by_cases h1 : k = 1
    · rw [if_pos h1]
      exact (setN_ok (more_ok hcs hn) _ _ (by omega)).le (by omega)
    · rw [if_neg h1] at h ⊢
      by_cases h2 : k = 2
      · rw [if_pos h2] at h ⊢
        refine (setN_ok (more_ok hcs hn) _ _ ?_).le (by omega)
        split at h <;> omega
      · rw [if_neg h2] at h ⊢
        have hm := hmove hcs h
        refine (setN_ok (more_ok hm ?_) _ _ (by omega)).le (by omega)
        rw [moveSt_n]
        exact hn
  · rw [if_neg hk] at h ⊢
    split
    · exact hcs.le (by omega)
    split
    · rename_i h3 h4
      rw [if_neg h3, if_pos h4] at h
      exact (hmove hs h).le (by omega)
    split
    · exact setN_ok (s := { s with d := s.d + lstN s fb fa }) (D := D + 4) ⟨hs.w1, hs.w2, hs.r1, hs.r2, hs.fb, hs.kb, hs.ca, hs.nb, by show s.d + lstN s fb fa ≤ D + 4; have := hs.db; omega⟩ _ _ (Nat.zero_le _)
    split
    · exact ⟨hs.w1, hs.w2, hp.r0, hp.r1, hs.fb, hs.kb, hs.ca, hs.nb, by show s.d ≤ D + 4; have := hs.db; omega⟩
    · refine ⟨hs.w1, hs.w2, hs.r1, hs.r2, hs.fb, hs.kb, fun q hq => ?_, hs.nb, by show s.d ≤ D + 4; have := hs.db; omega⟩
      show -3 ≤ (if q = j then (if k = 8 then (if d = -1 then (s.W : Int) + 3 else -3) else 0) else s.cat q) ∧ (if q = j then (if k = 8 then (if d = -1 then (s.W : Int) + 3 else -3) else 0) else s.cat q) ≤ 30
      have := hs.ca q hq
      split
      · split
        · split <;> omega
        · omega
      · exact this
theorem mSt_W (W : Nat) (z : Nat → Int) (i : Nat) : (mSt W z i).W = W := by
  induction i with
  | zero => rfl
  | succ i ih => exact (doSt_W _ _ _ _ _ _ _ _ _).trans ih
theorem opOk_at {W : Nat} {z : Nat → Int} {i : Nat} (hW : 1 ≤ W) (h : opW W z i = true) : OpOk W (z (i * 8)) (z (i * 8 + 1)) (z (i * 8 + 2)) (z (i * 8 + 3)) (z (i * 8 + 4)) (z (i * 8 + 5)) (z (i * 8 + 6)) (z (i * 8 + 7)) (z (i * 8 + 6) - 1).toNat := opOk_B hW h
/-- The state after the first operations, if they all went well. -/
theorem mSt_ok {W : Nat} {z : Nat → Int} (h1 : 1 ≤ W) (h2 : W ≤ 24) (n : Nat) (hp : ∀ i, i < n → opW W z i = true) (hc : ∀ i, i < n → kC (mSt W z i) z i = 0) : MOk (mSt W z n) (4 * n) := by
  induction n with
  | zero => exact newM_ok h1 h2
  | succ n ih =>
    have h := ih (fun i hi => hp i (by omega)) (fun i hi => hc i (by omega))
    have ho := opOk_at h1 (hp n (by omega))
    rw [show 4 * (n + 1) = 4 * n + 4 by omega]
    exact doSt_ok h (by rw [mSt_W]; exact ho) (hc n (by omega))
/-- All operations before k go well. -/
def okTo (W : Nat) (z : Nat → Int) (k : Nat) : Prop := ∀ i, i < k → kC (mSt W z i) z i = 0
/-- Where a program stops: the first operation that fails, and its code. -/
def stopAt (W : Nat) (z : Nat → Int) : Nat → Nat → Option (Nat × Int)
  | _, 0 => none
  | i, m + 1 => if kC (mSt W z i) z i = 0 then stopAt W z (i + 1) m else some (i, kC (mSt W z i) z i)
/-- The code of a program of n operations. -/
def runC (W : Nat) (z : Nat → Int) (n : Nat) : Int := ((stopAt W z 0 n).map (·.2)).getD 0
theorem stop_pass {W : Nat} {z : Nat → Int} (i m : Nat) (h : okTo W z i) (him : i ≤ m) : stopAt W z 0 m = stopAt W z i (m - i) := by
  induction i with
  | zero => rfl
  | succ i ih =>
    rw [ih (fun q hq => h q (by omega)) (by omega), show m - i = (m - (i + 1)) + 1 by omega]
    show (if kC (mSt W z i) z i = 0 then _ else _) = _
    rw [if_pos (h i (by omega))]
theorem runC_ok {W : Nat} {z : Nat → Int} {n : Nat} (h : okTo W z n) : runC W z n = 0 := by
  unfold runC
  rw [stop_pass n n h (Nat.le_refl _), Nat.sub_self]
  rfl
theorem runC_stop {W : Nat} {z : Nat → Int} {i n : Nat} (h : okTo W z i) (hi : i < n) (hc : kC (mSt W z i) z i ≠ 0) : runC W z n = kC (mSt W z i) z i := by
  unfold runC
  rw [stop_pass i n h (by omega), show n - i = (n - (i + 1)) + 1 by omega]
  show ((if kC (mSt W z i) z i = 0 then _ else some (i, kC (mSt W z i) z i)).map (·.2)).getD 0 = _
  rw [if_neg hc]
  rfl
theorem okTo_succ {W : Nat} {z : Nat → Int} {i : Nat} (h : okTo W z i) (hc : kC (mSt W z i) z i = 0) : okTo W z (i + 1) := fun q hq => by
  by_cases hqi : q = i
  · subst hqi; exact hc
  · exact h q (by omega)
end Go.Proofs.Ytpmfkpehmckgmaa
