/- Plain: the events of a chart that is knitted by hand are valid, and leave as many strands as its columns have. -/
import Derived.Test.YtacppheedleamaaHkY
import Derived.Test.YtacppheedleamaaEventsValid
set_option linter.unusedVariables false
set_option linter.unusedSectionVars false
set_option linter.unusedSimpArgs false
namespace Go.Proofs.Ytacppheedleamaa
open Go.RowKit

/-- Valid events, one after the other, that lead from n strands to m. -/
inductive EvS (n : Int) : List Int → Int → Prop
  | nil : EvS n [] n
  | snoc {m : Int} {L : List Int} (h : EvS n L m) (k p c b y d : Int) (hv : evV k p c b y d m = true) (ha : evAfter k c m ≤ 12) : EvS n (L ++ evL k p c b y d) (evAfter k c m)
theorem EvS.app {n m r : Int} {L L' : List Int} (h : EvS n L m) (h' : EvS m L' r) : EvS n (L ++ L') r := by
  induction h' with
  | nil => simpa using h
  | snoc h1 k p c b y d hv ha ih =>
    rw [← List.append_assoc]
    exact .snoc ih k p c b y d hv ha
theorem EvS.one {n : Int} (k p c b y d : Int) (hv : evV k p c b y d n = true) (ha : evAfter k c n ≤ 12) : EvS n (evL k p c b y d) (evAfter k c n) := by
  have h := EvS.snoc (EvS.nil (n := n)) k p c b y d hv ha
  simpa using h
theorem EvS.to {n m r : Int} {L : List Int} (h : EvS n L m) (e : m = r) : EvS n L r := e ▸ h
theorem EvS.cnt {L : List Int} {m : Int} (h : EvS 0 L m) : ∃ K, L.length = K * 6 ∧ ∀ z : Nat → Int, (∀ j, j < L.length → z j = L.getD j 0) → cnt z 0 K = some m := by
  induction h with
  | nil => exact ⟨0, rfl, fun z _ => rfl⟩
  | @snoc m L h k p c b y d hv ha ih =>
    obtain ⟨K, hK, hc⟩ := ih
    refine ⟨K + 1, by simp [evL, hK]; omega, fun z hz => ?_⟩
    have hl : (L ++ evL k p c b y d).length = K * 6 + 6 := by simp [evL, hK]
    have hc2 := hc z fun j hj => by
      rw [hz j (by omega), List.getD_eq_getElem?_getD, List.getElem?_append_left hj, ← List.getD_eq_getElem?_getD]
    have g : ∀ i, i < 6 → z (K * 6 + i) = (evL k p c b y d).getD i 0 := fun i hi => by
      rw [hz _ (by omega), List.getD_eq_getElem?_getD, List.getElem?_append_right (by omega), hK, Nat.add_sub_cancel_left, ← List.getD_eq_getElem?_getD]
    have g0 : z (K * 6) = k := g 0 (by omega)
    have g1 : z (K * 6 + 1) = p := g 1 (by omega)
    have g2 : z (K * 6 + 2) = c := g 2 (by omega)
    have g3 : z (K * 6 + 3) = b := g 3 (by omega)
    have g4 : z (K * 6 + 4) = y := g 4 (by omega)
    have g5 : z (K * 6 + 5) = d := g 5 (by omega)
    have h1 := cnt_step (k := K) hc2 (by rw [g0, g1, g2, g3, g4, g5]; exact hv) (by rw [g0, g2]; exact ha)
    rw [g0, g2] at h1
    exact h1

theorem castL_next (c : Int) (k : Nat) : castL c (k + 1) = castL c k ++ evL 2 k 0 1 c 1 := by
  unfold castL
  rw [show (k + 1) * 6 = k * 6 + 6 by omega]
  simp only [List.range_add, List.map_append, List.map_map]
  congr 1
  have h : ∀ i, (k * 6 + i) % 6 = i % 6 := fun i => by omega
  simp [List.range_succ, castZ, evL]
  omega
theorem yarnB_of {b y d : Int} (hb : b = 1 ∨ b = 2) (hy : 1 ≤ y ∧ y ≤ 4) (hd : d = 1 ∨ d = -1) : yarnB b y d = true := by
  simp only [yarnB, inB, dirB, Bool.and_eq_true, decide_eq_true_eq]
  omega
theorem ev2 {p c b y d n : Int} (hp : 0 ≤ p) (hc : 0 ≤ c ∧ c ≤ 4) (h : p ≤ n - c) (hy : yarnB b y d = true) : evV 2 p c b y d n = true := by
  unfold evV
  rw [if_neg (by omega), if_neg (by decide), if_pos rfl]
  simp only [inB, Bool.and_eq_true, decide_eq_true_eq, hy, and_true]
  omega
theorem ev3 {p b y d n : Int} (hp : 0 ≤ p) (h : p ≤ n) (hy : yarnB b y d = true) : evV 3 p 0 b y d n = true := by
  unfold evV
  rw [if_neg (by omega), if_neg (by decide), if_neg (by decide), if_pos rfl]
  simp [hy, hp, h]
theorem ev1 {p s n : Int} (hp : 0 ≤ p) (h : p + 2 ≤ n) (hs : s = 1 ∨ s = -1) : evV 1 p s 0 0 0 n = true := by
  unfold evV
  rw [if_neg (by omega), if_pos rfl]
  have h1 : plainB 0 0 0 = true := by decide
  simp only [Bool.and_eq_true, Bool.or_eq_true, decide_eq_true_eq, h1, and_true]
  omega
theorem cast_ev {c : Int} (hc : 1 ≤ c ∧ c ≤ 4) {k : Nat} (hk : k ≤ 8) : EvS 0 (castL c k) k := by
  induction k with
  | zero => exact .nil
  | succ k ih =>
    rw [castL_next]
    have h1 : evAfter 2 0 (k : Int) = ((k + 1 : Nat) : Int) := by simp [evAfter]
    exact ((ih (by omega)).snoc 2 k 0 1 c 1 (ev2 (by omega) (by omega) (by omega) (yarnB_of (.inl rfl) hc (.inl rfl))) (by rw [h1]; omega)).to h1
theorem cross_ev {s n : Int} (hs : s = 1 ∨ s = -1) (hn : n ≤ 12) : ∀ (l : List Int), (∀ x ∈ l, 0 ≤ x ∧ x + 2 ≤ n) → EvS n (crossL s l) n
  | [], _ => .nil
  | x :: l, h => by
    have h1 := h x List.mem_cons_self
    have e : evAfter 1 s n = n := by simp [evAfter]
    exact ((EvS.one 1 x s 0 0 0 (ev1 h1.1 h1.2 hs) (by rw [e]; exact hn)).to e).app (cross_ev hs hn l fun y hy => h y (List.mem_cons_of_mem _ hy))
theorem plE_tight {p : Int} {a t : Nat} : ∀ x ∈ plE p a t, p ≤ x ∧ x + 1 < p + t + a := by
  induction t with
  | zero =>
    intro x hx
    cases hx
  | succ t ih =>
    intro x hx
    rcases List.mem_append.1 hx with hx | hx
    · have := ih x hx
      omega
    · have := plK_bounds x hx
      omega
theorem crsE_ev {p k n : Int} {L : List Int} (hp : 0 ≤ p) (hL : ∀ x ∈ L, 1 ≤ x ∧ x ≤ 4) (h : p + sumI L ≤ n) (hn : n ≤ 12) : EvS n (crsE p k L) n := by
  unfold crsE
  rcases signI_cases k with h0 | h1 | h1
  · rw [if_pos h0]
    exact .nil
  all_goals
    rw [if_neg (by rw [h1]; decide), h1]
    have e := sumI_app (L.take (L.length / 2)) (L.drop (L.length / 2))
    rw [List.take_append_drop] at e
    have b1 := (sumI_bounds (l := L.take (L.length / 2)) (b := 4) fun x hx => by have := hL x (List.mem_of_mem_take hx); omega).1
    have b2 := (sumI_bounds (l := L.drop (L.length / 2)) (b := 4) fun x hx => by have := hL x (List.mem_of_mem_drop hx); omega).1
    refine cross_ev (by omega) hn _ fun x hx => ?_
    have := plE_tight x hx
    omega
theorem sumI_set : ∀ (l : List Int) (j : Nat) (v : Int), j < l.length → sumI (l.set j v) = sumI l - l.getD j 0 + v
  | [], j, v, h => by simp at h
  | x :: l, 0, v, _ => by
    simp only [List.set_cons_zero, sumI, List.getD_cons_zero]
    omega
  | x :: l, j + 1, v, h => by
    have ih := sumI_set l j v (by simpa using h)
    simp only [List.set_cons_succ, sumI, List.getD_cons_succ, ih]
    omega
theorem hd_take : ∀ (l : List Int) (j : Nat), (∀ x ∈ l, 1 ≤ x ∧ x ≤ 4) → j < l.length → 0 ≤ sumI (l.take j) ∧ sumI (l.take j) + l.getD j 0 ≤ sumI l
  | [], j, _, h => by simp at h
  | x :: l, 0, hx, _ => by
    have h1 := (sumI_bounds (l := l) (b := 4) fun y hy => by have := hx y (List.mem_cons_of_mem _ hy); omega).1
    simp only [List.take_zero, sumI, List.getD_cons_zero]
    omega
  | x :: l, j + 1, hx, h => by
    have ih := hd_take l j (fun y hy => hx y (List.mem_cons_of_mem _ hy)) (by simpa using h)
    have h1 := hx x List.mem_cons_self
    simp only [List.take_succ_cons, sumI, List.getD_cons_succ]
    omega
theorem kn_ev {p N b c d : Int} {L : List Int} (hp : 0 ≤ p) (hN : p + sumI L ≤ N) (h12 : N ≤ 12) (hL : ∀ x ∈ L, 1 ≤ x ∧ x ≤ 4) (hy : yarnB b c d = true) : ∀ t, t ≤ L.length → EvS N (knS p b c d L t).1 (N - sumI L + sumI (knS p b c d L t).2) ∧ sumI (knS p b c d L t).2 ≤ sumI L ∧ (∀ x ∈ (knS p b c d L t).2, 1 ≤ x ∧ x ≤ 4)
  | 0, _ => ⟨EvS.nil.to (by simp only [knS]; omega), Int.le_refl _, hL⟩
  | t + 1, ht => by
    obtain ⟨h1, h2, h3⟩ := kn_ev hp hN h12 hL hy t (by omega)
    have hl := (knS_length p b c d L t).1
    have hj : knN d L.length t < (knS p b c d L t).2.length := by
      rw [hl]
      unfold knN
      split <;> omega
    obtain ⟨cur, hcur⟩ : ∃ q, q = (knS p b c d L t).2 := ⟨_, rfl⟩
    obtain ⟨j, hjj⟩ : ∃ q, q = knN d L.length t := ⟨_, rfl⟩
    simp only [knS]
    rw [← hcur] at h1 h2 h3 hj ⊢
    rw [← hjj] at hj ⊢
    obtain ⟨g1, g2⟩ := hd_take cur j h3 hj
    have g3 := sumI_set cur j 1 hj
    have g4 : 1 ≤ cur.getD j 0 ∧ cur.getD j 0 ≤ 4 := by
      rw [List.getD_eq_getElem?_getD, List.getElem?_eq_getElem hj]
      exact h3 _ (List.getElem_mem hj)
    have e : evAfter 2 (cur.getD j 0) (N - sumI L + sumI cur) = N - sumI L + sumI (cur.set j 1) := by
      rw [g3]
      simp only [evAfter, if_true]
      omega
    refine ⟨(h1.snoc 2 (p + sumI (cur.take j)) (cur.getD j 0) b c d (ev2 (by omega) (by omega) (by omega) hy) (by rw [e, g3]; omega)).to e, by rw [g3]; omega, fun x hx => ?_⟩
    rcases List.mem_or_eq_of_mem_set hx with hx | rfl
    · exact h3 x hx
    · omega
theorem st_ev {p N c d k : Int} {L : List Int} (hp : 0 ≤ p) (hN : p + sumI L ≤ N) (h12 : N ≤ 12) (hL : ∀ x ∈ L, 1 ≤ x ∧ x ≤ 4) (hl : L.length = tkN k) (hk : 1 ≤ k ∧ k ≤ 11) (h45 : k = 4 ∨ k = 5 → sumI L ≤ 4) (hc : 1 ≤ c ∧ c ≤ 4) (hd : d = 1 ∨ d = -1) (hF : N - sumI L + sumI (finL k L) ≤ 12) : EvS N (stE p c d k L) (N - sumI L + sumI (finL k L)) := by
  have hs0 := (sumI_bounds (l := L) (b := 4) fun x hx => by have := hL x hx; omega).1
  have hy1 := yarnB_of (b := 1) (.inl rfl) hc hd
  unfold stE
  by_cases h3 : k = 3
  · subst h3
    obtain rfl : L = [] := List.eq_nil_of_length_eq_zero (by rw [hl]; rfl)
    rw [if_pos rfl]
    have e : evAfter 3 0 N = N - sumI [] + sumI (finL 3 []) := by simp [evAfter, finL, sumI]
    exact (EvS.one 3 p 0 1 c d (ev3 hp (by simp only [sumI] at hN; omega) hy1) (by rw [e]; exact hF)).to e
  rw [if_neg h3]
  by_cases h6 : k = 6
  · subst h6
    obtain ⟨x, rfl⟩ : ∃ x, L = [x] := List.length_eq_one_iff.1 (by rw [hl]; rfl)
    rw [if_pos rfl]
    have h1 := hL x List.mem_cons_self
    have e : evAfter 3 0 N = N - sumI [x] + sumI (finL 6 [x]) := by
      simp [evAfter, finL, sumI]
      omega
    simp only [sumI] at hN
    exact (EvS.one 3 (p + x) 0 1 c d (ev3 (by omega) (by omega) hy1) (by rw [e]; exact hF)).to e
  rw [if_neg h6]
  by_cases h7 : k = 7
  · subst h7
    rw [if_pos rfl]
    exact EvS.nil.to (by simp [finL])
  rw [if_neg h7]
  by_cases h4 : k = 4 ∨ k = 5
  · rw [if_pos h4]
    have hf : finL k L = [1] := by
      unfold finL
      rw [if_pos (by omega)]
    have e : evAfter 2 (sumI L) N = N - sumI L + sumI (finL k L) := by
      rw [hf]
      simp [evAfter, sumI]
    exact (EvS.one 2 p (sumI L) 1 c d (ev2 hp ⟨hs0, h45 h4⟩ (by omega) hy1) (by rw [e]; exact hF)).to e
  rw [if_neg h4]
  have hf : finL k L = List.replicate L.length 1 := by
    unfold finL
    rw [if_neg (by omega), if_neg h6, if_neg h7]
  have hyb : yarnB (if k = 2 then 2 else 1) c d = true := by
    split
    · exact yarnB_of (.inr rfl) hc hd
    · exact hy1
  have h := (kn_ev hp hN h12 hL hyb L.length (Nat.le_refl _)).1
  rw [knS_all] at h
  rw [hf]
  exact h
theorem befI_le {C : Nat → List Int} {i m : Nat} (h : i ≤ m) (hC : ∀ j, j < m → 0 ≤ sumI (C j)) : befI C i ≤ befI C m := by
  induction m with
  | zero =>
    obtain rfl : i = 0 := by omega
    exact Int.le_refl _
  | succ m ih =>
    by_cases he : i = m + 1
    · rw [he]; exact Int.le_refl _
    · have h1 := ih (by omega) fun j hj => hC j (by omega)
      have h2 := hC m (by omega)
      simp only [befI]
      omega
theorem befI_nn {C : Nat → List Int} {m : Nat} (hC : ∀ j, j < m → 0 ≤ sumI (C j)) : 0 ≤ befI C m := befI_le (i := 0) (Nat.zero_le _) hC
theorem fitB_at {s z : Nat → Int} {i m : Nat} (h : fitB s z m = true) (hi : i < m) : oneB (z i) (s (segT z i)) (s (segT z i + 1)) = true := by
  cases hv : oneB (z i) (s (segT z i)) (s (segT z i + 1)) with
  | true => rfl
  | false => rw [fitB_false hi hv] at h; cases h
section
variable {s z : Nat → Int} {n m : Nat}
theorem rf_seg0 (h : RowFit s z n m) {i : Nat} (hi : i < m) : 0 ≤ sumI (seg s z i) := (sumI_bounds (b := 4) fun x hx => by have := (h.seg hi).1 x hx; omega).1
theorem rf_celT0 (h : RowFit s z n m) {d : Int} {t i : Nat} (hi : i < m) : 0 ≤ sumI (celT s z d m t i) := (sumI_bounds (b := 5) fun x hx => by have := (h.celT (d := d) (t := t) hi).1 x hx; omega).1
theorem bg_ev (h : RowFit s z n m) (h12 : befI (seg s z) m ≤ 12) : ∀ i, i ≤ m → EvS (befI (seg s z) m) (bgE s z i) (befI (seg s z) m)
  | 0, _ => .nil
  | i + 1, hi => by
    have h1 := befI_le (i := i + 1) (m := m) (C := seg s z) hi fun j hj => rf_seg0 h hj
    have h2 := befI_nn (m := i) (C := seg s z) fun j hj => rf_seg0 h (i := j) (show j < m by omega)
    simp only [befI] at h1
    exact (bg_ev h h12 i (by omega)).app (crsE_ev h2 (h.seg (by omega)).1 h1 h12)
theorem two_sum {k : Int} (hk : k = 4 ∨ k = 5) (s : Nat → Int) (a : Nat) : sumR s a (tkN k) = s a + s (a + 1) := by
  have e : tkN k = 2 := by rcases hk with rfl | rfl <;> rfl
  rw [e]
  simp [sumR]
/-- The events of a row lead from the strands of its columns to those of the columns behind it. -/
theorem row_ev (h : RowFit s z n m) (hf : fitB s z m = true) {c d : Int} (hc : 1 ≤ c ∧ c ≤ 4) (hd : d = 1 ∨ d = -1) (h12 : sumR s 0 n ≤ 12) (hk : keepB s n z m d m = true) : ∀ t, t ≤ m → EvS (sumR s 0 n) (rowE s z c d m t) (befI (celT s z d m t) m)
  | 0, _ => by
    have e1 : befI (seg s z) m = sumR s 0 n := by rw [befI_seg, h.t]
    have e2 : befI (celT s z d m 0) m = sumR s 0 n := by rw [befI_keep h.hz h.t (Nat.zero_le _)]; rfl
    have h1 := bg_ev h (by rw [e1]; exact h12) m (Nat.le_refl _)
    rw [e1] at h1
    rw [e2]
    exact h1
  | t + 1, ht => by
    have ih := row_ev h hf hc hd h12 hk t (by omega)
    have ho : ordN d m t < m := ordN_lt (by omega)
    have hN12 : befI (celT s z d m t) m ≤ 12 := by
      rw [befI_keep h.hz h.t (by omega)]
      rcases Nat.eq_zero_or_pos t with h0 | h0
      · rw [h0]; exact h12
      · exact keepS_le hk h0 (by omega)
    have hat := celT_at (s := s) (z := z) (d := d) (m := m) (t := t) (by omega)
    have hnx : befI (celT s z d m (t + 1)) m = befI (celT s z d m t) m - sumI (cel0 s z (ordN d m t)) + sumI (finL (z (ordN d m t)) (cel0 s z (ordN d m t))) := by
      rw [befI_set ho (C := celT s z d m t) fun j hj hn => by rw [celT_next (by omega) j hj, if_neg hn], celT_next (by omega) _ ho, if_pos rfl, hat]
      omega
    have hle := befI_le (i := ordN d m t + 1) (m := m) (C := celT s z d m t) (by omega) fun j hj => rf_celT0 h hj
    simp only [befI, hat] at hle
    have hnn := befI_nn (m := ordN d m t) (C := celT s z d m t) fun j hj => rf_celT0 h (i := j) (show j < m by omega)
    have h45 : z (ordN d m t) = 4 ∨ z (ordN d m t) = 5 → sumI (cel0 s z (ordN d m t)) ≤ 4 := fun hz => by
      have h1 := fitB_at hf ho
      unfold oneB at h1
      rw [if_neg (by omega), if_pos hz] at h1
      have h2 := of_decide_eq_true h1
      rw [cel0_sum, seg_sum, two_sum hz]
      exact h2
    have hk12 : befI (celT s z d m (t + 1)) m ≤ 12 := by
      rw [befI_keep h.hz h.t ht]
      exact keepS_le hk (by omega) ht
    rw [hnx] at hk12 ⊢
    exact ih.app (st_ev hnn hle hN12 (h.cel0 ho).1 (cel0_length _) (h.hz _ ho) h45 hc hd hk12)
theorem prod_12 : ∀ a, a < 13 → ∀ b, b < 13 → a + b ≤ 12 → b * a ≤ 3 * (a + b) := by decide
theorem crsE_short {p k : Int} {L : List Int} (hL : (∀ x ∈ L, 1 ≤ x ∧ x ≤ 4)) (h12 : sumI L ≤ 12) : ((crsE p k L).length : Int) ≤ 18 * sumI L := by
  have e := sumI_app (L.take (L.length / 2)) (L.drop (L.length / 2))
  rw [List.take_append_drop] at e
  have b1 := (sumI_bounds (l := L.take (L.length / 2)) (b := 4) fun x hx => by have := hL x (List.mem_of_mem_take hx); omega).1
  have b2 := (sumI_bounds (l := L.drop (L.length / 2)) (b := 4) fun x hx => by have := hL x (List.mem_of_mem_drop hx); omega).1
  unfold crsE
  split
  · simp; omega
  · rw [crossL_length, plE_length]
    have := prod_12 (sumI (L.take (L.length / 2))).toNat (by omega) (sumI (L.drop (L.length / 2))).toNat (by omega) (by omega)
    omega
theorem bg_short (h : RowFit s z n m) (h12 : befI (seg s z) m ≤ 12) : ∀ i, i ≤ m → ((bgE s z i).length : Int) ≤ 18 * befI (seg s z) i
  | 0, _ => by simp [bgE, befI]
  | i + 1, hi => by
    have h1 := befI_le (i := i + 1) (m := m) (C := seg s z) hi fun j hj => rf_seg0 h hj
    have h2 := befI_nn (m := i) (C := seg s z) fun j hj => rf_seg0 h (i := j) (show j < m by omega)
    simp only [befI] at h1
    have h3 := bg_short h h12 i (by omega)
    have h4 := crsE_short (p := befI (seg s z) i) (k := z i) (h.seg (i := i) (by omega)).1 (by omega)
    simp only [bgE, befI, List.length_append]
    omega
theorem row_short (h : RowFit s z n m) (h12 : sumR s 0 n ≤ 12) {c d : Int} : ∀ t, t ≤ m → (rowE s z c d m t).length ≤ 216 + 30 * t
  | 0, _ => by
    have e1 : befI (seg s z) m = sumR s 0 n := by rw [befI_seg, h.t]
    have h0 := bg_short h (by rw [e1]; exact h12) m (Nat.le_refl _)
    rw [e1] at h0
    show (bgE s z m).length ≤ _
    omega
  | t + 1, ht => by
    have ih := row_short h h12 (c := c) (d := d) t (by omega)
    have ho : ordN d m t < m := ordN_lt (by omega)
    have h1 := (stE_length (p := befI (celT s z d m t) (ordN d m t)) (c := c) (d := d) (k := z (ordN d m t)) (L := cel0 s z (ordN d m t))).1
    have h2 := (h.cel0 ho).2
    simp only [rowE, List.length_append]
    omega
end
theorem hd_sumR : ∀ (l : List Int), sumI l = sumR (fun j => l.getD j 0) 0 l.length := fun l => by
  have h : ∀ n, n ≤ l.length → sumI (l.take n) = sumR (fun j => l.getD j 0) 0 n := by
    intro n hn
    induction n with
    | zero => simp [sumI, sumR]
    | succ n ih =>
      rw [List.take_succ_eq_append_getElem (show n < l.length by omega), sumI_app, ih (by omega)]
      simp [sumI, sumR, List.getD, List.getElem?_eq_getElem (show n < l.length by omega)]
  have h2 := h l.length (Nat.le_refl _)
  rwa [List.take_length] at h2
section
variable {cols : Nat} {d c : Nat → Int} {ns : Nat → Nat} {z : Nat → Nat → Int} {n : Nat}
theorem stL_sum (h : rowsB cols d c ns z n = true) {k : Nat} (hk : k ≤ n) : sumR (stF cols ns z k) 0 (stN cols ns z k) = sumI (stL cols ns z k) := by
  rw [hd_sumR, stL_len h hk]
  rfl
theorem stL_12 (hc : cols ≤ 8) (h : rowsB cols d c ns z n = true) {k : Nat} (hk : k ≤ n) : sumI (stL cols ns z k) ≤ 12 := by
  cases k with
  | zero =>
    show sumI (List.replicate cols 1) ≤ 12
    rw [sumI_rep]
    omega
  | succ k =>
    have hb := rowsB_all h k (by omega)
    obtain ⟨hf, hd, hkp⟩ := rowB_fit hb
    have e : sumI (stL cols ns z (k + 1)) = befI (celT (stF cols ns z k) (z k) (d k) (ns k) (ns k)) (ns k) := by
      rw [← sum_catC, cat_last hf.hz (Nat.le_refl _)]
      rfl
    rw [e, befI_keep hf.hz hf.t (Nat.le_refl _)]
    rcases Nat.eq_zero_or_pos (ns k) with h0 | h0
    · have ht := hf.t
      rw [h0] at ht ⊢
      have h1 : stN cols ns z k = 0 := ht.symm
      simp [keepS, h1, sumR]
    · exact keepS_le hkp h0 (Nat.le_refl _)
theorem rowB_parts {k : Nat} (h : rowB cols d c ns z k = true) : fitB (stF cols ns z k) (z k) (ns k) = true ∧ (d k = 1 ∨ d k = -1) ∧ 1 ≤ c k ∧ c k ≤ 4 := by
  simp only [rowB, Bool.and_eq_true, decide_eq_true_eq] at h
  obtain ⟨⟨⟨⟨h1, h2⟩, _⟩, h4⟩, _⟩ := h
  exact ⟨(saC_zero h4).2.2.2.2, of_decide_eq_true h1, inB_of h2⟩
/-- The events of the cast-on and the first k rows lead from nothing to the strands of the columns behind them. -/
theorem hk_ev (hc : cols ≤ 8) (h : rowsB cols d c ns z n = true) (hc0 : 1 ≤ c 0 ∧ c 0 ≤ 4) : ∀ k, k ≤ n → EvS 0 (hkE cols d c ns z k) (sumI (stL cols ns z k)) ∧ (hkE cols d c ns z k).length ≤ 48 + 456 * k
  | 0, _ => ⟨(cast_ev hc0 hc).to (by show _ = sumI (List.replicate cols 1); rw [sumI_rep]), by simp only [hkE, castL_length]; omega⟩
  | k + 1, hk => by
    obtain ⟨ih, il⟩ := hk_ev hc h hc0 k (by omega)
    have hb := rowsB_all h k (by omega)
    obtain ⟨hf, _, hkp⟩ := rowB_fit hb
    obtain ⟨hfb, hd, hcc⟩ := rowB_parts hb
    have e0 := stL_sum h (k := k) (by omega)
    have h12 : sumR (stF cols ns z k) 0 (stN cols ns z k) ≤ 12 := by
      rw [e0]
      exact stL_12 hc h (by omega)
    have h1 := row_ev hf hfb hcc hd h12 hkp (ns k) (Nat.le_refl _)
    have h2 := row_short hf h12 (c := c k) (d := d k) (ns k) (Nat.le_refl _)
    have e1 : befI (celT (stF cols ns z k) (z k) (d k) (ns k) (ns k)) (ns k) = sumI (stL cols ns z (k + 1)) := by
      rw [← sum_catC, cat_last hf.hz (Nat.le_refl _)]
      rfl
    rw [e0, e1] at h1
    have h8 := hf.m8
    refine ⟨ih.app h1, ?_⟩
    simp only [hkE, List.length_append]
    omega
end
/-- The events of a valid chart are valid and leave the strands of its last columns. -/
theorem hk_count {cols : Int} {n : Nat} {d c : Nat → Int} {ns : Nat → Nat} {z : Nat → Nat → Int} (h : chartB cols n d c ns z = true) : (hkE cols.toNat d c ns z n).length = hkN cols n d c ns z * 6 ∧ cntO (fun j => (hkE cols.toNat d c ns z n).getD j 0) (hkN cols n d c ns z) = some (sumI (stL cols.toNat ns z n)) := by
  have h0 := h
  simp only [chartB, Bool.and_eq_true, decide_eq_true_eq] at h0
  obtain ⟨⟨hc, hn1, hn8⟩, hr⟩ := h0
  have hc8 := inB_of hc
  have hb0 := (rowB_parts (rowsB_all hr 0 (by omega))).2.2
  obtain ⟨h1, h2⟩ := hk_ev (cols := cols.toNat) (by omega) hr hb0 n (Nat.le_refl _)
  obtain ⟨K, hK, hcnt⟩ := h1.cnt
  have e : hkN cols n d c ns z = K := by
    unfold hkN
    rw [if_pos h, hK]
    omega
  rw [e]
  refine ⟨hK, ?_⟩
  unfold cntO
  rw [if_pos (by omega)]
  exact hcnt _ fun j _ => rfl
end Go.Proofs.Ytacppheedleamaa
