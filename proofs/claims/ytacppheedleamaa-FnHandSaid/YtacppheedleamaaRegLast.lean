/- Plain law: a region that draws its order, whose last operation waits for all others: the region without it, then it. -/
import Derived.Orders
import Derived.Deep.RegionHeld3
set_option linter.unusedVariables false
set_option linter.unusedSimpArgs false
namespace Go.Proofs.Ytacppheedleamaa
open Go

section
variable {P : Program} {Q : Exit → Act → World → Prop} {md : Region.Mode}
/-- What the region without its last operation must lead to. -/
def LastPost (P : Program) (st : Oper) (Q : Exit → Act → World → Prop) : Exit → Act → World → Prop
  | .normal, a, w => st.wp P a w (fun a' w' => Q .normal a' w') Q
  | e, a, w => Q e a w
theorem LastPost.of {st : Oper} {a : Act} {w : World} (h : st.wp P a w (fun a' w' => Q .normal a' w') Q) : LastPost P st Q .normal a w := h
theorem lets_last {st : Oper} (h : LetsOut (LastPost P st Q)) : LetsOut Q := h
/-- What an operation leads to, with another post for its ways out. -/
theorem oper_post {o st : Oper} {a : Act} {w : World} {K : Act → World → Prop} (h : o.wp P a w K (LastPost P st Q)) : o.wp P a w K Q := by
  unfold Oper.wp at *
  generalize (execOp a.eval o).run P w = r at *
  cases r with
  | ok n w' =>
    cases n with
    | enter f args =>
      refine Calls.mono h fun e w'' he => ?_
      cases e <;> exact he
    | _ => exact h
  | halt x w' =>
    cases x <;> exact h
theorem getD_t {l : Array Bool} {i : Nat} : l.getD i true = false ↔ l[i]? = some false := by
  rw [Array.getD_eq_getD_getElem?]
  cases h : l[i]? with
  | none => simp
  | some b => cases b <;> simp
theorem getD_f {l : Array Bool} {i : Nat} : l.getD i false = true ↔ l[i]? = some true := by
  rw [Array.getD_eq_getD_getElem?]
  cases h : l[i]? with
  | none => simp
  | some b => cases b <;> simp
theorem set_get (l : Array Bool) (i j : Nat) : (l.setIfInBounds i true)[j]? = if i = j then (l[j]?).map (fun _ => true) else l[j]? := by
  rw [Array.getElem?_setIfInBounds]
  by_cases h : i = j
  · subst h
    rw [if_pos rfl, if_pos rfl]
    by_cases h : i < l.size
    · rw [if_pos h, Array.getElem?_eq_getElem h]; rfl
    · rw [if_neg h, Array.getElem?_eq_none (by omega)]; rfl
  · rw [if_neg h, if_neg h]
def Closed (md : Region.Mode) (ops : Array Oper) (l : Array Bool) : Prop := ∀ (j : Nat) (o : Oper), ops[j]? = some o → l[j]? = some true → ∀ e ∈ o.after, Region.binds md e = true → l[e.on]? = some true
/-- Each operation but the last is waited for by a later one, and all wait for earlier ones alone; no guards. -/
structure Lasts (md : Region.Mode) (ops ops' : Array Oper) (st : Oper) (k : Nat) : Prop where
  z : ops.size = k + 1
  z' : ops'.size = k
  old : ∀ i, i < k → ops[i]? = ops'[i]?
  last : ops[k]? = some st
  g : ∀ (i : Nat) (o : Oper), ops[i]? = some o → o.guard = none
  up : ∀ i, i < k → ∃ (j : Nat) (o : Oper), i < j ∧ ops[j]? = some o ∧ ∃ e ∈ o.after, Region.binds md e = true ∧ e.on = i
  dn : ∀ (j : Nat) (o : Oper), ops[j]? = some o → ∀ e ∈ o.after, Region.binds md e = true → e.on < j
variable {ops ops' : Array Oper} {st : Oper} {k : Nat}
theorem L_all (L : Lasts md ops ops' st k) {l' : Array Bool} (hz' : l'.size = k) (hr : Region.ready md ops' l' = []) : ∀ i, i < k → l'[i]? = some true := fun i => by
  induction i using Nat.strongRecOn with
  | _ i ih =>
    intro hi
    obtain ⟨b, hb⟩ : ∃ b, l'[i]? = some b := ⟨_, Array.getElem?_eq_getElem (by omega)⟩
    cases b with
    | true => exact hb
    | false =>
      obtain ⟨o, ho⟩ : ∃ o, ops'[i]? = some o := ⟨_, Array.getElem?_eq_getElem (by have := L.z'; omega)⟩
      have hm : i ∈ Region.ready md ops' l' := mem_ready.2 ⟨getD_t.2 hb, o, ho, fun e he hbd => getD_f.2 (by
        have hlt := L.dn i o ((L.old i hi).trans ho) e he hbd
        exact ih _ hlt (by omega))⟩
      rw [hr] at hm
      cases hm
theorem L_up (L : Lasts md ops ops' st k) {l : Array Bool} (hc : Closed md ops l) (hd : ∀ e ∈ st.after, Region.binds md e = true → l[e.on]? = some true) : ∀ q i, i + q = k → i < k → l[i]? = some true := fun q => by
  induction q using Nat.strongRecOn with
  | _ q ih =>
    intro i hq hi
    obtain ⟨j, o, hij, ho, e, he, hb, rfl⟩ := L.up i hi
    have hj : j < k + 1 := by rw [← L.z]; exact (Array.getElem?_eq_some_iff.1 ho).1
    by_cases hjk : j = k
    · subst hjk
      rw [L.last] at ho
      cases ho
      exact hd e he hb
    · exact hc j o ho (ih (k - j) (by omega) j (by omega) (by omega)) e he hb
theorem last_any (L : Lasts md ops ops' st k) : ∀ (fuel : Nat) (l l' : Array Bool) (a : Act) (w : World), l.size = k + 1 → l'.size = k → (∀ i, i < k → l[i]? = l'[i]?) → l[k]? = some false → Closed md ops l →
    wpAny P md ops' (LastPost P st Q) fuel l' a w → wpAny P md ops Q (fuel + 1) l a w := by
  -- nothing is left but the last
  have fin : ∀ (fuel : Nat) (l l' : Array Bool) (a : Act) (w : World), l.size = k + 1 → l'.size = k → (∀ i, i < k → l[i]? = l'[i]?) → l[k]? = some false → Region.ready md ops' l' = [] → LastPost P st Q .normal a w → wpAny P md ops Q (fuel + 1) l a w := by
    intro fuel l l' a w hz hz' hl hk hr hq
    have hall := L_all L hz' hr
    have hkr : k ∈ Region.ready md ops l := mem_ready.2 ⟨getD_t.2 hk, st, L.last, fun e he hb => getD_f.2 (by
      have hlt := L.dn k st L.last e he hb
      rw [hl _ hlt]
      exact hall _ hlt)⟩
    refine ⟨fun h => (by rw [h] at hkr; cases hkr), fun i hi => ?_⟩
    obtain ⟨hi0, o, ho, _⟩ := mem_ready.1 hi
    have hik : i = k := by
      have hlt : i < k + 1 := by rw [← L.z]; exact (Array.getElem?_eq_some_iff.1 ho).1
      rcases Nat.lt_or_ge i k with h | h
      · have h2 := hall i h
        rw [← hl i h, getD_t.1 hi0] at h2
        cases h2
      · omega
    subst hik
    have hno : Region.ready md ops (l.setIfInBounds i true) = [] := by
      refine List.eq_nil_iff_forall_not_mem.2 fun j hj => ?_
      obtain ⟨hj0, o', ho', _⟩ := mem_ready.1 hj
      have hlt : j < i + 1 := by rw [← L.z]; exact (Array.getElem?_eq_some_iff.1 ho').1
      have hj1 := getD_t.1 hj0
      rw [set_get] at hj1
      by_cases hji : i = j
      · subst hji
        rw [if_pos rfl, hk] at hj1
        cases hj1
      · rw [if_neg hji, hl j (by omega), hall j (by omega)] at hj1
        cases hj1
    unfold wpOp
    rw [L.last]
    have hw : Region.wanted st (yielded ops a.tmps) = true := by simp [Region.wanted, L.g i st L.last]
    simp only [hw, if_true]
    exact .inl (Oper.wp_mono (fun a' w' h => wpAny_done hno h _) hq)
  intro fuel
  induction fuel with
  | zero => exact fun l l' a w hz hz' hl hk _ h => fin 0 l l' a w hz hz' hl hk h.1 h.2
  | succ n ih =>
    intro l l' a w hz hz' hl hk hc h
    by_cases hr : Region.ready md ops' l' = []
    · exact fin (n + 1) l l' a w hz hz' hl hk hr (h.1 hr)
    · obtain ⟨q, hq⟩ := List.exists_mem_of_ne_nil _ hr
      obtain ⟨hq0, oq, hoq, hqd⟩ := mem_ready.1 hq
      have hqk : q < k := by rw [← L.z']; exact (Array.getElem?_eq_some_iff.1 hoq).1
      have hqr : q ∈ Region.ready md ops l := mem_ready.2 ⟨getD_t.2 ((hl q hqk).trans (getD_t.1 hq0)), oq, (L.old q hqk).trans hoq, fun e he hb => getD_f.2 ((hl _ (by have := L.dn q oq ((L.old q hqk).trans hoq) e he hb; omega)).trans (getD_f.1 (hqd e he hb)))⟩
      refine ⟨fun h0 => (by rw [h0] at hqr; cases hqr), fun i hi => ?_⟩
      obtain ⟨hi0, o, ho, hd⟩ := mem_ready.1 hi
      have hik : i < k := by
        have hlt : i < k + 1 := by rw [← L.z]; exact (Array.getElem?_eq_some_iff.1 ho).1
        refine Nat.lt_of_le_of_ne (by omega) ?_
        rintro rfl
        rw [L.last] at ho
        cases ho
        have h2 := L_up L hc (fun e he hb => getD_f.1 (hd e he hb)) (i - q) q (by omega) hqk
        rw [hl q hqk, getD_t.1 hq0] at h2
        cases h2
      have hi' : i ∈ Region.ready md ops' l' := mem_ready.2 ⟨getD_t.2 ((hl i hik).symm.trans (getD_t.1 hi0)), o, (L.old i hik).symm.trans ho, fun e he hb => getD_f.2 ((hl _ (by have := L.dn i o ho e he hb; omega)).symm.trans (getD_f.1 (hd e he hb)))⟩
      have h1 := h.2 i hi'
      unfold wpOp at h1 ⊢
      rw [← L.old i hik, ho] at h1
      rw [ho]
      have hg := L.g i o ho
      have hw1 : Region.wanted o (yielded ops a.tmps) = true := by simp [Region.wanted, hg]
      have hw2 : Region.wanted o (yielded ops' a.tmps) = true := by simp [Region.wanted, hg]
      simp only [hw1, hw2, if_true] at h1 ⊢
      have hK : ∀ a' w', wpAny P md ops' (LastPost P st Q) n (l'.setIfInBounds i true) a' w' → wpAny P md ops Q (n + 1) (l.setIfInBounds i true) a' w' := fun a' w' hh => by
        refine ih _ _ a' w' (by simpa using hz) (by simpa using hz') (fun j hj => by rw [set_get, set_get, hl j hj]) (by rw [set_get, if_neg (by omega), hk]) (fun j oj hoj hj e he hb => ?_) hh
        have hdj := L.dn j oj hoj e he hb
        have hold : l[e.on]? = some true := by
          rw [set_get] at hj
          by_cases hij : i = j
          · subst hij
            rw [ho] at hoj
            cases hoj
            exact getD_f.1 (hd e he hb)
          · rw [if_neg hij] at hj
            exact hc j oj hoj hj e he hb
        rw [set_get, hold]
        split <;> rfl
      rcases h1 with h1 | ⟨h1, h2⟩
      · exact .inl (oper_post (st := st) (Oper.wp_mono hK h1))
      · exact .inr ⟨h1, lets_last h2⟩
theorem old_app (l : List Oper) (st : Oper) (i : Nat) (h : i < l.length) : (l ++ [st]).toArray[i]? = l.toArray[i]? := by
  rw [List.getElem?_toArray, List.getElem?_toArray, List.getElem?_append_left h]
/-- The two conditions, to be reckoned. -/
def lastsB (md : Region.Mode) (ops : List Oper) (k : Nat) : Bool :=
  ((List.range (k + 1)).all fun j => (ops[j]?).all fun o => o.guard.isNone && o.after.all fun e => !Region.binds md e || decide (e.on < j)) &&
  ((List.range k).all fun i => (List.range (k + 1)).any fun j => decide (i < j) && (ops[j]?).any fun o => o.after.any fun e => Region.binds md e && e.on == i)
theorem lasts_of (l : List Oper) (st : Oper) (h : lastsB md (l ++ [st]) l.length = true) : Lasts md (l ++ [st]).toArray l.toArray st l.length := by
  unfold lastsB at h
  rw [Bool.and_eq_true, List.all_eq_true, List.all_eq_true] at h
  obtain ⟨h1, h2⟩ := h
  have hz : (l ++ [st]).toArray.size = l.length + 1 := by simp
  have hj : ∀ (j : Nat) (o : Oper), (l ++ [st]).toArray[j]? = some o → o.guard.isNone = true ∧ ∀ e ∈ o.after, Region.binds md e = true → e.on < j := fun j o ho => by
    have hlt : j < l.length + 1 := by rw [← hz]; exact (Array.getElem?_eq_some_iff.1 ho).1
    have h3 := h1 j (List.mem_range.2 hlt)
    rw [List.getElem?_toArray] at ho
    rw [ho] at h3
    simp only [Option.all_some, Bool.and_eq_true] at h3
    refine ⟨h3.1, fun e he hb => ?_⟩
    have h4 := (Array.all_eq_true_iff_forall_mem.1 h3.2) e he
    simpa [hb] using h4
  refine ⟨hz, by simp, fun i hi => old_app l st i hi, by simp, fun i o ho => by have := (hj i o ho).1; simpa using this, fun i hi => ?_, fun j o ho => (hj j o ho).2⟩
  obtain ⟨j, hjm, h3⟩ := List.any_eq_true.1 (h2 i (List.mem_range.2 hi))
  rw [Bool.and_eq_true] at h3
  obtain ⟨h4, h5⟩ := h3
  cases ho : (l ++ [st])[j]? with
  | none => rw [ho] at h5; cases h5
  | some o =>
    rw [ho] at h5
    simp only [Option.any_some] at h5
    obtain ⟨q, hq, h6⟩ := Array.any_eq_true.1 h5
    have he : o.after[q] ∈ o.after := Array.getElem_mem hq
    rw [Bool.and_eq_true] at h6
    exact ⟨j, o, by simpa using h4, by rw [List.getElem?_toArray]; exact ho, _, he, h6.1, by simpa using h6.2⟩
/-- The region without its last operation, then that. -/
theorem wp_region_last {S : World → Prop} {id : Nat} {a : Act} {w : World} (l : List Oper) (st : Oper) (hm : P.follows .mixedOrders = true) (hb : lastsB .any (l ++ [st]) l.length = true) (hS : S w.drew)
    (h : S w.drew → wpAnyH P .any l.toArray (LastPost P st Q) S l.length (Array.replicate l.length false) a w.drew) : (Code.region id (l ++ [st]).toArray true).wp P Q a w := by
  have L := lasts_of l st hb
  refine wp_region_any hm ?_
  rw [L.z]
  refine last_any L l.length _ (Array.replicate l.length false) a _ (by simp) (by simp) (fun i hi => ?_) (by simp) (fun j o _ hj => ?_) (wpAny_of_held _ _ _ _ (h hS))
  · rw [Array.getElem?_replicate, Array.getElem?_replicate, if_pos (by omega), if_pos hi]
  · rw [Array.getElem?_replicate] at hj
    split at hj <;> cases hj
theorem wp_region_lastL {S : World → Prop} {id : Nat} {a : Act} {w : World} (L : List Oper) (hne : L ≠ []) (hm : P.follows .mixedOrders = true) (hb : lastsB .any L (L.length - 1) = true) (hS : S w.drew)
    (h : S w.drew → wpAnyH P .any L.dropLast.toArray (LastPost P (L.getLast hne) Q) S (L.length - 1) (Array.replicate (L.length - 1) false) a w.drew) : (Code.region id L.toArray true).wp P Q a w := by
  have e := List.dropLast_concat_getLast hne
  have hl : L.dropLast.length = L.length - 1 := List.length_dropLast
  have h1 := wp_region_last (P := P) (Q := Q) (S := S) (id := id) (a := a) (w := w) L.dropLast (L.getLast hne) hm (by rw [e, hl]; exact hb) hS (fun hs => by rw [hl]; exact h hs)
  rwa [e] at h1
end
end Go.Proofs.Ytacppheedleamaa
