/- Walks: a new machine, by the reference and by the program. No condition but its width. -/
import Derived.Test.YtpmfkpehmckgmaaMachJ
import Derived.RegionTactic
namespace Go.Proofs.Ytpmfkpehmckgmaa
open Go.RowKit
set_option maxRecDepth 20000

def offT (tg : Nat → Nat) (g b : Nat) : Nat := if b = g then 0 else tg b
def onT (tg : Nat → Nat) (g b : Nat) : Nat := if b = g then 1 else tg b
/-- A machine as a value: once its struct is stored in a block of its own it lies there. -/
def MakesM (B : Nat) (v : Value) (s : Mst) (w : World) : Prop :=
  ∃ (tg : Nat → Nat) (a : MAdr), v = .agg (cellsM a s) ∧ (∀ b, tg b ≠ 0 → B ≤ b) ∧ (∀ b, tg b ≠ 0 → b < w.heap.size) ∧ ((∃ A n c, a.L = .slice A n c) ∧ ∃ A n c, a.D = .slice A n c) ∧
    ∀ g w', tg g = 0 → (∀ b, tg b ≠ 0 → w'.heap[b]? = w.heap[b]?) → w.heap.size ≤ w'.heap.size → Blk w' g 69 (cellsM a s) → Mem (onT tg g) { a with g := g } s w'
def NewMP (w : World) (s : Mst) (e : Ending) (w' : World) : Prop := ∃ v, e = .returned v ∧ MakesM w.heap.size v s w' ∧ Below w.heap.size w w'
theorem Mem.makes {tg : Nat → Nat} {a : MAdr} {s : Mst} {w : World} {B : Nat} (h : Mem tg a s w) (lo : ∀ b, tg b ≠ 0 → B ≤ b) : MakesM B (.agg (cellsM a s)) s w := by
  have ht : ∀ b, offT tg a.g b ≠ 0 → tg b ≠ 0 := fun b hb => by
    unfold offT at hb
    split at hb
    · omega
    · exact hb
  refine ⟨offT tg a.g, a, rfl, fun b hb => lo b (ht b hb), fun b hb => h.lt b (ht b hb), ⟨by obtain ⟨xs, hx, _⟩ := h.l; obtain ⟨A, c, e⟩ := own_form hx; exact ⟨A, _, c, e⟩, by obtain ⟨q, _, xs, hx⟩ := h.d; obtain ⟨A, c, e⟩ := own_form hx; exact ⟨A, _, c, e⟩⟩, fun g w' hg hk hz hB => ?_⟩
  have k0 : ∀ {b c : Nat}, tg b = c → c ≠ 0 → c ≠ 1 → w'.heap[b]? = w.heap[b]? ∧ b ≠ g ∧ b ≠ a.g := fun {b c} hb h0 h1 => by
    have hba : b ≠ a.g := by rintro rfl; rw [h.tm] at hb; omega
    refine ⟨hk b (by unfold offT; rw [if_neg hba, hb]; exact h0), ?_, hba⟩
    rintro rfl
    unfold offT at hg
    rw [if_neg hba] at hg
    omega
  have kv : ∀ {u : Value} {c : Nat}, TagV tg u c → c ≠ 0 → c ≠ 1 → ∀ b, u.ownBlock = some b → w'.heap[b]? = w.heap[b]? := fun hu h0 h1 b hb => (k0 (hu b hb) h0 h1).1
  have tb : ∀ {b c : Nat}, tg b = c → c ≠ 0 → c ≠ 1 → onT (offT tg a.g) g b = c := fun hb h0 h1 => by
    obtain ⟨_, h2, h3⟩ := k0 hb h0 h1
    unfold onT offT
    rw [if_neg h2, if_neg h3, hb]
  have tv : ∀ {u : Value} {c : Nat}, TagV tg u c → c ≠ 0 → c ≠ 1 → TagV (onT (offT tg a.g) g) u c := fun hu h0 h1 b hb => tb (hu b hb) h0 h1
  refine ⟨hB, h.f.blk (k0 h.tf (by omega) (by omega)).1, h.fw.blk (k0 h.tf (by omega) (by omega)).1, h.k.blk (k0 h.tk (by omega) (by omega)).1, h.kw.blk (k0 h.tk (by omega) (by omega)).1, h.c.blk (k0 h.tc (by omega) (by omega)).1, h.cw.blk (k0 h.tc (by omega) (by omega)).1,
    fun i hi => (h.lf i hi).blk (kv (h.tF i hi) (by omega) (by omega)), fun i hi => (h.lk i hi).blk (kv (h.tK i hi) (by omega) (by omega)), ((h.l.blk (kv h.tL (by omega) (by omega)) fun b hb => (k0 hb (by omega) (by omega)).1).tags fun u hu => tv hu (by omega) (by omega)), h.d.blk (kv h.tD (by omega) (by omega)),
    if_pos rfl, tb h.tf (by omega) (by omega), tb h.tk (by omega) (by omega), tb h.tc (by omega) (by omega), tv h.tL (by omega) (by omega), tv h.tD (by omega) (by omega), fun i hi => tv (h.tF i hi) (by omega) (by omega), fun i hi => tv (h.tK i hi) (by omega) (by omega), fun b hb => ?_⟩
  by_cases hbg : b = g
  · subst hbg
    exact hB.lt
  · unfold onT at hb
    rw [if_neg hbg] at hb
    exact Nat.lt_of_lt_of_le (h.lt b (ht b hb)) hz
abbrev zeroM : Array Value := #[.int .i64 0, .int .i64 0, .slice none 0 0, .slice none 0 0, .slice none 0 0, .slice none 0 0, .slice none 0 0]
theorem MakesM.lower {B B' : Nat} {v : Value} {s : Mst} {w : World} (h : MakesM B v s w) (hB : B' ≤ B) : MakesM B' v s w := by
  obtain ⟨tg, a, h1, h2, h3, h0, h4⟩ := h
  exact ⟨tg, a, h1, fun b hb => Nat.le_trans hB (h2 b hb), h3, h0, h4⟩
theorem MakesM.keep {B : Nat} {v : Value} {s : Mst} {w w' : World} (h : MakesM B v s w) (hk : ∀ b, B ≤ b → b < w.heap.size → w'.heap[b]? = w.heap[b]?) (hz : w.heap.size ≤ w'.heap.size) : MakesM B v s w' := by
  obtain ⟨tg, a, h1, h2, h3, h0, h4⟩ := h
  exact ⟨tg, a, h1, h2, fun b hb => Nat.lt_of_lt_of_le (h3 b hb) hz, h0, fun g w2 hg hk2 hz2 hB => h4 g w2 hg (fun b hb => (hk2 b hb).trans (hk b (h2 b hb) (h3 b hb))) (Nat.le_trans hz hz2) hB⟩
theorem MakesM.set {B : Nat} {v : Value} {s : Mst} {w : World} (h : MakesM B v s w) (g o : Nat) (u : Value) (hg : g < B) : MakesM B v s (w.setCell ⟨g, o, none⟩ u) :=
  h.keep (fun b hb _ => set_keep _ _ _ _ (by intro e; rw [show b = g from e] at hb; omega)) (by rw [set_size]; exact Nat.le_refl _)
abbrev carNew : Array Value := #[.bool false, .int .i64 0, .bool false, .int .i64 0, .bool false, .int .i64 0, .bool false, .int .i64 0]
theorem makeC : ∀ w : World, (Instr.makeSlice 66 (.int .i64 4) (.int .i64 4)).run Try.prog w = .ok (.slice (some ⟨w.heap.size, 0, none⟩) 4 4) (w.alloc (.cells carNew 107)) := fun _ => by kernel_rfl
theorem car_new (W : Nat) (j : Nat) (hj : j < 8) : carNew[j]? = some (carV (newM W) j) := by
  have h : j = 0 ∨ j = 1 ∨ j = 2 ∨ j = 3 ∨ j = 4 ∨ j = 5 ∨ j = 6 ∨ j = 7 := by omega
  rcases h with rfl | rfl | rfl | rfl | rfl | rfl | rfl | rfl <;> rfl
/-- A machine under way: its struct's cells. -/
abbrev cellsN (W : Nat) (gc : Nat) (vF vK : Value) : Array Value := #[.int .i64 W, .int .i64 0, vF, vK, .slice (some ⟨gc, 0, none⟩) 4 4, .slice none 0 0, .slice none 0 0]
structure MNew (B : Nat) (tg : Nat → Nat) (W g gc i n : Nat) (vF vK : Value) (xs ys : List Value) (w : World) : Prop where
  m : Blk w g 69 (cellsN W gc vF vK)
  f : w.ownsRow B 41 1 vF i xs
  k : w.ownsRow B 41 1 vK n ys
  c : Blk w gc 107 carNew
  lf : ∀ j, j < i → LOwn w (xs.getD j undef) 0
  lk : ∀ j, j < n → LOwn w (ys.getD j undef) 0
  tm : tg g = 1
  tf : TagV tg vF 2
  tk : TagV tg vK 3
  tc : tg gc = 4
  tF : ∀ j, j < i → TagV tg (xs.getD j undef) (8 + 2 * j)
  tK : ∀ j, j < n → TagV tg (ys.getD j undef) (9 + 2 * j)
  lt : ∀ b, tg b ≠ 0 → b < w.heap.size
  lo : ∀ b, tg b ≠ 0 → B ≤ b
section
variable {B W g gc i k : Nat} {tg : Nat → Nat} {vF vK : Value} {xs ys : List Value} {w w' : World}
theorem MNew.mem (h : MNew B tg W g gc W W vF vK xs ys w) (hW : 1 ≤ W) : MakesM B (.agg (cellsN W gc vF vK)) (newM W) w := by
  obtain ⟨gf, cf, rfl⟩ : ∃ gf cf, vF = .slice (some ⟨gf, 0, none⟩) W cf := by
    rcases h.f.2 with ⟨_, h0⟩ | ⟨q, cap, _, e, _⟩
    · omega
    · exact ⟨q, cap, e⟩
  obtain ⟨gk, ck, rfl⟩ : ∃ gf cf, vK = .slice (some ⟨gf, 0, none⟩) W cf := by
    rcases h.k.2 with ⟨_, h0⟩ | ⟨q, cap, _, e, _⟩
    · omega
    · exact ⟨q, cap, e⟩
  have rw1 : ∀ {q c : Nat} {zs : List Value}, w.ownsRow B 41 1 (.slice (some ⟨q, 0, none⟩) W c) W zs → RowR w q 0 W (fun j => zs.getD j undef) ∧ RowW w q 0 W := fun {q c zs} ho => by
    have hl := ho.1
    refine ⟨fun j hj => ?_, by have := RowW.of_own ho; rwa [Nat.mul_one] at this⟩
    rw [Nat.zero_add, ho.cellAt j (by omega)]
    simp [List.getD, List.getElem?_eq_getElem (show j < zs.length by omega)]
  have hm : Mem tg ⟨g, gf, cf, gk, ck, gc, 4, fun j => xs.getD j undef, fun j => ys.getD j undef, .slice none 0 0, .slice none 0 0⟩ (newM W) w :=
    ⟨h.m, (rw1 h.f).1, (rw1 h.f).2, (rw1 h.k).1, (rw1 h.k).2, fun j hj => by rw [Nat.zero_add, h.c.cell]; exact car_new W j hj, fun j hj => ⟨⟨_, by rw [Nat.zero_add, h.c.cell]; exact car_new W j hj⟩, h.c.frozen _⟩, h.lf, h.lk, ⟨[], World.ownsRow_nil _ _ _ _, fun i hi => absurd hi (Nat.not_lt_zero _)⟩, ⟨0, Nat.le_refl _, [], World.ownsRow_nil _ _ _ _⟩, h.tm, h.tf _ rfl, h.tk _ rfl, h.tc, (fun b hb => by cases hb), (fun b hb => by cases hb), h.tF, h.tK, h.lt⟩
  exact hm.makes h.lo
/-- The marks behind an append. -/
def tagN (tg : Nat → Nat) (v : Value) (c q c' : Nat) (b : Nat) : Nat := if v.ownBlock = some b then c else if b = q then c' else tg b
theorem getD_old {xs : List Value} {e : Value} {j : Nat} (hj : j < xs.length) : (xs ++ [e]).getD j undef = xs.getD j undef := by
  simp [List.getD, List.getElem?_append_left hj]
theorem getD_new {xs : List Value} {e : Value} {j : Nat} (hj : j = xs.length) : (xs ++ [e]).getD j undef = e := by
  subst hj
  simp [List.getD]
theorem own_empty (w : World) : LOwn (w.alloc (.cells #[] 2)) (.slice (some ⟨w.heap.size, 0, none⟩) 0 0) 0 :=
  ⟨[], own_base (World.ownsRow_made (e := 2) (size := 1) w #[] 0 (Nat.le_refl _) (by unfold maxLen; omega) rfl) (Nat.zero_le _)⟩
theorem MNew.stepF {v' : Value} {w2 : World} (h : MNew B tg W g gc i k vF vK xs ys w) (hB : B ≤ w.heap.size) (ho : w2.ownsRow B 41 1 v' (i + 1) (xs ++ [.slice (some ⟨w.heap.size, 0, none⟩) 0 0]))
    (hf : Fr (w.alloc (.cells #[] 2)) w2 (fun b => vF.ownBlock = some b)) (hat : v'.ownBlock = vF.ownBlock ∨ v'.ownBlock = some (w.heap.size + 1 + 1)) :
    MNew B (tagN tg v' 2 w.heap.size (8 + 2 * i)) W g gc (i + 1) k v' vK (xs ++ [.slice (some ⟨w.heap.size, 0, none⟩) 0 0]) ys (w2.setCell ⟨g, 2, none⟩ v') := by
  have hl : xs.length = i := by have := h.f.1; omega
  have hz : w.heap.size + 1 ≤ w2.heap.size := by have := hf.size; simpa using this
  have hv : ∀ b, v'.ownBlock = some b → tg b = 2 ∨ b = w.heap.size + 1 + 1 := fun b hb => by
    rcases hat with e | e
    · exact .inl (h.tf b (e.symm.trans hb))
    · rw [hb] at e
      injection e with e
      exact .inr e
  have k0 : ∀ {b c : Nat}, tg b = c → c ≠ 0 → c ≠ 2 → w2.heap[b]? = w.heap[b]? ∧ tagN tg v' 2 w.heap.size (8 + 2 * i) b = c := fun {b c} hb h0 h2 => by
    have hlt := h.lt b (by omega)
    refine ⟨(hf.block b (by simp; omega) (fun e => by have := h.tf b e; omega)).trans (Below.heap_alloc w _ b hlt), ?_⟩
    unfold tagN
    rw [if_neg (fun e => by rcases hv b e with h' | h' <;> omega), if_neg (by omega), hb]
  have k1 : ∀ {b c : Nat}, tg b = c → c ≠ 0 → c ≠ 1 → c ≠ 2 → (w2.setCell ⟨g, 2, none⟩ v').heap[b]? = w.heap[b]? := fun {b c} hb h0 h1 h2 =>
    (set_keep _ _ _ _ (by intro e; rw [show b = g from e, h.tm] at hb; omega)).trans (k0 hb h0 h2).1
  have tv : ∀ {u : Value} {c : Nat}, TagV tg u c → c ≠ 0 → c ≠ 2 → TagV (tagN tg v' 2 w.heap.size (8 + 2 * i)) u c := fun hu h0 h2 b hb => (k0 (hu b hb) h0 h2).2
  have kv : ∀ {u : Value} {c : Nat}, TagV tg u c → c ≠ 0 → c ≠ 1 → c ≠ 2 → ∀ b, u.ownBlock = some b → (w2.setCell ⟨g, 2, none⟩ v').heap[b]? = w.heap[b]? := fun hu h0 h1 h2 b hb => k1 (hu b hb) h0 h1 h2
  have hvg : ∀ b, v'.ownBlock = some b → b ≠ g := fun b hb e => by
    subst e
    have h1 := h.tm
    have h2 := h.lt b (by omega)
    rcases hv b hb with h' | h' <;> omega
  have hvF : ¬ vF.ownBlock = some w.heap.size := fun e => by
    have h1 := h.tf _ e
    have h2 := h.lt w.heap.size (by omega)
    omega
  refine ⟨?_, own_blk ho fun b hb => set_keep _ _ _ _ (hvg b hb), own_blk h.k (kv h.tk (by omega) (by omega) (by omega)), (k1 h.tc (by omega) (by omega) (by omega)).trans h.c, fun j hj => ?_, fun j hj => (h.lk j hj).blk (kv (h.tK j hj) (by omega) (by omega) (by omega)), (k0 h.tm (by omega) (by omega)).2, fun b hb => by unfold tagN; rw [if_pos hb], tv h.tk (by omega) (by omega), (k0 h.tc (by omega) (by omega)).2, fun j hj => ?_, fun j hj => tv (h.tK j hj) (by omega) (by omega), fun b hb => ?_, fun b hb => ?_⟩
  · exact ((show Blk w2 g 69 (cellsN W gc vF vK) from (k0 h.tm (by omega) (by omega)).1.trans h.m).set_ 2 v')
  · by_cases hji : j = i
    · rw [getD_new (by omega)]
      refine (own_empty w).blk fun b hb => ?_
      obtain rfl : w.heap.size = b := Option.some.inj hb
      exact (set_keep _ _ _ _ (by intro e; have h1 := h.tm; rw [← show w.heap.size = g from e] at h1; have := h.lt w.heap.size (by omega); omega)).trans (hf.block _ (by simp) hvF)
    · rw [getD_old (by omega)]
      exact (h.lf j (by omega)).blk (kv (h.tF j (by omega)) (by omega) (by omega) (by omega))
  · by_cases hji : j = i
    · rw [getD_new (by omega)]
      intro b hb
      obtain rfl : w.heap.size = b := Option.some.inj hb
      unfold tagN
      rw [if_neg (fun e => ?_), if_pos rfl, hji]
      rcases hv _ e with h' | h'
      · have := h.lt w.heap.size (by omega)
        omega
      · omega
    · rw [getD_old (by omega)]
      exact tv (h.tF j (by omega)) (by omega) (by omega)
  · rw [set_size]
    unfold tagN at hb
    split at hb
    · exact (ho.lt b ‹_›).2
    · split at hb
      · omega
      · exact Nat.lt_of_lt_of_le (h.lt b hb) (by omega)
  · unfold tagN at hb
    split at hb
    · exact (ho.lt b ‹_›).1
    · split at hb
      · omega
      · exact h.lo b hb
theorem MNew.stepK {v' : Value} {w2 : World} (h : MNew B tg W g gc i k vF vK xs ys w) (hB : B ≤ w.heap.size) (ho : w2.ownsRow B 41 1 v' (k + 1) (ys ++ [.slice (some ⟨w.heap.size, 0, none⟩) 0 0]))
    (hf : Fr (w.alloc (.cells #[] 2)) w2 (fun b => vK.ownBlock = some b)) (hat : v'.ownBlock = vK.ownBlock ∨ v'.ownBlock = some (w.heap.size + 1 + 1)) :
    MNew B (tagN tg v' 3 w.heap.size (9 + 2 * k)) W g gc i (k + 1) vF v' xs (ys ++ [.slice (some ⟨w.heap.size, 0, none⟩) 0 0]) (w2.setCell ⟨g, 3, none⟩ v') := by
  have hl : ys.length = k := by have := h.k.1; omega
  have hz : w.heap.size + 1 ≤ w2.heap.size := by have := hf.size; simpa using this
  have hv : ∀ b, v'.ownBlock = some b → tg b = 3 ∨ b = w.heap.size + 1 + 1 := fun b hb => by
    rcases hat with e | e
    · exact .inl (h.tk b (e.symm.trans hb))
    · rw [hb] at e
      injection e with e
      exact .inr e
  have k0 : ∀ {b c : Nat}, tg b = c → c ≠ 0 → c ≠ 3 → w2.heap[b]? = w.heap[b]? ∧ tagN tg v' 3 w.heap.size (9 + 2 * k) b = c := fun {b c} hb h0 h2 => by
    have hlt := h.lt b (by omega)
    refine ⟨(hf.block b (by simp; omega) (fun e => by have := h.tk b e; omega)).trans (Below.heap_alloc w _ b hlt), ?_⟩
    unfold tagN
    rw [if_neg (fun e => by rcases hv b e with h' | h' <;> omega), if_neg (by omega), hb]
  have k1 : ∀ {b c : Nat}, tg b = c → c ≠ 0 → c ≠ 1 → c ≠ 3 → (w2.setCell ⟨g, 3, none⟩ v').heap[b]? = w.heap[b]? := fun {b c} hb h0 h1 h2 =>
    (set_keep _ _ _ _ (by intro e; rw [show b = g from e, h.tm] at hb; omega)).trans (k0 hb h0 h2).1
  have tv : ∀ {u : Value} {c : Nat}, TagV tg u c → c ≠ 0 → c ≠ 3 → TagV (tagN tg v' 3 w.heap.size (9 + 2 * k)) u c := fun hu h0 h2 b hb => (k0 (hu b hb) h0 h2).2
  have kv : ∀ {u : Value} {c : Nat}, TagV tg u c → c ≠ 0 → c ≠ 1 → c ≠ 3 → ∀ b, u.ownBlock = some b → (w2.setCell ⟨g, 3, none⟩ v').heap[b]? = w.heap[b]? := fun hu h0 h1 h2 b hb => k1 (hu b hb) h0 h1 h2
  have hvg : ∀ b, v'.ownBlock = some b → b ≠ g := fun b hb e => by
    subst e
    have h1 := h.tm
    have h2 := h.lt b (by omega)
    rcases hv b hb with h' | h' <;> omega
  have hvF : ¬ vK.ownBlock = some w.heap.size := fun e => by
    have h1 := h.tk _ e
    have h2 := h.lt w.heap.size (by omega)
    omega
  refine ⟨?_, own_blk h.f (kv h.tf (by omega) (by omega) (by omega)), own_blk ho fun b hb => set_keep _ _ _ _ (hvg b hb), (k1 h.tc (by omega) (by omega) (by omega)).trans h.c, fun j hj => (h.lf j hj).blk (kv (h.tF j hj) (by omega) (by omega) (by omega)), fun j hj => ?_, (k0 h.tm (by omega) (by omega)).2, tv h.tf (by omega) (by omega), fun b hb => by unfold tagN; rw [if_pos hb], (k0 h.tc (by omega) (by omega)).2, fun j hj => tv (h.tF j hj) (by omega) (by omega), fun j hj => ?_, fun b hb => ?_, fun b hb => ?_⟩
  · exact ((show Blk w2 g 69 (cellsN W gc vF vK) from (k0 h.tm (by omega) (by omega)).1.trans h.m).set_ 3 v')
  · by_cases hji : j = k
    · rw [getD_new (by omega)]
      refine (own_empty w).blk fun b hb => ?_
      obtain rfl : w.heap.size = b := Option.some.inj hb
      exact (set_keep _ _ _ _ (by intro e; have h1 := h.tm; rw [← show w.heap.size = g from e] at h1; have := h.lt w.heap.size (by omega); omega)).trans (hf.block _ (by simp) hvF)
    · rw [getD_old (by omega)]
      exact (h.lk j (by omega)).blk (kv (h.tK j (by omega)) (by omega) (by omega) (by omega))
  · by_cases hji : j = k
    · rw [getD_new (by omega)]
      intro b hb
      obtain rfl : w.heap.size = b := Option.some.inj hb
      unfold tagN
      rw [if_neg (fun e => ?_), if_pos rfl, hji]
      rcases hv _ e with h' | h'
      · have := h.lt w.heap.size (by omega)
        omega
      · omega
    · rw [getD_old (by omega)]
      exact tv (h.tK j (by omega)) (by omega) (by omega)
  · rw [set_size]
    unfold tagN at hb
    split at hb
    · exact (ho.lt b ‹_›).2
    · split at hb
      · omega
      · exact Nat.lt_of_lt_of_le (h.lt b hb) (by omega)
  · unfold tagN at hb
    split at hb
    · exact (ho.lt b ‹_›).1
    · split at hb
      · omega
      · exact h.lo b hb
end
theorem wpList_appGb {P : Program} (W : World) {ops : Array Oper} {rest : List Oper} {o : Oper} {a : Act} {Q : Exit → Act → World → Prop} (hgd : o.guard = none) (s x : Operand) (t : TypeId)
    (ho : o.op = .call { callee := .builtin .append, args := #[s, x], argTypes := #[t, t] })
    (base : Nat) (e : TypeId) (i : TypeInfo) (z : Value) (size bytes : Nat) (ht : P.underlying t = some (.slice e)) (hi : P.info? e = some i) (hz : i.zero = some z)
    (hsize : i.size = size) (hby : i.bytes = bytes) (hzs : z.cells.size = size) (hsz : 0 < size)
    (v : Value) (n : Nat) (xs : List Value) (hs : a.eval s = v) (hown : W.ownsRow base e size v n xs)
    (te : TypeId) (m c : Nat) (news : List Value) (q : Nat) (hq : q = W.heap.size) (hx : a.eval x = .slice (some ⟨q, 0, none⟩) m c) (hl : news.length = m * size) (h1 : ∀ u ∈ news, u.oneCell' = true)
    (h63 : n + m ≤ maxLen) (hbytes : (n + m) * bytes ≤ 140737488355328) (hbase : base ≤ W.heap.size)
    (h : ∀ v' w', w'.ownsRow base e size v' (n + m) (xs ++ news) → Fr W w' (fun b => v.ownBlock = some b) → (v'.ownBlock = v.ownBlock ∨ v'.ownBlock = some (q + 1)) → wpList P ops Q rest (a.put o.dst v') w') :
    wpList P ops Q (o :: rest) a (W.alloc (.cells news.toArray te)) := by
  subst hq
  exact wpList_appGa W hgd s x t ho base e i z size bytes ht hi hz hsize hby hzs hsz v n xs hs hown te m c news hx hl h1 h63 hbytes hbase h
theorem infoLL : (Try.prog.info? 41).map (fun i => (i.zero, i.size, i.bytes)) = some (some (.slice none 0 0), 1, 24) := by kernel_rfl
set_option maxHeartbeats 2000000 in
theorem mnew0 (W : Nat) (w : World) : MNew (w.heap.size + 1) (fun b => if b = w.heap.size + 1 + 1 then 1 else if b = w.heap.size + 1 then 4 else 0) W (w.heap.size + 1 + 1) (w.heap.size + 1) 0 0 (.slice none 0 0) (.slice none 0 0) [] []
      (((w.alloc (.cells #[.int .i64 0, .int .i64 0, .slice none 0 0, .slice none 0 0, .slice none 0 0, .slice none 0 0, .slice none 0 0] 69)).alloc (.cells carNew 107)).alloc (.cells (cellsN W (w.heap.size + 1) (.slice none 0 0) (.slice none 0 0)) 69)) := by
  refine ⟨Blk.at_ _ _ _ (by simp), World.ownsRow_nil _ _ _ _, World.ownsRow_nil _ _ _ _, (Blk.at_ _ _ _ (by simp)).alloc _, fun j hj => by omega, fun j hj => by omega, if_pos rfl, fun b hb => (by cases hb), fun b hb => (by cases hb), by simp, fun j hj => by omega, fun j hj => by omega, fun b hb => ?_, fun b hb => ?_⟩
  · simp
    by_cases h1 : b = w.heap.size + 1 + 1
    · omega
    · rw [if_neg h1] at hb
      by_cases h2 : b = w.heap.size + 1
      · omega
      · rw [if_neg h2] at hb
        omega
  · by_cases h1 : b = w.heap.size + 1 + 1
    · omega
    · rw [if_neg h1] at hb
      by_cases h2 : b = w.heap.size + 1
      · omega
      · rw [if_neg h2] at hb
        omega
set_option maxHeartbeats 2000000 in
theorem l07New_any (W : Nat) (w : World) (hW : 1 ≤ W) (hW2 : W ≤ 24) : Calls Try.prog 56 #[.int .i64 W] w (NewMP w (newM W)) := by
  obtain ⟨i0, hi, iz, is, ib⟩ := info_parts infoLL
  have hmk := makeC
  have HH0 := Lib.hid (mnew0 W w)
  have HB0 : Hid (Below (w.heap.size + 1) (w.alloc (.cells zeroM 69)) (((w.alloc (.cells zeroM 69)).alloc (.cells carNew 107)).alloc (.cells (cellsN W (w.heap.size + 1) (.slice none 0 0) (.slice none 0 0)) 69))) := Lib.hid (((Below.refl _ _).alloc (by simp) _).alloc (by simp) _)
  go_enter Try.func56, Try.ntmps56
  go_wp2_with fail
  go_loopw [4] (fun iv wr => ∃ (i : Nat) (tg : Nat → Nat) (vF vK : Value) (xs ys : List Value), i ≤ W ∧ iv = .int .i64 i ∧ MNew (w.heap.size + 1) tg W (w.heap.size + 1 + 1) (w.heap.size + 1) i i vF vK xs ys wr ∧ Below (w.heap.size + 1) (w.alloc (.cells zeroM 69)) wr) (fun iv _ => W - (intOf iv).toNat)
  case atStart => exact ⟨0, _, _, _, _, _, Nat.zero_le _, rfl, HH0.out, HB0.out⟩
  case round =>
    obtain ⟨i, tg, vF, vK, xs, ys, hile, rfl, hm, hb⟩ := hrel
    have HM := Lib.hid hm
    have HB := Lib.hid hb
    obtain ⟨AF, cF, rfl⟩ := own_form hm.f
    obtain ⟨AK, cK, rfl⟩ := own_form hm.k
    have m2 : wr.cell? ⟨w.heap.size + 1 + 1, 2, none⟩ = some (.slice AF i cF) := hm.m.cell 2
    have hrs : w.heap.size + 1 ≤ wr.heap.size := by have := hb.size; simpa using this
    clear hm hb
    by_cases hlt : i < W
    · go_wp2_with (first
        | (at_builtin; (refine wpList_appGb _ rfl (.tmp 14) (.tmp 16) _ rfl (w.heap.size + 1) 41 i0 _ 1 24 Try.underlying65 hi iz is ib rfl (by omega) (.slice AF i cF) i xs rfl (HM.out.f.alloc _) _ 1 1 [.slice (some ⟨wr.heap.size, 0, none⟩) 0 0] (wr.heap.size + 1) (by simp) rfl rfl (by simp [Value.oneCell']) (by unfold maxLen; omega) (by omega) (by simp; omega) ?_); intro v1 w1 hown1 hfr1 hat1; have hm1 := HM.out.stepF (by omega) hown1 hfr1 hat1; obtain ⟨A1, c1, rfl⟩ := own_form hown1; have hlg : w.heap.size + 1 + 1 < wr.heap.size := HM.out.m.lt; have hne : ¬ (Value.slice AF i cF).ownBlock = some (w.heap.size + 1 + 1) := (fun e => by have h1 := HM.out.tf _ e; have h2 := HM.out.tm; omega); have k2 := (hfr1.cells (g := w.heap.size + 1 + 1) (by simp; omega) hne 2).trans ((World.cell?_alloc_some wr _ (.cells #[] 2) (by rw [m2]; rfl)).trans m2); have kf : w1.frozen? ⟨w.heap.size + 1 + 1, 2, none⟩ = false := (World.frozen?_of_block (a := ⟨w.heap.size + 1 + 1, 2, none⟩) (hfr1.block _ (by simp; omega) hne)).trans ((HM.out.m.alloc _).frozen 2); have k3 := (show _ = some (Value.slice AK i cK) from hm1.m.cell 3); have HM1 := Lib.hid hm1; have HB1 := Lib.hid ((HB.out.alloc hrs (.cells #[] 2)).trans (hfr1.own (HM.out.f.alloc _) (by simp; omega))); clear hown1 hfr1 hat1 hm1)
        | (at_builtin; go_must ((refine wpList_appGb (w1.setCell ⟨w.heap.size + 1 + 1, 2, none⟩ (.slice A1 (i + 1) c1) |>.alloc (.cells #[] 2)) rfl (.tmp 20) (.tmp 22) _ rfl (w.heap.size + 1) 41 i0 _ 1 24 Try.underlying65 hi iz is ib rfl (by omega) (.slice AK i cK) i ys rfl (HM1.out.k.alloc _) _ 1 1 [.slice (some ⟨w1.heap.size, 0, none⟩) 0 0] (w1.heap.size + 1) (by simp) rfl rfl (by simp [Value.oneCell']) (by unfold maxLen; omega) (by omega) (by have h1 := HB1.out.size; rw [World.size_alloc] at h1; simp; omega) ?_); intro v2 w2 hown2 hfr2 hat2; have hz1 : (w1.setCell ⟨w.heap.size + 1 + 1, 2, none⟩ (.slice A1 (i + 1) c1)).heap.size = w1.heap.size := set_size _ _ _; have hs1 : w.heap.size + 1 ≤ w1.heap.size := (by have := HB1.out.size; simpa using this); rw [← hz1] at hown2 hat2; have hm2 := HM1.out.stepK (by rw [hz1]; exact hs1) hown2 hfr2 hat2; obtain ⟨A2, c2, rfl⟩ := own_form hown2; have hlg := HM1.out.m.lt; have hne : ¬ (Value.slice AK i cK).ownBlock = some (w.heap.size + 1 + 1) := (fun e => by have h1 := HM1.out.tk _ e; have h2 := HM1.out.tm; omega); have k3' := (hfr2.cells (g := w.heap.size + 1 + 1) (by rw [World.size_alloc]; omega) hne 3).trans ((World.cell?_alloc_some _ _ (.cells #[] 2) (by rw [k3]; rfl)).trans k3); have kf' : w2.frozen? ⟨w.heap.size + 1 + 1, 3, none⟩ = false := (World.frozen?_of_block (a := ⟨w.heap.size + 1 + 1, 3, none⟩) (hfr2.block (w.heap.size + 1 + 1) (by rw [World.size_alloc]; omega) hne)).trans ((HM1.out.m.alloc _).frozen 3); have HM2 := Lib.hid hm2; have HB2 := Lib.hid (((HB1.out.setCell (by simp) (.slice A1 (i + 1) c1)).alloc (by rw [hz1]; exact hs1) (.cells #[] 2)).trans (hfr2.own (HM1.out.k.alloc _) (by rw [World.size_alloc]; omega))); clear hown2 hfr2 hat2 hm2)))
      go_roundw
      case rel => exact ⟨i + 1, _, _, _, _, _, hlt, by go_num, HM2.out, HB2.out.setCell (by simp) _⟩
      case measure => simp [intOf] <;> omega
    · obtain rfl : W = i := by omega
      have hres := Blk.below (Blk.at_ w 69 zeroM rfl) HB.out (Nat.lt_succ_self _)
      have HF : Hid (MakesM (w.heap.size + 1) (.agg (cellsN W (w.heap.size + 1) (.slice AF W cF) (.slice AK W cK))) (newM W) wr) := Lib.hid (HM.out.mem hW)
      have HBF : Hid (Below w.heap.size w wr) := Lib.hid (((Below.refl w.heap.size w).alloc (Nat.le_refl _) _).trans (HB.out.mono (Nat.le_succ _)))
      have r0 := (show _ = some (Value.int .i64 W) from HM.out.m.cell 0)
      have r1 := (show _ = some (Value.int .i64 0) from HM.out.m.cell 1)
      have r3 := (show _ = some (Value.slice AK W cK) from HM.out.m.cell 3)
      have r4 := (show _ = some (Value.slice (some ⟨w.heap.size + 1, 0, none⟩) 4 4) from HM.out.m.cell 4)
      have r5 := (show _ = some (Value.slice none 0 0) from HM.out.m.cell 5)
      have r6 := (show _ = some (Value.slice none 0 0) from HM.out.m.cell 6)
      have q0 := (show _ = some (Value.int .i64 0) from hres.cell 0)
      have q1 := (show _ = some (Value.int .i64 0) from hres.cell 1)
      have q2 := (show _ = some (Value.slice none 0 0) from hres.cell 2)
      have q3 := (show _ = some (Value.slice none 0 0) from hres.cell 3)
      have q4 := (show _ = some (Value.slice none 0 0) from hres.cell 4)
      have q5 := (show _ = some (Value.slice none 0 0) from hres.cell 5)
      have q6 := (show _ = some (Value.slice none 0 0) from hres.cell 6)
      have f0 := fun o => hres.frozen o
      have HR := Lib.hid hres
      clear hres
      go_wp2_with fail
      refine bodyPost_ret (v := .agg (cellsN W (w.heap.size + 1) (.slice AF W cF) (.slice AK W cK))) (by simp [results, Try.results56, go_sem, q0, q1, q2, q3, q4, q5, q6]) rfl ⟨_, rfl, ?_, ?_⟩
      · exact (((((((HF.out.set _ _ _ (Nat.lt_succ_self _)).set _ _ _ (Nat.lt_succ_self _)).set _ _ _ (Nat.lt_succ_self _)).set _ _ _ (Nat.lt_succ_self _)).set _ _ _ (Nat.lt_succ_self _)).set _ _ _ (Nat.lt_succ_self _)).set _ _ _ (Nat.lt_succ_self _)).lower (Nat.le_succ _)
      · exact ((((((HBF.out.setCell (Nat.le_refl _) _).setCell (Nat.le_refl _) _).setCell (Nat.le_refl _) _).setCell (Nat.le_refl _) _).setCell (Nat.le_refl _) _).setCell (Nat.le_refl _) _).setCell (Nat.le_refl _) _
end Go.Proofs.Ytpmfkpehmckgmaa
