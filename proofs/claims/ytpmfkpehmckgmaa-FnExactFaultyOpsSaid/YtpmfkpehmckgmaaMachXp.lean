/- Walks and plain lemmas for executing an operation by the program. No condition but the machine's bounds. -/
import Derived.Test.YtpmfkpehmckgmaaMachV
import Derived.Test.YtpmfkpehmckgmaaShSlicesSortInt64
import Derived.Sort.OwnSortedInts
namespace Go.Proofs.Ytpmfkpehmckgmaa
open Go.RowKit
set_option maxRecDepth 20000

section
variable {tg : Nat → Nat} {a : MAdr} {s s' : Mst} {D : Nat} {w w0 w' : World} {g : Nat}
theorem Moved.of_below (hb : Below w.heap.size w w0) (h : Moved w0 tg g s w') : Moved w tg g s w' := by
  obtain ⟨tg', a', h1, h2, h3, h4⟩ := h
  exact ⟨tg', a', h1, h2, (Fr.of_below hb _).next h3 fun _ h => .inl h, fun q hq => by
    rcases h4 q hq with h | h
    · exact .inl h
    · exact .inr (Nat.le_trans hb.size h)⟩
theorem At.comp {wb : World} {tgb tg' : Nat → Nat} {a' : MAdr} (h : At wb tgb g s w tg a) (h2 : At w tg g s' w' tg' a') : At wb tgb g s' w' tg' a' :=
  ⟨h2.g, h2.m, h.fr h2.f, fun q hq => by
    rcases h2.t q hq with h1 | h1
    · exact h.t q h1
    · exact .inr (Nat.le_trans h.f.size h1)⟩
/-- What executing an operation leaves: its code; the machine moved on if that is 0, and untouched else. -/
def ExP (w : World) (tg : Nat → Nat) (g : Nat) (code : Int) (s' : Mst) (e : Ending) (w' : World) : Prop := e = .returned (.int .i64 code) ∧ (code ≠ 0 → Below w.heap.size w w') ∧ (code = 0 → Moved w tg g s' w')
def BedOk (k fb : Int) : Prop := (k = 1 ∨ k = 2 ∨ k = 3 ∨ k = 4 ∨ k = 5 ∨ k = 6) → (fb = 1 ∨ fb = 2)
theorem opCode_any {k d fb fa tb ta c r : Int} {j : Nat} (H : Mem tg a s w) (hs : MOk s D) (hp : OpOk s.W k d fb fa tb ta c r j) (hb : OpBeds k fb tb) (hf : BedOk k fb) : Calls Try.prog 92 #[.pointer (some ⟨a.g, 0, none⟩), .agg #[.int .i64 k, .int .i64 d, .int .i64 fb, .int .i64 fa, .int .i64 tb, .int .i64 ta, .int .i64 c, .int .i64 r]] w fun e w' => e = .returned (.int .i64 (doCode s k d fb fa tb ta j)) ∧ Below w.heap.size w w' := by
  rw [← opCode_eq hs hp hb]
  have hk : k = 1 ∨ k = 2 ∨ (k = 4 ∨ k = 5) ∨ k = 6 ∨ (k = 3 ∨ k = 7 ∨ k = 8 ∨ k = 9) := by have := hp.k1; have := hp.k9; omega
  rcases hk with rfl | rfl | hk | rfl | hk
  · exact opCode_knit H hs hp
  · exact opCode_tuck H hs (hf (by omega)) hp
  · exact opCode_move H hs hk (hb hk) hp
  · exact opCode_drop H hs (hf (by omega)) hp
  · exact opCode_simple H hs hp hk
/-- Slices.Sort of a list. -/
def SortP (w : World) (v : Value) (q : Nat) (e : Ending) (w' : World) : Prop := e = .returned (.tuple #[]) ∧ LOwn w' v q ∧ Fr w w' (fun b => v.ownBlock = some b)
theorem sort_any (v : Value) (q : Nat) (hv : LOwn w v q) (hq : q ≤ 2000000) : Calls Try.prog 96 #[v] w (SortP w v q) := by
  obtain ⟨xs, hx⟩ := hv
  have hl : xs.length = q := by have := hx.1; simpa [ints] using this
  have hx' := hx
  rcases hx'.2 with ⟨rfl, h0⟩ | ⟨gb, cap, cur, rfl, hb, hh, h1, h2, h3, h4⟩
  · subst h0
    exact (Try.slices_Sort_int64_none none 0 w).mono fun e w' ⟨he, hw⟩ => ⟨he, by rw [hw]; exact LOwn.nil w, by rw [hw]; exact Fr.refl _ _⟩
  · subst hl
    have ht : cur.toList.take xs.length = xs.map (Value.int .i64) := by have := h4; rw [Nat.mul_one] at this; exact this
    refine (Try.slices_Sort_int64 gb 0 cap xs w (holds_of_blockI hh ht) (Array.getElem?_eq_some_iff.1 hh).1 (by omega)).mono fun e w' ⟨he, n, os, hw⟩ => ⟨he, ?_, ?_⟩
    · subst hw
      exact ⟨_, ownsRow_sortedI (List.length_mergeSort xs) (Nat.zero_le _) hh h1 h2 h3⟩
    · subst hw
      have hg := grownBy_sortedI (w := w) (g := gb) (n := n) (os := os) (xs.mergeSort fun x y => decide (x ≤ y)).toArray
      exact ⟨hg.os, hg.tape, hg.output, hg.size, fun b hb hne => hg.block b hb (fun e => hne e.symm)⟩
theorem setN_cat (s : Mst) (b x : Int) (m : Nat) (f : Nat → Int) : setN { s with cat := f } b x m = { setN s b x m with cat := f } := by unfold setN; split <;> rfl
theorem lstN_put (s : Mst) (b x : Int) (m : Nat) : lstN (setN s b x m) b x = m := by
  unfold lstN setN
  split
  · exact if_pos rfl
  · exact if_pos rfl
theorem setN_again (s : Mst) (b x : Int) (m m' : Nat) : setN (more (setN s b x m)) b x m' = setN (more s) b x m' := by
  unfold setN more
  split
  · congr 1
    funext q
    by_cases h : q = x.toNat <;> simp [h]
  · congr 1
    funext q
    by_cases h : q = x.toNat <;> simp [h]
def newAt (s : Mst) (d x : Int) (j : Nat) (q : Nat) : Int := if q = j then (if d = 1 then x + 1 else x) else s.cat q
theorem doSt_1 (s : Mst) (d fb fa tb ta r : Int) (j : Nat) : doSt s 1 d fb fa tb ta r j = { setN (more s) fb fa 1 with cat := newAt s d (placeI fb fa s.rk) j } := by
  rw [← setN_cat]
  rfl
theorem doSt_2 (s : Mst) (d fb fa tb ta r : Int) (j : Nat) : doSt s 2 d fb fa tb ta r j = { setN (more s) fb fa (lstN s fb fa + 1) with cat := newAt s d (placeI fb fa s.rk) j } := by
  rw [← setN_cat]
  rfl
theorem moveSt_cat (s : Mst) (fb fa tb ta : Int) (f : Nat → Int) : moveSt { s with cat := f } fb fa tb ta = { moveSt s fb fa tb ta with cat := f } := by
  unfold moveSt
  rw [setN_cat s tb ta _ f, setN_cat (setN s tb ta _) fb fa 0 f]
  rfl
theorem doSt_5 (s : Mst) (d fb fa tb ta r : Int) (j : Nat) : doSt s 5 d fb fa tb ta r j = { setN (more (moveSt s fb fa tb ta)) fb fa 1 with cat := newAt s d (placeI fb fa s.rk) j } := by
  show setN (more (moveSt { s with cat := newAt s d (placeI fb fa s.rk) j } fb fa tb ta)) fb fa 1 = _
  rw [moveSt_cat, ← setN_cat]
  rfl
theorem setN_catE (s : Mst) (b x : Int) (m : Nat) : (setN s b x m).cat = s.cat := by unfold setN; split <;> rfl
theorem doCode_n {k d fb fa tb ta : Int} {j : Nat} (h : doCode s k d fb fa tb ta j = 0) (hk : k = 1 ∨ k = 2 ∨ k = 5) : s.n < 300 := by
  unfold doCode at h
  rw [if_pos hk] at h
  unfold formCode at h
  split at h
  · rcases Nat.lt_or_ge s.n 300 with h' | h'
    · exact h'
    · rw [if_pos h'] at h; omega
  · omega
end
end Go.Proofs.Ytpmfkpehmckgmaa
