/- Walks: the events of a chart that is knitted by hand, by the reference. No condition but the bounds. Walks: the letters and the events of a crossing of two blocks of strands, by the program. No condition but the bounds. Walks: slices.Clone, slices.Grow and slices.Concat at lists of numbers: the contents. No condition but the bounds. Walks: the program's hand knitter adds an event. No condition but the bounds. Plain: a list of numbers that is kept beside a row that is knitted by hand, and written; sums, as the program computes them. Walks: the program's hand knitter makes a crossing. No condition but the bounds. (Printed by wip/hks2gen.py.) Walks: the program's hand knitter begins a row: all crossings. No condition but the bounds. Walks: the program's hand knitter makes a stitch. No condition but the bounds. Walks: the program's hand knitter knits a row. No condition but the bounds. Walks: the events of a chart that is knitted by hand, by the program. No condition but the bounds. -/
import Derived.Test.YtacppheedleamaaHkX
import Derived.Test.YtacppheedleamaaChartH
import Derived.Test.YtacppheedleamaaCastOn
import Derived.Lib.AppendZeros
import Derived.Laws.CopyOwn
set_option linter.unusedVariables false
set_option linter.unusedSimpArgs false
namespace Go.Proofs.Ytacppheedleamaa
open Go.RowKit
set_option maxRecDepth 20000

/-- The cast-on's numbers. -/
def castL (carrier : Int) (n : Nat) : List Int := (List.range (n * 6)).map (castZ carrier)
theorem castL_cells (carrier : Int) (n : Nat) : castCells carrier n = ints (castL carrier n) := by simp [castCells, castL, ints, List.map_map, Function.comp_def]
theorem castL_length (carrier : Int) (n : Nat) : (castL carrier n).length = n * 6 := by simp [castL]
/-- A new list of events. -/
def OwnE (w : World) (n : Nat) (L : List Int) (e : Ending) (w' : World) : Prop := ∃ v, e = .returned v ∧ w'.ownsRow w.heap.size 77 6 v n (ints L) ∧ Below w.heap.size w w'
set_option maxHeartbeats 400000 in
theorem implCastO_any (n : Nat) (carrier : Int) (w : World) (hn : n ≤ 1048576) :
    Calls Try.prog 36 #[.int .i64 n, .int .i64 carrier] w (OwnE w n (castL carrier n)) := by
  obtain ⟨i0, hi, iz, is, ib⟩ := info_parts infoEvent
  go_enter Try.func36, Try.ntmps36
  go_wp2_with fail
  go_loopw [5, 9] (fun v i wr => ∃ k : Nat, k ≤ n ∧ i = .int .i64 k ∧ wr.ownsRow w.heap.size 77 6 v k (castCells carrier k) ∧ Below w.heap.size w wr) (fun _ i _ => n - (intOf i).toNat)
  case atStart => exact ⟨0, Nat.zero_le _, rfl, World.ownsRow_made w #[] 0 (Nat.le_refl _) (by unfold maxLen; omega) rfl, (Below.refl _ _).alloc (Nat.le_refl _) _⟩
  case round =>
    obtain ⟨k, hk, rfl, hown, hb⟩ := hrel
    have HB := Lib.hid hb
    have HOWN := Lib.hid hown
    clear hb hown
    by_cases hlt : k < n
    · go_wp2_with (at_builtin; go_must (refine wpList_app wr rfl (.tmp 12) (.tmp 16) _ rfl w.heap.size 77 i0 _ 6 48 Try.underlying28 hi iz is ib rfl (by omega) u5 k _ rfl HOWN.out _ 1 1 _ rfl rfl (by simp [Value.oneCell']) (by unfold maxLen; omega) (by omega) HB.out.size ?_); intro v' w' hown' hb')
      go_wp2
      go_roundw
      case rel => exact ⟨k + 1, by omega, by go_num, by rw [castCells_next]; exact hown', HB.out.trans hb'⟩
      case measure => simp [intOf] <;> omega
    · obtain rfl : k = n := by omega
      go_wp2
      go_ret
      exact ⟨_, rfl, by rw [← castL_cells]; exact HOWN.out, HB.out⟩
/-- The events of the cast-on and the first rows. -/
def hkE (cols : Nat) (d c : Nat → Int) (ns : Nat → Nat) (z : Nat → Nat → Int) : Nat → List Int
  | 0 => castL (c 0) cols
  | k + 1 => hkE cols d c ns z k ++ rowE (stF cols ns z k) (z k) (c k) (d k) (ns k) (ns k)
theorem rowB_fit {cols : Nat} {d c : Nat → Int} {ns : Nat → Nat} {z : Nat → Nat → Int} {k : Nat} (h : rowB cols d c ns z k = true) : RowFit (stF cols ns z k) (z k) (stN cols ns z k) (ns k) ∧ dirB (d k) = true ∧ keepB (stF cols ns z k) (stN cols ns z k) (z k) (ns k) (d k) (ns k) = true := by
  simp only [rowB, Bool.and_eq_true, decide_eq_true_eq] at h
  exact ⟨RowFit.of h.1.2, h.1.1.1.1, h.2⟩
theorem hkE_length {cols : Nat} {d c : Nat → Int} {ns : Nat → Nat} {z : Nat → Nat → Int} {n : Nat} (hc : cols ≤ 8) (h : rowsB cols d c ns z n = true) {k : Nat} (hk : k ≤ n) : (hkE cols d c ns z k).length ≤ 48 + 20000 * k := by
  induction k with
  | zero => simp only [hkE, castL_length]; omega
  | succ k ih =>
    have h1 := ih (by omega)
    have h2 := (rowB_fit (rowsB_all h k (by omega))).1
    have h3 := h2.rowE (c := c k) (d := d k) (Nat.le_refl (ns k))
    have h4 := h2.m8
    simp only [hkE, List.length_append]
    omega
theorem stL_len {cols : Nat} {d c : Nat → Int} {ns : Nat → Nat} {z : Nat → Nat → Int} {n : Nat} (h : rowsB cols d c ns z n = true) {k : Nat} (hk : k ≤ n) : (stL cols ns z k).length = stN cols ns z k := by
  cases k with
  | zero => simp [stL, stN]
  | succ k =>
    have h2 := (rowB_fit (rowsB_all h k (by omega))).1
    exact aft_length (s := stF cols ns z k) h2.hz (Nat.le_refl _)
theorem hk_rd {B : Nat} {w : World} {A : Option Addr} {n c : Nat} {e : TypeId} {L : List Int} (ho : w.ownsRow B e 1 (.slice A n c) n (ints L)) : Rd w A n (fun j => .int .i64 (L.getD j 0)) := fun h0 => by
  have hl : L.length = n := by have := ho.1; simp [ints] at this; omega
  rcases ho.2 with ⟨_, h1⟩ | ⟨g', cap, _, hg, _⟩
  · omega
  injection hg with hA _ hc
  subst hA
  refine ⟨g', 0, rfl, (ho.lt g' rfl).2, fun j hj => ?_⟩
  rw [Nat.zero_add, ho.cellAt j (by omega)]
  simp [ints, List.getD, show j < L.length by omega]
/-- Read as rows of six. -/
theorem hk_rd6 {B : Nat} {w : World} {A : Option Addr} {n c : Nat} {e : TypeId} {L : List Int} (ho : w.ownsRow B e 6 (.slice A n c) n (ints L)) : Rd w A (n * 6) (fun j => .int .i64 (L.getD j 0)) := fun h0 => by
  have hl : L.length = n * 6 := by have := ho.1; simpa [ints] using this
  rcases ho.2 with ⟨_, h1⟩ | ⟨g', cap, _, hg, _⟩
  · omega
  injection hg with hA _ hc
  subst hA
  refine ⟨g', 0, rfl, (ho.lt g' rfl).2, fun j hj => ?_⟩
  rw [Nat.zero_add, ho.cellAt j (by omega)]
  simp [ints, List.getD, show j < L.length by omega]
def hkN (cols : Int) (n : Nat) (d c : Nat → Int) (ns : Nat → Nat) (z : Nat → Nat → Int) : Nat := if chartB cols n d c ns z = true then (hkE cols.toNat d c ns z n).length / 6 else 0
def hkCode (cols : Int) (n : Nat) (d c : Nat → Int) (ns : Nat → Nat) (z : Nat → Nat → Int) : Int := if chartB cols n d c ns z = true then 0 else 1
/-- What both HandKnit return. -/
def HkR (cols : Int) (n : Nat) (d c : Nat → Int) (ns : Nat → Nat) (z : Nat → Nat → Int) (w : World) : Ending → World → Prop := NewP2 w (hkN cols n d c ns z) (hkN cols n d c ns z * 6) (fun j => .int .i64 ((hkE cols.toNat d c ns z n).getD j 0)) (hkCode cols n d c ns z)
theorem HkR.no {cols : Int} {n : Nat} {d c : Nat → Int} {ns : Nat → Nat} {z : Nat → Nat → Int} {w w' : World} (h : chartB cols n d c ns z = false) (hb : Below w.heap.size w w') : HkR cols n d c ns z w (.returned (.tuple #[.slice none 0 0, .int .i64 1])) w' := by
  have h1 : hkN cols n d c ns z = 0 := by simp [hkN, h]
  have h2 : hkCode cols n d c ns z = 1 := by simp [hkCode, h]
  unfold HkR
  rw [h1, h2]
  exact ⟨none, 0, rfl, New.none_ hb _⟩
theorem HkR.yes {cols : Int} {n nE : Nat} {d c : Nat → Int} {ns : Nat → Nat} {z : Nat → Nat → Int} {w w' : World} {v : Value} (h : chartB cols n d c ns z = true) (ho : w'.ownsRow w.heap.size 77 6 v nE (ints (hkE cols.toNat d c ns z n))) (hb : Below w.heap.size w w') : HkR cols n d c ns z w (.returned (.tuple #[v, .int .i64 0])) w' := by
  have hl : (hkE cols.toNat d c ns z n).length = nE * 6 := by have := ho.1; simpa [ints] using this
  have h1 : hkN cols n d c ns z = nE := by unfold hkN; rw [if_pos h, hl]; omega
  have h2 : hkCode cols n d c ns z = 0 := by simp [hkCode, h]
  unfold HkR
  rw [h1, h2]
  obtain ⟨A, c', rfl, hnew⟩ := New.of_own hb ho
  refine ⟨A, c', rfl, hnew.congr fun j hj => ?_⟩
  simp [ints, List.getD, show j < (hkE cols.toNat d c ns z n).length by omega]

end Go.Proofs.Ytacppheedleamaa

set_option linter.unusedVariables false
set_option linter.unusedSimpArgs false
namespace Go.Proofs.Ytacppheedleamaa
open Go.RowKit
set_option maxRecDepth 20000

set_option maxHeartbeats 4000000 in
theorem blockLetters_any (p : Int) (a b : Nat) (s : Int) (w : World) (hp : 0 ≤ p ∧ p ≤ 1000000000) (ha : a ≤ 1000) (hb : b ≤ 1000) (hs : s = 1 ∨ s = -1) :
    Calls Try.prog 115 #[.int .i64 p, .int .i64 a, .int .i64 b, .int .i64 s] w (NewPC w (b * a) (b * a) (fun j => .int .i64 ((letL s (plE p a b)).getD j 0))) := by
  obtain ⟨i0, hi, iz, is, ib⟩ := info_parts info64
  have HS := Lib.hid hs
  clear hs
  go_enter Try.func115, Try.ntmps115
  go_wp2
  go_loopg [9, 14] b (fun q v i wr => ∃ t : Nat, t ≤ b ∧ q + t = b ∧ i = .int .i64 t ∧ wr.ownsRow w.heap.size 2 1 v (t * a) (ints (letL s (plE p a t))) ∧ Below w.heap.size w wr)
  case atStart => exact ⟨0, Nat.zero_le _, rfl, rfl, by rw [Nat.zero_mul]; exact World.ownsRow_made _ #[] 0 (Nat.le_refl _) (by unfold maxLen; omega) rfl, (Below.refl _ _).alloc (Nat.le_refl _) _⟩
  case round =>
    obtain ⟨t, ht, hq, rfl, hown, hbl⟩ := hrel
    have HB := Lib.hid hbl
    have HOWN := Lib.hid hown
    clear hbl hown
    by_cases hlt : t < b
    · have hta : t * a ≤ 1000000 := Nat.le_trans (Nat.mul_le_mul (show t ≤ 1000 by omega) ha) (by omega)
      have HTA := Lib.hid (show (t + 1) * a = t * a + a from Nat.succ_mul t a)
      have HE := Lib.hid (show letL s (plE p a (t + 1)) = letL s (plE p a t) ++ letL s (plK p t a) by simp only [plE, letL_app])
      obtain ⟨N, hN⟩ : ∃ N, N = t * a := ⟨_, rfl⟩
      rw [← hN] at hta HOWN HTA
      have HNN := Lib.hid hN
      clear hN
      go_wp2_with fail
      go_loopg [9, 11] a (fun q2 v i wi => ∃ (r : Nat) (xs : List Int), r ≤ a ∧ q2 = r ∧ i = .int .i64 ((r : Int) - 1) ∧ wi.ownsRow w.heap.size 2 1 v (N + (a - r)) (ints xs) ∧ Hid (xs ++ letL s (plK p t r) = letL s (plE p a (t + 1))) ∧ Below w.heap.size w wi)
      case atStart => exact ⟨a, letL s (plE p a t), Nat.le_refl _, rfl, by go_num, by rw [Nat.sub_self, Nat.add_zero]; exact HOWN.out, Lib.hid HE.out.symm, HB.out⟩
      case round =>
        obtain ⟨r, xs, hr, hq2, rfl, hown2, HX, hbl2⟩ := hrel
        have HB2 := Lib.hid hbl2
        have HOWN2 := Lib.hid hown2
        clear hown2 hbl2
        by_cases hr0 : 0 < r
        · obtain ⟨r', rfl⟩ : ∃ r', r = r' + 1 := ⟨r - 1, by omega⟩
          have e1 : ((r' + 1 : Nat) : Int) - 1 = (r' : Int) := by omega
          rw [e1]
          have hV : ∃ V, V = s * (p + t + r' + 1) ∧ -2000000000 ≤ V ∧ V ≤ 2000000000 := ⟨_, rfl, by rcases HS.out with h | h <;> rw [h] <;> omega, by rcases HS.out with h | h <;> rw [h] <;> omega⟩
          obtain ⟨V, hV, hV1, hV2⟩ := hV
          have s1 : IntKind.i64.wrap (s * (p + t + r' + 1)) = V := by rw [← hV]; exact IntWalk.i64_in _ (by omega)
          have s2 : wrap64 (s * (p + t + r' + 1)) = V := (IntWalk.i64_left _).symm.trans s1
          have HV := Lib.hid hV
          clear hV
          go_wp2_with (at_builtin; go_must (refine wpList_app _ rfl (.tmp 23) (.tmp 32) _ rfl w.heap.size 2 i0 _ 1 8 Try.underlying38 hi iz is ib rfl (by omega) u9 (N + (a - (r' + 1))) (ints xs) rfl HOWN2.out _ 1 1 _ rfl rfl (by simp [Value.oneCell']) (by unfold maxLen; omega) (by omega) HB2.out.size ?_); intro v' w' hown' hb'; have HOWN' := Lib.hid hown'; have HB' := Lib.hid (HB2.out.trans hb'); clear hown' hb')
          go_wp2
          go_roundg r'
          case measure => omega
          case rel => exact ⟨r', xs ++ [V], by omega, rfl, by go_num, by have := HOWN'.out; rw [ints_app, show N + (a - r') = N + (a - (r' + 1)) + 1 by omega]; exact this, Lib.hid (by rw [List.append_assoc, HV.out]; exact HX.out), HB'.out⟩
        · obtain rfl : r = 0 := by omega
          go_wp2
          go_roundg (b - (t + 1))
          case measure => omega
          case rel => exact ⟨t + 1, by omega, by omega, by go_num, by have h1 := HX.out; simp only [plK, letL, List.map_nil, List.append_nil] at h1; have h2 := HOWN2.out; rw [h1] at h2; rw [HTA.out]; simpa [letL] using h2, HB2.out⟩
    · obtain rfl : b = t := by omega
      obtain ⟨A4, c4, rfl, hc4, hnew⟩ := New.of_own_c (w := w) HB.out HOWN.out
      have HN := Lib.hid hnew
      clear hnew
      go_wp2
      go_ret
      refine ⟨A4, c4, rfl, hc4, ?_⟩
      have := HN.out
      rw [Nat.mul_one] at this
      exact this.congr fun j hj => by rw [← ints_get (letL s (plE p a b)) (b * a) (by rw [letL_length, plE_length])]; simp [List.getD, hj]
theorem letL_get (s : Int) (l : List Int) {j : Nat} (hj : j < l.length) : (letL s l).getD j 0 = s * (l.getD j 0 + 1) := by
  simp [letL, List.getD, hj]
theorem crossL_take (s : Int) (l : List Int) {j : Nat} (hj : j < l.length) : crossL s (l.take (j + 1)) = crossL s (l.take j) ++ evL 1 (l.getD j 0) s 0 0 0 := by
  rw [List.take_succ_eq_append_getElem hj, crossL_app]
  simp [crossL, List.getD, hj]
set_option maxHeartbeats 1000000 in
theorem crossings_any (p : Int) (a b : Nat) (s : Int) (w : World) (hp : 0 ≤ p ∧ p ≤ 1000000000) (ha : a ≤ 100) (hb : b ≤ 100) :
    Calls Try.prog 114 #[.int .i64 p, .int .i64 a, .int .i64 b, .int .i64 s] w (OwnE w (b * a) (crossL s (plE p a b))) := by
  obtain ⟨i0, hi, iz, is, ib⟩ := info_parts infoEvent
  have hNab : b * a ≤ 10000 := Nat.le_trans (Nat.mul_le_mul hb ha) (by omega)
  have HPL := Lib.hid (plE_length p a b)
  have HPB := Lib.hid (fun x hx => plE_bounds (p := p) (a := a) (t := b) x hx)
  have HW0 := Lib.hid ((Below.refl w.heap.size w).alloc (Nat.le_refl _) (.cells #[] 77))
  have HO0 := Lib.hid (World.ownsRow_made (e := 77) (size := 6) w #[] 0 (Nat.le_refl _) (by unfold maxLen; omega) rfl)
  go_enter Try.func114, Try.ntmps114
  go_wp2_with fail
  refine (blockLetters_any p a b 1 _ hp (by omega) (by omega) (.inl rfl)).mono ?_
  rintro e w1 ⟨A1, c1, rfl, hc1, hn1⟩
  have HN1 := Lib.hid hn1
  have HB1 := Lib.hid (HW0.out.trans (hn1.bl.mono (by simp)))
  have HO1 := Lib.hid (own_below HO0.out hn1.bl)
  obtain ⟨N, hN⟩ : ∃ N, N = b * a := ⟨_, rfl⟩
  rw [← hN] at hNab HPL HN1 hc1 ⊢
  have HNN := Lib.hid hN
  clear hn1 hN
  go_wp2_with fail
  go_loopw [9, 18] (fun v x wr => ∃ k : Nat, k ≤ N ∧ x = .int .i64 k ∧ Hid (wr.ownsRow w.heap.size 77 6 v k (ints (crossL s ((plE p a b).take k)))) ∧ Hid (Rd wr A1 N (fun j => .int .i64 ((letL 1 (plE p a b)).getD j 0))) ∧ Hid (∀ q, v.ownBlock = some q → ¬ Fb A1 N q) ∧ Hid (∀ q, Fb A1 N q → q < wr.heap.size) ∧ Hid (Below w.heap.size w wr)) (fun _ x _ => N - (intOf x).toNat)
  case atStart => exact ⟨0, Nat.zero_le _, rfl, Lib.hid (by simp only [List.take_zero, crossL]; exact HO1.out), Lib.hid HN1.out.rd, Lib.hid (fun q hq hF => by
    injection hq with hq
    subst hq
    obtain ⟨_, ad, e, hb⟩ := hF
    have h1 := HN1.out.ab ad e
    have h2 : ad.block = w.heap.size := hb
    simp only [World.size_alloc] at h1
    omega), Lib.hid (fun q ⟨_, ad, e, hb⟩ => hb ▸ HN1.out.bb ad e), HB1⟩
  case round =>
    obtain ⟨k, hk, rfl, HO2, HR2, HD2, HF2, HB2⟩ := hrel
    by_cases hlt : k < N
    · obtain ⟨g4, o4, rfl, hg4, hr4⟩ := HR2.out (by omega)
      have hkl : k < (plE p a b).length := by rw [HPL.out]; exact hlt
      have c4 := hr4 k hlt
      simp only [letL_get 1 (plE p a b) hkl, Int.one_mul] at c4
      have hxb := HPB.out ((plE p a b).getD k 0) (by simp [List.getD, hkl])
      have HT := Lib.hid (crossL_take s (plE p a b) hkl)
      obtain ⟨y, hy⟩ : ∃ y, y = (plE p a b).getD k 0 := ⟨_, rfl⟩
      rw [← hy] at hxb HT
      simp only [← hy] at c4
      have b1 : (0 : Int) ≤ (k : Int) := by omega
      have b2 : (k : Int) < (N : Int) := by omega
      have e1 : y + 1 - 1 = y := by omega
      have HK4 := Lib.hid c4
      clear hr4 hy
      go_wp2_with (at_builtin; go_must (refine wpList_appGa wr rfl (.tmp 22) (.tmp 27) _ rfl w.heap.size 77 i0 _ 6 48 Try.underlying28 hi iz is ib rfl (by omega) u9 k _ rfl HO2.out _ 1 1 [.int .i64 1, .int .i64 y, .int .i64 s, .int .i64 0, .int .i64 0, .int .i64 0] rfl rfl (by simp [Value.oneCell']) (by unfold maxLen; omega) (by omega) HB2.out.size ?_); intro v' w' hown' hf' hat'; have HO3 := Lib.hid hown'; have HF3 := Lib.hid hf'; have HA3 := Lib.hid hat'; clear hown' hf' hat')
      go_roundw
      case rel => exact ⟨k + 1, by omega, by go_num, Lib.hid (by
        have h := HO3.out
        rw [HT.out, ints_app]
        exact h), Lib.hid ((rd_obj _ _ _).fr HR2.out HF3.out fun q hq e => HD2.out q e hq), Lib.hid (fun q hq hF => by
        rcases HA3.out with h | h
        · exact HD2.out q (h.symm.trans hq) hF
        · have := HF2.out q hF
          rw [hq] at h
          injection h with h
          omega), Lib.hid (fun q hq => Nat.lt_of_lt_of_le (HF2.out q hq) HF3.out.size), Lib.hid (HB2.out.trans (HF3.out.own HO2.out HB2.out.size))⟩
      case measure => simp [intOf] <;> omega
    · obtain rfl : N = k := by omega
      go_wp2
      go_ret
      refine ⟨_, rfl, ?_, HB2.out⟩
      have h := HO2.out
      have e : (plE p a b).take N = plE p a b := by rw [← HPL.out, List.take_length]
      rw [e] at h
      rw [← HNN.out]
      exact h
end Go.Proofs.Ytacppheedleamaa

set_option linter.unusedVariables false
set_option linter.unusedSimpArgs false
namespace Go.Proofs.Ytacppheedleamaa
open Go.RowKit
set_option maxRecDepth 20000

/-- 'append(s[:cap(s)], make(.., n)...)' on a nil s: n zeros in a new block. -/
theorem wpList_zeros6 {P : Program} (w : World) {ops : Array Oper} {rest : List Oper} {o : Oper} {a : Act} {Q : Exit → Act → World → Prop} (hgd : o.guard = none) (s x : Operand) (t tn : TypeId)
    (ho : o.op = .call { callee := .builtin .append, args := #[s, x], argTypes := #[t, tn] }) (e : TypeId) (i : TypeInfo) (z : Value) (size bytes : Nat) (ht : P.underlying t = some (.slice e)) (htn : P.underlying tn = some (.int .i64)) (hi : P.info? e = some i) (hz : i.zero = some z)
    (hsize : i.size = size) (hby : i.bytes = bytes) (hzs : z.cells.size = size) (hsz : 0 < size) (n : Nat) (h0 : 0 < n) (h63 : n ≤ maxLen) (hb : n * bytes ≤ 281474976710656)
    (hs : a.eval s = .slice none 0 0) (hx : a.eval x = .int .i64 n)
    (h : ∀ c w', (w'.ownsRow w.heap.size e size (.slice (some ⟨w.heap.size, 0, none⟩) 0 c) 0 []) → n ≤ c → Below w.heap.size w w' → w.heap.size < w'.heap.size → wpList P ops Q rest (a.put o.dst (.slice (some ⟨w.heap.size, 0, none⟩) n c)) w') :
    wpList P ops Q (o :: rest) a w := by
  subst hsize
  subst hby
  have hr := Lib.run_append_nil_zeros (P := P) w t tn o.type e i z .i64 .i64 ht htn hi hz n h0 hsz (by unfold maxLen at h63; omega) hb
  refine wpList_plain hgd fun K hK => ?_
  unfold Oper.wp execOp
  simp only [ho, resolve, invoke, builtin, Sem.run_bind, Sem.run_pure, Result.andThen_ok, List.map_toArray, List.map_cons, List.map_nil, hs, hx, hr]
  have hge := grownCap_ge w n 0 e
  have hle := grownCap_le_maxLen w n 0 e h63
  refine hK _ _ (h _ _ (World.ownsRow_made w.drew _ _ (Nat.le_refl _) hle ?_) hge ?_ ?_)
  · simp only [Array.size_append, size_zeroCells, hzs, ← Nat.add_mul]
    congr 1
    omega
  · exact (Below.refl _ _).drew.alloc (Nat.le_refl _) _
  · simp
/-- A new list of numbers. -/
def OwnI (w : World) (L : List Int) (e : Ending) (w' : World) : Prop := ∃ v, e = .returned v ∧ w'.ownsRow w.heap.size 2 1 v L.length (ints L) ∧ Below w.heap.size w w'
theorem growC_any (n : Nat) (w : World) (hn : n ≤ 4000) : Calls Try.prog 105 #[.slice none 0 0, .int .i64 n] w (OwnI w []) := by
  obtain ⟨i0, hi, iz, is, ib⟩ := info_parts info64
  by_cases h0 : 0 < n
  · go_enter Try.func105, Try.ntmps105
    go_wp2_with (at_builtin; go_must (refine wpList_zeros6 _ rfl (.tmp 20) (.tmp 21) _ _ rfl 2 i0 _ 1 8 Try.underlying38 Try.underlying3 hi iz is ib rfl (by omega) n h0 (by unfold maxLen; omega) (by omega) rfl rfl ?_); intro c w' hown hc hb hlt)
    go_ret
    exact ⟨_, rfl, hown, hb⟩
  · obtain rfl : n = 0 := by omega
    go_enter Try.func105, Try.ntmps105
    go_wp2_with fail
    go_ret
    exact ⟨_, rfl, World.ownsRow_nil _ _ _ _, Below.refl _ _⟩
theorem cloneC_any (A : Option Addr) (c : Nat) (L : List Int) (w : World) (hr : Rd w A L.length (fun j => .int .i64 (L.getD j 0))) (hA : A = none → c = 0) (hn : L.length ≤ 1048576) : Calls Try.prog 100 #[.slice A L.length c] w (OwnI w L) := by
  obtain ⟨i0, hi, iz, is, ib⟩ := info_parts info64
  have hb0 : Below w.heap.size w (w.alloc (.cells #[] 2)) := (Below.refl _ _).alloc (Nat.le_refl _) _
  have HR := Lib.hid (hr.below hb0)
  have HO := Lib.hid (World.ownsRow_made (e := 2) (size := 1) w #[] 0 (Nat.le_refl _) (by unfold maxLen; omega) rfl)
  have HB := Lib.hid hb0
  have HR0 := Lib.hid hr
  clear hr hb0
  cases A with
  | none =>
    have hn0 : L = [] := by
      rcases L with _ | ⟨x, L⟩
      · rfl
      · obtain ⟨_, _, e, _⟩ := HR0.out (by simp)
        cases e
    subst hn0
    obtain rfl := hA rfl
    have hq : ∀ w, (binOp .eql 38 (.slice none 0 0) (.slice none 0 0)).run Try.prog w = .ok (.bool true) w := fun w => Lib.run_eql_slice_nil w _ _ none 0 0 0 0 Try.underlying38
    go_enter Try.func100, Try.ntmps100
    go_wp2_with fail
    go_ret
    exact ⟨_, rfl, World.ownsRow_nil _ _ _ _, Below.refl _ _⟩
  | some p =>
    obtain ⟨n, hN⟩ : ∃ n, n = L.length := ⟨_, rfl⟩
    rw [← hN] at hn HR ⊢
    have HL := Lib.hid hN
    clear hN hA HR0
    have hq : ∀ w, (binOp .eql 38 (.slice (some p) n c) (.slice none 0 0)).run Try.prog w = .ok (.bool false) w := fun w => Lib.run_eql_slice_nil w _ _ (some p) n c 0 0 Try.underlying38
    go_enter Try.func100, Try.ntmps100
    go_wp2_with (at_builtin; go_must (refine wpList_appR (w.alloc (.cells #[] 2)) rfl (.tmp 5) (.tmp 6) _ rfl w.heap.size 2 i0 _ 1 8 Try.underlying38 hi iz is ib rfl (by omega) _ 0 [] rfl HO.out (some p) n c (fun j => .int .i64 (L.getD j 0)) rfl (by rw [Nat.mul_one]; exact HR.out) (fun j => rfl) (by unfold maxLen; omega) (by omega) (by simp) ?_); intro v' w' hown' hfr; have HOWN' := Lib.hid hown'; have HFR := Lib.hid hfr; clear hown' hfr)
    go_ret
    have ho := HOWN'.out
    rw [Nat.zero_add, List.nil_append, Nat.mul_one, ints_get L n HL.out.symm] at ho
    exact ⟨_, rfl, by rw [← HL.out]; exact ho, HB.out.trans (HFR.out.own HO.out (by simp))⟩
theorem catC_length_mono (C : Nat → List Int) {i q : Nat} (h : i ≤ q) : (catC C i).length ≤ (catC C q).length := by
  induction q with
  | zero => obtain rfl : i = 0 := (by omega); exact Nat.le_refl _
  | succ q ih =>
    by_cases hi : i = q + 1
    · rw [hi]; exact Nat.le_refl _
    · have := ih (by omega)
      simp only [catC, List.length_append]
      omega
set_option maxHeartbeats 1000000 in
theorem concatC_any (g q cp : Nat) (C : Nat → List Int) (w : World) (hU : ∀ i, i < q → ∃ A c, w.cell? ⟨g, i, none⟩ = some (.slice A (C i).length c) ∧ Rd w A (C i).length (fun j => .int .i64 ((C i).getD j 0))) (hg : g < w.heap.size) (hN : (catC C q).length ≤ 4000) (hq : q ≤ 1000) :
    Calls Try.prog 69 #[.slice (some ⟨g, 0, none⟩) q cp] w (OwnI w (catC C q)) := by
  obtain ⟨i0, hi, iz, is, ib⟩ := info_parts info64
  have HU := Lib.hid hU
  clear hU
  go_enter Try.func69, Try.ntmps69
  go_wp2_with fail
  go_loop [3, 11] (fun s i => ∃ k : Nat, k ≤ q ∧ i = .int .i64 k ∧ s = .int .i64 ((catC C k).length : Nat)) (fun _ i => q - (intOf i).toNat)
  case atStart => exact ⟨0, by omega, rfl, rfl⟩
  case round =>
    obtain ⟨k, hk, rfl, rfl⟩ := hrel
    have hm := catC_length_mono C hk
    by_cases hlt : k < q
    · obtain ⟨A, c, hc, _⟩ := HU.out k hlt
      have hm2 := catC_length_mono C (show k + 1 ≤ q from hlt)
      have hl : (catC C (k + 1)).length = (catC C k).length + (C k).length := by simp [catC]
      have HL := Lib.hid hl
      rw [hl] at hm2
      obtain ⟨X, hX⟩ : ∃ X, X = (catC C k).length := ⟨_, rfl⟩
      obtain ⟨Y, hY⟩ : ∃ Y, Y = (C k).length := ⟨_, rfl⟩
      rw [← hX, ← hY] at HL hm2
      rw [← hX] at hm ⊢
      rw [← hY] at hc
      have b1 : (0 : Int) ≤ (k : Int) := by omega
      have b2 : (k : Int) < (q : Int) := by omega
      clear hl hX hY
      go_wp2_with fail
      go_round
      case rel => exact ⟨k + 1, by omega, by go_num, i64c (by rw [HL.out]; omega)⟩
      case measure => simp [intOf] <;> omega
    · obtain rfl : q = k := by omega
      go_wp2_with fail
      refine (growC_any (catC C q).length _ hN).mono ?_
      rintro e w1 ⟨v1, rfl, ho1, hb1⟩
      have HO1 := Lib.hid ho1
      have HB1 := Lib.hid hb1
      clear ho1 hb1
      go_wp2_with fail
      go_loopw [6, 27] (fun v i wr => ∃ k : Nat, k ≤ q ∧ i = .int .i64 k ∧ Hid (wr.ownsRow w.heap.size 2 1 v (catC C k).length (ints (catC C k))) ∧ Hid (Below w.heap.size w wr)) (fun _ i _ => q - (intOf i).toNat)
      case atStart => exact ⟨0, by omega, rfl, HO1, HB1⟩
      case round =>
        obtain ⟨k, hk, rfl, HO2, HB2⟩ := hrel
        by_cases hlt : k < q
        · obtain ⟨A, c, hc, hrd⟩ := HU.out k hlt
          have k0 := at_below HB2.out hg hc
          have HRD := Lib.hid (hrd.below HB2.out)
          have hm2 := catC_length_mono C (show k + 1 ≤ q from hlt)
          have hl : (catC C (k + 1)).length = (catC C k).length + (C k).length := by simp [catC]
          have HL := Lib.hid hl
          have HC := Lib.hid (show catC C (k + 1) = catC C k ++ C k from rfl)
          rw [hl] at hm2
          have b1 : (0 : Int) ≤ (k : Int) := by omega
          have b2 : (k : Int) < (q : Int) := by omega
          clear hl hc hrd
          go_wp2_with (at_builtin; go_must (refine wpList_appR wr rfl (.tmp 31) (.tmp 32) _ rfl w.heap.size 2 i0 _ 1 8 Try.underlying38 hi iz is ib rfl (by omega) u6 _ _ rfl HO2.out A (C k).length c (fun j => .int .i64 ((C k).getD j 0)) rfl (by rw [Nat.mul_one]; exact HRD.out) (fun j => rfl) (by unfold maxLen; omega) (by omega) HB2.out.size ?_); intro v' w' hown' hfr; have HO3 := Lib.hid hown'; have HB3 := Lib.hid (HB2.out.trans (hfr.own HO2.out HB2.out.size)); clear hown' hfr)
          go_roundw
          case rel => exact ⟨k + 1, by omega, by go_num, Lib.hid (by
            have h := HO3.out
            rw [Nat.mul_one, ints_get _ _ rfl, ← ints_app, ← HC.out, ← HL.out] at h
            exact h), HB3⟩
          case measure => simp [intOf] <;> omega
        · obtain rfl : q = k := by omega
          go_wp2
          go_ret
          exact ⟨_, rfl, HO2.out, HB2.out⟩
end Go.Proofs.Ytacppheedleamaa

set_option linter.unusedVariables false
set_option linter.unusedSimpArgs false
namespace Go.Proofs.Ytacppheedleamaa
open Go.RowKit
set_option maxRecDepth 20000

/-- The hand's block in the program: the row, the columns, the events. -/
def mkI (d c : Int) (A : Option Addr) (m qq : Nat) (ev cl : Value) : Array Value := #[.int .i64 d, .int .i64 c, .slice A m qq, cl, ev]
section
variable [Inhabited HKeepT] {B g : Nat} {tg : Nat → Nat} {ev cl : Value} {n q : Nat} {E : List Int} {U : Nat → Value} {C : Nat → List Int} {w : World} {d c : Int} {A : Option Addr} {m qq : Nat}
/-- An event was added: the columns are where they were. -/
def HkAP (T : TypeId) (mk : Value → Value → Array Value) (B g : Nat) (cl : Value) (q : Nat) (E : List Int) (U : Nat → Value) (C : Nat → List Int) (w : World) (e : Ending) (w' : World) : Prop := e = .returned (.tuple #[]) ∧ (∃ tg ev n, HkS T mk B g tg ev cl n q E U C w') ∧ Below B w w'
set_option maxHeartbeats 4000000 in
theorem implAddS_any (k p x b : Int) (H : HkS 101 (mkI d c A m qq) B g tg ev cl n q E U C w) (hB : B ≤ w.heap.size) (hn : n ≤ 1048576) :
    Calls Try.prog 104 #[.pointer (some ⟨g, 0, none⟩), .int .i64 k, .int .i64 p, .int .i64 x, .int .i64 b] w (HkAP 101 (mkI d c A m qq) B g cl q (E ++ evL k p x b c d) U C w) := by
  obtain ⟨i0, hi, iz, is, ib⟩ := info_parts infoEvent
  obtain ⟨Ae, ce, rfl⟩ := own_form H.e
  have m0 : w.cell? ⟨g, 4, none⟩ = some (.slice Ae n ce) := H.b.cell 4
  have f0 : w.frozen? ⟨g, 4, none⟩ = false := H.b.frozen 4
  have r0 : w.cell? ⟨g, 0, none⟩ = some (.int .i64 d) := H.b.cell 0
  have r1 : w.cell? ⟨g, 1, none⟩ = some (.int .i64 c) := H.b.cell 1
  have HH := Lib.hid H
  clear H
  go_enter Try.func104, Try.ntmps104
  go_wp2_with fail
  refine wp_region_lastL (S := fun w' => w'.cell? ⟨g, 4, none⟩ = some (.slice Ae n ce) ∧ w'.cell? ⟨g, 0, none⟩ = some (.int .i64 d) ∧ w'.cell? ⟨g, 1, none⟩ = some (.int .i64 c)) _ (by simp) (by kernel_rfl) (by kernel_rfl) ⟨m0, r0, r1⟩ (fun hHeld => ?_)
  simp only [List.dropLast, List.getLast_cons_cons, List.getLast_singleton, List.length_cons, List.length_nil]
  refine wpAnyH_take (i := 0) (v := ?_) rfl (by kernel_rfl) (by kernel_rfl) (by kernel_rfl) (fun _ _ _ h => h) (Or.inl ⟨by rfl, ?_⟩) hHeld ?_
  rotate_left
  · (intro w0 hSw; (try dsimp only at hSw); go_simp <;> with_reducible rfl)
  simp only [List.getElem_toArray, List.getElem_cons_succ, List.getElem_cons_zero, Act.put, List.setIfInBounds_toArray, List.set_cons_zero, List.set_cons_succ]
  refine wpAnyH_take (i := 1) (v := ?_) rfl (by kernel_rfl) (by kernel_rfl) (by kernel_rfl) (fun _ _ _ h => h) (Or.inl ⟨by rfl, ?_⟩) hHeld ?_
  rotate_left
  · (intro w0 hSw; (try dsimp only at hSw); go_simp <;> with_reducible rfl)
  simp only [List.getElem_toArray, List.getElem_cons_succ, List.getElem_cons_zero, Act.put, List.setIfInBounds_toArray, List.set_cons_zero, List.set_cons_succ]
  refine wpAnyH_take (i := 2) (v := ?_) rfl (by kernel_rfl) (by kernel_rfl) (by kernel_rfl) (fun _ _ _ h => h) (Or.inl ⟨by rfl, ?_⟩) hHeld ?_
  rotate_left
  · (intro w0 hSw; (try dsimp only at hSw); go_simp <;> with_reducible rfl)
  simp only [List.getElem_toArray, List.getElem_cons_succ, List.getElem_cons_zero, Act.put, List.setIfInBounds_toArray, List.set_cons_zero, List.set_cons_succ]
  refine wpAnyH_take (i := 3) (v := ?_) rfl (by kernel_rfl) (by kernel_rfl) (by kernel_rfl) (fun _ _ _ h => h) (Or.inl ⟨by rfl, ?_⟩) hHeld ?_
  rotate_left
  · (intro w0 hSw; (try dsimp only at hSw); go_simp <;> with_reducible rfl)
  simp only [List.getElem_toArray, List.getElem_cons_succ, List.getElem_cons_zero, Act.put, List.setIfInBounds_toArray, List.set_cons_zero, List.set_cons_succ]
  refine wpAnyH_take (i := 4) (v := ?_) rfl (by kernel_rfl) (by kernel_rfl) (by kernel_rfl) (fun _ _ _ h => h) (Or.inl ⟨by rfl, ?_⟩) hHeld ?_
  rotate_left
  · (intro w0 hSw; (try dsimp only at hSw); go_simp <;> with_reducible rfl)
  simp only [List.getElem_toArray, List.getElem_cons_succ, List.getElem_cons_zero, Act.put, List.setIfInBounds_toArray, List.set_cons_zero, List.set_cons_succ]
  refine wpAnyH_take (i := 5) (v := ?_) rfl (by kernel_rfl) (by kernel_rfl) (by kernel_rfl) (fun _ _ _ h => h) (Or.inl ⟨by rfl, ?_⟩) hHeld ?_
  rotate_left
  · (intro w0 hSw; (try dsimp only at hSw); go_simp <;> with_reducible rfl)
  simp only [List.getElem_toArray, List.getElem_cons_succ, List.getElem_cons_zero, Act.put, List.setIfInBounds_toArray, List.set_cons_zero, List.set_cons_succ]
  refine wpAnyH_take (i := 6) (v := ?_) rfl (by kernel_rfl) (by kernel_rfl) (by kernel_rfl) (fun _ _ _ h => h) (Or.inl ⟨by rfl, ?_⟩) hHeld ?_
  rotate_left
  · (intro w0 hSw; (try dsimp only at hSw); go_simp <;> with_reducible rfl)
  simp only [List.getElem_toArray, List.getElem_cons_succ, List.getElem_cons_zero, Act.put, List.setIfInBounds_toArray, List.set_cons_zero, List.set_cons_succ]
  refine wpAnyH_take (i := 7) (v := ?_) rfl (by kernel_rfl) (by kernel_rfl) (by kernel_rfl) (fun _ _ _ h => h) (Or.inl ⟨by rfl, ?_⟩) hHeld ?_
  rotate_left
  · (intro w0 hSw; (try dsimp only at hSw); go_simp <;> with_reducible rfl)
  simp only [List.getElem_toArray, List.getElem_cons_succ, List.getElem_cons_zero, Act.put, List.setIfInBounds_toArray, List.set_cons_zero, List.set_cons_succ]
  refine wpAnyH_take (i := 8) (v := ?_) rfl (by kernel_rfl) (by kernel_rfl) (by kernel_rfl) (fun _ _ _ h => h) (Or.inl ⟨by rfl, ?_⟩) hHeld ?_
  rotate_left
  · (intro w0 hSw; (try dsimp only at hSw); go_simp <;> with_reducible rfl)
  simp only [List.getElem_toArray, List.getElem_cons_succ, List.getElem_cons_zero, Act.put, List.setIfInBounds_toArray, List.set_cons_zero, List.set_cons_succ]
  refine wpAnyH_take (i := 9) (v := ?_) rfl (by kernel_rfl) (by kernel_rfl) (by kernel_rfl) (fun _ _ _ h => h) (Or.inl ⟨by rfl, ?_⟩) hHeld ?_
  rotate_left
  · (intro w0 hSw; (try dsimp only at hSw); go_simp <;> with_reducible rfl)
  simp only [List.getElem_toArray, List.getElem_cons_succ, List.getElem_cons_zero, Act.put, List.setIfInBounds_toArray, List.set_cons_zero, List.set_cons_succ]
  refine wpAnyH_take (i := 10) (v := ?_) rfl (by kernel_rfl) (by kernel_rfl) (by kernel_rfl) (fun _ _ _ h => h) (Or.inl ⟨by rfl, ?_⟩) hHeld ?_
  rotate_left
  · (intro w0 hSw; (try dsimp only at hSw); go_simp <;> with_reducible rfl)
  simp only [List.getElem_toArray, List.getElem_cons_succ, List.getElem_cons_zero, Act.put, List.setIfInBounds_toArray, List.set_cons_zero, List.set_cons_succ]
  refine wpAnyH_take (i := 11) (v := ?_) rfl (by kernel_rfl) (by kernel_rfl) (by kernel_rfl) (fun _ _ _ h => h) (Or.inl ⟨by rfl, ?_⟩) hHeld ?_
  rotate_left
  · (intro w0 hSw; (try dsimp only at hSw); go_simp <;> with_reducible rfl)
  simp only [List.getElem_toArray, List.getElem_cons_succ, List.getElem_cons_zero, Act.put, List.setIfInBounds_toArray, List.set_cons_zero, List.set_cons_succ]
  refine wpAnyH_take (i := 12) (v := ?_) rfl (by kernel_rfl) (by kernel_rfl) (by kernel_rfl) (fun _ _ _ h => h) (Or.inl ⟨by rfl, ?_⟩) hHeld ?_
  rotate_left
  · (intro w0 hSw; (try dsimp only at hSw); go_simp <;> with_reducible rfl)
  simp only [List.getElem_toArray, List.getElem_cons_succ, List.getElem_cons_zero, Act.put, List.setIfInBounds_toArray, List.set_cons_zero, List.set_cons_succ]
  refine wpAnyH_take (i := 13) (v := ?_) rfl (by kernel_rfl) (by kernel_rfl) (by kernel_rfl) (fun _ _ _ h => h) (Or.inl ⟨by rfl, ?_⟩) hHeld ?_
  rotate_left
  · (intro w0 hSw; (try dsimp only at hSw); go_simp <;> with_reducible rfl)
  simp only [List.getElem_toArray, List.getElem_cons_succ, List.getElem_cons_zero, Act.put, List.setIfInBounds_toArray, List.set_cons_zero, List.set_cons_succ]
  refine wpAnyH_take (i := 14) (v := ?_) rfl (by kernel_rfl) (by kernel_rfl) (by kernel_rfl) (fun _ _ _ h => h) (Or.inl ⟨by rfl, ?_⟩) hHeld ?_
  rotate_left
  · (intro w0 hSw; (try dsimp only at hSw); go_simp <;> with_reducible rfl)
  simp only [List.getElem_toArray, List.getElem_cons_succ, List.getElem_cons_zero, Act.put, List.setIfInBounds_toArray, List.set_cons_zero, List.set_cons_succ]
  refine wpAnyH_take (i := 15) (v := ?_) rfl (by kernel_rfl) (by kernel_rfl) (by kernel_rfl) (fun _ _ _ h => h) (Or.inl ⟨by rfl, ?_⟩) hHeld ?_
  rotate_left
  · (intro w0 hSw; (try dsimp only at hSw); go_simp <;> with_reducible rfl)
  simp only [List.getElem_toArray, List.getElem_cons_succ, List.getElem_cons_zero, Act.put, List.setIfInBounds_toArray, List.set_cons_zero, List.set_cons_succ]
  refine wpAnyH_take (i := 16) (v := ?_) rfl (by kernel_rfl) (by kernel_rfl) (by kernel_rfl) (fun _ _ _ h => h) (Or.inl ⟨by rfl, ?_⟩) hHeld ?_
  rotate_left
  · (intro w0 hSw; (try dsimp only at hSw); go_simp <;> with_reducible rfl)
  simp only [List.getElem_toArray, List.getElem_cons_succ, List.getElem_cons_zero, Act.put, List.setIfInBounds_toArray, List.set_cons_zero, List.set_cons_succ]
  refine wpAnyH_take (i := 17) (v := ?_) rfl (by kernel_rfl) (by kernel_rfl) (by kernel_rfl) (fun _ _ _ h => h) (Or.inl ⟨by rfl, ?_⟩) hHeld ?_
  rotate_left
  · (intro w0 hSw; (try dsimp only at hSw); go_simp <;> with_reducible rfl)
  simp only [List.getElem_toArray, List.getElem_cons_succ, List.getElem_cons_zero, Act.put, List.setIfInBounds_toArray, List.set_cons_zero, List.set_cons_succ]
  refine wpAnyH_take (i := 18) (v := ?_) rfl (by kernel_rfl) (by kernel_rfl) (by kernel_rfl) (fun _ _ _ h => h) (Or.inl ⟨by rfl, ?_⟩) hHeld ?_
  rotate_left
  · (intro w0 hSw; (try dsimp only at hSw); go_simp <;> with_reducible rfl)
  simp only [List.getElem_toArray, List.getElem_cons_succ, List.getElem_cons_zero, Act.put, List.setIfInBounds_toArray, List.set_cons_zero, List.set_cons_succ]
  refine wpAnyH_take (i := 19) (v := ?_) rfl (by kernel_rfl) (by kernel_rfl) (by kernel_rfl) (fun _ _ _ h => h) (Or.inl ⟨by rfl, ?_⟩) hHeld ?_
  rotate_left
  · (intro w0 hSw; (try dsimp only at hSw); go_simp <;> with_reducible rfl)
  simp only [List.getElem_toArray, List.getElem_cons_succ, List.getElem_cons_zero, Act.put, List.setIfInBounds_toArray, List.set_cons_zero, List.set_cons_succ]
  refine wpAnyH_ready (rs := [20]) (by kernel_rfl) (by simp) ?_
  refine AllReadyH.cons rfl (fun K hK => ?_) AllReadyH.nil
  simp only [List.getElem_toArray, List.getElem_cons_succ, List.getElem_cons_zero]
  go_simp
  refine hK.out _ _ (by go_keep) (fun hHeld2 => ?_)
  clear hK K hHeld
  refine wpAnyH_ready (rs := [21]) (by kernel_rfl) (by simp) ?_
  refine AllReadyH.cons rfl (fun K hK => ?_) AllReadyH.nil
  simp only [List.getElem_toArray, List.getElem_cons_succ, List.getElem_cons_zero]
  refine step_appGb w.drew (by rfl) (.tmp 14) (.tmp 30) _ (by rfl) B 77 i0 _ 6 48 Try.underlying28 hi iz is ib rfl (by omega) (.slice Ae n ce) n (ints E) (by rfl) HH.out.e _ 1 1 [.int .i64 k, .int .i64 p, .int .i64 x, .int .i64 b, .int .i64 c, .int .i64 d] (by rfl) rfl (by simp [Value.oneCell']) (by unfold maxLen; omega) (by omega) hB ?_
  intro v2 w2 hown2 hfr2 hat2
  obtain ⟨A2, c2, rfl⟩ := own_form hown2
  have hob : ∀ b, (Value.slice Ae n ce).ownBlock = some b → tg b = 2 := HH.out.te
  have hgn : ¬ (Value.slice Ae n ce).ownBlock = some g := fun e => by have := hob _ e; have := HH.out.tb; omega
  have hlg := World.block_lt_of_cell? w _ m0
  have k2m := (hfr2.cells hlg hgn 4).trans m0
  have k2r0 := (hfr2.cells hlg hgn 0).trans r0
  have k2r1 := (hfr2.cells hlg hgn 1).trans r1
  have k2f : w2.frozen? ⟨g, 4, none⟩ = false := (World.frozen?_of_block (w := w.drew) (a := ⟨g, 4, none⟩) (hfr2.block g hlg hgn)).trans f0
  refine hK.out _ _ ⟨k2m, k2r0, k2r1⟩ (fun hHeld3 => ?_)
  clear hK K hHeld2
  have hfree : HFree tg (.slice A2 (n + 1) c2) 2 := fun b hb => by
    rcases hat2 with h | h
    · exact .inr (hob b (h.symm.trans hb))
    · refine .inl (Decidable.byContradiction fun hne => ?_)
      have h1 := HH.out.lt b hne
      rw [hb] at h
      injection h with h
      have h2 : w.drew.heap.size = w.heap.size := rfl
      omega
  have hown3 : w2.ownsRow B 77 6 (.slice A2 (n + 1) c2) (n + 1) (ints (E ++ evL k p x b c d)) := by rw [ints_app]; exact hown2
  have HM := Lib.hid (HH.out.putE (w' := w2) (fun b h0 h2 => hfr2.block b (HH.out.lt b h0) fun e => h2 (hob b e)) hfr2.size hown3 hfree (o := 4) rfl)
  have HBL := Lib.hid (Below.setCell (p := ⟨g, 4, none⟩) (Below.trans ((Below.refl B w).drew) (hfr2.own (w := w.drew) HH.out.e hB)) HH.out.lo (.slice A2 (n + 1) c2))
  clear hob hgn hlg m0 r0 r1 f0 hfree hfr2 hown2 hat2 hown3
  refine wpAnyH_take (i := 22) (v := ?_) rfl (by kernel_rfl) (by kernel_rfl) (by kernel_rfl) (fun _ _ _ h => h) (Or.inl ⟨by rfl, ?_⟩) hHeld3 ?_
  rotate_left
  · (intro w0 hSw; (try dsimp only at hSw); go_simp <;> with_reducible rfl)
  simp only [List.getElem_toArray, List.getElem_cons_succ, List.getElem_cons_zero, Act.put, List.setIfInBounds_toArray, List.set_cons_zero, List.set_cons_succ]
  refine wpAnyH_take (i := 23) (v := ?_) rfl (by kernel_rfl) (by kernel_rfl) (by kernel_rfl) (fun _ _ _ h => h) (Or.inl ⟨by rfl, ?_⟩) hHeld3 ?_
  rotate_left
  · (intro w0 hSw; (try dsimp only at hSw); go_simp <;> with_reducible rfl)
  simp only [List.getElem_toArray, List.getElem_cons_succ, List.getElem_cons_zero, Act.put, List.setIfInBounds_toArray, List.set_cons_zero, List.set_cons_succ]
  refine wpAnyH_done (by kernel_rfl) ?_ _
  refine LastPost.of ?_
  go_simp
  clear hHeld3 k2m k2r0 k2r1 k2f
  go_wp2_with fail
  go_end0
  exact ⟨rfl, ⟨_, _, _, HM.out⟩, HBL.out⟩
theorem implAdd_any (k p x b : Int) (H : HkS 101 (mkI d c A m qq) B g tg ev cl n q E U C w) (hB : B ≤ w.heap.size) (hn : n ≤ 1048576) :
    Calls Try.prog 104 #[.pointer (some ⟨g, 0, none⟩), .int .i64 k, .int .i64 p, .int .i64 x, .int .i64 b] w (HkP 101 (mkI d c A m qq) B g q (E ++ evL k p x b c d) C w) :=
  (implAddS_any k p x b H hB hn).mono fun _ _ ⟨h1, ⟨_, _, _, h2⟩, h3⟩ => ⟨h1, ⟨_, _, _, _, _, h2⟩, h3⟩
end
end Go.Proofs.Ytacppheedleamaa

set_option linter.unusedVariables false
set_option linter.unusedSimpArgs false
namespace Go.Proofs.Ytacppheedleamaa
open Go.RowKit

/-- What is kept already, and a list of numbers in a block of its own. -/
@[reducible] def ownKeep (K0 : Inhabited HKeepT) (B : Nat) (v : Value) (n : Nat) (L : List Int) : Inhabited HKeepT :=
  ⟨⟨fun w => K0.default.P w ∧ w.ownsRow B 2 1 v n (ints L) ∧ ∀ b, K0.default.F b → ¬ v.ownBlock = some b, fun b => K0.default.F b ∨ v.ownBlock = some b, fun _ _ h hF => ⟨HKeepT.loc _ _ _ h.1 fun b hb => hF b (.inl hb), hown_blk h.2.1 fun b hb => hF b (.inr hb), h.2.2⟩⟩⟩
section
variable {T : TypeId} {mk : Value → Value → Array Value} {B g q : Nat} {E : List Int} {C : Nat → List Int} {w w' : World} {v : Value} {n : Nat} {L L' : List Int}
/-- The hand's parts where the tags are turned. -/
theorem HkS.turn (K K' : Inhabited HKeepT) {tg tg' : Nat → Nat} {ev cl : Value} {nE : Nat} {U : Nat → Value} (h : @HkS K T mk B g tg ev cl nE q E U C w) (hz : w.heap.size ≤ w'.heap.size) (hk : ∀ b, tg b ≠ 0 → ¬ K.default.F b → w'.heap[b]? = w.heap[b]?) (ht : ∀ b, tg b ≠ 0 → ¬ K.default.F b → tg' b = tg b) (hlt : ∀ b, tg' b ≠ 0 → b < w'.heap.size) (hP : K'.default.P w') (hF : ∀ b, K'.default.F b → tg' b = 1 ∧ b ≠ g) : @HkS K' T mk B g tg' ev cl nE q E U C w' := by
  have hkf := @HkS.kf K _ _ _ _ _ _ _ _ _ _ _ _ _ h
  have htb := @HkS.tb K _ _ _ _ _ _ _ _ _ _ _ _ _ h
  have hte := @HkS.te K _ _ _ _ _ _ _ _ _ _ _ _ _ h
  have htc := @HkS.tc K _ _ _ _ _ _ _ _ _ _ _ _ _ h
  have hu := @HkS.u K _ _ _ _ _ _ _ _ _ _ _ _ _ h
  have nF : ∀ b, tg b ≠ 1 → ¬ K.default.F b := fun b h1 h2 => h1 (hkf b h2).1
  have gF : ¬ K.default.F g := fun h2 => (hkf g h2).2 rfl
  refine @HkS.mk K' _ _ _ _ _ _ _ _ _ _ _ _ _ ((hk g (by omega) gF).trans (@HkS.b K _ _ _ _ _ _ _ _ _ _ _ _ _ h)) (hown_blk (@HkS.e K _ _ _ _ _ _ _ _ _ _ _ _ _ h) fun b hb => hk b (by rw [hte b hb]; omega) (nF b (by rw [hte b hb]; omega))) (hown_blk (@HkS.c K _ _ _ _ _ _ _ _ _ _ _ _ _ h) fun b hb => hk b (by rw [htc b hb]; omega) (nF b (by rw [htc b hb]; omega))) (fun i hi => ?_) ((ht g (by omega) gF).trans htb) (fun b hb => (ht b (by rw [hte b hb]; omega) (nF b (by rw [hte b hb]; omega))).trans (hte b hb)) (fun b hb => (ht b (by rw [htc b hb]; omega) (nF b (by rw [htc b hb]; omega))).trans (htc b hb)) hlt (@HkS.lo K _ _ _ _ _ _ _ _ _ _ _ _ _ h) hP hF
  rcases hu i hi with h1 | ⟨h1, h2⟩
  · exact .inl h1
  · exact .inr ⟨hown_blk h1 fun b hb => hk b (by rw [h2 b hb]; omega) (nF b (by rw [h2 b hb]; omega)), fun b hb => (ht b (by rw [h2 b hb]; omega) (nF b (by rw [h2 b hb]; omega))).trans (h2 b hb)⟩
open Classical in
theorem HkM.keepOwn (K0 : Inhabited HKeepT) (h : @HkM K0 T mk B g q E C w) (hb : Below w.heap.size w w') (ho : w'.ownsRow w.heap.size 2 1 v n (ints L)) (hB : B ≤ w.heap.size) : @HkM (ownKeep K0 B v n L) T mk B g q E C w' := by
  obtain ⟨tg, ev, cl, nE, U, H⟩ := h
  have hlt := @HkS.lt K0 _ _ _ _ _ _ _ _ _ _ _ _ _ H
  have hkf := @HkS.kf K0 _ _ _ _ _ _ _ _ _ _ _ _ _ H
  have hP := @HkS.k K0 _ _ _ _ _ _ _ _ _ _ _ _ _ H
  have htb := @HkS.tb K0 _ _ _ _ _ _ _ _ _ _ _ _ _ H
  have hF : ∀ b, K0.default.F b → b < w.heap.size := fun b hb => hlt b (by rw [(hkf b hb).1]; omega)
  have hv : ∀ b, v.ownBlock = some b → w.heap.size ≤ b ∧ b < w'.heap.size := fun b hb => ho.lt b hb
  have hg : g < w.heap.size := hlt g (by omega)
  have hold : ∀ b, b < w.heap.size → (if v.ownBlock = some b then 1 else tg b) = tg b := fun b hb => if_neg fun e => by have := (hv b e).1; omega
  have hs := hb.size
  -- all but the new list: as before
  have hnew : @HkS (ownKeep K0 B v n L) T mk B g (fun b => if v.ownBlock = some b then 1 else tg b) ev cl nE q E U C w' := by
    have hte := @HkS.te K0 _ _ _ _ _ _ _ _ _ _ _ _ _ H
    have htc := @HkS.tc K0 _ _ _ _ _ _ _ _ _ _ _ _ _ H
    have hu := @HkS.u K0 _ _ _ _ _ _ _ _ _ _ _ _ _ H
    refine @HkS.mk (ownKeep K0 B v n L) _ _ _ _ _ _ _ _ _ _ _ _ _ ((hb.block g hg).trans (@HkS.b K0 _ _ _ _ _ _ _ _ _ _ _ _ _ H)) (hown_blk (@HkS.e K0 _ _ _ _ _ _ _ _ _ _ _ _ _ H) fun b hx => hb.block b (hlt b (by rw [hte b hx]; omega))) (hown_blk (@HkS.c K0 _ _ _ _ _ _ _ _ _ _ _ _ _ H) fun b hx => hb.block b (hlt b (by rw [htc b hx]; omega))) (fun i hi => ?_) ((hold g hg).trans htb) (fun b hx => (hold b (hlt b (by rw [hte b hx]; omega))).trans (hte b hx)) (fun b hx => (hold b (hlt b (by rw [htc b hx]; omega))).trans (htc b hx)) (fun b hx => ?_) (@HkS.lo K0 _ _ _ _ _ _ _ _ _ _ _ _ _ H) ⟨HKeepT.loc _ _ _ hP fun b hx => hb.block b (hF b hx), own_base ho hB, fun b hx e => by have := hF b hx; have := (hv b e).1; omega⟩ (fun b hx => ?_)
    · rcases hu i hi with h1 | ⟨h1, h2⟩
      · exact .inl h1
      · exact .inr ⟨hown_blk h1 fun b hx => hb.block b (hlt b (by rw [h2 b hx]; omega)), fun b hx => (hold b (hlt b (by rw [h2 b hx]; omega))).trans (h2 b hx)⟩
    · by_cases e : v.ownBlock = some b
      · exact (hv b e).2
      · rw [if_neg e] at hx
        have := hlt b hx
        omega
    · rcases hx with hx | hx
      · have := hkf b hx
        exact ⟨(hold b (hF b hx)).trans this.1, this.2⟩
      · exact ⟨if_pos hx, fun e => by have := (hv b hx).1; omega⟩
  exact ⟨_, _, _, _, _, hnew⟩
theorem HkM.ownSet (K0 : Inhabited HKeepT) (h : @HkM (ownKeep K0 B v n L) T mk B g q E C w) (hz : w.heap.size ≤ w'.heap.size) (hk : ∀ b, b < w.heap.size → ¬ v.ownBlock = some b → w'.heap[b]? = w.heap[b]?) (ho : w'.ownsRow B 2 1 v n (ints L')) : @HkM (ownKeep K0 B v n L') T mk B g q E C w' := by
  obtain ⟨tg, ev, cl, nE, U, H⟩ := h
  have hlt := @HkS.lt (ownKeep K0 B v n L) _ _ _ _ _ _ _ _ _ _ _ _ _ H
  have hkf := @HkS.kf (ownKeep K0 B v n L) _ _ _ _ _ _ _ _ _ _ _ _ _ H
  have hP := @HkS.k (ownKeep K0 B v n L) _ _ _ _ _ _ _ _ _ _ _ _ _ H
  refine ⟨tg, ev, cl, nE, U, HkS.turn (ownKeep K0 B v n L) (ownKeep K0 B v n L') H hz (fun b hb hF => hk b (hlt b hb) fun e => hF (.inr e)) (fun _ _ _ => rfl) (fun b hb => Nat.lt_of_lt_of_le (hlt b hb) hz) ⟨HKeepT.loc _ _ _ hP.1 fun b hb => hk b (hlt b (by rw [(hkf b (.inl hb)).1]; omega)) (hP.2.2 b hb), ho, hP.2.2⟩ hkf⟩
open Classical in
theorem HkM.ownDrop (K0 : Inhabited HKeepT) (h : @HkM (ownKeep K0 B v n L) T mk B g q E C w) : ∃ tg ev cl nE U, @HkS K0 T mk B g tg ev cl nE q E U C w ∧ (∀ b, v.ownBlock = some b → tg b = 0) ∧ w.ownsRow B 2 1 v n (ints L) := by
  obtain ⟨tg, ev, cl, nE, U, H⟩ := h
  have hlt := @HkS.lt (ownKeep K0 B v n L) _ _ _ _ _ _ _ _ _ _ _ _ _ H
  have hkf := @HkS.kf (ownKeep K0 B v n L) _ _ _ _ _ _ _ _ _ _ _ _ _ H
  have hP := @HkS.k (ownKeep K0 B v n L) _ _ _ _ _ _ _ _ _ _ _ _ _ H
  refine ⟨fun b => if v.ownBlock = some b then 0 else tg b, ev, cl, nE, U, HkS.turn (ownKeep K0 B v n L) K0 H (Nat.le_refl _) (fun _ _ _ => rfl) (fun b _ hF => if_neg fun e => hF (.inr e)) (fun b hb => hlt b fun e => hb ?_) hP.1 (fun b hb => ⟨(if_neg (hP.2.2 b hb)).trans (hkf b (.inl hb)).1, (hkf b (.inl hb)).2⟩), fun b hb => if_pos hb, hP.2.1⟩
  show (if v.ownBlock = some b then 0 else tg b) = 0
  split
  · rfl
  · exact e
end
theorem sumI_R (L : List Int) : sumI L = sumR (fun j => L.getD j 0) 0 L.length := by
  have : ∀ n, n ≤ L.length → sumI (L.take n) = sumR (fun j => L.getD j 0) 0 n := by
    intro n hn
    induction n with
    | zero => simp [sumI, sumR]
    | succ n ih =>
      rw [sumI_take L (show n < L.length by omega), ih (by omega)]
      simp [sumR]
  have h := this L.length (Nat.le_refl _)
  rwa [List.take_length] at h
theorem sumC_any (A : Option Addr) (n c : Nat) (L : List Int) (w : World) (hl : L.length = n) (ha : Rd w A n (fun j => .int .i64 (L.getD j 0))) (hL : Sml L) :
    Calls Try.prog 63 #[.slice A n c] w fun e w' => e = .returned (.int .i64 (sumI L)) ∧ w = w' := by
  have h := sumOf_any A n c (fun j => L.getD j 0) w ha (by have := hL.1; omega) (fun j hj => by have := hL.get j; omega)
  rw [sumI_R, hl]
  exact h
/-- 'copy(d, s)' into a whole list that is owned: its numbers are others. -/
theorem oper_copy_own {P : Program} {w : World} {o : Oper} {a : Act} {K : Act → World → Prop} {Q : Exit → Act → World → Prop} (d s : Operand) (dT sT : TypeId)
    (ho : o.op = .call { callee := .builtin .copy, args := #[d, s], argTypes := #[dT, sT] }) (elem : TypeId) (hu : P.underlying dT = some (.slice elem)) (hsz : (P.info? elem).map (·.size) = some 1)
    (B gd n cd : Nat) (xs : List Value) (hd : a.eval d = .slice (some ⟨gd, 0, none⟩) n cd) (hown : w.ownsRow B elem 1 (.slice (some ⟨gd, 0, none⟩) n cd) n xs)
    (gs os cs : Nat) (ys : List Value) (hs : a.eval s = .slice (some ⟨gs, os, none⟩) n cs) (hy : ys.length = n) (hsrc : ∀ j v, ys[j]? = some v → w.cell? ⟨gs, os + j, none⟩ = some v) (h1 : ∀ v ∈ ys, v.oneCell' = true)
    (h : ∀ w', w'.ownsRow B elem 1 (.slice (some ⟨gd, 0, none⟩) n cd) n ys → Fr w w' (fun b => b = gd) → w'.heap.size = w.heap.size → K (a.put o.dst (goInt n)) w') : Oper.wp P o a w K Q := by
  rcases hown.2 with ⟨e, _⟩ | ⟨g, cap, cur, e, hB, hg, hn, hm, hcs, htk⟩
  · cases e
  injection e with e _ e3
  injection e with e
  injection e with e
  subst e e3
  have hcur : cur.size = cd := by rw [hcs, Nat.mul_one]
  have hrun := run_copy_row (P := P) w dT sT o.type elem gd 0 n cd ⟨gs, os, none⟩ n cs cur elem ys hu hsz hg (by rw [hy]; simp) (fun j v hv => by rw [Addr.add_lit]; exact hsrc j v hv) (by omega) h1
  unfold Oper.wp
  simp only [execOp, ho, resolve, invoke, builtin, Sem.run_bind, Sem.run_pure, Result.andThen_ok, List.map_toArray, List.map_cons, List.map_nil, hd, hs, hrun]
  rw [hy]
  refine h _ ⟨by simpa using hy, .inr ⟨gd, cd, _, rfl, hB, setRow_heap w gd cur _ elem (0, 0) hg, hn, hm, ?_, ?_⟩⟩ ⟨rfl, rfl, rfl, by simp [World.setRow], fun b hb hne => setRow_other w gd b _ hne⟩ (by simp [World.setRow])
  · simp
    omega
  · simp [← hy]
end Go.Proofs.Ytacppheedleamaa

set_option linter.unusedVariables false
set_option linter.unusedSimpArgs false
namespace Go.Proofs.Ytacppheedleamaa
open Go.RowKit
set_option maxRecDepth 20000

/-- The crossing's events are added (the world w2), then the list at block gi is turned. -/
def CrossP [Inhabited HKeepT] (T : TypeId) (mk : Value → Value → Array Value) (B g q : Nat) (E : List Int) (C : Nat → List Int) (gi n ci : Nat) (L : List Int) (w : World) (e : Ending) (w' : World) : Prop :=
  e = .returned (.tuple #[]) ∧ ∃ w2, HkM T mk B g q E C w2 ∧ Below B w w2 ∧ Fr w2 w' (fun b => b = gi) ∧ w2.heap.size ≤ w'.heap.size ∧ w'.ownsRow B 2 1 (.slice (some ⟨gi, 0, none⟩) n ci) n (ints L)
section
variable [Inhabited HKeepT] {B g q : Nat} {E : List Int} {C : Nat → List Int} {w : World} {d c : Int} {A : Option Addr} {m qq : Nat}
set_option maxHeartbeats 4000000 in
theorem implCross1_any (gi ci : Nat) (k s P0 : Int) (L : List Int) (H : HkM 101 (mkI d c A m qq) B g q E C w) (hI : ∀ w', (default : HKeepT).P w' → w'.ownsRow B 2 1 (.slice (some ⟨gi, 0, none⟩) 2 ci) 2 (ints L)) (hB : B ≤ w.heap.size) (hE : E.length ≤ 500000) (hp : 0 ≤ P0 ∧ P0 ≤ 1000000000) (hL : L.length = 2) (hSm : Sml L) (hs : sumI L ≤ 100) (hs1 : ∀ x ∈ L, 1 ≤ x) (hk : (k = 8 ∧ s = 1) ∨ (k = 9 ∧ s = -1) ∨ (k = 5 ∧ s = -1)) :
    Calls Try.prog 101 #[.pointer (some ⟨g, 0, none⟩), .int .i64 k, .int .i64 P0, .slice (some ⟨gi, 0, none⟩) 2 ci] w (CrossP 101 (mkI d c A m qq) B g q (E ++ crsE P0 k L) C gi 2 ci (crs k L) w) := by
  obtain ⟨i0, hi0, iz, is, ib⟩ := info_parts infoEvent
  have hs12 : s = 1 ∨ s = -1 := by rcases hk with ⟨rfl, rfl⟩ | ⟨rfl, rfl⟩ | ⟨rfl, rfl⟩ <;> simp
  have hsg : signI k = s := by rcases hk with ⟨rfl, rfl⟩ | ⟨rfl, rfl⟩ | ⟨rfl, rfl⟩ <;> rfl
  have hL2 : L.length / 2 = 1 := by omega
  have hsn : s ≠ 0 := by rcases hs12 with h | h <;> rw [h] <;> decide
  obtain ⟨a, ha⟩ : ∃ a, a = (sumI (L.take 1)).toNat := ⟨_, rfl⟩
  obtain ⟨b, hb⟩ : ∃ b, b = (sumI (L.drop 1)).toNat := ⟨_, rfl⟩
  have HE := Lib.hid (show crsE P0 k L = crossL s (plE P0 a b) by rw [crsE, if_neg (by rw [hsg]; exact hsn), hL2, hsg, ha, hb])
  have HCR := Lib.hid (show crs k L = L.drop 1 ++ L.take 1 by rw [crs, if_neg (by rw [hsg]; exact hsn), hL2])
  have hlen1 : (L.take 1).length = 1 := by rw [List.length_take]; omega
  have hlen2 : (L.drop 1).length = 1 := by rw [List.length_drop]; omega
  have HCRL := Lib.hid (And.intro hlen2 hlen1)
  have hsum : sumI L = sumI (L.take 1) + sumI (L.drop 1) := by rw [← sumI_app, List.take_append_drop]
  have hta := (hSm.take 1).sum
  have htb := (hSm.drop 1).sum
  have ha2 : sumI (L.take 1) = (a : Int) := by omega
  have hb2 : sumI (L.drop 1) = (b : Int) := by omega
  have hpos : 1 ≤ a ∧ 1 ≤ b := by
    have h1 : ∀ l : List Int, (∀ x ∈ l, 1 ≤ x) → 0 < l.length → 1 ≤ sumI l := by
      intro l
      induction l with
      | nil => intro _ h; simp at h
      | cons x l ih =>
        intro hx _
        have h2 := hx x List.mem_cons_self
        simp only [sumI]
        by_cases h0 : 0 < l.length
        · have := ih (fun y hy => hx y (List.mem_cons_of_mem _ hy)) h0
          omega
        · obtain rfl : l = [] := List.eq_nil_of_length_eq_zero (by omega)
          simp [sumI]; omega
    have h3 := h1 (L.take 1) (fun x hx => hs1 x (List.mem_of_mem_take hx)) (by omega)
    have h4 := h1 (L.drop 1) (fun x hx => hs1 x (List.mem_of_mem_drop hx)) (by omega)
    omega
  have hab : a ≤ 100 ∧ b ≤ 100 := by omega
  have HPOS : 0 < b * a := Nat.mul_pos (by omega) (by omega)
  have HSZ : b * a ≤ 10000 := Nat.le_trans (Nat.mul_le_mul hab.2 hab.1) (by omega)
  have HII := Lib.hid hI
  have HBB := Lib.hid (show ∀ b, (Value.slice (some ⟨gi, 0, none⟩) 2 ci).ownBlock = some b → b = gi from fun b e => by injection e with e; exact e.symm)
  obtain ⟨tg, ev, cl, n, U, H⟩ := H
  have hown := hI w H.k
  have hci : 2 ≤ ci := by
    rcases hown.2 with ⟨e, _⟩ | ⟨_, cap, _, e, _, _, hn, _⟩
    · cases e
    · injection e with _ _ e3
      omega
  have hgi := hown.lt gi rfl
  obtain ⟨Ae, ce, rfl⟩ := own_form H.e
  have hn := H.len
  have hn2 : n ≤ 1048576 := by omega
  have m0 : w.cell? ⟨g, 4, none⟩ = some (.slice Ae n ce) := H.b.cell 4
  have f0 : w.frozen? ⟨g, 4, none⟩ = false := H.b.frozen 4
  have hcl : ∀ j, j < 2 → w.cell? ⟨gi, j, none⟩ = some (.int .i64 (L.getD j 0)) := fun j hj => by
    rw [hown.cellAt j (by omega)]
    simp [ints, List.getD, show j < L.length by omega]
  have hq1 : ∀ z, Calls Try.prog 63 #[.slice (some ⟨gi, 0, none⟩) 1 ci] (w.drewN z) fun e w' => e = .returned (.int .i64 a) ∧ w' = w.drewN z := fun z => (sumC_any (some ⟨gi, 0, none⟩) 1 ci (L.take 1) (w.drewN z) hlen1 (fun _ => ⟨gi, 0, rfl, hgi.2, fun j hj => by
    have := hcl j (by omega)
    rw [Nat.zero_add]
    simp only [List.getD, List.getElem?_take, if_pos hj]
    exact this⟩) (hSm.take 1)).mono fun _ _ h => ⟨by rw [h.1, ha2], h.2.symm⟩
  have hq2 : ∀ z, Calls Try.prog 63 #[.slice (some ⟨gi, 1, none⟩) 1 (ci - 1)] (w.drewN z) fun e w' => e = .returned (.int .i64 b) ∧ w' = w.drewN z := fun z => (sumC_any (some ⟨gi, 1, none⟩) 1 (ci - 1) (L.drop 1) (w.drewN z) hlen2 (fun _ => ⟨gi, 1, rfl, hgi.2, fun j hj => by
    have := hcl (1 + j) (by omega)
    simp only [List.getD, List.getElem?_drop]
    exact this⟩) (hSm.drop 1)).mono fun _ _ h => ⟨by rw [h.1, hb2], h.2.symm⟩
  have HQ1 := Lib.hid hq1
  have HQ2 := Lib.hid hq2
  have HHS := Lib.hid H
  have hne : ¬ ci = 1 := by omega
  have hci1 : (1 : Int) ≤ (ci : Int) := by omega
  clear hq1 hq2 H ha hb hsum hta htb ha2 hb2 hcl hown hSm hs hs1 hsn hsg hL2 hlen1 hlen2 hI hpos hn
  rcases hk with ⟨rfl, rfl⟩ | ⟨rfl, rfl⟩ | ⟨rfl, rfl⟩
  all_goals
    go_enter Try.func101, Try.ntmps101
    go_wp2_with fail
    go_quiet (first | (go_at_call_of 63 (Value.slice (some ⟨gi, 0, none⟩) 1 ci); exact Calls.quiet_of_same (HQ1.out _)) | (go_at_call 63; exact Calls.quiet_of_same (HQ2.out _)))
    go_wp2_with fail
    have HHN := Lib.hid (HHS.out.drewN nq)
    obtain ⟨w3, hw3⟩ : ∃ x, x = w.drewN nq := ⟨_, rfl⟩
    have n0 : w3.cell? ⟨g, 4, none⟩ = some (.slice Ae n ce) := by rw [hw3]; exact m0
    have nf : w3.frozen? ⟨g, 4, none⟩ = false := by rw [hw3]; exact f0
    have HB3 : Hid (Below B w w3) := Lib.hid (by rw [hw3]; exact Below.drewN' (Below.refl B w) nq)
    have hz3 : w3.heap.size = w.heap.size := by rw [hw3]; rfl
    rw [← hw3] at HHN ⊢
    clear hw3 m0 f0
    refine wp_region_lastL (S := fun w' => w'.cell? ⟨g, 4, none⟩ = some (.slice Ae n ce)) _ (by simp) (by kernel_rfl) (by kernel_rfl) n0 (fun hHeld => ?_)
    simp only [List.dropLast, List.getLast_cons_cons, List.getLast_singleton, List.length_cons, List.length_nil]
    refine wpAnyH_take (i := 0) (v := ?_) rfl (by kernel_rfl) (by kernel_rfl) (by kernel_rfl) (fun _ _ _ h => h) (Or.inl ⟨by rfl, ?_⟩) hHeld ?_
    rotate_left
    · (intro w0 hSw; (try dsimp only at hSw); go_simp <;> with_reducible rfl)
    simp only [List.getElem_toArray, List.getElem_cons_succ, List.getElem_cons_zero, Act.put, List.setIfInBounds_toArray, List.set_cons_zero, List.set_cons_succ]
    refine wpAnyH_take (i := 1) (v := ?_) rfl (by kernel_rfl) (by kernel_rfl) (by kernel_rfl) (fun _ _ _ h => h) (Or.inl ⟨by rfl, ?_⟩) hHeld ?_
    rotate_left
    · (intro w0 hSw; (try dsimp only at hSw); go_simp <;> with_reducible rfl)
    simp only [List.getElem_toArray, List.getElem_cons_succ, List.getElem_cons_zero, Act.put, List.setIfInBounds_toArray, List.set_cons_zero, List.set_cons_succ]
    refine wpAnyH_take (i := 2) (v := ?_) rfl (by kernel_rfl) (by kernel_rfl) (by kernel_rfl) (fun _ _ _ h => h) (Or.inl ⟨by rfl, ?_⟩) hHeld ?_
    rotate_left
    · (intro w0 hSw; (try dsimp only at hSw); go_simp <;> with_reducible rfl)
    simp only [List.getElem_toArray, List.getElem_cons_succ, List.getElem_cons_zero, Act.put, List.setIfInBounds_toArray, List.set_cons_zero, List.set_cons_succ]
    refine wpAnyH_take (i := 3) (v := ?_) rfl (by kernel_rfl) (by kernel_rfl) (by kernel_rfl) (fun _ _ _ h => h) (Or.inl ⟨by rfl, ?_⟩) hHeld ?_
    rotate_left
    · (intro w0 hSw; (try dsimp only at hSw); go_simp <;> with_reducible rfl)
    simp only [List.getElem_toArray, List.getElem_cons_succ, List.getElem_cons_zero, Act.put, List.setIfInBounds_toArray, List.set_cons_zero, List.set_cons_succ]
    refine wpAnyH_take (i := 4) (v := ?_) rfl (by kernel_rfl) (by kernel_rfl) (by kernel_rfl) (fun _ _ _ h => h) (Or.inl ⟨by rfl, ?_⟩) hHeld ?_
    rotate_left
    · (intro w0 hSw; (try dsimp only at hSw); go_simp <;> with_reducible rfl)
    simp only [List.getElem_toArray, List.getElem_cons_succ, List.getElem_cons_zero, Act.put, List.setIfInBounds_toArray, List.set_cons_zero, List.set_cons_succ]
    refine wpAnyH_take (i := 5) (v := ?_) rfl (by kernel_rfl) (by kernel_rfl) (by kernel_rfl) (fun _ _ _ h => h) (Or.inl ⟨by rfl, ?_⟩) hHeld ?_
    rotate_left
    · (intro w0 hSw; (try dsimp only at hSw); go_simp <;> with_reducible rfl)
    simp only [List.getElem_toArray, List.getElem_cons_succ, List.getElem_cons_zero, Act.put, List.setIfInBounds_toArray, List.set_cons_zero, List.set_cons_succ]
    refine wpAnyH_take (i := 6) (v := ?_) rfl (by kernel_rfl) (by kernel_rfl) (by kernel_rfl) (fun _ _ _ h => h) (Or.inl ⟨by rfl, ?_⟩) hHeld ?_
    rotate_left
    · (intro w0 hSw; (try dsimp only at hSw); go_simp <;> with_reducible rfl)
    simp only [List.getElem_toArray, List.getElem_cons_succ, List.getElem_cons_zero, Act.put, List.setIfInBounds_toArray, List.set_cons_zero, List.set_cons_succ]
    refine wpAnyH_take (i := 7) (v := ?_) rfl (by kernel_rfl) (by kernel_rfl) (by kernel_rfl) (fun _ _ _ h => h) (Or.inl ⟨by rfl, ?_⟩) hHeld ?_
    rotate_left
    · (intro w0 hSw; (try dsimp only at hSw); go_simp <;> with_reducible rfl)
    simp only [List.getElem_toArray, List.getElem_cons_succ, List.getElem_cons_zero, Act.put, List.setIfInBounds_toArray, List.set_cons_zero, List.set_cons_succ]
    refine wpAnyH_take (i := 8) (v := ?_) rfl (by kernel_rfl) (by kernel_rfl) (by kernel_rfl) (fun _ _ _ h => h) (Or.inl ⟨by rfl, ?_⟩) hHeld ?_
    rotate_left
    · (intro w0 hSw; (try dsimp only at hSw); go_simp <;> with_reducible rfl)
    simp only [List.getElem_toArray, List.getElem_cons_succ, List.getElem_cons_zero, Act.put, List.setIfInBounds_toArray, List.set_cons_zero, List.set_cons_succ]
    refine wpAnyH_ready (rs := [9]) (by kernel_rfl) (by simp) ?_
    refine AllReadyH.cons rfl (fun K hK => ?_) AllReadyH.nil
    simp only [List.getElem_toArray, List.getElem_cons_succ, List.getElem_cons_zero]
    go_simp
    refine (crossings_any P0 a b _ w3.drew hp hab.1 hab.2).mono ?_
    rintro e w4 ⟨v4, rfl, ho4, hb4⟩
    generalize hR : crossL _ (plE P0 a b) = R at ho4
    have HER := Lib.hid (HE.out.trans hR)
    clear hR
    have HH4 := Lib.hid (HHN.out.drew.below hb4)
    have k0 : w4.cell? ⟨g, 4, none⟩ = some (.slice Ae n ce) := HH4.out.b.cell 4
    have kf : w4.frozen? ⟨g, 4, none⟩ = false := HH4.out.b.frozen 4
    have HB4 := Lib.hid (HB3.out.trans (((Below.refl w3.heap.size w3).drew.trans hb4).mono (by omega)))
    obtain ⟨g4, c4, rfl⟩ : ∃ g4 c4, v4 = .slice (some ⟨g4, 0, none⟩) (b * a) c4 := by
      rcases ho4.2 with ⟨_, h0⟩ | ⟨g4, cap, _, e, _⟩
      · omega
      · exact ⟨g4, cap, e⟩
    have HO4 := Lib.hid ho4
    have HR4 : Hid (RowR w4 g4 0 (b * a * 6) (fun j => .int .i64 (R.getD j 0))) := Lib.hid (fun j hj => by
      obtain ⟨_, _, e, _, hr⟩ := hk_rd6 HO4.out (by omega)
      injection e with e
      injection e with e e2
      subst e e2
      exact hr j hj)
    refine hK.out _ _ k0 (fun hHeld1 => ?_)
    clear hK K hHeld ho4 hb4
    refine wpAnyH_ready (rs := [10]) (by kernel_rfl) (by simp) ?_
    refine AllReadyH.cons rfl (fun K hK => ?_) AllReadyH.nil
    simp only [List.getElem_toArray, List.getElem_cons_succ, List.getElem_cons_zero]
    refine step_appRx w4 (by rfl) (.tmp 33) (.tmp 38) _ (by rfl) B 77 i0 _ 6 48 Try.underlying28 hi0 iz is ib rfl (by omega) (.slice Ae n ce) n (ints E) (by rfl) HH4.out.e g4 0 (b * a) c4 (fun j => .int .i64 (R.getD j 0)) (by rfl) HR4.out (fun j => rfl) (by unfold maxLen; omega) (by omega) (Nat.le_trans hB HB4.out.size) ?_
    intro v5 w5 hown5 hfr5 hat5
    obtain ⟨A5, c5, rfl⟩ := own_form hown5
    have hob : ∀ b, (Value.slice Ae n ce).ownBlock = some b → tg b = 2 := HH4.out.te
    have hgn : ¬ (Value.slice Ae n ce).ownBlock = some g := fun e => by have := hob _ e; have := HH4.out.tb; omega
    have hlg := World.block_lt_of_cell? w4 _ k0
    have k5 := (hfr5.cells hlg hgn 4).trans k0
    have k5f : w5.frozen? ⟨g, 4, none⟩ = false := (World.frozen?_of_block (w := w4) (a := ⟨g, 4, none⟩) (hfr5.block g hlg hgn)).trans kf
    refine hK.out _ _ k5 (fun hHeld3 => ?_)
    clear hK K hHeld1
    have hfree : HFree tg (.slice A5 (n + b * a) c5) 2 := fun b hb => by
      rcases hat5 with h | h
      · exact .inr (hob b (h.symm.trans hb))
      · refine .inl (Decidable.byContradiction fun hne => ?_)
        have h1 := HH4.out.lt b hne
        rw [hb] at h
        injection h with h
        omega
    have hown6 : w5.ownsRow B 77 6 (.slice A5 (n + b * a) c5) (n + b * a) (ints (E ++ R)) := by
      have hl : R.length = b * a * 6 := by have := HO4.out.1; simpa [ints] using this
      have h9 := hown5
      rw [ints_get R _ hl, ← ints_app] at h9
      exact h9
    have HM := Lib.hid (HH4.out.putE (w' := w5) (fun b h0 h2 => hfr5.block b (HH4.out.lt b h0) fun e => h2 (hob b e)) hfr5.size hown6 hfree (o := 4) rfl)
    have HBL := Lib.hid (Below.setCell (p := ⟨g, 4, none⟩) (HB4.out.trans (hfr5.own HH4.out.e (Nat.le_trans hB HB4.out.size))) HH4.out.lo (.slice A5 (n + b * a) c5))
    clear hob hgn hlg k0 kf hfree hfr5 hown5 hat5 hown6 n0 nf
    refine wpAnyH_take (i := 11) (v := ?_) rfl (by kernel_rfl) (by kernel_rfl) (by kernel_rfl) (fun _ _ _ h => h) (Or.inl ⟨by rfl, ?_⟩) hHeld3 ?_
    rotate_left
    · (intro w0 hSw; (try dsimp only at hSw); go_simp <;> with_reducible rfl)
    simp only [List.getElem_toArray, List.getElem_cons_succ, List.getElem_cons_zero, Act.put, List.setIfInBounds_toArray, List.set_cons_zero, List.set_cons_succ]
    refine wpAnyH_take (i := 12) (v := ?_) rfl (by kernel_rfl) (by kernel_rfl) (by kernel_rfl) (fun _ _ _ h => h) (Or.inl ⟨by rfl, ?_⟩) hHeld3 ?_
    rotate_left
    · (intro w0 hSw; (try dsimp only at hSw); go_simp <;> with_reducible rfl)
    simp only [List.getElem_toArray, List.getElem_cons_succ, List.getElem_cons_zero, Act.put, List.setIfInBounds_toArray, List.set_cons_zero, List.set_cons_succ]
    refine wpAnyH_done (by kernel_rfl) ?_ _
    refine LastPost.of ?_
    go_simp
    clear hHeld3 k5 k5f
    go_wp2_with fail
    obtain ⟨w6, hw6⟩ : ∃ x, x = w5.setCell ⟨g, 4, none⟩ (.slice A5 (n + b * a) c5) := ⟨_, rfl⟩
    rw [← hw6] at HM HBL ⊢
    clear hw6
    have hown6 := HII.out w6 HM.out.k
    have HO6 := Lib.hid hown6
    have hgi6 := hown6.lt gi rfl
    obtain ⟨j0, hj0, jz, js, jb⟩ := info_parts info64
    have hb7 : Below w6.heap.size w6 (w6.drew.alloc (.cells #[.slice (some ⟨gi, 1, none⟩) 1 (ci - 1), .slice (some ⟨gi, 0, none⟩) 1 ci] 38)) := (Below.refl w6.heap.size w6).drew.alloc (Nat.le_refl _) _
    have HH7 := Lib.hid (HM.out.below hb7)
    have hX := box_new w6.drew #[.slice (some ⟨gi, 1, none⟩) 1 (ci - 1), .slice (some ⟨gi, 0, none⟩) 1 ci] 38
    have HO7 := Lib.hid (own_below hown6 hb7)
    have hcl7 : ∀ j, j < 2 → (w6.drew.alloc (.cells #[.slice (some ⟨gi, 1, none⟩) 1 (ci - 1), .slice (some ⟨gi, 0, none⟩) 1 ci] 38)).cell? ⟨gi, j, none⟩ = some (.int .i64 (L.getD j 0)) := fun j hj => by
      rw [HO7.out.cellAt j (by omega)]
      simp [ints, List.getD, show j < L.length by omega]
    have HCC := Lib.hid (concatC_any w6.drew.heap.size 2 2 (fun i => if i = 0 then L.drop 1 else L.take 1) (w6.drew.alloc (.cells #[.slice (some ⟨gi, 1, none⟩) 1 (ci - 1), .slice (some ⟨gi, 0, none⟩) 1 ci] 38)) (fun i hi => by
      rcases (show i = 0 ∨ i = 1 by omega) with rfl | rfl
      · refine ⟨some ⟨gi, 1, none⟩, ci - 1, ?_, fun _ => ⟨gi, 1, rfl, by have := hb7.size; omega, fun j hj => ?_⟩⟩
        · have h9 := HCRL.out.1
          show _ = some (Value.slice _ (L.drop 1).length _)
          rw [h9]
          exact hX 0
        · have hj2 : j < 1 := by have h9 := HCRL.out.1; have h8 : j < (L.drop 1).length := hj; omega
          have h7 := hcl7 (1 + j) (by omega)
          show _ = some (Value.int .i64 ((L.drop 1).getD j 0))
          simp only [List.getD, List.getElem?_drop]
          exact h7
      · refine ⟨some ⟨gi, 0, none⟩, ci, ?_, fun _ => ⟨gi, 0, rfl, by have := hb7.size; omega, fun j hj => ?_⟩⟩
        · have h9 := HCRL.out.2
          show _ = some (Value.slice _ (L.take 1).length _)
          rw [h9]
          exact hX 1
        · have hj2 : j < 1 := by have h9 := HCRL.out.2; have h8 : j < (L.take 1).length := hj; omega
          have h7 := hcl7 j (by omega)
          show _ = some (Value.int .i64 ((L.take 1).getD j 0))
          rw [Nat.zero_add]
          simp only [List.getD, List.getElem?_take, if_pos hj2]
          exact h7) (by simp) (by have h9 := HCRL.out; simp only [catC, List.nil_append, List.length_append]; simp only [if_pos, if_neg (show ¬ (1 : Nat) = 0 by omega)]; omega) (by omega))
    have HCT := Lib.hid (show catC (fun i => if i = 0 then L.drop 1 else L.take 1) 2 = L.drop 1 ++ L.take 1 by simp [catC])
    have HB7 := Lib.hid (HBL.out.trans (hb7.mono (Nat.le_trans hB HBL.out.size)))
    clear hb7 hX hcl7 hown6
    refine wp_region_lastL (S := fun _ => True) _ (by simp) (by kernel_rfl) (by kernel_rfl) trivial (fun hHeld => ?_)
    simp only [List.dropLast, List.getLast_cons_cons, List.getLast_singleton, List.length_cons, List.length_nil]
    refine wpAnyH_take (i := 0) (v := ?_) rfl (by kernel_rfl) (by kernel_rfl) (by kernel_rfl) (fun _ _ _ h => h) (Or.inl ⟨by rfl, ?_⟩) hHeld ?_
    rotate_left
    · (intro w0 hSw; (try dsimp only at hSw); go_simp <;> with_reducible rfl)
    simp only [List.getElem_toArray, List.getElem_cons_succ, List.getElem_cons_zero, Act.put, List.setIfInBounds_toArray, List.set_cons_zero, List.set_cons_succ]
    refine wpAnyH_take (i := 1) (v := ?_) rfl (by kernel_rfl) (by kernel_rfl) (by kernel_rfl) (fun _ _ _ h => h) (Or.inl ⟨by rfl, ?_⟩) hHeld ?_
    rotate_left
    · (intro w0 hSw; (try dsimp only at hSw); go_simp <;> with_reducible rfl)
    simp only [List.getElem_toArray, List.getElem_cons_succ, List.getElem_cons_zero, Act.put, List.setIfInBounds_toArray, List.set_cons_zero, List.set_cons_succ]
    refine wpAnyH_take (i := 2) (v := ?_) rfl (by kernel_rfl) (by kernel_rfl) (by kernel_rfl) (fun _ _ _ h => h) (Or.inl ⟨by rfl, ?_⟩) hHeld ?_
    rotate_left
    · (intro w0 hSw; (try dsimp only at hSw); go_simp <;> with_reducible rfl)
    simp only [List.getElem_toArray, List.getElem_cons_succ, List.getElem_cons_zero, Act.put, List.setIfInBounds_toArray, List.set_cons_zero, List.set_cons_succ]
    refine wpAnyH_take (i := 3) (v := ?_) rfl (by kernel_rfl) (by kernel_rfl) (by kernel_rfl) (fun _ _ _ h => h) (Or.inl ⟨by rfl, ?_⟩) hHeld ?_
    rotate_left
    · (intro w0 hSw; (try dsimp only at hSw); go_simp <;> with_reducible rfl)
    simp only [List.getElem_toArray, List.getElem_cons_succ, List.getElem_cons_zero, Act.put, List.setIfInBounds_toArray, List.set_cons_zero, List.set_cons_succ]
    refine wpAnyH_take (i := 4) (v := ?_) rfl (by kernel_rfl) (by kernel_rfl) (by kernel_rfl) (fun _ _ _ h => h) (Or.inl ⟨by rfl, ?_⟩) hHeld ?_
    rotate_left
    · (intro w0 hSw; (try dsimp only at hSw); go_simp <;> with_reducible rfl)
    simp only [List.getElem_toArray, List.getElem_cons_succ, List.getElem_cons_zero, Act.put, List.setIfInBounds_toArray, List.set_cons_zero, List.set_cons_succ]
    refine wpAnyH_take (i := 5) (v := ?_) rfl (by kernel_rfl) (by kernel_rfl) (by kernel_rfl) (fun _ _ _ h => h) (Or.inl ⟨by rfl, ?_⟩) hHeld ?_
    rotate_left
    · (intro w0 hSw; (try dsimp only at hSw); go_simp <;> with_reducible rfl)
    simp only [List.getElem_toArray, List.getElem_cons_succ, List.getElem_cons_zero, Act.put, List.setIfInBounds_toArray, List.set_cons_zero, List.set_cons_succ]
    refine wpAnyH_take (i := 6) (v := ?_) rfl (by kernel_rfl) (by kernel_rfl) (by kernel_rfl) (fun _ _ _ h => h) (Or.inl ⟨by rfl, ?_⟩) hHeld ?_
    rotate_left
    · (intro w0 hSw; (try dsimp only at hSw); go_simp <;> with_reducible rfl)
    simp only [List.getElem_toArray, List.getElem_cons_succ, List.getElem_cons_zero, Act.put, List.setIfInBounds_toArray, List.set_cons_zero, List.set_cons_succ]
    refine wpAnyH_ready (rs := [7]) (by kernel_rfl) (by simp) ?_
    refine AllReadyH.cons rfl (fun K hK => ?_) AllReadyH.nil
    simp only [List.getElem_toArray, List.getElem_cons_succ, List.getElem_cons_zero]
    go_simp
    refine hK.out _ _ trivial (fun hHeld1 => ?_)
    clear hK K hHeld
    refine wpAnyH_ready (rs := [8]) (by kernel_rfl) (by simp) ?_
    refine AllReadyH.cons rfl (fun K hK => ?_) AllReadyH.nil
    simp only [List.getElem_toArray, List.getElem_cons_succ, List.getElem_cons_zero]
    go_simp
    refine HCC.out.mono ?_
    rintro e w8 ⟨v8, rfl, ho8, hb8⟩
    refine hK.out _ _ trivial (fun hHeld2 => ?_)
    clear hK K hHeld1
    rw [HCT.out] at ho8
    have HCX := HCR
    have hl8 : (L.drop 1 ++ L.take 1).length = 2 := by rw [List.length_append]; have := HCRL.out; omega
    generalize L.drop 1 ++ L.take 1 = X8 at ho8 hl8 HCX
    rw [hl8] at ho8
    obtain ⟨g8, c8, rfl⟩ : ∃ g8 c8, v8 = .slice (some ⟨g8, 0, none⟩) 2 c8 := by
      rcases ho8.2 with ⟨_, h0⟩ | ⟨g8, cap, _, e, _⟩
      · omega
      · exact ⟨g8, cap, e⟩
    have HH8 := Lib.hid (HH7.out.below hb8)
    have HB8 := Lib.hid (HB7.out.trans (hb8.mono (Nat.le_trans hB HB7.out.size)))
    have HO8 := Lib.hid (HII.out w8 HH8.out.k)
    have HS8 := Lib.hid ho8
    clear ho8 hb8
    refine wpAnyH_done (by kernel_rfl) ?_ _
    refine LastPost.of ?_
    refine oper_copy_own (.tmp 42) (.tmp 50) _ _ (by rfl) 2 Try.underlying38 (by rw [hj0]; simp [js]) B gi 2 ci (ints L) (by rfl) HO8.out g8 0 c8 (ints X8) (by rfl) (by simp [ints, hl8]) (fun j v hj => ?_) (fun v hv => ?_) ?_
    · rw [Nat.zero_add, HS8.out.cellAt j (by have h1 := (List.getElem?_eq_some_iff.1 hj).1; simp [ints] at h1; omega)]
      exact hj
    · exact ints_one _ v hv
    intro w9 ho9 hf9 hz9
    go_wp2_with fail
    go_end0
    exact ⟨rfl, w8, ⟨_, _, _, _, _, by rw [HER.out]; exact HH8.out⟩, HB8.out, hf9, Nat.le_of_eq hz9.symm, by rw [HCX.out]; exact ho9⟩
end
section
variable [Inhabited HKeepT] {B g q : Nat} {E : List Int} {C : Nat → List Int} {w : World} {d c : Int} {A : Option Addr} {m qq : Nat}
set_option maxHeartbeats 4000000 in
theorem implCross2_any (gi ci : Nat) (k s P0 : Int) (L : List Int) (H : HkM 101 (mkI d c A m qq) B g q E C w) (hI : ∀ w', (default : HKeepT).P w' → w'.ownsRow B 2 1 (.slice (some ⟨gi, 0, none⟩) 4 ci) 4 (ints L)) (hB : B ≤ w.heap.size) (hE : E.length ≤ 500000) (hp : 0 ≤ P0 ∧ P0 ≤ 1000000000) (hL : L.length = 4) (hSm : Sml L) (hs : sumI L ≤ 100) (hs1 : ∀ x ∈ L, 1 ≤ x) (hk : (k = 10 ∧ s = 1) ∨ (k = 11 ∧ s = -1)) :
    Calls Try.prog 101 #[.pointer (some ⟨g, 0, none⟩), .int .i64 k, .int .i64 P0, .slice (some ⟨gi, 0, none⟩) 4 ci] w (CrossP 101 (mkI d c A m qq) B g q (E ++ crsE P0 k L) C gi 4 ci (crs k L) w) := by
  obtain ⟨i0, hi0, iz, is, ib⟩ := info_parts infoEvent
  have hs12 : s = 1 ∨ s = -1 := by rcases hk with ⟨rfl, rfl⟩ | ⟨rfl, rfl⟩ <;> simp
  have hsg : signI k = s := by rcases hk with ⟨rfl, rfl⟩ | ⟨rfl, rfl⟩ <;> rfl
  have hL2 : L.length / 2 = 2 := by omega
  have hsn : s ≠ 0 := by rcases hs12 with h | h <;> rw [h] <;> decide
  obtain ⟨a, ha⟩ : ∃ a, a = (sumI (L.take 2)).toNat := ⟨_, rfl⟩
  obtain ⟨b, hb⟩ : ∃ b, b = (sumI (L.drop 2)).toNat := ⟨_, rfl⟩
  have HE := Lib.hid (show crsE P0 k L = crossL s (plE P0 a b) by rw [crsE, if_neg (by rw [hsg]; exact hsn), hL2, hsg, ha, hb])
  have HCR := Lib.hid (show crs k L = L.drop 2 ++ L.take 2 by rw [crs, if_neg (by rw [hsg]; exact hsn), hL2])
  have hlen1 : (L.take 2).length = 2 := by rw [List.length_take]; omega
  have hlen2 : (L.drop 2).length = 2 := by rw [List.length_drop]; omega
  have HCRL := Lib.hid (And.intro hlen2 hlen1)
  have hsum : sumI L = sumI (L.take 2) + sumI (L.drop 2) := by rw [← sumI_app, List.take_append_drop]
  have hta := (hSm.take 2).sum
  have htb := (hSm.drop 2).sum
  have ha2 : sumI (L.take 2) = (a : Int) := by omega
  have hb2 : sumI (L.drop 2) = (b : Int) := by omega
  have hpos : 1 ≤ a ∧ 1 ≤ b := by
    have h1 : ∀ l : List Int, (∀ x ∈ l, 1 ≤ x) → 0 < l.length → 1 ≤ sumI l := by
      intro l
      induction l with
      | nil => intro _ h; simp at h
      | cons x l ih =>
        intro hx _
        have h2 := hx x List.mem_cons_self
        simp only [sumI]
        by_cases h0 : 0 < l.length
        · have := ih (fun y hy => hx y (List.mem_cons_of_mem _ hy)) h0
          omega
        · obtain rfl : l = [] := List.eq_nil_of_length_eq_zero (by omega)
          simp [sumI]; omega
    have h3 := h1 (L.take 2) (fun x hx => hs1 x (List.mem_of_mem_take hx)) (by omega)
    have h4 := h1 (L.drop 2) (fun x hx => hs1 x (List.mem_of_mem_drop hx)) (by omega)
    omega
  have hab : a ≤ 100 ∧ b ≤ 100 := by omega
  have HPOS : 0 < b * a := Nat.mul_pos (by omega) (by omega)
  have HSZ : b * a ≤ 10000 := Nat.le_trans (Nat.mul_le_mul hab.2 hab.1) (by omega)
  have HII := Lib.hid hI
  have HBB := Lib.hid (show ∀ b, (Value.slice (some ⟨gi, 0, none⟩) 4 ci).ownBlock = some b → b = gi from fun b e => by injection e with e; exact e.symm)
  obtain ⟨tg, ev, cl, n, U, H⟩ := H
  have hown := hI w H.k
  have hci : 4 ≤ ci := by
    rcases hown.2 with ⟨e, _⟩ | ⟨_, cap, _, e, _, _, hn, _⟩
    · cases e
    · injection e with _ _ e3
      omega
  have hgi := hown.lt gi rfl
  obtain ⟨Ae, ce, rfl⟩ := own_form H.e
  have hn := H.len
  have hn2 : n ≤ 1048576 := by omega
  have m0 : w.cell? ⟨g, 4, none⟩ = some (.slice Ae n ce) := H.b.cell 4
  have f0 : w.frozen? ⟨g, 4, none⟩ = false := H.b.frozen 4
  have hcl : ∀ j, j < 4 → w.cell? ⟨gi, j, none⟩ = some (.int .i64 (L.getD j 0)) := fun j hj => by
    rw [hown.cellAt j (by omega)]
    simp [ints, List.getD, show j < L.length by omega]
  have hq1 : ∀ z, Calls Try.prog 63 #[.slice (some ⟨gi, 0, none⟩) 2 ci] (w.drewN z) fun e w' => e = .returned (.int .i64 a) ∧ w' = w.drewN z := fun z => (sumC_any (some ⟨gi, 0, none⟩) 2 ci (L.take 2) (w.drewN z) hlen1 (fun _ => ⟨gi, 0, rfl, hgi.2, fun j hj => by
    have := hcl j (by omega)
    rw [Nat.zero_add]
    simp only [List.getD, List.getElem?_take, if_pos hj]
    exact this⟩) (hSm.take 2)).mono fun _ _ h => ⟨by rw [h.1, ha2], h.2.symm⟩
  have hq2 : ∀ z, Calls Try.prog 63 #[.slice (some ⟨gi, 2, none⟩) 2 (ci - 2)] (w.drewN z) fun e w' => e = .returned (.int .i64 b) ∧ w' = w.drewN z := fun z => (sumC_any (some ⟨gi, 2, none⟩) 2 (ci - 2) (L.drop 2) (w.drewN z) hlen2 (fun _ => ⟨gi, 2, rfl, hgi.2, fun j hj => by
    have := hcl (2 + j) (by omega)
    simp only [List.getD, List.getElem?_drop]
    exact this⟩) (hSm.drop 2)).mono fun _ _ h => ⟨by rw [h.1, hb2], h.2.symm⟩
  have HQ1 := Lib.hid hq1
  have HQ2 := Lib.hid hq2
  have HHS := Lib.hid H
  have hne : ¬ ci = 2 := by omega
  have hci1 : (2 : Int) ≤ (ci : Int) := by omega
  clear hq1 hq2 H ha hb hsum hta htb ha2 hb2 hcl hown hSm hs hs1 hsn hsg hL2 hlen1 hlen2 hI hpos hn
  rcases hk with ⟨rfl, rfl⟩ | ⟨rfl, rfl⟩
  all_goals
    go_enter Try.func101, Try.ntmps101
    go_wp2_with fail
    go_quiet (first | (go_at_call_of 63 (Value.slice (some ⟨gi, 0, none⟩) 2 ci); exact Calls.quiet_of_same (HQ1.out _)) | (go_at_call 63; exact Calls.quiet_of_same (HQ2.out _)))
    go_wp2_with fail
    have HHN := Lib.hid (HHS.out.drewN nq)
    obtain ⟨w3, hw3⟩ : ∃ x, x = w.drewN nq := ⟨_, rfl⟩
    have n0 : w3.cell? ⟨g, 4, none⟩ = some (.slice Ae n ce) := by rw [hw3]; exact m0
    have nf : w3.frozen? ⟨g, 4, none⟩ = false := by rw [hw3]; exact f0
    have HB3 : Hid (Below B w w3) := Lib.hid (by rw [hw3]; exact Below.drewN' (Below.refl B w) nq)
    have hz3 : w3.heap.size = w.heap.size := by rw [hw3]; rfl
    rw [← hw3] at HHN ⊢
    clear hw3 m0 f0
    refine wp_region_lastL (S := fun w' => w'.cell? ⟨g, 4, none⟩ = some (.slice Ae n ce)) _ (by simp) (by kernel_rfl) (by kernel_rfl) n0 (fun hHeld => ?_)
    simp only [List.dropLast, List.getLast_cons_cons, List.getLast_singleton, List.length_cons, List.length_nil]
    refine wpAnyH_take (i := 0) (v := ?_) rfl (by kernel_rfl) (by kernel_rfl) (by kernel_rfl) (fun _ _ _ h => h) (Or.inl ⟨by rfl, ?_⟩) hHeld ?_
    rotate_left
    · (intro w0 hSw; (try dsimp only at hSw); go_simp <;> with_reducible rfl)
    simp only [List.getElem_toArray, List.getElem_cons_succ, List.getElem_cons_zero, Act.put, List.setIfInBounds_toArray, List.set_cons_zero, List.set_cons_succ]
    refine wpAnyH_take (i := 1) (v := ?_) rfl (by kernel_rfl) (by kernel_rfl) (by kernel_rfl) (fun _ _ _ h => h) (Or.inl ⟨by rfl, ?_⟩) hHeld ?_
    rotate_left
    · (intro w0 hSw; (try dsimp only at hSw); go_simp <;> with_reducible rfl)
    simp only [List.getElem_toArray, List.getElem_cons_succ, List.getElem_cons_zero, Act.put, List.setIfInBounds_toArray, List.set_cons_zero, List.set_cons_succ]
    refine wpAnyH_take (i := 2) (v := ?_) rfl (by kernel_rfl) (by kernel_rfl) (by kernel_rfl) (fun _ _ _ h => h) (Or.inl ⟨by rfl, ?_⟩) hHeld ?_
    rotate_left
    · (intro w0 hSw; (try dsimp only at hSw); go_simp <;> with_reducible rfl)
    simp only [List.getElem_toArray, List.getElem_cons_succ, List.getElem_cons_zero, Act.put, List.setIfInBounds_toArray, List.set_cons_zero, List.set_cons_succ]
    refine wpAnyH_take (i := 3) (v := ?_) rfl (by kernel_rfl) (by kernel_rfl) (by kernel_rfl) (fun _ _ _ h => h) (Or.inl ⟨by rfl, ?_⟩) hHeld ?_
    rotate_left
    · (intro w0 hSw; (try dsimp only at hSw); go_simp <;> with_reducible rfl)
    simp only [List.getElem_toArray, List.getElem_cons_succ, List.getElem_cons_zero, Act.put, List.setIfInBounds_toArray, List.set_cons_zero, List.set_cons_succ]
    refine wpAnyH_take (i := 4) (v := ?_) rfl (by kernel_rfl) (by kernel_rfl) (by kernel_rfl) (fun _ _ _ h => h) (Or.inl ⟨by rfl, ?_⟩) hHeld ?_
    rotate_left
    · (intro w0 hSw; (try dsimp only at hSw); go_simp <;> with_reducible rfl)
    simp only [List.getElem_toArray, List.getElem_cons_succ, List.getElem_cons_zero, Act.put, List.setIfInBounds_toArray, List.set_cons_zero, List.set_cons_succ]
    refine wpAnyH_take (i := 5) (v := ?_) rfl (by kernel_rfl) (by kernel_rfl) (by kernel_rfl) (fun _ _ _ h => h) (Or.inl ⟨by rfl, ?_⟩) hHeld ?_
    rotate_left
    · (intro w0 hSw; (try dsimp only at hSw); go_simp <;> with_reducible rfl)
    simp only [List.getElem_toArray, List.getElem_cons_succ, List.getElem_cons_zero, Act.put, List.setIfInBounds_toArray, List.set_cons_zero, List.set_cons_succ]
    refine wpAnyH_take (i := 6) (v := ?_) rfl (by kernel_rfl) (by kernel_rfl) (by kernel_rfl) (fun _ _ _ h => h) (Or.inl ⟨by rfl, ?_⟩) hHeld ?_
    rotate_left
    · (intro w0 hSw; (try dsimp only at hSw); go_simp <;> with_reducible rfl)
    simp only [List.getElem_toArray, List.getElem_cons_succ, List.getElem_cons_zero, Act.put, List.setIfInBounds_toArray, List.set_cons_zero, List.set_cons_succ]
    refine wpAnyH_take (i := 7) (v := ?_) rfl (by kernel_rfl) (by kernel_rfl) (by kernel_rfl) (fun _ _ _ h => h) (Or.inl ⟨by rfl, ?_⟩) hHeld ?_
    rotate_left
    · (intro w0 hSw; (try dsimp only at hSw); go_simp <;> with_reducible rfl)
    simp only [List.getElem_toArray, List.getElem_cons_succ, List.getElem_cons_zero, Act.put, List.setIfInBounds_toArray, List.set_cons_zero, List.set_cons_succ]
    refine wpAnyH_take (i := 8) (v := ?_) rfl (by kernel_rfl) (by kernel_rfl) (by kernel_rfl) (fun _ _ _ h => h) (Or.inl ⟨by rfl, ?_⟩) hHeld ?_
    rotate_left
    · (intro w0 hSw; (try dsimp only at hSw); go_simp <;> with_reducible rfl)
    simp only [List.getElem_toArray, List.getElem_cons_succ, List.getElem_cons_zero, Act.put, List.setIfInBounds_toArray, List.set_cons_zero, List.set_cons_succ]
    refine wpAnyH_ready (rs := [9]) (by kernel_rfl) (by simp) ?_
    refine AllReadyH.cons rfl (fun K hK => ?_) AllReadyH.nil
    simp only [List.getElem_toArray, List.getElem_cons_succ, List.getElem_cons_zero]
    go_simp
    refine (crossings_any P0 a b _ w3.drew hp hab.1 hab.2).mono ?_
    rintro e w4 ⟨v4, rfl, ho4, hb4⟩
    generalize hR : crossL _ (plE P0 a b) = R at ho4
    have HER := Lib.hid (HE.out.trans hR)
    clear hR
    have HH4 := Lib.hid (HHN.out.drew.below hb4)
    have k0 : w4.cell? ⟨g, 4, none⟩ = some (.slice Ae n ce) := HH4.out.b.cell 4
    have kf : w4.frozen? ⟨g, 4, none⟩ = false := HH4.out.b.frozen 4
    have HB4 := Lib.hid (HB3.out.trans (((Below.refl w3.heap.size w3).drew.trans hb4).mono (by omega)))
    obtain ⟨g4, c4, rfl⟩ : ∃ g4 c4, v4 = .slice (some ⟨g4, 0, none⟩) (b * a) c4 := by
      rcases ho4.2 with ⟨_, h0⟩ | ⟨g4, cap, _, e, _⟩
      · omega
      · exact ⟨g4, cap, e⟩
    have HO4 := Lib.hid ho4
    have HR4 : Hid (RowR w4 g4 0 (b * a * 6) (fun j => .int .i64 (R.getD j 0))) := Lib.hid (fun j hj => by
      obtain ⟨_, _, e, _, hr⟩ := hk_rd6 HO4.out (by omega)
      injection e with e
      injection e with e e2
      subst e e2
      exact hr j hj)
    refine hK.out _ _ k0 (fun hHeld1 => ?_)
    clear hK K hHeld ho4 hb4
    refine wpAnyH_ready (rs := [10]) (by kernel_rfl) (by simp) ?_
    refine AllReadyH.cons rfl (fun K hK => ?_) AllReadyH.nil
    simp only [List.getElem_toArray, List.getElem_cons_succ, List.getElem_cons_zero]
    refine step_appRx w4 (by rfl) (.tmp 33) (.tmp 38) _ (by rfl) B 77 i0 _ 6 48 Try.underlying28 hi0 iz is ib rfl (by omega) (.slice Ae n ce) n (ints E) (by rfl) HH4.out.e g4 0 (b * a) c4 (fun j => .int .i64 (R.getD j 0)) (by rfl) HR4.out (fun j => rfl) (by unfold maxLen; omega) (by omega) (Nat.le_trans hB HB4.out.size) ?_
    intro v5 w5 hown5 hfr5 hat5
    obtain ⟨A5, c5, rfl⟩ := own_form hown5
    have hob : ∀ b, (Value.slice Ae n ce).ownBlock = some b → tg b = 2 := HH4.out.te
    have hgn : ¬ (Value.slice Ae n ce).ownBlock = some g := fun e => by have := hob _ e; have := HH4.out.tb; omega
    have hlg := World.block_lt_of_cell? w4 _ k0
    have k5 := (hfr5.cells hlg hgn 4).trans k0
    have k5f : w5.frozen? ⟨g, 4, none⟩ = false := (World.frozen?_of_block (w := w4) (a := ⟨g, 4, none⟩) (hfr5.block g hlg hgn)).trans kf
    refine hK.out _ _ k5 (fun hHeld3 => ?_)
    clear hK K hHeld1
    have hfree : HFree tg (.slice A5 (n + b * a) c5) 2 := fun b hb => by
      rcases hat5 with h | h
      · exact .inr (hob b (h.symm.trans hb))
      · refine .inl (Decidable.byContradiction fun hne => ?_)
        have h1 := HH4.out.lt b hne
        rw [hb] at h
        injection h with h
        omega
    have hown6 : w5.ownsRow B 77 6 (.slice A5 (n + b * a) c5) (n + b * a) (ints (E ++ R)) := by
      have hl : R.length = b * a * 6 := by have := HO4.out.1; simpa [ints] using this
      have h9 := hown5
      rw [ints_get R _ hl, ← ints_app] at h9
      exact h9
    have HM := Lib.hid (HH4.out.putE (w' := w5) (fun b h0 h2 => hfr5.block b (HH4.out.lt b h0) fun e => h2 (hob b e)) hfr5.size hown6 hfree (o := 4) rfl)
    have HBL := Lib.hid (Below.setCell (p := ⟨g, 4, none⟩) (HB4.out.trans (hfr5.own HH4.out.e (Nat.le_trans hB HB4.out.size))) HH4.out.lo (.slice A5 (n + b * a) c5))
    clear hob hgn hlg k0 kf hfree hfr5 hown5 hat5 hown6 n0 nf
    refine wpAnyH_take (i := 11) (v := ?_) rfl (by kernel_rfl) (by kernel_rfl) (by kernel_rfl) (fun _ _ _ h => h) (Or.inl ⟨by rfl, ?_⟩) hHeld3 ?_
    rotate_left
    · (intro w0 hSw; (try dsimp only at hSw); go_simp <;> with_reducible rfl)
    simp only [List.getElem_toArray, List.getElem_cons_succ, List.getElem_cons_zero, Act.put, List.setIfInBounds_toArray, List.set_cons_zero, List.set_cons_succ]
    refine wpAnyH_take (i := 12) (v := ?_) rfl (by kernel_rfl) (by kernel_rfl) (by kernel_rfl) (fun _ _ _ h => h) (Or.inl ⟨by rfl, ?_⟩) hHeld3 ?_
    rotate_left
    · (intro w0 hSw; (try dsimp only at hSw); go_simp <;> with_reducible rfl)
    simp only [List.getElem_toArray, List.getElem_cons_succ, List.getElem_cons_zero, Act.put, List.setIfInBounds_toArray, List.set_cons_zero, List.set_cons_succ]
    refine wpAnyH_done (by kernel_rfl) ?_ _
    refine LastPost.of ?_
    go_simp
    clear hHeld3 k5 k5f
    go_wp2_with fail
    obtain ⟨w6, hw6⟩ : ∃ x, x = w5.setCell ⟨g, 4, none⟩ (.slice A5 (n + b * a) c5) := ⟨_, rfl⟩
    rw [← hw6] at HM HBL ⊢
    clear hw6
    have hown6 := HII.out w6 HM.out.k
    have HO6 := Lib.hid hown6
    have hgi6 := hown6.lt gi rfl
    obtain ⟨j0, hj0, jz, js, jb⟩ := info_parts info64
    have hb7 : Below w6.heap.size w6 (w6.drew.alloc (.cells #[.slice (some ⟨gi, 2, none⟩) 2 (ci - 2), .slice (some ⟨gi, 0, none⟩) 2 ci] 38)) := (Below.refl w6.heap.size w6).drew.alloc (Nat.le_refl _) _
    have HH7 := Lib.hid (HM.out.below hb7)
    have hX := box_new w6.drew #[.slice (some ⟨gi, 2, none⟩) 2 (ci - 2), .slice (some ⟨gi, 0, none⟩) 2 ci] 38
    have HO7 := Lib.hid (own_below hown6 hb7)
    have hcl7 : ∀ j, j < 4 → (w6.drew.alloc (.cells #[.slice (some ⟨gi, 2, none⟩) 2 (ci - 2), .slice (some ⟨gi, 0, none⟩) 2 ci] 38)).cell? ⟨gi, j, none⟩ = some (.int .i64 (L.getD j 0)) := fun j hj => by
      rw [HO7.out.cellAt j (by omega)]
      simp [ints, List.getD, show j < L.length by omega]
    have HCC := Lib.hid (concatC_any w6.drew.heap.size 2 2 (fun i => if i = 0 then L.drop 2 else L.take 2) (w6.drew.alloc (.cells #[.slice (some ⟨gi, 2, none⟩) 2 (ci - 2), .slice (some ⟨gi, 0, none⟩) 2 ci] 38)) (fun i hi => by
      rcases (show i = 0 ∨ i = 1 by omega) with rfl | rfl
      · refine ⟨some ⟨gi, 2, none⟩, ci - 2, ?_, fun _ => ⟨gi, 2, rfl, by have := hb7.size; omega, fun j hj => ?_⟩⟩
        · have h9 := HCRL.out.1
          show _ = some (Value.slice _ (L.drop 2).length _)
          rw [h9]
          exact hX 0
        · have hj2 : j < 2 := by have h9 := HCRL.out.1; have h8 : j < (L.drop 2).length := hj; omega
          have h7 := hcl7 (2 + j) (by omega)
          show _ = some (Value.int .i64 ((L.drop 2).getD j 0))
          simp only [List.getD, List.getElem?_drop]
          exact h7
      · refine ⟨some ⟨gi, 0, none⟩, ci, ?_, fun _ => ⟨gi, 0, rfl, by have := hb7.size; omega, fun j hj => ?_⟩⟩
        · have h9 := HCRL.out.2
          show _ = some (Value.slice _ (L.take 2).length _)
          rw [h9]
          exact hX 1
        · have hj2 : j < 2 := by have h9 := HCRL.out.2; have h8 : j < (L.take 2).length := hj; omega
          have h7 := hcl7 j (by omega)
          show _ = some (Value.int .i64 ((L.take 2).getD j 0))
          rw [Nat.zero_add]
          simp only [List.getD, List.getElem?_take, if_pos hj2]
          exact h7) (by simp) (by have h9 := HCRL.out; simp only [catC, List.nil_append, List.length_append]; simp only [if_pos, if_neg (show ¬ (1 : Nat) = 0 by omega)]; omega) (by omega))
    have HCT := Lib.hid (show catC (fun i => if i = 0 then L.drop 2 else L.take 2) 2 = L.drop 2 ++ L.take 2 by simp [catC])
    have HB7 := Lib.hid (HBL.out.trans (hb7.mono (Nat.le_trans hB HBL.out.size)))
    clear hb7 hX hcl7 hown6
    refine wp_region_lastL (S := fun _ => True) _ (by simp) (by kernel_rfl) (by kernel_rfl) trivial (fun hHeld => ?_)
    simp only [List.dropLast, List.getLast_cons_cons, List.getLast_singleton, List.length_cons, List.length_nil]
    refine wpAnyH_take (i := 0) (v := ?_) rfl (by kernel_rfl) (by kernel_rfl) (by kernel_rfl) (fun _ _ _ h => h) (Or.inl ⟨by rfl, ?_⟩) hHeld ?_
    rotate_left
    · (intro w0 hSw; (try dsimp only at hSw); go_simp <;> with_reducible rfl)
    simp only [List.getElem_toArray, List.getElem_cons_succ, List.getElem_cons_zero, Act.put, List.setIfInBounds_toArray, List.set_cons_zero, List.set_cons_succ]
    refine wpAnyH_take (i := 1) (v := ?_) rfl (by kernel_rfl) (by kernel_rfl) (by kernel_rfl) (fun _ _ _ h => h) (Or.inl ⟨by rfl, ?_⟩) hHeld ?_
    rotate_left
    · (intro w0 hSw; (try dsimp only at hSw); go_simp <;> with_reducible rfl)
    simp only [List.getElem_toArray, List.getElem_cons_succ, List.getElem_cons_zero, Act.put, List.setIfInBounds_toArray, List.set_cons_zero, List.set_cons_succ]
    refine wpAnyH_take (i := 2) (v := ?_) rfl (by kernel_rfl) (by kernel_rfl) (by kernel_rfl) (fun _ _ _ h => h) (Or.inl ⟨by rfl, ?_⟩) hHeld ?_
    rotate_left
    · (intro w0 hSw; (try dsimp only at hSw); go_simp <;> with_reducible rfl)
    simp only [List.getElem_toArray, List.getElem_cons_succ, List.getElem_cons_zero, Act.put, List.setIfInBounds_toArray, List.set_cons_zero, List.set_cons_succ]
    refine wpAnyH_take (i := 3) (v := ?_) rfl (by kernel_rfl) (by kernel_rfl) (by kernel_rfl) (fun _ _ _ h => h) (Or.inl ⟨by rfl, ?_⟩) hHeld ?_
    rotate_left
    · (intro w0 hSw; (try dsimp only at hSw); go_simp <;> with_reducible rfl)
    simp only [List.getElem_toArray, List.getElem_cons_succ, List.getElem_cons_zero, Act.put, List.setIfInBounds_toArray, List.set_cons_zero, List.set_cons_succ]
    refine wpAnyH_take (i := 4) (v := ?_) rfl (by kernel_rfl) (by kernel_rfl) (by kernel_rfl) (fun _ _ _ h => h) (Or.inl ⟨by rfl, ?_⟩) hHeld ?_
    rotate_left
    · (intro w0 hSw; (try dsimp only at hSw); go_simp <;> with_reducible rfl)
    simp only [List.getElem_toArray, List.getElem_cons_succ, List.getElem_cons_zero, Act.put, List.setIfInBounds_toArray, List.set_cons_zero, List.set_cons_succ]
    refine wpAnyH_take (i := 5) (v := ?_) rfl (by kernel_rfl) (by kernel_rfl) (by kernel_rfl) (fun _ _ _ h => h) (Or.inl ⟨by rfl, ?_⟩) hHeld ?_
    rotate_left
    · (intro w0 hSw; (try dsimp only at hSw); go_simp <;> with_reducible rfl)
    simp only [List.getElem_toArray, List.getElem_cons_succ, List.getElem_cons_zero, Act.put, List.setIfInBounds_toArray, List.set_cons_zero, List.set_cons_succ]
    refine wpAnyH_take (i := 6) (v := ?_) rfl (by kernel_rfl) (by kernel_rfl) (by kernel_rfl) (fun _ _ _ h => h) (Or.inl ⟨by rfl, ?_⟩) hHeld ?_
    rotate_left
    · (intro w0 hSw; (try dsimp only at hSw); go_simp <;> with_reducible rfl)
    simp only [List.getElem_toArray, List.getElem_cons_succ, List.getElem_cons_zero, Act.put, List.setIfInBounds_toArray, List.set_cons_zero, List.set_cons_succ]
    refine wpAnyH_ready (rs := [7]) (by kernel_rfl) (by simp) ?_
    refine AllReadyH.cons rfl (fun K hK => ?_) AllReadyH.nil
    simp only [List.getElem_toArray, List.getElem_cons_succ, List.getElem_cons_zero]
    go_simp
    refine hK.out _ _ trivial (fun hHeld1 => ?_)
    clear hK K hHeld
    refine wpAnyH_ready (rs := [8]) (by kernel_rfl) (by simp) ?_
    refine AllReadyH.cons rfl (fun K hK => ?_) AllReadyH.nil
    simp only [List.getElem_toArray, List.getElem_cons_succ, List.getElem_cons_zero]
    go_simp
    refine HCC.out.mono ?_
    rintro e w8 ⟨v8, rfl, ho8, hb8⟩
    refine hK.out _ _ trivial (fun hHeld2 => ?_)
    clear hK K hHeld1
    rw [HCT.out] at ho8
    have HCX := HCR
    have hl8 : (L.drop 2 ++ L.take 2).length = 4 := by rw [List.length_append]; have := HCRL.out; omega
    generalize L.drop 2 ++ L.take 2 = X8 at ho8 hl8 HCX
    rw [hl8] at ho8
    obtain ⟨g8, c8, rfl⟩ : ∃ g8 c8, v8 = .slice (some ⟨g8, 0, none⟩) 4 c8 := by
      rcases ho8.2 with ⟨_, h0⟩ | ⟨g8, cap, _, e, _⟩
      · omega
      · exact ⟨g8, cap, e⟩
    have HH8 := Lib.hid (HH7.out.below hb8)
    have HB8 := Lib.hid (HB7.out.trans (hb8.mono (Nat.le_trans hB HB7.out.size)))
    have HO8 := Lib.hid (HII.out w8 HH8.out.k)
    have HS8 := Lib.hid ho8
    clear ho8 hb8
    refine wpAnyH_done (by kernel_rfl) ?_ _
    refine LastPost.of ?_
    refine oper_copy_own (.tmp 42) (.tmp 50) _ _ (by rfl) 2 Try.underlying38 (by rw [hj0]; simp [js]) B gi 4 ci (ints L) (by rfl) HO8.out g8 0 c8 (ints X8) (by rfl) (by simp [ints, hl8]) (fun j v hj => ?_) (fun v hv => ?_) ?_
    · rw [Nat.zero_add, HS8.out.cellAt j (by have h1 := (List.getElem?_eq_some_iff.1 hj).1; simp [ints] at h1; omega)]
      exact hj
    · exact ints_one _ v hv
    intro w9 ho9 hf9 hz9
    go_wp2_with fail
    go_end0
    exact ⟨rfl, w8, ⟨_, _, _, _, _, by rw [HER.out]; exact HH8.out⟩, HB8.out, hf9, Nat.le_of_eq hz9.symm, by rw [HCX.out]; exact ho9⟩
end
theorem implCross_any (K0 : Inhabited HKeepT) {B g q : Nat} {E : List Int} {C : Nat → List Int} {w : World} {d c : Int} {A : Option Addr} {m qq : Nat} (gi n ci : Nat) (k P0 : Int) (L : List Int) (H : @HkM (ownKeep K0 B (.slice (some ⟨gi, 0, none⟩) n ci) n L) 101 (mkI d c A m qq) B g q E C w) (hB : B ≤ w.heap.size) (hE : E.length ≤ 500000) (hp : 0 ≤ P0 ∧ P0 ≤ 1000000000) (hL : L.length = n) (hn : n = tkN k) (hSm : Sml L) (hs : sumI L ≤ 100) (hs1 : ∀ x ∈ L, 1 ≤ x) (h0 : signI k ≠ 0) :
    Calls Try.prog 101 #[.pointer (some ⟨g, 0, none⟩), .int .i64 k, .int .i64 P0, .slice (some ⟨gi, 0, none⟩) n ci] w fun e w' => e = .returned (.tuple #[]) ∧ @HkM (ownKeep K0 B (.slice (some ⟨gi, 0, none⟩) n ci) n (crs k L)) 101 (mkI d c A m qq) B g q (E ++ crsE P0 k L) C w' ∧ Below B w w' := by
  have hI : ∀ w', (ownKeep K0 B (.slice (some ⟨gi, 0, none⟩) n ci) n L).default.P w' → w'.ownsRow B 2 1 (.slice (some ⟨gi, 0, none⟩) n ci) n (ints L) := fun w' h => h.2.1
  have hgi : B ≤ gi := ((hI w (HkM.free _ H).2).lt gi rfl).1
  have hfin : ∀ e w', @CrossP (ownKeep K0 B (.slice (some ⟨gi, 0, none⟩) n ci) n L) 101 (mkI d c A m qq) B g q (E ++ crsE P0 k L) C gi n ci (crs k L) w e w' → e = .returned (.tuple #[]) ∧ @HkM (ownKeep K0 B (.slice (some ⟨gi, 0, none⟩) n ci) n (crs k L)) 101 (mkI d c A m qq) B g q (E ++ crsE P0 k L) C w' ∧ Below B w w' := by
    rintro e w' ⟨he, w2, h1, h2, h3, h4, h5⟩
    exact ⟨he, HkM.ownSet K0 h1 h4 (fun b hb hne => h3.block b hb fun e => hne (by rw [e]; rfl)) h5, h2.trans (h3.below (Nat.le_trans hB h2.size) fun b hb => by rw [hb]; exact hgi)⟩
  have hkk : k = 8 ∨ k = 9 ∨ k = 5 ∨ k = 10 ∨ k = 11 := Decidable.byContradiction fun hn => h0 (by unfold signI; rw [if_neg (by omega), if_neg (by omega)])
  rcases hkk with rfl | rfl | rfl | rfl | rfl
  · obtain rfl : n = 2 := hn
    exact (@implCross1_any (ownKeep K0 B (.slice (some ⟨gi, 0, none⟩) 2 ci) 2 L) _ _ _ _ _ _ _ _ _ _ _ gi ci 8 1 P0 L H hI hB hE hp hL hSm hs hs1 (by simp)).mono hfin
  · obtain rfl : n = 2 := hn
    exact (@implCross1_any (ownKeep K0 B (.slice (some ⟨gi, 0, none⟩) 2 ci) 2 L) _ _ _ _ _ _ _ _ _ _ _ gi ci 9 (-1) P0 L H hI hB hE hp hL hSm hs hs1 (by simp)).mono hfin
  · obtain rfl : n = 2 := hn
    exact (@implCross1_any (ownKeep K0 B (.slice (some ⟨gi, 0, none⟩) 2 ci) 2 L) _ _ _ _ _ _ _ _ _ _ _ gi ci 5 (-1) P0 L H hI hB hE hp hL hSm hs hs1 (by simp)).mono hfin
  · obtain rfl : n = 4 := hn
    exact (@implCross2_any (ownKeep K0 B (.slice (some ⟨gi, 0, none⟩) 4 ci) 4 L) _ _ _ _ _ _ _ _ _ _ _ gi ci 10 1 P0 L H hI hB hE hp hL hSm hs hs1 (by simp)).mono hfin
  · obtain rfl : n = 4 := hn
    exact (@implCross2_any (ownKeep K0 B (.slice (some ⟨gi, 0, none⟩) 4 ci) 4 L) _ _ _ _ _ _ _ _ _ _ _ gi ci 11 (-1) P0 L H hI hB hE hp hL hSm hs hs1 (by simp)).mono hfin
end Go.Proofs.Ytacppheedleamaa

set_option linter.unusedVariables false
set_option linter.unusedSimpArgs false
namespace Go.Proofs.Ytacppheedleamaa
open Go.RowKit
set_option maxRecDepth 20000

/-- What is left of a list, cut at P: a slice value of what is behind P. -/
def RestV (g n cap P : Nat) (u : Value) : Prop := ∃ p, u = .slice (some p) (n - P) (cap - P) ∧ (P < n → p = ⟨g, P, none⟩)
theorem RestV.next1 {g n cap P T : Nat} {pr : Addr} (h : cap - P = T) (hn : n ≤ cap) (hT : P + T ≤ n) : RestV g n cap (P + T) (.slice (some pr) (n - P - T) 0) :=
  ⟨pr, by rw [Nat.sub_sub, show cap - (P + T) = 0 by omega], fun h => by omega⟩
theorem RestV.next2 {g n cap P T : Nat} {pr : Addr} (hp : P < n → pr = ⟨g, P, none⟩) (hT : P + T ≤ n) : RestV g n cap (P + T) (.slice (some (pr.add T)) (n - P - T) (cap - P - T)) :=
  ⟨pr.add T, by rw [Nat.sub_sub, Nat.sub_sub], fun h => by rw [hp (by omega), Addr.add_lit]⟩
set_option maxHeartbeats 4000000 in
theorem implBegin_any {B g : Nat} {w : World} {d c : Int} {A : Option Addr} {m qq : Nat} (z s : Nat → Int) (As : Option Addr) (n cs : Nat) (C0 : Nat → List Int) (H : HkM 101 (mkI d c A m qq) B g 0 [] C0 w) (hB : B ≤ w.heap.size) (hz : Rd w A m (fun j => .int .i64 (z j))) (hzB : ∀ b, Fb A m b → b < B) (hs : Rd w As n (fun j => .int .i64 (s j))) (hn : 0 < n) (hf : RowFit s z n m) :
    Calls Try.prog 66 #[.pointer (some ⟨g, 0, none⟩), .slice As n cs] w (HkP 101 (mkI d c A m qq) B g m (bgE s z m) (cel0 s z) w) := by
  obtain ⟨j0, hj0, jz, js, jb⟩ := info_parts infoSl64
  have hm8 := hf.m8
  have hn8 := hf.n8
  have HF := Lib.hid hf
  have HZ := Lib.hid hz
  have HZB := Lib.hid hzB
  have HK0 := Lib.hid H
  have hAs : ∃ p, As = some p := by obtain ⟨g, o, e, _⟩ := hs hn; exact ⟨_, e⟩
  obtain ⟨p, rfl⟩ := hAs
  obtain ⟨SL, hSL⟩ : ∃ L, L = (List.range n).map s := ⟨_, rfl⟩
  have hSLn : SL.length = n := by rw [hSL]; simp
  have hSg : ∀ j, j < n → SL.getD j 0 = s j := fun j hj => by rw [hSL]; simp [List.getD, hj]
  have HSL := Lib.hid hSL
  have HSG := Lib.hid hSg
  have hcl := cloneC_any (some p) cs SL w (by rw [hSLn]; exact hs.congr fun j hj => by rw [hSg j hj]) (fun e => by cases e) (by omega)
  rw [hSLn] at hcl
  have HCL := Lib.hid hcl
  clear hf hz hzB H hs hSL hSg hcl
  go_enter Try.func66, Try.ntmps66
  go_wp2_with fail
  refine HCL.out.mono ?_
  rintro e w1 ⟨v1, rfl, ho1, hb1⟩
  rw [hSLn] at ho1
  obtain ⟨gR, cR, rfl⟩ : ∃ gR cR, v1 = .slice (some ⟨gR, 0, none⟩) n cR := by
    rcases ho1.2 with ⟨_, h0⟩ | ⟨gR, cap, _, e, _⟩
    · omega
    · exact ⟨gR, cap, e⟩
  have hcR : n ≤ cR := by
    rcases ho1.2 with ⟨e, _⟩ | ⟨_, cap, _, e, _, _, hn, _⟩
    · cases e
    · injection e with _ _ e3
      omega
  have HB1 := Lib.hid (hb1.mono hB)
  have hgR := ho1.lt gR rfl
  have HM1 := Lib.hid (HK0.out.keep hb1 (rowKeep (some ⟨gR, 0, none⟩) n (fun j => .int .i64 (s j))) ((hk_rd ho1).congr fun j hj => by rw [HSG.out j hj]) (fun b hb => by
    obtain ⟨_, a, e, hb⟩ := hb
    injection e with e
    subst e
    have e2 : gR = b := hb
    omega))
  obtain ⟨HMF, _⟩ := HkM.free _ HM1.out
  obtain ⟨tg, ev, cl, nE, U, H1⟩ := HMF
  have m2 : w1.cell? ⟨g, 2, none⟩ = some (.slice A m qq) := H1.b.cell 2
  clear HK0 ho1 hb1 H1 HCL hgR
  go_wp2_with fail
  clear m2
  go_loopw [4, 5, 18] (fun ru pl x wr => ∃ i : Nat, i ≤ m ∧ x = .int .i64 i ∧ pl = .int .i64 (befI (seg s z) i) ∧ RestV gR n cR (segT z i) ru ∧ Hid (@HkM (rowKeep (some ⟨gR, 0, none⟩) n (fun j => .int .i64 (s j))) 101 (mkI d c A m qq) B g i (bgE s z i) (cel0 s z) wr) ∧ Hid (Below B w wr)) (fun _ _ x _ => m - (intOf x).toNat)
  case atStart => exact ⟨0, Nat.zero_le _, rfl, rfl, ⟨⟨gR, 0, none⟩, rfl, fun _ => rfl⟩, Lib.hid (by
    obtain ⟨tg, ev, cl, nE, U, H1⟩ := HM1.out
    have h := @HkM.congr (rowKeep (some ⟨gR, 0, none⟩) n (fun j => .int .i64 (s j))) _ _ _ _ 0 [] C0 (cel0 s z) w1 HM1.out fun j hj => by omega
    exact h), HB1⟩
  case round =>
    obtain ⟨i, hi, rfl, rfl, ⟨pr, rfl, hpr⟩, HM2, HB2⟩ := hrel
    by_cases hlt : i < m
    · obtain ⟨gz, oz, rfl, hgz, hrz⟩ := HZ.out (by omega)
      have hgzB : gz < B := HZB.out gz ⟨by omega, _, rfl, rfl⟩
      have cz := at_below HB2.out hgzB (hrz i hlt)
      have hzk := HF.out.hz i hlt
      have hTn : segT z i + tkN (z i) ≤ n := by
        have h1 := segT_mono z (show i + 1 ≤ m by omega)
        rw [HF.out.t] at h1
        exact h1
      have htk := tkN_le (z i)
      obtain ⟨y, hy⟩ : ∃ y, y = z i := ⟨_, rfl⟩
      obtain ⟨T, hT⟩ : ∃ T, T = tkN (z i) := ⟨_, rfl⟩
      obtain ⟨P, hP⟩ : ∃ P, P = segT z i := ⟨_, rfl⟩
      have HY := Lib.hid hy
      have HT := Lib.hid hT
      have HP := Lib.hid hP
      simp only [← hy] at cz hzk
      rw [← hT, ← hP] at hTn
      rw [← hT] at htk
      rw [← hP] at hpr ⊢
      have hbef : 0 ≤ befI (seg s z) i ∧ befI (seg s z) i ≤ 1000 := by
        have h1 := befI_bounds (C := seg s z) (q := i) (b := 20) fun j hj => (small_sml (up5 (HF.out.seg (show j < m by omega)))).2
        omega
      obtain ⟨F, hF⟩ : ∃ F, F = befI (seg s z) i := ⟨_, rfl⟩
      have HFF := Lib.hid hF
      rw [← hF] at hbef ⊢
      have b1 : (0 : Int) ≤ (i : Int) := by omega
      have b2 : (i : Int) < (m : Int) := by omega
      have b3 : (0 : Int) ≤ (T : Int) := by omega
      have b4 : (T : Int) ≤ ((cR - P : Nat) : Int) := by omega
      clear hrz hy hT hP hF
      go_wp2_with fail
      refine (implColumnsTaken_any y _ hzk).mono ?_
      rintro e w' ⟨rfl, rfl⟩
      rw [HY.out, ← HT.out, ← HY.out]
      have hsg := HF.out.seg hlt
      have hLT : (seg s z i).length = T := by rw [seg_length, HT.out]
      have hLg : ∀ j, j < T → (seg s z i).getD j 0 = s (P + j) := fun j hj => by rw [HP.out]; simp [seg, List.getD, show j < tkN (z i) by rw [← HT.out]; exact hj]
      have hbgl := HF.out.bgE hi
      have hsm := small_sml (up5 hsg)
      have HBG := Lib.hid (show bgE s z (i + 1) = bgE s z i ++ crsE F y (seg s z i) by rw [HFF.out, HY.out]; rfl)
      have HBF := Lib.hid (show befI (seg s z) (i + 1) = F + sumI (seg s z i) by rw [HFF.out]; rfl)
      have HCE := Lib.hid (show cel0 s z i = crs y (seg s z i) by rw [HY.out]; rfl)
      have HSEGT := Lib.hid (show segT z (i + 1) = P + T by rw [HP.out, HT.out]; rfl)
      obtain ⟨L, hL⟩ : ∃ L, L = seg s z i := ⟨_, rfl⟩
      rw [← hL] at hsg hLT hLg hsm
      rw [← hL] at HBG HBF HCE
      have HLG := Lib.hid hLg
      have HLS := Lib.hid hsg
      have HLM := Lib.hid hsm
      have HLN := Lib.hid hLT
      have HTY := Lib.hid (show T = tkN y by rw [HT.out, HY.out])
      have hsum2 : 0 ≤ sumI L ∧ sumI L ≤ 20 := hsm.2
      clear hL hsg hLT hLg hsm
      go_wp2_with fail
      obtain ⟨_, hrR⟩ := HkM.free _ HM2.out
      have hcl := cloneC_any (some pr) (cR - P) L wr (by rw [HLN.out]; exact fun h0 => ⟨gR, P, by rw [hpr (by omega)], (by obtain ⟨g9, o9, e9, h9, _⟩ := hrR hn; injection e9 with e9; injection e9 with e9; rw [e9]; exact h9), fun j hj => by
        obtain ⟨g9, o9, e9, h9, hr9⟩ := hrR hn
        injection e9 with e9
        injection e9 with e9 e10
        subst e9 e10
        have h := hr9 (P + j) (by omega)
        rw [Nat.zero_add] at h
        show _ = some (Value.int .i64 (L.getD j 0))
        rw [HLG.out j hj]
        exact h⟩) (fun e => by cases e) (by rw [HLN.out]; omega)
      rw [HLN.out] at hcl
      refine hcl.mono ?_
      clear hcl hrR
      rintro e w3 ⟨v3, rfl, ho3, hb3⟩
      rw [HLN.out] at ho3
      have HV3 := Lib.hid (show ∀ b, v3.ownBlock = some b → wr.heap.size ≤ b from fun b hb => (ho3.lt b hb).1)
      have HM3 := Lib.hid (HkM.keepOwn _ HM2.out hb3 ho3 (Nat.le_trans hB HB2.out.size))
      have HB3 := Lib.hid (HB2.out.trans (hb3.mono (Nat.le_trans hB HB2.out.size)))
      obtain ⟨X, hX⟩ : ∃ X, X = crs y L := ⟨_, rfl⟩
      have HXL := Lib.hid (show X.length = T by rw [hX, crs_length]; exact HLN.out)
      have HXS := Lib.hid (show sumI X = sumI L by rw [hX]; exact crs_sum y L)
      have HXM := Lib.hid (show Sml X by rw [hX]; exact ⟨by rw [crs_length]; exact HLM.out.1.1, fun x hx => HLM.out.1.2 x (crs_mem hx)⟩)
      have HCX2 := Lib.hid (show cel0 s z i = X by rw [hX]; exact HCE.out)
      have HXX := Lib.hid hX
      have HGB : Hid (B ≤ g) := Lib.hid (by
        obtain ⟨⟨tg9, _, _, _, _, h9⟩, _⟩ := HkM.free _ HM2.out
        exact h9.lo)
      clear hX ho3 hb3
      by_cases h0 : signI y = 0
      · have HMX : Hid (@HkM (ownKeep (rowKeep (some ⟨gR, 0, none⟩) n (fun j => .int .i64 (s j))) B v3 T X) 101 (mkI d c (some ⟨gz, oz, none⟩) m qq) B g i (bgE s z (i + 1)) (cel0 s z) w3) := Lib.hid (by
          have h := HM3.out
          rw [HBG.out, HXX.out, crsE, crs, if_pos h0, if_pos h0, List.append_nil]
          exact h)
        have HBX := HB3
        have e8 : ¬ y = 8 := fun e => by rw [e] at h0; exact absurd h0 (by decide)
        have e9 : ¬ y = 9 := fun e => by rw [e] at h0; exact absurd h0 (by decide)
        have e10 : ¬ y = 10 := fun e => by rw [e] at h0; exact absurd h0 (by decide)
        have e11 : ¬ y = 11 := fun e => by rw [e] at h0; exact absurd h0 (by decide)
        have e5 : ¬ y = 5 := fun e => by rw [e] at h0; exact absurd h0 (by decide)
        have f8 : (y == 8) = false := by simpa using e8
        have f9 : (y == 9) = false := by simpa using e9
        have f10 : (y == 10) = false := by simpa using e10
        have f11 : (y == 11) = false := by simpa using e11
        have f5 : (y == 5) = false := by simpa using e5
        rename World => wX
        obtain ⟨tgX, evX, clX, nX, UX, hHX, htg0, hoX⟩ := HkM.ownDrop _ HMX.out
        obtain ⟨Av, cv, rfl⟩ := own_form hoX
        have HX := Lib.hid hHX
        have HOX := Lib.hid hoX
        have HTG := Lib.hid htg0
        obtain ⟨Al, ccl, rfl⟩ := own_form (@HkS.c (rowKeep (some ⟨gR, 0, none⟩) n (fun j => .int .i64 (s j))) _ _ _ _ _ _ _ _ _ _ _ _ _ hHX)
        have HCX := Lib.hid (@HkS.c (rowKeep (some ⟨gR, 0, none⟩) n (fun j => .int .i64 (s j))) _ _ _ _ _ _ _ _ _ _ _ _ _ hHX)
        have HTC := Lib.hid (@HkS.tc (rowKeep (some ⟨gR, 0, none⟩) n (fun j => .int .i64 (s j))) _ _ _ _ _ _ _ _ _ _ _ _ _ hHX)
        have HTB := Lib.hid (@HkS.tb (rowKeep (some ⟨gR, 0, none⟩) n (fun j => .int .i64 (s j))) _ _ _ _ _ _ _ _ _ _ _ _ _ hHX)
        have HLT := Lib.hid (@HkS.lt (rowKeep (some ⟨gR, 0, none⟩) n (fun j => .int .i64 (s j))) _ _ _ _ _ _ _ _ _ _ _ _ _ hHX)
        have m3 : wX.cell? ⟨g, 3, none⟩ = some (.slice Al i ccl) := (@HkS.b (rowKeep (some ⟨gR, 0, none⟩) n (fun j => .int .i64 (s j))) _ _ _ _ _ _ _ _ _ _ _ _ _ hHX).cell 3
        have f3 : wX.frozen? ⟨g, 3, none⟩ = false := (@HkS.b (rowKeep (some ⟨gR, 0, none⟩) n (fun j => .int .i64 (s j))) _ _ _ _ _ _ _ _ _ _ _ _ _ hHX).frozen 3
        have hlg := World.block_lt_of_cell? wX _ m3
        simp only at hlg
        have HGN := Lib.hid (show ¬ (Value.slice Al i ccl).ownBlock = some g from fun e => by have h1 := HTC.out _ e; have h2 := HTB.out; omega)
        have HM3C := Lib.hid m3
        have HF3C := Lib.hid f3
        have hsX := HXS.out
        clear hHX htg0 hoX f3
        go_wp2_with fail
        refine (sumC_any Av T cv X _ HXL.out (hk_rd HOX.out) HXM.out).mono ?_
        rintro e w' ⟨rfl, rfl⟩
        rw [hsX]
        clear hsX
        by_cases hcT : cR - P = T
        all_goals
          go_wp2_with (at_builtin; go_must (refine wpList_appGa wX rfl (.tmp 51) (.tmp 53) _ rfl B 38 j0 _ 1 24 Try.underlying32 hj0 jz js jb rfl (by omega) (.slice Al i ccl) i _ rfl HCX.out _ 1 1 _ rfl rfl (by simp [Value.oneCell']) (by unfold maxLen; omega) (by omega) (Nat.le_trans hB HBX.out.size) ?_); intro v' w' hown' hf' hat'; obtain ⟨A9, c9, rfl⟩ := own_form hown'; have HO9 := Lib.hid hown'; have HF9 := Lib.hid hf'; have HA9 := Lib.hid hat'; have k9 := (hf'.cells hlg HGN.out 3).trans HM3C.out; have f9 := (World.frozen?_of_block (a := ⟨g, 3, none⟩) (hf'.block _ hlg HGN.out)).trans HF3C.out; clear hown' hf' hat')
          clear k9 f9 m3 hlg
          go_roundw
          case rel =>
            have hvn : ∀ b, (Value.slice Av T cv).ownBlock = some b → wr.heap.size ≤ b := HV3.out
            have hvl : ∀ b, (Value.slice Av T cv).ownBlock = some b → b < wX.heap.size := fun b hb => (HOX.out.lt b hb).2
            have hcl : ∀ b, (Value.slice Al i ccl).ownBlock = some b → b < wX.heap.size := fun b hb => (HCX.out.lt b hb).2
            have hnv : ∀ b, (Value.slice Av T cv).ownBlock = some b → ¬ (Value.slice Al i ccl).ownBlock = some b := fun b hb e => by have h1 := HTC.out b e; have h2 := HTG.out b hb; omega
            have hown2 : w'.ownsRow B 2 1 (.slice Av T cv) X.length (ints X) := by
              rw [HXL.out]
              exact hown_blk HOX.out fun b hb => HF9.out.block b (hvl b hb) (hnv b hb)
            obtain ⟨tg', H', _⟩ := @HkS.putC (rowKeep (some ⟨gR, 0, none⟩) n (fun j => .int .i64 (s j))) _ _ _ _ _ _ _ _ _ _ _ _ _ _ HX.out (fun b h0 h3 => HF9.out.block b (HLT.out b h0) fun e => h3 (HTC.out b e)) HF9.out.size (.slice A9 (i + 1) c9) (.slice Av T cv) X HO9.out (fun b hb => by
              rcases HA9.out with h | h
              · exact .inr (HTC.out b (h.symm.trans hb))
              · refine .inl (Decidable.byContradiction fun hne => ?_)
                have h1 := HLT.out b hne
                rw [hb] at h
                injection h with h
                omega) (.inr ⟨hown2, fun b hb => ⟨HTG.out b hb, fun e => by
              rcases HA9.out with h | h
              · exact hnv b hb (h.symm.trans e)
              · rw [e] at h
                injection h with h
                have := hvl b hb
                omega⟩⟩) 3 rfl
            have h1 : (fun j => if j = i then X else cel0 s z j) = cel0 s z := by
              funext j
              by_cases h : j = i
              · rw [if_pos h, h, HCX2.out]
              · rw [if_neg h]
            rw [h1] at H'
            refine ⟨i + 1, by omega, by go_num, by rw [HBF.out], ?_, Lib.hid ⟨_, _, _, _, _, H'⟩, Lib.hid (Below.setCell (p := ⟨g, 3, none⟩) (HBX.out.trans (HF9.out.own HCX.out (Nat.le_trans hB HBX.out.size))) HGB.out _)⟩
            rw [HSEGT.out]
            first
              | exact RestV.next1 hcT hcR hTn
              | exact RestV.next2 hpr hTn
          case measure => simp [intOf] <;> omega
      · have hkk : y = 8 ∨ y = 9 ∨ y = 5 ∨ y = 10 ∨ y = 11 := Decidable.byContradiction fun hn => h0 (by unfold signI; rw [if_neg (by omega), if_neg (by omega)])
        have hT0 : 0 < T := by rw [HTY.out]; rcases hkk with e | e | e | e | e <;> rw [e] <;> decide
        obtain ⟨gi, ci, rfl⟩ : ∃ gi ci, v3 = .slice (some ⟨gi, 0, none⟩) T ci := by
          rcases (HkM.free _ HM3.out).2.2.1.2 with ⟨_, h9⟩ | ⟨gi, cap, _, e, _⟩
          · omega
          · exact ⟨gi, cap, e⟩
        have hC4 := implCross_any (rowKeep (some ⟨gR, 0, none⟩) n (fun j => .int .i64 (s j))) gi T ci y F L (by have h := HM3.out; exact h) (Nat.le_trans hB HB3.out.size) (by omega) (by omega) HLN.out HTY.out HLM.out.1 (by have := HLM.out.2; omega) (fun x hx => (HLS.out.1 x hx).1) h0
        rw [← HXX.out, ← HBG.out] at hC4
        have HC4 := Lib.hid hC4
        clear hC4 hT0
        rcases hkk with rfl | rfl | rfl | rfl | rfl
        all_goals
          go_wp2_with fail
          refine HC4.out.mono ?_
          rintro e w4 ⟨rfl, hM4, hb4⟩
          have HMX := Lib.hid hM4
          have HBX := Lib.hid (HB3.out.trans hb4)
          clear hM4 hb4
          rename World => wX
          obtain ⟨tgX, evX, clX, nX, UX, hHX, htg0, hoX⟩ := HkM.ownDrop _ HMX.out
          have HX := Lib.hid hHX
          have HOX := Lib.hid hoX
          have HTG := Lib.hid htg0
          obtain ⟨Al, ccl, rfl⟩ := own_form (@HkS.c (rowKeep (some ⟨gR, 0, none⟩) n (fun j => .int .i64 (s j))) _ _ _ _ _ _ _ _ _ _ _ _ _ hHX)
          have HCX := Lib.hid (@HkS.c (rowKeep (some ⟨gR, 0, none⟩) n (fun j => .int .i64 (s j))) _ _ _ _ _ _ _ _ _ _ _ _ _ hHX)
          have HTC := Lib.hid (@HkS.tc (rowKeep (some ⟨gR, 0, none⟩) n (fun j => .int .i64 (s j))) _ _ _ _ _ _ _ _ _ _ _ _ _ hHX)
          have HTB := Lib.hid (@HkS.tb (rowKeep (some ⟨gR, 0, none⟩) n (fun j => .int .i64 (s j))) _ _ _ _ _ _ _ _ _ _ _ _ _ hHX)
          have HLT := Lib.hid (@HkS.lt (rowKeep (some ⟨gR, 0, none⟩) n (fun j => .int .i64 (s j))) _ _ _ _ _ _ _ _ _ _ _ _ _ hHX)
          have m3 : wX.cell? ⟨g, 3, none⟩ = some (.slice Al i ccl) := (@HkS.b (rowKeep (some ⟨gR, 0, none⟩) n (fun j => .int .i64 (s j))) _ _ _ _ _ _ _ _ _ _ _ _ _ hHX).cell 3
          have f3 : wX.frozen? ⟨g, 3, none⟩ = false := (@HkS.b (rowKeep (some ⟨gR, 0, none⟩) n (fun j => .int .i64 (s j))) _ _ _ _ _ _ _ _ _ _ _ _ _ hHX).frozen 3
          have hlg := World.block_lt_of_cell? wX _ m3
          simp only at hlg
          have HGN := Lib.hid (show ¬ (Value.slice Al i ccl).ownBlock = some g from fun e => by have h1 := HTC.out _ e; have h2 := HTB.out; omega)
          have HM3C := Lib.hid m3
          have HF3C := Lib.hid f3
          have hsX := HXS.out
          clear hHX htg0 hoX f3
          go_wp2_with fail
          refine (sumC_any (some ⟨gi, 0, none⟩) T ci X _ HXL.out (hk_rd HOX.out) HXM.out).mono ?_
          rintro e w' ⟨rfl, rfl⟩
          rw [hsX]
          clear hsX
          by_cases hcT : cR - P = T
          all_goals
            go_wp2_with (at_builtin; go_must (refine wpList_appGa wX rfl (.tmp 51) (.tmp 53) _ rfl B 38 j0 _ 1 24 Try.underlying32 hj0 jz js jb rfl (by omega) (.slice Al i ccl) i _ rfl HCX.out _ 1 1 _ rfl rfl (by simp [Value.oneCell']) (by unfold maxLen; omega) (by omega) (Nat.le_trans hB HBX.out.size) ?_); intro v' w' hown' hf' hat'; obtain ⟨A9, c9, rfl⟩ := own_form hown'; have HO9 := Lib.hid hown'; have HF9 := Lib.hid hf'; have HA9 := Lib.hid hat'; have k9 := (hf'.cells hlg HGN.out 3).trans HM3C.out; have f9 := (World.frozen?_of_block (a := ⟨g, 3, none⟩) (hf'.block _ hlg HGN.out)).trans HF3C.out; clear hown' hf' hat')
            clear k9 f9 m3 hlg
            go_roundw
            case rel =>
              have hvn : ∀ b, (Value.slice (some ⟨gi, 0, none⟩) T ci).ownBlock = some b → wr.heap.size ≤ b := HV3.out
              have hvl : ∀ b, (Value.slice (some ⟨gi, 0, none⟩) T ci).ownBlock = some b → b < wX.heap.size := fun b hb => (HOX.out.lt b hb).2
              have hcl : ∀ b, (Value.slice Al i ccl).ownBlock = some b → b < wX.heap.size := fun b hb => (HCX.out.lt b hb).2
              have hnv : ∀ b, (Value.slice (some ⟨gi, 0, none⟩) T ci).ownBlock = some b → ¬ (Value.slice Al i ccl).ownBlock = some b := fun b hb e => by have h1 := HTC.out b e; have h2 := HTG.out b hb; omega
              have hown2 : w'.ownsRow B 2 1 (.slice (some ⟨gi, 0, none⟩) T ci) X.length (ints X) := by
                rw [HXL.out]
                exact hown_blk HOX.out fun b hb => HF9.out.block b (hvl b hb) (hnv b hb)
              obtain ⟨tg', H', _⟩ := @HkS.putC (rowKeep (some ⟨gR, 0, none⟩) n (fun j => .int .i64 (s j))) _ _ _ _ _ _ _ _ _ _ _ _ _ _ HX.out (fun b h0 h3 => HF9.out.block b (HLT.out b h0) fun e => h3 (HTC.out b e)) HF9.out.size (.slice A9 (i + 1) c9) (.slice (some ⟨gi, 0, none⟩) T ci) X HO9.out (fun b hb => by
                rcases HA9.out with h | h
                · exact .inr (HTC.out b (h.symm.trans hb))
                · refine .inl (Decidable.byContradiction fun hne => ?_)
                  have h1 := HLT.out b hne
                  rw [hb] at h
                  injection h with h
                  omega) (.inr ⟨hown2, fun b hb => ⟨HTG.out b hb, fun e => by
                rcases HA9.out with h | h
                · exact hnv b hb (h.symm.trans e)
                · rw [e] at h
                  injection h with h
                  have := hvl b hb
                  omega⟩⟩) 3 rfl
              have h1 : (fun j => if j = i then X else cel0 s z j) = cel0 s z := by
                funext j
                by_cases h : j = i
                · rw [if_pos h, h, HCX2.out]
                · rw [if_neg h]
              rw [h1] at H'
              refine ⟨i + 1, by omega, by go_num, by rw [HBF.out], ?_, Lib.hid ⟨_, _, _, _, _, H'⟩, Lib.hid (Below.setCell (p := ⟨g, 3, none⟩) (HBX.out.trans (HF9.out.own HCX.out (Nat.le_trans hB HBX.out.size))) HGB.out _)⟩
              rw [HSEGT.out]
              first
                | exact RestV.next1 hcT hcR hTn
                | exact RestV.next2 hpr hTn
            case measure => simp [intOf] <;> omega
    · obtain rfl : m = i := by omega
      go_wp2
      go_end0
      exact ⟨rfl, (HkM.free _ HM2.out).1, HB2.out⟩
end Go.Proofs.Ytacppheedleamaa

set_option linter.unusedVariables false
set_option linter.unusedSimpArgs false
namespace Go.Proofs.Ytacppheedleamaa
open Go.RowKit
set_option maxRecDepth 20000

section
variable [Inhabited HKeepT] {T : TypeId} {mk : Value → Value → Array Value} {B g : Nat} {tg : Nat → Nat} {ev cl : Value} {n q : Nat} {E : List Int} {U : Nat → Value} {C : Nat → List Int} {w : World}
/-- The columns of a stitch, by the slice that holds them. -/
theorem HkS.cells {gi ci : Nat} (h : HkS T mk B g tg ev cl n q E U C w) {i : Nat} (hi : i < q) (hU : U i = .slice (some ⟨gi, 0, none⟩) (C i).length ci) (h0 : 0 < (C i).length) : (∀ j, j < (C i).length → w.cell? ⟨gi, j, none⟩ = some (.int .i64 ((C i).getD j 0))) ∧ (∀ j, w.frozen? ⟨gi, j, none⟩ = false) ∧ B ≤ gi ∧ gi < w.heap.size := by
  obtain ⟨gi', ci', e, _, h1, h2, _, h3, h4⟩ := h.readO hi h0
  rw [hU] at e
  injection e with e
  injection e with e
  injection e with e
  subst e
  exact ⟨h3, h4, h2, h1⟩
end
section
variable [Inhabited HKeepT] {B g : Nat} {E : List Int} {C : Nat → List Int} {w : World} {d c : Int} {A : Option Addr} {m qq : Nat}
set_option maxHeartbeats 4000000 in
theorem implMake_any (z : Nat → Int) (i : Nat) (L : List Int) (H : HkM 101 (mkI d c A m qq) B g m E C w) (hB : B ≤ w.heap.size) (hz : Rd w A m (fun j => .int .i64 (z j))) (hzB : ∀ b, Fb A m b → b < B) (hE : E.length ≤ 600000) (hi : i < m) (hC : SmlC C m) (HL : Hid (C i = L)) (hl : L.length = tkN (z i)) (hs : sumI L ≤ 1000) (hk : 1 ≤ z i ∧ z i ≤ 11) :
    Calls Try.prog 68 #[.pointer (some ⟨g, 0, none⟩), .int .i64 i] w (HkP 101 (mkI d c A m qq) B g m (E ++ stE (befI C i) c d (z i) L) (hupd C i (finL (z i) L)) w) := by
  obtain ⟨tg, ev, cl, nE, U, H⟩ := H
  obtain ⟨gc, cap, rfl⟩ := H.form (by omega)
  have hcap : m ≤ cap := by
    rcases H.c.2 with ⟨e, _⟩ | ⟨_, cap', _, e, _, _, h, _⟩
    · cases e
    · injection e with _ _ e3
      omega
  have HH := Lib.hid H
  have HC := Lib.hid hC
  have hq := hC.1
  have hn := H.len
  have hn2 : nE ≤ 1048576 := by omega
  obtain ⟨gz, oz, rfl, hgz, hrz⟩ := hz (by omega)
  have cz := hrz i hi
  have m3 : w.cell? ⟨g, 3, none⟩ = some (.slice (some ⟨gc, 0, none⟩) m cap) := H.b.cell 3
  have m2 : w.cell? ⟨g, 2, none⟩ = some (.slice (some ⟨gz, oz, none⟩) m qq) := H.b.cell 2
  obtain ⟨y, hy⟩ : ∃ y, y = z i := ⟨_, rfl⟩
  simp only [← hy] at cz hk hl
  have HY := Lib.hid hy
  have HLL := Lib.hid hl
  have b1 : (0 : Int) ≤ (i : Int) := by omega
  have b2 : (i : Int) < (m : Int) := by omega
  have b3 : (i : Int) ≤ (cap : Int) := by omega
  have HM3 := Lib.hid m3
  have HM2 := Lib.hid m2
  have HCZ := Lib.hid cz
  clear H hC hz hzB hrz hy hl hn m2 cz
  go_enter Try.func68, Try.ntmps68
  go_wp2_with fail
  clear m3
  go_loop [4, 19] (fun s x => ∃ k : Nat, k ≤ i ∧ x = .int .i64 k ∧ s = .int .i64 (befI C k)) (fun _ x => i - (intOf x).toNat)
  case atStart => exact ⟨0, Nat.zero_le _, rfl, rfl⟩
  case round =>
    obtain ⟨k, hk2, rfl, rfl⟩ := hrel
    have hsb := HC.out.bef (show k ≤ m by omega)
    by_cases hlt : k < i
    · have c2 := HH.out.cellAt (show k < m by omega)
      obtain ⟨A2, c9, hU, hrd⟩ := HH.out.read (show k < m by omega)
      rw [hU] at c2
      have HR := Lib.hid hrd
      have hsum := (HC.out.2 k (by omega)).sum
      have HS := Lib.hid (show befI C (k + 1) = befI C k + sumI (C k) from rfl)
      obtain ⟨X, hX⟩ : ∃ X, X = C k := ⟨_, rfl⟩
      rw [← hX] at c2 HR hsum HS
      have HSM := Lib.hid (show Sml X by rw [hX]; exact HC.out.2 k (by omega))
      have b4 : (0 : Int) ≤ (k : Int) := by omega
      have b5 : (k : Int) < (i : Int) := by omega
      clear hU hrd hX
      go_wp2_with fail
      refine (sumC_any A2 X.length c9 X _ rfl HR.out HSM.out).mono ?_
      rintro e w' ⟨rfl, rfl⟩
      go_wp2_with fail
      go_round
      case rel => exact ⟨k + 1, by omega, by go_num, by rw [HS.out]⟩
      case measure => simp [intOf] <;> omega
    · obtain rfl : i = k := by omega
      have k3 := HM3.out
      have k2 := HM2.out
      have kz := HCZ.out
      obtain ⟨Au, cu, hU, hrd⟩ := HH.out.read hi
      have kc := HH.out.cellAt hi
      rw [hU, HL.out] at kc
      have HRD := Lib.hid hrd
      have HU := Lib.hid hU
      obtain ⟨P0, hP0⟩ : ∃ P, P = befI C i := ⟨_, rfl⟩
      rw [← hP0] at hsb ⊢
      have HP0 := Lib.hid hP0
      have HSM := Lib.hid (show Sml L by rw [← HL.out]; exact HC.out.2 i hi)
      rw [HL.out] at HRD
      clear hU hrd hP0
      by_cases h7 : y = 7
      · subst h7
        have HE := Lib.hid (show stE P0 c d (z i) L = [] by rw [← HY.out]; rfl)
        have HF := Lib.hid (show finL (z i) L = L by rw [← HY.out]; rfl)
        go_wp2_with fail
        go_end0
        exact ⟨rfl, ⟨_, _, _, _, _, by rw [← HP0.out, HE.out, HF.out, List.append_nil, ← HL.out, hupd_self]; exact HH.out⟩, Below.refl _ _⟩
      by_cases h3 : y = 3
      · subst h3
        have HE := Lib.hid (show stE P0 c d (z i) L = evL 3 P0 0 1 c d by rw [← HY.out]; rfl)
        have HF := Lib.hid (show finL (z i) L = [1] by rw [← HY.out]; rfl)
        go_wp2_with fail
        refine (implAdd_any 3 P0 0 1 HH.out hB hn2).mono ?_
        rintro e w3 ⟨rfl, HM3, hb3⟩
        obtain ⟨tg3, ev3, cl3, n3, U3, H3⟩ := HM3
        obtain ⟨gc3, cap3, rfl⟩ := H3.form (by omega)
        have n1 : w3.cell? ⟨g, 3, none⟩ = some (.slice (some ⟨gc3, 0, none⟩) m cap3) := H3.b.cell 3
        have n2 := H3.cellAt hi
        have n5 := H3.cFrozen i
        have hB3 : B ≤ w3.heap.size := Nat.le_trans hB hb3.size
        have h4 := H3.below ((Below.refl w3.heap.size w3).alloc (Nat.le_refl _) (.cells #[.int .i64 1] 2))
        have hlit := World.ownsRow_lit (base := B) (e := 2) (size := 1) w3 #[.int .i64 1] 1 hB3 (by unfold maxLen; omega) rfl
        have HSC := Lib.hid (h4.setC hi (u := .slice (some ⟨w3.heap.size, 0, none⟩) 1 1) (L := [1]) hlit (fun b hb => by
          injection hb with hb
          refine Decidable.byContradiction fun hne => ?_
          have := H3.lt b hne
          simp only at hb
          omega))
        have hgc : B ≤ gc3 := (H3.c.lt gc3 rfl).1
        have HB3 := Lib.hid (Below.setCell (p := ⟨gc3, i, none⟩) (hb3.alloc hB3 (.cells #[.int .i64 1] 2)) hgc (.slice (some ⟨w3.heap.size, 0, none⟩) 1 1))
        have hlt3 : gc3 < w3.heap.size := (H3.c.lt gc3 rfl).2
        have hltg : g < w3.heap.size := H3.b.lt
        rw [World.setCell_alloc_past _ _ _ _ hlt3] at HSC HB3
        clear h4 hlit H3 hb3 hgc k3 k2 kz kc
        go_wp2_with fail
        go_end0
        exact ⟨rfl, ⟨_, _, _, _, _, by rw [← HP0.out, HE.out, HF.out]; exact HSC.out⟩, HB3.out⟩
      by_cases h6 : y = 6
      · subst h6
        have HE := Lib.hid (show stE P0 c d (z i) L = evL 3 (P0 + L.getD 0 0) 0 1 c d by rw [← HY.out]; rfl)
        have HF := Lib.hid (show finL (z i) L = L.set 0 (L.getD 0 0 + 1) by rw [← HY.out]; rfl)
        have hl1 : L.length = 1 := HLL.out
        obtain ⟨gi, hgi⟩ : ∃ gi, Au = some ⟨gi, 0, none⟩ := by
          obtain ⟨gi, ci, e, _⟩ := HH.out.readO hi (by rw [HL.out]; omega)
          rw [HU.out] at e
          injection e with e
          exact ⟨gi, e⟩
        subst hgi
        have hU3 := HU.out
        obtain ⟨hcl, hfr, hBi, hgi⟩ := HH.out.cells hi hU3 (by rw [HL.out]; omega)
        have kx : w.cell? ⟨gi, 0, none⟩ = some (.int .i64 (L.getD 0 0)) := by rw [← HL.out]; exact hcl 0 (by rw [HL.out]; omega)
        have hyb := HSM.out.get 0
        obtain ⟨x, hx⟩ : ∃ x, x = L.getD 0 0 := ⟨_, rfl⟩
        rw [← hx] at HE HF kx hyb
        have HX := Lib.hid hx
        have b6 : (0 : Int) < (L.length : Int) := by omega
        have b7 : 0 < L.length := by omega
        clear hcl hfr hx hU3
        go_wp2_with fail
        refine (implAddS_any 3 (P0 + x) 0 1 HH.out hB hn2).mono ?_
        rintro e w3 ⟨rfl, ⟨tg3, ev3, n3, H3⟩, hb3⟩
        obtain ⟨hcl3, hfr3, _, _⟩ := H3.cells hi HU.out (by rw [HL.out]; omega)
        have n4 : w3.cell? ⟨gi, 0, none⟩ = some (.int .i64 x) := by rw [HX.out, ← HL.out]; exact hcl3 0 (by rw [HL.out]; omega)
        have n5 := hfr3 0
        have HSN := Lib.hid (H3.setN (k := 0) hi HU.out (by rw [HL.out]; omega) (x + 1))
        have HB3 := Lib.hid (Below.setCell (p := ⟨gi, 0, none⟩) hb3 hBi (.int .i64 (x + 1)))
        clear H3 hcl3 hfr3 hb3 k3 k2 kz kc kx
        go_wp2_with fail
        go_end0
        have h9 := HSN.out
        rw [HL.out] at h9
        exact ⟨rfl, ⟨tg3, ev3, _, n3, _, by rw [← HP0.out, HE.out, HF.out]; exact h9⟩, HB3.out⟩
      by_cases h4 : y = 4
      · subst h4
        have HE := Lib.hid (show stE P0 c d (z i) L = evL 2 P0 (sumI L) 1 c d by rw [← HY.out]; rfl)
        have HF := Lib.hid (show finL (z i) L = [1] by rw [← HY.out]; rfl)
        go_wp2_with fail
        refine (sumC_any Au L.length cu L _ rfl HRD.out HSM.out).mono ?_
        rintro e w' ⟨rfl, rfl⟩
        go_wp2_with fail
        refine (implAdd_any 2 P0 (sumI L) 1 HH.out hB hn2).mono ?_
        rintro e w3 ⟨rfl, HM3, hb3⟩
        obtain ⟨tg3, ev3, cl3, n3, U3, H3⟩ := HM3
        obtain ⟨gc3, cap3, rfl⟩ := H3.form (by omega)
        have n1 : w3.cell? ⟨g, 3, none⟩ = some (.slice (some ⟨gc3, 0, none⟩) m cap3) := H3.b.cell 3
        have n2 := H3.cellAt hi
        have n5 := H3.cFrozen i
        have hB3 : B ≤ w3.heap.size := Nat.le_trans hB hb3.size
        have h4 := H3.below ((Below.refl w3.heap.size w3).alloc (Nat.le_refl _) (.cells #[.int .i64 1] 2))
        have hlit := World.ownsRow_lit (base := B) (e := 2) (size := 1) w3 #[.int .i64 1] 1 hB3 (by unfold maxLen; omega) rfl
        have HSC := Lib.hid (h4.setC hi (u := .slice (some ⟨w3.heap.size, 0, none⟩) 1 1) (L := [1]) hlit (fun b hb => by
          injection hb with hb
          refine Decidable.byContradiction fun hne => ?_
          have := H3.lt b hne
          simp only at hb
          omega))
        have hgc : B ≤ gc3 := (H3.c.lt gc3 rfl).1
        have HB3 := Lib.hid (Below.setCell (p := ⟨gc3, i, none⟩) (hb3.alloc hB3 (.cells #[.int .i64 1] 2)) hgc (.slice (some ⟨w3.heap.size, 0, none⟩) 1 1))
        have hlt3 : gc3 < w3.heap.size := (H3.c.lt gc3 rfl).2
        have hltg : g < w3.heap.size := H3.b.lt
        rw [World.setCell_alloc_past _ _ _ _ hlt3] at HSC HB3
        clear h4 hlit H3 hb3 hgc k3 k2 kz kc
        go_wp2_with fail
        go_end0
        exact ⟨rfl, ⟨_, _, _, _, _, by rw [← HP0.out, HE.out, HF.out]; exact HSC.out⟩, HB3.out⟩
      by_cases h5 : y = 5
      · subst h5
        have HE := Lib.hid (show stE P0 c d (z i) L = evL 2 P0 (sumI L) 1 c d by rw [← HY.out]; rfl)
        have HF := Lib.hid (show finL (z i) L = [1] by rw [← HY.out]; rfl)
        go_wp2_with fail
        refine (sumC_any Au L.length cu L _ rfl HRD.out HSM.out).mono ?_
        rintro e w' ⟨rfl, rfl⟩
        go_wp2_with fail
        refine (implAdd_any 2 P0 (sumI L) 1 HH.out hB hn2).mono ?_
        rintro e w3 ⟨rfl, HM3, hb3⟩
        obtain ⟨tg3, ev3, cl3, n3, U3, H3⟩ := HM3
        obtain ⟨gc3, cap3, rfl⟩ := H3.form (by omega)
        have n1 : w3.cell? ⟨g, 3, none⟩ = some (.slice (some ⟨gc3, 0, none⟩) m cap3) := H3.b.cell 3
        have n2 := H3.cellAt hi
        have n5 := H3.cFrozen i
        have hB3 : B ≤ w3.heap.size := Nat.le_trans hB hb3.size
        have h4 := H3.below ((Below.refl w3.heap.size w3).alloc (Nat.le_refl _) (.cells #[.int .i64 1] 2))
        have hlit := World.ownsRow_lit (base := B) (e := 2) (size := 1) w3 #[.int .i64 1] 1 hB3 (by unfold maxLen; omega) rfl
        have HSC := Lib.hid (h4.setC hi (u := .slice (some ⟨w3.heap.size, 0, none⟩) 1 1) (L := [1]) hlit (fun b hb => by
          injection hb with hb
          refine Decidable.byContradiction fun hne => ?_
          have := H3.lt b hne
          simp only at hb
          omega))
        have hgc : B ≤ gc3 := (H3.c.lt gc3 rfl).1
        have HB3 := Lib.hid (Below.setCell (p := ⟨gc3, i, none⟩) (hb3.alloc hB3 (.cells #[.int .i64 1] 2)) hgc (.slice (some ⟨w3.heap.size, 0, none⟩) 1 1))
        have hlt3 : gc3 < w3.heap.size := (H3.c.lt gc3 rfl).2
        have hltg : g < w3.heap.size := H3.b.lt
        rw [World.setCell_alloc_past _ _ _ _ hlt3] at HSC HB3
        clear h4 hlit H3 hb3 hgc k3 k2 kz kc
        go_wp2_with fail
        go_end0
        exact ⟨rfl, ⟨_, _, _, _, _, by rw [← HP0.out, HE.out, HF.out]; exact HSC.out⟩, HB3.out⟩
      have f7 : (y == 7) = false := by simpa using h7
      have f3 : (y == 3) = false := by simpa using h3
      have f6 : (y == 6) = false := by simpa using h6
      have f4 : (y == 4) = false := by simpa using h4
      have f5 : (y == 5) = false := by simpa using h5
      by_cases hy2 : y = 2
      · have g2 : (y == 2) = true := by simpa using hy2
        have hl1 : 0 < L.length := by
          have h := HLL.out
          have h2 : 1 ≤ tkN y := by unfold tkN; (repeat' split) <;> omega
          omega
        obtain ⟨gi, hgi⟩ : ∃ gi, Au = some ⟨gi, 0, none⟩ := by
          obtain ⟨gi, ci, e, _⟩ := HH.out.readO hi (by rw [HL.out]; omega)
          rw [HU.out] at e
          injection e with e
          exact ⟨gi, e⟩
        subst hgi
        obtain ⟨_, _, hBi, hgi⟩ := HH.out.cells hi HU.out (by rw [HL.out]; omega)
        have HUI := Lib.hid (show U i = .slice (some ⟨gi, 0, none⟩) L.length cu by rw [HU.out, HL.out])
        have HBI := Lib.hid hBi
        have HALL := Lib.hid (knS_all P0 2 c d L)
        have HFIN := Lib.hid (show finL (z i) L = List.replicate L.length 1 by rw [← HY.out, finL, if_neg (by omega), if_neg (by omega), if_neg (by omega)])
        have HSTE := Lib.hid (show stE P0 c d (z i) L = (knS P0 2 c d L L.length).1 by rw [← HY.out, stE, if_neg (by omega), if_neg (by omega), if_neg (by omega), if_neg (by omega), if_pos hy2])
        have hcu : L.length ≤ cu := by
          obtain ⟨gi2, ci2, e, h2, _⟩ := HH.out.readO hi (by rw [HL.out]; omega)
          rw [HU.out] at e
          injection e with _ _ e3
          rw [HL.out] at h2
          omega
        have hLn := HSM.out.1
        have HD := Lib.hid HH.out.b
        go_wp2_with fail
        clear k3 k2 kz kc
        go_loopw [48] (fun t wr => ∃ (k : Nat) (tg' : Nat → Nat) (ev' : Value) (n' : Nat), k ≤ L.length ∧ t = .int .i64 k ∧ Hid (HkS 101 (mkI d c (some ⟨gz, oz, none⟩) m qq) B g tg' ev' (.slice (some ⟨gc, 0, none⟩) m cap) n' m (E ++ (knS P0 2 c d L k).1) U (hupd C i (knS P0 2 c d L k).2) wr) ∧ Hid (Below B w wr)) (fun t _ => L.length - (intOf t).toNat)
        case atStart => exact ⟨0, tg, ev, nE, Nat.zero_le _, rfl, Lib.hid (by simp only [knS]; rw [List.append_nil, ← HL.out, hupd_self]; exact HH.out), Lib.hid (Below.refl _ _)⟩
        case round =>
          obtain ⟨k, tgr, evr, nr, hkL, rfl, HHR, HB4⟩ := hrel
          by_cases hlt : k < L.length
          · have r0 : wr.cell? ⟨g, 0, none⟩ = some (.int .i64 d) := HHR.out.b.cell 0
            have hlen := knS_length P0 2 c d L k
            obtain ⟨K, hK⟩ : ∃ K, K = knN d L.length k := ⟨_, rfl⟩
            have HSM2 := Lib.hid (HSM.out.kn (p := P0) (bed := 2) (c := c) (d := d) k)
            have HN1 := Lib.hid (show (knS P0 2 c d L (k + 1)).1 = (knS P0 2 c d L k).1 ++ evL 2 (P0 + sumI ((knS P0 2 c d L k).2.take K)) ((knS P0 2 c d L k).2.getD K 0) 2 c d by rw [hK]; rfl)
            have HN2 := Lib.hid (show (knS P0 2 c d L (k + 1)).2 = (knS P0 2 c d L k).2.set K 1 by rw [hK]; rfl)
            obtain ⟨X1, hX1⟩ : ∃ X, X = (knS P0 2 c d L k).1 := ⟨_, rfl⟩
            obtain ⟨X2, hX2⟩ : ∃ X, X = (knS P0 2 c d L k).2 := ⟨_, rfl⟩
            rw [← hX1, ← hX2] at HHR hlen
            rw [← hX1, ← hX2] at HN1
            rw [← hX2] at HN2 HSM2
            clear hX1 hX2
            have hKl : K < L.length := by rw [hK]; unfold knN; split <;> omega
            have HK := Lib.hid hK
            clear hK
            have hX2L : X2.length = L.length := hlen.1
            have HX2L := Lib.hid hX2L
            have hnr : nr ≤ 1048576 := by
              have h := HHR.out.len
              simp only [List.length_append, hlen.2] at h
              omega
            obtain ⟨hclr, hfrr, _, hgir⟩ := HHR.out.cells hi (by rw [hupd_same, hX2L]; exact HUI.out) (by rw [hupd_same]; omega)
            rw [hupd_same] at hclr
            have hxb := HSM2.out.get K
            have hSb := (HSM2.out.take K).sum
            have kx : wr.cell? ⟨gi, K, none⟩ = some (.int .i64 (X2.getD K 0)) := hclr K (by omega)
            have hq2 : Calls Try.prog 63 #[.slice (some ⟨gi, 0, none⟩) K cu] wr.drew fun e w' => e = .returned (.int .i64 (sumI (X2.take K))) ∧ wr.drew = w' := sumC_any (some ⟨gi, 0, none⟩) K cu (X2.take K) wr.drew (by simp; omega) (fun _ => ⟨gi, 0, rfl, hgir, fun j hj => by
              have := hclr j (by omega)
              rw [Nat.zero_add]
              simp only [List.getD, List.getElem?_take, if_pos hj]
              exact this⟩) (HSM2.out.take K)
            obtain ⟨x, hx⟩ : ∃ x, x = X2.getD K 0 := ⟨_, rfl⟩
            obtain ⟨S, hS⟩ : ∃ S, S = sumI (X2.take K) := ⟨_, rfl⟩
            rw [← hx] at hxb kx HN1
            rw [← hS] at hSb HN1 hq2
            have HQ2 := Lib.hid hq2
            have b8 : (0 : Int) ≤ (K : Int) := by omega
            have b9 : (K : Int) < (L.length : Int) := by omega
            have b10 : (K : Int) ≤ (cu : Int) := by omega
            have b11 : (0 : Int) ≤ (k : Int) := by omega
            clear hclr hfrr hx hS hq2 hlen
            by_cases hd : d = -1
            · subst hd
              have hKI : (L.length : Int) - 1 - (k : Int) = (K : Int) := by rw [HK.out, knN, if_pos rfl]; omega
              go_wp2_with fail
              refine wp_region_lastL (S := fun w' => w'.cell? ⟨gi, K, none⟩ = some (.int .i64 x)) _ (by simp) (by kernel_rfl) (by kernel_rfl) kx (fun hHeld => ?_)
              simp only [List.dropLast, List.getLast_cons_cons, List.getLast_singleton, List.length_cons, List.length_nil]
              refine wpAnyH_take (i := 0) (v := ?_) rfl (by kernel_rfl) (by kernel_rfl) (by kernel_rfl) (fun _ _ _ h => h) (Or.inl ⟨by rfl, ?_⟩) hHeld ?_
              rotate_left
              · (intro w0 hSw; (try dsimp only at hSw); go_simp <;> with_reducible rfl)
              simp only [List.getElem_toArray, List.getElem_cons_succ, List.getElem_cons_zero, Act.put, List.setIfInBounds_toArray, List.set_cons_zero, List.set_cons_succ]
              refine wpAnyH_take (i := 1) (v := ?_) rfl (by kernel_rfl) (by kernel_rfl) (by kernel_rfl) (fun _ _ _ h => h) (Or.inl ⟨by rfl, ?_⟩) hHeld ?_
              rotate_left
              · (intro w0 hSw; (try dsimp only at hSw); go_simp <;> with_reducible rfl)
              simp only [List.getElem_toArray, List.getElem_cons_succ, List.getElem_cons_zero, Act.put, List.setIfInBounds_toArray, List.set_cons_zero, List.set_cons_succ]
              refine wpAnyH_take (i := 2) (v := ?_) rfl (by kernel_rfl) (by kernel_rfl) (by kernel_rfl) (fun _ _ _ h => h) (Or.inl ⟨by rfl, ?_⟩) hHeld ?_
              rotate_left
              · (intro w0 hSw; (try dsimp only at hSw); go_simp <;> with_reducible rfl)
              simp only [List.getElem_toArray, List.getElem_cons_succ, List.getElem_cons_zero, Act.put, List.setIfInBounds_toArray, List.set_cons_zero, List.set_cons_succ]
              refine wpAnyH_take (i := 3) (v := ?_) rfl (by kernel_rfl) (by kernel_rfl) (by kernel_rfl) (fun _ _ _ h => h) (Or.inl ⟨by rfl, ?_⟩) hHeld ?_
              rotate_left
              · (intro w0 hSw; (try dsimp only at hSw); go_simp <;> with_reducible rfl)
              simp only [List.getElem_toArray, List.getElem_cons_succ, List.getElem_cons_zero, Act.put, List.setIfInBounds_toArray, List.set_cons_zero, List.set_cons_succ]
              refine wpAnyH_take (i := 4) (v := ?_) rfl (by kernel_rfl) (by kernel_rfl) (by kernel_rfl) (fun _ _ _ h => h) (Or.inl ⟨by rfl, ?_⟩) hHeld ?_
              rotate_left
              · (intro w0 hSw; (try dsimp only at hSw); go_simp <;> with_reducible rfl)
              simp only [List.getElem_toArray, List.getElem_cons_succ, List.getElem_cons_zero, Act.put, List.setIfInBounds_toArray, List.set_cons_zero, List.set_cons_succ]
              refine wpAnyH_take (i := 7) (v := ?_) rfl (by kernel_rfl) (by kernel_rfl) (by kernel_rfl) (fun _ _ _ h => h) (Or.inl ⟨by rfl, ?_⟩) hHeld ?_
              rotate_left
              · (intro w0 hSw; (try dsimp only at hSw); go_simp <;> with_reducible rfl)
              simp only [List.getElem_toArray, List.getElem_cons_succ, List.getElem_cons_zero, Act.put, List.setIfInBounds_toArray, List.set_cons_zero, List.set_cons_succ]
              refine wpAnyH_take (i := 8) (v := ?_) rfl (by kernel_rfl) (by kernel_rfl) (by kernel_rfl) (fun _ _ _ h => h) (Or.inl ⟨by rfl, ?_⟩) hHeld ?_
              rotate_left
              · (intro w0 hSw; (try dsimp only at hSw); go_simp <;> with_reducible rfl)
              simp only [List.getElem_toArray, List.getElem_cons_succ, List.getElem_cons_zero, Act.put, List.setIfInBounds_toArray, List.set_cons_zero, List.set_cons_succ]
              refine wpAnyH_take (i := 9) (v := ?_) rfl (by kernel_rfl) (by kernel_rfl) (by kernel_rfl) (fun _ _ _ h => h) (Or.inl ⟨by rfl, ?_⟩) hHeld ?_
              rotate_left
              · (intro w0 hSw; (try dsimp only at hSw); go_simp <;> with_reducible rfl)
              simp only [List.getElem_toArray, List.getElem_cons_succ, List.getElem_cons_zero, Act.put, List.setIfInBounds_toArray, List.set_cons_zero, List.set_cons_succ]
              refine wpAnyH_take (i := 10) (v := ?_) rfl (by kernel_rfl) (by kernel_rfl) (by kernel_rfl) (fun _ _ _ h => h) (Or.inl ⟨by rfl, ?_⟩) hHeld ?_
              rotate_left
              · (intro w0 hSw; (try dsimp only at hSw); go_simp <;> with_reducible rfl)
              simp only [List.getElem_toArray, List.getElem_cons_succ, List.getElem_cons_zero, Act.put, List.setIfInBounds_toArray, List.set_cons_zero, List.set_cons_succ]
              refine wpAnyH_take (i := 11) (v := ?_) rfl (by kernel_rfl) (by kernel_rfl) (by kernel_rfl) (fun _ _ _ h => h) (Or.inl ⟨by rfl, ?_⟩) hHeld ?_
              rotate_left
              · (intro w0 hSw; (try dsimp only at hSw); go_simp <;> with_reducible rfl)
              simp only [List.getElem_toArray, List.getElem_cons_succ, List.getElem_cons_zero, Act.put, List.setIfInBounds_toArray, List.set_cons_zero, List.set_cons_succ]
              refine wpAnyH_ready (rs := [5]) (by kernel_rfl) (by simp) ?_
              refine AllReadyH.cons rfl (fun K' hK' => ?_) AllReadyH.nil
              simp only [List.getElem_toArray, List.getElem_cons_succ, List.getElem_cons_zero]
              go_simp
              refine HQ2.out.mono ?_
              rintro e w1 ⟨rfl, rfl⟩
              refine hK'.out _ _ kx (fun hHeld1 => ?_)
              clear hK' K' hHeld
              refine wpAnyH_take (i := 6) (v := ?_) rfl (by kernel_rfl) (by kernel_rfl) (by kernel_rfl) (fun _ _ _ h => h) (Or.inl ⟨by rfl, ?_⟩) hHeld1 ?_
              rotate_left
              · (intro w0 hSw; (try dsimp only at hSw); go_simp <;> with_reducible rfl)
              simp only [List.getElem_toArray, List.getElem_cons_succ, List.getElem_cons_zero, Act.put, List.setIfInBounds_toArray, List.set_cons_zero, List.set_cons_succ]
              refine wpAnyH_done (by kernel_rfl) ?_ _
              refine LastPost.of ?_
              go_simp
              clear hHeld1
              rw [show IntKind.i64.wrap (P0 + S) = P0 + S from IntWalk.i64_in _ (by omega)]
              refine (implAddS_any 2 (P0 + S) x 2 HHR.out.drew (Nat.le_trans hB HB4.out.size) hnr).mono ?_
              rintro e w3 ⟨rfl, ⟨tg3, ev3, n3, H3⟩, hb3⟩
              obtain ⟨hcl3, hfr3, _, _⟩ := H3.cells hi (by rw [hupd_same, HX2L.out]; exact HUI.out) (by rw [hupd_same]; omega)
              rw [hupd_same] at hcl3
              have n4 := hcl3 K (by omega)
              have n5 := hfr3 K
              have HSN := Lib.hid (H3.setN (k := K) hi (by rw [hupd_same, HX2L.out]; exact HUI.out) (by rw [hupd_same]; omega) 1)
              have HB3 := Lib.hid (Below.setCell (p := ⟨gi, K, none⟩) (HB4.out.trans (((Below.refl B wr).drew).trans hb3)) HBI.out (.int .i64 1))
              obtain ⟨y3, hy3⟩ : ∃ y3, y3 = X2.getD K 0 := ⟨_, rfl⟩
              rw [← hy3] at n4
              clear hy3 H3 hcl3 hfr3 hb3 kx
              go_wp2_with fail
              go_roundw
              case rel => exact ⟨k + 1, tg3, ev3, n3, by omega, by go_num, Lib.hid (by rw [HN1.out, HN2.out, ← hupd_set, ← List.append_assoc]; exact HSN.out), HB3⟩
              case measure => simp [intOf] <;> omega
            · have hdb : (d == -1) = false := by simpa using hd
              have hKI : k = K := by rw [HK.out, knN, if_neg hd]
              subst hKI
              go_wp2_with fail
              refine wp_region_lastL (S := fun w' => w'.cell? ⟨gi, k, none⟩ = some (.int .i64 x)) _ (by simp) (by kernel_rfl) (by kernel_rfl) kx (fun hHeld => ?_)
              simp only [List.dropLast, List.getLast_cons_cons, List.getLast_singleton, List.length_cons, List.length_nil]
              refine wpAnyH_take (i := 0) (v := ?_) rfl (by kernel_rfl) (by kernel_rfl) (by kernel_rfl) (fun _ _ _ h => h) (Or.inl ⟨by rfl, ?_⟩) hHeld ?_
              rotate_left
              · (intro w0 hSw; (try dsimp only at hSw); go_simp <;> with_reducible rfl)
              simp only [List.getElem_toArray, List.getElem_cons_succ, List.getElem_cons_zero, Act.put, List.setIfInBounds_toArray, List.set_cons_zero, List.set_cons_succ]
              refine wpAnyH_take (i := 1) (v := ?_) rfl (by kernel_rfl) (by kernel_rfl) (by kernel_rfl) (fun _ _ _ h => h) (Or.inl ⟨by rfl, ?_⟩) hHeld ?_
              rotate_left
              · (intro w0 hSw; (try dsimp only at hSw); go_simp <;> with_reducible rfl)
              simp only [List.getElem_toArray, List.getElem_cons_succ, List.getElem_cons_zero, Act.put, List.setIfInBounds_toArray, List.set_cons_zero, List.set_cons_succ]
              refine wpAnyH_take (i := 2) (v := ?_) rfl (by kernel_rfl) (by kernel_rfl) (by kernel_rfl) (fun _ _ _ h => h) (Or.inl ⟨by rfl, ?_⟩) hHeld ?_
              rotate_left
              · (intro w0 hSw; (try dsimp only at hSw); go_simp <;> with_reducible rfl)
              simp only [List.getElem_toArray, List.getElem_cons_succ, List.getElem_cons_zero, Act.put, List.setIfInBounds_toArray, List.set_cons_zero, List.set_cons_succ]
              refine wpAnyH_take (i := 3) (v := ?_) rfl (by kernel_rfl) (by kernel_rfl) (by kernel_rfl) (fun _ _ _ h => h) (Or.inl ⟨by rfl, ?_⟩) hHeld ?_
              rotate_left
              · (intro w0 hSw; (try dsimp only at hSw); go_simp <;> with_reducible rfl)
              simp only [List.getElem_toArray, List.getElem_cons_succ, List.getElem_cons_zero, Act.put, List.setIfInBounds_toArray, List.set_cons_zero, List.set_cons_succ]
              refine wpAnyH_take (i := 4) (v := ?_) rfl (by kernel_rfl) (by kernel_rfl) (by kernel_rfl) (fun _ _ _ h => h) (Or.inl ⟨by rfl, ?_⟩) hHeld ?_
              rotate_left
              · (intro w0 hSw; (try dsimp only at hSw); go_simp <;> with_reducible rfl)
              simp only [List.getElem_toArray, List.getElem_cons_succ, List.getElem_cons_zero, Act.put, List.setIfInBounds_toArray, List.set_cons_zero, List.set_cons_succ]
              refine wpAnyH_take (i := 7) (v := ?_) rfl (by kernel_rfl) (by kernel_rfl) (by kernel_rfl) (fun _ _ _ h => h) (Or.inl ⟨by rfl, ?_⟩) hHeld ?_
              rotate_left
              · (intro w0 hSw; (try dsimp only at hSw); go_simp <;> with_reducible rfl)
              simp only [List.getElem_toArray, List.getElem_cons_succ, List.getElem_cons_zero, Act.put, List.setIfInBounds_toArray, List.set_cons_zero, List.set_cons_succ]
              refine wpAnyH_take (i := 8) (v := ?_) rfl (by kernel_rfl) (by kernel_rfl) (by kernel_rfl) (fun _ _ _ h => h) (Or.inl ⟨by rfl, ?_⟩) hHeld ?_
              rotate_left
              · (intro w0 hSw; (try dsimp only at hSw); go_simp <;> with_reducible rfl)
              simp only [List.getElem_toArray, List.getElem_cons_succ, List.getElem_cons_zero, Act.put, List.setIfInBounds_toArray, List.set_cons_zero, List.set_cons_succ]
              refine wpAnyH_take (i := 9) (v := ?_) rfl (by kernel_rfl) (by kernel_rfl) (by kernel_rfl) (fun _ _ _ h => h) (Or.inl ⟨by rfl, ?_⟩) hHeld ?_
              rotate_left
              · (intro w0 hSw; (try dsimp only at hSw); go_simp <;> with_reducible rfl)
              simp only [List.getElem_toArray, List.getElem_cons_succ, List.getElem_cons_zero, Act.put, List.setIfInBounds_toArray, List.set_cons_zero, List.set_cons_succ]
              refine wpAnyH_take (i := 10) (v := ?_) rfl (by kernel_rfl) (by kernel_rfl) (by kernel_rfl) (fun _ _ _ h => h) (Or.inl ⟨by rfl, ?_⟩) hHeld ?_
              rotate_left
              · (intro w0 hSw; (try dsimp only at hSw); go_simp <;> with_reducible rfl)
              simp only [List.getElem_toArray, List.getElem_cons_succ, List.getElem_cons_zero, Act.put, List.setIfInBounds_toArray, List.set_cons_zero, List.set_cons_succ]
              refine wpAnyH_take (i := 11) (v := ?_) rfl (by kernel_rfl) (by kernel_rfl) (by kernel_rfl) (fun _ _ _ h => h) (Or.inl ⟨by rfl, ?_⟩) hHeld ?_
              rotate_left
              · (intro w0 hSw; (try dsimp only at hSw); go_simp <;> with_reducible rfl)
              simp only [List.getElem_toArray, List.getElem_cons_succ, List.getElem_cons_zero, Act.put, List.setIfInBounds_toArray, List.set_cons_zero, List.set_cons_succ]
              refine wpAnyH_ready (rs := [5]) (by kernel_rfl) (by simp) ?_
              refine AllReadyH.cons rfl (fun K' hK' => ?_) AllReadyH.nil
              simp only [List.getElem_toArray, List.getElem_cons_succ, List.getElem_cons_zero]
              go_simp
              refine HQ2.out.mono ?_
              rintro e w1 ⟨rfl, rfl⟩
              refine hK'.out _ _ kx (fun hHeld1 => ?_)
              clear hK' K' hHeld
              refine wpAnyH_take (i := 6) (v := ?_) rfl (by kernel_rfl) (by kernel_rfl) (by kernel_rfl) (fun _ _ _ h => h) (Or.inl ⟨by rfl, ?_⟩) hHeld1 ?_
              rotate_left
              · (intro w0 hSw; (try dsimp only at hSw); go_simp <;> with_reducible rfl)
              simp only [List.getElem_toArray, List.getElem_cons_succ, List.getElem_cons_zero, Act.put, List.setIfInBounds_toArray, List.set_cons_zero, List.set_cons_succ]
              refine wpAnyH_done (by kernel_rfl) ?_ _
              refine LastPost.of ?_
              go_simp
              clear hHeld1
              rw [show IntKind.i64.wrap (P0 + S) = P0 + S from IntWalk.i64_in _ (by omega)]
              refine (implAddS_any 2 (P0 + S) x 2 HHR.out.drew (Nat.le_trans hB HB4.out.size) hnr).mono ?_
              rintro e w3 ⟨rfl, ⟨tg3, ev3, n3, H3⟩, hb3⟩
              obtain ⟨hcl3, hfr3, _, _⟩ := H3.cells hi (by rw [hupd_same, HX2L.out]; exact HUI.out) (by rw [hupd_same]; omega)
              rw [hupd_same] at hcl3
              have n4 := hcl3 k (by omega)
              have n5 := hfr3 k
              have HSN := Lib.hid (H3.setN (k := k) hi (by rw [hupd_same, HX2L.out]; exact HUI.out) (by rw [hupd_same]; omega) 1)
              have HB3 := Lib.hid (Below.setCell (p := ⟨gi, k, none⟩) (HB4.out.trans (((Below.refl B wr).drew).trans hb3)) HBI.out (.int .i64 1))
              obtain ⟨y3, hy3⟩ : ∃ y3, y3 = X2.getD k 0 := ⟨_, rfl⟩
              rw [← hy3] at n4
              clear hy3 H3 hcl3 hfr3 hb3 kx
              go_wp2_with fail
              go_roundw
              case rel => exact ⟨k + 1, tg3, ev3, n3, by omega, by go_num, Lib.hid (by rw [HN1.out, HN2.out, ← hupd_set, ← List.append_assoc]; exact HSN.out), HB3⟩
              case measure => simp [intOf] <;> omega
          · obtain rfl : L.length = k := by omega
            go_wp2
            go_end0
            exact ⟨rfl, ⟨_, _, _, _, _, by rw [← HP0.out, HSTE.out, HFIN.out, ← HALL.out]; exact HHR.out⟩, HB4.out⟩
      · have g2 : (y == 2) = false := by simpa using hy2
        have hl1 : 0 < L.length := by
          have h := HLL.out
          have h2 : 1 ≤ tkN y := by unfold tkN; (repeat' split) <;> omega
          omega
        obtain ⟨gi, hgi⟩ : ∃ gi, Au = some ⟨gi, 0, none⟩ := by
          obtain ⟨gi, ci, e, _⟩ := HH.out.readO hi (by rw [HL.out]; omega)
          rw [HU.out] at e
          injection e with e
          exact ⟨gi, e⟩
        subst hgi
        obtain ⟨_, _, hBi, hgi⟩ := HH.out.cells hi HU.out (by rw [HL.out]; omega)
        have HUI := Lib.hid (show U i = .slice (some ⟨gi, 0, none⟩) L.length cu by rw [HU.out, HL.out])
        have HBI := Lib.hid hBi
        have HALL := Lib.hid (knS_all P0 1 c d L)
        have HFIN := Lib.hid (show finL (z i) L = List.replicate L.length 1 by rw [← HY.out, finL, if_neg (by omega), if_neg (by omega), if_neg (by omega)])
        have HSTE := Lib.hid (show stE P0 c d (z i) L = (knS P0 1 c d L L.length).1 by rw [← HY.out, stE, if_neg (by omega), if_neg (by omega), if_neg (by omega), if_neg (by omega), if_neg hy2])
        have hcu : L.length ≤ cu := by
          obtain ⟨gi2, ci2, e, h2, _⟩ := HH.out.readO hi (by rw [HL.out]; omega)
          rw [HU.out] at e
          injection e with _ _ e3
          rw [HL.out] at h2
          omega
        have hLn := HSM.out.1
        have HD := Lib.hid HH.out.b
        go_wp2_with fail
        clear k3 k2 kz kc
        go_loopw [48] (fun t wr => ∃ (k : Nat) (tg' : Nat → Nat) (ev' : Value) (n' : Nat), k ≤ L.length ∧ t = .int .i64 k ∧ Hid (HkS 101 (mkI d c (some ⟨gz, oz, none⟩) m qq) B g tg' ev' (.slice (some ⟨gc, 0, none⟩) m cap) n' m (E ++ (knS P0 1 c d L k).1) U (hupd C i (knS P0 1 c d L k).2) wr) ∧ Hid (Below B w wr)) (fun t _ => L.length - (intOf t).toNat)
        case atStart => exact ⟨0, tg, ev, nE, Nat.zero_le _, rfl, Lib.hid (by simp only [knS]; rw [List.append_nil, ← HL.out, hupd_self]; exact HH.out), Lib.hid (Below.refl _ _)⟩
        case round =>
          obtain ⟨k, tgr, evr, nr, hkL, rfl, HHR, HB4⟩ := hrel
          by_cases hlt : k < L.length
          · have r0 : wr.cell? ⟨g, 0, none⟩ = some (.int .i64 d) := HHR.out.b.cell 0
            have hlen := knS_length P0 1 c d L k
            obtain ⟨K, hK⟩ : ∃ K, K = knN d L.length k := ⟨_, rfl⟩
            have HSM2 := Lib.hid (HSM.out.kn (p := P0) (bed := 1) (c := c) (d := d) k)
            have HN1 := Lib.hid (show (knS P0 1 c d L (k + 1)).1 = (knS P0 1 c d L k).1 ++ evL 2 (P0 + sumI ((knS P0 1 c d L k).2.take K)) ((knS P0 1 c d L k).2.getD K 0) 1 c d by rw [hK]; rfl)
            have HN2 := Lib.hid (show (knS P0 1 c d L (k + 1)).2 = (knS P0 1 c d L k).2.set K 1 by rw [hK]; rfl)
            obtain ⟨X1, hX1⟩ : ∃ X, X = (knS P0 1 c d L k).1 := ⟨_, rfl⟩
            obtain ⟨X2, hX2⟩ : ∃ X, X = (knS P0 1 c d L k).2 := ⟨_, rfl⟩
            rw [← hX1, ← hX2] at HHR hlen
            rw [← hX1, ← hX2] at HN1
            rw [← hX2] at HN2 HSM2
            clear hX1 hX2
            have hKl : K < L.length := by rw [hK]; unfold knN; split <;> omega
            have HK := Lib.hid hK
            clear hK
            have hX2L : X2.length = L.length := hlen.1
            have HX2L := Lib.hid hX2L
            have hnr : nr ≤ 1048576 := by
              have h := HHR.out.len
              simp only [List.length_append, hlen.2] at h
              omega
            obtain ⟨hclr, hfrr, _, hgir⟩ := HHR.out.cells hi (by rw [hupd_same, hX2L]; exact HUI.out) (by rw [hupd_same]; omega)
            rw [hupd_same] at hclr
            have hxb := HSM2.out.get K
            have hSb := (HSM2.out.take K).sum
            have kx : wr.cell? ⟨gi, K, none⟩ = some (.int .i64 (X2.getD K 0)) := hclr K (by omega)
            have hq2 : Calls Try.prog 63 #[.slice (some ⟨gi, 0, none⟩) K cu] wr.drew fun e w' => e = .returned (.int .i64 (sumI (X2.take K))) ∧ wr.drew = w' := sumC_any (some ⟨gi, 0, none⟩) K cu (X2.take K) wr.drew (by simp; omega) (fun _ => ⟨gi, 0, rfl, hgir, fun j hj => by
              have := hclr j (by omega)
              rw [Nat.zero_add]
              simp only [List.getD, List.getElem?_take, if_pos hj]
              exact this⟩) (HSM2.out.take K)
            obtain ⟨x, hx⟩ : ∃ x, x = X2.getD K 0 := ⟨_, rfl⟩
            obtain ⟨S, hS⟩ : ∃ S, S = sumI (X2.take K) := ⟨_, rfl⟩
            rw [← hx] at hxb kx HN1
            rw [← hS] at hSb HN1 hq2
            have HQ2 := Lib.hid hq2
            have b8 : (0 : Int) ≤ (K : Int) := by omega
            have b9 : (K : Int) < (L.length : Int) := by omega
            have b10 : (K : Int) ≤ (cu : Int) := by omega
            have b11 : (0 : Int) ≤ (k : Int) := by omega
            clear hclr hfrr hx hS hq2 hlen
            by_cases hd : d = -1
            · subst hd
              have hKI : (L.length : Int) - 1 - (k : Int) = (K : Int) := by rw [HK.out, knN, if_pos rfl]; omega
              go_wp2_with fail
              refine wp_region_lastL (S := fun w' => w'.cell? ⟨gi, K, none⟩ = some (.int .i64 x)) _ (by simp) (by kernel_rfl) (by kernel_rfl) kx (fun hHeld => ?_)
              simp only [List.dropLast, List.getLast_cons_cons, List.getLast_singleton, List.length_cons, List.length_nil]
              refine wpAnyH_take (i := 0) (v := ?_) rfl (by kernel_rfl) (by kernel_rfl) (by kernel_rfl) (fun _ _ _ h => h) (Or.inl ⟨by rfl, ?_⟩) hHeld ?_
              rotate_left
              · (intro w0 hSw; (try dsimp only at hSw); go_simp <;> with_reducible rfl)
              simp only [List.getElem_toArray, List.getElem_cons_succ, List.getElem_cons_zero, Act.put, List.setIfInBounds_toArray, List.set_cons_zero, List.set_cons_succ]
              refine wpAnyH_take (i := 1) (v := ?_) rfl (by kernel_rfl) (by kernel_rfl) (by kernel_rfl) (fun _ _ _ h => h) (Or.inl ⟨by rfl, ?_⟩) hHeld ?_
              rotate_left
              · (intro w0 hSw; (try dsimp only at hSw); go_simp <;> with_reducible rfl)
              simp only [List.getElem_toArray, List.getElem_cons_succ, List.getElem_cons_zero, Act.put, List.setIfInBounds_toArray, List.set_cons_zero, List.set_cons_succ]
              refine wpAnyH_take (i := 2) (v := ?_) rfl (by kernel_rfl) (by kernel_rfl) (by kernel_rfl) (fun _ _ _ h => h) (Or.inl ⟨by rfl, ?_⟩) hHeld ?_
              rotate_left
              · (intro w0 hSw; (try dsimp only at hSw); go_simp <;> with_reducible rfl)
              simp only [List.getElem_toArray, List.getElem_cons_succ, List.getElem_cons_zero, Act.put, List.setIfInBounds_toArray, List.set_cons_zero, List.set_cons_succ]
              refine wpAnyH_take (i := 3) (v := ?_) rfl (by kernel_rfl) (by kernel_rfl) (by kernel_rfl) (fun _ _ _ h => h) (Or.inl ⟨by rfl, ?_⟩) hHeld ?_
              rotate_left
              · (intro w0 hSw; (try dsimp only at hSw); go_simp <;> with_reducible rfl)
              simp only [List.getElem_toArray, List.getElem_cons_succ, List.getElem_cons_zero, Act.put, List.setIfInBounds_toArray, List.set_cons_zero, List.set_cons_succ]
              refine wpAnyH_take (i := 4) (v := ?_) rfl (by kernel_rfl) (by kernel_rfl) (by kernel_rfl) (fun _ _ _ h => h) (Or.inl ⟨by rfl, ?_⟩) hHeld ?_
              rotate_left
              · (intro w0 hSw; (try dsimp only at hSw); go_simp <;> with_reducible rfl)
              simp only [List.getElem_toArray, List.getElem_cons_succ, List.getElem_cons_zero, Act.put, List.setIfInBounds_toArray, List.set_cons_zero, List.set_cons_succ]
              refine wpAnyH_take (i := 7) (v := ?_) rfl (by kernel_rfl) (by kernel_rfl) (by kernel_rfl) (fun _ _ _ h => h) (Or.inl ⟨by rfl, ?_⟩) hHeld ?_
              rotate_left
              · (intro w0 hSw; (try dsimp only at hSw); go_simp <;> with_reducible rfl)
              simp only [List.getElem_toArray, List.getElem_cons_succ, List.getElem_cons_zero, Act.put, List.setIfInBounds_toArray, List.set_cons_zero, List.set_cons_succ]
              refine wpAnyH_take (i := 8) (v := ?_) rfl (by kernel_rfl) (by kernel_rfl) (by kernel_rfl) (fun _ _ _ h => h) (Or.inl ⟨by rfl, ?_⟩) hHeld ?_
              rotate_left
              · (intro w0 hSw; (try dsimp only at hSw); go_simp <;> with_reducible rfl)
              simp only [List.getElem_toArray, List.getElem_cons_succ, List.getElem_cons_zero, Act.put, List.setIfInBounds_toArray, List.set_cons_zero, List.set_cons_succ]
              refine wpAnyH_take (i := 9) (v := ?_) rfl (by kernel_rfl) (by kernel_rfl) (by kernel_rfl) (fun _ _ _ h => h) (Or.inl ⟨by rfl, ?_⟩) hHeld ?_
              rotate_left
              · (intro w0 hSw; (try dsimp only at hSw); go_simp <;> with_reducible rfl)
              simp only [List.getElem_toArray, List.getElem_cons_succ, List.getElem_cons_zero, Act.put, List.setIfInBounds_toArray, List.set_cons_zero, List.set_cons_succ]
              refine wpAnyH_take (i := 10) (v := ?_) rfl (by kernel_rfl) (by kernel_rfl) (by kernel_rfl) (fun _ _ _ h => h) (Or.inl ⟨by rfl, ?_⟩) hHeld ?_
              rotate_left
              · (intro w0 hSw; (try dsimp only at hSw); go_simp <;> with_reducible rfl)
              simp only [List.getElem_toArray, List.getElem_cons_succ, List.getElem_cons_zero, Act.put, List.setIfInBounds_toArray, List.set_cons_zero, List.set_cons_succ]
              refine wpAnyH_take (i := 11) (v := ?_) rfl (by kernel_rfl) (by kernel_rfl) (by kernel_rfl) (fun _ _ _ h => h) (Or.inl ⟨by rfl, ?_⟩) hHeld ?_
              rotate_left
              · (intro w0 hSw; (try dsimp only at hSw); go_simp <;> with_reducible rfl)
              simp only [List.getElem_toArray, List.getElem_cons_succ, List.getElem_cons_zero, Act.put, List.setIfInBounds_toArray, List.set_cons_zero, List.set_cons_succ]
              refine wpAnyH_ready (rs := [5]) (by kernel_rfl) (by simp) ?_
              refine AllReadyH.cons rfl (fun K' hK' => ?_) AllReadyH.nil
              simp only [List.getElem_toArray, List.getElem_cons_succ, List.getElem_cons_zero]
              go_simp
              refine HQ2.out.mono ?_
              rintro e w1 ⟨rfl, rfl⟩
              refine hK'.out _ _ kx (fun hHeld1 => ?_)
              clear hK' K' hHeld
              refine wpAnyH_take (i := 6) (v := ?_) rfl (by kernel_rfl) (by kernel_rfl) (by kernel_rfl) (fun _ _ _ h => h) (Or.inl ⟨by rfl, ?_⟩) hHeld1 ?_
              rotate_left
              · (intro w0 hSw; (try dsimp only at hSw); go_simp <;> with_reducible rfl)
              simp only [List.getElem_toArray, List.getElem_cons_succ, List.getElem_cons_zero, Act.put, List.setIfInBounds_toArray, List.set_cons_zero, List.set_cons_succ]
              refine wpAnyH_done (by kernel_rfl) ?_ _
              refine LastPost.of ?_
              go_simp
              clear hHeld1
              rw [show IntKind.i64.wrap (P0 + S) = P0 + S from IntWalk.i64_in _ (by omega)]
              refine (implAddS_any 2 (P0 + S) x 1 HHR.out.drew (Nat.le_trans hB HB4.out.size) hnr).mono ?_
              rintro e w3 ⟨rfl, ⟨tg3, ev3, n3, H3⟩, hb3⟩
              obtain ⟨hcl3, hfr3, _, _⟩ := H3.cells hi (by rw [hupd_same, HX2L.out]; exact HUI.out) (by rw [hupd_same]; omega)
              rw [hupd_same] at hcl3
              have n4 := hcl3 K (by omega)
              have n5 := hfr3 K
              have HSN := Lib.hid (H3.setN (k := K) hi (by rw [hupd_same, HX2L.out]; exact HUI.out) (by rw [hupd_same]; omega) 1)
              have HB3 := Lib.hid (Below.setCell (p := ⟨gi, K, none⟩) (HB4.out.trans (((Below.refl B wr).drew).trans hb3)) HBI.out (.int .i64 1))
              obtain ⟨y3, hy3⟩ : ∃ y3, y3 = X2.getD K 0 := ⟨_, rfl⟩
              rw [← hy3] at n4
              clear hy3 H3 hcl3 hfr3 hb3 kx
              go_wp2_with fail
              go_roundw
              case rel => exact ⟨k + 1, tg3, ev3, n3, by omega, by go_num, Lib.hid (by rw [HN1.out, HN2.out, ← hupd_set, ← List.append_assoc]; exact HSN.out), HB3⟩
              case measure => simp [intOf] <;> omega
            · have hdb : (d == -1) = false := by simpa using hd
              have hKI : k = K := by rw [HK.out, knN, if_neg hd]
              subst hKI
              go_wp2_with fail
              refine wp_region_lastL (S := fun w' => w'.cell? ⟨gi, k, none⟩ = some (.int .i64 x)) _ (by simp) (by kernel_rfl) (by kernel_rfl) kx (fun hHeld => ?_)
              simp only [List.dropLast, List.getLast_cons_cons, List.getLast_singleton, List.length_cons, List.length_nil]
              refine wpAnyH_take (i := 0) (v := ?_) rfl (by kernel_rfl) (by kernel_rfl) (by kernel_rfl) (fun _ _ _ h => h) (Or.inl ⟨by rfl, ?_⟩) hHeld ?_
              rotate_left
              · (intro w0 hSw; (try dsimp only at hSw); go_simp <;> with_reducible rfl)
              simp only [List.getElem_toArray, List.getElem_cons_succ, List.getElem_cons_zero, Act.put, List.setIfInBounds_toArray, List.set_cons_zero, List.set_cons_succ]
              refine wpAnyH_take (i := 1) (v := ?_) rfl (by kernel_rfl) (by kernel_rfl) (by kernel_rfl) (fun _ _ _ h => h) (Or.inl ⟨by rfl, ?_⟩) hHeld ?_
              rotate_left
              · (intro w0 hSw; (try dsimp only at hSw); go_simp <;> with_reducible rfl)
              simp only [List.getElem_toArray, List.getElem_cons_succ, List.getElem_cons_zero, Act.put, List.setIfInBounds_toArray, List.set_cons_zero, List.set_cons_succ]
              refine wpAnyH_take (i := 2) (v := ?_) rfl (by kernel_rfl) (by kernel_rfl) (by kernel_rfl) (fun _ _ _ h => h) (Or.inl ⟨by rfl, ?_⟩) hHeld ?_
              rotate_left
              · (intro w0 hSw; (try dsimp only at hSw); go_simp <;> with_reducible rfl)
              simp only [List.getElem_toArray, List.getElem_cons_succ, List.getElem_cons_zero, Act.put, List.setIfInBounds_toArray, List.set_cons_zero, List.set_cons_succ]
              refine wpAnyH_take (i := 3) (v := ?_) rfl (by kernel_rfl) (by kernel_rfl) (by kernel_rfl) (fun _ _ _ h => h) (Or.inl ⟨by rfl, ?_⟩) hHeld ?_
              rotate_left
              · (intro w0 hSw; (try dsimp only at hSw); go_simp <;> with_reducible rfl)
              simp only [List.getElem_toArray, List.getElem_cons_succ, List.getElem_cons_zero, Act.put, List.setIfInBounds_toArray, List.set_cons_zero, List.set_cons_succ]
              refine wpAnyH_take (i := 4) (v := ?_) rfl (by kernel_rfl) (by kernel_rfl) (by kernel_rfl) (fun _ _ _ h => h) (Or.inl ⟨by rfl, ?_⟩) hHeld ?_
              rotate_left
              · (intro w0 hSw; (try dsimp only at hSw); go_simp <;> with_reducible rfl)
              simp only [List.getElem_toArray, List.getElem_cons_succ, List.getElem_cons_zero, Act.put, List.setIfInBounds_toArray, List.set_cons_zero, List.set_cons_succ]
              refine wpAnyH_take (i := 7) (v := ?_) rfl (by kernel_rfl) (by kernel_rfl) (by kernel_rfl) (fun _ _ _ h => h) (Or.inl ⟨by rfl, ?_⟩) hHeld ?_
              rotate_left
              · (intro w0 hSw; (try dsimp only at hSw); go_simp <;> with_reducible rfl)
              simp only [List.getElem_toArray, List.getElem_cons_succ, List.getElem_cons_zero, Act.put, List.setIfInBounds_toArray, List.set_cons_zero, List.set_cons_succ]
              refine wpAnyH_take (i := 8) (v := ?_) rfl (by kernel_rfl) (by kernel_rfl) (by kernel_rfl) (fun _ _ _ h => h) (Or.inl ⟨by rfl, ?_⟩) hHeld ?_
              rotate_left
              · (intro w0 hSw; (try dsimp only at hSw); go_simp <;> with_reducible rfl)
              simp only [List.getElem_toArray, List.getElem_cons_succ, List.getElem_cons_zero, Act.put, List.setIfInBounds_toArray, List.set_cons_zero, List.set_cons_succ]
              refine wpAnyH_take (i := 9) (v := ?_) rfl (by kernel_rfl) (by kernel_rfl) (by kernel_rfl) (fun _ _ _ h => h) (Or.inl ⟨by rfl, ?_⟩) hHeld ?_
              rotate_left
              · (intro w0 hSw; (try dsimp only at hSw); go_simp <;> with_reducible rfl)
              simp only [List.getElem_toArray, List.getElem_cons_succ, List.getElem_cons_zero, Act.put, List.setIfInBounds_toArray, List.set_cons_zero, List.set_cons_succ]
              refine wpAnyH_take (i := 10) (v := ?_) rfl (by kernel_rfl) (by kernel_rfl) (by kernel_rfl) (fun _ _ _ h => h) (Or.inl ⟨by rfl, ?_⟩) hHeld ?_
              rotate_left
              · (intro w0 hSw; (try dsimp only at hSw); go_simp <;> with_reducible rfl)
              simp only [List.getElem_toArray, List.getElem_cons_succ, List.getElem_cons_zero, Act.put, List.setIfInBounds_toArray, List.set_cons_zero, List.set_cons_succ]
              refine wpAnyH_take (i := 11) (v := ?_) rfl (by kernel_rfl) (by kernel_rfl) (by kernel_rfl) (fun _ _ _ h => h) (Or.inl ⟨by rfl, ?_⟩) hHeld ?_
              rotate_left
              · (intro w0 hSw; (try dsimp only at hSw); go_simp <;> with_reducible rfl)
              simp only [List.getElem_toArray, List.getElem_cons_succ, List.getElem_cons_zero, Act.put, List.setIfInBounds_toArray, List.set_cons_zero, List.set_cons_succ]
              refine wpAnyH_ready (rs := [5]) (by kernel_rfl) (by simp) ?_
              refine AllReadyH.cons rfl (fun K' hK' => ?_) AllReadyH.nil
              simp only [List.getElem_toArray, List.getElem_cons_succ, List.getElem_cons_zero]
              go_simp
              refine HQ2.out.mono ?_
              rintro e w1 ⟨rfl, rfl⟩
              refine hK'.out _ _ kx (fun hHeld1 => ?_)
              clear hK' K' hHeld
              refine wpAnyH_take (i := 6) (v := ?_) rfl (by kernel_rfl) (by kernel_rfl) (by kernel_rfl) (fun _ _ _ h => h) (Or.inl ⟨by rfl, ?_⟩) hHeld1 ?_
              rotate_left
              · (intro w0 hSw; (try dsimp only at hSw); go_simp <;> with_reducible rfl)
              simp only [List.getElem_toArray, List.getElem_cons_succ, List.getElem_cons_zero, Act.put, List.setIfInBounds_toArray, List.set_cons_zero, List.set_cons_succ]
              refine wpAnyH_done (by kernel_rfl) ?_ _
              refine LastPost.of ?_
              go_simp
              clear hHeld1
              rw [show IntKind.i64.wrap (P0 + S) = P0 + S from IntWalk.i64_in _ (by omega)]
              refine (implAddS_any 2 (P0 + S) x 1 HHR.out.drew (Nat.le_trans hB HB4.out.size) hnr).mono ?_
              rintro e w3 ⟨rfl, ⟨tg3, ev3, n3, H3⟩, hb3⟩
              obtain ⟨hcl3, hfr3, _, _⟩ := H3.cells hi (by rw [hupd_same, HX2L.out]; exact HUI.out) (by rw [hupd_same]; omega)
              rw [hupd_same] at hcl3
              have n4 := hcl3 k (by omega)
              have n5 := hfr3 k
              have HSN := Lib.hid (H3.setN (k := k) hi (by rw [hupd_same, HX2L.out]; exact HUI.out) (by rw [hupd_same]; omega) 1)
              have HB3 := Lib.hid (Below.setCell (p := ⟨gi, k, none⟩) (HB4.out.trans (((Below.refl B wr).drew).trans hb3)) HBI.out (.int .i64 1))
              obtain ⟨y3, hy3⟩ : ∃ y3, y3 = X2.getD k 0 := ⟨_, rfl⟩
              rw [← hy3] at n4
              clear hy3 H3 hcl3 hfr3 hb3 kx
              go_wp2_with fail
              go_roundw
              case rel => exact ⟨k + 1, tg3, ev3, n3, by omega, by go_num, Lib.hid (by rw [HN1.out, HN2.out, ← hupd_set, ← List.append_assoc]; exact HSN.out), HB3⟩
              case measure => simp [intOf] <;> omega
          · obtain rfl : L.length = k := by omega
            go_wp2
            go_end0
            exact ⟨rfl, ⟨_, _, _, _, _, by rw [← HP0.out, HSTE.out, HFIN.out, ← HALL.out]; exact HHR.out⟩, HB4.out⟩
end
end Go.Proofs.Ytacppheedleamaa

set_option linter.unusedVariables false
set_option linter.unusedSimpArgs false
namespace Go.Proofs.Ytacppheedleamaa
open Go.RowKit
set_option maxRecDepth 20000

/-- The program's hand at its start. -/
theorem hand_newI (w : World) (d c : Int) (A : Option Addr) (m qq : Nat) (T : TypeId) : @HkS noKeep T (mkI d c A m qq) w.heap.size w.heap.size (fun b => if b = w.heap.size then 1 else 0) (.slice none 0 0) (.slice none 0 0) 0 0 [] (fun _ => undef) (fun _ => []) (w.alloc (.cells #[.int .i64 d, .int .i64 c, .slice A m qq, .slice none 0 0, .slice none 0 0] T)) where
  b := Blk.at_ _ _ _ rfl
  e := World.ownsRow_nil _ _ _ _
  c := World.ownsRow_nil _ _ _ _
  u := fun i hi => by omega
  tb := if_pos rfl
  te := fun b hb => by cases hb
  tc := fun b hb => by cases hb
  lt := fun b hb => by
    simp only [World.size_alloc]
    by_cases h1 : b = w.heap.size
    · omega
    · rw [if_neg h1] at hb
      exact absurd rfl hb
  lo := Nat.le_refl _
  k := trivial
  kf := fun b hb => hb.elim
theorem HkM.below [Inhabited HKeepT] {T : TypeId} {mk : Value → Value → Array Value} {B g q : Nat} {E : List Int} {C : Nat → List Int} {w w' : World} (h : HkM T mk B g q E C w) (hb : Below w.heap.size w w') : HkM T mk B g q E C w' := by
  obtain ⟨tg, ev, cl, n, U, H⟩ := h
  exact ⟨tg, ev, cl, n, U, H.below hb⟩
/-- The events and the sizes of a row, new, and its code. -/
def RowC (E L : List Int) (w : World) (e : Ending) (w' : World) : Prop := ∃ ev af n, e = .returned (.tuple #[ev, af, .int .i64 0]) ∧ w'.ownsRow w.heap.size 77 6 ev n (ints E) ∧ w'.ownsRow w.heap.size 2 1 af L.length (ints L) ∧ Below w.heap.size w w'
/-- All columns of the hand, one after the other: a new list. -/
theorem HkS.concat [Inhabited HKeepT] {T : TypeId} {mk : Value → Value → Array Value} {B g gc cap : Nat} {tg : Nat → Nat} {ev : Value} {n q : Nat} {E : List Int} {U : Nat → Value} {C : Nat → List Int} {w : World} (h : HkS T mk B g tg ev (.slice (some ⟨gc, 0, none⟩) q cap) n q E U C w) (hN : (catC C q).length ≤ 4000) (hq : q ≤ 1000) :
    Calls Try.prog 69 #[.slice (some ⟨gc, 0, none⟩) q cap] w (OwnI w (catC C q)) :=
  concatC_any gc q cap C w (fun i hi => by
    obtain ⟨A, c, hU, hr⟩ := h.read hi
    exact ⟨A, c, by rw [h.cellAt hi, hU], hr⟩) (h.c.lt gc rfl).2 hN hq
theorem catC_mem {C : Nat → List Int} {q : Nat} {x : Int} (h : x ∈ catC C q) : ∃ j, j < q ∧ x ∈ C j := by
  induction q with
  | zero => cases h
  | succ q ih =>
    rcases List.mem_append.1 h with h | h
    · obtain ⟨j, hj, h⟩ := ih h
      exact ⟨j, by omega, h⟩
    · exact ⟨q, by omega, h⟩
theorem RowFit.catT {s z : Nat → Int} {n m : Nat} (h : RowFit s z n m) {d : Int} {t i : Nat} (hi : i ≤ m) : (catC (Go.Proofs.Ytacppheedleamaa.celT s z d m t) i).length ≤ 4 * i := by
  induction i with
  | zero => simp [catC]
  | succ i ih =>
    have h1 := ih (by omega)
    have h2 := (h.celT (d := d) (t := t) (show i < m by omega)).2
    simp only [catC, List.length_append]
    omega
set_option maxHeartbeats 4000000 in
theorem knitRow_any (d c : Int) (A : Option Addr) (m qq : Nat) (z s : Nat → Int) (gs os n cs : Nat) (w : World) (hz : Rd w A m (fun j => .int .i64 (z j))) (hs : Rd w (some ⟨gs, os, none⟩) n (fun j => .int .i64 (s j))) (hcs : n ≤ cs) (hcm : cs ≤ maxLen) (hn : 0 < n) (hd : dirB d = true) (hsa : saC s n z m = 0) (hk : keepB s n z m d m = true) :
    Calls Try.prog 39 #[.agg #[.int .i64 d, .int .i64 c, .slice A m qq], .slice (some ⟨gs, os, none⟩) n cs] w (RowC (rowE s z c d m m) (aft s z m) w) := by
  have hf := RowFit.of hsa
  have hm8 := hf.m8
  have hn8 := hf.n8
  have HF := Lib.hid hf
  have HK := Lib.hid hk
  have HZ := Lib.hid hz
  have HS := Lib.hid hs
  have HD := Lib.hid hd
  have HSA := Lib.hid hsa
  have HST := Lib.hid (saC_zero hsa).2.1
  have hsT := hf.t
  have HB0 := Lib.hid ((Below.refl w.heap.size w).alloc (Nat.le_refl _) (.cells #[.int .i64 d, .int .i64 c, .slice A m qq] 40))
  have HX := Lib.hid (box_new w #[.int .i64 d, .int .i64 c, .slice A m qq] 40)
  have x0 := HX.out 0
  have x1 := HX.out 1
  have x2 := HX.out 2
  clear hf hk hz hs hd hsa
  go_enter Try.func39, Try.ntmps39
  go_wp2_with fail
  refine (takenBy_any A m qq z _ (HZ.out.below HB0.out) HST.out).mono ?_
  rintro e w' ⟨rfl, rfl⟩
  rw [hsT]
  go_wp2_with fail
  refine (implStacksAfter_any gs os n cs A m qq s z _ (HS.out.below HB0.out) (HZ.out.below HB0.out) (by omega) (by omega) hcs hcm).mono ?_
  rintro e w2 ⟨A2, c2, rfl, hc2, hn2⟩
  have hb2 := hn2.bl
  have HB2 := Lib.hid (HB0.out.trans (hb2.mono (by simp)))
  have hlx : w.heap.size < (w.alloc (.cells #[.int .i64 d, .int .i64 c, .slice A m qq] 40)).heap.size := by simp
  have y0 := at_below hb2 hlx x0
  have y1 := at_below hb2 hlx x1
  have y2 := at_below hb2 hlx x2
  have hsz2 : w.heap.size < w2.heap.size := Nat.lt_of_lt_of_le hlx hb2.size
  rw [HSA.out]
  clear hn2 hb2 hlx x0 x1 x2
  have HH2 := Lib.hid (hand_newI w2 d c A m qq 101)
  have HB3 := Lib.hid ((Below.refl w2.heap.size w2).alloc (Nat.le_refl _) (.cells #[.int .i64 d, .int .i64 c, .slice A m qq, .slice none 0 0, .slice none 0 0] 101))
  have HZ3 := Lib.hid (show Rd (w2.alloc (.cells #[.int .i64 d, .int .i64 c, .slice A m qq, .slice none 0 0, .slice none 0 0] 101)) A m (fun j => .int .i64 (z j)) from (HZ.out.below HB2.out).below HB3.out)
  have HS3 := Lib.hid (show Rd (w2.alloc (.cells #[.int .i64 d, .int .i64 c, .slice A m qq, .slice none 0 0, .slice none 0 0] 101)) (some ⟨gs, os, none⟩) n (fun j => .int .i64 (s j)) from (HS.out.below HB2.out).below HB3.out)
  have HZB := Lib.hid (show ∀ b, Fb A m b → b < w2.heap.size from fun b hb => Nat.lt_trans ((rd_obj _ _ _).2 w b HZ.out hb) hsz2)
  have y0' := at_below HB3.out hsz2 y0
  have y1' := at_below HB3.out hsz2 y1
  have y2' := at_below HB3.out hsz2 y2
  have HY0 := Lib.hid (And.intro y0' (And.intro y1' y2'))
  clear y0' y1' y2'
  go_wp2_with fail
  refine (implBegin_any z s (some ⟨gs, os, none⟩) n cs (fun _ => []) ⟨_, _, _, _, _, HH2.out⟩ (by simp) HZ3.out HZB.out HS3.out hn HF.out).mono ?_
  rintro e w4 ⟨rfl, HM4, hb4⟩
  have z0 := at_below hb4 hsz2 HY0.out.1
  have z1 := at_below hb4 hsz2 HY0.out.2.1
  have z2 := at_below hb4 hsz2 HY0.out.2.2
  have HM4' := Lib.hid HM4
  have HB4 : Hid (Below w2.heap.size w2 w4) := Lib.hid (HB3.out.trans hb4)
  clear HM4 hb4 y0 y1 y2
  go_wp2_with fail
  refine (order_any d c A m qq _ (by omega)).mono ?_
  rintro e w5 ⟨A5, c5, rfl, hn5⟩
  have HM5 := Lib.hid (HM4'.out.keep hn5.bl (rowKeep A5 m (fun j => .int .i64 (ordN d m j))) hn5.rd (fun b hb => by
    obtain ⟨_, a, e, hb⟩ := hb
    exact ⟨hb ▸ hn5.ab a e, hb ▸ hn5.bb a e⟩))
  have HB5 := Lib.hid (HB4.out.trans (hn5.bl.mono HB4.out.size))
  have HZ5 := Lib.hid (HZ.out.below HB2.out)
  clear hn5 z0 z1 z2
  go_wp2_with fail
  go_loopw [37] (fun x wr => ∃ t : Nat, t ≤ m ∧ x = .int .i64 t ∧ Hid (@HkM (rowKeep A5 m (fun j => .int .i64 (ordN d m j))) 101 (mkI d c A m qq) w2.heap.size w2.heap.size m (rowE s z c d m t) (celT s z d m t) wr) ∧ Hid (Below w2.heap.size w2 wr)) (fun x _ => m - (intOf x).toNat)
  case atStart => exact ⟨0, Nat.zero_le _, rfl, Lib.hid (@HkM.congr (rowKeep A5 m (fun j => .int .i64 (ordN d m j))) _ _ _ _ _ _ _ _ _ HM5.out fun j hj => by rw [celT_zero j hj]), HB5⟩
  case round =>
    obtain ⟨t, ht, rfl, HM6, HB6⟩ := hrel
    obtain ⟨HM7, hrd7⟩ := HkM.free _ HM6.out
    by_cases htm : t < m
    · obtain ⟨g4, o4, rfl, hg4, hr4⟩ := hrd7 (by omega)
      have k4 := hr4 t htm
      have HO := Lib.hid (ordN_lt (d := d) htm)
      have HSC : Hid (SmlC (celT s z d m t) m) := Lib.hid ⟨by omega, fun j hj => (small_sml (HF.out.celT hj)).1⟩
      have HSC2 : Hid (SmlC (celT s z d m (t + 1)) m) := Lib.hid ⟨by omega, fun j hj => (small_sml (HF.out.celT hj)).1⟩
      have HCA := Lib.hid (celT_at (s := s) (z := z) (d := d) htm)
      have HSM := Lib.hid (small_sml (up5 (HF.out.cel0 HO.out)))
      have HRE := Lib.hid (HF.out.rowE (c := c) (d := d) ht)
      have HKT := Lib.hid (befI_keep (s := s) (d := d) HF.out.hz HF.out.t (show t + 1 ≤ m by omega))
      have hkb := HSC2.out.bef (Nat.le_refl m)
      have hk12 : ¬ 12 < befI (celT s z d m (t + 1)) m := by
        have := keepS_le HK.out (t := t + 1) (by omega) (by omega)
        rw [HKT.out]
        omega
      have HSUM := Lib.hid (sum_catC (celT s z d m (t + 1)) m)
      have HLN := Lib.hid (HF.out.catT (d := d) (t := t + 1) (Nat.le_refl m))
      obtain ⟨K, hK⟩ : ∃ K, K = befI (celT s z d m (t + 1)) m := ⟨_, rfl⟩
      obtain ⟨i, hi⟩ : ∃ i, i = ordN d m t := ⟨_, rfl⟩
      have HI := Lib.hid hi
      rw [← hi] at HO HCA HSM
      rw [← hK] at hkb hk12 HSUM
      simp only [← hi] at k4
      have HZW := Lib.hid (show Rd wr A m (fun j => .int .i64 (z j)) from (rd_obj _ _ _).1 _ _ HZ5.out fun b hb => HB6.out.block b (HZB.out b hb))
      have b1 : (0 : Int) ≤ (t : Int) := by omega
      have b2 : (t : Int) < (m : Int) := by omega
      clear hr4 hi hK hrd7 HM7
      go_wp2_with fail
      refine (@implMake_any (rowKeep (some ⟨g4, o4, none⟩) m (fun j => .int .i64 (ordN d m j))) _ _ _ _ _ _ _ _ _ _ z i (cel0 s z i) HM6.out HB6.out.size HZW.out HZB.out (by have := HRE.out; omega) HO.out HSC.out HCA (cel0_length i) (by have := HSM.out; omega) (HF.out.hz i HO.out)).mono ?_
      rintro e w7 ⟨rfl, HM7, hb7⟩
      have HM8 := Lib.hid (@HkM.congr (rowKeep (some ⟨g4, o4, none⟩) m (fun j => .int .i64 (ordN d m j))) _ _ _ _ _ _ _ (celT s z d m (t + 1)) _ HM7 fun j hj => by
        rw [celT_next htm j hj, ← HI.out]
        unfold hupd
        by_cases h : j = i
        · rw [if_pos h, if_pos h, h]
        · rw [if_neg h, if_neg h])
      have HB8 := Lib.hid (HB6.out.trans hb7)
      obtain ⟨HM9, _⟩ := HkM.free _ HM8.out
      obtain ⟨tg9, ev9, cl9, n9, U9, H9⟩ := HM9
      obtain ⟨g9, c9, rfl⟩ := H9.form (by omega)
      have m9 : w7.cell? ⟨w2.heap.size, 3, none⟩ = some (.slice (some ⟨g9, 0, none⟩) m c9) := H9.b.cell 3
      have HCT := Lib.hid (H9.concat (by have := HLN.out; omega) (by omega))
      clear H9 HM7 hb7 k4
      go_wp2_with fail
      refine HCT.out.mono ?_
      rintro e w8 ⟨v8, rfl, ho8, hb8⟩
      obtain ⟨A8, c8, rfl⟩ := own_form ho8
      have HRD := Lib.hid (hk_rd ho8)
      have HB9 := Lib.hid (HB8.out.trans (hb8.mono HB8.out.size))
      have HM10 := Lib.hid (@HkM.below (rowKeep (some ⟨g4, o4, none⟩) m (fun j => .int .i64 (ordN d m j))) _ _ _ _ _ _ _ _ _ HM8.out hb8)
      clear ho8 hb8 m9
      go_wp2_with fail
      refine (sumC_any A8 _ c8 _ _ rfl HRD.out ⟨by have := HLN.out; omega, fun x hx => ?_⟩).mono ?_
      · obtain ⟨j, hj, hx⟩ := catC_mem hx
        have := (HF.out.celT (d := d) (t := t + 1) hj).1 x hx
        omega
      rintro e w' ⟨rfl, rfl⟩
      rw [HSUM.out]
      go_wp2_with fail
      go_roundw
      case rel => exact ⟨t + 1, by omega, by go_num, Lib.hid (by have h := HM10.out; rw [HI.out] at h; exact h), HB9⟩
      case measure => simp [intOf] <;> omega
    · obtain rfl : m = t := by omega
      have hm0 : 0 < m := by
        rcases Nat.eq_zero_or_pos m with h0 | h0
        · have := HF.out.t
          rw [h0] at this
          simp only [segT] at this
          omega
        · exact h0
      obtain ⟨tg9, ev9, cl9, n9, U9, H9⟩ := HM7
      obtain ⟨g9, c9, rfl⟩ := H9.form hm0
      obtain ⟨Ae, ce, rfl⟩ := own_form H9.e
      have n4 : wr.cell? ⟨w2.heap.size, 4, none⟩ = some (.slice Ae n9 ce) := H9.b.cell 4
      have n3 : wr.cell? ⟨w2.heap.size, 3, none⟩ = some (.slice (some ⟨g9, 0, none⟩) m c9) := H9.b.cell 3
      have HLN := Lib.hid (HF.out.catT (d := d) (t := m) (Nat.le_refl m))
      have HCT := Lib.hid (H9.drew.concat (by have := HLN.out; omega) (by omega))
      have HLST := Lib.hid (cat_last (s := s) (d := d) HF.out.hz (Nat.le_refl m))
      have HE9 := Lib.hid H9.e
      have HLW := Lib.hid (show w.heap.size ≤ w2.heap.size from Nat.le_of_lt hsz2)
      have HBW := Lib.hid (HB2.out.trans (HB6.out.mono HLW.out))
      have HLR := Lib.hid HB6.out.size
      clear H9 hrd7
      go_wp2_with fail
      go_region_held3 (fun w' => w'.cell? ⟨w2.heap.size, 4, none⟩ = some (.slice Ae n9 ce) ∧ w'.cell? ⟨w2.heap.size, 3, none⟩ = some (.slice (some ⟨g9, 0, none⟩) m c9)) (go_keep)
        ((go_at_call 69; refine HCT.out.mono ?_; rintro e w8 ⟨v8, rfl, ho8, hb8⟩; have hb9 : Below wr.heap.size wr w8 := (Below.refl wr.heap.size wr).drew.trans hb8; have HO8 := Lib.hid ho8; have HB8 := Lib.hid hb9; have kx4 := at_below hb9 (World.block_lt_of_cell? wr _ n4) n4; have kx3 := at_below hb9 (World.block_lt_of_cell? wr _ n3) n3; clear ho8 hb8 hb9))
      rename_i hHeld
      clear hHeld n4 n3 kx4 kx3
      go_wp2_with fail
      go_ret3
      refine ⟨_, _, n9, rfl, own_base (own_below HE9.out HB8.out) HLW.out, ?_, HBW.out.trans (HB8.out.mono (Nat.le_trans HLW.out HLR.out))⟩
      have h := own_base HO8.out (B' := w.heap.size) (Nat.le_trans HLW.out HLR.out)
      rw [HLST.out] at h
      exact h
end Go.Proofs.Ytacppheedleamaa

set_option linter.unusedVariables false
set_option linter.unusedSimpArgs false
namespace Go.Proofs.Ytacppheedleamaa
open Go.RowKit
set_option maxRecDepth 20000

set_option maxHeartbeats 4000000 in
theorem handKnit_any (C : Nat) (A : Option Addr) (n q : Nat) (d c : Nat → Int) (As : Nat → Option Addr) (ns cs : Nat → Nat) (z : Nat → Nat → Int) (w : World) (ha : RdRows A n d c As ns cs z w) (hcb : chartB C n d c ns z = true) :
    Calls Try.prog 29 #[.agg #[.int .i64 C, .slice A n q]] w fun e w' => ∃ v nE, e = .returned v ∧ w'.ownsRow w.heap.size 77 6 v nE (ints (hkE C d c ns z n)) ∧ Below w.heap.size w w' := by
  obtain ⟨i0, hi0, iz, is, ib⟩ := info_parts info64
  obtain ⟨j0, hj0, jz, js, jb⟩ := info_parts infoEvent
  have hcb2 := hcb
  simp only [chartB, Bool.and_eq_true, decide_eq_true_eq] at hcb2
  obtain ⟨⟨hc18, hn1, hn8⟩, hrows⟩ := hcb2
  have hc := inB_of hc18
  rw [Int.toNat_natCast] at hrows
  have HRW := Lib.hid hrows
  have HB0 := Lib.hid ((Below.refl w.heap.size w).alloc (Nat.le_refl _) (.cells #[.int .i64 C, .slice A n q] 26))
  have HX := Lib.hid (box_new w #[.int .i64 C, .slice A n q] 26)
  have HA := Lib.hid ha
  have LA := Lib.hid (rdRows_obj A n d c As ns cs z)
  obtain ⟨gr, orr, hA0, hgr, r0, r1, r2⟩ := ha.row (k := 0) (by omega)
  subst hA0
  have k0 := HX.out 0
  have k1 := HX.out 1
  have k2 := at_below HB0.out hgr r1
  rw [Nat.zero_mul, Nat.add_zero] at k2
  obtain ⟨c0, hc0⟩ : ∃ x, x = c 0 := ⟨_, rfl⟩
  rw [← hc0] at k2
  have HC0 := Lib.hid hc0
  have b0 : (0 : Int) < (n : Int) := by omega
  have b1 : 0 < n := by omega
  have hlt0 : w.heap.size < (w.alloc (.cells #[.int .i64 C, .slice (some ⟨gr, orr, none⟩) n q] 26)).heap.size := by simp
  clear ha hcb hrows hc18 r0 r1 r2 hc0
  go_enter Try.func29, Try.ntmps29
  go_wp2_with fail
  go_region_held3 (fun w' => w'.cell? ⟨w.heap.size, 0, none⟩ = some (.int .i64 (C : Int)) ∧ w'.cell? ⟨w.heap.size, 1, none⟩ = some (.slice (some ⟨gr, orr, none⟩) n q) ∧ w'.cell? ⟨gr, orr + 1, none⟩ = some (.int .i64 c0)) (go_keep)
    ((go_at_call 36; refine (implCastO_any C c0 _ (by omega)).mono ?_; rintro e w4 ⟨v4, rfl, ho4, hb4⟩; have HO4 := Lib.hid ho4; have hb5 : Below (w.alloc (.cells #[.int .i64 C, .slice (some ⟨gr, orr, none⟩) n q] 26)).heap.size (w.alloc (.cells #[.int .i64 C, .slice (some ⟨gr, orr, none⟩) n q] 26)) w4 := (Below.refl _ _).drew.trans hb4; have HB4X := Lib.hid hb5; have kx0 := at_below hb5 hlt0 k0; have kx1 := at_below hb5 hlt0 k1; have kx2 := at_below hb5 (World.block_lt_of_cell? _ _ k2) k2; clear ho4 hb4 hb5))
  rename_i hHeld
  clear hHeld k0 k1 k2 kx2
  have HO4B : Hid (w4.ownsRow (w.heap.size + 1) 77 6 v4 C (ints (castL c0 C))) := Lib.hid (own_base HO4.out (by simp))
  have HB4 : Hid (Below (w.heap.size + 1) (w.alloc (.cells #[.int .i64 C, .slice (some ⟨gr, orr, none⟩) n q] 26)) w4) := Lib.hid (by have h := HB4X.out; simp only [World.size_alloc] at h; exact h)
  have hs4 := HB4.out.size
  simp only [World.size_alloc] at hs4
  have HBR := Lib.hid ((Below.refl w4.heap.size w4).alloc (Nat.le_refl _) (.cells #[.int .i64 1] 2))
  have kx0' := at_below HBR.out (show w.heap.size < w4.heap.size by omega) kx0
  have kx1' := at_below HBR.out (show w.heap.size < w4.heap.size by omega) kx1
  clear HO4 HB4X kx0 kx1
  go_wp2_with fail
  refine (repeat64_any w4.heap.size 1 C _ (cell_alloc_at rfl 0) (by omega) (by omega)).mono ?_
  rintro e w6 ⟨A6, c6, rfl, hc6, hn6⟩
  have HB6 : Hid (Below (w.heap.size + 1) (w.alloc (.cells #[.int .i64 C, .slice (some ⟨gr, orr, none⟩) n q] 26)) w6) := Lib.hid (HB4.out.trans ((HBR.out.mono hs4).trans (hn6.bl.mono (by simp; omega))))
  have HO6 := Lib.hid (own_below (own_below HO4B.out HBR.out) hn6.bl)
  have kx2' := at_below hn6.bl (show w.heap.size < (w4.alloc (.cells #[.int .i64 1] 2)).heap.size by simp; omega) kx1'
  obtain ⟨gs, os, rfl, _⟩ := new_row hn6 (show 0 < C by omega)
  have HR6 := Lib.hid (hn6.rd.congr (f' := fun j => .int .i64 (stF C ns z 0 j)) fun j hj => by rw [stF_zero hj])
  clear hn6 kx0' kx1'
  go_wp2_with fail
  clear kx2'
  go_loopw [3, 4, 25] (fun ov sv x wr => ∃ (k nE g' o' cs' : Nat), k ≤ n ∧ x = .int .i64 k ∧ sv = .slice (some ⟨g', o', none⟩) (stN C ns z k) cs' ∧ (stN C ns z k ≤ cs' ∧ cs' ≤ maxLen) ∧ Hid (Rd wr (some ⟨g', o', none⟩) (stN C ns z k) (fun j => .int .i64 (stF C ns z k j))) ∧ Hid (wr.ownsRow (w.heap.size + 1) 77 6 ov nE (ints (hkE C d c ns z k))) ∧ Hid (Below (w.heap.size + 1) (w.alloc (.cells #[.int .i64 C, .slice (some ⟨gr, orr, none⟩) n q] 26)) wr)) (fun _ _ x _ => n - (intOf x).toNat)
  case atStart => exact ⟨0, C, gs, os, c6, Nat.zero_le _, rfl, rfl, hc6, HR6, Lib.hid (by simp only [hkE]; rw [← HC0.out]; exact HO6.out), HB6⟩
  case round =>
    obtain ⟨k, nE, g', o', cs', hk, rfl, rfl, hcs', HR7, HO7, HB7⟩ := hrel
    have hsz := HB7.out.size
    simp only [World.size_alloc] at hsz
    have HBW := Lib.hid (HB0.out.trans (HB7.out.mono (Nat.le_succ _)))
    obtain ⟨Ao, co, rfl⟩ := own_form HO7.out
    by_cases hlt : k < n
    · obtain ⟨g9, o9, e9, hg9, r0, r1, r2⟩ := (LA.out.below HA.out HBW.out).row hlt
      injection e9 with e9
      injection e9 with e9 e10
      subst e9 e10
      have HZ7 := Lib.hid ((LA.out.below HA.out HBW.out).2 k hlt)
      have hrb := rowsB_all HRW.out k hlt
      have HFK := Lib.hid (rowB_fit hrb)
      have HSA := Lib.hid (show saC (stF C ns z k) (stN C ns z k) (z k) (ns k) = 0 by simp only [rowB, Bool.and_eq_true, decide_eq_true_eq] at hrb; exact hrb.1.2)
      have HEL := Lib.hid (hkE_length (d := d) (c := c) (show C ≤ 8 by omega) HRW.out (k := k + 1) (by omega))
      have hrk : ∀ j, j ≤ n → rowsB C d c ns z j = true := by
        intro j hj
        induction j with
        | zero => rfl
        | succ j ih => simp only [rowsB, Bool.and_eq_true]; exact ⟨ih (by omega), rowsB_all HRW.out j (by omega)⟩
      have hNk := stN_ok (d := d) (c := c) (ns := ns) (z := z) (k := k) (show 1 ≤ C ∧ C ≤ 8 by omega) (hrk k hk)
      have hN8 := stN_ok (d := d) (c := c) (ns := ns) (z := z) (k := k + 1) (show 1 ≤ C ∧ C ≤ 8 by omega) (hrk (k + 1) hlt)
      have b2 : (0 : Int) ≤ (k : Int) := by omega
      have b3 : (k : Int) < (n : Int) := by omega
      have HBX := Lib.hid ((Below.refl wr.heap.size wr).alloc (Nat.le_refl _) (.cells #[.int .i64 (d k), .int .i64 (c k), .slice (As k) (ns k) (cs k)] 40))
      clear hrk hrb
      go_wp2_with fail
      refine (knitRow_any (d k) (c k) (As k) (ns k) (cs k) (z k) (stF C ns z k) g' o' (stN C ns z k) cs' _ (HZ7.out.below HBX.out) (HR7.out.below HBX.out) hcs'.1 hcs'.2 (by omega) HFK.out.2.1 HSA.out HFK.out.2.2).mono ?_
      rintro e w8 ⟨ev, af, n8, rfl, ho8, ha8, hb8⟩
      obtain ⟨R8, hR8⟩ : ∃ R, R = rowE (stF C ns z k) (z k) (c k) (d k) (ns k) (ns k) := ⟨_, rfl⟩
      have hN1 : (aft (stF C ns z k) (z k) (ns k)).length = stN C ns z (k + 1) := aft_length HFK.out.1.hz (Nat.le_refl _)
      rw [hN1] at ha8
      rw [← hR8] at ho8
      have HN2 := Lib.hid (show hkE C d c ns z (k + 1) = hkE C d c ns z k ++ R8 by rw [hR8]; rfl)
      have hL8 : R8.length = n8 * 6 := by have := ho8.1; simpa [ints] using this
      have hLk : (hkE C d c ns z k).length = nE * 6 := by have := HO7.out.1; simpa [ints] using this
      have hEL := HEL.out
      rw [HN2.out, List.length_append, hL8, hLk] at hEL
      obtain ⟨ga, ca, hAf, hga, hca⟩ : ∃ ga ca, af = .slice (some ⟨ga, 0, none⟩) (stN C ns z (k + 1)) ca ∧ wr.heap.size ≤ ga ∧ stN C ns z (k + 1) ≤ ca ∧ ca ≤ maxLen := by
        rcases ha8.2 with ⟨_, h0⟩ | ⟨g, cap, _, e, hb, _, h1, h2, _⟩
        · omega
        · simp only [World.size_alloc] at hb
          exact ⟨g, cap, e, by omega, h1, h2⟩
      subst hAf
      obtain ⟨Ae, ce, rfl⟩ := own_form ho8
      have hb9 : Below wr.heap.size wr w8 := HBX.out.trans (hb8.mono (by simp))
      have HRA := Lib.hid ((hk_rd ha8).congr (f' := fun j => .int .i64 (stF C ns z (k + 1) j)) fun j hj => rfl)
      have HRE := Lib.hid (hk_rd6 ho8)
      have HO8 := Lib.hid (own_below HO7.out hb9)
      have HB8 := Lib.hid (HB7.out.trans (hb9.mono (by omega)))
      have HGA := Lib.hid (show ∀ b, (Value.slice Ao nE co).ownBlock = some b → b < wr.heap.size from fun b hb => (HO7.out.lt b hb).2)
      have HIG := Lib.hid (ints_get R8 (n8 * 6) hL8)
      have hs8 := HB8.out.size
      simp only [World.size_alloc] at hs8
      clear ho8 ha8 hb8 hR8 hN1 hL8 hLk hb9
      go_wp2_with (at_builtin; go_must (refine wpList_appR w8 rfl (.tmp 36) (.tmp 37) _ rfl (w.heap.size + 1) 77 j0 _ 6 48 Try.underlying28 hj0 jz js jb rfl (by omega) _ _ _ rfl HO8.out Ae n8 ce (fun j => .int .i64 (R8.getD j 0)) rfl HRE.out (fun j => rfl) (by unfold maxLen; omega) (by omega) hs8 ?_); intro v' w' hown' hfr; have HO9 := Lib.hid hown'; have HF9 := Lib.hid hfr; clear hown' hfr)
      go_roundw
      case rel => exact ⟨k + 1, nE + n8, ga, 0, ca, by omega, by go_num, rfl, hca, Lib.hid ((rd_obj _ _ _).fr HRA.out HF9.out fun b hb e => by
        obtain ⟨_, a, e2, hb2⟩ := hb
        injection e2 with e2
        subst e2
        have := HGA.out b e
        simp only at hb2
        omega), Lib.hid (by
        have h := HO9.out
        rw [HIG.out, ← ints_app, ← HN2.out] at h
        exact h), Lib.hid (HB8.out.trans (HF9.out.own HO8.out hs8))⟩
      case measure => simp [intOf] <;> omega
    · obtain rfl : n = k := by omega
      go_wp2
      go_ret
      exact ⟨_, nE, rfl, own_base HO7.out (Nat.le_succ _), HBW.out⟩
set_option maxHeartbeats 2000000 in
theorem implHandKnit_any (cols : Int) (A : Option Addr) (n q : Nat) (d c : Nat → Int) (As : Nat → Option Addr) (ns cs : Nat → Nat) (z : Nat → Nat → Int) (w : World) (ha : RdRows A n d c As ns cs z w) (hn : n ≤ 1048576) (hns : ∀ j, j < n → ns j ≤ 1048576) :
    Calls Try.prog 7 #[.agg #[.int .i64 cols, .slice A n q]] w (HkR cols n d c ns z w) := by
  have HB0 := Lib.hid ((Below.refl w.heap.size w).alloc (Nat.le_refl _) (.cells #[.int .i64 cols, .slice A n q] 26))
  have HX := Lib.hid (box_new w #[.int .i64 cols, .slice A n q] 26)
  have HA := Lib.hid ha
  have HNS := Lib.hid hns
  have LA := Lib.hid (rdRows_obj A n d c As ns cs z)
  have k0 := HX.out 0
  have k1 := HX.out 1
  have hlt0 : w.heap.size < (w.alloc (.cells #[.int .i64 cols, .slice A n q] 26)).heap.size := by simp
  clear ha hns
  go_enter Try.func7, Try.ntmps7
  go_wp2_with fail
  refine (implValidChart_any cols A n q d c As ns cs z _ (LA.out.below HA.out HB0.out) hn HNS.out).mono ?_
  rintro e w2 ⟨rfl, hb2⟩
  have HB2 := Lib.hid (HB0.out.trans (hb2.mono (by simp)))
  have y0 := at_below hb2 hlt0 k0
  have y1 := at_below hb2 hlt0 k1
  clear hb2 k0 k1
  cases hcb : chartB cols n d c ns z
  · have HCB := Lib.hid hcb
    go_wp2_with fail
    go_ret2
    exact HkR.no HCB.out HB2.out
  have hcb2 := hcb
  simp only [chartB, Bool.and_eq_true, decide_eq_true_eq] at hcb2
  have hc := inB_of hcb2.1.1
  obtain ⟨C, rfl⟩ := Int.eq_ofNat_of_zero_le (show 0 ≤ cols by omega)
  have HCB := Lib.hid hcb
  clear hcb hcb2
  go_wp2_with fail
  refine (handKnit_any C A n q d c As ns cs z w2 (LA.out.below HA.out HB2.out) HCB.out).mono ?_
  rintro e w3 ⟨v, nE, rfl, ho3, hb3⟩
  have HO3 := Lib.hid (own_base ho3 HB2.out.size)
  have HB3 := Lib.hid (HB2.out.trans (hb3.mono HB2.out.size))
  clear ho3 hb3
  go_wp2_with fail
  go_ret2
  exact HkR.yes HCB.out (by rw [Int.toNat_natCast]; exact HO3.out) HB3.out
end Go.Proofs.Ytacppheedleamaa
