/- Walks: a program is run by the reference with what it costs. No condition but the bounds. -/
import Derived.Test.YtpmfkpehmckgmaaMachM
import Derived.Test.YtpmfkpehmckgmaaMachK
import Derived.Test.YtpmfkpehmckgmaaOpsOkSA
namespace Go.Proofs.Ytpmfkpehmckgmaa
open Go.RowKit
set_option maxRecDepth 20000

def carOf (z : Nat → Int) (i : Nat) : Nat := (z (i * 8 + 6) - 1).toNat
/-- The yarn that operation i needs, by its carrier. -/
def yNeed (s : Mst) (z : Nat → Int) (i : Nat) : Int := yarnI s (z (i * 8)) (z (i * 8 + 1)) (z (i * 8 + 2)) (z (i * 8 + 3)) (carOf z i)
def yAt (W : Nat) (z : Nat → Int) : Nat → Nat → Int
  | 0, _ => 0
  | i + 1, j => yAt W z i j + (if z (i * 8 + 6) = (j : Int) + 1 then yNeed (mSt W z i) z i else 0)
def stk (W : Nat) (z : Nat → Int) : Nat → Nat
  | 0 => 0
  | i + 1 => pkS (mSt W z (i + 1)) (stk W z i) W
def alN (W : Nat) (z : Nat → Int) : Nat → Nat
  | 0 => 0
  | i + 1 => max (alN W z i) (pkN (mSt W z (i + 1)) W)
def maxI (a b : Int) : Int := if b < a then a else b
def rks (W : Nat) (z : Nat → Int) : Nat → Int
  | 0 => 0
  | i + 1 => if z (i * 8) = 7 then rks W z i + maxI (z (i * 8 + 7) - (mSt W z i).rk) ((mSt W z i).rk - z (i * 8 + 7)) else rks W z i
/-- What an operation that is valid has as its carrier. -/
theorem opC_B {W : Nat} {z : Nat → Int} {i : Nat} (h : opW W z i = true) : ((z (i * 8) = 4 ∨ z (i * 8) = 6 ∨ z (i * 8) = 7) ∧ z (i * 8 + 6) = 0) ∨ (z (i * 8) ≠ 4 ∧ z (i * 8) ≠ 6 ∧ z (i * 8) ≠ 7 ∧ z (i * 8 + 6) = (carOf z i : Int) + 1 ∧ carOf z i < 4) := by
  unfold carOf
  unfold opW at h
  generalize z (i * 8) = k at *
  generalize z (i * 8 + 1) = d at *
  generalize z (i * 8 + 2) = fb at *
  generalize z (i * 8 + 3) = fa at *
  generalize z (i * 8 + 4) = tb at *
  generalize z (i * 8 + 5) = ta at *
  generalize z (i * 8 + 6) = c at *
  generalize z (i * 8 + 7) = r at *
  unfold opB dirB ndB inB at h
  split at h
  · simp only [Bool.and_eq_true, decide_eq_true_eq, beq_iff_eq] at h
    omega
  split at h
  · simp only [Bool.and_eq_true, decide_eq_true_eq, beq_iff_eq] at h
    omega
  split at h
  · simp only [Bool.and_eq_true, decide_eq_true_eq, beq_iff_eq] at h
    omega
  split at h
  · simp only [Bool.and_eq_true, decide_eq_true_eq, beq_iff_eq] at h
    omega
  split at h
  · simp only [Bool.and_eq_true, decide_eq_true_eq, beq_iff_eq] at h
    omega
  split at h
  · simp only [Bool.and_eq_true, decide_eq_true_eq, beq_iff_eq] at h
    omega
  split at h
  · simp only [Bool.and_eq_true, decide_eq_true_eq, beq_iff_eq] at h
    omega
  · simp at h
section
variable {W : Nat} {z : Nat → Int} {n : Nat}
theorem yNeed_bd {s : Mst} {D : Nat} (hs : MOk s D) {i : Nat} (hp : OpOk s.W (z (i * 8)) (z (i * 8 + 1)) (z (i * 8 + 2)) (z (i * 8 + 3)) (z (i * 8 + 4)) (z (i * 8 + 5)) (z (i * 8 + 6)) (z (i * 8 + 7)) (z (i * 8 + 6) - 1).toNat) : -40 ≤ yNeed s z i ∧ yNeed s z i ≤ 40 := by
  have hw2 := hs.w2
  have hf1 := hp.f1
  have hxb := placeI_bd (b := z (i * 8 + 2)) hp.f0 (show z (i * 8 + 3) ≤ 23 by omega) hs.r1 hs.r2
  unfold yNeed yarnI yarnK
  by_cases hk : kindI (z (i * 8)) = 1
  · have hk1 : z (i * 8) = 1 ∨ z (i * 8) = 2 ∨ z (i * 8) = 3 ∨ z (i * 8) = 5 := by
      unfold kindI at hk
      split at hk
      · assumption
      · split at hk
        · omega
        · split at hk <;> omega
    have hj : carOf z i < 4 := by
      have := hp.car (by omega) (by omega) (by omega)
      exact this.2
    have hcb := hs.ca _ hj
    rw [if_pos hk]
    generalize placeI (z (i * 8 + 2)) (z (i * 8 + 3)) s.rk = x at *
    generalize s.cat (carOf z i) = y at *
    split <;> split <;> (try split) <;> (try split) <;> omega
  · rw [if_neg hk]
    omega
theorem yAt_bd (h1 : 1 ≤ W) (h2 : W ≤ 24) (n : Nat) (hp : ∀ i, i < n → opW W z i = true) (hc : okTo W z n) (j : Nat) : -40 * (n : Int) ≤ yAt W z n j ∧ yAt W z n j ≤ 40 * (n : Int) := by
  induction n with
  | zero => simp [yAt]
  | succ n ih =>
    have h := ih (fun i hi => hp i (by omega)) (fun i hi => hc i (by omega))
    have hs := mSt_ok h1 h2 n (fun i hi => hp i (by omega)) (fun i hi => hc i (by omega))
    have hb := yNeed_bd hs (by rw [mSt_W]; exact opOk_at h1 (hp n (by omega)))
    simp only [yAt]
    generalize yNeed (mSt W z n) z n = y at *
    split <;> omega
theorem pkS_le {s : Mst} {D : Nat} (hs : MOk s D) {st : Nat} (h4 : st ≤ 4) (i : Nat) (hi : i ≤ s.W) : pkS s st i ≤ 4 := by
  induction i with
  | zero => exact h4
  | succ i ih =>
    have h1 := hs.fb i (by omega)
    have h2 := hs.kb i (by omega)
    have h3 := ih (by omega)
    simp only [pkS]
    omega
theorem stk_le (h1 : 1 ≤ W) (h2 : W ≤ 24) (n : Nat) (hp : ∀ i, i < n → opW W z i = true) (hc : okTo W z n) : stk W z n ≤ 4 ∧ alN W z n ≤ 192 := by
  induction n with
  | zero => simp [stk, alN]
  | succ n ih =>
    have h := ih (fun i hi => hp i (by omega)) (fun i hi => hc i (by omega))
    have hs := mSt_ok h1 h2 (n + 1) hp hc
    have hw := mSt_W W z (n + 1)
    have h3 := pkS_le hs h.1 W (by omega)
    have h4 := pkN_le hs W (by omega)
    simp only [stk, alN]
    exact ⟨h3, by omega⟩
theorem rks_bd (h1 : 1 ≤ W) (h2 : W ≤ 24) (n : Nat) (hp : ∀ i, i < n → opW W z i = true) (hc : okTo W z n) : 0 ≤ rks W z n ∧ rks W z n ≤ 6 * (n : Int) := by
  induction n with
  | zero => simp [rks]
  | succ n ih =>
    have h := ih (fun i hi => hp i (by omega)) (fun i hi => hc i (by omega))
    have hs := mSt_ok h1 h2 n (fun i hi => hp i (by omega)) (fun i hi => hc i (by omega))
    have ho := opOk_at h1 (hp n (by omega))
    have := hs.r1
    have := hs.r2
    have := ho.r0
    have := ho.r1
    simp only [rks, maxI]
    split
    · split <;> omega
    · omega
end
/-- The machine is run on memory of the call's own. -/
structure Runs (w : World) (tg : Nat → Nat) (a : MAdr) (s : Mst) (w' : World) : Prop where
  m : Mem tg a s w'
  b : Below w.heap.size w w'
  lo : ∀ q, tg q ≠ 0 → w.heap.size ≤ q
section
variable {w w1 w2 : World} {tg : Nat → Nat} {a : MAdr} {s s' : Mst}
theorem Runs.below (h : Runs w tg a s w1) (hb : Below w1.heap.size w1 w2) : Runs w tg a s w2 := ⟨h.m.below hb, h.b.trans (hb.mono h.b.size), h.lo⟩
theorem Runs.fr (h : Runs w tg a s w1) (hf : Fr w1 w2 (OwnB tg)) : Below w.heap.size w w2 := h.b.trans (hf.below h.b.size fun q hq => h.lo q hq)
theorem Runs.step (h : Runs w tg a s w1) (hm : Moved w1 tg a.g s' w2) : ∃ tg' a', a'.g = a.g ∧ Runs w tg' a' s' w2 ∧ ∀ q, q < w1.heap.size → tg q = 0 → tg' q = 0 ∧ w2.heap[q]? = w1.heap[q]? := by
  obtain ⟨tg', a', hg, hm', hf, ht⟩ := hm
  refine ⟨tg', a', hg, ⟨hm', h.fr hf, fun q hq => ?_⟩, fun q hq h0 => ⟨Decidable.byContradiction fun hn => ?_, hf.block q hq (fun hn => hn h0)⟩⟩
  · rcases ht q hq with h1 | h1
    · exact h.lo q h1
    · exact Nat.le_trans h.b.size h1
  · rcases ht q hn with h1 | h1
    · exact h1 h0
    · omega
/-- A store into a block that is none of the machine's. -/
theorem Runs.set (h : Runs w tg a s w1) {g : Nat} (hg : tg g = 0) (hlo : w.heap.size ≤ g) (o : Nat) (u : Value) : Runs w tg a s (w1.setCell ⟨g, o, none⟩ u) :=
  ⟨h.m.same (fun b hb => set_keep _ _ _ _ (by intro e; rw [show b = g from e] at hb; exact hb hg)) (by rw [set_size]; exact Nat.le_refl _), h.b.setCell hlo _, h.lo⟩
theorem opCe_of {ga o n : Nat} {z : Nat → Int} (hr : RowR w ga o (n * 8) (fun j => .int .i64 (z j))) {k : Nat} (hk : k < n) :
    OpCe ga (o + k * 8) (z (k * 8)) (z (k * 8 + 1)) (z (k * 8 + 2)) (z (k * 8 + 3)) (z (k * 8 + 4)) (z (k * 8 + 5)) (z (k * 8 + 6)) (z (k * 8 + 7)) w := by
  refine ⟨hr (k * 8) (by omega), ?_, ?_, ?_, ?_, ?_, ?_, ?_⟩
  all_goals
    try rw [Nat.add_assoc]
    try rw [Nat.add_assoc]
    exact hr _ (by omega)
end
abbrev yCells (W : Nat) (z : Nat → Int) (i : Nat) : Array Value := #[.int .i64 (yAt W z i 0), .int .i64 (yAt W z i 1), .int .i64 (yAt W z i 2), .int .i64 (yAt W z i 3)]
theorem yCells_at (W : Nat) (z : Nat → Int) (i : Nat) {j : Nat} (hj : j < 4) : (yCells W z i)[j]? = some (.int .i64 (yAt W z i j)) := by
  have h : j = 0 ∨ j = 1 ∨ j = 2 ∨ j = 3 := by omega
  rcases h with rfl | rfl | rfl | rfl <;> rfl
theorem yCells_set (W : Nat) (z : Nat → Int) (i : Nat) {j : Nat} (hj : j < 4) (hc : z (i * 8 + 6) = (j : Int) + 1) : (yCells W z i).setIfInBounds j (.int .i64 (yAt W z i j + yNeed (mSt W z i) z i)) = yCells W z (i + 1) := by
  have h : j = 0 ∨ j = 1 ∨ j = 2 ∨ j = 3 := by omega
  rcases h with rfl | rfl | rfl | rfl
  all_goals
    unfold yCells
    simp [yAt, hc]
theorem yCells_keep (W : Nat) (z : Nat → Int) (i : Nat) (hc : z (i * 8 + 6) = 0) : yCells W z i = yCells W z (i + 1) := by
  unfold yCells
  simp [yAt, hc]
theorem l00MaxI_any (a b : Int) (w : World) : Calls Try.prog 57 #[.int .i64 a, .int .i64 b] w fun e w' => e = .returned (.int .i64 (maxI a b)) ∧ w = w' := by
  by_cases h : b < a
  · have HM := Lib.hid (show maxI a b = a from if_pos h)
    go_enter Try.func57, Try.ntmps57
    go_wp2
    all_goals first | omega | (go_ret; exact ⟨by rw [HM.out]; rfl, rfl⟩)
  · have HM := Lib.hid (show maxI a b = b from if_neg h)
    go_enter Try.func57, Try.ntmps57
    go_wp2
    all_goals first | omega | (go_ret; exact ⟨by rw [HM.out]; rfl, rfl⟩)
/-- The code of a program. -/
def codeOf (W : Int) (z : Nat → Int) (n : Nat) : Int := if progB W z n = true then runC W.toNat z n else 1
/-- What a run leaves: a code, or the yarn, the peaks and the racks. -/
def RunP (w : World) (W : Int) (z : Nat → Int) (n : Nat) (e : Ending) (w' : World) : Prop :=
  (codeOf W z n ≠ 0 → e = .returned (.tuple #[.slice none 0 0, .int .i64 0, .int .i64 0, .int .i64 0, .int .i64 (codeOf W z n)]) ∧ Below w.heap.size w w') ∧
  (codeOf W z n = 0 → ∃ g, e = .returned (.tuple #[.slice (some ⟨g, 0, none⟩) 4 4, .int .i64 (stk W.toNat z n : Nat), .int .i64 (alN W.toNat z n : Nat), .int .i64 (rks W.toNat z n), .int .i64 0]) ∧ w.heap.size ≤ g ∧ Blk w' g 2 (yCells W.toNat z n) ∧ Below w.heap.size w w')
theorem codeOf_no {W : Int} {z : Nat → Int} {n : Nat} (h : progB W z n = false) : codeOf W z n = 1 := if_neg (by rw [h]; exact Bool.false_ne_true)
theorem RunP.no {w w' : World} {W : Int} {z : Nat → Int} {n : Nat} {e : Ending} {c : Int} (hc : codeOf W z n = c) (h0 : c ≠ 0) (he : e = .returned (.tuple #[.slice none 0 0, .int .i64 0, .int .i64 0, .int .i64 0, .int .i64 c])) (hb : Below w.heap.size w w') : RunP w W z n e w' :=
  ⟨fun _ => ⟨by rw [he, hc], hb⟩, fun h => absurd (hc.symm.trans h) h0⟩
set_option maxHeartbeats 4000000 in
theorem l27Run_any (W : Int) (A : Option Addr) (n q : Nat) (z : Nat → Int) (w : World) (ha : Rd w A (n * 8) (fun j => .int .i64 (z j))) (hn : n ≤ 1048576) :
    Calls Try.prog 37 #[.int .i64 W, .slice A n q] w (RunP w W z n) := by
  have hops := l07Ops_any W A n q z w ha hn
  have HA := Lib.hid ha
  clear ha
  cases hpb : progB W z n
  · rw [hpb] at hops
    have HC := Lib.hid (codeOf_no hpb)
    have HO := Lib.hid hops
    clear hops hpb
    go_enter Try.func37, Try.ntmps37
    go_wp2_with fail
    refine HO.out.mono ?_
    rintro e w1 ⟨rfl, hb1⟩
    have HB1 := Lib.hid hb1
    clear hb1
    go_wp2_with fail
    refine bodyPost_ret (v := .tuple #[.slice none 0 0, .int .i64 0, .int .i64 0, .int .i64 0, .int .i64 1]) (by simp [results, Try.results37, go_sem]) rfl ?_
    exact RunP.no HC.out (by omega) rfl HB1.out
  · have HPB := Lib.hid hpb
    have hpp : inB W 1 24 = true ∧ n ≤ 1500 ∧ opsB W z n = true := by
      unfold progB at hpb
      simpa only [Bool.and_eq_true, decide_eq_true_eq] using hpb
    have hW : 1 ≤ W ∧ W ≤ 24 := by have := hpp.1; unfold inB at this; simpa only [Bool.and_eq_true, decide_eq_true_eq] using this
    obtain ⟨W, rfl⟩ := Int.eq_ofNat_of_zero_le (show 0 ≤ W by omega)
    have HW : Hid (1 ≤ W ∧ W ≤ 24) := Lib.hid (by omega)
    have hn15 := hpp.2.1
    have HOPS := Lib.hid (opsB_all hpp.2.2)
    rw [hpb] at hops
    have HO := Lib.hid hops
    have hmk4 : ∀ w, (Instr.makeSlice 41 (.int .i64 4) (.int .i64 4)).run Try.prog w = .ok (.slice (some ⟨w.heap.size, 0, none⟩) 4 4) (w.alloc (.cells #[.int .i64 0, .int .i64 0, .int .i64 0, .int .i64 0] 2)) := fun _ => by kernel_rfl
    clear hops hpb hpp hW
    go_enter Try.func37, Try.ntmps37
    go_wp2_with fail
    refine HO.out.mono ?_
    rintro e w1 ⟨rfl, hb1⟩
    have HB1 := Lib.hid hb1
    clear hb1 HO
    go_wp2_with fail
    refine (l07New_any W w1 HW.out.1 HW.out.2).mono ?_
    rintro e w2 ⟨v, rfl, ⟨tg0, ⟨g0, gf, cf, gk, ck, gc, cc, F0, K0, L0, D0⟩, rfl, hlo, hlt0, ⟨⟨AL, nL, cL, hL⟩, ⟨AD, nD, cD, hD⟩⟩, hmk⟩, hb2⟩
    obtain rfl : L0 = _ := hL
    obtain rfl : D0 = _ := hD
    have HB2 : Hid (Below w.heap.size w w2) := Lib.hid (HB1.out.trans (hb2.mono HB1.out.size))
    have H0 : Hid (Runs w (onT tg0 w2.heap.size) ⟨w2.heap.size, gf, cf, gk, ck, gc, cc, F0, K0, .slice AL nL cL, .slice AD nD cD⟩ (mSt W z 0) ((w2.alloc (.cells (cellsM ⟨g0, gf, cf, gk, ck, gc, cc, F0, K0, .slice AL nL cL, .slice AD nD cD⟩ (newM W)) 69)).alloc (.cells (yCells W z 0) 2))) := Lib.hid ⟨hmk _ _ (Decidable.byContradiction fun hn => Nat.lt_irrefl _ (hlt0 _ hn)) (fun b hb => by
        have h1 := hlt0 b hb
        exact (Below.heap_alloc _ _ b (by simp; omega)).trans (Below.heap_alloc _ _ b h1)) (by simp; omega) ((Blk.at_ _ _ _ rfl).alloc _),
      (HB2.out.alloc HB2.out.size _).alloc (by have := HB2.out.size; simp; omega) _, fun q hq => by
        unfold onT at hq
        split at hq
        · have := HB2.out.size; omega
        · exact Nat.le_trans HB1.out.size (hlo q hq)⟩
    have HT0 : Hid (onT tg0 w2.heap.size (w2.heap.size + 1) = 0) := Lib.hid (by
      unfold onT
      rw [if_neg (by omega)]
      exact Decidable.byContradiction fun hn => by have := hlt0 _ hn; omega)
    clear hlo hlt0 hmk hb2
    simp only [cellsM, newM] at H0 ⊢
    go_wp2_with fail
    go_loopw [11, 12, 13, 14] (fun sv av rv iv wr => ∃ (i : Nat) (tg : Nat → Nat) (a : MAdr), i ≤ n ∧ iv = .int .i64 i ∧ sv = .int .i64 (stk W z i : Nat) ∧ av = .int .i64 (alN W z i : Nat) ∧ rv = .int .i64 (rks W z i) ∧ a.g = w2.heap.size ∧ Runs w tg a (mSt W z i) wr ∧ tg (w2.heap.size + 1) = 0 ∧ Blk wr (w2.heap.size + 1) 2 (yCells W z i) ∧ okTo W z i) (fun _ _ _ iv _ => n - (intOf iv).toNat)
    case atStart => exact ⟨0, _, _, Nat.zero_le _, rfl, rfl, rfl, rfl, rfl, H0.out, HT0.out, Blk.at_ _ _ _ (by simp), fun i hi => by omega⟩
    case round =>
      obtain ⟨i, tg, a, hile, rfl, rfl, rfl, rfl, hg, hr, hty, hy, hok⟩ := hrel
      have HG := Lib.hid hg
      have HR := Lib.hid hr
      have HTY := Lib.hid hty
      have HY := Lib.hid hy
      have HOK := Lib.hid hok
      have hw2s : w.heap.size ≤ w2.heap.size := HB2.out.size
      clear hg hr hty hy hok
      by_cases hlt : i < n
      · have HLT := Lib.hid hlt
        obtain ⟨ga, o, rfl, hga, hra⟩ := HA.out (by omega)
        have HGA : Hid (ga < w.heap.size) := Lib.hid hga
        have HT : Hid (∀ b, b < w.heap.size → tg b = 0) := Lib.hid fun b hb => Decidable.byContradiction fun hn => by have := HR.out.lo b hn; omega
        have hce := opCe_of (hra.below hga HR.out.b) hlt
        have hs := mSt_ok HW.out.1 HW.out.2 i (fun q hq => HOPS.out q (by omega)) HOK.out
        have hp := opOk_at HW.out.1 (HOPS.out i hlt)
        have hcb := opC_B (HOPS.out i hlt)
        have hsb := stk_le HW.out.1 HW.out.2 i (fun q hq => HOPS.out q (by omega)) HOK.out
        have hrb := rks_bd HW.out.1 HW.out.2 i (fun q hq => HOPS.out q (by omega)) HOK.out
        have hrk1 := hs.r1
        have hrk2 := hs.r2
        have m1 := HR.out.m.m.cell 1
        rw [HG.out] at m1
        replace m1 : wr.cell? ⟨w2.heap.size, 1, none⟩ = some (.int .i64 (mSt W z i).rk) := m1
        rw [← mSt_W W z i] at hp
        unfold carOf at hcb
        have HREQ := Lib.hid (show rks W z (i + 1) = if z (i * 8) = 7 then rks W z i + maxI (z (i * 8 + 7) - (mSt W z i).rk) ((mSt W z i).rk - z (i * 8 + 7)) else rks W z i from rfl)
        generalize hx0 : z (i * 8) = k at *
        generalize hx1 : z (i * 8 + 1) = d at *
        generalize hx2 : z (i * 8 + 2) = fb at *
        generalize hx3 : z (i * 8 + 3) = fa at *
        generalize hx4 : z (i * 8 + 4) = tb at *
        generalize hx5 : z (i * 8 + 5) = ta at *
        generalize hx6 : z (i * 8 + 6) = c at *
        generalize hx7 : z (i * 8 + 7) = r at *
        have HX0 := Lib.hid hx0
        have HX1 := Lib.hid hx1
        have HX2 := Lib.hid hx2
        have HX3 := Lib.hid hx3
        have HX4 := Lib.hid hx4
        have HX5 := Lib.hid hx5
        have HX6 := Lib.hid hx6
        have HX7 := Lib.hid hx7
        have hr0 := hp.r0
        have hr1 := hp.r1
        have HO := Lib.hid hce
        have HS := Lib.hid hs
        have HP := Lib.hid hp
        have o0 := hce.c0
        have o7 := hce.c7
        clear hx0 hx1 hx2 hx3 hx4 hx5 hx6 hx7 hce hs hp hra hga
        by_cases hk7 : k = 7
        · subst hk7
          obtain rfl : c = 0 := by omega
          have HREQ7 : Hid (rks W z (i + 1) = rks W z i + maxI (r - (mSt W z i).rk) ((mSt W z i).rk - r)) := Lib.hid (HREQ.out.trans (if_pos rfl))
          clear hcb HREQ
          obtain ⟨rr, hrr⟩ : ∃ y, y = rks W z i := ⟨_, rfl⟩
          obtain ⟨rk, hrk⟩ : ∃ y, y = (mSt W z i).rk := ⟨_, rfl⟩
          rw [← hrr] at hrb HREQ7 ⊢
          rw [← hrk] at hrk1 hrk2 m1 HREQ7
          have HRR := Lib.hid hrr
          have HRK := Lib.hid hrk
          clear hrr hrk
          have hwa : IntKind.i64.wrap (r - rk) = r - rk := by rw [IntKind.wrap_i64]; omega
          have hwb : IntKind.i64.wrap (rk - r) = rk - r := by rw [IntKind.wrap_i64]; omega
          obtain ⟨mx, hmx⟩ : ∃ y, y = maxI (r - rk) (rk - r) := ⟨_, rfl⟩
          have hmb : 0 ≤ mx ∧ mx ≤ 6 := by rw [hmx]; unfold maxI; split <;> omega
          have HMX := Lib.hid hmx
          have hcall : ∀ w', Calls Try.prog 57 #[.int .i64 (r - rk), .int .i64 (rk - r)] w' fun e w'' => e = .returned (.int .i64 mx) ∧ w'' = w' := fun w' => (l00MaxI_any _ _ w').mono fun _ _ h => ⟨by rw [HMX.out]; exact h.1, h.2.symm⟩
          have hwc : IntKind.i64.wrap (rr + mx) = rr + mx := by rw [IntKind.wrap_i64]; omega
          have HCALL := Lib.hid hcall
          clear hcall hmx
          go_wp2_with fail
          go_quiet ((go_at_call 57; exact Calls.quiet_of_same (HCALL.out _)))
          rename_i nq
          have HR3 := Lib.hid (HR.out.below (Below.drewN' (Below.refl _ _) nq))
          have HO3 := Lib.hid ((opCe_loc _ _ _ _ _ _ _ _ _ _).1 _ (wr.drewN nq) HO.out fun _ _ => rfl)
          have HY3 := Lib.hid (HY.out.drewN nq)
          clear hwa hwb hwc
          go_wp2_with fail
          have hy := l27Yarn_any ga (o + i * 8) (k := 7) (d := d) (fb := fb) (fa := fa) (tb := tb) (ta := ta) (c := 0) (r := r) HR3.out.m HS.out HO3.out HP.out
          rw [HG.out] at hy
          refine hy.mono ?_
          rintro e w5 ⟨rfl, hb5⟩
          clear hy
          have HR5 := Lib.hid (HR3.out.below hb5)
          have HO5 := Lib.hid ((opCe_loc _ _ _ _ _ _ _ _ _ _).1 _ _ HO3.out fun q hq => by subst hq; exact hb5.block _ (World.block_lt_of_cell? _ _ HO3.out.c0))
          have HY5 := Lib.hid (HY3.out.below hb5 HY3.out.lt)
          obtain ⟨yn, hyn⟩ : ∃ y, y = yarnI (mSt W z i) 7 d fb fa ((0 : Int) - 1).toNat := ⟨_, rfl⟩
          rw [← hyn]
          have HYN := Lib.hid hyn
          clear hb5 hyn
          go_wp2_with fail
          have hd := l07Do_any (D := 4 * i) ga (o + i * 8) (k := 7) (d := d) (fb := fb) (fa := fa) (tb := tb) (ta := ta) (c := 0) (r := r) HR5.out.m HS.out (by omega) HO5.out (HT.out ga HGA.out) HP.out
          rw [HG.out] at hd
          obtain ⟨code, hcode⟩ : ∃ y, y = doCode (mSt W z i) 7 d fb fa tb ta ((0 : Int) - 1).toNat := ⟨_, rfl⟩
          rw [← hcode] at hd
          have HCODE := Lib.hid hcode
          refine hd.mono ?_
          rintro e w6 ⟨rfl, hf6, hm6⟩
          clear hd hcode
          by_cases hc0 : code = 0
          · obtain ⟨tg7, a7, hg7, hr7, hk7⟩ := HR5.out.step (by rw [HG.out]; exact hm6 hc0)
            subst hc0
            have HKC : Hid (kC (mSt W z i) z i = 0) := Lib.hid (by unfold kC; rw [HX0.out, HX1.out, HX2.out, HX3.out, HX4.out, HX5.out, HX6.out]; exact HCODE.out.symm)
            have HR7 : Hid (Runs w tg7 a7 (mSt W z (i + 1)) w6) := Lib.hid (by
              have e : doSt (mSt W z i) 7 d fb fa tb ta r ((0 : Int) - 1).toNat = mSt W z (i + 1) := by
                show _ = kS (mSt W z i) z i
                unfold kS
                rw [HX0.out, HX1.out, HX2.out, HX3.out, HX4.out, HX5.out, HX6.out, HX7.out]
              rw [← e]; exact hr7)
            have HO7 := Lib.hid ((opCe_loc _ _ _ _ _ _ _ _ _ _).1 _ _ HO5.out fun q hq => by subst hq; exact (hk7 _ (World.block_lt_of_cell? _ _ HO5.out.c0) (HT.out _ HGA.out)).2)
            have HY7 : Hid (Blk w6 (w2.heap.size + 1) 2 (yCells W z i)) := Lib.hid ((hk7 _ HY5.out.lt HTY.out).2.trans HY5.out)
            have HTY7 : Hid (tg7 (w2.heap.size + 1) = 0) := Lib.hid (hk7 _ HY5.out.lt HTY.out).1
            have HG7 : Hid (a7.g = w2.heap.size) := Lib.hid (hg7.trans HG.out)
            have HS7 := Lib.hid (mSt_ok HW.out.1 HW.out.2 (i + 1) (fun q hq => HOPS.out q (by omega)) (okTo_succ HOK.out HKC.out))
            have o6 := HO7.out.c6
            clear hm6 hf6 hg7 hr7 hk7
            have HR8 := HR7
            have HY8 : Hid (Blk w6 (w2.heap.size + 1) 2 (yCells W z (i + 1))) := Lib.hid (by rw [← yCells_keep W z i HX6.out]; exact HY7.out)
            go_wp2_with fail
            have HPK := Lib.hid (stk_le HW.out.1 HW.out.2 i (fun q hq => HOPS.out q (by omega)) HOK.out)
            have hpk := l27Peaks_any (stk W z i) (alN W z i) HR8.out.m HS7.out
            rw [HG7.out] at hpk
            refine hpk.mono ?_
            rintro e w9 ⟨rfl, hb9⟩
            clear hpk
            rw [mSt_W]
            have HR9 := Lib.hid (HR8.out.below hb9)
            have HY9 := Lib.hid (HY8.out.below hb9 HY8.out.lt)
            clear hb9
            go_wp2_with fail
            go_roundw
            case rel => exact ⟨i + 1, tg7, a7, HLT.out, by go_num, rfl, rfl, by rw [HREQ7.out, HMX.out], HG7.out, HR9.out, HTY7.out, HY9.out, okTo_succ HOK.out HKC.out⟩
            case measure => simp [intOf] <;> omega
          · exact absurd (HCODE.out.trans (by simp [doCode])) hc0
        · have hk7' : (k == 7) = false := by simpa using hk7
          have HREQ7 : Hid (rks W z (i + 1) = rks W z i) := Lib.hid (HREQ.out.trans (if_neg hk7))
          clear HREQ
          by_cases hcz : c = 0
          · have HCZ := Lib.hid hcz
            clear hcb
            subst hcz
            go_wp2_with fail
            have hy := l27Yarn_any ga (o + i * 8) (k := k) (d := d) (fb := fb) (fa := fa) (tb := tb) (ta := ta) (c := 0) (r := r) HR.out.m HS.out HO.out HP.out
            rw [HG.out] at hy
            refine hy.mono ?_
            rintro e w5 ⟨rfl, hb5⟩
            clear hy
            have HR5 := Lib.hid (HR.out.below hb5)
            have HO5 := Lib.hid ((opCe_loc _ _ _ _ _ _ _ _ _ _).1 _ _ HO.out fun q hq => by subst hq; exact hb5.block _ (World.block_lt_of_cell? _ _ HO.out.c0))
            have HY5 := Lib.hid (HY.out.below hb5 HY.out.lt)
            obtain ⟨yn, hyn⟩ : ∃ y, y = yarnI (mSt W z i) k d fb fa ((0 : Int) - 1).toNat := ⟨_, rfl⟩
            rw [← hyn]
            have HYN := Lib.hid hyn
            clear hb5 hyn
            go_wp2_with fail
            have hd := l07Do_any (D := 4 * i) ga (o + i * 8) (k := k) (d := d) (fb := fb) (fa := fa) (tb := tb) (ta := ta) (c := 0) (r := r) HR5.out.m HS.out (by omega) HO5.out (HT.out ga HGA.out) HP.out
            rw [HG.out] at hd
            obtain ⟨code, hcode⟩ : ∃ y, y = doCode (mSt W z i) k d fb fa tb ta ((0 : Int) - 1).toNat := ⟨_, rfl⟩
            rw [← hcode] at hd
            have HCODE := Lib.hid hcode
            refine hd.mono ?_
            rintro e w6 ⟨rfl, hf6, hm6⟩
            clear hd hcode
            by_cases hc0 : code = 0
            · obtain ⟨tg7, a7, hg7, hr7, hk7⟩ := HR5.out.step (by rw [HG.out]; exact hm6 hc0)
              subst hc0
              have HKC : Hid (kC (mSt W z i) z i = 0) := Lib.hid (by unfold kC; rw [HX0.out, HX1.out, HX2.out, HX3.out, HX4.out, HX5.out, HX6.out]; exact HCODE.out.symm)
              have HR7 : Hid (Runs w tg7 a7 (mSt W z (i + 1)) w6) := Lib.hid (by
                have e : doSt (mSt W z i) k d fb fa tb ta r ((0 : Int) - 1).toNat = mSt W z (i + 1) := by
                  show _ = kS (mSt W z i) z i
                  unfold kS
                  rw [HX0.out, HX1.out, HX2.out, HX3.out, HX4.out, HX5.out, HX6.out, HX7.out]
                rw [← e]; exact hr7)
              have HO7 := Lib.hid ((opCe_loc _ _ _ _ _ _ _ _ _ _).1 _ _ HO5.out fun q hq => by subst hq; exact (hk7 _ (World.block_lt_of_cell? _ _ HO5.out.c0) (HT.out _ HGA.out)).2)
              have HY7 : Hid (Blk w6 (w2.heap.size + 1) 2 (yCells W z i)) := Lib.hid ((hk7 _ HY5.out.lt HTY.out).2.trans HY5.out)
              have HTY7 : Hid (tg7 (w2.heap.size + 1) = 0) := Lib.hid (hk7 _ HY5.out.lt HTY.out).1
              have HG7 : Hid (a7.g = w2.heap.size) := Lib.hid (hg7.trans HG.out)
              have HS7 := Lib.hid (mSt_ok HW.out.1 HW.out.2 (i + 1) (fun q hq => HOPS.out q (by omega)) (okTo_succ HOK.out HKC.out))
              have o6 := HO7.out.c6
              clear hm6 hf6 hg7 hr7 hk7
              have HR8 := HR7
              have HY8 : Hid (Blk w6 (w2.heap.size + 1) 2 (yCells W z (i + 1))) := Lib.hid (by rw [← yCells_keep W z i HX6.out]; exact HY7.out)
              go_wp2_with fail
              have HPK := Lib.hid (stk_le HW.out.1 HW.out.2 i (fun q hq => HOPS.out q (by omega)) HOK.out)
              have hpk := l27Peaks_any (stk W z i) (alN W z i) HR8.out.m HS7.out
              rw [HG7.out] at hpk
              refine hpk.mono ?_
              rintro e w9 ⟨rfl, hb9⟩
              clear hpk
              rw [mSt_W]
              have HR9 := Lib.hid (HR8.out.below hb9)
              have HY9 := Lib.hid (HY8.out.below hb9 HY8.out.lt)
              clear hb9
              go_wp2_with fail
              go_roundw
              case rel => exact ⟨i + 1, tg7, a7, HLT.out, by go_num, rfl, rfl, by rw [HREQ7.out], HG7.out, HR9.out, HTY7.out, HY9.out, okTo_succ HOK.out HKC.out⟩
              case measure => simp [intOf] <;> omega
            · have HKC : Hid (kC (mSt W z i) z i = code) := Lib.hid (by unfold kC; rw [HX0.out, HX1.out, HX2.out, HX3.out, HX4.out, HX5.out, HX6.out]; exact HCODE.out.symm)
              have HCO : Hid (codeOf W z n = code) := Lib.hid (by
                unfold codeOf
                rw [if_pos HPB.out, Int.toNat_natCast, runC_stop HOK.out HLT.out (by rw [HKC.out]; exact hc0), HKC.out])
              have HF6 := Lib.hid (HR5.out.fr hf6)
              have hc1 : (code == 0) = false := by simpa using hc0
              have HC0 := Lib.hid hc0
              clear hm6 hf6 hc0
              go_wp2_with fail
              refine bodyPost_ret (v := .tuple #[.slice none 0 0, .int .i64 0, .int .i64 0, .int .i64 0, .int .i64 code]) (by simp [results, Try.results37, go_sem]) rfl ?_
              exact RunP.no HCO.out HC0.out rfl HF6.out
          · obtain ⟨j, hj⟩ : ∃ j, j = (c - 1).toNat := ⟨_, rfl⟩
            obtain rfl : c = (j : Int) + 1 := by omega
            have HJ : Hid (j < 4) := Lib.hid (by omega)
            have hj4 : j < 4 := HJ.out
            clear hcb hj
            go_wp2_with fail
            have hy := l27Yarn_any ga (o + i * 8) (k := k) (d := d) (fb := fb) (fa := fa) (tb := tb) (ta := ta) (c := (j : Int) + 1) (r := r) HR.out.m HS.out HO.out HP.out
            rw [HG.out] at hy
            refine hy.mono ?_
            rintro e w5 ⟨rfl, hb5⟩
            clear hy
            have HR5 := Lib.hid (HR.out.below hb5)
            have HO5 := Lib.hid ((opCe_loc _ _ _ _ _ _ _ _ _ _).1 _ _ HO.out fun q hq => by subst hq; exact hb5.block _ (World.block_lt_of_cell? _ _ HO.out.c0))
            have HY5 := Lib.hid (HY.out.below hb5 HY.out.lt)
            obtain ⟨yn, hyn⟩ : ∃ y, y = yarnI (mSt W z i) k d fb fa ((j : Int) + 1 - 1).toNat := ⟨_, rfl⟩
            rw [← hyn]
            have HYN := Lib.hid hyn
            clear hb5 hyn
            go_wp2_with fail
            have hd := l07Do_any (D := 4 * i) ga (o + i * 8) (k := k) (d := d) (fb := fb) (fa := fa) (tb := tb) (ta := ta) (c := (j : Int) + 1) (r := r) HR5.out.m HS.out (by omega) HO5.out (HT.out ga HGA.out) HP.out
            rw [HG.out] at hd
            obtain ⟨code, hcode⟩ : ∃ y, y = doCode (mSt W z i) k d fb fa tb ta ((j : Int) + 1 - 1).toNat := ⟨_, rfl⟩
            rw [← hcode] at hd
            have HCODE := Lib.hid hcode
            refine hd.mono ?_
            rintro e w6 ⟨rfl, hf6, hm6⟩
            clear hd hcode
            by_cases hc0 : code = 0
            · obtain ⟨tg7, a7, hg7, hr7, hk7⟩ := HR5.out.step (by rw [HG.out]; exact hm6 hc0)
              subst hc0
              have HKC : Hid (kC (mSt W z i) z i = 0) := Lib.hid (by unfold kC; rw [HX0.out, HX1.out, HX2.out, HX3.out, HX4.out, HX5.out, HX6.out]; exact HCODE.out.symm)
              have HR7 : Hid (Runs w tg7 a7 (mSt W z (i + 1)) w6) := Lib.hid (by
                have e : doSt (mSt W z i) k d fb fa tb ta r ((j : Int) + 1 - 1).toNat = mSt W z (i + 1) := by
                  show _ = kS (mSt W z i) z i
                  unfold kS
                  rw [HX0.out, HX1.out, HX2.out, HX3.out, HX4.out, HX5.out, HX6.out, HX7.out]
                rw [← e]; exact hr7)
              have HO7 := Lib.hid ((opCe_loc _ _ _ _ _ _ _ _ _ _).1 _ _ HO5.out fun q hq => by subst hq; exact (hk7 _ (World.block_lt_of_cell? _ _ HO5.out.c0) (HT.out _ HGA.out)).2)
              have HY7 : Hid (Blk w6 (w2.heap.size + 1) 2 (yCells W z i)) := Lib.hid ((hk7 _ HY5.out.lt HTY.out).2.trans HY5.out)
              have HTY7 : Hid (tg7 (w2.heap.size + 1) = 0) := Lib.hid (hk7 _ HY5.out.lt HTY.out).1
              have HG7 : Hid (a7.g = w2.heap.size) := Lib.hid (hg7.trans HG.out)
              have HS7 := Lib.hid (mSt_ok HW.out.1 HW.out.2 (i + 1) (fun q hq => HOPS.out q (by omega)) (okTo_succ HOK.out HKC.out))
              have o6 := HO7.out.c6
              clear hm6 hf6 hg7 hr7 hk7
              have y1 := HY7.out.cell j
              rw [yCells_at _ _ _ HJ.out] at y1
              have fz := HY7.out.frozen j
              have hyb := yAt_bd HW.out.1 HW.out.2 i (fun q hq => HOPS.out q (by omega)) HOK.out j
              have hnb := yNeed_bd HS.out (by rw [mSt_W]; exact opOk_at HW.out.1 (HOPS.out i HLT.out))
              have HYB : Hid (yNeed (mSt W z i) z i = yn) := Lib.hid (by unfold yNeed carOf; rw [HX0.out, HX1.out, HX2.out, HX3.out, HX6.out]; exact HYN.out.symm)
              rw [HYB.out] at hnb
              obtain ⟨yy, hyy⟩ : ∃ y, y = yAt W z i j := ⟨_, rfl⟩
              rw [← hyy] at y1 hyb
              have HYY := Lib.hid hyy
              clear hyy
              go_wp2_with fail
              have HR8 := Lib.hid (HR7.out.set (g := w2.heap.size + 1) HTY7.out (by have := HB2.out.size; omega) j (.int .i64 (yy + yn)))
              have HY8 : Hid (Blk (w6.setCell ⟨w2.heap.size + 1, j, none⟩ (.int .i64 (yy + yn))) (w2.heap.size + 1) 2 (yCells W z (i + 1))) := Lib.hid (by
                have h8 := HY7.out.set_ j (.int .i64 (yy + yn))
                rw [HYY.out, ← HYB.out, yCells_set W z i HJ.out HX6.out] at h8
                rw [HYY.out, ← HYB.out]
                exact h8)
              have HPK := Lib.hid (stk_le HW.out.1 HW.out.2 i (fun q hq => HOPS.out q (by omega)) HOK.out)
              have hpk := l27Peaks_any (stk W z i) (alN W z i) HR8.out.m HS7.out
              rw [HG7.out] at hpk
              refine hpk.mono ?_
              rintro e w9 ⟨rfl, hb9⟩
              clear hpk
              rw [mSt_W]
              have HR9 := Lib.hid (HR8.out.below hb9)
              have HY9 := Lib.hid (HY8.out.below hb9 HY8.out.lt)
              clear hb9
              go_wp2_with fail
              go_roundw
              case rel => exact ⟨i + 1, tg7, a7, HLT.out, by go_num, rfl, rfl, by rw [HREQ7.out], HG7.out, HR9.out, HTY7.out, HY9.out, okTo_succ HOK.out HKC.out⟩
              case measure => simp [intOf] <;> omega
            · have HKC : Hid (kC (mSt W z i) z i = code) := Lib.hid (by unfold kC; rw [HX0.out, HX1.out, HX2.out, HX3.out, HX4.out, HX5.out, HX6.out]; exact HCODE.out.symm)
              have HCO : Hid (codeOf W z n = code) := Lib.hid (by
                unfold codeOf
                rw [if_pos HPB.out, Int.toNat_natCast, runC_stop HOK.out HLT.out (by rw [HKC.out]; exact hc0), HKC.out])
              have HF6 := Lib.hid (HR5.out.fr hf6)
              have hc1 : (code == 0) = false := by simpa using hc0
              have HC0 := Lib.hid hc0
              clear hm6 hf6 hc0
              go_wp2_with fail
              refine bodyPost_ret (v := .tuple #[.slice none 0 0, .int .i64 0, .int .i64 0, .int .i64 0, .int .i64 code]) (by simp [results, Try.results37, go_sem]) rfl ?_
              exact RunP.no HCO.out HC0.out rfl HF6.out
      · obtain rfl : n = i := by omega
        have HCO : Hid (codeOf W z n = 0) := Lib.hid (by
          unfold codeOf
          rw [if_pos HPB.out, Int.toNat_natCast, runC_ok HOK.out])
        go_wp2_with fail
        refine bodyPost_ret (v := .tuple #[.slice (some ⟨w2.heap.size + 1, 0, none⟩) 4 4, .int .i64 (stk W z n : Nat), .int .i64 (alN W z n : Nat), .int .i64 (rks W z n), .int .i64 0]) (by simp [results, Try.results37, go_sem]) rfl ?_
        exact ⟨fun h => absurd HCO.out h, fun _ => ⟨_, rfl, by have := HB2.out.size; omega, HY.out, HR.out.b⟩⟩
end Go.Proofs.Ytpmfkpehmckgmaa
