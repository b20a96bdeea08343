/- Contracts of the laws' helpers over charts: measured, copied, equal, marked. -/
import Derived.Test.YtfncdogbpmiomaaRowsLaw
import Derived.Test.YtfncdogbpmiomaaObj2
namespace Go.Proofs.Ytfncdogbpmiomaa
open Go.RowKit
set_option maxRecDepth 20000

theorem Loc.setC {P : World → Prop} {F : Nat → Prop} {w : World} (h : Loc P F) (hp : P w) {p : Addr} (hne : ∀ g, F g → g ≠ p.block) (v : Value) : P (w.setCell p v) :=
  h.1 w _ hp fun g hg => Below.heap_setCell w p v g (hne g hg)
theorem WrRows.set01 {g o n : Nat} {As : Nat → Option Addr} {ns cs : Nat → Nat} {w : World} (h : WrRows (some ⟨g, o, none⟩) n As ns cs w) (k a : Nat) (ha : a = o + k * 3 ∨ a = o + k * 3 + 1) (v : Value) :
    WrRows (some ⟨g, o, none⟩) n As ns cs (w.setCell ⟨g, a, none⟩ v) := by
  refine ⟨fun hN => ?_, fun j hj => ?_, fun j hj hN => ?_, h.2.2.2.1, h.2.2.2.2⟩
  · obtain ⟨g', o', e, hw⟩ := h.1 hN
    exact ⟨g', o', e, hw.set _ _⟩
  · obtain ⟨g', o', e, hc⟩ := h.2.1 j hj
    injection e with e
    injection e with e1 e2
    subst e1 e2
    refine ⟨_, _, rfl, ?_⟩
    rw [World.cell?_setCell_other _ _ _ _ (by intro e; injection e; omega)]
    exact hc
  · obtain ⟨g', o', e, hw⟩ := h.2.2.1 j hj hN
    exact ⟨g', o', e, hw.set _ _⟩
theorem WrRows.marked {A : Option Addr} {n : Nat} {As : Nat → Option Addr} {ns cs : Nat → Nat} {w w1 : World} (h : WrRows A n As ns cs w) {q : Nat} (hq : q < n) {r : Int} {f : Nat → Value} {e : Ending} (hm : MarkP w (As q) (ns q) r f e w1) :
    WrRows A n As ns cs w1 := by
  have hf : Fr w w1 (Fb (As q) (ns q)) := (hm.obj (h.2.2.1 q hq)).fr
  refine ⟨(wr_obj A (n * 3)).fr h.1 hf (fun b hb hb' => h.2.2.2.1 q b hq hb' hb), fun j hj => ?_, fun j hj => ?_, h.2.2.2.1, h.2.2.2.2⟩
  · obtain ⟨g, o, e, hc⟩ := h.2.1 j hj
    refine ⟨g, o, e, ?_⟩
    have hg : g < w.heap.size := World.block_lt_of_cell? w _ hc
    exact (World.cell?_of_block (w := w) (a := ⟨g, o + (j * 3 + 2), none⟩) (hf.block g hg fun hb => h.2.2.2.1 q g hq hb ⟨by omega, _, e, rfl⟩)).trans hc
  · by_cases hjq : j = q
    · subst hjq
      intro hN
      obtain ⟨g, o, e, _⟩ := h.2.2.1 j hj hN
      exact ⟨g, o, e, (hm.2.2.2 g o e hN).2.1⟩
    · refine (wr_obj _ _).fr (h.2.2.1 j hj) hf fun b hb hb' => ?_
      rcases Nat.lt_or_ge j q with h1 | h1
      · exact h.2.2.2.2 j q b h1 hq hb hb'
      · exact h.2.2.2.2 q j b (by omega) hj hb' hb

set_option maxHeartbeats 2000000 in
theorem markRowS_any (A : Option Addr) (n c : Nat) (As : Nat → Option Addr) (ns cs : Nat → Nat) (k : Int) (w : World) (h : WrRows A n As ns cs w) (hn : n ≤ 1048576) (hsum : sumN ns n ≤ 1048576) (h0 : 0 ≤ k) (hk : k ≤ 1000) :
    Calls Try.prog 54 #[.slice A n c, .int .i64 k] w (MarkO w (FRows A n As ns) (k + 2 * n + sumN ns n) (WrRows A n As ns cs)) := by
  have H := Lib.hid h
  clear h
  go_enter Try.func54, Try.ntmps54
  go_wp2
  go_loopw [1, 5] (fun kk i wr => ∃ q : Nat, q ≤ n ∧ i = .int .i64 q ∧ kk = .int .i64 (k + 2 * q + sumN ns q) ∧ Fr w wr (FRows A n As ns) ∧ WrRows A n As ns cs wr) (fun _ i _ => n - (intOf i).toNat)
  case atStart => exact ⟨0, Nat.zero_le _, rfl, by simp [sumN], Fr.refl _ _, H.out⟩
  case round =>
    obtain ⟨q, hq, rfl, rfl, hfr, hwr⟩ := hrel
    have HF := Lib.hid hfr
    have HW := Lib.hid hwr
    clear hfr hwr
    have hoq : sumN ns q ≤ 1048576 := Nat.le_trans (sumN_mono _ hq) hsum
    by_cases hlt : q < n
    · have hnq : ns q + sumN ns q ≤ 1048576 := by
        have := sumN_mono ns (show q + 1 ≤ n by omega)
        simp only [sumN] at this
        omega
      obtain ⟨g, o, rfl, hw⟩ := HW.out.1 (by omega)
      obtain ⟨⟨u0, hu0⟩, hf0⟩ := hw (q * 3) (by omega)
      obtain ⟨⟨u1, hu1⟩, hf1⟩ := hw (q * 3 + 1) (by omega)
      obtain ⟨g', o', e', hc⟩ := HW.out.2.1 q hlt
      injection e' with e'
      injection e' with e1 e2
      subst e1 e2
      rw [← Nat.add_assoc] at hu1 hf1 hc
      clear hw
      obtain ⟨m, hm⟩ : ∃ m, m = ns q := ⟨_, rfl⟩
      obtain ⟨S, hS⟩ : ∃ S, S = sumN ns q := ⟨_, rfl⟩
      rw [← hm] at hc hnq
      rw [← hS] at hnq hoq ⊢
      have HM := Lib.hid hm
      have HS := Lib.hid hS
      clear hm hS
      have HW2 := Lib.hid ((HW.out.set01 q _ (.inl rfl) (.int .i64 (k + 2 * q + S))).set01 q _ (.inr rfl) (.int .i64 (k + 2 * q + S + 1)))
      have HF2 := Lib.hid ((HF.out.set (p := ⟨g, o + q * 3, none⟩) (.inl ⟨by omega, _, rfl, rfl⟩) (.int .i64 (k + 2 * q + S))).set (p := ⟨g, o + q * 3 + 1, none⟩) (.inl ⟨by omega, _, rfl, rfl⟩) (.int .i64 (k + 2 * q + S + 1)))
      have HWq := Lib.hid (HW2.out.2.2.1 q hlt)
      rw [← HM.out] at HWq
      go_wp2_with fail
      refine (markInt64S_any (As q) m (cs q) (k + 2 * q + S + 1 + 1) _ (by rw [Nat.mul_one]; exact HWq.out) (by omega) (by omega) (by omega)).mono ?_
      rintro e w1 hmk
      obtain rfl := hmk.1
      rw [Nat.mul_one, HM.out] at hmk
      have HW3 := Lib.hid (HW2.out.marked hlt hmk)
      have HF3 := Lib.hid (HF2.out.trans ((hmk.obj (HW2.out.2.2.1 q hlt)).fr.mono fun b hb => .inr ⟨q, hlt, hb⟩))
      clear hmk hu0 hu1 hf0 hf1 hc
      go_wp2
      go_roundw
      case rel => exact ⟨q + 1, by omega, by go_num, by have := HM.out; have := HS.out; simp only [sumN, Value.int.injEq, true_and]; omega, HF3.out, HW3.out⟩
      case measure => simp [intOf] <;> omega
    · obtain rfl : q = n := by omega
      go_wp2
      go_ret
      exact ⟨rfl, HF.out, HW.out, wrRows_obj _ _ _ _ _⟩

set_option maxHeartbeats 1000000 in
theorem szChart_any (cols : Int) (A : Option Addr) (n q L : Nat) (d c : Nat → Int) (As : Nat → Option Addr) (ns cs : Nat → Nat) (z : Nat → Nat → Int) (w : World) (ha : RdRows A n d c As ns cs z w) (hn : n ≤ maxLen) (hns : ∀ j, j < n → ns j ≤ maxLen) (hL : L ≤ 1048576) :
    Calls Try.prog 7 #[.agg #[.int .i64 cols, .slice A n q], .int .i64 L] w fun e w' => ∃ r : Int, SzRows L n ns r ∧ e = .returned (.int .i64 r) ∧ Below w.heap.size w w' := by
  have HA := Lib.hid ha
  have LA := Lib.hid (rdRows_obj A n d c As ns cs z)
  have HNS := Lib.hid hns
  clear ha hns
  go_enter Try.func7, Try.ntmps7
  go_wp2_with fail
  refine (szRowS_any A n q L d c As ns cs z _ (LA.out.below HA.out (by (repeat' first | with_reducible exact Below.refl _ _ | with_reducible refine Below.alloc ?_ ?_ _ | with_reducible refine Below.setCell ?_ ?_ _ | with_reducible refine Below.drew ?_ | with_reducible refine Below.drewN' ?_ _ | with_reducible (refine Below.trans ?_ (Below.mono (by assumption) ?_)) | exact Nat.le_refl _ | (simp; done) | (simp; omega) | omega))) hn HNS.out hL).mono ?_
  rintro e w1 ⟨r1, hr1, rfl, hb1⟩
  have HR1 := Lib.hid hr1
  have HB1 := Lib.hid (show Below w.heap.size w w1 from by (repeat' first | with_reducible exact Below.refl _ _ | with_reducible refine Below.alloc ?_ ?_ _ | with_reducible refine Below.setCell ?_ ?_ _ | with_reducible refine Below.drew ?_ | with_reducible refine Below.drewN' ?_ _ | with_reducible (refine Below.trans ?_ (Below.mono (by assumption) ?_)) | exact Nat.le_refl _ | (simp; done) | (simp; omega) | omega))
  clear hr1 hb1
  by_cases h1 : r1 < 0
  · go_wp2
    go_ret
    exact ⟨-1, .inl (by omega), rfl, HB1.out⟩
  · go_wp2
    go_ret
    exact ⟨r1, HR1.out, rfl, HB1.out⟩

/-- A copy of a chart. -/
def ChartP (w : World) (cols : Int) (n : Nat) (d c : Nat → Int) (ns : Nat → Nat) (z : Nat → Nat → Int) (e : Ending) (w' : World) : Prop :=
  ∃ A q As cs, e = .returned (.agg #[.int .i64 cols, .slice A n q]) ∧ NewO w w' (RdRows A n d c As ns cs z) (WrRows A n As ns cs) (FRows A n As ns)
set_option maxHeartbeats 1000000 in
theorem toChart_any (cols : Int) (A : Option Addr) (n q : Nat) (d c : Nat → Int) (As : Nat → Option Addr) (ns cs : Nat → Nat) (z : Nat → Nat → Int) (w : World) (ha : RdRows A n d c As ns cs z w) (hn : n ≤ 1048576) (hns : ∀ j, j < n → ns j ≤ 1048576) :
    Calls Try.prog 9 #[.agg #[.int .i64 cols, .slice A n q]] w (ChartP w cols n d c ns z) := by
  have HA := Lib.hid ha
  have LA := Lib.hid (rdRows_obj A n d c As ns cs z)
  have HNS := Lib.hid hns
  clear ha hns
  go_enter Try.func9, Try.ntmps9
  go_wp2_with fail
  refine (toRowS_any A n q d c As ns cs z _ (LA.out.below HA.out (by (repeat' first | with_reducible exact Below.refl _ _ | with_reducible refine Below.alloc ?_ ?_ _ | with_reducible refine Below.setCell ?_ ?_ _ | with_reducible refine Below.drew ?_ | with_reducible refine Below.drewN' ?_ _ | with_reducible (refine Below.trans ?_ (Below.mono (by assumption) ?_)) | exact Nat.le_refl _ | (simp; done) | (simp; omega) | omega))) hn HNS.out).mono ?_
  rintro e w1 ⟨A1, q1, As1, cs1, rfl, hn1⟩
  have hb1 := hn1.bl
  obtain ⟨hc1, hf1⟩ := bcell hb1
  have hz1 : w.heap.size + 1 + 1 < w1.heap.size := blt hb1 (by simp)
  have LO1 := Lib.hid (hn1.lo (k := w.heap.size + 3) (by first | (simp; done) | (simp; omega) | omega))
  have HN1 := Lib.hid hn1
  have HB1 := Lib.hid (show Below w.heap.size w w1 from by (repeat' first | with_reducible exact Below.refl _ _ | with_reducible refine Below.alloc ?_ ?_ _ | with_reducible refine Below.setCell ?_ ?_ _ | with_reducible refine Below.drew ?_ | with_reducible refine Below.drewN' ?_ _ | with_reducible (refine Below.trans ?_ (Below.mono (by assumption) ?_)) | exact Nat.le_refl _ | (simp; done) | (simp; omega) | omega))
  clear hn1 hb1
  go_wp2
  refine bodyPost_ret (v := .agg #[.int .i64 cols, .slice A1 n q1]) (by simp [results, Try.results9, go_sem, hc1]) rfl ⟨A1, q1, As1, cs1, rfl, ?_⟩
  have hR : ∀ wF, Fr w1 wF (fun g => g = w.heap.size + 1 ∨ g = w.heap.size + 1 + 1) → Below w.heap.size w wF → NewO w wF (RdRows A1 n d c As1 ns cs1 z) (WrRows A1 n As1 ns cs1) (FRows A1 n As1 ns) := by
    intro wF hf hb
    have hd : ∀ g, FRows A1 n As1 ns g → ¬ (g = w.heap.size + 1 ∨ g = w.heap.size + 1 + 1) := fun g hg h2 => by have := LO1.out g hg; omega
    exact ⟨hb, fun g hg => by have := LO1.out g hg; omega, HN1.out.or.fr HN1.out.r hf hd, HN1.out.ow.fr HN1.out.w hf hd, HN1.out.or, HN1.out.ow⟩
  have hb1 := HB1.out
  exact hR _ (by (repeat' first | with_reducible exact Fr.refl _ _ | with_reducible refine Fr.set ?_ ?_ _ | (simp; done) | omega)) (by (repeat' first | with_reducible exact Below.refl _ _ | with_reducible refine Below.alloc ?_ ?_ _ | with_reducible refine Below.setCell ?_ ?_ _ | with_reducible refine Below.drew ?_ | with_reducible refine Below.drewN' ?_ _ | with_reducible (refine Below.trans ?_ (Below.mono (by assumption) ?_)) | exact Nat.le_refl _ | (simp; done) | (simp; omega) | omega))

set_option maxHeartbeats 1000000 in
theorem eqChart_any (cols : Int) (A A' : Option Addr) (n q q' : Nat) (d c : Nat → Int) (As As' : Nat → Option Addr) (ns cs cs' : Nat → Nat) (z : Nat → Nat → Int) (w : World) (ha : RdRows A n d c As ns cs z w) (hb : RdRows A' n d c As' ns cs' z w) (hn : n ≤ 1000000000) (hns : ∀ j, j < n → ns j ≤ 1000000000) :
    Calls Try.prog 12 #[.agg #[.int .i64 cols, .slice A n q], .agg #[.int .i64 cols, .slice A' n q']] w fun e w' => e = .returned (.bool true) ∧ Below w.heap.size w w' := by
  have HA := Lib.hid ha
  have HA' := Lib.hid hb
  have LA := Lib.hid (rdRows_obj A n d c As ns cs z)
  have LA' := Lib.hid (rdRows_obj A' n d c As' ns cs' z)
  have HNS := Lib.hid hns
  clear ha hb hns
  go_enter Try.func12, Try.ntmps12
  go_wp2_with fail
  refine (eqRowS_any A A' n q q' d c As As' ns cs cs' z _ (LA.out.below HA.out (by (repeat' first | with_reducible exact Below.refl _ _ | with_reducible refine Below.alloc ?_ ?_ _ | with_reducible refine Below.setCell ?_ ?_ _ | with_reducible refine Below.drew ?_ | with_reducible refine Below.drewN' ?_ _ | with_reducible (refine Below.trans ?_ (Below.mono (by assumption) ?_)) | exact Nat.le_refl _ | (simp; done) | (simp; omega) | omega))) (LA'.out.below HA'.out (by (repeat' first | with_reducible exact Below.refl _ _ | with_reducible refine Below.alloc ?_ ?_ _ | with_reducible refine Below.setCell ?_ ?_ _ | with_reducible refine Below.drew ?_ | with_reducible refine Below.drewN' ?_ _ | with_reducible (refine Below.trans ?_ (Below.mono (by assumption) ?_)) | exact Nat.le_refl _ | (simp; done) | (simp; omega) | omega))) hn HNS.out).mono ?_
  rintro e w1 ⟨rfl, hb1⟩
  have HB1 := Lib.hid (show Below w.heap.size w w1 from by (repeat' first | with_reducible exact Below.refl _ _ | with_reducible refine Below.alloc ?_ ?_ _ | with_reducible refine Below.setCell ?_ ?_ _ | with_reducible refine Below.drew ?_ | with_reducible refine Below.drewN' ?_ _ | with_reducible (refine Below.trans ?_ (Below.mono (by assumption) ?_)) | exact Nat.le_refl _ | (simp; done) | (simp; omega) | omega))
  clear hb1
  go_wp2_with fail
  go_ret
  exact ⟨rfl, HB1.out⟩

set_option maxHeartbeats 1000000 in
theorem markChart_any (cols : Int) (A : Option Addr) (n q : Nat) (As : Nat → Option Addr) (ns cs : Nat → Nat) (k : Int) (w : World) (h : WrRows A n As ns cs w) (hn : n ≤ 1048576) (hsum : sumN ns n ≤ 1048576) (h0 : 0 ≤ k) (hk : k ≤ 1000) :
    Calls Try.prog 13 #[.agg #[.int .i64 cols, .slice A n q], .int .i64 k] w (MarkO w (FRows A n As ns) (k + 2 * n + sumN ns n) (WrRows A n As ns cs)) := by
  have H := Lib.hid h
  clear h
  go_enter Try.func13, Try.ntmps13
  go_wp2_with fail
  refine (markRowS_any A n q As ns cs k _ ((wrRows_obj A n As ns cs).below H.out (by (repeat' first | with_reducible exact Below.refl _ _ | with_reducible refine Below.alloc ?_ ?_ _ | with_reducible refine Below.setCell ?_ ?_ _ | with_reducible refine Below.drew ?_ | with_reducible refine Below.drewN' ?_ _ | with_reducible (refine Below.trans ?_ (Below.mono (by assumption) ?_)) | exact Nat.le_refl _ | (simp; done) | (simp; omega) | omega))) hn hsum h0 hk).mono ?_
  rintro e w1 hm
  obtain rfl := hm.ret
  have HM := Lib.hid hm
  clear hm
  go_wp2
  go_ret
  exact ⟨rfl, (Fr.of_below ((Below.refl w.heap.size w).alloc (Nat.le_refl _) _) _).trans HM.out.fr, HM.out.m, HM.out.om⟩
end Go.Proofs.Ytfncdogbpmiomaa
