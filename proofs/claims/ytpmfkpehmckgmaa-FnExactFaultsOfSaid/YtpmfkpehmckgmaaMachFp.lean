/- Walks: both FaultsOf. No condition but the bounds. -/
import Derived.Test.YtpmfkpehmckgmaaMachFo
import Derived.Test.YtpmfkpehmckgmaaMachPk
namespace Go.Proofs.Ytpmfkpehmckgmaa
open Go.RowKit
set_option maxRecDepth 20000

def foL (W : Int) (z : Nat → Int) (n : Nat) : List Int := if codeOf W z n = 0 then fL z n else []
def foN (W : Int) (z : Nat → Int) (n : Nat) : Nat := (foL W z n).length / 2
theorem foN_le (W : Int) (z : Nat → Int) (n : Nat) : foN W z n ≤ 6000 := by
  unfold foN foL
  split
  · obtain ⟨m, h1, h2⟩ := fL_len z n
    obtain ⟨_, _, _, _, h5, _⟩ := codeOf_ok ‹_›
    omega
  · simp
abbrev FoP (w : World) (W : Int) (z : Nat → Int) (n : Nat) : Ending → World → Prop := NewP2 w (foN W z n) (foN W z n * 2) (fun j => .int .i64 ((foL W z n).getD j 0)) (codeOf W z n)
theorem FoP.ok {w w' : World} {W : Int} {z : Nat → Int} {n m c : Nat} {A : Option Addr} {L : List Int} {e : Ending} (hc : codeOf W z n = 0) (hL : L = fL z n) (hl : L.length = 2 * m) (he : e = .returned (.tuple #[.slice A m c, .int .i64 0])) (ho : w'.ownsRow w.heap.size 52 2 (.slice A m c) m (ints L)) (hb : Below w.heap.size w w') : FoP w W z n e w' := by
  subst hL
  have hf : foL W z n = fL z n := if_pos hc
  have hn : foN W z n = m := by unfold foN; rw [hf]; omega
  unfold FoP
  rw [hn, hc, hf]
  obtain ⟨A', c', e', hp⟩ := New.of_own hb ho
  injection e' with e1 e2 e3
  subst e1 e3
  exact ⟨A, c, he, hp.congr fun j hj => by simp [ints, List.getD, List.getElem?_eq_getElem (show j < (fL z n).length by omega)]⟩
theorem FoP.no {w w' : World} {W : Int} {z : Nat → Int} {n : Nat} {e : Ending} {cd : Int} (hc : codeOf W z n = cd) (h0 : cd ≠ 0) (he : e = .returned (.tuple #[.slice none 0 0, .int .i64 cd])) (hb : Below w.heap.size w w') : FoP w W z n e w' := by
  have hf : foL W z n = [] := if_neg (by rw [hc]; exact h0)
  have hn : foN W z n = 0 := by unfold foN; rw [hf]; rfl
  unfold FoP
  rw [hn, hc]
  exact ⟨none, 0, he, New.none_ hb _⟩
section
variable (W : Int) (A : Option Addr) (n q : Nat) (z : Nat → Int) (w : World)
set_option maxHeartbeats 2000000 in
theorem implFaultsOf_any (ha : Rd w A (n * 8) (fun j => .int .i64 (z j))) (hn : n ≤ 1048576) : Calls Try.prog 18 #[.int .i64 W, .slice A n q] w (FoP w W z n) := by
  have hr := runCode_any W A n q z w ha hn
  have HA := Lib.hid ha
  clear ha
  by_cases hc : codeOf W z n = 0
  · obtain ⟨W, rfl, hW1, hW2, hn15, hops, hok⟩ := codeOf_ok hc
    rw [hc] at hr
    have HC := Lib.hid hc
    have HR := Lib.hid hr
    have HKK : Hid (∀ i, i < n → 1 ≤ z (i * 8) ∧ z (i * 8) ≤ 9) := Lib.hid fun i hi => ⟨(opOk_at hW1 (hops i hi)).k1, (opOk_at hW1 (hops i hi)).k9⟩
    obtain ⟨L, hL⟩ : ∃ x, x = fL z n := ⟨_, rfl⟩
    have HL := Lib.hid hL
    clear hc hr hops hok hL
    go_enter Try.func18, Try.ntmps18
    go_wp2_with fail
    refine HR.out.mono ?_
    rintro e w1 ⟨rfl, hb1⟩
    have HB1 := Lib.hid hb1
    clear hb1
    go_wp2_with fail
    refine (faultsOf_any A n q z w1 (HA.out.below HB1.out) hn15 HKK.out).mono ?_
    rw [← HL.out]
    rintro e w2 ⟨v, m, rfl, hl, hm, hown, hb2⟩
    obtain ⟨A2, c2, rfl⟩ := own_form hown
    have HLL := Lib.hid hl
    have HOWN := Lib.hid (own_base hown HB1.out.size)
    have HB2 := Lib.hid (HB1.out.trans (hb2.mono HB1.out.size))
    clear hl hown hb2
    go_wp2_with fail
    refine bodyPost_ret (v := .tuple #[.slice A2 m c2, .int .i64 0]) (by simp [results, Try.results18, go_sem]) rfl ?_
    exact FoP.ok HC.out HL.out HLL.out rfl HOWN.out HB2.out
  · obtain ⟨cd, hcd⟩ : ∃ x, x = codeOf W z n := ⟨_, rfl⟩
    have HC := Lib.hid hcd
    rw [← hcd] at hr hc
    have hc1 : (cd == 0) = false := by simpa using hc
    have HC0 := Lib.hid hc
    have HR := Lib.hid hr
    clear hc hr hcd
    go_enter Try.func18, Try.ntmps18
    go_wp2_with fail
    refine HR.out.mono ?_
    rintro e w1 ⟨rfl, hb1⟩
    have HB1 := Lib.hid hb1
    clear hb1
    go_wp2_with fail
    refine bodyPost_ret (v := .tuple #[.slice none 0 0, .int .i64 cd]) (by simp [results, Try.results18, go_sem]) rfl ?_
    exact FoP.no HC.out.symm HC0.out rfl HB1.out
set_option maxHeartbeats 2000000 in
theorem specFaultsOf_any (ha : Rd w A (n * 8) (fun j => .int .i64 (z j))) (hn : n ≤ 1048576) : Calls Try.prog 17 #[.int .i64 W, .slice A n q] w (FoP w W z n) := by
  have hr := specRunMachine_any W A n q z w ha hn
  unfold RmP at hr
  have HA := Lib.hid ha
  clear ha
  by_cases hc : codeOf W z n = 0
  · obtain ⟨W, rfl, hW1, hW2, hn15, hops, hok⟩ := codeOf_ok hc
    rw [hc] at hr
    have HC := Lib.hid hc
    have HR := Lib.hid hr
    have HKK : Hid (∀ i, i < n → 1 ≤ z (i * 8) ∧ z (i * 8) ≤ 9) := Lib.hid fun i hi => ⟨(opOk_at hW1 (hops i hi)).k1, (opOk_at hW1 (hops i hi)).k9⟩
    obtain ⟨L, hL⟩ : ∃ x, x = fL z n := ⟨_, rfl⟩
    have HL := Lib.hid hL
    clear hc hr hops hok hL
    go_enter Try.func17, Try.ntmps17
    go_wp2_with fail
    refine HR.out.mono ?_
    rintro e w1 ⟨v, kk, ⟨x, y, A1, B1, C1, D1, E1, a, b, c, d, e1, a', b', c', d', e', rfl⟩, rfl, hb1⟩
    have HB1 := Lib.hid hb1
    clear hb1
    go_upto_region 4 with (fail)
    obtain ⟨w2, hw2⟩ : ∃ W2, W2 = w1.alloc (.cells #[.int .i64 x, .int .i64 y, .slice A1 a a', .slice B1 b b', .slice C1 c c', .slice D1 d d', .slice E1 e1 e'] 69) := ⟨_, rfl⟩
    rw [← hw2]
    have HB2 : Hid (Below w.heap.size w w2) := Lib.hid (hw2 ▸ HB1.out.alloc HB1.out.size _)
    clear hw2
    go_wp2_with fail
    refine (l29Faults_any A n q z w2 (HA.out.below HB2.out) hn15 HKK.out).mono ?_
    rw [← HL.out]
    rintro e w3 ⟨v, m, rfl, hl, hm, hown, hb3⟩
    obtain ⟨A2, c2, rfl⟩ := own_form hown
    have HLL := Lib.hid hl
    have HOWN := Lib.hid (own_base hown HB2.out.size)
    have HB3 := Lib.hid (HB2.out.trans (hb3.mono HB2.out.size))
    clear hl hown hb3
    go_wp2_with fail
    refine bodyPost_ret (v := .tuple #[.slice A2 m c2, .int .i64 0]) (by simp [results, Try.results17, go_sem]) rfl ?_
    exact FoP.ok HC.out HL.out HLL.out rfl HOWN.out HB3.out
  · obtain ⟨cd, hcd⟩ : ∃ x, x = codeOf W z n := ⟨_, rfl⟩
    have HC := Lib.hid hcd
    rw [← hcd] at hr hc
    have hc1 : (cd == 0) = false := by simpa using hc
    have HC0 := Lib.hid hc
    have HR := Lib.hid hr
    clear hc hr hcd
    go_enter Try.func17, Try.ntmps17
    go_wp2_with fail
    refine HR.out.mono ?_
    rintro e w1 ⟨v, kk, ⟨x, y, A1, B1, C1, D1, E1, a, b, c, d, e1, a', b', c', d', e', rfl⟩, rfl, hb1⟩
    have HB1 := Lib.hid hb1
    clear hb1
    go_wp2_with fail
    refine bodyPost_ret (v := .tuple #[.slice none 0 0, .int .i64 cd]) (by simp [results, Try.results17, go_sem]) rfl ?_
    exact FoP.no HC.out.symm HC0.out rfl (HB1.out.alloc HB1.out.size _)
end
end Go.Proofs.Ytpmfkpehmckgmaa
