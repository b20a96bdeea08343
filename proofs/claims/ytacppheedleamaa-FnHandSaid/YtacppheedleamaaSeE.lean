/- Walks: the same events?, by the reference. No condition but the bounds. -/
import Derived.Test.YtacppheedleamaaLst
import Derived.Laws.StructEq
set_option linter.unusedVariables false
set_option linter.unusedSimpArgs false
namespace Go.Proofs.Ytacppheedleamaa
open Go.RowKit
set_option maxRecDepth 20000

/-- Six numbers from k on. -/
def six (L : List Int) (k : Nat) : List Int := [L.getD (k * 6) 0, L.getD (k * 6 + 1) 0, L.getD (k * 6 + 2) 0, L.getD (k * 6 + 3) 0, L.getD (k * 6 + 4) 0, L.getD (k * 6 + 5) 0]
theorem take_six {L : List Int} {k : Nat} (h : k * 6 + 6 ≤ L.length) : L.take ((k + 1) * 6) = L.take (k * 6) ++ six L k := by
  rw [show (k + 1) * 6 = k * 6 + 6 by omega, List.take_add]
  congr 1
  have hd : ∀ j, j < 6 → (L.drop (k * 6))[j]? = some (L.getD (k * 6 + j) 0) := fun j hj => by
    rw [List.getElem?_drop]
    simp [List.getD, show k * 6 + j < L.length by omega]
  apply List.ext_getElem?
  intro i
  rw [List.getElem?_take]
  rcases i with _ | _ | _ | _ | _ | _ | i
  · exact hd 0 (by omega)
  · exact hd 1 (by omega)
  · exact hd 2 (by omega)
  · exact hd 3 (by omega)
  · exact hd 4 (by omega)
  · exact hd 5 (by omega)
  · rw [if_neg (by omega)]
    simp [six]
theorem ev_neq (x0 x1 x2 x3 x4 x5 y0 y1 y2 y3 y4 y5 : Int) (w : World) : (binOp .neq 77 (.agg #[.int .i64 x0, .int .i64 x1, .int .i64 x2, .int .i64 x3, .int .i64 x4, .int .i64 x5]) (.agg #[.int .i64 y0, .int .i64 y1, .int .i64 y2, .int .i64 y3, .int .i64 y4, .int .i64 y5])).run Try.prog w = .ok (.bool (!decide ([x0, x1, x2, x3, x4, x5] = [y0, y1, y2, y3, y4, y5]))) w := by
  rw [run_neq_struct, run_equalIn_agg _ _ _ _ _ (by kernel_rfl) (by kernel_rfl)]
  simp [Program.fieldsOf, Try.underlying77, Op.eqFields, go_sem]
  repeat' split
  all_goals simp_all
theorem specSameEvents_any (A B : Option Addr) (c c' m m' : Nat) (L M : List Int) (w : World) (hL : L.length = m * 6) (hM : M.length = m' * 6) (ha : Rd w A (m * 6) (fun j => .int .i64 (L.getD j 0))) (hb : Rd w B (m' * 6) (fun j => .int .i64 (M.getD j 0))) (hm : m ≤ 1000000) (hm' : m' ≤ 1000000) :
    Calls Try.prog 15 #[.slice A m c, .slice B m' c'] w fun e w' => e = .returned (.bool (decide (L = M))) ∧ ∃ q, w' = w.drewN q := by
  have HA := Lib.hid ha
  have HB := Lib.hid hb
  have HLL := Lib.hid hL
  have HML := Lib.hid hM
  clear ha hb hL hM
  by_cases hl : m = m'
  case neg =>
    have HD := Lib.hid (show decide (L = M) = false from decide_eq_false fun e => hl (by have h1 := HLL.out; have h2 := HML.out; rw [e] at h1; omega))
    have hlb : ((m : Int) == (m' : Int)) = false := by rw [beq_eq_false_iff_ne]; omega
    have hlc : ¬ (m : Int) = (m' : Int) := by omega
    go_enter Try.func15, Try.ntmps15
    go_wp2
    go_ret
    exact ⟨by rw [HD.out]; rfl, 0, rfl⟩
  subst hl
  go_enter Try.func15, Try.ntmps15
  go_wp2_with fail
  go_loopw [5] (fun x wr => ∃ k q : Nat, k ≤ m ∧ x = .int .i64 k ∧ wr = w.drewN q ∧ Hid (L.take (k * 6) = M.take (k * 6))) (fun x _ => m - (intOf x).toNat)
  case atStart => exact ⟨0, 0, Nat.zero_le _, rfl, rfl, Lib.hid (by simp)⟩
  case round =>
    obtain ⟨k, q, hk, rfl, rfl, HX⟩ := hrel
    by_cases hlt : k < m
    · obtain ⟨ga, o, rfl, hg, hr⟩ := HA.out (by omega)
      obtain ⟨gb, o', rfl, hg', hr'⟩ := HB.out (by omega)
      have r0 := hr (k * 6) (by omega)
      have r1 := hr (k * 6 + 1) (by omega)
      have r2 := hr (k * 6 + 2) (by omega)
      have r3 := hr (k * 6 + 3) (by omega)
      have r4 := hr (k * 6 + 4) (by omega)
      have r5 := hr (k * 6 + 5) (by omega)
      have t0 := hr' (k * 6) (by omega)
      have t1 := hr' (k * 6 + 1) (by omega)
      have t2 := hr' (k * 6 + 2) (by omega)
      have t3 := hr' (k * 6 + 3) (by omega)
      have t4 := hr' (k * 6 + 4) (by omega)
      have t5 := hr' (k * 6 + 5) (by omega)
      have HTL := Lib.hid (take_six (L := L) (k := k) (by have := HLL.out; omega))
      have HTM := Lib.hid (take_six (L := M) (k := k) (by have := HML.out; omega))
      unfold six at HTL HTM
      obtain ⟨x0, hx0⟩ : ∃ x, x = L.getD (k * 6) 0 := ⟨_, rfl⟩
      obtain ⟨x1, hx1⟩ : ∃ x, x = L.getD (k * 6 + 1) 0 := ⟨_, rfl⟩
      obtain ⟨x2, hx2⟩ : ∃ x, x = L.getD (k * 6 + 2) 0 := ⟨_, rfl⟩
      obtain ⟨x3, hx3⟩ : ∃ x, x = L.getD (k * 6 + 3) 0 := ⟨_, rfl⟩
      obtain ⟨x4, hx4⟩ : ∃ x, x = L.getD (k * 6 + 4) 0 := ⟨_, rfl⟩
      obtain ⟨x5, hx5⟩ : ∃ x, x = L.getD (k * 6 + 5) 0 := ⟨_, rfl⟩
      obtain ⟨y0, hy0⟩ : ∃ x, x = M.getD (k * 6) 0 := ⟨_, rfl⟩
      obtain ⟨y1, hy1⟩ : ∃ x, x = M.getD (k * 6 + 1) 0 := ⟨_, rfl⟩
      obtain ⟨y2, hy2⟩ : ∃ x, x = M.getD (k * 6 + 2) 0 := ⟨_, rfl⟩
      obtain ⟨y3, hy3⟩ : ∃ x, x = M.getD (k * 6 + 3) 0 := ⟨_, rfl⟩
      obtain ⟨y4, hy4⟩ : ∃ x, x = M.getD (k * 6 + 4) 0 := ⟨_, rfl⟩
      obtain ⟨y5, hy5⟩ : ∃ x, x = M.getD (k * 6 + 5) 0 := ⟨_, rfl⟩
      simp only [← hx0] at r0
      simp only [← hx1, ← Nat.add_assoc] at r1
      simp only [← hx2, ← Nat.add_assoc] at r2
      simp only [← hx3, ← Nat.add_assoc] at r3
      simp only [← hx4, ← Nat.add_assoc] at r4
      simp only [← hx5, ← Nat.add_assoc] at r5
      simp only [← hy0] at t0
      simp only [← hy1, ← Nat.add_assoc] at t1
      simp only [← hy2, ← Nat.add_assoc] at t2
      simp only [← hy3, ← Nat.add_assoc] at t3
      simp only [← hy4, ← Nat.add_assoc] at t4
      simp only [← hy5, ← Nat.add_assoc] at t5
      rw [← hx0, ← hx1, ← hx2, ← hx3, ← hx4, ← hx5] at HTL
      rw [← hy0, ← hy1, ← hy2, ← hy3, ← hy4, ← hy5] at HTM
      clear hx0 hx1 hx2 hx3 hx4 hx5 hy0 hy1 hy2 hy3 hy4 hy5 hr hr'
      have b1 : (0 : Int) ≤ (k : Int) := by omega
      have b2 : (k : Int) < (m : Int) := by omega
      by_cases he : [x0, x1, x2, x3, x4, x5] = [y0, y1, y2, y3, y4, y5]
      · injection he with h0 he
        injection he with h1 he
        injection he with h2 he
        injection he with h3 he
        injection he with h4 he
        injection he with h5 he
        subst h0 h1 h2 h3 h4 h5
        clear he
        go_wp2_with fail
        go_quiet (fail)
        go_wp2_with fail
        go_roundw
        case rel => exact ⟨k + 1, _, by omega, by go_num, rfl, Lib.hid (by rw [HTL.out, HTM.out, HX.out])⟩
        case measure => simp [intOf] <;> omega
      · have HD := Lib.hid (show decide (L = M) = false from decide_eq_false fun e => he (by
          have h1 := HTL.out
          have h2 := HTM.out
          rw [e] at h1
          rw [h2] at h1
          exact (List.append_inj_right' h1 rfl).symm))
        have HNE := fun W => ev_neq x0 x1 x2 x3 x4 x5 y0 y1 y2 y3 y4 y5 W
        rw [decide_eq_false he] at HNE
        clear he
        go_wp2_with fail
        go_quiet (fail)
        go_wp2_with fail
        go_ret
        exact ⟨by rw [HD.out]; rfl, _, World.drewN_drewN _ _ _⟩
    · obtain rfl : m = k := by omega
      have HD := Lib.hid (show decide (L = M) = true from decide_eq_true (by
        have h := HX.out
        rwa [List.take_of_length_le (by have := HLL.out; omega), List.take_of_length_le (by have := HML.out; omega)] at h))
      go_wp2
      go_ret
      exact ⟨by rw [HD.out]; rfl, q, rfl⟩
end Go.Proofs.Ytacppheedleamaa
