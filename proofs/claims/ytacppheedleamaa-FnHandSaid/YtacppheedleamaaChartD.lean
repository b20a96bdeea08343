/- Walks: sums, the order of the stitches, whether a row keeps the limit, by the program. No condition but the bounds. -/
import Derived.Test.YtacppheedleamaaChartC
import Derived.Test.YtacppheedleamaaRev64
namespace Go.Proofs.Ytacppheedleamaa
open Go.RowKit
set_option maxRecDepth 20000

/-- The sum of c numbers from a on. -/
def sumR (s : Nat → Int) (a : Nat) : Nat → Int
  | 0 => 0
  | c + 1 => sumR s a c + s (a + c)
theorem sumR_shift (s : Nat → Int) (a b c : Nat) : sumR (fun j => s (a + j)) b c = sumR s (a + b) c := by
  induction c with
  | zero => rfl
  | succ c ih => simp only [sumR, ih, Nat.add_assoc]
theorem sumR_add (s : Nat → Int) (a b c : Nat) : sumR s a (b + c) = sumR s a b + sumR s (a + b) c := by
  induction c with
  | zero => simp [sumR]
  | succ c ih =>
    show sumR s a (b + c) + s (a + (b + c)) = sumR s a b + (sumR s (a + b) c + s (a + b + c))
    rw [ih, Nat.add_assoc a b c]
    omega
theorem sumR_congr {s t : Nat → Int} {a b n : Nat} (h : ∀ j, j < n → s (a + j) = t (b + j)) : sumR s a n = sumR t b n := by
  induction n with
  | zero => rfl
  | succ n ih => simp only [sumR]; rw [ih fun j hj => h j (by omega), h n (by omega)]
theorem sumR_bounds {s : Nat → Int} {a n : Nat} (h : ∀ j, j < n → -1000 ≤ s (a + j) ∧ s (a + j) ≤ 1000) : -1000 * (n : Int) ≤ sumR s a n ∧ sumR s a n ≤ 1000 * n := by
  induction n with
  | zero => simp [sumR]
  | succ n ih =>
    have h1 := ih fun j hj => h j (by omega)
    have h2 := h n (by omega)
    simp only [sumR]
    omega
set_option maxHeartbeats 400000 in
theorem sumOf_any (A : Option Addr) (n c : Nat) (z : Nat → Int) (w : World) (ha : Rd w A n (fun j => .int .i64 (z j))) (hn : n ≤ 1000) (hz : ∀ j, j < n → -1000 ≤ z j ∧ z j ≤ 1000) :
    Calls Try.prog 63 #[.slice A n c] w fun e w' => e = .returned (.int .i64 (sumR z 0 n)) ∧ w = w' := by
  have HA := Lib.hid ha
  have HZ := Lib.hid hz
  clear ha hz
  go_enter Try.func63, Try.ntmps63
  go_wp2_with fail
  go_loop [3, 8] (fun s i => ∃ k : Nat, k ≤ n ∧ i = .int .i64 k ∧ s = .int .i64 (sumR z 0 k)) (fun _ i => n - (intOf i).toNat)
  case atStart => exact ⟨0, Nat.zero_le _, rfl, rfl⟩
  case round =>
    obtain ⟨k, hk, rfl, rfl⟩ := hrel
    have hs := sumR_bounds (s := z) (a := 0) (n := k) (fun j hj => by rw [Nat.zero_add]; exact HZ.out j (by omega))
    by_cases hlt : k < n
    · obtain ⟨ga, o, rfl, hg, hr⟩ := HA.out (by omega)
      have hc := hr k hlt
      have hzk := HZ.out k hlt
      have HS := Lib.hid (show sumR z 0 (k + 1) = sumR z 0 k + z k by simp [sumR])
      clear hr
      go_wp2
      go_round
      case rel => exact ⟨k + 1, by omega, by go_num, i64c HS.out.symm⟩
      case measure => simp [intOf] <;> omega
    · obtain rfl : n = k := by omega
      go_wp2
      go_ret
      exact ⟨rfl, rfl⟩
/-- The numbers from 0 on, in a block of their own. -/
def IdP (w : World) (n : Nat) (e : Ending) (w' : World) : Prop := ∃ g c, e = .returned (.slice (some ⟨g, 0, none⟩) n c) ∧ w.heap.size ≤ g ∧ g < w'.heap.size ∧ Below w.heap.size w w' ∧ RowW w' g 0 n ∧ RowR w' g 0 n (fun j => .int .i64 j)
set_option maxHeartbeats 1000000 in
theorem identity_any (n : Nat) (w : World) (hn : n ≤ 1000) :
    Calls Try.prog 102 #[.int .i64 n] w (IdP w n) := by
  obtain ⟨cs, hcs, hcv, hmk⟩ := make64 n (by omega)
  have HW0 := Lib.hid (show RowW (w.alloc (.cells cs 2)) w.heap.size 0 n from fun j hj => ⟨⟨_, (cell_alloc_at rfl _).trans (by rw [Nat.zero_add]; exact hcv j hj)⟩, frozen_new _ _ _ _⟩)
  clear hcv
  go_enter Try.func102, Try.ntmps102
  go_wp2_with fail
  clear hmk
  go_loopw [9] (fun i wr => ∃ k : Nat, k ≤ n ∧ i = .int .i64 k ∧ Fr (w.alloc (.cells cs 2)) wr (fun b => b = w.heap.size) ∧ RowW wr w.heap.size 0 n ∧ RowR wr w.heap.size 0 k (fun j => .int .i64 j)) (fun i _ => n - (intOf i).toNat)
  case atStart => exact ⟨0, Nat.zero_le _, rfl, Fr.refl _ _, HW0.out, fun j hj => absurd hj (by omega)⟩
  case round =>
    obtain ⟨k, hk, rfl, hf, hw, hr⟩ := hrel
    have HF := Lib.hid hf
    have HW := Lib.hid hw
    have HR := Lib.hid hr
    clear hf hw hr
    by_cases hlt : k < n
    · obtain ⟨⟨u, hu⟩, hfz⟩ := HW.out k hlt
      rw [Nat.zero_add] at hu hfz
      go_wp2
      go_roundw
      case rel => exact ⟨k + 1, by omega, by go_num, HF.out.set rfl _, HW.out.set _ _, HR.out.step HW.out hlt (by omega) rfl⟩
      case measure => simp [intOf] <;> omega
    · obtain rfl : n = k := by omega
      go_wp2
      go_ret
      have hs := HF.out.size
      simp at hs
      exact ⟨_, _, rfl, Nat.le_refl _, by omega, ((Below.refl _ _).alloc (Nat.le_refl _) _).trans (HF.out.below (by simp) fun b hb => Nat.le_of_eq hb.symm), HW.out, HR.out⟩

/-- Which stitch is made at a time. -/
def ordN (d : Int) (m i : Nat) : Nat := if d = -1 then m - 1 - i else i
theorem ordN_lt {d : Int} {m i : Nat} (h : i < m) : ordN d m i < m := by unfold ordN; split <;> omega
set_option maxHeartbeats 1000000 in
theorem order_any (d c : Int) (A : Option Addr) (n q : Nat) (w : World) (hn : n ≤ 1000) :
    Calls Try.prog 67 #[.agg #[.int .i64 d, .int .i64 c, .slice A n q]] w (NewP w n n (fun j => .int .i64 (ordN d n j))) := by
  by_cases hd : d = -1
  · subst hd
    go_enter Try.func67, Try.ntmps67
    go_wp2_with fail
    refine (identity_any n _ hn).mono ?_
    rintro e w1 ⟨g1, c1, rfl, hg, hg1, hb1, hw1, hr1⟩
    have hbx : ∀ o, w1.cell? ⟨w.heap.size, o, none⟩ = (#[.int .i64 (-1), .int .i64 c, .slice A n q] : Array Value)[o]? := fun o => ((bcell hb1).1 w.heap.size o (by simp)).trans (cell_alloc_at rfl o)
    have HB1 := Lib.hid (((Below.refl w.heap.size w).alloc (Nat.le_refl _) _).trans (hb1.mono (by simp)))
    have HW := Lib.hid hw1
    have HR := Lib.hid hr1
    simp only [World.size_alloc] at hg
    clear hb1 hw1 hr1
    go_wp2_with fail
    refine (reverse64_any g1 n c1 (fun j => (j : Int)) _ HW.out HR.out (by omega)).mono ?_
    rintro e w2 ⟨rfl, ho2, hw2, hr2⟩
    have HO := Lib.hid ho2
    have HW2 := Lib.hid hw2
    have HR2 := Lib.hid hr2
    clear ho2 hw2 hr2 hbx
    go_wp2
    go_ret
    have hs := HO.out.size
    refine ⟨_, _, rfl, New.of_row (HB1.out.trans ((Fr.of_only HO.out (F := fun b => b = g1) rfl).below HB1.out.size fun b hb => by omega)) (by omega) (by omega) HW2.out fun j hj => (HR2.out j hj).trans ?_⟩
    simp only [ordN, if_true]
  · have hdb : (d == -1) = false := by simpa using hd
    go_enter Try.func67, Try.ntmps67
    go_wp2_with fail
    refine (identity_any n _ hn).mono ?_
    rintro e w1 ⟨g1, c1, rfl, hg, hg1, hb1, hw1, hr1⟩
    have hbx : ∀ o, w1.cell? ⟨w.heap.size, o, none⟩ = (#[.int .i64 d, .int .i64 c, .slice A n q] : Array Value)[o]? := fun o => ((bcell hb1).1 w.heap.size o (by simp)).trans (cell_alloc_at rfl o)
    have HB1 := Lib.hid (((Below.refl w.heap.size w).alloc (Nat.le_refl _) _).trans (hb1.mono (by simp)))
    have HW := Lib.hid hw1
    have HR := Lib.hid hr1
    simp only [World.size_alloc] at hg
    clear hb1 hw1 hr1
    go_wp2
    go_ret
    exact ⟨_, _, rfl, New.of_row HB1.out (by omega) hg1 HW.out fun j hj => (HR.out j hj).trans (by simp [ordN, hd])⟩
end Go.Proofs.Ytacppheedleamaa
