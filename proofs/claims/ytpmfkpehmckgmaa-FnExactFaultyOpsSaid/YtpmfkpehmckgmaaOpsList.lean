/- Walks: whether operations are valid for a width, by the program. No condition but the bounds. -/
import Derived.Test.YtpmfkpehmckgmaaOpsOk
namespace Go.Proofs.Ytpmfkpehmckgmaa
open Go.RowKit
set_option maxRecDepth 20000

/-- Operation k of a list is valid for a width. -/
def opW (W : Int) (z : Nat → Int) (k : Nat) : Bool :=
  opB (z (k * 8)) (z (k * 8 + 1)) (z (k * 8 + 2)) (z (k * 8 + 3)) (z (k * 8 + 4)) (z (k * 8 + 5)) (z (k * 8 + 6)) (z (k * 8 + 7)) && (decide (z (k * 8 + 3) < W) && decide (z (k * 8 + 5) < W))
def opsB (W : Int) (z : Nat → Int) : Nat → Bool
  | 0 => true
  | k + 1 => opsB W z k && opW W z k
theorem opsB_false {W : Int} {z : Nat → Int} {n k : Nat} (hk : k < n) (h : opW W z k = false) : opsB W z n = false := by
  induction n with
  | zero => omega
  | succ n ih =>
    simp only [opsB]
    by_cases hkn : k = n
    · subst hkn; rw [h]; simp
    · rw [ih (by omega)]; rfl
theorem opsB_all {W : Int} {z : Nat → Int} {n : Nat} (h : opsB W z n = true) : ∀ k, k < n → opW W z k = true := by
  induction n with
  | zero => intro k hk; omega
  | succ n ih =>
    simp only [opsB, Bool.and_eq_true] at h
    intro k hk
    by_cases hkn : k = n
    · subst hkn; exact h.2
    · exact ih h.1 k (by omega)
/-- A program is valid for a width. -/
def progB (W : Int) (z : Nat → Int) (n : Nat) : Bool := inB W 1 24 && (decide (n ≤ 1500) && opsB W z n)
theorem at_below' {B : Nat} {w w' : World} {g o : Nat} {v : Value} (hb : Below B w w') (hg : g < B) (h : w.cell? ⟨g, o, none⟩ = some v) : w'.cell? ⟨g, o, none⟩ = some v := ((bcell hb).1 g o hg).trans h
def bothB (V : Bool) (a b W : Int) : Bool := V && (decide (a < W) && decide (b < W))
set_option maxHeartbeats 1000000 in
theorem notFor_any (gw : Nat) (W k d fb fa tb ta c r : Int) (w : World) (hw : w.cell? ⟨gw, 0, none⟩ = some (.int .i64 W)) :
    Calls Try.prog 110 #[.agg #[.int .i64 k, .int .i64 d, .int .i64 fb, .int .i64 fa, .int .i64 tb, .int .i64 ta, .int .i64 c, .int .i64 r], .pointer (some ⟨gw, 0, none⟩)] w fun e w' => e = .returned (.bool (!bothB (opB k d fb fa tb ta c r) fa ta W)) ∧ Below w.heap.size w w' := by
  have hg := World.block_lt_of_cell? w _ hw
  go_enter Try.func110, Try.ntmps110
  go_wp2_with fail
  refine (implValidOp_any k d fb fa tb ta c r _).mono ?_
  rintro e w1 ⟨rfl, hb1⟩
  have x1 := fun o => (Blk.below (Blk.at_ w 58 _ rfl) hb1 (by first | (simp; done) | (simp; omega))).cell o
  have w1' : w1.cell? ⟨gw, 0, none⟩ = some (.int .i64 W) := ((bcell hb1).1 gw 0 (by simp; omega)).trans ((World.cell?_alloc_lt w _ ⟨gw, 0, none⟩ hg).trans hw)
  have HB1 := Lib.hid (show Below w.heap.size w w1 from by (repeat' first | with_reducible exact Below.refl _ _ | with_reducible refine Below.alloc ?_ ?_ _ | with_reducible refine Below.setCell ?_ ?_ _ | with_reducible refine Below.drew ?_ | with_reducible refine Below.drewN' ?_ _ | with_reducible (refine Below.trans ?_ (Below.mono (by assumption) ?_)) | exact Nat.le_refl _ | (simp; done) | (simp; omega) | omega))
  clear hb1
  cases hv : opB k d fb fa tb ta c r
  · go_wp2_with fail
    go_ret
    exact ⟨congrArg (fun x => Ending.returned (.bool x)) (by simp [bothB, hv]), HB1.out⟩
  · by_cases ha : fa < W
    · go_wp2_with fail
      all_goals go_ret
      all_goals exact ⟨congrArg (fun x => Ending.returned (.bool x)) (by rw [Bool.eq_iff_iff]; simp [bothB, hv] <;> omega), HB1.out⟩
    · go_wp2_with fail
      all_goals go_ret
      all_goals exact ⟨congrArg (fun x => Ending.returned (.bool x)) (by rw [Bool.eq_iff_iff]; simp [bothB, hv] <;> omega), HB1.out⟩
def IdxO (w : World) (b : Bool) (e : Ending) (w' : World) : Prop := ∃ r : Int, e = .returned (.int .i64 r) ∧ (r = -1 ∧ b = true ∨ 0 ≤ r ∧ b = false) ∧ Below w.heap.size w w'
set_option maxHeartbeats 2000000 in
theorem idx_ops_any (gw : Nat) (W : Int) (A : Option Addr) (n q : Nat) (z : Nat → Int) (w : World) (ha : Rd w A (n * 8) (fun j => .int .i64 (z j))) (hw : w.cell? ⟨gw, 0, none⟩ = some (.int .i64 W)) (hn : n ≤ 1048576) :
    Calls Try.prog 118 #[.slice A n q, .func (.func 110) #[] #[.pointer (some ⟨gw, 0, none⟩)]] w (IdxO w (opsB W z n)) := by
  have HA := Lib.hid ha
  have hg := World.block_lt_of_cell? w _ hw
  have HW := Lib.hid hw
  clear ha hw
  go_enter Try.func118, Try.ntmps118
  go_wp2_with fail
  go_loopw [8] (fun i wr => ∃ k : Nat, k ≤ n ∧ i = .int .i64 k ∧ Hid (opsB W z k = true) ∧ Below w.heap.size w wr) (fun i _ => n - (intOf i).toNat)
  case atStart => exact ⟨0, Nat.zero_le _, rfl, rfl, Below.refl _ _⟩
  case round =>
    obtain ⟨k, hk, rfl, HK, hb⟩ := hrel
    have HB := Lib.hid hb
    by_cases hlt : k < n
    · obtain ⟨ga, o, rfl, hga, hr⟩ := HA.out.below hb (by omega)
      have kw := at_below' hb hg HW.out
      have HR := Lib.hid hr
      have c0 : wr.cell? ⟨ga, o + k * 8, none⟩ = some (.int .i64 (z (k * 8))) := HR.out (k * 8) (by omega)
      have c1 : wr.cell? ⟨ga, o + k * 8 + 1, none⟩ = some (.int .i64 (z (k * 8 + 1))) := by rw [Nat.add_assoc]; exact HR.out (k * 8 + 1) (by omega)
      have c2 : wr.cell? ⟨ga, o + k * 8 + 2, none⟩ = some (.int .i64 (z (k * 8 + 2))) := by rw [Nat.add_assoc]; exact HR.out (k * 8 + 2) (by omega)
      have c3 : wr.cell? ⟨ga, o + k * 8 + 3, none⟩ = some (.int .i64 (z (k * 8 + 3))) := by rw [Nat.add_assoc]; exact HR.out (k * 8 + 3) (by omega)
      have c4 : wr.cell? ⟨ga, o + k * 8 + 4, none⟩ = some (.int .i64 (z (k * 8 + 4))) := by rw [Nat.add_assoc]; exact HR.out (k * 8 + 4) (by omega)
      have c5 : wr.cell? ⟨ga, o + k * 8 + 5, none⟩ = some (.int .i64 (z (k * 8 + 5))) := by rw [Nat.add_assoc]; exact HR.out (k * 8 + 5) (by omega)
      have c6 : wr.cell? ⟨ga, o + k * 8 + 6, none⟩ = some (.int .i64 (z (k * 8 + 6))) := by rw [Nat.add_assoc]; exact HR.out (k * 8 + 6) (by omega)
      have c7 : wr.cell? ⟨ga, o + k * 8 + 7, none⟩ = some (.int .i64 (z (k * 8 + 7))) := by rw [Nat.add_assoc]; exact HR.out (k * 8 + 7) (by omega)
      obtain ⟨V, hV⟩ : ∃ V, V = opW W z k := ⟨_, rfl⟩
      have HV := Lib.hid hV
      have hV' : V = bothB (opB (z (k * 8)) (z (k * 8 + 1)) (z (k * 8 + 2)) (z (k * 8 + 3)) (z (k * 8 + 4)) (z (k * 8 + 5)) (z (k * 8 + 6)) (z (k * 8 + 7))) (z (k * 8 + 3)) (z (k * 8 + 5)) W := hV
      generalize z (k * 8) = x0 at *
      generalize z (k * 8 + 1) = x1 at *
      generalize z (k * 8 + 2) = x2 at *
      generalize z (k * 8 + 3) = x3 at *
      generalize z (k * 8 + 4) = x4 at *
      generalize z (k * 8 + 5) = x5 at *
      generalize z (k * 8 + 6) = x6 at *
      generalize z (k * 8 + 7) = x7 at *
      have HV' := Lib.hid hV'
      clear hr hb hV hV'
      go_wp2_with fail
      refine (notFor_any gw W x0 x1 x2 x3 x4 x5 x6 x7 _ kw).mono ?_
      rintro e w1 ⟨rfl, hb1⟩
      rw [← HV'.out]
      have HB1 := Lib.hid (HB.out.trans (hb1.mono HB.out.size))
      clear hb1 c0 c1 c2 c3 c4 c5 c6 c7 kw
      cases V
      · go_wp2
        go_ret
        exact ⟨_, rfl, .inr ⟨by omega, opsB_false hlt HV.out.symm⟩, HB1.out⟩
      · go_wp2
        go_roundw
        case rel => exact ⟨k + 1, by omega, by go_num, by unfold Hid; simp only [opsB]; rw [HK.out, ← HV.out]; rfl, HB1.out⟩
        case measure => simp [intOf] <;> omega
    · obtain rfl : n = k := by omega
      clear hb
      go_wp2
      go_ret
      exact ⟨_, rfl, .inl ⟨rfl, HK.out⟩, HB.out⟩
theorem contains_ops_any (gw : Nat) (W : Int) (A : Option Addr) (n q : Nat) (z : Nat → Int) (w : World) (ha : Rd w A (n * 8) (fun j => .int .i64 (z j))) (hw : w.cell? ⟨gw, 0, none⟩ = some (.int .i64 W)) (hn : n ≤ 1048576) :
    Calls Try.prog 109 #[.slice A n q, .func (.func 110) #[] #[.pointer (some ⟨gw, 0, none⟩)]] w fun e w' => e = .returned (.bool (!opsB W z n)) ∧ Below w.heap.size w w' := by
  go_enter Try.func109, Try.ntmps109
  go_wp2_with fail
  refine (idx_ops_any gw W A n q z _ ha hw hn).mono ?_
  rintro e w' ⟨r, rfl, h, hb⟩
  have HBL := Lib.hid hb
  rcases h with ⟨rfl, hb⟩ | ⟨hr, hb⟩
  · have HB := Lib.hid hb
    clear hb
    go_wp2
    go_ret
    exact ⟨by rw [HB.out]; rfl, HBL.out⟩
  · have HB := Lib.hid hb
    clear hb
    have hr' : decide (0 ≤ r) = true := by simpa using hr
    go_wp2
    go_ret
    exact ⟨by rw [HB.out]; simp, HBL.out⟩
set_option maxHeartbeats 1000000 in
theorem validFor_any (W : Int) (A : Option Addr) (n q : Nat) (z : Nat → Int) (w : World) (ha : Rd w A (n * 8) (fun j => .int .i64 (z j))) (hn : n ≤ 1048576) :
    Calls Try.prog 91 #[.int .i64 W, .slice A n q] w fun e w' => e = .returned (.bool (progB W z n)) ∧ Below w.heap.size w w' := by
  have HA := Lib.hid ha
  clear ha
  cases hI : inB W 1 24
  · go_enter Try.func91, Try.ntmps91
    go_wp2_with ((go_at_call 69; refine (within_any _ _ _ _).mono ?_; rintro e w' ⟨rfl, rfl⟩))
    all_goals go_ret
    all_goals exact ⟨by simp [progB, hI], by (repeat' first | with_reducible exact Below.refl _ _ | with_reducible refine Below.alloc ?_ ?_ _ | with_reducible refine Below.setCell ?_ ?_ _ | with_reducible refine Below.drew ?_ | with_reducible refine Below.drewN' ?_ _ | with_reducible (refine Below.trans ?_ (Below.mono (by assumption) ?_)) | exact Nat.le_refl _ | (simp; done) | (simp; omega) | omega)⟩
  · by_cases hl : n ≤ 1500
    · have hl' : (n : Int) ≤ 1500 := by omega
      go_enter Try.func91, Try.ntmps91
      go_wp2_with ((go_at_call 69; refine (within_any _ _ _ _).mono ?_; rintro e w' ⟨rfl, rfl⟩))
      refine (contains_ops_any w.heap.size W A n q z _ (HA.out.below (by (repeat' first | with_reducible exact Below.refl _ _ | with_reducible refine Below.alloc ?_ ?_ _ | with_reducible refine Below.setCell ?_ ?_ _ | with_reducible refine Below.drew ?_ | with_reducible refine Below.drewN' ?_ _ | with_reducible (refine Below.trans ?_ (Below.mono (by assumption) ?_)) | exact Nat.le_refl _ | (simp; done) | (simp; omega) | omega))) (cell_alloc_at rfl 0) hn).mono ?_
      rintro e w1 ⟨rfl, hb1⟩
      have HB1 := Lib.hid (show Below w.heap.size w w1 from by (repeat' first | with_reducible exact Below.refl _ _ | with_reducible refine Below.alloc ?_ ?_ _ | with_reducible refine Below.setCell ?_ ?_ _ | with_reducible refine Below.drew ?_ | with_reducible refine Below.drewN' ?_ _ | with_reducible (refine Below.trans ?_ (Below.mono (by assumption) ?_)) | exact Nat.le_refl _ | (simp; done) | (simp; omega) | omega))
      clear hb1
      go_wp2_with fail
      go_ret
      exact ⟨by simp [progB, hI, hl], HB1.out⟩
    · have hl' : ¬ (n : Int) ≤ 1500 := by omega
      go_enter Try.func91, Try.ntmps91
      go_wp2_with ((go_at_call 69; refine (within_any _ _ _ _).mono ?_; rintro e w' ⟨rfl, rfl⟩))
      all_goals go_ret
      all_goals exact ⟨by simp [progB, hl], by (repeat' first | with_reducible exact Below.refl _ _ | with_reducible refine Below.alloc ?_ ?_ _ | with_reducible refine Below.setCell ?_ ?_ _ | with_reducible refine Below.drew ?_ | with_reducible refine Below.drewN' ?_ _ | with_reducible (refine Below.trans ?_ (Below.mono (by assumption) ?_)) | exact Nat.le_refl _ | (simp; done) | (simp; omega) | omega)⟩
end Go.Proofs.Ytpmfkpehmckgmaa
