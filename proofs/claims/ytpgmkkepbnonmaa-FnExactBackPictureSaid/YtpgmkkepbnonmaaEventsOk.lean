/- Walks: whether an event is valid, by the program. -/
import Derived.Test.YtpgmkkepbnonmaaEvents
namespace Go.Proofs.Ytpgmkkepbnonmaa
open Go.RowKit
set_option maxRecDepth 20000

theorem inB_of {n lo hi : Int} (h : inB n lo hi = true) : lo ≤ n ∧ n ≤ hi := by simpa [inB] using h
theorem not_inB {n lo hi : Int} (h : inB n lo hi = false) : ¬ (lo ≤ n ∧ n ≤ hi) := by
  intro h2
  have : inB n lo hi = true := by simpa [inB] using h2
  simp [h] at this
theorem yarn_iff (b y d : Int) : yarnB b y d = true ↔ (b = 1 ∨ b = 2) ∧ (1 ≤ y ∧ y ≤ 4) ∧ (d = 1 ∨ d = -1) := by
  simp only [yarnB, inB, dirB, Bool.and_eq_true, decide_eq_true_eq]
  constructor
  · rintro ⟨⟨⟨h1, h2⟩, h3, h4⟩, h5⟩
    exact ⟨by omega, ⟨h3, h4⟩, h5⟩
  · rintro ⟨h1, ⟨h3, h4⟩, h5⟩
    exact ⟨⟨⟨by omega, by omega⟩, h3, h4⟩, h5⟩
def plainB (b y d : Int) : Bool := decide (b = 0) && decide (y = 0) && (d == 0)
/-- Kind 3 (a tuck). -/
theorem valid3_any (p c b y d n : Int) (w : World) :
    Calls Try.prog 150 #[.agg #[.int .i64 3, .int .i64 p, .int .i64 c, .int .i64 b, .int .i64 y, .int .i64 d], .int .i64 n] w fun e w' => e = .returned (.bool (decide (0 ≤ p) && (decide (c = 0) && decide (p ≤ n) && yarnB b y d))) ∧ Below w.heap.size w w' := by
  by_cases hp : p < 0
  · go_enter Try.func150, Try.ntmps150
    go_wp2
    go_ret
    exact ⟨by rw [show decide (0 ≤ p) = false from decide_eq_false (by omega)]; rfl, by (repeat' first | with_reducible exact Below.refl _ _ | with_reducible refine Below.alloc ?_ ?_ _ | with_reducible refine Below.setCell ?_ ?_ _ | with_reducible refine Below.drew ?_ | with_reducible refine Below.drewN' ?_ _ | with_reducible (refine Below.trans ?_ (Below.mono (by assumption) ?_)) | exact Nat.le_refl _ | (simp; done) | (simp; omega) | omega)⟩
  · rw [show decide (0 ≤ p) = true from decide_eq_true (by omega)]
    by_cases hc : c = 0
    · subst hc
      by_cases hpn : p ≤ n
      · go_enter Try.func150, Try.ntmps150
        go_wp2_with ((go_at_call 195; refine (isStitched_any _ _ _ _ _ _ _).mono ?_; rintro e w' ⟨rfl, hb⟩; have HB := Lib.hid hb; clear hb))
        all_goals go_ret
        all_goals exact ⟨congrArg (fun x => Ending.returned (.bool x)) (by simp_all), by have hb := HB.out; (repeat' first | with_reducible exact Below.refl _ _ | with_reducible refine Below.alloc ?_ ?_ _ | with_reducible refine Below.setCell ?_ ?_ _ | with_reducible refine Below.drew ?_ | with_reducible refine Below.drewN' ?_ _ | with_reducible (refine Below.trans ?_ (Below.mono (by assumption) ?_)) | exact Nat.le_refl _ | (simp; done) | (simp; omega) | omega)⟩
      · go_enter Try.func150, Try.ntmps150
        go_wp2
        all_goals go_ret
        all_goals exact ⟨congrArg (fun x => Ending.returned (.bool x)) (by rw [show decide (p ≤ n) = false from decide_eq_false (by omega)]; simp), by (repeat' first | with_reducible exact Below.refl _ _ | with_reducible refine Below.alloc ?_ ?_ _ | with_reducible refine Below.setCell ?_ ?_ _ | with_reducible refine Below.drew ?_ | with_reducible refine Below.drewN' ?_ _ | with_reducible (refine Below.trans ?_ (Below.mono (by assumption) ?_)) | exact Nat.le_refl _ | (simp; done) | (simp; omega) | omega)⟩
    · go_enter Try.func150, Try.ntmps150
      go_wp2
      all_goals go_ret
      all_goals exact ⟨congrArg (fun x => Ending.returned (.bool x)) (by simp), by (repeat' first | with_reducible exact Below.refl _ _ | with_reducible refine Below.alloc ?_ ?_ _ | with_reducible refine Below.setCell ?_ ?_ _ | with_reducible refine Below.drew ?_ | with_reducible refine Below.drewN' ?_ _ | with_reducible (refine Below.trans ?_ (Below.mono (by assumption) ?_)) | exact Nat.le_refl _ | (simp; done) | (simp; omega) | omega)⟩
set_option maxHeartbeats 2000000 in
theorem valid1_any (p c b y d n : Int) (w : World) (hn : 0 ≤ n ∧ n ≤ 1000000) (hp : 0 ≤ p) :
    Calls Try.prog 150 #[.agg #[.int .i64 1, .int .i64 p, .int .i64 c, .int .i64 b, .int .i64 y, .int .i64 d], .int .i64 n] w fun e w' => e = .returned (.bool (decide (p ≤ n - 2) && (decide (c = 1) || decide (c = -1)) && plainB b y d)) ∧ Below w.heap.size w w' := by
  by_cases hpn : p ≤ n - 2
  · by_cases hc : c = 1
    · subst hc
      go_enter Try.func150, Try.ntmps150
      go_wp2
      all_goals go_ret
      all_goals exact ⟨congrArg (fun x => Ending.returned (.bool x)) (by simp_all [plainB]), by (repeat' first | with_reducible exact Below.refl _ _ | with_reducible refine Below.alloc ?_ ?_ _ | with_reducible refine Below.setCell ?_ ?_ _ | with_reducible refine Below.drew ?_ | with_reducible refine Below.drewN' ?_ _ | with_reducible (refine Below.trans ?_ (Below.mono (by assumption) ?_)) | exact Nat.le_refl _ | (simp; done) | (simp; omega) | omega)⟩
    · by_cases hc2 : c = -1
      · subst hc2
        go_enter Try.func150, Try.ntmps150
        go_wp2
        all_goals go_ret
        all_goals exact ⟨congrArg (fun x => Ending.returned (.bool x)) (by simp_all [plainB]), by (repeat' first | with_reducible exact Below.refl _ _ | with_reducible refine Below.alloc ?_ ?_ _ | with_reducible refine Below.setCell ?_ ?_ _ | with_reducible refine Below.drew ?_ | with_reducible refine Below.drewN' ?_ _ | with_reducible (refine Below.trans ?_ (Below.mono (by assumption) ?_)) | exact Nat.le_refl _ | (simp; done) | (simp; omega) | omega)⟩
      · rw [show decide (c = 1) = false from decide_eq_false hc, show decide (c = -1) = false from decide_eq_false hc2]
        go_enter Try.func150, Try.ntmps150
        go_wp2
        all_goals go_ret
        all_goals exact ⟨congrArg (fun x => Ending.returned (.bool x)) (by simp), by (repeat' first | with_reducible exact Below.refl _ _ | with_reducible refine Below.alloc ?_ ?_ _ | with_reducible refine Below.setCell ?_ ?_ _ | with_reducible refine Below.drew ?_ | with_reducible refine Below.drewN' ?_ _ | with_reducible (refine Below.trans ?_ (Below.mono (by assumption) ?_)) | exact Nat.le_refl _ | (simp; done) | (simp; omega) | omega)⟩
  · rw [show decide (p ≤ n - 2) = false from decide_eq_false hpn]
    go_enter Try.func150, Try.ntmps150
    go_wp2
    all_goals go_ret
    all_goals exact ⟨congrArg (fun x => Ending.returned (.bool x)) (by simp), by (repeat' first | with_reducible exact Below.refl _ _ | with_reducible refine Below.alloc ?_ ?_ _ | with_reducible refine Below.setCell ?_ ?_ _ | with_reducible refine Below.drew ?_ | with_reducible refine Below.drewN' ?_ _ | with_reducible (refine Below.trans ?_ (Below.mono (by assumption) ?_)) | exact Nat.le_refl _ | (simp; done) | (simp; omega) | omega)⟩
set_option maxHeartbeats 2000000 in
theorem valid2_any (p c b y d n : Int) (w : World) (hn : 0 ≤ n ∧ n ≤ 1000000) (hp : 0 ≤ p) :
    Calls Try.prog 150 #[.agg #[.int .i64 2, .int .i64 p, .int .i64 c, .int .i64 b, .int .i64 y, .int .i64 d], .int .i64 n] w fun e w' => e = .returned (.bool (inB c 0 4 && decide (p ≤ n - c) && yarnB b y d)) ∧ Below w.heap.size w w' := by
  cases hc : inB c 0 4
  · go_enter Try.func150, Try.ntmps150
    go_wp2_with ((go_at_call 88; refine (within_any _ _ _ _).mono ?_; rintro e w' ⟨rfl, rfl⟩))
    all_goals go_ret
    all_goals exact ⟨congrArg (fun x => Ending.returned (.bool x)) (by simp), by (repeat' first | with_reducible exact Below.refl _ _ | with_reducible refine Below.alloc ?_ ?_ _ | with_reducible refine Below.setCell ?_ ?_ _ | with_reducible refine Below.drew ?_ | with_reducible refine Below.drewN' ?_ _ | with_reducible (refine Below.trans ?_ (Below.mono (by assumption) ?_)) | exact Nat.le_refl _ | (simp; done) | (simp; omega) | omega)⟩
  · have hcb := inB_of hc
    by_cases hpn : p ≤ n - c
    · rw [show decide (p ≤ n - c) = true from decide_eq_true hpn]
      go_enter Try.func150, Try.ntmps150
      go_wp2_with (first | (go_at_call 88; refine (within_any _ _ _ _).mono ?_; rintro e w' ⟨rfl, rfl⟩) | (go_at_call 195; refine (isStitched_any _ _ _ _ _ _ _).mono ?_; rintro e w' ⟨rfl, hb⟩; have HB := Lib.hid hb; clear hb))
      all_goals go_ret
      all_goals exact ⟨congrArg (fun x => Ending.returned (.bool x)) (by simp_all), by have hb := HB.out; (repeat' first | with_reducible exact Below.refl _ _ | with_reducible refine Below.alloc ?_ ?_ _ | with_reducible refine Below.setCell ?_ ?_ _ | with_reducible refine Below.drew ?_ | with_reducible refine Below.drewN' ?_ _ | with_reducible (refine Below.trans ?_ (Below.mono (by assumption) ?_)) | exact Nat.le_refl _ | (simp; done) | (simp; omega) | omega)⟩
    · rw [show decide (p ≤ n - c) = false from decide_eq_false hpn]
      go_enter Try.func150, Try.ntmps150
      go_wp2_with ((go_at_call 88; refine (within_any _ _ _ _).mono ?_; rintro e w' ⟨rfl, rfl⟩))
      all_goals go_ret
      all_goals exact ⟨congrArg (fun x => Ending.returned (.bool x)) (by simp), by (repeat' first | with_reducible exact Below.refl _ _ | with_reducible refine Below.alloc ?_ ?_ _ | with_reducible refine Below.setCell ?_ ?_ _ | with_reducible refine Below.drew ?_ | with_reducible refine Below.drewN' ?_ _ | with_reducible (refine Below.trans ?_ (Below.mono (by assumption) ?_)) | exact Nat.le_refl _ | (simp; done) | (simp; omega) | omega)⟩
set_option maxHeartbeats 2000000 in
theorem valid4_any (p c b y d n : Int) (w : World) (hn : 0 ≤ n ∧ n ≤ 1000000) (hp : 0 ≤ p) :
    Calls Try.prog 150 #[.agg #[.int .i64 4, .int .i64 p, .int .i64 c, .int .i64 b, .int .i64 y, .int .i64 d], .int .i64 n] w fun e w' => e = .returned (.bool (inB c 1 4 && decide (p ≤ n - c) && plainB b y d)) ∧ Below w.heap.size w w' := by
  cases hc : inB c 1 4
  · go_enter Try.func150, Try.ntmps150
    go_wp2_with ((go_at_call 88; refine (within_any _ _ _ _).mono ?_; rintro e w' ⟨rfl, rfl⟩))
    all_goals go_ret
    all_goals exact ⟨congrArg (fun x => Ending.returned (.bool x)) (by simp), by (repeat' first | with_reducible exact Below.refl _ _ | with_reducible refine Below.alloc ?_ ?_ _ | with_reducible refine Below.setCell ?_ ?_ _ | with_reducible refine Below.drew ?_ | with_reducible refine Below.drewN' ?_ _ | with_reducible (refine Below.trans ?_ (Below.mono (by assumption) ?_)) | exact Nat.le_refl _ | (simp; done) | (simp; omega) | omega)⟩
  · have hcb := inB_of hc
    by_cases hpn : p ≤ n - c
    · rw [show decide (p ≤ n - c) = true from decide_eq_true hpn]
      go_enter Try.func150, Try.ntmps150
      go_wp2_with ((go_at_call 88; refine (within_any _ _ _ _).mono ?_; rintro e w' ⟨rfl, rfl⟩))
      all_goals go_ret
      all_goals exact ⟨congrArg (fun x => Ending.returned (.bool x)) (by simp_all [plainB]), by (repeat' first | with_reducible exact Below.refl _ _ | with_reducible refine Below.alloc ?_ ?_ _ | with_reducible refine Below.setCell ?_ ?_ _ | with_reducible refine Below.drew ?_ | with_reducible refine Below.drewN' ?_ _ | with_reducible (refine Below.trans ?_ (Below.mono (by assumption) ?_)) | exact Nat.le_refl _ | (simp; done) | (simp; omega) | omega)⟩
    · rw [show decide (p ≤ n - c) = false from decide_eq_false hpn]
      go_enter Try.func150, Try.ntmps150
      go_wp2_with ((go_at_call 88; refine (within_any _ _ _ _).mono ?_; rintro e w' ⟨rfl, rfl⟩))
      all_goals go_ret
      all_goals exact ⟨congrArg (fun x => Ending.returned (.bool x)) (by simp), by (repeat' first | with_reducible exact Below.refl _ _ | with_reducible refine Below.alloc ?_ ?_ _ | with_reducible refine Below.setCell ?_ ?_ _ | with_reducible refine Below.drew ?_ | with_reducible refine Below.drewN' ?_ _ | with_reducible (refine Below.trans ?_ (Below.mono (by assumption) ?_)) | exact Nat.le_refl _ | (simp; done) | (simp; omega) | omega)⟩
end Go.Proofs.Ytpgmkkepbnonmaa
