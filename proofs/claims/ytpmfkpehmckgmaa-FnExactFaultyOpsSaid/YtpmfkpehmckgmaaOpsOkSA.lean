/- Walks: whether operations are valid for a width, by the reference. No condition but the bounds. -/
import Derived.Test.YtpmfkpehmckgmaaOpsOkS
namespace Go.Proofs.Ytpmfkpehmckgmaa
open Go.RowKit Go.Sort
set_option maxRecDepth 20000

set_option maxHeartbeats 4000000 in
theorem l07Op0_any (k d fb fa tb ta c r : Int) (g o : Nat) (w : World) (H : Hid (OpAt w g o k d fb fa tb ta c r)) (hk : ¬ k = 1 ∧ ¬ k = 2 ∧ ¬ k = 3 ∧ ¬ k = 4 ∧ ¬ k = 5 ∧ ¬ k = 6 ∧ ¬ k = 7 ∧ ¬ k = 8 ∧ ¬ k = 9) :
    Calls Try.prog 80 #[.pointer (some ⟨g, o, none⟩)] w fun e w' => e = .returned (.bool false) ∧ Below w.heap.size w w' := by
  obtain ⟨k1, k2, k3, k4, k5, k6, k7, k8, k9⟩ := hk
  have h0 := H.out.c0
  have hg := H.out.lt
  go_enter Try.func80, Try.ntmps80
  go_wp2_with fail
  go_ret
  exact ⟨rfl, by (repeat' first | with_reducible exact Below.refl _ _ | with_reducible refine Below.alloc ?_ ?_ _ | with_reducible refine Below.setCell ?_ ?_ _ | with_reducible refine Below.drew ?_ | with_reducible refine Below.drewN' ?_ _ | with_reducible (refine Below.trans ?_ (Below.mono (by assumption) ?_)) | exact Nat.le_refl _ | (simp; done) | (simp; omega) | omega)⟩
theorem l07Op_any (k d fb fa tb ta c r : Int) (g o : Nat) (w : World) (H : Hid (OpAt w g o k d fb fa tb ta c r)) :
    Calls Try.prog 80 #[.pointer (some ⟨g, o, none⟩)] w fun e w' => e = .returned (.bool (opB k d fb fa tb ta c r)) ∧ Below w.heap.size w w' := by
  by_cases h1 : k = 1
  · subst h1; exact l07Op1_any d fb fa tb ta c r g o w H
  by_cases h2 : k = 2
  · subst h2; exact l07Op2_any d fb fa tb ta c r g o w H
  by_cases h3 : k = 3
  · subst h3; exact l07Op3_any d fb fa tb ta c r g o w H
  by_cases h4 : k = 4
  · subst h4; exact l07Op4_any d fb fa tb ta c r g o w H
  by_cases h5 : k = 5
  · subst h5; exact l07Op5_any d fb fa tb ta c r g o w H
  by_cases h6 : k = 6
  · subst h6; exact l07Op6_any d fb fa tb ta c r g o w H
  by_cases h7 : k = 7
  · subst h7; exact l07Op7_any d fb fa tb ta c r g o w H
  by_cases h8 : k = 8
  · subst h8; exact l07Op8_any d fb fa tb ta c r g o w H
  by_cases h9 : k = 9
  · subst h9; exact l07Op9_any d fb fa tb ta c r g o w H
  have e0 : opB k d fb fa tb ta c r = false := by simp [opB, h1, h2, h3, h4, h5, h6, h7, h8, h9]
  rw [e0]
  exact l07Op0_any k d fb fa tb ta c r g o w H ⟨h1, h2, h3, h4, h5, h6, h7, h8, h9⟩
theorem l07Fits_any (k d fb fa tb ta c r W : Int) (g o : Nat) (w : World) (H : Hid (OpAt w g o k d fb fa tb ta c r)) :
    Calls Try.prog 81 #[.pointer (some ⟨g, o, none⟩), .int .i64 W] w fun e w' => e = .returned (.bool (decide (fa < W) && decide (ta < W))) ∧ w = w' := by
  have h3 : w.cell? ⟨g, o + 2 + 1, none⟩ = some (.int .i64 fa) := H.out.c3
  have h5 : w.cell? ⟨g, o + 4 + 1, none⟩ = some (.int .i64 ta) := H.out.c5
  by_cases ha : fa < W
  · go_enter Try.func81, Try.ntmps81
    go_wp2_with fail
    all_goals go_ret
    all_goals exact ⟨congrArg (fun x => Ending.returned (.bool x)) (by simp [ha]), rfl⟩
  · have hd : decide (fa < W) = false := decide_eq_false ha
    go_enter Try.func81, Try.ntmps81
    go_wp2_with fail
    all_goals go_ret
    all_goals exact ⟨rfl, rfl⟩
theorem opAt_of {w : World} {ga o n : Nat} {z : Nat → Int} (hr : RowR w ga o (n * 8) (fun j => .int .i64 (z j))) {k : Nat} (hk : k < n) :
    OpAt w ga (o + k * 8) (z (k * 8)) (z (k * 8 + 1)) (z (k * 8 + 2)) (z (k * 8 + 3)) (z (k * 8 + 4)) (z (k * 8 + 5)) (z (k * 8 + 6)) (z (k * 8 + 7)) := by
  refine ⟨hr (k * 8) (by omega), ?_, ?_, ?_, ?_, ?_, ?_, ?_⟩
  all_goals
    rw [Nat.add_assoc]
    exact hr _ (by omega)
theorem opsB_none {W : Int} {z : Nat → Int} {n k : Nat} (hk : k < n) (h : opW W z k = false) : progB W z n = false := by simp [progB, opsB_false hk h]
set_option maxHeartbeats 2000000 in
theorem l07Ops_any (W : Int) (A : Option Addr) (n q : Nat) (z : Nat → Int) (w : World) (ha : Rd w A (n * 8) (fun j => .int .i64 (z j))) (hn : n ≤ 1048576) :
    Calls Try.prog 55 #[.int .i64 W, .slice A n q] w fun e w' => e = .returned (.bool (progB W z n)) ∧ Below w.heap.size w w' := by
  have HA := Lib.hid ha
  clear ha
  go_enter Try.func55, Try.ntmps55
  go_wp2_with fail
  go_loopw [5] (fun i wr => ∃ k : Nat, k ≤ n ∧ i = .int .i64 k ∧ Hid (opsB W z k = true) ∧ Below w.heap.size w wr) (fun i _ => n - (intOf i).toNat)
  case atStart => exact ⟨0, Nat.zero_le _, rfl, rfl, Below.refl _ _⟩
  case round =>
    obtain ⟨k, hk, rfl, HK, hb⟩ := hrel
    have HB := Lib.hid hb
    by_cases hlt : k < n
    · obtain ⟨ga, o, rfl, hga, hr⟩ := HA.out.below hb (by omega)
      have HO := Lib.hid (opAt_of hr hlt)
      obtain ⟨V, hV⟩ : ∃ V, V = opW W z k := ⟨_, rfl⟩
      have HV := Lib.hid hV
      have hV' : V = bothB (opB (z (k * 8)) (z (k * 8 + 1)) (z (k * 8 + 2)) (z (k * 8 + 3)) (z (k * 8 + 4)) (z (k * 8 + 5)) (z (k * 8 + 6)) (z (k * 8 + 7))) (z (k * 8 + 3)) (z (k * 8 + 5)) W := hV
      generalize z (k * 8) = x0 at *
      generalize z (k * 8 + 1) = x1 at *
      generalize z (k * 8 + 2) = x2 at *
      generalize z (k * 8 + 3) = x3 at *
      generalize z (k * 8 + 4) = x4 at *
      generalize z (k * 8 + 5) = x5 at *
      generalize z (k * 8 + 6) = x6 at *
      generalize z (k * 8 + 7) = x7 at *
      have HV' := Lib.hid hV'
      clear hr hb hV hV'
      go_wp2_with fail
      refine (l07Op_any x0 x1 x2 x3 x4 x5 x6 x7 _ _ _ HO).mono ?_
      rintro e w1 ⟨rfl, hb1⟩
      have HO1 := Lib.hid (HO.out.below hb1)
      have HB1 := Lib.hid (HB.out.trans (hb1.mono HB.out.size))
      clear hb1
      cases hop : opB x0 x1 x2 x3 x4 x5 x6 x7
      · have hVf : opW W z k = false := by rw [← HV.out, HV'.out, hop]; rfl
        have HF := Lib.hid hVf
        clear hVf
        go_wp2
        go_ret
        exact ⟨by rw [opsB_none hlt HF.out]; rfl, HB1.out⟩
      · have HOP := Lib.hid hop
        clear hop
        go_wp2_with fail
        refine (l07Fits_any x0 x1 x2 x3 x4 x5 x6 x7 W _ _ _ HO1).mono ?_
        rintro e w2 ⟨rfl, rfl⟩
        have hVf : opW W z k = (decide (x3 < W) && decide (x5 < W)) := by rw [← HV.out, HV'.out, HOP.out]; rfl
        cases hft : (decide (x3 < W) && decide (x5 < W))
        · rw [hft] at hVf
          have HF := Lib.hid hVf
          clear hVf hft
          go_wp2
          go_ret
          exact ⟨by rw [opsB_none hlt HF.out]; rfl, HB1.out⟩
        · rw [hft] at hVf
          have HF := Lib.hid hVf
          clear hVf hft
          go_wp2
          go_roundw
          case rel => exact ⟨k + 1, by omega, by go_num, by unfold Hid; simp only [opsB]; rw [HK.out, HF.out]; rfl, HB1.out⟩
          case measure => simp [intOf] <;> omega
    · obtain rfl : n = k := by omega
      clear hb
      cases hI : inB W 1 24
      · go_wp2_with ((go_at_call 51; refine (l00In_any _ _ _ _).mono ?_; rintro e w' ⟨rfl, rfl⟩))
        all_goals go_ret
        all_goals exact ⟨by simp [progB, hI], HB.out⟩
      · by_cases hl : n ≤ 1500
        · have hl' : (n : Int) ≤ 1500 := by omega
          go_wp2_with ((go_at_call 51; refine (l00In_any _ _ _ _).mono ?_; rintro e w' ⟨rfl, rfl⟩))
          all_goals go_ret
          all_goals exact ⟨by simp [progB, hI, hl, HK.out], HB.out⟩
        · have hl' : ¬ (n : Int) ≤ 1500 := by omega
          go_wp2_with ((go_at_call 51; refine (l00In_any _ _ _ _).mono ?_; rintro e w' ⟨rfl, rfl⟩))
          all_goals go_ret
          all_goals exact ⟨by simp [progB, hl]; omega, HB.out⟩
end Go.Proofs.Ytpmfkpehmckgmaa
