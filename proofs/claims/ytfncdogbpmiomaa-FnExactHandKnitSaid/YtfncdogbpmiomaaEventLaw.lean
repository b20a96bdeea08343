/- Contracts of the laws' helpers over slices of events. (Printed by wip/flatgen.py.) -/
import Derived.Test.YtfncdogbpmiomaaObjs
import Derived.Deep.RegionHeld3
import Derived.Deep.QuietTactic
import Derived.BigQuiet
namespace Go.Proofs.Ytfncdogbpmiomaa
open Go.RowKit

set_option maxHeartbeats 400000 in
theorem eqEvent_one (z0 z1 z2 z3 z4 z5 : Int) (w : World) :
    Calls Try.prog 52 #[.agg #[.int .i64 z0, .int .i64 z1, .int .i64 z2, .int .i64 z3, .int .i64 z4, .int .i64 z5], .agg #[.int .i64 z0, .int .i64 z1, .int .i64 z2, .int .i64 z3, .int .i64 z4, .int .i64 z5]] w fun e w' => e = .returned (.bool true) ∧ Below w.heap.size w w' := by
  go_enter Try.func52, Try.ntmps52
  go_wp2
  go_ret
  exact ⟨rfl, by (repeat' first | with_reducible exact Below.refl _ _ | with_reducible refine Below.alloc ?_ ?_ _ | with_reducible refine Below.setCell ?_ ?_ _ | with_reducible refine Below.drew ?_ | with_reducible refine Below.drewN' ?_ _ | with_reducible (refine Below.trans ?_ (Below.mono (by assumption) ?_)) | exact Nat.le_refl _ | (simp; done) | (simp; omega) | omega)⟩

set_option maxHeartbeats 1000000 in
theorem eqEventS_any (A A' : Option Addr) (n c c' : Nat) (z : Nat → Int) (w : World) (ha : Rd w A (n * 6) (fun j => .int .i64 (z j))) (hb : Rd w A' (n * 6) (fun j => .int .i64 (z j))) (hn : n ≤ 1000000000) :
    Calls Try.prog 11 #[.slice A n c, .slice A' n c'] w fun e w' => e = .returned (.bool true) ∧ Below w.heap.size w w' := by
  have HA := Lib.hid ha
  have HB := Lib.hid hb
  clear ha hb
  go_enter Try.func11, Try.ntmps11
  go_wp2
  go_loopw [5] (fun i wr => ∃ k : Nat, k ≤ n ∧ i = .int .i64 k ∧ Below w.heap.size w wr) (fun i _ => n - (intOf i).toNat)
  case atStart => exact ⟨0, Nat.zero_le _, rfl, Below.refl _ _⟩
  case round =>
    obtain ⟨k, hk, rfl, hbl⟩ := hrel
    have HL := Lib.hid hbl
    clear hbl
    by_cases hlt : k < n
    · obtain ⟨g, o, rfl, hg, hc⟩ := HA.out (by omega)
      obtain ⟨g', o', rfl, hg', hc'⟩ := HB.out (by omega)
      have a0 := ((bcell HL.out).1 g _ hg).trans (hc (k * 6 + 0) (by omega))
      have b0 := ((bcell HL.out).1 g' _ hg').trans (hc' (k * 6 + 0) (by omega))
      have a1 := ((bcell HL.out).1 g _ hg).trans (hc (k * 6 + 1) (by omega))
      have b1 := ((bcell HL.out).1 g' _ hg').trans (hc' (k * 6 + 1) (by omega))
      have a2 := ((bcell HL.out).1 g _ hg).trans (hc (k * 6 + 2) (by omega))
      have b2 := ((bcell HL.out).1 g' _ hg').trans (hc' (k * 6 + 2) (by omega))
      have a3 := ((bcell HL.out).1 g _ hg).trans (hc (k * 6 + 3) (by omega))
      have b3 := ((bcell HL.out).1 g' _ hg').trans (hc' (k * 6 + 3) (by omega))
      have a4 := ((bcell HL.out).1 g _ hg).trans (hc (k * 6 + 4) (by omega))
      have b4 := ((bcell HL.out).1 g' _ hg').trans (hc' (k * 6 + 4) (by omega))
      have a5 := ((bcell HL.out).1 g _ hg).trans (hc (k * 6 + 5) (by omega))
      have b5 := ((bcell HL.out).1 g' _ hg').trans (hc' (k * 6 + 5) (by omega))
      simp only [← Nat.add_assoc] at a0 b0 a1 b1 a2 b2 a3 b3 a4 b4 a5 b5
      obtain ⟨y0, hy0⟩ : ∃ y, y = z (k * 6 + 0) := ⟨_, rfl⟩
      obtain ⟨y1, hy1⟩ : ∃ y, y = z (k * 6 + 1) := ⟨_, rfl⟩
      obtain ⟨y2, hy2⟩ : ∃ y, y = z (k * 6 + 2) := ⟨_, rfl⟩
      obtain ⟨y3, hy3⟩ : ∃ y, y = z (k * 6 + 3) := ⟨_, rfl⟩
      obtain ⟨y4, hy4⟩ : ∃ y, y = z (k * 6 + 4) := ⟨_, rfl⟩
      obtain ⟨y5, hy5⟩ : ∃ y, y = z (k * 6 + 5) := ⟨_, rfl⟩
      simp only [Nat.add_zero] at a0 b0 hy0
      simp only [← hy0, ← hy1, ← hy2, ← hy3, ← hy4, ← hy5] at a0 b0 a1 b1 a2 b2 a3 b3 a4 b4 a5 b5
      clear hy0 hy1 hy2 hy3 hy4 hy5 hc hc'
      have hgr : g < wr.heap.size := blt HL.out hg
      have hgr' : g' < wr.heap.size := blt HL.out hg'
      go_wp2
      go_region_held3 (fun w' => w'.cell? ⟨g, o + k * 6, none⟩ = some (.int .i64 y0) ∧ w'.cell? ⟨g', o' + k * 6, none⟩ = some (.int .i64 y0) ∧ w'.cell? ⟨g, o + k * 6 + 1, none⟩ = some (.int .i64 y1) ∧ w'.cell? ⟨g', o' + k * 6 + 1, none⟩ = some (.int .i64 y1) ∧ w'.cell? ⟨g, o + k * 6 + 2, none⟩ = some (.int .i64 y2) ∧ w'.cell? ⟨g', o' + k * 6 + 2, none⟩ = some (.int .i64 y2) ∧ w'.cell? ⟨g, o + k * 6 + 3, none⟩ = some (.int .i64 y3) ∧ w'.cell? ⟨g', o' + k * 6 + 3, none⟩ = some (.int .i64 y3) ∧ w'.cell? ⟨g, o + k * 6 + 4, none⟩ = some (.int .i64 y4) ∧ w'.cell? ⟨g', o' + k * 6 + 4, none⟩ = some (.int .i64 y4) ∧ w'.cell? ⟨g, o + k * 6 + 5, none⟩ = some (.int .i64 y5) ∧ w'.cell? ⟨g', o' + k * 6 + 5, none⟩ = some (.int .i64 y5)) (go_keep) (first | (go_at_call 52; refine (eqEvent_one y0 y1 y2 y3 y4 y5 _).mono ?_; rintro e w1 ⟨rfl, hb1⟩; have hk1 := fun x => (bcell hb1).1 g x (by simpa using hgr); have hk2 := fun x => (bcell hb1).1 g' x (by simpa using hgr')))
      go_wp2
      go_roundw
      case rel => exact ⟨k + 1, by omega, by go_num, (Below.drewN' HL.out 1).trans (hb1.mono HL.out.size)⟩
      case measure => simp [intOf] <;> omega
    · obtain rfl : k = n := by omega
      go_wp2
      go_ret
      exact ⟨rfl, HL.out⟩

set_option maxHeartbeats 1000000 in
theorem markEventS_any (A : Option Addr) (n c : Nat) (k : Int) (w : World) (h : Wr w A (n * 6)) (hn : n ≤ 1000000000) (h0 : 0 ≤ k) (hk : k ≤ 2000000000) :
    Calls Try.prog 14 #[.slice A n c, .int .i64 k] w (MarkP w A (n * 6) (k + n * 6) (fun j => .int .i64 (k + j))) := by
  by_cases hz : n = 0
  · subst hz
    go_enter Try.func14, Try.ntmps14
    go_wp2
    go_loop [1, 5] (fun kk i => kk = .int .i64 k ∧ i = .int .i64 0) (fun _ _ => 0)
    case atStart => exact ⟨rfl, rfl⟩
    case round =>
      obtain ⟨rfl, rfl⟩ := hrel
      go_wp2
      go_ret
      exact ⟨ret_int (by simp), Nat.le_refl _, fun _ => rfl, fun _ _ _ h => absurd h (by omega)⟩
  · obtain ⟨g, o, rfl, hw⟩ := h (by omega)
    clear h
    have hg := hw.lt (by omega)
    have HW := Lib.hid hw
    clear hw
    go_enter Try.func14, Try.ntmps14
    go_wp2
    go_loopw [1, 5] (fun kk i wr => ∃ q : Nat, q ≤ n ∧ i = .int .i64 q ∧ kk = .int .i64 (k + q * 6) ∧ g < wr.heap.size ∧ Only w wr g ∧ RowW wr g o (n * 6) ∧ RowR wr g o (q * 6) (fun j => .int .i64 (k + j))) (fun _ i _ => n - (intOf i).toNat)
    case atStart => exact ⟨0, Nat.zero_le _, rfl, by simp, hg, Only.refl _ _, HW.out, fun j hj => absurd hj (by omega)⟩
    case round =>
      obtain ⟨q, hq, rfl, rfl, hgr, ho, hw, hr⟩ := hrel
      have HO := Lib.hid ho
      have HW' := Lib.hid hw
      have HR := Lib.hid hr
      clear ho hw hr
      by_cases hlt : q < n
      · obtain ⟨⟨u100, hu0⟩, hf0⟩ := HW'.out (q * 6 + 0) (by omega)
        obtain ⟨⟨u101, hu1⟩, hf1⟩ := HW'.out (q * 6 + 1) (by omega)
        obtain ⟨⟨u102, hu2⟩, hf2⟩ := HW'.out (q * 6 + 2) (by omega)
        obtain ⟨⟨u103, hu3⟩, hf3⟩ := HW'.out (q * 6 + 3) (by omega)
        obtain ⟨⟨u104, hu4⟩, hf4⟩ := HW'.out (q * 6 + 4) (by omega)
        obtain ⟨⟨u105, hu5⟩, hf5⟩ := HW'.out (q * 6 + 5) (by omega)
        simp only [← Nat.add_assoc, Nat.add_zero] at hu0 hf0 hu1 hf1 hu2 hf2 hu3 hf3 hu4 hf4 hu5 hf5
        go_wp2
        go_roundw
        case rel =>
          refine ⟨q + 1, by omega, by go_num, by go_num, by simp; exact hgr, ((((((HO.out.set _ _).set _ _).set _ _).set _ _).set _ _).set _ _), ((((((HW'.out.set _ _).set _ _).set _ _).set _ _).set _ _).set _ _), ?_⟩
          have r0 := RowR.step (m := q * 6) (a := o + q * 6) (u := .int .i64 (k + q * 6)) HR.out HW'.out (by omega) (by omega) (by simp only [Value.int.injEq, true_and]; omega)
          have r1 := RowR.step (m := q * 6 + 1) (a := o + q * 6 + 1) (u := .int .i64 (k + q * 6 + 1)) r0 (HW'.out.set ⟨g, o + q * 6, none⟩ (.int .i64 (k + q * 6))) (by omega) (by omega) (by simp only [Value.int.injEq, true_and]; omega)
          have r2 := RowR.step (m := q * 6 + 2) (a := o + q * 6 + 2) (u := .int .i64 (k + q * 6 + 1 + 1)) r1 ((HW'.out.set ⟨g, o + q * 6, none⟩ (.int .i64 (k + q * 6))).set ⟨g, o + q * 6 + 1, none⟩ (.int .i64 (k + q * 6 + 1))) (by omega) (by omega) (by simp only [Value.int.injEq, true_and]; omega)
          have r3 := RowR.step (m := q * 6 + 3) (a := o + q * 6 + 3) (u := .int .i64 (k + q * 6 + 1 + 1 + 1)) r2 (((HW'.out.set ⟨g, o + q * 6, none⟩ (.int .i64 (k + q * 6))).set ⟨g, o + q * 6 + 1, none⟩ (.int .i64 (k + q * 6 + 1))).set ⟨g, o + q * 6 + 2, none⟩ (.int .i64 (k + q * 6 + 1 + 1))) (by omega) (by omega) (by simp only [Value.int.injEq, true_and]; omega)
          have r4 := RowR.step (m := q * 6 + 4) (a := o + q * 6 + 4) (u := .int .i64 (k + q * 6 + 1 + 1 + 1 + 1)) r3 ((((HW'.out.set ⟨g, o + q * 6, none⟩ (.int .i64 (k + q * 6))).set ⟨g, o + q * 6 + 1, none⟩ (.int .i64 (k + q * 6 + 1))).set ⟨g, o + q * 6 + 2, none⟩ (.int .i64 (k + q * 6 + 1 + 1))).set ⟨g, o + q * 6 + 3, none⟩ (.int .i64 (k + q * 6 + 1 + 1 + 1))) (by omega) (by omega) (by simp only [Value.int.injEq, true_and]; omega)
          have r5 := RowR.step (m := q * 6 + 5) (a := o + q * 6 + 5) (u := .int .i64 (k + q * 6 + 1 + 1 + 1 + 1 + 1)) r4 (((((HW'.out.set ⟨g, o + q * 6, none⟩ (.int .i64 (k + q * 6))).set ⟨g, o + q * 6 + 1, none⟩ (.int .i64 (k + q * 6 + 1))).set ⟨g, o + q * 6 + 2, none⟩ (.int .i64 (k + q * 6 + 1 + 1))).set ⟨g, o + q * 6 + 3, none⟩ (.int .i64 (k + q * 6 + 1 + 1 + 1))).set ⟨g, o + q * 6 + 4, none⟩ (.int .i64 (k + q * 6 + 1 + 1 + 1 + 1))) (by omega) (by omega) (by simp only [Value.int.injEq, true_and]; omega)
          exact RowR.cast (by omega) r5
        case measure => simp [intOf] <;> omega
      · obtain rfl : q = n := by omega
        go_wp2
        go_ret
        exact ⟨rfl, HO.out.size, fun h => absurd h (by omega), fun g' o' e _ => by injection e with e; injection e with e1 e2; subst e1 e2; exact ⟨HO.out, HW'.out, HR.out⟩⟩

set_option maxHeartbeats 1000000 in
theorem heldEventS_any (A : Option Addr) (n c : Nat) (k : Int) (w : World) (h : Rd w A (n * 6) (fun j => .int .i64 (k + j))) (hn : n ≤ 1000000000) (h0 : 0 ≤ k) (hk : k ≤ 2000000000) :
    Calls Try.prog 15 #[.slice A n c, .int .i64 k] w fun e w' => e = .returned (.int .i64 (k + n * 6)) ∧ Below w.heap.size w w' := by
  have H := Lib.hid h
  clear h
  go_enter Try.func15, Try.ntmps15
  go_wp2
  go_loop [1, 5] (fun kk i => ∃ q : Nat, q ≤ n ∧ i = .int .i64 q ∧ kk = .int .i64 (k + q * 6)) (fun _ i => n - (intOf i).toNat)
  case atStart => exact ⟨0, Nat.zero_le _, rfl, by simp⟩
  case round =>
    obtain ⟨q, hq, rfl, rfl⟩ := hrel
    by_cases hlt : q < n
    · obtain ⟨g, o, rfl, hg, hr⟩ := H.out (by omega)
      have c0 := hr (q * 6 + 0) (by omega)
      have c1 := hr (q * 6 + 1) (by omega)
      have c2 := hr (q * 6 + 2) (by omega)
      have c3 := hr (q * 6 + 3) (by omega)
      have c4 := hr (q * 6 + 4) (by omega)
      have c5 := hr (q * 6 + 5) (by omega)
      simp only [← Nat.add_assoc, Nat.add_zero] at c0 c1 c2 c3 c4 c5
      clear hr
      have d0 : k + ((q * 6 : Nat) : Int) = k + (q : Int) * 6 := by omega
      have d1 : k + ((q * 6 + 1 : Nat) : Int) = k + (q : Int) * 6 + 1 := by omega
      have d2 : k + ((q * 6 + 2 : Nat) : Int) = k + (q : Int) * 6 + 1 + 1 := by omega
      have d3 : k + ((q * 6 + 3 : Nat) : Int) = k + (q : Int) * 6 + 1 + 1 + 1 := by omega
      have d4 : k + ((q * 6 + 4 : Nat) : Int) = k + (q : Int) * 6 + 1 + 1 + 1 + 1 := by omega
      have d5 : k + ((q * 6 + 5 : Nat) : Int) = k + (q : Int) * 6 + 1 + 1 + 1 + 1 + 1 := by omega
      simp only [d0, d1, d2, d3, d4, d5] at c0 c1 c2 c3 c4 c5
      clear d0 d1 d2 d3 d4 d5
      go_wp2
      go_round
      case rel => exact ⟨q + 1, by omega, by go_num, by go_num⟩
      case measure => simp [intOf] <;> omega
    · obtain rfl : q = n := by omega
      go_wp2
      go_ret
      exact ⟨rfl, Below.refl _ _⟩

end Go.Proofs.Ytfncdogbpmiomaa
