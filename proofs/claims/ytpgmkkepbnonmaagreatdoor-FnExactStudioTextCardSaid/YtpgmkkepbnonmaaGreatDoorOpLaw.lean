/- Contracts of the laws' helpers over slices of operations. (Printed by wip/flatgen.py.) -/
import Derived.Test.YtpgmkkepbnonmaaGreatDoorObjs
import Derived.Deep.RegionHeld3
import Derived.Deep.QuietTactic
import Derived.BigQuiet
namespace Go.Proofs.YtpgmkkepbnonmaaGreatDoor
open Go.RowKit

set_option maxRecDepth 20000
theorem eqNeedle_one (x y : Int) (w : World) :
    Calls Tryz.prog 55 #[.agg #[.int .i64 x, .int .i64 y], .agg #[.int .i64 x, .int .i64 y]] w fun e w' => e = .returned (.bool true) ∧ Below w.heap.size w w' := by
  go_enter Tryz.func55, Tryz.ntmps55
  go_wp2
  go_ret
  exact ⟨rfl, by (repeat' first | with_reducible exact Below.refl _ _ | with_reducible refine Below.alloc ?_ ?_ _ | with_reducible refine Below.setCell ?_ ?_ _ | with_reducible refine Below.drew ?_ | with_reducible refine Below.drewN' ?_ _ | with_reducible (refine Below.trans ?_ (Below.mono (by assumption) ?_)) | exact Nat.le_refl _ | (simp; done) | (simp; omega) | omega)⟩

set_option maxHeartbeats 400000 in
theorem eqOp_one (z0 z1 z2 z3 z4 z5 z6 z7 : Int) (w : World) :
    Calls Tryz.prog 41 #[.agg #[.int .i64 z0, .int .i64 z1, .int .i64 z2, .int .i64 z3, .int .i64 z4, .int .i64 z5, .int .i64 z6, .int .i64 z7], .agg #[.int .i64 z0, .int .i64 z1, .int .i64 z2, .int .i64 z3, .int .i64 z4, .int .i64 z5, .int .i64 z6, .int .i64 z7]] w fun e w' => e = .returned (.bool true) ∧ Below w.heap.size w w' := by
  go_enter Tryz.func41, Tryz.ntmps41
  have hL : Below w.heap.size w ((w.alloc (.cells #[.int .i64 z0, .int .i64 z1, .int .i64 z2, .int .i64 z3, .int .i64 z4, .int .i64 z5, .int .i64 z6, .int .i64 z7] 72)).alloc (.cells #[.int .i64 z0, .int .i64 z1, .int .i64 z2, .int .i64 z3, .int .i64 z4, .int .i64 z5, .int .i64 z6, .int .i64 z7] 72)) := ((Below.refl _ _).alloc (Nat.le_refl _) _).alloc (by simp) _
  have HL := Lib.hid hL
  have X := Lib.hid (box_new w #[.int .i64 z0, .int .i64 z1, .int .i64 z2, .int .i64 z3, .int .i64 z4, .int .i64 z5, .int .i64 z6, .int .i64 z7] 72)
  clear hL
  go_wp2_with fail
  refine (eqNeedle_one z2 z3 _).mono ?_
  rintro e w1 ⟨rfl, hb1⟩
  have x1 : ∀ o, w1.cell? ⟨w.heap.size, o, none⟩ = (#[.int .i64 z0, .int .i64 z1, .int .i64 z2, .int .i64 z3, .int .i64 z4, .int .i64 z5, .int .i64 z6, .int .i64 z7] : Array Value)[o]? := (box_loc _ _ (by simp)).below ((box_loc w.heap.size #[.int .i64 z0, .int .i64 z1, .int .i64 z2, .int .i64 z3, .int .i64 z4, .int .i64 z5, .int .i64 z6, .int .i64 z7] (by simp)).below X.out ((Below.refl _ _).alloc (Nat.le_refl _) _)) hb1
  have y1 : ∀ o, w1.cell? ⟨w.heap.size + 1, o, none⟩ = (#[.int .i64 z0, .int .i64 z1, .int .i64 z2, .int .i64 z3, .int .i64 z4, .int .i64 z5, .int .i64 z6, .int .i64 z7] : Array Value)[o]? := fun o => ((bcell hb1).1 (w.heap.size + 1) o (by simp)).trans (cell_alloc_at (by simp) o)
  have hz1 : w.heap.size + 1 < w1.heap.size := blt hb1 (by simp)
  have X1 := Lib.hid x1
  have Y1 := Lib.hid y1
  have HB1 := Lib.hid (HL.out.trans (hb1.mono HL.out.size))
  clear hb1
  go_wp2_with fail
  refine (eqNeedle_one z4 z5 _).mono ?_
  rintro e w2 ⟨rfl, hb2⟩
  have x2 := fun o => ((bcell hb2).1 w.heap.size o (by omega)).trans (X1.out o)
  have y2 := fun o => ((bcell hb2).1 (w.heap.size + 1) o (by omega)).trans (Y1.out o)
  have HB2 := Lib.hid (HB1.out.trans (hb2.mono HB1.out.size))
  clear hb2 x1 y1
  go_wp2_with fail
  go_ret
  exact ⟨rfl, HB2.out⟩

set_option maxHeartbeats 1000000 in
theorem eqOpS_any (A A' : Option Addr) (n c c' : Nat) (z : Nat → Int) (w : World) (ha : Rd w A (n * 8) (fun j => .int .i64 (z j))) (hb : Rd w A' (n * 8) (fun j => .int .i64 (z j))) (hn : n ≤ 1000000000) :
    Calls Tryz.prog 22 #[.slice A n c, .slice A' n c'] w fun e w' => e = .returned (.bool true) ∧ Below w.heap.size w w' := by
  have HA := Lib.hid ha
  have HB := Lib.hid hb
  clear ha hb
  go_enter Tryz.func22, Tryz.ntmps22
  go_wp2
  go_loopw [5] (fun i wr => ∃ k : Nat, k ≤ n ∧ i = .int .i64 k ∧ Below w.heap.size w wr) (fun i _ => n - (intOf i).toNat)
  case atStart => exact ⟨0, Nat.zero_le _, rfl, Below.refl _ _⟩
  case round =>
    obtain ⟨k, hk, rfl, hbl⟩ := hrel
    have HL := Lib.hid hbl
    clear hbl
    by_cases hlt : k < n
    · obtain ⟨g, o, rfl, hg, hc⟩ := HA.out (by omega)
      obtain ⟨g', o', rfl, hg', hc'⟩ := HB.out (by omega)
      have a0 := ((bcell HL.out).1 g _ hg).trans (hc (k * 8 + 0) (by omega))
      have b0 := ((bcell HL.out).1 g' _ hg').trans (hc' (k * 8 + 0) (by omega))
      have a1 := ((bcell HL.out).1 g _ hg).trans (hc (k * 8 + 1) (by omega))
      have b1 := ((bcell HL.out).1 g' _ hg').trans (hc' (k * 8 + 1) (by omega))
      have a2 := ((bcell HL.out).1 g _ hg).trans (hc (k * 8 + 2) (by omega))
      have b2 := ((bcell HL.out).1 g' _ hg').trans (hc' (k * 8 + 2) (by omega))
      have a3 := ((bcell HL.out).1 g _ hg).trans (hc (k * 8 + 3) (by omega))
      have b3 := ((bcell HL.out).1 g' _ hg').trans (hc' (k * 8 + 3) (by omega))
      have a4 := ((bcell HL.out).1 g _ hg).trans (hc (k * 8 + 4) (by omega))
      have b4 := ((bcell HL.out).1 g' _ hg').trans (hc' (k * 8 + 4) (by omega))
      have a5 := ((bcell HL.out).1 g _ hg).trans (hc (k * 8 + 5) (by omega))
      have b5 := ((bcell HL.out).1 g' _ hg').trans (hc' (k * 8 + 5) (by omega))
      have a6 := ((bcell HL.out).1 g _ hg).trans (hc (k * 8 + 6) (by omega))
      have b6 := ((bcell HL.out).1 g' _ hg').trans (hc' (k * 8 + 6) (by omega))
      have a7 := ((bcell HL.out).1 g _ hg).trans (hc (k * 8 + 7) (by omega))
      have b7 := ((bcell HL.out).1 g' _ hg').trans (hc' (k * 8 + 7) (by omega))
      simp only [← Nat.add_assoc] at a0 b0 a1 b1 a2 b2 a3 b3 a4 b4 a5 b5 a6 b6 a7 b7
      obtain ⟨y0, hy0⟩ : ∃ y, y = z (k * 8 + 0) := ⟨_, rfl⟩
      obtain ⟨y1, hy1⟩ : ∃ y, y = z (k * 8 + 1) := ⟨_, rfl⟩
      obtain ⟨y2, hy2⟩ : ∃ y, y = z (k * 8 + 2) := ⟨_, rfl⟩
      obtain ⟨y3, hy3⟩ : ∃ y, y = z (k * 8 + 3) := ⟨_, rfl⟩
      obtain ⟨y4, hy4⟩ : ∃ y, y = z (k * 8 + 4) := ⟨_, rfl⟩
      obtain ⟨y5, hy5⟩ : ∃ y, y = z (k * 8 + 5) := ⟨_, rfl⟩
      obtain ⟨y6, hy6⟩ : ∃ y, y = z (k * 8 + 6) := ⟨_, rfl⟩
      obtain ⟨y7, hy7⟩ : ∃ y, y = z (k * 8 + 7) := ⟨_, rfl⟩
      simp only [Nat.add_zero] at a0 b0 hy0
      simp only [← hy0, ← hy1, ← hy2, ← hy3, ← hy4, ← hy5, ← hy6, ← hy7] at a0 b0 a1 b1 a2 b2 a3 b3 a4 b4 a5 b5 a6 b6 a7 b7
      clear hy0 hy1 hy2 hy3 hy4 hy5 hy6 hy7 hc hc'
      have hgr : g < wr.heap.size := blt HL.out hg
      have hgr' : g' < wr.heap.size := blt HL.out hg'
      go_wp2
      go_region_held3 (fun w' => w'.cell? ⟨g, o + k * 8, none⟩ = some (.int .i64 y0) ∧ w'.cell? ⟨g', o' + k * 8, none⟩ = some (.int .i64 y0) ∧ w'.cell? ⟨g, o + k * 8 + 1, none⟩ = some (.int .i64 y1) ∧ w'.cell? ⟨g', o' + k * 8 + 1, none⟩ = some (.int .i64 y1) ∧ w'.cell? ⟨g, o + k * 8 + 2, none⟩ = some (.int .i64 y2) ∧ w'.cell? ⟨g', o' + k * 8 + 2, none⟩ = some (.int .i64 y2) ∧ w'.cell? ⟨g, o + k * 8 + 3, none⟩ = some (.int .i64 y3) ∧ w'.cell? ⟨g', o' + k * 8 + 3, none⟩ = some (.int .i64 y3) ∧ w'.cell? ⟨g, o + k * 8 + 4, none⟩ = some (.int .i64 y4) ∧ w'.cell? ⟨g', o' + k * 8 + 4, none⟩ = some (.int .i64 y4) ∧ w'.cell? ⟨g, o + k * 8 + 5, none⟩ = some (.int .i64 y5) ∧ w'.cell? ⟨g', o' + k * 8 + 5, none⟩ = some (.int .i64 y5) ∧ w'.cell? ⟨g, o + k * 8 + 6, none⟩ = some (.int .i64 y6) ∧ w'.cell? ⟨g', o' + k * 8 + 6, none⟩ = some (.int .i64 y6) ∧ w'.cell? ⟨g, o + k * 8 + 7, none⟩ = some (.int .i64 y7) ∧ w'.cell? ⟨g', o' + k * 8 + 7, none⟩ = some (.int .i64 y7)) (go_keep) (first | (go_at_call 41; refine (eqOp_one y0 y1 y2 y3 y4 y5 y6 y7 _).mono ?_; rintro e w1 ⟨rfl, hb1⟩; have hk1 := fun x => (bcell hb1).1 g x (by simpa using hgr); have hk2 := fun x => (bcell hb1).1 g' x (by simpa using hgr')))
      go_wp2
      go_roundw
      case rel => exact ⟨k + 1, by omega, by go_num, (Below.drewN' HL.out 1).trans (hb1.mono HL.out.size)⟩
      case measure => simp [intOf] <;> omega
    · obtain rfl : k = n := by omega
      go_wp2
      go_ret
      exact ⟨rfl, HL.out⟩

end Go.Proofs.YtpgmkkepbnonmaaGreatDoor
