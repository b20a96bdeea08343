/- Walks: whether an operation is valid, by the program. No condition. -/
import Derived.Test.YtpmfkpehmckgmaaEvents
namespace Go.Proofs.Ytpmfkpehmckgmaa
open Go.RowKit
set_option maxRecDepth 20000

/-- A needle is valid. -/
def ndB (b a : Int) : Bool := inB b 1 2 && inB a 0 23
/-- An operation is valid: its kind, direction, needles, carrier, rack. -/
def opB (k d fb fa tb ta c r : Int) : Bool :=
  if k = 1 ∨ k = 2 ∨ k = 3 then dirB d && (ndB fb fa && (inB c 1 4 && ((tb == 0) && ((ta == 0) && (r == 0)))))
  else if k = 4 then ndB fb fa && (ndB tb ta && ((fb != tb) && ((d == 0) && ((c == 0) && (r == 0)))))
  else if k = 5 then ndB fb fa && (ndB tb ta && ((fb != tb) && (dirB d && (inB c 1 4 && (r == 0)))))
  else if k = 6 then ndB fb fa && ((d == 0) && ((tb == 0) && ((ta == 0) && ((c == 0) && (r == 0)))))
  else if k = 7 then inB r (-3) 3 && ((d == 0) && ((fb == 0) && ((fa == 0) && ((tb == 0) && ((ta == 0) && (c == 0))))))
  else if k = 8 then dirB d && (inB c 1 4 && ((fb == 0) && ((fa == 0) && ((tb == 0) && ((ta == 0) && (r == 0))))))
  else if k = 9 then inB c 1 4 && ((d == 0) && ((fb == 0) && ((fa == 0) && ((tb == 0) && ((ta == 0) && (r == 0))))))
  else false
theorem l01Needle_any (b a : Int) (w : World) : Calls Try.prog 105 #[.agg #[.int .i64 b, .int .i64 a]] w fun e w' => e = .returned (.bool (ndB b a)) ∧ Below w.heap.size w w' := by
  go_enter Try.func105, Try.ntmps105
  go_wp2_with (first | (go_at_call 117; refine (l01Bed_any _ _).mono ?_; rintro e w' ⟨rfl, rfl⟩) | (go_at_call 51; refine (l00In_any _ _ _ _).mono ?_; rintro e w' ⟨rfl, rfl⟩))
  all_goals go_ret
  all_goals exact ⟨congrArg (fun x => Ending.returned (.bool x)) (by simp_all [ndB]), by (repeat' first | with_reducible exact Below.refl _ _ | with_reducible refine Below.alloc ?_ ?_ _ | with_reducible refine Below.setCell ?_ ?_ _ | with_reducible refine Below.drew ?_ | with_reducible refine Below.drewN' ?_ _ | with_reducible (refine Below.trans ?_ (Below.mono (by assumption) ?_)) | exact Nat.le_refl _ | (simp; done) | (simp; omega) | omega)⟩
theorem validNeedle_any (b a : Int) (w : World) : Calls Try.prog 120 #[.agg #[.int .i64 b, .int .i64 a]] w fun e w' => e = .returned (.bool (ndB b a)) ∧ Below w.heap.size w w' := by
  go_enter Try.func120, Try.ntmps120
  go_wp2_with (first | (go_at_call 135; refine (isBed_any _ _).mono ?_; rintro e w' ⟨rfl, rfl⟩) | (go_at_call 69; refine (within_any _ _ _ _).mono ?_; rintro e w' ⟨rfl, rfl⟩))
  all_goals go_ret
  all_goals exact ⟨congrArg (fun x => Ending.returned (.bool x)) (by simp_all [ndB]), by (repeat' first | with_reducible exact Below.refl _ _ | with_reducible refine Below.alloc ?_ ?_ _ | with_reducible refine Below.setCell ?_ ?_ _ | with_reducible refine Below.drew ?_ | with_reducible refine Below.drewN' ?_ _ | with_reducible (refine Below.trans ?_ (Below.mono (by assumption) ?_)) | exact Nat.le_refl _ | (simp; done) | (simp; omega) | omega)⟩
theorem isRack_any (r : Int) (w : World) : Calls Try.prog 122 #[.int .i64 r] w fun e w' => e = .returned (.bool (inB r (-3) 3)) ∧ w = w' := by
  go_enter Try.func122, Try.ntmps122
  go_wp2_with ((go_at_call 69; refine (within_any _ _ _ _).mono ?_; rintro e w' ⟨rfl, rfl⟩))
  go_ret
  exact ⟨rfl, rfl⟩
set_option maxHeartbeats 1000000 in
theorem isPair_any (fb fa tb ta : Int) (w : World) : Calls Try.prog 121 #[.agg #[.int .i64 fb, .int .i64 fa], .agg #[.int .i64 tb, .int .i64 ta]] w fun e w' => e = .returned (.bool (ndB fb fa && (ndB tb ta && (fb != tb)))) ∧ Below w.heap.size w w' := by
  cases h1 : ndB fb fa
  · go_enter Try.func121, Try.ntmps121
    go_wp2_with fail
    refine (validNeedle_any fb fa _).mono ?_
    rintro e w1 ⟨rfl, hb1⟩
    rw [h1]
    have HB1 := Lib.hid (show Below w.heap.size w w1 from by (repeat' first | with_reducible exact Below.refl _ _ | with_reducible refine Below.alloc ?_ ?_ _ | with_reducible refine Below.setCell ?_ ?_ _ | with_reducible refine Below.drew ?_ | with_reducible refine Below.drewN' ?_ _ | with_reducible (refine Below.trans ?_ (Below.mono (by assumption) ?_)) | exact Nat.le_refl _ | (simp; done) | (simp; omega) | omega))
    clear hb1
    go_wp2_with fail
    go_ret
    exact ⟨rfl, HB1.out⟩
  · cases h2 : ndB tb ta
    · go_enter Try.func121, Try.ntmps121
      go_wp2_with fail
      refine (validNeedle_any fb fa _).mono ?_
      rintro e w1 ⟨rfl, hb1⟩
      rw [h1]
      have HB1 := Lib.hid (show Below w.heap.size w w1 from by (repeat' first | with_reducible exact Below.refl _ _ | with_reducible refine Below.alloc ?_ ?_ _ | with_reducible refine Below.setCell ?_ ?_ _ | with_reducible refine Below.drew ?_ | with_reducible refine Below.drewN' ?_ _ | with_reducible (refine Below.trans ?_ (Below.mono (by assumption) ?_)) | exact Nat.le_refl _ | (simp; done) | (simp; omega) | omega))
      have X1 := Lib.hid (Blk.below ((Blk.at_ w 37 #[.int .i64 fb, .int .i64 fa] rfl).alloc _) hb1 (by first | (simp; done) | (simp; omega)))
      have Y1 := Lib.hid (Blk.below (Blk.at_ (g' := w.heap.size + 1) _ 37 #[.int .i64 tb, .int .i64 ta] (by simp)) hb1 (by first | (simp; done) | (simp; omega)))
      have x1 := fun o => X1.out.cell o
      have y1 := fun o => Y1.out.cell o
      have z1 := X1.out.lt
      have z2 := Y1.out.lt
      clear hb1
      go_wp2_with fail
      refine (validNeedle_any tb ta _).mono ?_
      rintro e w2 ⟨rfl, hb2⟩
      rw [h2]
      have HB2 := Lib.hid (HB1.out.trans (hb2.mono HB1.out.size))
      clear hb2
      go_wp2_with fail
      go_ret
      exact ⟨rfl, HB2.out⟩
    · go_enter Try.func121, Try.ntmps121
      go_wp2_with fail
      refine (validNeedle_any fb fa _).mono ?_
      rintro e w1 ⟨rfl, hb1⟩
      rw [h1]
      have HB1 := Lib.hid (show Below w.heap.size w w1 from by (repeat' first | with_reducible exact Below.refl _ _ | with_reducible refine Below.alloc ?_ ?_ _ | with_reducible refine Below.setCell ?_ ?_ _ | with_reducible refine Below.drew ?_ | with_reducible refine Below.drewN' ?_ _ | with_reducible (refine Below.trans ?_ (Below.mono (by assumption) ?_)) | exact Nat.le_refl _ | (simp; done) | (simp; omega) | omega))
      have X1 := Lib.hid (Blk.below ((Blk.at_ w 37 #[.int .i64 fb, .int .i64 fa] rfl).alloc _) hb1 (by first | (simp; done) | (simp; omega)))
      have Y1 := Lib.hid (Blk.below (Blk.at_ (g' := w.heap.size + 1) _ 37 #[.int .i64 tb, .int .i64 ta] (by simp)) hb1 (by first | (simp; done) | (simp; omega)))
      have x1 := fun o => X1.out.cell o
      have y1 := fun o => Y1.out.cell o
      have z1 := X1.out.lt
      have z2 := Y1.out.lt
      clear hb1
      go_wp2_with fail
      refine (validNeedle_any tb ta _).mono ?_
      rintro e w2 ⟨rfl, hb2⟩
      rw [h2]
      have HB2 := Lib.hid (HB1.out.trans (hb2.mono HB1.out.size))
      have x2 := fun o => (X1.out.below hb2 z1).cell o
      have y2 := fun o => (Y1.out.below hb2 z2).cell o
      clear hb2 x1 y1
      go_wp2_with fail
      all_goals go_ret
      all_goals exact ⟨congrArg (fun x => Ending.returned (.bool x)) (by rfl), HB2.out⟩

set_option maxHeartbeats 4000000 in
theorem implValidOp1_any (k d fb fa tb ta c r : Int) (hk : k = 1 ∨ k = 2 ∨ k = 3) (w : World) : Calls Try.prog 111 #[.agg #[.int .i64 k, .int .i64 d, .int .i64 fb, .int .i64 fa, .int .i64 tb, .int .i64 ta, .int .i64 c, .int .i64 r]] w fun e w' => e = .returned (.bool (opB k d fb fa tb ta c r)) ∧ Below w.heap.size w w' := by
  rcases hk with rfl | rfl | rfl
  all_goals
    go_enter Try.func111, Try.ntmps111
    go_wp2_with (first | (go_at_call 119; refine (isDir_any _ _).mono ?_; rintro e w' ⟨rfl, rfl⟩) | (go_at_call 49; refine (isCarrier_any _ _).mono ?_; rintro e w' ⟨rfl, rfl⟩) | (go_at_call 122; refine (isRack_any _ _).mono ?_; rintro e w' ⟨rfl, rfl⟩) | (go_at_call 120; refine (validNeedle_any _ _ _).mono ?_; rintro e w1 ⟨rfl, hb1⟩; have x1 := fun o => (Blk.below (Blk.at_ w 58 _ rfl) hb1 (by first | (simp; done) | (simp; omega))).cell o) | (go_at_call 121; refine (isPair_any _ _ _ _ _).mono ?_; rintro e w1 ⟨rfl, hb1⟩; have x1 := fun o => (Blk.below (Blk.at_ w 58 _ rfl) hb1 (by first | (simp; done) | (simp; omega))).cell o))
    all_goals go_ret
    all_goals exact ⟨congrArg (fun x => Ending.returned (.bool x)) (by first | rfl | (simp_all [opB]; done) | (simp_all [opB]; intro a b e; exact absurd ((by assumption : _ → _ → _) a b) e)), by (repeat' first | with_reducible exact Below.refl _ _ | with_reducible refine Below.alloc ?_ ?_ _ | with_reducible refine Below.setCell ?_ ?_ _ | with_reducible refine Below.drew ?_ | with_reducible refine Below.drewN' ?_ _ | with_reducible (refine Below.trans ?_ (Below.mono (by assumption) ?_)) | exact Nat.le_refl _ | (simp; done) | (simp; omega) | omega)⟩
set_option maxHeartbeats 4000000 in
theorem implValidOp4_any (k d fb fa tb ta c r : Int) (hk : k = 4) (w : World) : Calls Try.prog 111 #[.agg #[.int .i64 k, .int .i64 d, .int .i64 fb, .int .i64 fa, .int .i64 tb, .int .i64 ta, .int .i64 c, .int .i64 r]] w fun e w' => e = .returned (.bool (opB k d fb fa tb ta c r)) ∧ Below w.heap.size w w' := by
  subst hk
  go_enter Try.func111, Try.ntmps111
  go_wp2_with (first | (go_at_call 119; refine (isDir_any _ _).mono ?_; rintro e w' ⟨rfl, rfl⟩) | (go_at_call 49; refine (isCarrier_any _ _).mono ?_; rintro e w' ⟨rfl, rfl⟩) | (go_at_call 122; refine (isRack_any _ _).mono ?_; rintro e w' ⟨rfl, rfl⟩) | (go_at_call 120; refine (validNeedle_any _ _ _).mono ?_; rintro e w1 ⟨rfl, hb1⟩; have x1 := fun o => (Blk.below (Blk.at_ w 58 _ rfl) hb1 (by first | (simp; done) | (simp; omega))).cell o) | (go_at_call 121; refine (isPair_any _ _ _ _ _).mono ?_; rintro e w1 ⟨rfl, hb1⟩; have x1 := fun o => (Blk.below (Blk.at_ w 58 _ rfl) hb1 (by first | (simp; done) | (simp; omega))).cell o))
  all_goals go_ret
  all_goals exact ⟨congrArg (fun x => Ending.returned (.bool x)) (by first | rfl | (simp_all [opB]; done) | (simp_all [opB]; intro a b e; exact absurd ((by assumption : _ → _ → _) a b) e)), by (repeat' first | with_reducible exact Below.refl _ _ | with_reducible refine Below.alloc ?_ ?_ _ | with_reducible refine Below.setCell ?_ ?_ _ | with_reducible refine Below.drew ?_ | with_reducible refine Below.drewN' ?_ _ | with_reducible (refine Below.trans ?_ (Below.mono (by assumption) ?_)) | exact Nat.le_refl _ | (simp; done) | (simp; omega) | omega)⟩
set_option maxHeartbeats 4000000 in
theorem implValidOp5_any (k d fb fa tb ta c r : Int) (hk : k = 5) (w : World) : Calls Try.prog 111 #[.agg #[.int .i64 k, .int .i64 d, .int .i64 fb, .int .i64 fa, .int .i64 tb, .int .i64 ta, .int .i64 c, .int .i64 r]] w fun e w' => e = .returned (.bool (opB k d fb fa tb ta c r)) ∧ Below w.heap.size w w' := by
  subst hk
  go_enter Try.func111, Try.ntmps111
  go_wp2_with (first | (go_at_call 119; refine (isDir_any _ _).mono ?_; rintro e w' ⟨rfl, rfl⟩) | (go_at_call 49; refine (isCarrier_any _ _).mono ?_; rintro e w' ⟨rfl, rfl⟩) | (go_at_call 122; refine (isRack_any _ _).mono ?_; rintro e w' ⟨rfl, rfl⟩) | (go_at_call 120; refine (validNeedle_any _ _ _).mono ?_; rintro e w1 ⟨rfl, hb1⟩; have x1 := fun o => (Blk.below (Blk.at_ w 58 _ rfl) hb1 (by first | (simp; done) | (simp; omega))).cell o) | (go_at_call 121; refine (isPair_any _ _ _ _ _).mono ?_; rintro e w1 ⟨rfl, hb1⟩; have x1 := fun o => (Blk.below (Blk.at_ w 58 _ rfl) hb1 (by first | (simp; done) | (simp; omega))).cell o))
  all_goals go_ret
  all_goals exact ⟨congrArg (fun x => Ending.returned (.bool x)) (by first | rfl | (simp_all [opB]; done) | (simp_all [opB]; intro a b e; exact absurd ((by assumption : _ → _ → _) a b) e)), by (repeat' first | with_reducible exact Below.refl _ _ | with_reducible refine Below.alloc ?_ ?_ _ | with_reducible refine Below.setCell ?_ ?_ _ | with_reducible refine Below.drew ?_ | with_reducible refine Below.drewN' ?_ _ | with_reducible (refine Below.trans ?_ (Below.mono (by assumption) ?_)) | exact Nat.le_refl _ | (simp; done) | (simp; omega) | omega)⟩
set_option maxHeartbeats 4000000 in
theorem implValidOp6_any (k d fb fa tb ta c r : Int) (hk : k = 6) (w : World) : Calls Try.prog 111 #[.agg #[.int .i64 k, .int .i64 d, .int .i64 fb, .int .i64 fa, .int .i64 tb, .int .i64 ta, .int .i64 c, .int .i64 r]] w fun e w' => e = .returned (.bool (opB k d fb fa tb ta c r)) ∧ Below w.heap.size w w' := by
  subst hk
  go_enter Try.func111, Try.ntmps111
  go_wp2_with (first | (go_at_call 119; refine (isDir_any _ _).mono ?_; rintro e w' ⟨rfl, rfl⟩) | (go_at_call 49; refine (isCarrier_any _ _).mono ?_; rintro e w' ⟨rfl, rfl⟩) | (go_at_call 122; refine (isRack_any _ _).mono ?_; rintro e w' ⟨rfl, rfl⟩) | (go_at_call 120; refine (validNeedle_any _ _ _).mono ?_; rintro e w1 ⟨rfl, hb1⟩; have x1 := fun o => (Blk.below (Blk.at_ w 58 _ rfl) hb1 (by first | (simp; done) | (simp; omega))).cell o) | (go_at_call 121; refine (isPair_any _ _ _ _ _).mono ?_; rintro e w1 ⟨rfl, hb1⟩; have x1 := fun o => (Blk.below (Blk.at_ w 58 _ rfl) hb1 (by first | (simp; done) | (simp; omega))).cell o))
  all_goals go_ret
  all_goals exact ⟨congrArg (fun x => Ending.returned (.bool x)) (by first | rfl | (simp_all [opB]; done) | (simp_all [opB]; intro a b e; exact absurd ((by assumption : _ → _ → _) a b) e)), by (repeat' first | with_reducible exact Below.refl _ _ | with_reducible refine Below.alloc ?_ ?_ _ | with_reducible refine Below.setCell ?_ ?_ _ | with_reducible refine Below.drew ?_ | with_reducible refine Below.drewN' ?_ _ | with_reducible (refine Below.trans ?_ (Below.mono (by assumption) ?_)) | exact Nat.le_refl _ | (simp; done) | (simp; omega) | omega)⟩
set_option maxHeartbeats 4000000 in
theorem implValidOp7_any (k d fb fa tb ta c r : Int) (hk : k = 7) (w : World) : Calls Try.prog 111 #[.agg #[.int .i64 k, .int .i64 d, .int .i64 fb, .int .i64 fa, .int .i64 tb, .int .i64 ta, .int .i64 c, .int .i64 r]] w fun e w' => e = .returned (.bool (opB k d fb fa tb ta c r)) ∧ Below w.heap.size w w' := by
  subst hk
  go_enter Try.func111, Try.ntmps111
  go_wp2_with (first | (go_at_call 119; refine (isDir_any _ _).mono ?_; rintro e w' ⟨rfl, rfl⟩) | (go_at_call 49; refine (isCarrier_any _ _).mono ?_; rintro e w' ⟨rfl, rfl⟩) | (go_at_call 122; refine (isRack_any _ _).mono ?_; rintro e w' ⟨rfl, rfl⟩) | (go_at_call 120; refine (validNeedle_any _ _ _).mono ?_; rintro e w1 ⟨rfl, hb1⟩; have x1 := fun o => (Blk.below (Blk.at_ w 58 _ rfl) hb1 (by first | (simp; done) | (simp; omega))).cell o) | (go_at_call 121; refine (isPair_any _ _ _ _ _).mono ?_; rintro e w1 ⟨rfl, hb1⟩; have x1 := fun o => (Blk.below (Blk.at_ w 58 _ rfl) hb1 (by first | (simp; done) | (simp; omega))).cell o))
  all_goals go_ret
  all_goals exact ⟨congrArg (fun x => Ending.returned (.bool x)) (by first | rfl | (simp_all [opB]; done) | (simp_all [opB]; intro a b e; exact absurd ((by assumption : _ → _ → _) a b) e)), by (repeat' first | with_reducible exact Below.refl _ _ | with_reducible refine Below.alloc ?_ ?_ _ | with_reducible refine Below.setCell ?_ ?_ _ | with_reducible refine Below.drew ?_ | with_reducible refine Below.drewN' ?_ _ | with_reducible (refine Below.trans ?_ (Below.mono (by assumption) ?_)) | exact Nat.le_refl _ | (simp; done) | (simp; omega) | omega)⟩
set_option maxHeartbeats 4000000 in
theorem implValidOp8_any (k d fb fa tb ta c r : Int) (hk : k = 8) (w : World) : Calls Try.prog 111 #[.agg #[.int .i64 k, .int .i64 d, .int .i64 fb, .int .i64 fa, .int .i64 tb, .int .i64 ta, .int .i64 c, .int .i64 r]] w fun e w' => e = .returned (.bool (opB k d fb fa tb ta c r)) ∧ Below w.heap.size w w' := by
  subst hk
  go_enter Try.func111, Try.ntmps111
  go_wp2_with (first | (go_at_call 119; refine (isDir_any _ _).mono ?_; rintro e w' ⟨rfl, rfl⟩) | (go_at_call 49; refine (isCarrier_any _ _).mono ?_; rintro e w' ⟨rfl, rfl⟩) | (go_at_call 122; refine (isRack_any _ _).mono ?_; rintro e w' ⟨rfl, rfl⟩) | (go_at_call 120; refine (validNeedle_any _ _ _).mono ?_; rintro e w1 ⟨rfl, hb1⟩; have x1 := fun o => (Blk.below (Blk.at_ w 58 _ rfl) hb1 (by first | (simp; done) | (simp; omega))).cell o) | (go_at_call 121; refine (isPair_any _ _ _ _ _).mono ?_; rintro e w1 ⟨rfl, hb1⟩; have x1 := fun o => (Blk.below (Blk.at_ w 58 _ rfl) hb1 (by first | (simp; done) | (simp; omega))).cell o))
  all_goals go_ret
  all_goals exact ⟨congrArg (fun x => Ending.returned (.bool x)) (by first | rfl | (simp_all [opB]; done) | (simp_all [opB]; intro a b e; exact absurd ((by assumption : _ → _ → _) a b) e)), by (repeat' first | with_reducible exact Below.refl _ _ | with_reducible refine Below.alloc ?_ ?_ _ | with_reducible refine Below.setCell ?_ ?_ _ | with_reducible refine Below.drew ?_ | with_reducible refine Below.drewN' ?_ _ | with_reducible (refine Below.trans ?_ (Below.mono (by assumption) ?_)) | exact Nat.le_refl _ | (simp; done) | (simp; omega) | omega)⟩
set_option maxHeartbeats 4000000 in
theorem implValidOp9_any (k d fb fa tb ta c r : Int) (hk : k = 9) (w : World) : Calls Try.prog 111 #[.agg #[.int .i64 k, .int .i64 d, .int .i64 fb, .int .i64 fa, .int .i64 tb, .int .i64 ta, .int .i64 c, .int .i64 r]] w fun e w' => e = .returned (.bool (opB k d fb fa tb ta c r)) ∧ Below w.heap.size w w' := by
  subst hk
  go_enter Try.func111, Try.ntmps111
  go_wp2_with (first | (go_at_call 119; refine (isDir_any _ _).mono ?_; rintro e w' ⟨rfl, rfl⟩) | (go_at_call 49; refine (isCarrier_any _ _).mono ?_; rintro e w' ⟨rfl, rfl⟩) | (go_at_call 122; refine (isRack_any _ _).mono ?_; rintro e w' ⟨rfl, rfl⟩) | (go_at_call 120; refine (validNeedle_any _ _ _).mono ?_; rintro e w1 ⟨rfl, hb1⟩; have x1 := fun o => (Blk.below (Blk.at_ w 58 _ rfl) hb1 (by first | (simp; done) | (simp; omega))).cell o) | (go_at_call 121; refine (isPair_any _ _ _ _ _).mono ?_; rintro e w1 ⟨rfl, hb1⟩; have x1 := fun o => (Blk.below (Blk.at_ w 58 _ rfl) hb1 (by first | (simp; done) | (simp; omega))).cell o))
  all_goals go_ret
  all_goals exact ⟨congrArg (fun x => Ending.returned (.bool x)) (by first | rfl | (simp_all [opB]; done) | (simp_all [opB]; intro a b e; exact absurd ((by assumption : _ → _ → _) a b) e)), by (repeat' first | with_reducible exact Below.refl _ _ | with_reducible refine Below.alloc ?_ ?_ _ | with_reducible refine Below.setCell ?_ ?_ _ | with_reducible refine Below.drew ?_ | with_reducible refine Below.drewN' ?_ _ | with_reducible (refine Below.trans ?_ (Below.mono (by assumption) ?_)) | exact Nat.le_refl _ | (simp; done) | (simp; omega) | omega)⟩
theorem implValidOp_any (k d fb fa tb ta c r : Int) (w : World) : Calls Try.prog 111 #[.agg #[.int .i64 k, .int .i64 d, .int .i64 fb, .int .i64 fa, .int .i64 tb, .int .i64 ta, .int .i64 c, .int .i64 r]] w fun e w' => e = .returned (.bool (opB k d fb fa tb ta c r)) ∧ Below w.heap.size w w' := by
  by_cases h1 : k = 1 ∨ k = 2 ∨ k = 3
  · exact implValidOp1_any k d fb fa tb ta c r h1 w
  by_cases h4 : k = 4
  · exact implValidOp4_any k d fb fa tb ta c r h4 w
  by_cases h5 : k = 5
  · exact implValidOp5_any k d fb fa tb ta c r h5 w
  by_cases h6 : k = 6
  · exact implValidOp6_any k d fb fa tb ta c r h6 w
  by_cases h7 : k = 7
  · exact implValidOp7_any k d fb fa tb ta c r h7 w
  by_cases h8 : k = 8
  · exact implValidOp8_any k d fb fa tb ta c r h8 w
  by_cases h9 : k = 9
  · exact implValidOp9_any k d fb fa tb ta c r h9 w
  have e0 : opB k d fb fa tb ta c r = false := by simp [opB, h1, h4, h5, h6, h7, h8, h9]
  simp only [not_or] at h1
  obtain ⟨h1, h2, h3⟩ := h1
  rw [e0]
  go_enter Try.func111, Try.ntmps111
  go_wp2
  all_goals go_ret
  all_goals exact ⟨rfl, by (repeat' first | with_reducible exact Below.refl _ _ | with_reducible refine Below.alloc ?_ ?_ _ | with_reducible refine Below.setCell ?_ ?_ _ | with_reducible refine Below.drew ?_ | with_reducible refine Below.drewN' ?_ _ | with_reducible (refine Below.trans ?_ (Below.mono (by assumption) ?_)) | exact Nat.le_refl _ | (simp; done) | (simp; omega) | omega)⟩
end Go.Proofs.Ytpmfkpehmckgmaa
