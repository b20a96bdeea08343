/- Walks: the line of a valid event and the strands behind it, by the reference. No condition but the bounds. -/
import Derived.Test.YtpgmkkepbnonmaaEventMarks
import Derived.Test.YtpgmkkepbnonmaaQuietTail
import Derived.Deep.RegionHeld3
namespace Go.Proofs.Ytpgmkkepbnonmaa
open Go.RowKit
set_option maxRecDepth 20000

/-- A line and a count, all in new memory. -/
def LineP (s : ByteArray) (a : Int) (w : World) (e : Ending) (w' : World) : Prop := e = .returned (.tuple #[.string s, .int .i64 a]) ∧ Below w.heap.size w w'
theorem evAt_below {w w' : World} {g o : Nat} {k p c b y d : Int} (h : EvAt w g o k p c b y d) (hb : Below w.heap.size w w') : EvAt w' g o k p c b y d := by
  have hg : g < w.heap.size := World.block_lt_of_cell? w _ h.c0
  have hc := (bcell hb).1
  exact ⟨(hc _ _ hg).trans h.c0, (hc _ _ hg).trans h.c1, (hc _ _ hg).trans h.c2, (hc _ _ hg).trans h.c3, (hc _ _ hg).trans h.c4, (hc _ _ hg).trans h.c5⟩
theorem evAt_fr {w w' : World} {g o : Nat} {k p c b y d : Int} {F : Nat → Prop} (h : EvAt w g o k p c b y d) (hf : Fr w w' F) (hF : ¬ F g) : EvAt w' g o k p c b y d := by
  have hg : g < w.heap.size := World.block_lt_of_cell? w _ h.c0
  have hc : ∀ o, w'.cell? ⟨g, o, none⟩ = w.cell? ⟨g, o, none⟩ := fun o => World.cell?_of_block (hf.block g hg hF)
  exact ⟨(hc _).trans h.c0, (hc _).trans h.c1, (hc _).trans h.c2, (hc _).trans h.c3, (hc _).trans h.c4, (hc _).trans h.c5⟩
theorem new_row {w w' : World} {A : Option Addr} {N : Nat} {f : Nat → Value} (hp : New w w' A N f) (hN : 0 < N) : ∃ g o, A = some ⟨g, o, none⟩ ∧ w.heap.size ≤ g ∧ g < w'.heap.size ∧ RowR w' g o N f ∧ RowW w' g o N := by
  obtain ⟨g, o, e, hg, hr⟩ := hp.rd hN
  obtain ⟨g', o', e', hw⟩ := hp.wr hN
  rw [e] at e'
  injection e' with e'
  injection e' with e1 e2
  subst e1 e2
  exact ⟨g, o, e, hp.ab _ e, hg, hr, hw⟩

set_option maxHeartbeats 2000000 in
theorem l30Event1_any (g o p n : Nat) (c b y d : Int) (w : World) (H : Hid (EvAt w g o 1 p c b y d)) (hp : p + 2 ≤ n) (hn : n ≤ 4096) :
    Calls Try.prog 41 #[.pointer (some ⟨g, o, none⟩), .int .i64 n] w (LineP (strF (2 * n - 1) (crossZ lineZ p (decide (0 < c)))) n w) := by
  have a0 := H.out.c0
  go_enter Try.func41, Try.ntmps41
  go_wp2_with fail
  refine (l30Strands_any n _ hn).mono ?_
  rintro e w1 ⟨A1, c1, rfl, hp1⟩
  obtain ⟨g1, o1, rfl, hg, hg1, hr1, hw1⟩ := new_row hp1 (by omega)
  have HE := Lib.hid (evAt_below H.out hp1.bl)
  have HR := Lib.hid hr1
  have HW := Lib.hid hw1
  have HB := Lib.hid hp1.bl
  clear hr1 hw1 hp1 a0
  have a1 := HE.out.c1
  have a2 := HE.out.c2
  go_wp2_with fail
  refine wp_region_quiet_tail (C := fun w' => ∃ n, w' = World.drewN _ n) 10 (by kernel_rfl) (by kernel_rfl) ⟨1, rfl⟩ ?_
  simp only [List.take_succ_cons, List.take_zero, List.drop_succ_cons, List.drop_zero]
  repeat (quiet_step (fail))
  refine wpQuiet_nil ?_
  intro _ hw'
  obtain ⟨nq, rfl⟩ := hw'
  go_wp2_with fail
  refine (l30Cross_any g1 o1 (2 * n - 1) c1 p lineZ (decide (0 < c)) (w1.drewN nq) HW.out HR.out (by omega) (by omega)).mono ?_
  rintro e w4 ⟨rfl, hf4, hw4, hr4⟩
  have hb4 : Below w.heap.size w w4 := (Below.drewN' HB.out nq).trans (hf4.below HB.out.size fun b hb => hb ▸ hg)
  have HB4 := Lib.hid hb4
  have kc := conv_rd (c := c1) (A := some ⟨g1, o1, none⟩) (fun _ => ⟨g1, o1, rfl, hw4.lt (by omega), hr4⟩)
  clear hb4 hw4 hr4 hf4
  go_wp2
  go_ret2
  exact ⟨rfl, HB4.out⟩

set_option maxHeartbeats 2000000 in
theorem l30Event4_any (g o p n q : Nat) (b y d : Int) (w : World) (H : Hid (EvAt w g o 4 p q b y d)) (hp : p + q ≤ n) (hn : n ≤ 500) (hq : 0 < q) :
    Calls Try.prog 41 #[.pointer (some ⟨g, o, none⟩), .int .i64 n] w (LineP (strF (2 * n - 1) (markZ lineZ p q 68)) (n - q) w) := by
  have a0 := H.out.c0
  go_enter Try.func41, Try.ntmps41
  go_wp2_with fail
  refine (l30Strands_any n _ (by omega)).mono ?_
  rintro e w1 ⟨A1, c1, rfl, hp1⟩
  obtain ⟨g1, o1, rfl, hg, hg1, hr1, hw1⟩ := new_row hp1 (by omega)
  have HE := Lib.hid (evAt_below H.out hp1.bl)
  have HR := Lib.hid hr1
  have HW := Lib.hid hw1
  have HB := Lib.hid hp1.bl
  clear hr1 hw1 hp1 a0
  have a1 := HE.out.c1
  have a2 := HE.out.c2
  have hgg : g ≠ g1 := fun e => by have := World.block_lt_of_cell? w _ H.out.c0; simp at this; omega
  have HGG := Lib.hid hgg
  clear hgg
  go_wp2_with fail
  refine wp_region_quiet_tail (C := fun w' => ∃ n, w' = World.drewN _ n) 9 (by kernel_rfl) (by kernel_rfl) ⟨1, rfl⟩ ?_
  simp only [List.take_succ_cons, List.take_zero, List.drop_succ_cons, List.drop_zero]
  repeat (quiet_step (fail))
  refine wpQuiet_nil ?_
  intro _ hw'
  obtain ⟨nq, rfl⟩ := hw'
  go_wp2_with fail
  refine (l30Mark_any g1 o1 (2 * n - 1) c1 p q lineZ 68 (w1.drewN nq) HW.out HR.out (by omega) (by omega) (by omega)).mono ?_
  rintro e w4 ⟨rfl, hf4, hw4, hr4⟩
  have hb4 : Below w.heap.size w w4 := (Below.drewN' HB.out nq).trans (hf4.below HB.out.size fun b hb => hb ▸ hg)
  have HB4 := Lib.hid hb4
  have a2 := (evAt_fr (w := w1.drewN nq) ⟨HE.out.c0, HE.out.c1, HE.out.c2, HE.out.c3, HE.out.c4, HE.out.c5⟩ hf4 (fun e => HGG.out e)).c2
  have kc := fun m => conv_rd (W := w4.drewN m) (c := c1) (A := some ⟨g1, o1, none⟩) (fun _ => ⟨g1, o1, rfl, hw4.lt (by omega), hr4⟩)
  have s1 : IntKind.i64.wrap ((n : Int) - q) = n - q := IntWalk.i64_in _ (by omega)
  clear hb4 hw4 hr4 hf4
  go_wp2
  go_quiet (fail)
  go_wp2
  go_ret2
  exact ⟨rfl, Below.drewN' HB4.out _⟩

set_option maxHeartbeats 2000000 in
theorem l30Event35_any (g o p n : Nat) (k c b y d : Int) (w : World) (H : Hid (EvAt w g o k p c b y d)) (hk : k = 3 ∨ k = 5) (hp : p ≤ n) (hn : n ≤ 500) :
    Calls Try.prog 41 #[.pointer (some ⟨g, o, none⟩), .int .i64 n] w (LineP (strF (2 * (n + 1) - 1) (markZ lineZ p 1 (if k = 3 then 85 else 83))) (n + 1) w) := by
  have a0 := H.out.c0
  rcases hk with rfl | rfl
  all_goals
    go_enter Try.func41, Try.ntmps41
    go_wp2_with fail
    refine (l30Strands_any (n + 1) _ (by omega)).mono ?_
    rintro e w1 ⟨A1, c1, rfl, hp1⟩
    obtain ⟨g1, o1, rfl, hg, hg1, hr1, hw1⟩ := new_row hp1 (by omega)
    have HE := Lib.hid (evAt_below H.out hp1.bl)
    have HR := Lib.hid hr1
    have HW := Lib.hid hw1
    have HB := Lib.hid hp1.bl
    clear hr1 hw1 hp1 a0
    have a0 := HE.out.c0
    have a1 := HE.out.c1
    go_wp2_with fail
    refine (l30Mark_any g1 o1 (2 * (n + 1) - 1) c1 p 1 lineZ _ w1 HW.out HR.out (by omega) (by omega) (by omega)).mono ?_
    rintro e w4 ⟨rfl, hf4, hw4, hr4⟩
    have hb4 : Below w.heap.size w w4 := HB.out.trans (hf4.below HB.out.size fun b hb => hb ▸ hg)
    have HB4 := Lib.hid hb4
    have kc := conv_rd (c := c1) (A := some ⟨g1, o1, none⟩) (fun _ => ⟨g1, o1, rfl, hw4.lt (by omega), hr4⟩)
    clear hb4 hw4 hr4 hf4
    go_wp2
    go_ret2
    exact ⟨rfl, HB4.out⟩

set_option maxHeartbeats 2000000 in
theorem l30Event2_any (g o p n q m r : Nat) (b y d : Int) (w : World) (H : Hid (EvAt w g o 2 p q b y d)) (hp : p + q ≤ n) (hn : n ≤ 500) (hm : (m : Int) = max 1 (q : Int)) (hr : (n : Int) + m - q = r) :
    Calls Try.prog 41 #[.pointer (some ⟨g, o, none⟩), .int .i64 n] w (LineP (strF (2 * r - 1) (markZ lineZ p m (if b = 2 then 45 else 86))) (n + 1 - q) w) := by
  have a0 := H.out.c0
  have a2 := H.out.c2
  have a3 := H.out.c3
  have hm1 : 1 ≤ m := by omega
  have hm2 : m ≤ 501 := by omega
  have hr1 : p + m ≤ r := by omega
  have hr2 : r ≤ 1002 := by omega
  have HM := Lib.hid hm
  have HR0 := Lib.hid hr
  clear hm hr
  by_cases hb2 : b = 2
  all_goals
    go_enter Try.func41, Try.ntmps41
    go_wp2_with fail
    refine (l00Max_any 1 q _).mono ?_
    rintro e w' ⟨rfl, rfl⟩
    rw [← HM.out]
    have hm3 : (m : Int) ≤ 501 := by omega
    have s0 : IntKind.i64.wrap ((n : Int) + m) = n + m := IntWalk.i64_in _ (by omega)
    go_wp2_with fail
    clear s0
    have hr := HR0.out
    rw [hr]
    clear hr
    refine (l30Strands_any r _ (by omega)).mono ?_
    rintro e w1 ⟨A1, c1, rfl, hp1⟩
    obtain ⟨g1, o1, rfl, hg, hg1, hr1, hw1⟩ := new_row hp1 (by omega)
    have HE := Lib.hid (evAt_below H.out hp1.bl)
    have HR := Lib.hid hr1
    have HW := Lib.hid hw1
    have HB := Lib.hid hp1.bl
    clear hr1 hw1 hp1 a0 a2 a3
    have a1 := HE.out.c1
    have hgg : g ≠ g1 := fun e => by have := World.block_lt_of_cell? w _ H.out.c0; simp at this; omega
    have HGG := Lib.hid hgg
    clear hgg
    go_wp2_with fail
    refine (l30Mark_any g1 o1 (2 * r - 1) c1 p m lineZ _ w1 HW.out HR.out (by omega) (by omega) (by omega)).mono ?_
    rintro e w4 ⟨rfl, hf4, hw4, hr4⟩
    have hb4 : Below w.heap.size w w4 := HB.out.trans (hf4.below HB.out.size fun b hb => hb ▸ hg)
    have HB4 := Lib.hid hb4
    have a2 := (evAt_fr (w := w1) HE.out hf4 (fun e => HGG.out e)).c2
    have kc := fun m => conv_rd (W := w4.drewN m) (c := c1) (A := some ⟨g1, o1, none⟩) (fun _ => ⟨g1, o1, rfl, hw4.lt (by omega), hr4⟩)
    have s1 : IntKind.i64.wrap ((n : Int) + 1) = n + 1 := IntWalk.i64_in _ (by omega)
    have s2 : IntKind.i64.wrap ((n : Int) + 1 - q) = n + 1 - q := IntWalk.i64_in _ (by omega)
    clear hb4 hw4 hr4 hf4
    go_wp2
    go_quiet (fail)
    go_wp2
    go_ret2
    exact ⟨rfl, Below.drewN' HB4.out _⟩
end Go.Proofs.Ytpgmkkepbnonmaa
