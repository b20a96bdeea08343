/- What the walks of the reference's test of an operation want: its cells, the callees' contracts behind draws and new blocks. -/
import Derived.Test.YtpmfkpehmckgmaaOpsList
import Derived.Shelf.SlSortCmp.QuietGrown
import Derived.Deep.CutRange
namespace Go.Proofs.Ytpmfkpehmckgmaa
open Go.RowKit Go.Sort
set_option maxRecDepth 20000

theorem below_grown {B : Nat} {w W : World} (h : Below B w W) (hB : B ≤ W.heap.size) (n : Nat) (os : Array Obj) : Below B w (grow (W.drewN n) os) := by
  have h' := Below.drewN' h n
  refine ⟨h'.os, h'.tape, h'.output, ?_, fun k hk => ?_⟩
  · have := h.size
    simp [grow]
    omega
  · have hk' : k < W.heap.size := by omega
    refine Eq.trans ?_ (h'.block k hk)
    show (W.heap ++ os)[k]? = W.heap[k]?
    rw [Array.getElem?_append_left hk']
/-- The operation at ⟨g, o⟩. -/
structure OpAt (w : World) (g o : Nat) (k d fb fa tb ta c r : Int) : Prop where
  c0 : w.cell? ⟨g, o, none⟩ = some (.int .i64 k)
  c1 : w.cell? ⟨g, o + 1, none⟩ = some (.int .i64 d)
  c2 : w.cell? ⟨g, o + 2, none⟩ = some (.int .i64 fb)
  c3 : w.cell? ⟨g, o + 3, none⟩ = some (.int .i64 fa)
  c4 : w.cell? ⟨g, o + 4, none⟩ = some (.int .i64 tb)
  c5 : w.cell? ⟨g, o + 5, none⟩ = some (.int .i64 ta)
  c6 : w.cell? ⟨g, o + 6, none⟩ = some (.int .i64 c)
  c7 : w.cell? ⟨g, o + 7, none⟩ = some (.int .i64 r)
theorem OpAt.lt {w : World} {g o : Nat} {k d fb fa tb ta c r : Int} (h : OpAt w g o k d fb fa tb ta c r) : g < w.heap.size := World.block_lt_of_cell? w _ h.c0
theorem OpAt.below {w w' : World} {g o : Nat} {k d fb fa tb ta c r : Int} (h : OpAt w g o k d fb fa tb ta c r) (hb : Below w.heap.size w w') : OpAt w' g o k d fb fa tb ta c r :=
  ⟨at_below' hb h.lt h.c0, at_below' hb h.lt h.c1, at_below' hb h.lt h.c2, at_below' hb h.lt h.c3, at_below' hb h.lt h.c4, at_below' hb h.lt h.c5, at_below' hb h.lt h.c6, at_below' hb h.lt h.c7⟩
theorem l01Needle_g (b a : Int) (w : World) (n : Nat) (os : Array Obj) : Calls Try.prog 105 #[.agg #[.int .i64 b, .int .i64 a]] (grow (w.drewN n) os) fun e w' => e = .returned (.bool (ndB b a)) ∧ ∃ q os', w' = grow ((grow (w.drewN n) os).drewN q) os' := by
  go_enter Try.func105, Try.ntmps105
  go_wp2_with (first | (go_at_call 117; refine (l01Bed_any _ _).mono ?_; rintro e w' ⟨rfl, rfl⟩) | (go_at_call 51; refine (l00In_any _ _ _ _).mono ?_; rintro e w' ⟨rfl, rfl⟩))
  all_goals go_ret
  all_goals exact ⟨congrArg (fun x => Ending.returned (.bool x)) (by simp_all [ndB]), 0, #[_], rfl⟩
theorem l07Dir_g (d : Int) (w : World) (n : Nat) (os : Array Obj) : Calls Try.prog 104 #[.int .i64 d] (grow (w.drewN n) os) fun e w' => e = .returned (.bool (dirB d)) ∧ ∃ q os', w' = grow ((grow (w.drewN n) os).drewN q) os' :=
  (l07Dir_any d _).mono fun _ _ h => ⟨h.1, 0, #[], by rw [← h.2, grow_empty]; rfl⟩
theorem l07Yarn_g (c : Int) (w : World) (n : Nat) (os : Array Obj) : Calls Try.prog 48 #[.int .i64 c] (grow (w.drewN n) os) fun e w' => e = .returned (.bool (inB c 1 4)) ∧ ∃ q os', w' = grow ((grow (w.drewN n) os).drewN q) os' :=
  (l07Yarn_any c _).mono fun _ _ h => ⟨h.1, 0, #[], by rw [← h.2, grow_empty]; rfl⟩
theorem l00In_g (x lo hi : Int) (w : World) (n : Nat) (os : Array Obj) : Calls Try.prog 51 #[.int .i64 x, .int .i64 lo, .int .i64 hi] (grow (w.drewN n) os) fun e w' => e = .returned (.bool (inB x lo hi)) ∧ ∃ q os', w' = grow ((grow (w.drewN n) os).drewN q) os' :=
  (l00In_any x lo hi _).mono fun _ _ h => ⟨h.1, 0, #[], by rw [← h.2, grow_empty]; rfl⟩
theorem l07Dir_q (d : Int) (w : World) : Calls Try.prog 104 #[.int .i64 d] w fun e w' => e = .returned (.bool (dirB d)) ∧ w' = w := (l07Dir_any d w).mono fun _ _ h => ⟨h.1, h.2.symm⟩
theorem l07Yarn_q (c : Int) (w : World) : Calls Try.prog 48 #[.int .i64 c] w fun e w' => e = .returned (.bool (inB c 1 4)) ∧ w' = w := (l07Yarn_any c w).mono fun _ _ h => ⟨h.1, h.2.symm⟩
theorem l00In_q2 (x lo hi : Int) (w : World) : Calls Try.prog 51 #[.int .i64 x, .int .i64 lo, .int .i64 hi] w fun e w' => e = .returned (.bool (inB x lo hi)) ∧ w' = w := (l00In_any x lo hi w).mono fun _ _ h => ⟨h.1, h.2.symm⟩
end Go.Proofs.Ytpmfkpehmckgmaa
