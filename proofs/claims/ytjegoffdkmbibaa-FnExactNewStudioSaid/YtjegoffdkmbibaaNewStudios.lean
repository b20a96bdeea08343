/- Walks: both NewStudio; the law over them: it returns true. No condition. -/
import Derived.Test.YtjegoffdkmbibaaBraidLaw
import Derived.Test.YtjegoffdkmbibaaOpLaw
namespace Go.Proofs.Ytjegoffdkmbibaa
open Go.RowKit
set_option maxRecDepth 20000

theorem eqRowS_nil (w : World) :
    Calls Try.prog 64 #[.slice none 0 0, .slice none 0 0] w fun e w' => e = .returned (.bool true) ∧ w = w' := by
  go_enter Try.func64, Try.ntmps64
  go_wp2_with fail
  go_loop [5] (fun i => i = .int .i64 0) (fun _ => 0)
  case atStart => rfl
  case round =>
    obtain rfl := hrel
    go_wp2
    go_ret
    exact ⟨rfl, rfl⟩
theorem markRowS_nil (k : Int) (w : World) :
    Calls Try.prog 65 #[.slice none 0 0, .int .i64 k] w fun e w' => e = .returned (.int .i64 k) ∧ w = w' := by
  go_enter Try.func65, Try.ntmps65
  go_wp2_with fail
  go_loop [1, 5] (fun q i => q = .int .i64 k ∧ i = .int .i64 0) (fun _ _ => 0)
  case atStart => exact ⟨rfl, rfl⟩
  case round =>
    obtain ⟨rfl, rfl⟩ := hrel
    go_wp2
    go_ret
    exact ⟨rfl, rfl⟩
theorem heldRowS_nil (k : Int) (w : World) :
    Calls Try.prog 66 #[.slice none 0 0, .int .i64 k] w fun e w' => e = .returned (.int .i64 k) ∧ w = w' := by
  go_enter Try.func66, Try.ntmps66
  go_wp2_with fail
  go_loop [1, 5] (fun q i => q = .int .i64 k ∧ i = .int .i64 0) (fun _ _ => 0)
  case atStart => exact ⟨rfl, rfl⟩
  case round =>
    obtain ⟨rfl, rfl⟩ := hrel
    go_wp2
    go_ret
    exact ⟨rfl, rfl⟩

def studio0 : Value := .agg #[.int .i64 2, .slice none 0 0, .slice none 0 0, .int .i64 0, .slice none 0 0]
def BackV (w : World) (v : Value) (e : Ending) (w' : World) : Prop := e = .returned v ∧ Below w.heap.size w w'
theorem rd_nil (w : World) (f : Nat → Value) : Rd w none (0 * 8) f := fun h => absurd h (by omega)
theorem rd_nil1 (w : World) (f : Nat → Value) : Rd w none (0 * 1) f := fun h => absurd h (by omega)
theorem wr_nil (w : World) : Wr w none (0 * 8) := fun h => absurd h (by omega)
theorem wr_nil1 (w : World) : Wr w none (0 * 1) := fun h => absurd h (by omega)
theorem markNil {w w' : World} {r : Int} {f : Nat → Value} {e : Ending} (h : MarkP w none (0 * 8) r f e w') : e = .returned (.int .i64 r) ∧ w' = w := ⟨h.1, h.2.2.1 rfl⟩
theorem markNil1 {w w' : World} {R : World → Prop} {r : Int} {e : Ending} (h : MarkO w (Fb none (0 * 1)) r R e w') : e = .returned (.int .i64 r) ∧ Below w.heap.size w w' :=
  ⟨h.ret, h.fr.below (Nat.le_refl _) fun b ⟨hb, _⟩ => absurd hb (by omega)⟩

set_option maxHeartbeats 400000 in
theorem eqStudio_new (w : World) :
    Calls Try.prog 31 #[studio0, studio0] w (BackV w (.bool true)) := by
  unfold studio0
  go_enter Try.func31, Try.ntmps31
  go_wp2_with (first
    | (go_at_call 64; refine (eqRowS_nil _).mono ?_; rintro e w1 ⟨rfl, rfl⟩)
    | (go_at_call 15; have hbl : Below w.heap.size w ((w.alloc (.cells #[.int .i64 2, .slice none 0 0, .slice none 0 0, .int .i64 0, .slice none 0 0] 41)).alloc (.cells #[.int .i64 2, .slice none 0 0, .slice none 0 0, .int .i64 0, .slice none 0 0] 41)) := (by (repeat' first | with_reducible exact Below.refl _ _ | with_reducible refine Below.alloc ?_ ?_ _ | with_reducible refine Below.setCell ?_ ?_ _ | with_reducible refine Below.drew ?_ | with_reducible refine Below.drewN' ?_ _ | with_reducible (refine Below.trans ?_ (Below.mono (by assumption) ?_)) | exact Nat.le_refl _ | (simp; done) | (simp; omega) | omega)); refine (eqOpS_any none none 0 0 0 (fun _ => 0) _ (rd_nil _ _) (rd_nil _ _) (by omega)).mono ?_; rintro e w1 ⟨rfl, hb1⟩; have HB1 := Lib.hid (hbl.trans (hb1.mono hbl.size)); have k1 := fun o => (bcell hb1).1 w.heap.size o (by simp; omega); have k2 := fun o => (bcell hb1).1 (w.heap.size + 1) o (by simp); clear hbl hb1)
    | (go_at_call 39; refine (eqBraid_any 0 none none 0 0 0 (fun _ => 0) _ (rd_nil1 _ _) (rd_nil1 _ _) (by omega)).mono ?_; rintro e w2 ⟨rfl, hb2⟩; have HB2 := Lib.hid (HB1.out.trans (hb2.mono HB1.out.size)); clear hb2)
    | fail)
  go_ret
  exact ⟨rfl, HB2.out⟩
set_option maxHeartbeats 400000 in
theorem markStudio_new (w : World) :
    Calls Try.prog 32 #[studio0, .int .i64 1] w (BackV w (.int .i64 1)) := by
  unfold studio0
  go_enter Try.func32, Try.ntmps32
  go_wp2_with (first
    | (go_at_call 65; refine (markRowS_nil _ _).mono ?_; rintro e w1 ⟨rfl, rfl⟩)
    | (go_at_call 16; refine (markOpS_any none 0 0 1 _ (wr_nil _) (by omega) (by omega) (by omega)).mono ?_; intro e w1 hm; obtain ⟨rfl, rfl⟩ := markNil hm; clear hm)
    | (go_at_call 40; refine (markBraid_any 0 none 0 0 1 _ (wr_nil1 _) (by omega) (by omega) (by omega)).mono ?_; intro e w2 hm; obtain ⟨rfl, hb2⟩ := markNil1 hm; have HB2 := Lib.hid (((Below.refl w.heap.size w).alloc (Nat.le_refl _) (.cells #[.int .i64 2, .slice none 0 0, .slice none 0 0, .int .i64 0, .slice none 0 0] 41)).trans (hb2.mono (by simp))); clear hm hb2)
    | fail)
  go_ret
  exact ⟨rfl, HB2.out⟩
set_option maxHeartbeats 400000 in
theorem heldStudio_new (w : World) :
    Calls Try.prog 33 #[studio0, .int .i64 1] w (BackV w (.int .i64 1)) := by
  unfold studio0
  go_enter Try.func33, Try.ntmps33
  go_wp2_with (first
    | (go_at_call 66; refine (heldRowS_nil _ _).mono ?_; rintro e w1 ⟨rfl, rfl⟩)
    | (go_at_call 17; have hbl : Below w.heap.size w (w.alloc (.cells #[.int .i64 2, .slice none 0 0, .slice none 0 0, .int .i64 0, .slice none 0 0] 41)) := (by (repeat' first | with_reducible exact Below.refl _ _ | with_reducible refine Below.alloc ?_ ?_ _ | with_reducible refine Below.setCell ?_ ?_ _ | with_reducible refine Below.drew ?_ | with_reducible refine Below.drewN' ?_ _ | with_reducible (refine Below.trans ?_ (Below.mono (by assumption) ?_)) | exact Nat.le_refl _ | (simp; done) | (simp; omega) | omega)); refine (heldOpS_any none 0 0 1 _ (rd_nil _ _) (by omega) (by omega) (by omega)).mono ?_; rintro e w1 ⟨rfl, hb1⟩; have HB1 := Lib.hid (hbl.trans (hb1.mono hbl.size)); have k1 := fun o => (bcell hb1).1 w.heap.size o (by simp); clear hbl hb1)
    | (go_at_call 51; refine (heldBraid_any 0 none 0 0 1 _ (rd_nil1 _ _) (by omega) (by omega) (by omega)).mono ?_; rintro e w2 ⟨rfl, hb2⟩; have HB2 := Lib.hid (HB1.out.trans (hb2.mono HB1.out.size)); clear hb2)
    | fail)
  go_ret
  exact ⟨rfl, HB2.out⟩

theorem l31New_any (w : World) : Calls Try.prog 63 #[] w (BackV w studio0) := by
  go_enter Try.func63, Try.ntmps63
  go_wp2
  refine bodyPost_ret (v := studio0) (by simp [results, Try.results63, go_sem, studio0]) rfl ⟨rfl, ?_⟩
  (repeat' first | with_reducible exact Below.refl _ _ | with_reducible refine Below.alloc ?_ ?_ _ | with_reducible refine Below.setCell ?_ ?_ _ | with_reducible refine Below.drew ?_ | with_reducible refine Below.drewN' ?_ _ | with_reducible (refine Below.trans ?_ (Below.mono (by assumption) ?_)) | exact Nat.le_refl _ | (simp; done) | (simp; omega) | omega)
theorem specNewStudio_any (w : World) : Calls Try.prog 29 #[] w (BackV w studio0) := by
  go_enter Try.func29, Try.ntmps29
  go_wp2_with fail
  refine (l31New_any _).mono ?_
  rintro e w1 ⟨rfl, hb1⟩
  have bx : ∀ o, w1.cell? ⟨w.heap.size, o, none⟩ = (#[.int .i64 0, .slice none 0 0, .slice none 0 0, .int .i64 0, .slice none 0 0] : Array Value)[o]? := fun o => ((bcell hb1).1 _ _ (by simp)).trans (cell_alloc_at rfl o)
  have bf : ∀ o, w1.frozen? ⟨w.heap.size, o, none⟩ = false := fun o => ((bcell hb1).2 _ _ (by simp)).trans (frozen_new _ _ _ _)
  have hz1 : w.heap.size < w1.heap.size := blt hb1 (by simp)
  have HB := Lib.hid (((Below.refl w.heap.size w).alloc (Nat.le_refl _) _).trans (hb1.mono (by simp)))
  clear hb1
  unfold studio0
  go_wp2_with fail
  refine bodyPost_ret (v := studio0) (by simp [results, Try.results29, go_sem, bx, studio0]) rfl ⟨rfl, ?_⟩
  exact (show Below w.heap.size w1 _ by (repeat' first | with_reducible exact Below.refl _ _ | with_reducible refine Below.alloc ?_ ?_ _ | with_reducible refine Below.setCell ?_ ?_ _ | with_reducible refine Below.drew ?_ | with_reducible refine Below.drewN' ?_ _ | with_reducible (refine Below.trans ?_ (Below.mono (by assumption) ?_)) | exact Nat.le_refl _ | (simp; done) | (simp; omega) | omega)) |> HB.out.trans
theorem implNewStudio_any (w : World) : Calls Try.prog 30 #[] w (BackV w studio0) := by
  go_enter Try.func30, Try.ntmps30
  go_wp2
  refine bodyPost_ret (v := studio0) (by simp [results, Try.results30, go_sem, studio0]) rfl ⟨rfl, ?_⟩
  (repeat' first | with_reducible exact Below.refl _ _ | with_reducible refine Below.alloc ?_ ?_ _ | with_reducible refine Below.setCell ?_ ?_ _ | with_reducible refine Below.drew ?_ | with_reducible refine Below.drewN' ?_ _ | with_reducible (refine Below.trans ?_ (Below.mono (by assumption) ?_)) | exact Nat.le_refl _ | (simp; done) | (simp; omega) | omega)
end Go.Proofs.Ytjegoffdkmbibaa
