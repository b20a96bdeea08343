/- Walks: the operations of a tube's rows, by the reference and by the program: the same numbers. No condition but the bounds. -/
import Derived.Test.YtjegoffdkmbibaaTubeBase
import Derived.Test.YtjegoffdkmbibaaAppend
namespace Go.Proofs.Ytjegoffdkmbibaa
open Go.RowKit

/-- The numbers of a knit. -/
def knitZ (bed at_ dir c : Int) : List Int := [1, dir, bed, at_, 0, 0, c, 0]
/-- Those of k knits. -/
def rowZ (bed at_ : Nat → Int) (dir c : Int) (k : Nat) : List Int := (List.range k).flatMap fun i => knitZ (bed i) (at_ i) dir c
theorem rowZ_next (bed at_ : Nat → Int) (dir c : Int) (k : Nat) : rowZ bed at_ dir c (k + 1) = rowZ bed at_ dir c k ++ knitZ (bed k) (at_ k) dir c := by
  simp [rowZ, List.range_succ]
theorem rowV_next (bed at_ : Nat → Int) (dir c : Int) (k : Nat) : ints (rowZ bed at_ dir c (k + 1)) = ints (rowZ bed at_ dir c k) ++ [.int .i64 1, .int .i64 dir, .int .i64 (bed k), .int .i64 (at_ k), .int .i64 0, .int .i64 0, .int .i64 c, .int .i64 0] := by
  rw [rowZ_next, ints_app]
  rfl
/-- A function that hands back a list of n operations that it owns. -/
def OwnZ (w : World) (n : Nat) (L : List Int) (e : Ending) (w' : World) : Prop := ∃ v, e = .returned v ∧ w'.ownsRow w.heap.size 76 8 v n (ints L) ∧ Below w.heap.size w w'
theorem infoOp : (Try.prog.info? 76).map (fun i => (i.zero, i.size, i.bytes)) = some (some (.agg #[.int .i64 0, .int .i64 0, .int .i64 0, .int .i64 0, .int .i64 0, .int .i64 0, .int .i64 0, .int .i64 0]), 8, 64) := by kernel_rfl

theorem l23Yarn_any (k d b a c : Int) (w : World) :
    Calls Try.prog 118 #[.int .i64 k, .int .i64 d, .agg #[.int .i64 b, .int .i64 a], .int .i64 c] w
      fun e w' => e = .returned (.agg #[.int .i64 k, .int .i64 d, .int .i64 b, .int .i64 a, .int .i64 0, .int .i64 0, .int .i64 c, .int .i64 0]) ∧ Below w.heap.size w w' := by
  go_enter Try.func118, Try.ntmps118
  go_wp2
  refine bodyPost_ret (v := .agg #[.int .i64 k, .int .i64 d, .int .i64 b, .int .i64 a, .int .i64 0, .int .i64 0, .int .i64 c, .int .i64 0]) (by simp [results, Try.results118, go_sem]) rfl ⟨rfl, ?_⟩
  (repeat' first | with_reducible exact Below.refl _ _ | with_reducible refine Below.alloc ?_ ?_ _ | with_reducible refine Below.setCell ?_ ?_ _ | with_reducible refine Below.drew ?_ | with_reducible refine Below.drewN' ?_ _ | with_reducible (refine Below.trans ?_ (Below.mono (by assumption) ?_)) | exact Nat.le_refl _ | (simp; done) | (simp; omega) | omega)

theorem l28Knit_any (g : Nat) (bed at_ dir c : Int) (w : World) (h2 : w.cell? ⟨g, 2, none⟩ = some (.int .i64 c)) :
    Calls Try.prog 100 #[.pointer (some ⟨g, 0, none⟩), .int .i64 bed, .int .i64 at_, .int .i64 dir] w
      fun e w' => e = .returned (.agg #[.int .i64 1, .int .i64 dir, .int .i64 bed, .int .i64 at_, .int .i64 0, .int .i64 0, .int .i64 c, .int .i64 0]) ∧ Below w.heap.size w w' := by
  have hg := World.block_lt_of_cell? w _ h2
  have H2 := Lib.hid h2
  clear h2
  have h2' : ∀ (o : Obj), (w.alloc o).cell? ⟨g, 2, none⟩ = some (.int .i64 c) := fun o => (World.cell?_alloc_lt w o _ hg).trans H2.out
  go_enter Try.func100, Try.ntmps100
  go_wp2_with fail
  refine (l23Yarn_any _ _ _ _ _ _).mono ?_
  rintro e w1 ⟨rfl, hb1⟩
  have bx : ∀ o, w1.cell? ⟨w.heap.size, o, none⟩ = (#[.int .i64 0, .int .i64 0, .int .i64 0, .int .i64 0, .int .i64 0, .int .i64 0, .int .i64 0, .int .i64 0] : Array Value)[o]? := fun o => ((bcell hb1).1 _ _ (by simp)).trans (cell_alloc_at rfl o)
  have bf : ∀ o, w1.frozen? ⟨w.heap.size, o, none⟩ = false := fun o => ((bcell hb1).2 _ _ (by simp)).trans (frozen_new _ _ _ _)
  have hz1 : w.heap.size < w1.heap.size := blt hb1 (by simp)
  have HB := Lib.hid (((Below.refl w.heap.size w).alloc (Nat.le_refl _) _).trans (hb1.mono (by simp)))
  clear hb1
  go_wp2_with fail
  refine bodyPost_ret (v := .agg #[.int .i64 1, .int .i64 dir, .int .i64 bed, .int .i64 at_, .int .i64 0, .int .i64 0, .int .i64 c, .int .i64 0]) (by simp [results, Try.results100, go_sem, bx]) rfl ⟨rfl, ?_⟩
  exact (show Below w.heap.size w1 _ by (repeat' first | with_reducible exact Below.refl _ _ | with_reducible refine Below.alloc ?_ ?_ _ | with_reducible refine Below.setCell ?_ ?_ _ | with_reducible refine Below.drew ?_ | with_reducible refine Below.drewN' ?_ _ | with_reducible (refine Below.trans ?_ (Below.mono (by assumption) ?_)) | exact Nat.le_refl _ | (simp; done) | (simp; omega) | omega)) |> HB.out.trans

set_option maxHeartbeats 400000 in
theorem l28Front_any (g : Nat) (n : Nat) (c : Int) (w : World) (h0 : w.cell? ⟨g, 0, none⟩ = some (.int .i64 n)) (h2 : w.cell? ⟨g, 2, none⟩ = some (.int .i64 c)) (hn : n ≤ 6) :
    Calls Try.prog 93 #[.pointer (some ⟨g, 0, none⟩)] w (OwnZ w n (rowZ (fun _ => 1) (fun i => i) 1 c n)) := by
  obtain ⟨i0, hi, iz, is, ib⟩ := info_parts infoOp
  have hg := World.block_lt_of_cell? w _ h0
  have H0 := Lib.hid h0
  have H2 := Lib.hid h2
  clear h0 h2
  go_enter Try.func93, Try.ntmps93
  go_wp2_with fail
  go_loopw [3, 4] (fun v i wr => ∃ k : Nat, k ≤ n ∧ i = .int .i64 k ∧ wr.ownsRow w.heap.size 76 8 v k (ints (rowZ (fun _ => 1) (fun i => i) 1 c k)) ∧ Below w.heap.size w wr) (fun _ i _ => n - (intOf i).toNat)
  case atStart => exact ⟨0, Nat.zero_le _, rfl, World.ownsRow_made w #[] 0 (Nat.le_refl _) (by unfold maxLen; omega) rfl, (Below.refl _ _).alloc (Nat.le_refl _) _⟩
  case round =>
    obtain ⟨k, hk, rfl, hown, hb⟩ := hrel
    have k0 := ((bcell hb).1 _ _ hg).trans H0.out
    have k2 := ((bcell hb).1 _ _ hg).trans H2.out
    have hgr : g < wr.heap.size := blt hb hg
    have HB := Lib.hid hb
    have HOWN := Lib.hid hown
    clear hb hown
    by_cases hlt : k < n
    · go_wp2_with (first
        | (go_at_call 100; refine (l28Knit_any _ _ _ _ _ _ k2).mono ?_; rintro e w1 ⟨rfl, hb1⟩; have HB1 := Lib.hid hb1; clear hb1)
        | (at_builtin; go_must (refine wpList_app w1 rfl (.tmp 14) (.tmp 18) _ rfl w.heap.size 76 i0 _ 8 64 Try.underlying24 hi iz is ib rfl (by omega) u3 k _ rfl (own_below HOWN.out HB1.out) _ 1 1 _ rfl rfl (by simp [Value.oneCell']) (by unfold maxLen; omega) (by omega) (Nat.le_trans HB.out.size HB1.out.size) ?_); intro v' w' hown' hb'))
      go_wp2
      go_roundw
      case rel => exact ⟨k + 1, by omega, by go_num, by rw [rowV_next]; exact hown', (HB.out.trans (HB1.out.mono HB.out.size)).trans hb'⟩
      case measure => simp [intOf] <;> omega
    · obtain rfl : k = n := by omega
      go_wp2
      go_ret
      exact ⟨_, rfl, HOWN.out, HB.out⟩
end Go.Proofs.Ytjegoffdkmbibaa
