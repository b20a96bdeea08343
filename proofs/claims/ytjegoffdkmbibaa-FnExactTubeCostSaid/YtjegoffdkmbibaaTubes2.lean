/- Walks: a tube's round, its cast-on, its closing, by the reference. (Printed by wip/tubegen.py.) -/
import Derived.Test.YtjegoffdkmbibaaTubes
namespace Go.Proofs.Ytjegoffdkmbibaa
open Go.RowKit
set_option maxRecDepth 20000

theorem rowV_then (L : List Int) (bed at_ : Nat → Int) (dir c : Int) (k : Nat) : ints (L ++ rowZ bed at_ dir c (k + 1)) = ints (L ++ rowZ bed at_ dir c k) ++ [.int .i64 1, .int .i64 dir, .int .i64 (bed k), .int .i64 (at_ k), .int .i64 0, .int .i64 0, .int .i64 c, .int .i64 0] := by
  rw [ints_app, rowV_next, ints_app, List.append_assoc]
abbrev frontZ (n : Nat) (c : Int) : List Int := rowZ (fun _ => 1) (fun i => i) 1 c n
abbrev backZ (n : Nat) (c : Int) : List Int := rowZ (fun _ => 2) (fun i => n - 1 - (i : Int)) (-1) c n
abbrev roundZ (n : Nat) (c : Int) : List Int := frontZ n c ++ backZ n c
abbrev evenZ (n : Nat) (c : Int) : List Int := rowZ (fun i => 1 + (i : Int) % 2) (fun i => i) 1 c n
abbrev oddZ (n : Nat) (c : Int) : List Int := rowZ (fun i => 2 - (n - 1 - (i : Int)) % 2) (fun i => n - 1 - (i : Int)) (-1) c n


set_option maxHeartbeats 1000000 in
theorem l28Round_any (g : Nat) (n : Nat) (c : Int) (w : World) (h0 : w.cell? ⟨g, 0, none⟩ = some (.int .i64 n)) (h2 : w.cell? ⟨g, 2, none⟩ = some (.int .i64 c)) (hn : n ≤ 6) :
    Calls Try.prog 57 #[.pointer (some ⟨g, 0, none⟩)] w (OwnZ w (n + n) (roundZ n c)) := by
  obtain ⟨i0, hi, iz, is, ib⟩ := info_parts infoOp
  have hg := World.block_lt_of_cell? w _ h0
  have H0 := Lib.hid h0
  have H2 := Lib.hid h2
  clear h0 h2
  go_enter Try.func57, Try.ntmps57
  go_wp2_with fail
  refine (l28Front_any g n c _ H0.out H2.out hn).mono ?_
  rintro e w1 ⟨v1, rfl, ho1, hb1⟩
  have k0 := ((bcell hb1).1 _ _ hg).trans H0.out
  have hg1 : g < w1.heap.size := blt hb1 hg
  have HB1 := Lib.hid hb1
  have HO1 := Lib.hid ho1
  clear hb1 ho1
  go_wp2_with fail
  go_loopw [3, 4] (fun v i wr => ∃ k : Nat, k ≤ n ∧ i = .int .i64 (n - 1 - (k : Int)) ∧ wr.ownsRow w.heap.size 76 8 v (n + k) (ints (frontZ n c ++ rowZ (fun _ => 2) (fun i => n - 1 - (i : Int)) (-1) c k)) ∧ Below w.heap.size w wr) (fun _ i _ => (intOf i + 1).toNat)
  case atStart => exact ⟨0, Nat.zero_le _, by simp, by simpa [rowZ] using HO1.out, HB1.out⟩
  case round =>
    obtain ⟨k, hk, rfl, hown, hb⟩ := hrel
    have k0 := ((bcell hb).1 _ _ hg).trans H0.out
    have k2 := ((bcell hb).1 _ _ hg).trans H2.out
    have hgr : g < wr.heap.size := blt hb hg
    have HB := Lib.hid hb
    have HOWN := Lib.hid hown
    clear hb hown
    by_cases hlt : k < n
    · go_wp2_with (first
        | (go_at_call 100; refine (l28Knit_any _ _ _ _ _ _ k2).mono ?_; rintro e w1 ⟨rfl, hb1⟩; have HB1 := Lib.hid hb1; clear hb1)
        | (at_builtin; go_must (refine wpList_app w1 rfl (.tmp 16) (.tmp 20) _ rfl w.heap.size 76 i0 _ 8 64 Try.underlying24 hi iz is ib rfl (by omega) u3 (n + k) _ rfl (own_below HOWN.out HB1.out) _ 1 1 _ rfl rfl (by simp [Value.oneCell']) (by unfold maxLen; omega) (by omega) (Nat.le_trans HB.out.size HB1.out.size) ?_); intro v' w' hown' hb'))
      go_wp2
      go_roundw
      case rel => exact ⟨k + 1, by omega, by go_num, by rw [rowV_then]; exact hown', (HB.out.trans (HB1.out.mono HB.out.size)).trans hb'⟩
      case measure => simp [intOf] <;> omega
    · obtain rfl : k = n := by omega
      go_wp2
      go_ret
      exact ⟨_, rfl, HOWN.out, HB.out⟩

/-- The numbers of k transfers to the front. -/
def xferZ (k : Nat) : List Int := (List.range k).flatMap fun (i : Nat) => [4, 0, 2, (i : Int), 1, (i : Int), 0, 0]
theorem xferV_next (k : Nat) : ints (xferZ (k + 1)) = ints (xferZ k) ++ [.int .i64 4, .int .i64 0, .int .i64 2, .int .i64 k, .int .i64 1, .int .i64 k, .int .i64 0, .int .i64 0] := by
  rw [show xferZ (k + 1) = xferZ k ++ [4, 0, 2, (k : Int), 1, (k : Int), 0, 0] by simp [xferZ, List.range_succ], ints_app]
  rfl
def topN (n : Nat) (t : Bool) : Nat := if t then n + n else 0
def topZ (n : Nat) (c : Int) (t : Bool) : List Int := if t then xferZ n ++ frontZ n c else []

theorem l23Front_any (x : Int) (w : World) :
    Calls Try.prog 92 #[.int .i64 x] w fun e w' => e = .returned (.agg #[.int .i64 1, .int .i64 x]) ∧ Below w.heap.size w w' := by
  go_enter Try.func92, Try.ntmps92
  go_wp2
  refine bodyPost_ret (v := .agg #[.int .i64 1, .int .i64 x]) (by simp [results, Try.results92, go_sem]) rfl ⟨rfl, ?_⟩
  (repeat' first | with_reducible exact Below.refl _ _ | with_reducible refine Below.alloc ?_ ?_ _ | with_reducible refine Below.setCell ?_ ?_ _ | with_reducible refine Below.drew ?_ | with_reducible refine Below.drewN' ?_ _ | with_reducible (refine Below.trans ?_ (Below.mono (by assumption) ?_)) | exact Nat.le_refl _ | (simp; done) | (simp; omega) | omega)

theorem frontNeedle_any (x : Int) (w : World) :
    Calls Try.prog 96 #[.int .i64 x] w fun e w' => e = .returned (.agg #[.int .i64 1, .int .i64 x]) ∧ Below w.heap.size w w' := by
  go_enter Try.func96, Try.ntmps96
  go_wp2
  refine bodyPost_ret (v := .agg #[.int .i64 1, .int .i64 x]) (by simp [results, Try.results96, go_sem]) rfl ⟨rfl, ?_⟩
  (repeat' first | with_reducible exact Below.refl _ _ | with_reducible refine Below.alloc ?_ ?_ _ | with_reducible refine Below.setCell ?_ ?_ _ | with_reducible refine Below.drew ?_ | with_reducible refine Below.drewN' ?_ _ | with_reducible (refine Below.trans ?_ (Below.mono (by assumption) ?_)) | exact Nat.le_refl _ | (simp; done) | (simp; omega) | omega)


set_option maxHeartbeats 1000000 in
theorem l28Top_any (g : Nat) (n : Nat) (c : Int) (t : Bool) (w : World) (h0 : w.cell? ⟨g, 0, none⟩ = some (.int .i64 n)) (h2 : w.cell? ⟨g, 2, none⟩ = some (.int .i64 c)) (h4 : w.cell? ⟨g, 4, none⟩ = some (.bool t)) (hn : n ≤ 6) :
    Calls Try.prog 53 #[.pointer (some ⟨g, 0, none⟩)] w (OwnZ w (topN n t) (topZ n c t)) := by
  obtain ⟨i0, hi, iz, is, ib⟩ := info_parts infoOp
  have hg := World.block_lt_of_cell? w _ h0
  have H0 := Lib.hid h0
  have H2 := Lib.hid h2
  clear h0 h2
  go_enter Try.func53, Try.ntmps53
  have k4 : ∀ (o : Obj), (w.alloc o).cell? ⟨g, 4, none⟩ = some (.bool t) := fun o => (World.cell?_alloc_lt w o ⟨g, 4, none⟩ hg).trans h4
  clear h4
  cases t
  · go_wp2_with fail
    go_ret
    exact ⟨_, rfl, World.ownsRow_made w #[] 0 (Nat.le_refl _) (by unfold maxLen; omega) rfl, (Below.refl _ _).alloc (Nat.le_refl _) _⟩
  go_wp2_with fail
  go_loopw [3, 4] (fun v i wr => ∃ k : Nat, k ≤ n ∧ i = .int .i64 k ∧ wr.ownsRow w.heap.size 76 8 v k (ints (xferZ k)) ∧ Below w.heap.size w wr) (fun _ i _ => n - (intOf i).toNat)
  case atStart => exact ⟨0, Nat.zero_le _, rfl, World.ownsRow_made w #[] 0 (Nat.le_refl _) (by unfold maxLen; omega) rfl, (Below.refl _ _).alloc (Nat.le_refl _) _⟩
  case round =>
    obtain ⟨k, hk, rfl, hown, hb⟩ := hrel
    have k0 := ((bcell hb).1 _ _ hg).trans H0.out
    have k2 := ((bcell hb).1 _ _ hg).trans H2.out
    have hgr : g < wr.heap.size := blt hb hg
    have HB := Lib.hid hb
    have HOWN := Lib.hid hown
    clear hb hown
    by_cases hlt : k < n
    · go_wp2_with (first
        | (go_at_call 92; refine (l23Front_any _ _).mono ?_; rintro e w1 ⟨rfl, hb1⟩; have HB1 := Lib.hid hb1; clear hb1)
        | (at_builtin; go_must (refine wpList_app w1 rfl (.tmp 20) (.tmp 26) _ rfl w.heap.size 76 i0 _ 8 64 Try.underlying24 hi iz is ib rfl (by omega) u3 k _ rfl (own_below HOWN.out HB1.out) _ 1 1 _ rfl rfl (by simp [Value.oneCell']) (by unfold maxLen; omega) (by omega) (Nat.le_trans HB.out.size HB1.out.size) ?_); intro v' w' hown' hb'))
      go_wp2
      go_roundw
      case rel => exact ⟨k + 1, by omega, by go_num, by rw [xferV_next]; exact hown', (HB.out.trans (HB1.out.mono HB.out.size)).trans hb'⟩
      case measure => simp [intOf] <;> omega
    · obtain rfl : k = n := by omega
      go_wp2_with (first
        | (go_at_call 93; refine (l28Front_any g k c _ k0 k2 hn).mono ?_; rintro e w1 ⟨v1, rfl, ho1, hb1⟩; have HB1 := Lib.hid hb1; have HO1 := Lib.hid ho1; clear hb1 ho1)
        | (at_builtin; go_must (refine wpList_app_own w1 rfl (.tmp 28) (.tmp 30) _ rfl w.heap.size 76 i0 _ 8 64 Try.underlying24 hi iz is ib rfl (by omega) u3 k _ rfl (own_below HOWN.out HB1.out) _ _ k _ rfl HO1.out (ints_one _) (by unfold maxLen; omega) (by omega) (Nat.le_trans HB.out.size HB1.out.size) ?_); intro v' w' hown' hb'))
      go_ret
      exact ⟨_, rfl, by simpa [topN, topZ, ints_app] using hown', (HB.out.trans (HB1.out.mono HB.out.size)).trans hb'⟩

end Go.Proofs.Ytjegoffdkmbibaa
