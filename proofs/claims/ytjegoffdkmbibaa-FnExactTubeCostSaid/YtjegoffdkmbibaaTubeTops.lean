/- Walks: how a tube is closed, by the program; both TubeTop: the same operations in new memory, or the code of a tube that is not valid. No condition. -/
import Derived.Test.YtjegoffdkmbibaaHalves
namespace Go.Proofs.Ytjegoffdkmbibaa
open Go.RowKit
set_option maxRecDepth 20000

set_option maxHeartbeats 1000000 in
theorem top_any (n : Nat) (r c : Int) (b t : Bool) (w : World) (hn : n ≤ 6) :
    Calls Try.prog 55 #[.agg #[.int .i64 n, .int .i64 r, .int .i64 c, .bool b, .bool t]] w (OwnZ w (topN n t) (topZ n c t)) := by
  obtain ⟨i0, hi, iz, is, ib⟩ := info_parts infoOp
  cases t
  · go_enter Try.func55, Try.ntmps55
    go_wp2_with fail
    go_ret
    exact ⟨_, rfl, World.ownsRow_nil _ _ _ _, by (repeat' first | with_reducible exact Below.refl _ _ | with_reducible refine Below.alloc ?_ ?_ _ | with_reducible refine Below.setCell ?_ ?_ _ | with_reducible refine Below.drew ?_ | with_reducible refine Below.drewN' ?_ _ | with_reducible (refine Below.trans ?_ (Below.mono (by assumption) ?_)) | exact Nat.le_refl _ | (simp; done) | (simp; omega) | omega)⟩
  go_enter Try.func55, Try.ntmps55
  go_wp2_with fail
  go_loopw [3, 11] (fun v i wr => ∃ k : Nat, k ≤ n ∧ i = .int .i64 k ∧ wr.ownsRow (w.heap.size + 1) 76 8 v k (ints (xferZ k)) ∧ Below (w.heap.size + 1) (w.alloc (.cells #[.int .i64 n, .int .i64 r, .int .i64 c, .bool b, .bool true] 27)) wr) (fun _ i _ => n - (intOf i).toNat)
  case atStart =>
    refine ⟨0, Nat.zero_le _, rfl, by simpa [xferZ, ints] using World.ownsRow_made (w.alloc (.cells #[.int .i64 n, .int .i64 r, .int .i64 c, .bool b, .bool true] 27)) #[] (base := w.heap.size + 1) (e := 76) (size := 8) 0 (by simp) (by unfold maxLen; omega) rfl, (Below.refl _ _).alloc (by simp) _⟩
  case round =>
    obtain ⟨k, hk, rfl, hown, hb⟩ := hrel
    have hbx : ∀ o, wr.cell? ⟨w.heap.size, o, none⟩ = (#[.int .i64 n, .int .i64 r, .int .i64 c, .bool b, .bool true] : Array Value)[o]? := fun o => ((bcell hb).1 _ o (by omega)).trans (cell_alloc_at rfl o)
    have hs0 := hb.size
    simp only [World.size_alloc] at hs0
    have hgr : w.heap.size < wr.heap.size := by omega
    have HB := Lib.hid hb
    have HOWN := Lib.hid hown
    clear hb hown
    by_cases hlt : k < n
    · go_wp2_with (first
        | (go_at_call 96; refine (frontNeedle_any _ _).mono ?_; rintro e w1 ⟨rfl, hb1⟩; have HB1 := Lib.hid hb1; clear hb1)
        | (at_builtin; go_must (refine wpList_app w1 rfl (.tmp 14) (.tmp 20) _ rfl (w.heap.size + 1) 76 i0 _ 8 64 Try.underlying24 hi iz is ib rfl (by omega) u3 k _ rfl (own_below HOWN.out HB1.out) _ 1 1 _ rfl rfl (by simp [Value.oneCell']) (by unfold maxLen; omega) (by omega) (Nat.le_trans hs0 HB1.out.size) ?_); intro v' w' hown' hb'))
      go_wp2
      go_roundw
      case rel => exact ⟨k + 1, by omega, by go_num, by rw [xferV_next]; exact hown', (HB.out.trans (HB1.out.mono hs0)).trans hb'⟩
      case measure => simp [intOf] <;> omega
    · obtain rfl : k = n := by omega
      go_wp2_with (first
        | (go_at_call 97; refine (halfFront_any k r c b true _ hn).mono ?_; rintro e w1 ⟨v1, rfl, ho1, hb1⟩; have HB1 := Lib.hid hb1; have HO1 := Lib.hid ho1; clear hb1 ho1)
        | (at_builtin; go_must (refine wpList_app_own w1 rfl (.tmp 23) (.tmp 25) _ rfl (w.heap.size + 1) 76 i0 _ 8 64 Try.underlying24 hi iz is ib rfl (by omega) u3 k _ rfl (own_below HOWN.out HB1.out) _ _ k _ rfl HO1.out (ints_one _) (by unfold maxLen; omega) (by omega) (Nat.le_trans hs0 HB1.out.size) ?_); intro v' w' hown' hb'))
      go_ret
      exact ⟨_, rfl, own_base (by simpa [topN, topZ, ints_app] using hown') (by omega), ((Below.refl _ _).alloc (Nat.le_refl _) _).trans (((HB.out.trans (HB1.out.mono hs0)).trans hb').mono (by omega))⟩

/-- How many operations, and the code, where a tube's part has m of them. -/
def tubeN (n r c : Int) (m : Nat) : Nat := if tubeB n r c then m else 0
def tubeZ (n r c : Int) (L : List Int) : List Int := if tubeB n r c then L else []
def tubeCode (n r c : Int) : Int := if tubeB n r c then 0 else 1
theorem tubeB_true' {n r c : Int} (h : tubeB n r c = true) : 1 ≤ n ∧ n ≤ 6 ∧ 0 ≤ r ∧ r ≤ 8 ∧ 1 ≤ c ∧ c ≤ 4 := by
  simp only [tubeB, Bool.and_eq_true] at h
  have h1 := inB_true h.1.1
  have h2 := inB_true h.1.2
  have h3 := inB_true h.2
  omega
end Go.Proofs.Ytjegoffdkmbibaa
