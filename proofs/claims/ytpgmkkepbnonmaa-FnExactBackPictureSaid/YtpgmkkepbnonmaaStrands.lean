/- Walk: the reference's line of strands. No condition but the bounds. -/
import Derived.Test.YtpgmkkepbnonmaaLines
namespace Go.Proofs.Ytpgmkkepbnonmaa
open Go.RowKit
set_option maxRecDepth 20000

def strandV (m : Nat) : List Value := (List.range m).map fun j => .int .u8 (lineZ j)
theorem strandV_next (m : Nat) : strandV (m + 1) = strandV m ++ [.int .u8 (lineZ m)] := by simp [strandV, List.range_succ]
set_option maxHeartbeats 1000000 in
theorem l30Strands_any (n : Nat) (w : World) (hn : n ≤ 4096) :
    Calls Try.prog 98 #[.int .i64 n] w (NewP w (2 * n - 1) (2 * n - 1) (fun j => .int .u8 (lineZ j))) := by
  obtain ⟨i0, hi, iz, is, ib⟩ := info_parts info_parts8
  go_enter Try.func98, Try.ntmps98
  go_wp2_with fail
  go_loopw [3, 4] (fun v i wr => ∃ k : Nat, k ≤ n ∧ i = .int .i64 k ∧ wr.ownsRow w.heap.size 5 1 v (2 * k - 1) (strandV (2 * k - 1)) ∧ Below w.heap.size w wr) (fun _ i _ => n - (intOf i).toNat)
  case atStart => exact ⟨0, Nat.zero_le _, rfl, World.ownsRow_made w #[] 0 (Nat.le_refl _) (by unfold maxLen; omega) rfl, (Below.refl _ _).alloc (Nat.le_refl _) _⟩
  case round =>
    obtain ⟨k, hk, rfl, hown, hb⟩ := hrel
    have HB := Lib.hid hb
    have HOWN := Lib.hid hown
    clear hb hown
    by_cases hlt : k < n
    · rcases Nat.eq_zero_or_pos k with hz | hpos
      · subst hz
        go_wp2_with (at_builtin; go_must (refine wpList_app wr rfl (.tmp 16) (.tmp 17) _ rfl w.heap.size 5 i0 _ 1 1 Try.underlying86 hi iz is ib rfl (by omega) u3 0 [] rfl HOWN.out _ 1 1 _ rfl rfl (by simp [Value.oneCell']) (by unfold maxLen; omega) (by omega) HB.out.size ?_); intro v' w' hown' hb')
        go_wp2
        go_roundw
        case rel => exact ⟨1, by omega, by go_num, hown', HB.out.trans hb'⟩
        case measure => simp [intOf] <;> omega
      · obtain ⟨m, hm⟩ : ∃ m : Nat, 2 * k - 1 = m := ⟨_, rfl⟩
        rw [hm] at HOWN
        have hm1 : m + 1 = 2 * k := by omega
        have HM := Lib.hid hm1
        have hm2 : m ≤ 8192 := by omega
        clear hm hm1
        go_wp2_with (first
          | (at_builtin; refine wpList_app wr rfl (.tmp 13) (.tmp 14) _ rfl w.heap.size 5 i0 _ 1 1 Try.underlying86 hi iz is ib rfl (by omega) u3 m (strandV m) rfl HOWN.out _ 1 1 _ rfl rfl (by simp [Value.oneCell']) (by unfold maxLen; omega) (by omega) HB.out.size ?_; intro v1 w1 hown1 hb1; have HO1 := Lib.hid hown1; have HB1 := Lib.hid (HB.out.trans hb1); clear hown1 hb1)
          | (at_builtin; go_must (refine wpList_app w1 rfl (.tmp 16) (.tmp 17) _ rfl w.heap.size 5 i0 _ 1 1 Try.underlying86 hi iz is ib rfl (by omega) v1 (m + 1) (strandV m ++ [.int .u8 32]) rfl HO1.out _ 1 1 _ rfl rfl (by simp [Value.oneCell']) (by unfold maxLen; omega) (by omega) HB1.out.size ?_); intro v' w' hown' hb'))
        go_wp2
        go_roundw
        case rel =>
          have hm := HM.out
          refine ⟨k + 1, by omega, by go_num, ?_, HB1.out.trans hb'⟩
          rw [show 2 * (k + 1) - 1 = m + 1 + 1 by omega, strandV_next, strandV_next, show lineZ m = 32 by simp only [lineZ]; rw [if_neg (by omega)], show lineZ (m + 1) = 124 by simp only [lineZ]; rw [if_pos (by omega)]]
          exact hown'
        case measure => simp [intOf] <;> omega
    · obtain rfl : n = k := by omega
      obtain ⟨A, c, rfl, hnew⟩ := New.of_own HB.out HOWN.out
      have HN := Lib.hid hnew
      clear hnew
      go_wp2
      go_ret
      refine ⟨A, c, rfl, ?_⟩
      have := HN.out
      rw [Nat.mul_one] at this
      exact this.congr fun j hj => by simp [strandV, List.getD, hj]
end Go.Proofs.Ytpgmkkepbnonmaa
