/- Walks: a tube's cast-on, by the reference. (Printed by wip/tubegen.py.) -/
import Derived.Test.YtjegoffdkmbibaaTubes2
import Derived.Test.YtjegoffdkmbibaaTubeRounds2
namespace Go.Proofs.Ytjegoffdkmbibaa
open Go.RowKit
set_option maxRecDepth 20000


set_option maxHeartbeats 1000000 in
theorem l28CastOn_any (g : Nat) (n : Nat) (c : Int) (b : Bool) (w : World) (h0 : w.cell? ⟨g, 0, none⟩ = some (.int .i64 n)) (h2 : w.cell? ⟨g, 2, none⟩ = some (.int .i64 c)) (h3 : w.cell? ⟨g, 3, none⟩ = some (.bool b)) (hn : n ≤ 6) :
    Calls Try.prog 61 #[.pointer (some ⟨g, 0, none⟩)] w (OwnZ w (n + n) (castZ8 n c b)) := by
  obtain ⟨i0, hi, iz, is, ib⟩ := info_parts infoOp
  have hg := World.block_lt_of_cell? w _ h0
  have H0 := Lib.hid h0
  have H2 := Lib.hid h2
  clear h0 h2
  go_enter Try.func61, Try.ntmps61
  cases b
  · go_wp2_with fail
    refine (l28Round_any g n c _ H0.out H2.out hn).mono ?_
    rintro e w1 ⟨v1, rfl, ho1, hb1⟩
    have HO := Lib.hid ho1
    have HB := Lib.hid hb1
    clear ho1 hb1
    go_wp2_with fail
    go_ret
    exact ⟨_, rfl, HO.out, HB.out⟩
  go_wp2_with fail
  go_loopw [3, 4] (fun v i wr => ∃ k : Nat, k ≤ n ∧ i = .int .i64 k ∧ wr.ownsRow w.heap.size 76 8 v k (ints (rowZ (fun i => 1 + (i : Int) % 2) (fun i => i) 1 c k)) ∧ Below w.heap.size w wr) (fun _ i _ => n - (intOf i).toNat)
  case atStart => exact ⟨0, Nat.zero_le _, rfl, World.ownsRow_made w #[] 0 (Nat.le_refl _) (by unfold maxLen; omega) rfl, (Below.refl _ _).alloc (Nat.le_refl _) _⟩
  case round =>
    obtain ⟨k, hk, rfl, hown, hb⟩ := hrel
    have k0 := ((bcell hb).1 _ _ hg).trans H0.out
    have k2 := ((bcell hb).1 _ _ hg).trans H2.out
    have hgr : g < wr.heap.size := blt hb hg
    have HB := Lib.hid hb
    have HOWN := Lib.hid hown
    clear hb hown
    by_cases hlt : k < n
    · go_wp2_with (first
        | (go_at_call 100; refine (l28Knit_any _ _ _ _ _ _ k2).mono ?_; rintro e w1 ⟨rfl, hb1⟩; have HB1 := Lib.hid hb1; clear hb1)
        | (at_builtin; go_must (refine wpList_app w1 rfl (.tmp 22) (.tmp 29) _ rfl w.heap.size 76 i0 _ 8 64 Try.underlying24 hi iz is ib rfl (by omega) u3 k _ rfl (own_below HOWN.out HB1.out) _ 1 1 _ rfl rfl (by simp [Value.oneCell']) (by unfold maxLen; omega) (by omega) (Nat.le_trans HB.out.size HB1.out.size) ?_); intro v' w' hown' hb'))
      go_wp2
      go_roundw
      case rel => exact ⟨k + 1, by omega, by go_num, by rw [rowV_next]; exact hown', (HB.out.trans (HB1.out.mono HB.out.size)).trans hb'⟩
      case measure => simp [intOf] <;> omega
    · obtain rfl : n = k := by omega
      have HB1 := Lib.hid HB.out
      have HO1 := Lib.hid HOWN.out
      clear HB HOWN
      go_wp2_with fail
      go_loopw [3, 5] (fun v i wr => ∃ k : Nat, k ≤ n ∧ i = .int .i64 (n - 1 - (k : Int)) ∧ wr.ownsRow w.heap.size 76 8 v (n + k) (ints (evenZ n c ++ rowZ (fun i => 2 - (n - 1 - (i : Int)) % 2) (fun i => n - 1 - (i : Int)) (-1) c k)) ∧ Below w.heap.size w wr) (fun _ i _ => (intOf i + 1).toNat)
      case atStart => exact ⟨0, Nat.zero_le _, by simp, by simpa [rowZ] using HO1.out, HB1.out⟩
      case round =>
        obtain ⟨k, hk, rfl, hown, hb⟩ := hrel
        have k0 := ((bcell hb).1 _ _ hg).trans H0.out
        have k2 := ((bcell hb).1 _ _ hg).trans H2.out
        have hgr : g < wr.heap.size := blt hb hg
        have HB := Lib.hid hb
        have HOWN := Lib.hid hown
        clear hb hown
        by_cases hlt : k < n
        · go_wp2_with (first
            | (go_at_call 100; refine (l28Knit_any _ _ _ _ _ _ k2).mono ?_; rintro e w1 ⟨rfl, hb1⟩; have HB1 := Lib.hid hb1; clear hb1)
            | (at_builtin; go_must (refine wpList_app w1 rfl (.tmp 40) (.tmp 47) _ rfl w.heap.size 76 i0 _ 8 64 Try.underlying24 hi iz is ib rfl (by omega) u3 (n + k) _ rfl (own_below HOWN.out HB1.out) _ 1 1 _ rfl rfl (by simp [Value.oneCell']) (by unfold maxLen; omega) (by omega) (Nat.le_trans HB.out.size HB1.out.size) ?_); intro v' w' hown' hb'))
          go_wp2
          go_roundw
          case rel => exact ⟨k + 1, by omega, by go_num, by rw [rowV_then]; exact hown', (HB.out.trans (HB1.out.mono HB.out.size)).trans hb'⟩
          case measure => simp [intOf] <;> omega
        · obtain rfl : k = n := by omega
          go_wp2
          go_ret
          exact ⟨_, rfl, HOWN.out, HB.out⟩
end Go.Proofs.Ytjegoffdkmbibaa
