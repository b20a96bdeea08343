/- Walk: MirrorPicture, by the program. No condition but the bounds. -/
import Derived.Test.YtacppheedleamaaReverses
import Derived.Test.YtacppheedleamaaFrontS
namespace Go.Proofs.Ytacppheedleamaa
open Go.RowKit
set_option maxRecDepth 20000

set_option maxHeartbeats 400000 in
theorem implMirrorPicture_any (A : Option Addr) (n c : Nat) (s : Nat → ByteArray) (w : World) (ha : Rd w A n (fun j => .string (s j))) (hn : n ≤ 1048576) (hs : ∀ j, j < n → (s j).size ≤ 1048576) :
    Calls Try.prog 20 #[.slice A n c] w (NewP w n n (fun j => .string (strF (s j).size (revB (s j))))) := by
  have HA := Lib.hid ha
  have HS := Lib.hid hs
  clear ha hs
  obtain ⟨i0, hi, iz, is, ib⟩ := info_parts infoString
  go_enter Try.func20, Try.ntmps20
  go_wp2_with fail
  go_loopw [3, 9] (fun v i wr => ∃ k : Nat, k ≤ n ∧ i = .int .i64 k ∧ wr.ownsRow w.heap.size 9 1 v k ((List.range k).map fun j => .string (strF (s j).size (revB (s j)))) ∧ Below w.heap.size w wr) (fun _ i _ => n - (intOf i).toNat)
  case atStart => exact ⟨0, Nat.zero_le _, rfl, World.ownsRow_made w #[] 0 (Nat.le_refl _) (by unfold maxLen; omega) rfl, (Below.refl _ _).alloc (Nat.le_refl _) _⟩
  case round =>
    obtain ⟨k, hk, rfl, hown, hb⟩ := hrel
    have HB := Lib.hid hb
    have HOWN := Lib.hid hown
    clear hb hown
    by_cases hlt : k < n
    · obtain ⟨g, o, rfl, hg, hra⟩ := HA.out (by omega)
      have hc := ((bcell HB.out).1 _ _ hg).trans (hra k hlt)
      clear hra
      have hsz := HS.out k hlt
      go_wp2_with fail
      refine (reversed_any (s k) _ hsz).mono ?_
      rintro e w1 ⟨A1, c1, rfl, hnew⟩
      have HB1 := Lib.hid (HB.out.trans (hnew.bl.mono HB.out.size))
      have HO1 := Lib.hid (own_below HOWN.out hnew.bl)
      have kc := conv_rd (c := c1) hnew.rd
      clear hnew
      go_wp2_with (at_builtin; go_must (refine wpList_app w1 rfl (.tmp 13) (.tmp 17) _ rfl w.heap.size 9 i0 _ 1 16 Try.underlying46 hi iz is ib rfl (by omega) u3 k _ rfl HO1.out _ 1 1 _ rfl rfl (by simp [Value.oneCell']) (by unfold maxLen; omega) (by omega) HB1.out.size ?_); intro v' w' hown' hb')
      go_wp2
      go_roundw
      case rel =>
        refine ⟨k + 1, by omega, by go_num, ?_, HB1.out.trans hb'⟩
        rw [List.range_succ, List.map_append, List.map_cons, List.map_nil]
        exact hown'
      case measure => simp [intOf] <;> omega
    · obtain rfl : k = n := by omega
      obtain ⟨A', c, rfl, hnew⟩ := New.of_own HB.out HOWN.out
      have HN := Lib.hid (hnew.congr (f' := fun j => .string (strF (s j).size (revB (s j)))) (fun j hj => by simp at hj; simp [List.getD, hj]))
      rw [Nat.mul_one] at HN
      clear hnew
      go_wp2
      go_ret
      exact ⟨_, _, rfl, HN.out⟩
end Go.Proofs.Ytacppheedleamaa
