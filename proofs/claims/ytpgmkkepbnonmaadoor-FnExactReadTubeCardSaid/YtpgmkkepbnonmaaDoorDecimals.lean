/- Walk: a list of numbers as decimals with blanks between them, by the program. No condition but the bounds and strconv's table. -/
import Derived.Test.YtpgmkkepbnonmaaDoorDecI
import Derived.Test.YtpgmkkepbnonmaaDoorShStringsJoinNone
namespace Go.Proofs.YtpgmkkepbnonmaaDoor
open Go.RowKit
set_option maxRecDepth 20000

def decB (n : Int) : Prop := -9223372036854775808 ≤ n ∧ n ≤ 9223372036854775807
/-- The decimals of the first n numbers, with blanks between them. -/
def decsS (z : Nat → Int) (n : Nat) : ByteArray := ⟨(Lib.join ((List.range n).map fun j => (dec (z j)).data.toList) [32]).toArray⟩
def decsV (z : Nat → Int) (n : Nat) : List Value := (List.range n).map fun j => .string (dec (z j))
theorem decsV_next (z : Nat → Int) (n : Nat) : decsV z (n + 1) = decsV z n ++ [.string (dec (z n))] := by simp [decsV, List.range_succ]
theorem joinTail_le (r : List (List UInt8)) (h : ∀ x ∈ r, x.length ≤ 20) : (Lib.joinTail [32] r).length ≤ r.length * 21 := by
  induction r with
  | nil => simp [Lib.joinTail]
  | cons x r ih =>
    have h1 := ih fun y hy => h y (by simp [hy])
    have h2 := h x (by simp)
    simp only [Lib.joinTail, List.map_cons, List.flatten_cons, List.length_append, List.length_cons, List.length_nil] at h1 ⊢
    omega
theorem join_le (xs : List (List UInt8)) (h : ∀ x ∈ xs, x.length ≤ 20) : (Lib.join xs [32]).length ≤ xs.length * 21 := by
  cases xs with
  | nil => simp [Lib.join_nil]
  | cons x r =>
    rw [Lib.join_cons]
    have h1 := joinTail_le r fun y hy => h y (by simp [hy])
    have h2 := h x (by simp)
    simp only [List.length_append, List.length_cons]
    omega
theorem infoStr : (Tryd.prog.info? 9).map (fun i => (i.zero, i.size, i.bytes)) = some (some (.string ByteArray.empty), 1, 16) := by kernel_rfl
theorem decs_lens (z : Nat → Int) (n : Nat) (hz : ∀ j, j < n → decB (z j)) : ∀ x ∈ (List.range n).map fun j => (dec (z j)).data.toList, x.length ≤ 20 := fun x hx => by
  obtain ⟨j, hj, rfl⟩ := List.mem_map.1 hx
  have hb := hz j (by simpa using hj)
  have := dec_size (z j) hb.1 hb.2
  show (dec (z j)).data.toList.length ≤ 20
  rw [Array.length_toList]
  exact this
theorem decsS_size (z : Nat → Int) (n : Nat) (hz : ∀ j, j < n → decB (z j)) : (decsS z n).size ≤ n * 21 := by
  have := join_le _ (decs_lens z n hz)
  rw [List.length_map, List.length_range] at this
  exact this

set_option maxHeartbeats 1000000 in
theorem decimals_any (A : Option Addr) (n c : Nat) (z : Nat → Int) (w : World) (ha : Rd w A n (fun j => .int .i64 (z j))) (hn : n ≤ 1048576) (hz : ∀ j, j < n → decB (z j)) (ht : Tab w) :
    Calls Tryd.prog 37 #[.slice A n c] w fun e w' => e = .returned (.string (decsS z n)) ∧ Below w.heap.size w w' := by
  obtain ⟨i0, hi, iz, is, ib⟩ := info_parts infoStr
  have HA := Lib.hid ha
  have HZ := Lib.hid hz
  have HT := Lib.hid ht
  clear ha hz ht
  go_enter Tryd.func37, Tryd.ntmps37
  go_wp2_with fail
  go_loopw [3, 5, 9] (fun v _ i wr => ∃ j : Nat, j ≤ n ∧ i = .int .i64 j ∧ wr.ownsRow w.heap.size 9 1 v j (decsV z j) ∧ Below w.heap.size w wr) (fun _ _ i _ => n - (intOf i).toNat)
  case atStart => exact ⟨0, Nat.zero_le _, rfl, World.ownsRow_made w #[] 0 (Nat.le_refl _) (by unfold maxLen; omega) rfl, by (repeat' first | with_reducible exact Below.refl _ _ | with_reducible refine Below.alloc ?_ ?_ _ | with_reducible refine Below.setCell ?_ ?_ _ | with_reducible refine Below.drew ?_ | with_reducible refine Below.drewN' ?_ _ | with_reducible (refine Below.trans ?_ (Below.mono (by assumption) ?_)) | exact Nat.le_refl _ | (simp; done) | (simp; omega) | omega)⟩
  case round =>
    obtain ⟨j, hj, rfl, hown, hb⟩ := hrel
    have HOWN := Lib.hid hown
    have HB := Lib.hid hb
    by_cases hlt : j < n
    · obtain ⟨g, a0, rfl, hg, hra⟩ := HA.out (by omega)
      have hcw := ((bcell HB.out).1 _ _ hg).trans (hra j hlt)
      clear hra hown hb
      obtain ⟨x, hx⟩ : ∃ x, x = z j := ⟨_, rfl⟩
      have hxb := HZ.out j hlt
      simp only [← hx] at hcw hxb
      have HX := Lib.hid hx
      have HXB := Lib.hid hxb
      clear hx hxb
      go_wp2_with (first
        | (go_at_call 31; refine (Decimal_any x HXB.out.1 HXB.out.2 _ (HT.out.below HB.out)).mono ?_; rintro e w2 ⟨rfl, hb2⟩; have HB2 := Lib.hid (HB.out.trans (hb2.mono HB.out.size)); have HOWN2 := Lib.hid (own_below HOWN.out hb2); clear hb2)
        | (at_builtin; go_must (refine wpList_app w2 rfl (.tmp 13) (.tmp 16) _ rfl w.heap.size 9 i0 _ 1 16 Tryd.underlying33 hi iz is ib rfl (by omega) u3 j (decsV z j) rfl HOWN2.out _ 1 1 _ rfl rfl (by simp [Value.oneCell']) (by unfold maxLen; omega) (by omega) HB2.out.size ?_); intro v' w' hown' hb'; have HOWN' := Lib.hid hown'; have HB' := Lib.hid (HB2.out.trans hb'); clear hown' hb'))
      go_roundw
      case rel => exact ⟨j + 1, by omega, by go_num, by rw [decsV_next, ← HX.out]; exact HOWN'.out, HB'.out⟩
      case measure => simp [intOf] <;> omega
    · obtain rfl : n = j := by omega
      have hlen := join_le _ (decs_lens z n HZ.out)
      rcases hown.2 with ⟨rfl, hnil⟩ | ⟨g, cap, cur, rfl, hg, hh, hnc, hmax, _⟩
      · have hn0 : n = 0 := by simpa [decsV] using hnil
        subst hn0
        clear hb hown hlen hnil
        go_wp2_with fail
        refine (Tryd.strings_Join_none none 0 _ _).mono ?_
        rintro e w2 ⟨rfl, rfl⟩
        go_wp2
        go_ret
        exact ⟨by simp [decsS, Lib.join_nil], HB.out⟩
      · rcases Nat.eq_zero_or_pos n with hz0 | hpos
        · subst hz0
          clear hb hown hlen
          go_wp2_with fail
          refine (Tryd.strings_Join_none _ _ _ _).mono ?_
          rintro e w2 ⟨rfl, rfl⟩
          go_wp2
          go_ret
          exact ⟨by simp [decsS, Lib.join_nil], HB.out⟩
        · have hxs : ((List.range n).map fun j => dec (z j)).length = n := by simp
          have hJ := Tryd.strings_Join g 0 cap ((List.range n).map fun j => dec (z j)) ⟨#[32]⟩ wr (fun j x hx => by
            obtain ⟨hj', hx'⟩ := List.getElem?_eq_some_iff.1 hx
            rw [hxs] at hj'
            rw [Nat.zero_add, hown.cellAt j (by omega)]
            simp at hx'
            simp [decsV, hj', hx']) (Array.getElem?_eq_some_iff.1 hh).1 (by rw [hxs]; omega) (by rw [hxs]; exact hnc) (by simp only [List.map_map] at *; simp at hlen ⊢; exact Nat.le_trans hlen (by omega))
          rw [hxs] at hJ
          have HJ := Lib.hid hJ
          clear hb hown hlen hh hJ hxs
          go_wp2_with fail
          refine HJ.out.mono ?_
          rintro e w2 ⟨rfl, hb2⟩
          have HB2 := Lib.hid (HB.out.trans (hb2.mono HB.out.size))
          clear hb2
          go_wp2
          go_ret
          exact ⟨by simp [decsS, Function.comp_def], HB2.out⟩
end Go.Proofs.YtpgmkkepbnonmaaDoor
