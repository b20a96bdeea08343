/- Walks: the front picture of a chart, by the reference. No condition but the bounds. -/
import Derived.Test.YtpgmkkepbnonmaaChartH
import Derived.Test.YtpgmkkepbnonmaaStrLaw
namespace Go.Proofs.Ytpgmkkepbnonmaa
open Go.RowKit
set_option maxRecDepth 20000

/-- The byte of a stitch in pictures. -/
def syB (k : Int) : Int := if k = 1 then 86 else if k = 2 then 45 else if k = 3 then 79 else if k = 4 then 47 else if k = 5 then 92 else if k = 6 then 85 else if k = 7 then 124 else if k = 8 then 120 else if k = 9 then 121 else if k = 10 then 88 else 89
/-- The line of the first stitches. -/
def lnL (z : Nat → Int) : Nat → List Int
  | 0 => []
  | i + 1 => lnL z i ++ List.replicate (mkN (z i)) (syB (z i))
theorem lnL_length (z : Nat → Int) (i : Nat) : (lnL z i).length = segM z i := by
  induction i with
  | zero => rfl
  | succ i ih => simp only [lnL, segM, List.length_append, ih, List.length_replicate]
theorem son_append (a b : List Int) : strOfNums a ++ strOfNums b = strOfNums (a ++ b) := by
  apply ByteArray.ext
  simp [strOfNums]
set_option maxHeartbeats 2000000 in
theorem l30Bytes_any (k : Int) (w : World) (h : 1 ≤ k ∧ k ≤ 11) : Calls Try.prog 107 #[.int .i64 k] w fun e w' => e = .returned (.string (strOfNums (List.replicate (mkN k) (syB k)))) ∧ Below w.heap.size w w' := by
  by_cases hk : k ≤ 7
  · have h7 : k = 1 ∨ k = 2 ∨ k = 3 ∨ k = 4 ∨ k = 5 ∨ k = 6 ∨ k = 7 := by omega
    rcases h7 with rfl | rfl | rfl | rfl | rfl | rfl | rfl
    all_goals
      go_enter Try.func107, Try.ntmps107
      go_wp2
      go_ret
      exact ⟨rfl, Below.refl _ _⟩
  · have h4 : k = 8 ∨ k = 9 ∨ k = 10 ∨ k = 11 := by omega
    have hsy : ∀ w', Calls Try.prog 156 #[.int .i64 k] w' fun e w'' => e = .returned (.string (strOfNums [syB k])) ∧ w' = w'' := fun w' => by
      rcases h4 with rfl | rfl | rfl | rfl
      all_goals
        go_enter Try.func156, Try.ntmps156
        go_wp2_with (first | (go_at_call 201; refine (l14Kind_any _ _).mono ?_; rintro e w' ⟨rfl, rfl⟩; rw [show ∀ k : Int, kindB k = inB k 1 11 from fun _ => rfl]; simp only [inB]) | go_in)
        go_ret
        exact ⟨rfl, rfl⟩
    have HSY := Lib.hid hsy
    have hne : ¬ k = 1 ∧ ¬ k = 2 ∧ ¬ k = 3 ∧ ¬ k = 4 ∧ ¬ k = 5 ∧ ¬ k = 6 ∧ ¬ k = 7 := by omega
    obtain ⟨n1, n2, n3, n4, n5, n6, n7⟩ := hne
    have hmk := mkN_le k
    clear hsy hk h4
    obtain ⟨b, hb⟩ : ∃ b, b = syB k := ⟨_, rfl⟩
    have HB0 := Lib.hid hb
    rw [← hb]
    clear hb
    go_enter Try.func107, Try.ntmps107
    go_wp2_with fail
    with_reducible refine (specColumnsMade_any _ _ h).mono ?_
    rintro e w1 ⟨rfl, hb1⟩
    have HB1 := Lib.hid hb1
    clear hb1
    go_wp2_with fail
    go_loopg [3, 4] (mkN k) (fun q v kk wr => ∃ j : Nat, j ≤ mkN k ∧ q + j = mkN k ∧ kk = .int .i64 ((mkN k - j : Nat) : Int) ∧ (∃ S, v = .string S ∧ Hid (S = strOfNums (List.replicate j b)) ∧ S.size ≤ 4) ∧ wr = w1)
    case atStart => exact ⟨0, Nat.zero_le _, rfl, rfl, ⟨⟨#[]⟩, rfl, Lib.hid rfl, by simp [ByteArray.size]⟩, rfl⟩
    case round =>
      obtain ⟨j, hj, hq, rfl, ⟨S, rfl, HS, hS⟩, rfl⟩ := hrel
      by_cases hlt : j < mkN k
      · have b1 : (0 : Int) < ((mkN k - j : Nat) : Int) := by omega
        have hz : (strOfNums [b]).size = 1 := strOfNums_size _
        have hq1 : ¬ 9223372036854775807 < S.size + 1 := by omega
        go_wp2_with (go_at_call 156; refine (HSY.out _).mono ?_; rintro e w' ⟨rfl, rfl⟩; rw [← HB0.out])
        go_roundg (mkN k - (j + 1))
        case measure => omega
        case rel => exact ⟨j + 1, by omega, by omega, i64c (by omega), ⟨_, rfl, Lib.hid (by rw [HS.out, son_append, List.replicate_succ']), by rw [HS.out, son_append, strOfNums_size]; simp; omega⟩, rfl⟩
      · obtain rfl : j = mkN k := by omega
        go_wp2
        go_ret
        exact ⟨ret_str HS.out, HB1.out⟩

def fpT (n : Nat) (ns : Nat → Nat) (z : Nat → Nat → Int) (k : Nat) : ByteArray := strOfNums (lnL (z (n - 1 - k)) (ns (n - 1 - k)))
def fpV (n : Nat) (ns : Nat → Nat) (z : Nat → Nat → Int) (m : Nat) : List Value := (List.range m).map fun j => .string (fpT n ns z j)
theorem fpV_next (n : Nat) (ns : Nat → Nat) (z : Nat → Nat → Int) (m : Nat) : fpV n ns z (m + 1) = fpV n ns z m ++ [.string (fpT n ns z m)] := by simp [fpV, List.range_succ]
/-- The stitches of all rows are stitches. -/
def KindsOk (n : Nat) (ns : Nat → Nat) (z : Nat → Nat → Int) : Prop := ∀ r, r < n → stitchesB (z r) (ns r) = true
theorem chartB_of {cols : Int} {n : Nat} {d c : Nat → Int} {ns : Nat → Nat} {z : Nat → Nat → Int} (h : chartB cols n d c ns z = true) : 1 ≤ cols ∧ cols ≤ 8 ∧ 1 ≤ n ∧ n ≤ 8 ∧ KindsOk n ns z := by
  simp only [chartB, Bool.and_eq_true, decide_eq_true_eq] at h
  obtain ⟨⟨h1, h2⟩, h3⟩ := h
  have := inB_of h1
  refine ⟨this.1, this.2, h2.1, h2.2, fun r hr => ?_⟩
  have := rowsB_all h3 r hr
  simp only [rowB, Bool.and_eq_true] at this
  exact this.1.1.2
set_option maxHeartbeats 4000000 in
theorem l30Front_any (g0 o0 : Nat) (cols : Int) (A : Option Addr) (n q : Nat) (d c : Nat → Int) (As : Nat → Option Addr) (ns cs : Nat → Nat) (z : Nat → Nat → Int) (w : World) (H : Hid (ChartAt w g0 o0 cols A n q)) (ha : RdRows A n d c As ns cs z w) (hn : n ≤ 8) (hk : KindsOk n ns z) :
    Calls Try.prog 50 #[.pointer (some ⟨g0, o0, none⟩)] w (NewP w n n (fun j => .string (fpT n ns z j))) := by
  obtain ⟨i0, hi, iz, is, ib⟩ := info_parts infoString
  have HA := Lib.hid ha
  have LA := Lib.hid (rdRows_obj A n d c As ns cs z)
  have HK := Lib.hid hk
  have h1 := H.out.c1
  have hg0 : g0 < w.heap.size := World.block_lt_of_cell? w _ h1
  clear ha hk
  go_enter Try.func50, Try.ntmps50
  go_wp2
  clear h1
  go_loopg [3, 4] n (fun qq v iv wr => ∃ k : Nat, k ≤ n ∧ qq + k = n ∧ (∃ i' : Int, iv = .int .i64 i' ∧ Hid (i' = (n : Int) - 1 - k) ∧ -1 ≤ i' ∧ i' ≤ 8) ∧ wr.ownsRow w.heap.size 9 1 v k (fpV n ns z k) ∧ Below w.heap.size w wr)
  case atStart => exact ⟨0, Nat.zero_le _, rfl, ⟨_, rfl, Lib.hid (by omega), by omega, by omega⟩, World.ownsRow_made _ #[] 0 (Nat.le_refl _) (by unfold maxLen; omega) rfl, (Below.refl _ _).alloc (Nat.le_refl _) _⟩
  case round =>
    obtain ⟨k, hkn, hq, ⟨i', rfl, HI, hi1, hi2⟩, hown, hbl⟩ := hrel
    have HB := Lib.hid hbl
    have HOWN := Lib.hid hown
    clear hown hbl
    by_cases hlt : k < n
    · obtain ⟨r, rfl⟩ := Int.eq_ofNat_of_zero_le (show 0 ≤ i' by have := HI.out; omega)
      have hr : r = n - 1 - k := by have := HI.out; omega
      have hrn : r < n := by omega
      have HR := Lib.hid hr
      obtain ⟨hm16, hzk⟩ := stitchesB_of (HK.out r hrn)
      have HZK := Lib.hid hzk
      clear hr hzk
      go_wp2_with fail
      go_loopg [5, 6] (ns r) (fun q2 v kk wi => ∃ j : Nat, j ≤ ns r ∧ q2 + j = ns r ∧ kk = .int .i64 j ∧ (∃ S, v = .string S ∧ Hid (S = strOfNums (lnL (z r) j)) ∧ S.size ≤ 4 * j) ∧ wi.ownsRow w.heap.size 9 1 u3 k (fpV n ns z k) ∧ Below w.heap.size w wi)
      case atStart => exact ⟨0, Nat.zero_le _, rfl, rfl, ⟨⟨#[]⟩, rfl, Lib.hid rfl, by simp [ByteArray.size]⟩, HOWN.out, HB.out⟩
      case round =>
        obtain ⟨j, hj, hqj, rfl, ⟨S, rfl, HS, hS⟩, hown2, hb2⟩ := hrel
        have HB2 := Lib.hid hb2
        have HOWN2 := Lib.hid hown2
        clear hb2 hown2
        have h1 := (H.out.below HB2.out).c1
        have hrr := LA.out.below HA.out HB2.out
        obtain ⟨gA, oA, rfl, hgA, _, _, r2⟩ := RdRows.row hrr hrn
        have HZ := Lib.hid (hrr.2 r hrn)
        clear hrr
        have b1 : (0 : Int) ≤ (r : Int) := by omega
        have b2 : (r : Int) < (n : Int) := by omega
        by_cases hltj : j < ns r
        · obtain ⟨gz, oz, ez, hgz, hrz⟩ := HZ.out (by omega)
          rw [ez] at r2
          have hcz := hrz j hltj
          have hzk := HZK.out j hltj
          have HLN := Lib.hid (show lnL (z r) (j + 1) = lnL (z r) j ++ List.replicate (mkN (z r j)) (syB (z r j)) from rfl)
          have hmk := mkN_le (z r j)
          clear hrz
          obtain ⟨y, hy⟩ : ∃ y, y = z r j := ⟨_, rfl⟩
          simp only [← hy] at hcz hzk HLN hmk
          clear hy
          obtain ⟨T, hT⟩ : ∃ T, T = strOfNums (List.replicate (mkN y) (syB y)) := ⟨_, rfl⟩
          have hTs : T.size = mkN y := by rw [hT, strOfNums_size, List.length_replicate]
          have hTs4 : T.size ≤ 4 := by omega
          have HT := Lib.hid hT
          have hq1 : ¬ 9223372036854775807 < S.size + T.size := by omega
          clear hT hTs
          go_wp2_with fail
          with_reducible refine (l30Bytes_any y _ hzk).mono ?_
          rintro e w3 ⟨rfl, hb3⟩
          rw [← HT.out]
          have HB3 := Lib.hid (HB2.out.trans (hb3.mono HB2.out.size))
          have HOWN3 := Lib.hid (own_below HOWN2.out hb3)
          clear hb3 hcz r2 h1
          go_wp2
          go_roundg (ns r - (j + 1))
          case measure => omega
          case rel => exact ⟨j + 1, by omega, by omega, by go_num, ⟨_, rfl, Lib.hid (by rw [HS.out, HT.out, son_append, HLN.out]), by rw [ByteArray.size_append]; omega⟩, HOWN3.out, HB3.out⟩
        · obtain rfl : j = ns r := by omega
          go_wp2_with (at_builtin; go_must (refine wpList_app wr rfl (.tmp 45) (.tmp 47) _ rfl w.heap.size 9 i0 _ 1 16 Try.underlying24 hi iz is ib rfl (by omega) u3 k (fpV n ns z k) rfl HOWN2.out _ 1 1 _ rfl rfl (by simp [Value.oneCell']) (by unfold maxLen; omega) (by omega) HB2.out.size ?_); intro v' w' hown' hb'; have HOWN' := Lib.hid hown'; have HB' := Lib.hid (HB2.out.trans hb'); clear hown' hb')
          go_roundg (n - (k + 1))
          case measure => omega
          case rel => exact ⟨k + 1, by omega, by omega, ⟨_, rfl, Lib.hid (by have := HI.out; omega), by omega, by omega⟩, by rw [fpV_next, fpT, ← HR.out, ← HS.out]; exact HOWN'.out, HB'.out⟩
    · have hi0 : i' < 0 := by have := HI.out; omega
      obtain rfl : n = k := by omega
      obtain ⟨A4, c4, rfl, hnew⟩ := New.of_own (w := w) HB.out HOWN.out
      have HN := Lib.hid hnew
      clear hnew
      go_wp2
      go_ret
      refine ⟨A4, c4, rfl, ?_⟩
      have := HN.out
      rw [Nat.mul_one] at this
      exact this.congr fun j hj => by simp [fpV, List.getD, hj]
end Go.Proofs.Ytpgmkkepbnonmaa
