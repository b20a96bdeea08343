/- Walks: both BraidPicture: the same lines in new memory; nothing of a braid that is not valid. No condition but the bounds. -/
import Derived.Test.YtacppheedleamaaConv
import Derived.Test.YtacppheedleamaaStrands
import Derived.Test.YtacppheedleamaaBraidOk
import Derived.Test.YtacppheedleamaaStrLaw
import Derived.Test.YtacppheedleamaaQuietTail
import Derived.Test.YtacppheedleamaaAppR
namespace Go.Proofs.Ytacppheedleamaa
open Go.RowKit
set_option maxRecDepth 20000

def picF (S : Nat) (z : Nat → Int) (j : Nat) : ByteArray := if j = 0 then strF (2 * S - 1) lineZ else strF (2 * S - 1) (crossZ lineZ ((z (j - 1)).natAbs - 1) (decide (0 < z (j - 1))))
def picV (S : Nat) (z : Nat → Int) (m : Nat) : List Value := (List.range m).map fun j => .string (picF S z j)
theorem picF_zero (S : Nat) (z : Nat → Int) : picF S z 0 = strF (2 * S - 1) lineZ := rfl
theorem picF_next (S : Nat) (z : Nat → Int) (k : Nat) : picF S z (k + 1) = strF (2 * S - 1) (crossZ lineZ ((z k).natAbs - 1) (decide (0 < z k))) := rfl
theorem picV_next (S : Nat) (z : Nat → Int) (m : Nat) : picV S z (m + 1) = picV S z m ++ [.string (picF S z m)] := by simp [picV, List.range_succ]

set_option maxHeartbeats 2000000 in
theorem braidPicture_any (S : Nat) (A : Option Addr) (n c : Nat) (z : Nat → Int) (w : World) (ha : Rd w A n (fun j => .int .i64 (z j))) (hS1 : S ≤ 12) (hn : n ≤ 40) (hall : lettersB S z n = true) :
    Calls Try.prog 45 #[.agg #[.int .i64 S, .slice A n c]] w (NewPC w (n + 1) (n + 1) (fun j => .string (picF S z j))) := by
  obtain ⟨i0, hi, iz, is, ib⟩ := info_parts infoString
  have HALL := Lib.hid (lettersB_all hall)
  have hb : Below w.heap.size w (w.alloc (.cells #[.int .i64 S, .slice A n c] 53)) := (Below.refl _ _).alloc (Nat.le_refl _) _
  have HA := Lib.hid (ha.below hb)
  have hx0 := box_new w #[.int .i64 S, .slice A n c] 53
  have HX0 := Lib.hid hx0
  clear ha hx0 hall
  go_enter Try.func45, Try.ntmps45
  go_wp2_with fail
  refine (strandsLine_any S _ (by omega)).mono ?_
  rintro e w1 ⟨A1, c1, rfl, hp1⟩
  have kc := conv_rd (c := c1) hp1.rd
  have hB1 : Below (w.heap.size + 1) (w.alloc (.cells #[.int .i64 S, .slice A n c] 53)) w1 := hp1.bl.mono (by simp)
  have HB1 := Lib.hid hB1
  have hz1 := hB1.size
  simp only [World.size_alloc] at hz1
  have hbx : ∀ o, w1.cell? ⟨w.heap.size, o, none⟩ = (#[.int .i64 S, .slice A n c] : Array Value)[o]? := fun o => ((bcell hB1).1 _ o (by omega)).trans (HX0.out o)
  have hbx2 : ∀ o, (w1.alloc (.cells #[.string (strF (2 * S - 1) lineZ)] 9)).cell? ⟨w.heap.size, o, none⟩ = (#[.int .i64 S, .slice A n c] : Array Value)[o]? := fun o => (World.cell?_alloc_lt w1 _ ⟨w.heap.size, o, none⟩ (by show w.heap.size < _; omega)).trans (hbx o)
  clear hp1 hB1 hb
  go_wp2_with fail
  clear kc hbx hbx2
  have HO1 := Lib.hid (own_lit (base := w.heap.size + 1) (e := 9) (size := 1) w1 [.string (strF (2 * S - 1) lineZ)] 1 hz1 (by unfold maxLen; omega) rfl)
  go_loopw [3, 14] (fun v i wr => ∃ k : Nat, k ≤ n ∧ i = .int .i64 k ∧ wr.ownsRow (w.heap.size + 1) 9 1 v (k + 1) (picV S z (k + 1)) ∧ Below (w.heap.size + 1) (w.alloc (.cells #[.int .i64 S, .slice A n c] 53)) wr) (fun _ i _ => n - (intOf i).toNat)
  case atStart => exact ⟨0, Nat.zero_le _, rfl, HO1.out, HB1.out.alloc hz1 _⟩
  case round =>
    obtain ⟨k, hk, rfl, hown, hbl⟩ := hrel
    have hbx : ∀ o, wr.cell? ⟨w.heap.size, o, none⟩ = (#[.int .i64 S, .slice A n c] : Array Value)[o]? := fun o => ((bcell hbl).1 _ o (by omega)).trans (HX0.out o)
    have hs0 := hbl.size
    simp only [World.size_alloc] at hs0
    have HB := Lib.hid hbl
    have HOWN := Lib.hid hown
    clear hbl hown
    by_cases hlt : k < n
    · obtain ⟨g, o, rfl, hg, hr⟩ := HA.out (by omega)
      have hcw := ((bcell HB.out).1 _ _ (by simpa using hg)).trans (hr k hlt)
      clear hr
      obtain ⟨x, hx⟩ : ∃ x, x = z k := ⟨_, rfl⟩
      have hxl := HALL.out k hlt
      simp only [← hx] at hcw hxl
      have HX := Lib.hid hx
      obtain ⟨x1, x2, x3⟩ := hxl
      clear hx
      go_wp2_with fail
      refine (letterLine_any S x _ (by omega) x1 (by omega)).mono ?_
      rintro e w4 ⟨A3, c3, rfl, hp3⟩
      have hs4 := hp3.bl.size
      have HB4 := Lib.hid (HB.out.trans (hp3.bl.mono (by omega)))
      have HOWN4 := Lib.hid (own_below HOWN.out hp3.bl)
      have kc := conv_rd (c := c3) hp3.rd
      clear hp3 hcw hbx
      go_wp2_with (at_builtin; go_must (refine wpList_app w4 rfl (.tmp 18) (.tmp 24) _ rfl (w.heap.size + 1) 9 i0 _ 1 16 Try.underlying46 hi iz is ib rfl (by omega) u3 (k + 1) (picV S z (k + 1)) rfl HOWN4.out _ 1 1 _ rfl rfl (by simp [Value.oneCell']) (by unfold maxLen; omega) (by omega) (by omega) ?_); intro v' w' hown' hb')
      clear kc
      have HOWN' := Lib.hid hown'
      clear hown'
      go_wp2
      go_roundw
      case rel => exact ⟨k + 1, by omega, by go_num, by rw [picV_next S z (k + 1), picF_next, ← HX.out]; exact HOWN'.out, HB4.out.trans hb'⟩
      case measure => simp [intOf] <;> omega
    · obtain rfl : n = k := by omega
      obtain ⟨A4, c4, rfl, hcc, hnew⟩ := New.of_own_c (w := w) (((Below.refl _ _).alloc (Nat.le_refl _) _).trans (HB.out.mono (by omega))) (own_base HOWN.out (by omega))
      have HN := Lib.hid hnew
      have HCC := Lib.hid hcc
      clear hnew hcc
      go_wp2
      go_ret
      refine ⟨A4, c4, rfl, HCC.out, ?_⟩
      have := HN.out
      rw [Nat.mul_one] at this
      exact this.congr fun j hj => by simp [picV, List.getD, hj]

def picN (s : Int) (n : Nat) (z : Nat → Int) : Nat := if braidB s n z then n + 1 else 0
theorem picN_le (s : Int) (n : Nat) (z : Nat → Int) : picN s n z ≤ 41 := by
  unfold picN
  split
  · rename_i h
    simp only [braidB, Bool.and_eq_true] at h
    have : n ≤ 40 := by simpa using h.1.2
    omega
  · omega
theorem picN_yes {s : Int} {n : Nat} {z : Nat → Int} (h : braidB s n z = true) : picN s n z = n + 1 := by rw [picN, if_pos h]
theorem picN_no {s : Int} {n : Nat} {z : Nat → Int} (h : braidB s n z = false) : picN s n z = 0 := by rw [picN, if_neg (by simp [h])]
theorem braidB_parts {s : Int} {n : Nat} {z : Nat → Int} (h : braidB s n z = true) : ∃ S : Nat, s = S ∧ S ≤ 12 ∧ n ≤ 40 ∧ lettersB s z n = true := by
  simp only [braidB, Bool.and_eq_true] at h
  have := inB_true h.1.1
  exact ⟨s.toNat, by omega, by omega, by simpa using h.1.2, h.2⟩
theorem implBraidPictureC_any (s : Int) (A : Option Addr) (n c : Nat) (z : Nat → Int) (w : World) (ha : Rd w A n (fun j => .int .i64 (z j))) (hn : n ≤ 1048576) :
    Calls Try.prog 22 #[.agg #[.int .i64 s, .slice A n c]] w (NewPC w (picN s n z) (picN s n z) (fun j => .string (picF s.toNat z j))) := by
  have hb : Below w.heap.size w (w.alloc (.cells #[.int .i64 s, .slice A n c] 53)) := (Below.refl _ _).alloc (Nat.le_refl _) _
  have HX0 := Lib.hid (box_new w #[.int .i64 s, .slice A n c] 53)
  have HA := Lib.hid (ha.below hb)
  have HB := Lib.hid hb
  clear ha hb
  cases hv : braidB s n z
  · rw [picN_no hv]
    have HV := Lib.hid hv
    clear hv
    go_enter Try.func22, Try.ntmps22
    go_wp2_with fail
    refine (validBraid_any s A n c z _ HA.out hn).mono ?_
    rintro e w1 ⟨rfl, hb1⟩
    rw [HV.out]
    have HB1 := Lib.hid (HB.out.trans (hb1.mono (by simp)))
    clear hb1
    go_wp2
    go_ret
    exact ⟨none, 0, rfl, cap0, New.none_ HB1.out _⟩
  · obtain ⟨S, rfl, hS, hn2, hall⟩ := braidB_parts hv
    rw [picN_yes hv]
    have HV := Lib.hid hv
    have HALL := Lib.hid hall
    clear hv hall
    go_enter Try.func22, Try.ntmps22
    go_wp2_with fail
    refine (validBraid_any S A n c z _ HA.out hn).mono ?_
    rintro e w1 ⟨rfl, hb1⟩
    rw [HV.out]
    have hbx : ∀ o, w1.cell? ⟨w.heap.size, o, none⟩ = (#[.int .i64 S, .slice A n c] : Array Value)[o]? := fun o => ((bcell hb1).1 _ o (by simp)).trans (HX0.out o)
    have HA1 := Lib.hid (HA.out.below hb1)
    have HB1 := Lib.hid (HB.out.trans (hb1.mono (by simp)))
    clear hb1
    go_wp2_with fail
    refine (braidPicture_any S A n c z _ HA1.out hS hn2 HALL.out).mono ?_
    rintro e w2 ⟨A2, c2, rfl, hcc, hp⟩
    have HP := Lib.hid hp
    clear hp hbx
    go_wp2
    go_ret
    exact ⟨A2, c2, rfl, hcc, HP.out.under HB1.out⟩
theorem implBraidPicture_any (s : Int) (A : Option Addr) (n c : Nat) (z : Nat → Int) (w : World) (ha : Rd w A n (fun j => .int .i64 (z j))) (hn : n ≤ 1048576) :
    Calls Try.prog 22 #[.agg #[.int .i64 s, .slice A n c]] w (NewP w (picN s n z) (picN s n z) (fun j => .string (picF s.toNat z j))) := (implBraidPictureC_any s A n c z w ha hn).mono fun _ _ ⟨A', c', h1, _, h2⟩ => ⟨A', c', h1, h2⟩
end Go.Proofs.Ytacppheedleamaa
