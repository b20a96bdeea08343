/- Walks: both BraidPicture: the same lines in new memory; nothing of a braid that is not valid. No condition but the bounds. -/
import Derived.Test.YtjegoffdkmbibaaConv
import Derived.Test.YtjegoffdkmbibaaStrands
import Derived.Test.YtjegoffdkmbibaaBraidOk
import Derived.Test.YtjegoffdkmbibaaStrLaw
import Derived.Test.YtjegoffdkmbibaaQuietTail
namespace Go.Proofs.Ytjegoffdkmbibaa
open Go.RowKit
set_option maxRecDepth 20000

def picF (S : Nat) (z : Nat → Int) (j : Nat) : ByteArray := if j = 0 then strF (2 * S - 1) lineZ else strF (2 * S - 1) (crossZ lineZ ((z (j - 1)).natAbs - 1) (decide (0 < z (j - 1))))
def picV (S : Nat) (z : Nat → Int) (m : Nat) : List Value := (List.range m).map fun j => .string (picF S z j)
theorem picF_zero (S : Nat) (z : Nat → Int) : picF S z 0 = strF (2 * S - 1) lineZ := rfl
theorem picF_next (S : Nat) (z : Nat → Int) (k : Nat) : picF S z (k + 1) = strF (2 * S - 1) (crossZ lineZ ((z k).natAbs - 1) (decide (0 < z k))) := rfl
theorem picV_next (S : Nat) (z : Nat → Int) (m : Nat) : picV S z (m + 1) = picV S z m ++ [.string (picF S z m)] := by simp [picV, List.range_succ]

set_option maxHeartbeats 2000000 in
theorem specBraidPicture_yes (S : Nat) (A : Option Addr) (n c : Nat) (z : Nat → Int) (w : World) (ha : Rd w A n (fun j => .int .i64 (z j))) (hv : braidB S n z = true) :
    Calls Try.prog 35 #[.agg #[.int .i64 S, .slice A n c]] w (NewP w (n + 1) (n + 1) (fun j => .string (picF S z j))) := by
  obtain ⟨i0, hi, iz, is, ib⟩ := info_parts infoString
  have hS : S ≤ 12 ∧ n ≤ 40 := by
    simp only [braidB, Bool.and_eq_true] at hv
    have := inB_true hv.1.1
    have h2 : n ≤ 40 := by simpa using hv.1.2
    omega
  have hall : lettersB S z n = true := by
    simp only [braidB, Bool.and_eq_true] at hv
    exact hv.2
  have HALL := Lib.hid (lettersB_all hall)
  have hb : Below w.heap.size w (w.alloc (.cells #[.int .i64 S, .slice A n c] 39)) := (Below.refl _ _).alloc (Nat.le_refl _) _
  have HA := Lib.hid (ha.below hb)
  have hx0 := box_new w #[.int .i64 S, .slice A n c] 39
  have HX0 := Lib.hid hx0
  have HV := Lib.hid hv
  clear ha hx0 hall hv
  obtain ⟨hS1, hn⟩ := hS
  go_enter Try.func35, Try.ntmps35
  go_wp2_with fail
  refine (l03Ok_any w.heap.size S A n c z _ (HX0.out 0) (HX0.out 1) HA.out (by omega)).mono ?_
  rintro e w' ⟨rfl, q, rfl⟩
  rw [HV.out]
  go_wp2_with fail
  refine (l30Strands_any S _ (by omega)).mono ?_
  rintro e w1 ⟨A1, c1, rfl, hp1⟩
  have kc := conv_rd (c := c1) hp1.rd
  have hB1 : Below (w.heap.size + 1) (w.alloc (.cells #[.int .i64 S, .slice A n c] 39)) w1 := Below.trans (Below.drewN' (Below.refl _ _) q) (hp1.bl.mono (by simp [World.drewN]))
  have HB1 := Lib.hid hB1
  have hz1 := hB1.size
  simp only [World.size_alloc] at hz1
  clear hp1 hB1 hb
  go_wp2_with fail
  clear kc
  have HO1 := Lib.hid (own_lit (base := w.heap.size + 1) (e := 9) (size := 1) w1 [.string (strF (2 * S - 1) lineZ)] 1 hz1 (by unfold maxLen; omega) rfl)
  go_loopw [3, 4] (fun v i wr => ∃ k : Nat, k ≤ n ∧ i = .int .i64 k ∧ wr.ownsRow (w.heap.size + 1) 9 1 v (k + 1) (picV S z (k + 1)) ∧ Below (w.heap.size + 1) (w.alloc (.cells #[.int .i64 S, .slice A n c] 39)) wr) (fun _ i _ => n - (intOf i).toNat)
  case atStart => exact ⟨0, Nat.zero_le _, rfl, HO1.out, HB1.out.alloc hz1 _⟩
  case round =>
    obtain ⟨k, hk, rfl, hown, hbl⟩ := hrel
    have hbx : ∀ o, wr.cell? ⟨w.heap.size, o, none⟩ = (#[.int .i64 S, .slice A n c] : Array Value)[o]? := fun o => ((bcell hbl).1 _ o (by omega)).trans (HX0.out o)
    have hs0 := hbl.size
    simp only [World.size_alloc] at hs0
    have HB := Lib.hid hbl
    have HOWN := Lib.hid hown
    have HBX := Lib.hid hbx
    clear hbl hown
    by_cases hlt : k < n
    · obtain ⟨g, o, rfl, hg, hr⟩ := HA.out (by omega)
      have hcw := ((bcell HB.out).1 _ _ (by simpa using hg)).trans (hr k hlt)
      clear hr
      obtain ⟨x, hx⟩ : ∃ x, x = z k := ⟨_, rfl⟩
      have hxl := HALL.out k hlt
      simp only [← hx] at hcw hxl
      have HX := Lib.hid hx
      obtain ⟨x1, x2, x3⟩ := hxl
      obtain ⟨p, hp⟩ : ∃ p : Nat, x.natAbs = p + 1 := ⟨x.natAbs - 1, by omega⟩
      have hp2 : 2 * p + 2 < 2 * S - 1 := by omega
      have hAbs : ∀ w', Calls Try.prog 71 #[.int .i64 x] w' fun e w'' => e = .returned (.int .i64 ((p : Int) + 1)) ∧ w'' = w' := fun w' => (l03Abs_any x w' (by omega) (by omega)).mono fun _ _ h => ⟨h.1.trans (by rw [hp]; rfl), h.2.symm⟩
      have hwr : IntKind.i64.wrap ((p : Int) + 1 - 1) = (p : Int) := by rw [Int.add_sub_cancel]; exact IntWalk.i64_in _ (by omega)
      have HP := Lib.hid hp
      clear hp hx
      go_wp2_with fail
      refine (l30Strands_any S _ (by omega)).mono ?_
      rintro e w3 ⟨A3, c3, rfl, hp3⟩
      obtain ⟨g3, o3, rfl, hg3, hr3⟩ := hp3.rd (by omega)
      obtain ⟨g3', o3', e', hw3⟩ := hp3.wr (by omega)
      injection e' with e'
      injection e' with e1 e2
      subst e1 e2
      have hcw3 := ((bcell hp3.bl).1 _ _ (World.block_lt_of_cell? _ _ hcw)).trans hcw
      have hbx3 : ∀ q, w3.cell? ⟨w.heap.size, q, none⟩ = (#[.int .i64 S, .slice (some ⟨g, o, none⟩) n c] : Array Value)[q]? := fun q => ((bcell hp3.bl).1 _ q (by omega)).trans (HBX.out q)
      have HP3 := Lib.hid hp3
      have HR3 := Lib.hid hr3
      have HW3 := Lib.hid hw3
      clear hp3 hr3 hw3 hbx hcw
      go_wp2_with fail
      have b1 : (0 : Int) ≤ (k : Int) := by omega
      have b2 : (k : Int) < (n : Int) := by omega
      refine wp_region_quiet_tail (C := fun w' => ∃ n, w' = World.drewN _ n) 14 (by kernel_rfl) (by kernel_rfl) ⟨1, rfl⟩ ?_
      simp only [List.take_succ_cons, List.take_zero, List.drop_succ_cons, List.drop_zero]
      repeat (quiet_step ((go_at_call 71; exact Calls.quiet_of_same (hAbs _))))
      refine wpQuiet_nil ?_
      intro _ hw'
      obtain ⟨nq, rfl⟩ := hw'
      clear hAbs hwr
      go_wp2_with fail
      refine (l30Cross_any g3 o3 (2 * S - 1) c3 p lineZ (decide (0 < x)) (w3.drewN nq) HW3.out HR3.out hp2 (by omega)).mono ?_
      rintro e w4 ⟨rfl, hf4, hw4, hr4⟩
      have hg3' := HP3.out.ab _ rfl
      have hb4 : Below wr.heap.size wr w4 := (Below.drewN' HP3.out.bl nq).trans (hf4.below HP3.out.bl.size fun b hb => hb ▸ hg3')
      have hs4 := hb4.size
      have HB4 := Lib.hid (HB.out.trans (hb4.mono (by omega)))
      have HOWN4 := Lib.hid (own_below HOWN.out hb4)
      have kc := conv_rd (c := c3) (A := some ⟨g3, o3, none⟩) (fun _ => ⟨g3, o3, rfl, hw4.lt (by omega), hr4⟩)
      clear hf4 hw4 hr4 hb4 hg3' hcw3 hbx3 b1 b2
      go_wp2_with (at_builtin; go_must (refine wpList_app w4 rfl (.tmp 38) (.tmp 41) _ rfl (w.heap.size + 1) 9 i0 _ 1 16 Try.underlying48 hi iz is ib rfl (by omega) u3 (k + 1) (picV S z (k + 1)) rfl HOWN4.out _ 1 1 _ rfl rfl (by simp [Value.oneCell']) (by unfold maxLen; omega) (by omega) (by omega) ?_); intro v' w' hown' hb')
      clear kc
      have HOWN' := Lib.hid hown'
      clear hown'
      go_wp2
      go_roundw
      case rel => exact ⟨k + 1, by omega, by go_num, by rw [picV_next S z (k + 1), picF_next, ← HX.out, show x.natAbs - 1 = p by have := HP.out; omega]; exact HOWN'.out, HB4.out.trans hb'⟩
      case measure => simp [intOf] <;> omega
    · obtain rfl : n = k := by omega
      obtain ⟨A4, c4, rfl, hnew⟩ := New.of_own (w := w) (((Below.refl _ _).alloc (Nat.le_refl _) _).trans (HB.out.mono (by omega))) (own_base HOWN.out (by omega))
      have HN := Lib.hid hnew
      clear hnew
      go_wp2
      go_ret
      refine ⟨A4, c4, rfl, ?_⟩
      have := HN.out
      rw [Nat.mul_one] at this
      exact this.congr fun j hj => by simp [picV, List.getD, hj]

set_option maxHeartbeats 2000000 in
theorem braidPicture_any (S : Nat) (A : Option Addr) (n c : Nat) (z : Nat → Int) (w : World) (ha : Rd w A n (fun j => .int .i64 (z j))) (hS1 : S ≤ 12) (hn : n ≤ 40) (hall : lettersB S z n = true) :
    Calls Try.prog 74 #[.agg #[.int .i64 S, .slice A n c]] w (NewP w (n + 1) (n + 1) (fun j => .string (picF S z j))) := by
  obtain ⟨i0, hi, iz, is, ib⟩ := info_parts infoString
  have HALL := Lib.hid (lettersB_all hall)
  have hb : Below w.heap.size w (w.alloc (.cells #[.int .i64 S, .slice A n c] 39)) := (Below.refl _ _).alloc (Nat.le_refl _) _
  have HA := Lib.hid (ha.below hb)
  have hx0 := box_new w #[.int .i64 S, .slice A n c] 39
  have HX0 := Lib.hid hx0
  clear ha hx0 hall
  go_enter Try.func74, Try.ntmps74
  go_wp2_with fail
  refine (strandsLine_any S _ (by omega)).mono ?_
  rintro e w1 ⟨A1, c1, rfl, hp1⟩
  have kc := conv_rd (c := c1) hp1.rd
  have hB1 : Below (w.heap.size + 1) (w.alloc (.cells #[.int .i64 S, .slice A n c] 39)) w1 := hp1.bl.mono (by simp)
  have HB1 := Lib.hid hB1
  have hz1 := hB1.size
  simp only [World.size_alloc] at hz1
  have hbx : ∀ o, w1.cell? ⟨w.heap.size, o, none⟩ = (#[.int .i64 S, .slice A n c] : Array Value)[o]? := fun o => ((bcell hB1).1 _ o (by omega)).trans (HX0.out o)
  have hbx2 : ∀ o, (w1.alloc (.cells #[.string (strF (2 * S - 1) lineZ)] 9)).cell? ⟨w.heap.size, o, none⟩ = (#[.int .i64 S, .slice A n c] : Array Value)[o]? := fun o => (World.cell?_alloc_lt w1 _ ⟨w.heap.size, o, none⟩ (by show w.heap.size < _; omega)).trans (hbx o)
  clear hp1 hB1 hb
  go_wp2_with fail
  clear kc hbx hbx2
  have HO1 := Lib.hid (own_lit (base := w.heap.size + 1) (e := 9) (size := 1) w1 [.string (strF (2 * S - 1) lineZ)] 1 hz1 (by unfold maxLen; omega) rfl)
  go_loopw [3, 14] (fun v i wr => ∃ k : Nat, k ≤ n ∧ i = .int .i64 k ∧ wr.ownsRow (w.heap.size + 1) 9 1 v (k + 1) (picV S z (k + 1)) ∧ Below (w.heap.size + 1) (w.alloc (.cells #[.int .i64 S, .slice A n c] 39)) wr) (fun _ i _ => n - (intOf i).toNat)
  case atStart => exact ⟨0, Nat.zero_le _, rfl, HO1.out, HB1.out.alloc hz1 _⟩
  case round =>
    obtain ⟨k, hk, rfl, hown, hbl⟩ := hrel
    have hbx : ∀ o, wr.cell? ⟨w.heap.size, o, none⟩ = (#[.int .i64 S, .slice A n c] : Array Value)[o]? := fun o => ((bcell hbl).1 _ o (by omega)).trans (HX0.out o)
    have hs0 := hbl.size
    simp only [World.size_alloc] at hs0
    have HB := Lib.hid hbl
    have HOWN := Lib.hid hown
    clear hbl hown
    by_cases hlt : k < n
    · obtain ⟨g, o, rfl, hg, hr⟩ := HA.out (by omega)
      have hcw := ((bcell HB.out).1 _ _ (by simpa using hg)).trans (hr k hlt)
      clear hr
      obtain ⟨x, hx⟩ : ∃ x, x = z k := ⟨_, rfl⟩
      have hxl := HALL.out k hlt
      simp only [← hx] at hcw hxl
      have HX := Lib.hid hx
      obtain ⟨x1, x2, x3⟩ := hxl
      clear hx
      go_wp2_with fail
      refine (letterLine_any S x _ (by omega) x1 (by omega)).mono ?_
      rintro e w4 ⟨A3, c3, rfl, hp3⟩
      have hs4 := hp3.bl.size
      have HB4 := Lib.hid (HB.out.trans (hp3.bl.mono (by omega)))
      have HOWN4 := Lib.hid (own_below HOWN.out hp3.bl)
      have kc := conv_rd (c := c3) hp3.rd
      clear hp3 hcw hbx
      go_wp2_with (at_builtin; go_must (refine wpList_app w4 rfl (.tmp 18) (.tmp 24) _ rfl (w.heap.size + 1) 9 i0 _ 1 16 Try.underlying48 hi iz is ib rfl (by omega) u3 (k + 1) (picV S z (k + 1)) rfl HOWN4.out _ 1 1 _ rfl rfl (by simp [Value.oneCell']) (by unfold maxLen; omega) (by omega) (by omega) ?_); intro v' w' hown' hb')
      clear kc
      have HOWN' := Lib.hid hown'
      clear hown'
      go_wp2
      go_roundw
      case rel => exact ⟨k + 1, by omega, by go_num, by rw [picV_next S z (k + 1), picF_next, ← HX.out]; exact HOWN'.out, HB4.out.trans hb'⟩
      case measure => simp [intOf] <;> omega
    · obtain rfl : n = k := by omega
      obtain ⟨A4, c4, rfl, hnew⟩ := New.of_own (w := w) (((Below.refl _ _).alloc (Nat.le_refl _) _).trans (HB.out.mono (by omega))) (own_base HOWN.out (by omega))
      have HN := Lib.hid hnew
      clear hnew
      go_wp2
      go_ret
      refine ⟨A4, c4, rfl, ?_⟩
      have := HN.out
      rw [Nat.mul_one] at this
      exact this.congr fun j hj => by simp [picV, List.getD, hj]

def picN (s : Int) (n : Nat) (z : Nat → Int) : Nat := if braidB s n z then n + 1 else 0
theorem picN_le (s : Int) (n : Nat) (z : Nat → Int) : picN s n z ≤ 41 := by
  unfold picN
  split
  · rename_i h
    simp only [braidB, Bool.and_eq_true] at h
    have : n ≤ 40 := by simpa using h.1.2
    omega
  · omega
theorem picN_yes {s : Int} {n : Nat} {z : Nat → Int} (h : braidB s n z = true) : picN s n z = n + 1 := by rw [picN, if_pos h]
theorem picN_no {s : Int} {n : Nat} {z : Nat → Int} (h : braidB s n z = false) : picN s n z = 0 := by rw [picN, if_neg (by simp [h])]
theorem braidB_parts {s : Int} {n : Nat} {z : Nat → Int} (h : braidB s n z = true) : ∃ S : Nat, s = S ∧ S ≤ 12 ∧ n ≤ 40 ∧ lettersB s z n = true := by
  simp only [braidB, Bool.and_eq_true] at h
  have := inB_true h.1.1
  exact ⟨s.toNat, by omega, by omega, by simpa using h.1.2, h.2⟩
theorem specBraidPicture_any (s : Int) (A : Option Addr) (n c : Nat) (z : Nat → Int) (w : World) (ha : Rd w A n (fun j => .int .i64 (z j))) (hn : n ≤ 1048576) :
    Calls Try.prog 35 #[.agg #[.int .i64 s, .slice A n c]] w (NewP w (picN s n z) (picN s n z) (fun j => .string (picF s.toNat z j))) := by
  cases hv : braidB s n z
  · rw [picN_no hv]
    have HV := Lib.hid hv
    have hb : Below w.heap.size w (w.alloc (.cells #[.int .i64 s, .slice A n c] 39)) := (Below.refl _ _).alloc (Nat.le_refl _) _
    have HX0 := Lib.hid (box_new w #[.int .i64 s, .slice A n c] 39)
    have HA := Lib.hid (ha.below hb)
    have HB := Lib.hid hb
    clear hv ha hb
    go_enter Try.func35, Try.ntmps35
    go_wp2_with fail
    refine (l03Ok_any w.heap.size s A n c z _ (HX0.out 0) (HX0.out 1) HA.out hn).mono ?_
    rintro e w' ⟨rfl, q, rfl⟩
    rw [HV.out]
    go_wp2
    go_ret
    exact ⟨none, 0, rfl, New.none_ (Below.drewN' HB.out q) _⟩
  · obtain ⟨S, rfl, _⟩ := braidB_parts hv
    rw [picN_yes hv]
    exact specBraidPicture_yes S A n c z w ha hv
theorem implBraidPicture_any (s : Int) (A : Option Addr) (n c : Nat) (z : Nat → Int) (w : World) (ha : Rd w A n (fun j => .int .i64 (z j))) (hn : n ≤ 1048576) :
    Calls Try.prog 37 #[.agg #[.int .i64 s, .slice A n c]] w (NewP w (picN s n z) (picN s n z) (fun j => .string (picF s.toNat z j))) := by
  have hb : Below w.heap.size w (w.alloc (.cells #[.int .i64 s, .slice A n c] 39)) := (Below.refl _ _).alloc (Nat.le_refl _) _
  have HX0 := Lib.hid (box_new w #[.int .i64 s, .slice A n c] 39)
  have HA := Lib.hid (ha.below hb)
  have HB := Lib.hid hb
  clear ha hb
  cases hv : braidB s n z
  · rw [picN_no hv]
    have HV := Lib.hid hv
    clear hv
    go_enter Try.func37, Try.ntmps37
    go_wp2_with fail
    refine (validBraid_any s A n c z _ HA.out hn).mono ?_
    rintro e w1 ⟨rfl, hb1⟩
    rw [HV.out]
    have HB1 := Lib.hid (HB.out.trans (hb1.mono (by simp)))
    clear hb1
    go_wp2
    go_ret
    exact ⟨none, 0, rfl, New.none_ HB1.out _⟩
  · obtain ⟨S, rfl, hS, hn2, hall⟩ := braidB_parts hv
    rw [picN_yes hv]
    have HV := Lib.hid hv
    have HALL := Lib.hid hall
    clear hv hall
    go_enter Try.func37, Try.ntmps37
    go_wp2_with fail
    refine (validBraid_any S A n c z _ HA.out hn).mono ?_
    rintro e w1 ⟨rfl, hb1⟩
    rw [HV.out]
    have hbx : ∀ o, w1.cell? ⟨w.heap.size, o, none⟩ = (#[.int .i64 S, .slice A n c] : Array Value)[o]? := fun o => ((bcell hb1).1 _ o (by simp)).trans (HX0.out o)
    have HA1 := Lib.hid (HA.out.below hb1)
    have HB1 := Lib.hid (HB.out.trans (hb1.mono (by simp)))
    clear hb1
    go_wp2_with fail
    refine (braidPicture_any S A n c z _ HA1.out hS hn2 HALL.out).mono ?_
    rintro e w2 ⟨A2, c2, rfl, hp⟩
    have HP := Lib.hid hp
    clear hp hbx
    go_wp2
    go_ret
    exact ⟨A2, c2, rfl, HP.out.under HB1.out⟩
end Go.Proofs.Ytjegoffdkmbibaa
