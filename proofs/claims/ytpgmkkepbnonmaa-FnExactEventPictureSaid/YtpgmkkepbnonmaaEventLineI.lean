/- Walks: the line of a valid event, by the program. No condition but the bounds. -/
import Derived.Test.YtpgmkkepbnonmaaEventLineS
namespace Go.Proofs.Ytpgmkkepbnonmaa
open Go.RowKit
set_option maxRecDepth 20000

set_option maxHeartbeats 2000000 in
theorem eventLine1_any (p n : Nat) (c b y d : Int) (w : World) (hc : c = 1 ∨ c = -1) (hp : p + 2 ≤ n) (hn : n ≤ 4096) :
    Calls Try.prog 44 #[.agg #[.int .i64 1, .int .i64 p, .int .i64 c, .int .i64 b, .int .i64 y, .int .i64 d], .int .i64 n] w (NewP w (2 * n - 1) (2 * n - 1) (fun j => .int .u8 (crossZ lineZ p (decide (0 < c)) j))) := by
  rcases hc with rfl | rfl
  · go_enter Try.func44, Try.ntmps44
    go_wp2_with fail
    refine (letterLine_any n _ _ hn (by omega) (by omega)).mono ?_
    rintro e w1 ⟨A1, c1, rfl, hp1⟩
    have HP := Lib.hid hp1
    clear hp1
    go_wp2
    go_ret
    exact ⟨_, _, rfl, (HP.out.under ((Below.refl _ _).alloc (Nat.le_refl _) _)).congr fun j _ => by simp only [show ∀ x : Nat, ((x : Int) + 1).natAbs - 1 = x from fun x => by omega, show ∀ x : Nat, decide (0 < (x : Int) + 1) = decide ((0 : Int) < 1) from fun x => by simp]⟩
  · go_enter Try.func44, Try.ntmps44
    go_wp2_with fail
    refine (letterLine_any n _ _ hn (by omega) (by omega)).mono ?_
    rintro e w1 ⟨A1, c1, rfl, hp1⟩
    have HP := Lib.hid hp1
    clear hp1
    go_wp2
    go_ret
    refine ⟨_, _, rfl, (HP.out.under ((Below.refl _ _).alloc (Nat.le_refl _) _)).congr fun j _ => ?_⟩
    congr 2

set_option maxHeartbeats 2000000 in
theorem eventLine2z_any (p n r : Nat) (b y d : Int) (w : World) (hn : n ≤ 500) (hr : (n : Int) + 1 = r) (hp : p + 1 ≤ r) :
    Calls Try.prog 44 #[.agg #[.int .i64 2, .int .i64 p, .int .i64 0, .int .i64 b, .int .i64 y, .int .i64 d], .int .i64 n] w (NewP w (2 * r - 1) (2 * r - 1) (fun j => .int .u8 (markZ lineZ p 1 (if b = 2 then 45 else 86) j))) := by
  have r1 : r ≤ 501 := by omega
  have HRR := Lib.hid hr
  clear hr
  by_cases hb2 : b = 2
  · rw [if_pos hb2]
    go_enter Try.func44, Try.ntmps44
    go_wp2
    go_quiet (fail)
    go_wp2_with fail
    rw [HRR.out]
    refine (strandsLine_any r _ (by omega)).mono ?_
    rintro e w1 ⟨A1, c1, rfl, hp1⟩
    obtain ⟨g1, o1, rfl, hg, hg1, hr1, hw1⟩ := new_row hp1 (by omega)
    have HB := Lib.hid ((Below.drewN' ((Below.refl w.heap.size w).alloc (Nat.le_refl _) _) nq).trans (hp1.bl.mono (by simp [World.drewN])))
    have HR := Lib.hid hr1
    have HW := Lib.hid hw1
    have hg0 : w.heap.size ≤ g1 := by simp [World.drewN] at hg; omega
    clear hr1 hw1 hp1 hg
    go_wp2_with fail
    clear HRR
    go_loopw [43] (fun i wr => ∃ j : Nat, j ≤ 1 ∧ i = .int .i64 j ∧ Fr w1 wr (fun b => b = g1) ∧ RowW wr g1 o1 (2 * r - 1) ∧ RowR wr g1 o1 (2 * r - 1) (fun x => .int .u8 (markZ lineZ p j 45 x))) (fun i _ => 1 - (intOf i).toNat)
    case atStart => exact ⟨0, Nat.zero_le _, rfl, Fr.refl _ _, HW.out, HR.out.congr fun j _ => by rw [markZ_zero]⟩
    case round =>
      obtain ⟨j, hj, rfl, hf, hw, hr⟩ := hrel
      have HF := Lib.hid hf
      have HW := Lib.hid hw
      have HR := Lib.hid hr
      clear hf hw hr
      by_cases hlt : j < 1
      · obtain ⟨⟨u, hu⟩, hfz⟩ := HW.out (2 * (p + j)) (by omega)
        have b1 : (0 : Int) ≤ 2 * ((p : Int) + j) := by omega
        have b2 : 2 * ((p : Int) + j) < ((2 * r - 1 : Nat) : Int) := by omega
        go_wp2
        go_roundw
        case rel =>
          exact ⟨j + 1, by omega, by go_num, HF.out.set rfl _, HW.out.set _ _, (HR.out.upd (k := 2 * (p + j)) (by omega) _).congr fun x _ => by
            rw [markZ_next]
            by_cases h1 : x = 2 * (p + j)
            · rw [if_pos h1, if_pos h1]
            · rw [if_neg h1, if_neg h1]⟩
        case measure => simp [intOf] <;> omega
      · obtain rfl : j = 1 := by omega
        go_wp2
        go_ret
        have hs := HF.out.size
        refine ⟨_, _, rfl, HB.out.trans (HF.out.below HB.out.size fun b hb => hb ▸ hg0), fun a e => by injection e with e; subst e; exact hg0, fun a e => by injection e with e; subst e; exact Nat.lt_of_lt_of_le hg1 hs, fun _ => ⟨g1, o1, rfl, HW.out⟩, fun _ => ⟨g1, o1, rfl, Nat.lt_of_lt_of_le hg1 hs, HR.out⟩⟩
  · rw [if_neg hb2]
    go_enter Try.func44, Try.ntmps44
    go_wp2
    go_quiet (fail)
    go_wp2_with fail
    rw [HRR.out]
    refine (strandsLine_any r _ (by omega)).mono ?_
    rintro e w1 ⟨A1, c1, rfl, hp1⟩
    obtain ⟨g1, o1, rfl, hg, hg1, hr1, hw1⟩ := new_row hp1 (by omega)
    have HB := Lib.hid ((Below.drewN' ((Below.refl w.heap.size w).alloc (Nat.le_refl _) _) nq).trans (hp1.bl.mono (by simp [World.drewN])))
    have HR := Lib.hid hr1
    have HW := Lib.hid hw1
    have hg0 : w.heap.size ≤ g1 := by simp [World.drewN] at hg; omega
    clear hr1 hw1 hp1 hg
    go_wp2_with fail
    clear HRR
    go_loopw [43] (fun i wr => ∃ j : Nat, j ≤ 1 ∧ i = .int .i64 j ∧ Fr w1 wr (fun b => b = g1) ∧ RowW wr g1 o1 (2 * r - 1) ∧ RowR wr g1 o1 (2 * r - 1) (fun x => .int .u8 (markZ lineZ p j 86 x))) (fun i _ => 1 - (intOf i).toNat)
    case atStart => exact ⟨0, Nat.zero_le _, rfl, Fr.refl _ _, HW.out, HR.out.congr fun j _ => by rw [markZ_zero]⟩
    case round =>
      obtain ⟨j, hj, rfl, hf, hw, hr⟩ := hrel
      have HF := Lib.hid hf
      have HW := Lib.hid hw
      have HR := Lib.hid hr
      clear hf hw hr
      by_cases hlt : j < 1
      · obtain ⟨⟨u, hu⟩, hfz⟩ := HW.out (2 * (p + j)) (by omega)
        have b1 : (0 : Int) ≤ 2 * ((p : Int) + j) := by omega
        have b2 : 2 * ((p : Int) + j) < ((2 * r - 1 : Nat) : Int) := by omega
        go_wp2
        go_roundw
        case rel =>
          exact ⟨j + 1, by omega, by go_num, HF.out.set rfl _, HW.out.set _ _, (HR.out.upd (k := 2 * (p + j)) (by omega) _).congr fun x _ => by
            rw [markZ_next]
            by_cases h1 : x = 2 * (p + j)
            · rw [if_pos h1, if_pos h1]
            · rw [if_neg h1, if_neg h1]⟩
        case measure => simp [intOf] <;> omega
      · obtain rfl : j = 1 := by omega
        go_wp2
        go_ret
        have hs := HF.out.size
        refine ⟨_, _, rfl, HB.out.trans (HF.out.below HB.out.size fun b hb => hb ▸ hg0), fun a e => by injection e with e; subst e; exact hg0, fun a e => by injection e with e; subst e; exact Nat.lt_of_lt_of_le hg1 hs, fun _ => ⟨g1, o1, rfl, HW.out⟩, fun _ => ⟨g1, o1, rfl, Nat.lt_of_lt_of_le hg1 hs, HR.out⟩⟩

set_option maxHeartbeats 2000000 in
theorem eventLine2p_any (p q r : Nat) (b y d : Int) (w : World) (hn : r ≤ 500) (hq : 0 < q) (hp : p + q ≤ r) :
    Calls Try.prog 44 #[.agg #[.int .i64 2, .int .i64 p, .int .i64 (q : Int), .int .i64 b, .int .i64 y, .int .i64 d], .int .i64 r] w (NewP w (2 * r - 1) (2 * r - 1) (fun j => .int .u8 (markZ lineZ p q (if b = 2 then 45 else 86) j))) := by
  have r1 : r ≤ 501 := by omega
  by_cases hb2 : b = 2
  · rw [if_pos hb2]
    go_enter Try.func44, Try.ntmps44
    go_wp2
    go_quiet (fail)
    go_wp2_with fail
    refine (strandsLine_any r _ (by omega)).mono ?_
    rintro e w1 ⟨A1, c1, rfl, hp1⟩
    obtain ⟨g1, o1, rfl, hg, hg1, hr1, hw1⟩ := new_row hp1 (by omega)
    have HB := Lib.hid ((Below.drewN' ((Below.refl w.heap.size w).alloc (Nat.le_refl _) _) nq).trans (hp1.bl.mono (by simp [World.drewN])))
    have HR := Lib.hid hr1
    have HW := Lib.hid hw1
    have hg0 : w.heap.size ≤ g1 := by simp [World.drewN] at hg; omega
    clear hr1 hw1 hp1 hg
    go_wp2_with fail
    go_loopw [43] (fun i wr => ∃ j : Nat, j ≤ q ∧ i = .int .i64 j ∧ Fr w1 wr (fun b => b = g1) ∧ RowW wr g1 o1 (2 * r - 1) ∧ RowR wr g1 o1 (2 * r - 1) (fun x => .int .u8 (markZ lineZ p j 45 x))) (fun i _ => q - (intOf i).toNat)
    case atStart => exact ⟨0, Nat.zero_le _, rfl, Fr.refl _ _, HW.out, HR.out.congr fun j _ => by rw [markZ_zero]⟩
    case round =>
      obtain ⟨j, hj, rfl, hf, hw, hr⟩ := hrel
      have HF := Lib.hid hf
      have HW := Lib.hid hw
      have HR := Lib.hid hr
      clear hf hw hr
      by_cases hlt : j < q
      · obtain ⟨⟨u, hu⟩, hfz⟩ := HW.out (2 * (p + j)) (by omega)
        have b1 : (0 : Int) ≤ 2 * ((p : Int) + j) := by omega
        have b2 : 2 * ((p : Int) + j) < ((2 * r - 1 : Nat) : Int) := by omega
        go_wp2
        go_roundw
        case rel =>
          exact ⟨j + 1, by omega, by go_num, HF.out.set rfl _, HW.out.set _ _, (HR.out.upd (k := 2 * (p + j)) (by omega) _).congr fun x _ => by
            rw [markZ_next]
            by_cases h1 : x = 2 * (p + j)
            · rw [if_pos h1, if_pos h1]
            · rw [if_neg h1, if_neg h1]⟩
        case measure => simp [intOf] <;> omega
      · obtain rfl : q = j := by omega
        go_wp2
        go_ret
        have hs := HF.out.size
        refine ⟨_, _, rfl, HB.out.trans (HF.out.below HB.out.size fun b hb => hb ▸ hg0), fun a e => by injection e with e; subst e; exact hg0, fun a e => by injection e with e; subst e; exact Nat.lt_of_lt_of_le hg1 hs, fun _ => ⟨g1, o1, rfl, HW.out⟩, fun _ => ⟨g1, o1, rfl, Nat.lt_of_lt_of_le hg1 hs, HR.out⟩⟩
  · rw [if_neg hb2]
    go_enter Try.func44, Try.ntmps44
    go_wp2
    go_quiet (fail)
    go_wp2_with fail
    refine (strandsLine_any r _ (by omega)).mono ?_
    rintro e w1 ⟨A1, c1, rfl, hp1⟩
    obtain ⟨g1, o1, rfl, hg, hg1, hr1, hw1⟩ := new_row hp1 (by omega)
    have HB := Lib.hid ((Below.drewN' ((Below.refl w.heap.size w).alloc (Nat.le_refl _) _) nq).trans (hp1.bl.mono (by simp [World.drewN])))
    have HR := Lib.hid hr1
    have HW := Lib.hid hw1
    have hg0 : w.heap.size ≤ g1 := by simp [World.drewN] at hg; omega
    clear hr1 hw1 hp1 hg
    go_wp2_with fail
    go_loopw [43] (fun i wr => ∃ j : Nat, j ≤ q ∧ i = .int .i64 j ∧ Fr w1 wr (fun b => b = g1) ∧ RowW wr g1 o1 (2 * r - 1) ∧ RowR wr g1 o1 (2 * r - 1) (fun x => .int .u8 (markZ lineZ p j 86 x))) (fun i _ => q - (intOf i).toNat)
    case atStart => exact ⟨0, Nat.zero_le _, rfl, Fr.refl _ _, HW.out, HR.out.congr fun j _ => by rw [markZ_zero]⟩
    case round =>
      obtain ⟨j, hj, rfl, hf, hw, hr⟩ := hrel
      have HF := Lib.hid hf
      have HW := Lib.hid hw
      have HR := Lib.hid hr
      clear hf hw hr
      by_cases hlt : j < q
      · obtain ⟨⟨u, hu⟩, hfz⟩ := HW.out (2 * (p + j)) (by omega)
        have b1 : (0 : Int) ≤ 2 * ((p : Int) + j) := by omega
        have b2 : 2 * ((p : Int) + j) < ((2 * r - 1 : Nat) : Int) := by omega
        go_wp2
        go_roundw
        case rel =>
          exact ⟨j + 1, by omega, by go_num, HF.out.set rfl _, HW.out.set _ _, (HR.out.upd (k := 2 * (p + j)) (by omega) _).congr fun x _ => by
            rw [markZ_next]
            by_cases h1 : x = 2 * (p + j)
            · rw [if_pos h1, if_pos h1]
            · rw [if_neg h1, if_neg h1]⟩
        case measure => simp [intOf] <;> omega
      · obtain rfl : q = j := by omega
        go_wp2
        go_ret
        have hs := HF.out.size
        refine ⟨_, _, rfl, HB.out.trans (HF.out.below HB.out.size fun b hb => hb ▸ hg0), fun a e => by injection e with e; subst e; exact hg0, fun a e => by injection e with e; subst e; exact Nat.lt_of_lt_of_le hg1 hs, fun _ => ⟨g1, o1, rfl, HW.out⟩, fun _ => ⟨g1, o1, rfl, Nat.lt_of_lt_of_le hg1 hs, HR.out⟩⟩

set_option maxHeartbeats 2000000 in
theorem eventLine3_any (p n r : Nat) (c b y d : Int) (w : World) (hn : n ≤ 500) (hr : (n : Int) + 1 = r) (hp : p + 1 ≤ r) :
    Calls Try.prog 44 #[.agg #[.int .i64 3, .int .i64 p, .int .i64 c, .int .i64 b, .int .i64 y, .int .i64 d], .int .i64 n] w (NewP w (2 * r - 1) (2 * r - 1) (fun j => .int .u8 (markZ lineZ p 1 85 j))) := by
  have r1 : r ≤ 501 := by omega
  have HRR := Lib.hid hr
  clear hr
  go_enter Try.func44, Try.ntmps44
  go_wp2
  go_quiet (fail)
  go_wp2_with fail
  rw [HRR.out]
  refine (strandsLine_any r _ (by omega)).mono ?_
  rintro e w1 ⟨A1, c1, rfl, hp1⟩
  obtain ⟨g1, o1, rfl, hg, hg1, hr1, hw1⟩ := new_row hp1 (by omega)
  have HB := Lib.hid ((Below.drewN' ((Below.refl w.heap.size w).alloc (Nat.le_refl _) _) nq).trans (hp1.bl.mono (by simp [World.drewN])))
  have HR := Lib.hid hr1
  have HW := Lib.hid hw1
  have hg0 : w.heap.size ≤ g1 := by simp [World.drewN] at hg; omega
  clear hr1 hw1 hp1 hg
  go_wp2_with fail
  clear HRR
  go_loopw [43] (fun i wr => ∃ j : Nat, j ≤ 1 ∧ i = .int .i64 j ∧ Fr w1 wr (fun b => b = g1) ∧ RowW wr g1 o1 (2 * r - 1) ∧ RowR wr g1 o1 (2 * r - 1) (fun x => .int .u8 (markZ lineZ p j 85 x))) (fun i _ => 1 - (intOf i).toNat)
  case atStart => exact ⟨0, Nat.zero_le _, rfl, Fr.refl _ _, HW.out, HR.out.congr fun j _ => by rw [markZ_zero]⟩
  case round =>
    obtain ⟨j, hj, rfl, hf, hw, hr⟩ := hrel
    have HF := Lib.hid hf
    have HW := Lib.hid hw
    have HR := Lib.hid hr
    clear hf hw hr
    by_cases hlt : j < 1
    · obtain ⟨⟨u, hu⟩, hfz⟩ := HW.out (2 * (p + j)) (by omega)
      have b1 : (0 : Int) ≤ 2 * ((p : Int) + j) := by omega
      have b2 : 2 * ((p : Int) + j) < ((2 * r - 1 : Nat) : Int) := by omega
      go_wp2
      go_roundw
      case rel =>
        exact ⟨j + 1, by omega, by go_num, HF.out.set rfl _, HW.out.set _ _, (HR.out.upd (k := 2 * (p + j)) (by omega) _).congr fun x _ => by
          rw [markZ_next]
          by_cases h1 : x = 2 * (p + j)
          · rw [if_pos h1, if_pos h1]
          · rw [if_neg h1, if_neg h1]⟩
      case measure => simp [intOf] <;> omega
    · obtain rfl : j = 1 := by omega
      go_wp2
      go_ret
      have hs := HF.out.size
      refine ⟨_, _, rfl, HB.out.trans (HF.out.below HB.out.size fun b hb => hb ▸ hg0), fun a e => by injection e with e; subst e; exact hg0, fun a e => by injection e with e; subst e; exact Nat.lt_of_lt_of_le hg1 hs, fun _ => ⟨g1, o1, rfl, HW.out⟩, fun _ => ⟨g1, o1, rfl, Nat.lt_of_lt_of_le hg1 hs, HR.out⟩⟩

set_option maxHeartbeats 2000000 in
theorem eventLine5_any (p n r : Nat) (c b y d : Int) (w : World) (hn : n ≤ 500) (hr : (n : Int) + 1 = r) (hp : p + 1 ≤ r) :
    Calls Try.prog 44 #[.agg #[.int .i64 5, .int .i64 p, .int .i64 c, .int .i64 b, .int .i64 y, .int .i64 d], .int .i64 n] w (NewP w (2 * r - 1) (2 * r - 1) (fun j => .int .u8 (markZ lineZ p 1 83 j))) := by
  have r1 : r ≤ 501 := by omega
  have HRR := Lib.hid hr
  clear hr
  go_enter Try.func44, Try.ntmps44
  go_wp2
  go_quiet (fail)
  go_wp2_with fail
  rw [HRR.out]
  refine (strandsLine_any r _ (by omega)).mono ?_
  rintro e w1 ⟨A1, c1, rfl, hp1⟩
  obtain ⟨g1, o1, rfl, hg, hg1, hr1, hw1⟩ := new_row hp1 (by omega)
  have HB := Lib.hid ((Below.drewN' ((Below.refl w.heap.size w).alloc (Nat.le_refl _) _) nq).trans (hp1.bl.mono (by simp [World.drewN])))
  have HR := Lib.hid hr1
  have HW := Lib.hid hw1
  have hg0 : w.heap.size ≤ g1 := by simp [World.drewN] at hg; omega
  clear hr1 hw1 hp1 hg
  go_wp2_with fail
  clear HRR
  go_loopw [43] (fun i wr => ∃ j : Nat, j ≤ 1 ∧ i = .int .i64 j ∧ Fr w1 wr (fun b => b = g1) ∧ RowW wr g1 o1 (2 * r - 1) ∧ RowR wr g1 o1 (2 * r - 1) (fun x => .int .u8 (markZ lineZ p j 83 x))) (fun i _ => 1 - (intOf i).toNat)
  case atStart => exact ⟨0, Nat.zero_le _, rfl, Fr.refl _ _, HW.out, HR.out.congr fun j _ => by rw [markZ_zero]⟩
  case round =>
    obtain ⟨j, hj, rfl, hf, hw, hr⟩ := hrel
    have HF := Lib.hid hf
    have HW := Lib.hid hw
    have HR := Lib.hid hr
    clear hf hw hr
    by_cases hlt : j < 1
    · obtain ⟨⟨u, hu⟩, hfz⟩ := HW.out (2 * (p + j)) (by omega)
      have b1 : (0 : Int) ≤ 2 * ((p : Int) + j) := by omega
      have b2 : 2 * ((p : Int) + j) < ((2 * r - 1 : Nat) : Int) := by omega
      go_wp2
      go_roundw
      case rel =>
        exact ⟨j + 1, by omega, by go_num, HF.out.set rfl _, HW.out.set _ _, (HR.out.upd (k := 2 * (p + j)) (by omega) _).congr fun x _ => by
          rw [markZ_next]
          by_cases h1 : x = 2 * (p + j)
          · rw [if_pos h1, if_pos h1]
          · rw [if_neg h1, if_neg h1]⟩
      case measure => simp [intOf] <;> omega
    · obtain rfl : j = 1 := by omega
      go_wp2
      go_ret
      have hs := HF.out.size
      refine ⟨_, _, rfl, HB.out.trans (HF.out.below HB.out.size fun b hb => hb ▸ hg0), fun a e => by injection e with e; subst e; exact hg0, fun a e => by injection e with e; subst e; exact Nat.lt_of_lt_of_le hg1 hs, fun _ => ⟨g1, o1, rfl, HW.out⟩, fun _ => ⟨g1, o1, rfl, Nat.lt_of_lt_of_le hg1 hs, HR.out⟩⟩

set_option maxHeartbeats 2000000 in
theorem eventLine4_any (p q r : Nat) (b y d : Int) (w : World) (hn : r ≤ 500) (hq : 0 < q) (hp : p + q ≤ r) :
    Calls Try.prog 44 #[.agg #[.int .i64 4, .int .i64 p, .int .i64 (q : Int), .int .i64 b, .int .i64 y, .int .i64 d], .int .i64 r] w (NewP w (2 * r - 1) (2 * r - 1) (fun j => .int .u8 (markZ lineZ p q 68 j))) := by
  have r1 : r ≤ 501 := by omega
  go_enter Try.func44, Try.ntmps44
  go_wp2
  go_quiet (fail)
  go_wp2_with fail
  refine (strandsLine_any r _ (by omega)).mono ?_
  rintro e w1 ⟨A1, c1, rfl, hp1⟩
  obtain ⟨g1, o1, rfl, hg, hg1, hr1, hw1⟩ := new_row hp1 (by omega)
  have HB := Lib.hid ((Below.drewN' ((Below.refl w.heap.size w).alloc (Nat.le_refl _) _) nq).trans (hp1.bl.mono (by simp [World.drewN])))
  have HR := Lib.hid hr1
  have HW := Lib.hid hw1
  have hg0 : w.heap.size ≤ g1 := by simp [World.drewN] at hg; omega
  clear hr1 hw1 hp1 hg
  go_wp2_with fail
  go_loopw [43] (fun i wr => ∃ j : Nat, j ≤ q ∧ i = .int .i64 j ∧ Fr w1 wr (fun b => b = g1) ∧ RowW wr g1 o1 (2 * r - 1) ∧ RowR wr g1 o1 (2 * r - 1) (fun x => .int .u8 (markZ lineZ p j 68 x))) (fun i _ => q - (intOf i).toNat)
  case atStart => exact ⟨0, Nat.zero_le _, rfl, Fr.refl _ _, HW.out, HR.out.congr fun j _ => by rw [markZ_zero]⟩
  case round =>
    obtain ⟨j, hj, rfl, hf, hw, hr⟩ := hrel
    have HF := Lib.hid hf
    have HW := Lib.hid hw
    have HR := Lib.hid hr
    clear hf hw hr
    by_cases hlt : j < q
    · obtain ⟨⟨u, hu⟩, hfz⟩ := HW.out (2 * (p + j)) (by omega)
      have b1 : (0 : Int) ≤ 2 * ((p : Int) + j) := by omega
      have b2 : 2 * ((p : Int) + j) < ((2 * r - 1 : Nat) : Int) := by omega
      go_wp2
      go_roundw
      case rel =>
        exact ⟨j + 1, by omega, by go_num, HF.out.set rfl _, HW.out.set _ _, (HR.out.upd (k := 2 * (p + j)) (by omega) _).congr fun x _ => by
          rw [markZ_next]
          by_cases h1 : x = 2 * (p + j)
          · rw [if_pos h1, if_pos h1]
          · rw [if_neg h1, if_neg h1]⟩
      case measure => simp [intOf] <;> omega
    · obtain rfl : q = j := by omega
      go_wp2
      go_ret
      have hs := HF.out.size
      refine ⟨_, _, rfl, HB.out.trans (HF.out.below HB.out.size fun b hb => hb ▸ hg0), fun a e => by injection e with e; subst e; exact hg0, fun a e => by injection e with e; subst e; exact Nat.lt_of_lt_of_le hg1 hs, fun _ => ⟨g1, o1, rfl, HW.out⟩, fun _ => ⟨g1, o1, rfl, Nat.lt_of_lt_of_le hg1 hs, HR.out⟩⟩

end Go.Proofs.Ytpgmkkepbnonmaa
