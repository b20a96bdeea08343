/- Walks: lines of pictures, by the reference and by the program: strands, a letter. No condition but the bounds. -/
import Derived.Test.YtacppheedleamaaRepeat
import Derived.Test.YtacppheedleamaaAppend
namespace Go.Proofs.Ytacppheedleamaa
open Go.RowKit
set_option maxRecDepth 20000

theorem RowR.upd {w : World} {g o N : Nat} {f : Nat → Value} (hr : RowR w g o N f) {k : Nat} (hk : k < N) (u : Value) : RowR (w.setCell ⟨g, o + k, none⟩ u) g o N (fun j => if j = k then u else f j) := fun j hj => by
  by_cases hjk : j = k
  · subst hjk
    simp only [if_true]
    exact World.cell?_setCell_same _ _ _ (hr j hj)
  · simp only [if_neg hjk]
    rw [World.cell?_setCell_other _ _ _ _ (by intro e; injection e; omega)]
    exact hr j hj
theorem RowR.congr {w : World} {g o N : Nat} {f f' : Nat → Value} (hr : RowR w g o N f) (h : ∀ j, j < N → f j = f' j) : RowR w g o N f' := fun j hj => (hr j hj).trans (by rw [h j hj])
theorem info_parts8 : (Try.prog.info? 5).map (fun i => (i.zero, i.size, i.bytes)) = some (some (.int .u8 0), 1, 1) := by kernel_rfl

theorem Fr.setG {w w' : World} {g : Nat} (h : Fr w w' (fun b => b = g)) (k : Nat) (v : Value) : Fr w (w'.setCell ⟨g, k, none⟩ v) (fun b => b = g) := h.set rfl v
theorem blanks_any (n : Nat) (w : World) (hn : n ≤ 8192) :
    Calls Try.prog 110 #[.int .i64 n] w (NewP w n n (fun _ => .int .u8 32)) := by
  go_enter Try.func110, Try.ntmps110
  go_wp2_with fail
  refine (repeat_any w.heap.size 32 n _ (cell_alloc_at rfl 0) hn).mono ?_
  rintro e w1 ⟨A, c, rfl, hp⟩
  have HP := Lib.hid hp
  clear hp
  go_wp2_with fail
  go_ret
  have hs := HP.out.bl.size
  have ha := HP.out.ab
  simp only [World.size_alloc] at hs ha
  exact ⟨A, c, rfl, ((Below.refl _ _).alloc (Nat.le_refl _) _).trans (HP.out.bl.mono (by simp)), ha.mono (by omega), HP.out.bb, HP.out.wr, HP.out.rd⟩

/-- The line of strands. -/
def lineZ (j : Nat) : Int := if j % 2 = 0 then 124 else 32
def midZ (k j : Nat) : Int := if j % 2 = 0 ∧ j < 2 * k then 124 else 32

set_option maxHeartbeats 1000000 in
theorem strandsLine_any (n : Nat) (w : World) (hn : n ≤ 4096) :
    Calls Try.prog 77 #[.int .i64 n] w (NewP w (2 * n - 1) (2 * n - 1) (fun j => .int .u8 (lineZ j))) := by
  rcases Nat.eq_zero_or_pos n with hz | hpos
  · subst hz
    go_enter Try.func77, Try.ntmps77
    go_wp2_with fail
    refine (blanks_any 0 _ (by omega)).mono ?_
    rintro e w1 ⟨A, c, rfl, hp⟩
    have HP := Lib.hid hp
    clear hp
    go_wp2_with fail
    go_loop [11] (fun i => i = .int .i64 0) (fun _ => 0)
    case atStart => rfl
    case round =>
      obtain rfl := hrel
      go_wp2
      go_ret
      exact ⟨A, c, rfl, HP.out.congr fun j hj => absurd hj (by omega)⟩
  obtain ⟨N, hN⟩ : ∃ N : Nat, N = 2 * n - 1 := ⟨_, rfl⟩
  rw [← hN]
  have hN1 : N ≤ 2 * n - 1 := by omega
  have hN2 : 2 * n - 1 ≤ N := by omega
  clear hN
  go_enter Try.func77, Try.ntmps77
  go_wp2_with fail
  rw [show 2 * (n : Int) - 1 = (N : Int) by omega]
  refine (blanks_any N _ (by omega)).mono ?_
  rintro e w1 ⟨A, c, rfl, hp⟩
  obtain ⟨g, o, rfl, hg1, hrow⟩ := hp.rd (by omega)
  obtain ⟨g', o', e', hwr⟩ := hp.wr (by omega)
  injection e' with e'
  injection e' with e1 e2
  subst e1 e2
  have HP := Lib.hid hp
  have HW := Lib.hid hwr
  have HR := Lib.hid hrow
  clear hp hwr hrow
  go_wp2_with fail
  go_loopw [11] (fun i wr => ∃ k : Nat, k ≤ n ∧ i = .int .i64 k ∧ Fr w1 wr (fun b => b = g) ∧ RowW wr g o N ∧ RowR wr g o N (fun j => .int .u8 (midZ k j))) (fun i _ => n - (intOf i).toNat)
  case atStart => exact ⟨0, Nat.zero_le _, rfl, Fr.refl _ _, HW.out, HR.out.congr fun j hj => by simp [midZ]⟩
  case round =>
    obtain ⟨k, hk, rfl, hf, hw, hr⟩ := hrel
    have HF := Lib.hid hf
    have HW := Lib.hid hw
    have HR := Lib.hid hr
    clear hf hw hr
    by_cases hlt : k < n
    · obtain ⟨⟨u, hu⟩, hfz⟩ := HW.out (2 * k) (by omega)
      have b1 : (0 : Int) ≤ 2 * (k : Int) := by omega
      have b2 : 2 * (k : Int) < (N : Int) := by omega
      go_wp2
      go_roundw
      case rel =>
        refine ⟨k + 1, by omega, by go_num, HF.out.set rfl _, HW.out.set _ _, (HR.out.upd (k := 2 * k) (by omega) _).congr fun j hj => ?_⟩
        simp only [midZ]
        by_cases h1 : j = 2 * k
        · rw [if_pos h1, if_pos (by omega)]
        · rw [if_neg h1]
          by_cases h2 : j % 2 = 0 ∧ j < 2 * k
          · rw [if_pos h2, if_pos (by omega)]
          · rw [if_neg h2, if_neg (by omega)]
      case measure => simp [intOf] <;> omega
    · obtain rfl : n = k := by omega
      go_wp2
      go_ret
      have hs := HF.out.size
      have hb := HP.out.bb _ rfl
      refine ⟨_, c, rfl, HP.out.bl.trans (HF.out.below HP.out.bl.size fun b hb => hb ▸ HP.out.ab _ rfl), HP.out.ab, fun a e => ?_, fun _ => ⟨g, o, rfl, HW.out⟩, fun _ => ⟨g, o, rfl, by omega, HR.out.congr fun j hj => ?_⟩⟩
      · injection e with e
        subst e
        exact Nat.lt_of_lt_of_le hb hs
      · simp only [midZ, lineZ]
        by_cases h2 : j % 2 = 0
        · rw [if_pos ⟨h2, by omega⟩, if_pos h2]
        · rw [if_neg (by omega), if_neg h2]

/-- A crossing at place p in a line. -/
def crossZ (f : Nat → Int) (p : Nat) (front : Bool) (j : Nat) : Int := if j = 2 * p then 92 else if j = 2 * p + 1 then (if front then 120 else 121) else if j = 2 * p + 2 then 47 else f j

set_option maxHeartbeats 400000 in
theorem size_any (l : Int) (w : World) (h1 : -1000000 ≤ l) (h2 : l ≤ 1000000) :
    Calls Try.prog 111 #[.int .i64 l] w fun e w' => e = .returned (.int .i64 l.natAbs) ∧ w = w' := by
  go_enter Try.func111, Try.ntmps111
  go_wp2
  all_goals go_ret
  all_goals exact ⟨by show Ending.returned (Value.int _ _) = _; congr 2; omega, rfl⟩
set_option maxHeartbeats 1000000 in
theorem letterLine_any (n : Nat) (l : Int) (w : World) (hn : n ≤ 4096) (h0 : l ≠ 0) (h1 : l.natAbs < n) :
    Calls Try.prog 78 #[.int .i64 n, .int .i64 l] w (NewP w (2 * n - 1) (2 * n - 1) (fun j => .int .u8 (crossZ lineZ (l.natAbs - 1) (decide (0 < l)) j))) := by
  obtain ⟨N, hN⟩ : ∃ N : Nat, N = 2 * n - 1 := ⟨_, rfl⟩
  obtain ⟨q, hq⟩ : ∃ q : Nat, q = l.natAbs := ⟨_, rfl⟩
  have hsl := strandsLine_any n
  simp only [← hN] at hsl
  have HSL := Lib.hid hsl
  have hsz := size_any l
  simp only [← hq] at hsz
  have HSZ := Lib.hid hsz
  rw [← hN, ← hq]
  have q1 : 1 ≤ q := by omega
  have q2 : 2 * q < N := by omega
  have q3 : N ≤ 8191 := by omega
  have q4 : -1000000 ≤ l := by omega
  have q5 : l ≤ 1000000 := by omega
  clear hN hq hsl hsz h1
  go_enter Try.func78, Try.ntmps78
  go_wp2_with fail
  refine (HSL.out _ hn).mono ?_
  rintro e w1 ⟨A, c, rfl, hp⟩
  obtain ⟨g, o, rfl, hg1, hr⟩ := hp.rd (by omega)
  obtain ⟨g', o', e', hw⟩ := hp.wr (by omega)
  injection e' with e'
  injection e' with e1 e2
  subst e1 e2
  have HP := Lib.hid hp
  have HW := Lib.hid hw
  obtain ⟨⟨u0, hu0⟩, hf0⟩ := hw (2 * q - 2) (by omega)
  obtain ⟨⟨u1, hu1⟩, hf1⟩ := hw (2 * q - 1) (by omega)
  obtain ⟨⟨u2, hu2⟩, hf2⟩ := hw (2 * q) (by omega)
  have hr1 := hr.upd (k := 2 * q - 2) (by omega) (.int .u8 92)
  have hr2 := hr1.upd (k := 2 * q - 1) (by omega) (.int .u8 120)
  have H4 := Lib.hid (hr2.upd (k := 2 * q) (by omega) (.int .u8 47))
  have H5 := Lib.hid ((hr2.upd (k := 2 * q - 1) (by omega) (.int .u8 121)).upd (k := 2 * q) (by omega) (.int .u8 47))
  have HF3 := (((Fr.refl w1 (fun b => b = g)).setG (o + (2 * q - 2)) (.int .u8 92)).setG (o + (2 * q - 1)) (.int .u8 120)).setG (o + 2 * q) (.int .u8 47)
  have HF4 := ((((Fr.refl w1 (fun b => b = g)).setG (o + (2 * q - 2)) (.int .u8 92)).setG (o + (2 * q - 1)) (.int .u8 120)).setG (o + (2 * q - 1)) (.int .u8 121)).setG (o + 2 * q) (.int .u8 47)
  have F3 := Lib.hid HF3
  have F4 := Lib.hid HF4
  clear hp hw hr hr1 hr2 HF3 HF4
  have b0 : (2 : Int) ≤ 2 * (q : Int) := by omega
  have b1 : 2 * (q : Int) < (N : Int) := by omega
  by_cases hneg : l < 0
  · go_wp2_with (go_at_call 111; refine (HSZ.out _ q4 q5).mono ?_; rintro e w' ⟨rfl, rfl⟩)
    go_ret
    have H5F := F4.out
    have hs := H5F.size
    have hlt := HP.out.bb _ rfl
    refine ⟨_, c, rfl, HP.out.bl.trans (H5F.below HP.out.bl.size fun b hb => hb ▸ HP.out.ab _ rfl), HP.out.ab, fun a e => ?_, fun _ => ⟨g, o, rfl, (((HW.out.set _ _).set _ _).set _ _).set _ _⟩, fun _ => ⟨g, o, rfl, by simpa [World.setCell] using hg1, H5.out.congr fun j hj => ?_⟩⟩
    · injection e with e
      subst e
      exact Nat.lt_of_lt_of_le hlt hs
    · simp only [crossZ]
      by_cases k1 : j = 2 * q
      · rw [if_pos k1, if_neg (by omega), if_neg (by omega), if_pos (by omega)]
      · by_cases k2 : j = 2 * q - 1
        · rw [if_neg k1, if_pos k2, if_neg (by omega), if_pos (by omega), decide_eq_false (by omega)]
          rfl
        · by_cases k3 : j = 2 * q - 2
          · rw [if_neg k1, if_neg k2, if_neg k2, if_pos k3, if_pos (by omega)]
          · rw [if_neg k1, if_neg k2, if_neg k2, if_neg k3, if_neg (by omega), if_neg (by omega), if_neg (by omega)]
  · go_wp2_with (go_at_call 111; refine (HSZ.out _ q4 q5).mono ?_; rintro e w' ⟨rfl, rfl⟩)
    go_ret
    have H4F := F3.out
    have hs := H4F.size
    have hlt := HP.out.bb _ rfl
    refine ⟨_, c, rfl, HP.out.bl.trans (H4F.below HP.out.bl.size fun b hb => hb ▸ HP.out.ab _ rfl), HP.out.ab, fun a e => ?_, fun _ => ⟨g, o, rfl, ((HW.out.set _ _).set _ _).set _ _⟩, fun _ => ⟨g, o, rfl, by simpa [World.setCell] using hg1, H4.out.congr fun j hj => ?_⟩⟩
    · injection e with e
      subst e
      exact Nat.lt_of_lt_of_le hlt hs
    · simp only [crossZ]
      by_cases k1 : j = 2 * q
      · rw [if_pos k1, if_neg (by omega), if_neg (by omega), if_pos (by omega)]
      · by_cases k2 : j = 2 * q - 1
        · rw [if_neg k1, if_pos k2, if_neg (by omega), if_pos (by omega), decide_eq_true (by omega)]
          rfl
        · by_cases k3 : j = 2 * q - 2
          · rw [if_neg k1, if_neg k2, if_pos k3, if_pos (by omega)]
          · rw [if_neg k1, if_neg k2, if_neg k3, if_neg (by omega), if_neg (by omega), if_neg (by omega)]
end Go.Proofs.Ytacppheedleamaa
