/- Contracts of the laws' helpers over slices of int64 and slices of such slices. (Printed by wip/flatgen.py.) -/
import Derived.Test.YtmlimefpmldlbaaObjs
import Derived.Deep.RegionHeld3
import Derived.Deep.QuietTactic
import Derived.BigQuiet
namespace Go.Proofs.Ytmlimefpmldlbaa
open Go.RowKit

set_option maxHeartbeats 1000000 in
theorem eqInt64S_any (A A' : Option Addr) (n c c' : Nat) (z : Nat → Int) (w : World) (ha : Rd w A (n * 1) (fun j => .int .i64 (z j))) (hb : Rd w A' (n * 1) (fun j => .int .i64 (z j))) (hn : n ≤ 1000000000) :
    Calls Try.prog 50 #[.slice A n c, .slice A' n c'] w fun e w' => e = .returned (.bool true) ∧ Below w.heap.size w w' := by
  have HA := Lib.hid ha
  have HB := Lib.hid hb
  clear ha hb
  go_enter Try.func50, Try.ntmps50
  go_wp2
  go_loopw [5] (fun i wr => ∃ k : Nat, k ≤ n ∧ i = .int .i64 k ∧ Below w.heap.size w wr) (fun i _ => n - (intOf i).toNat)
  case atStart => exact ⟨0, Nat.zero_le _, rfl, Below.refl _ _⟩
  case round =>
    obtain ⟨k, hk, rfl, hbl⟩ := hrel
    have HL := Lib.hid hbl
    clear hbl
    by_cases hlt : k < n
    · obtain ⟨g, o, rfl, hg, hc⟩ := HA.out (by omega)
      obtain ⟨g', o', rfl, hg', hc'⟩ := HB.out (by omega)
      have a0 := ((bcell HL.out).1 g _ hg).trans (hc (k * 1 + 0) (by omega))
      have b0 := ((bcell HL.out).1 g' _ hg').trans (hc' (k * 1 + 0) (by omega))
      simp only [← Nat.add_assoc] at a0 b0
      obtain ⟨y0, hy0⟩ : ∃ y, y = z (k * 1 + 0) := ⟨_, rfl⟩
      simp only [Nat.mul_one, Nat.add_zero] at a0 b0 hy0
      simp only [← hy0] at a0 b0
      clear hy0 hc hc'
      have hgr : g < wr.heap.size := blt HL.out hg
      have hgr' : g' < wr.heap.size := blt HL.out hg'
      go_wp2
      go_quiet (fail)
      go_wp2
      go_roundw
      case rel => exact ⟨k + 1, by omega, by go_num, Below.drewN' HL.out nq⟩
      case measure => simp [intOf] <;> omega
    · obtain rfl : k = n := by omega
      go_wp2
      go_ret
      exact ⟨rfl, HL.out⟩

set_option maxHeartbeats 1000000 in
theorem markInt64S_any (A : Option Addr) (n c : Nat) (k : Int) (w : World) (h : Wr w A (n * 1)) (hn : n ≤ 1000000000) (h0 : 0 ≤ k) (hk : k ≤ 2000000000) :
    Calls Try.prog 51 #[.slice A n c, .int .i64 k] w (MarkP w A (n * 1) (k + n * 1) (fun j => .int .i64 (k + j))) := by
  by_cases hz : n = 0
  · subst hz
    go_enter Try.func51, Try.ntmps51
    go_wp2
    go_loop [1, 5] (fun kk i => kk = .int .i64 k ∧ i = .int .i64 0) (fun _ _ => 0)
    case atStart => exact ⟨rfl, rfl⟩
    case round =>
      obtain ⟨rfl, rfl⟩ := hrel
      go_wp2
      go_ret
      exact ⟨ret_int (by simp), Nat.le_refl _, fun _ => rfl, fun _ _ _ h => absurd h (by omega)⟩
  · obtain ⟨g, o, rfl, hw⟩ := h (by omega)
    clear h
    have hg := hw.lt (by omega)
    have HW := Lib.hid hw
    clear hw
    go_enter Try.func51, Try.ntmps51
    go_wp2
    go_loopw [1, 5] (fun kk i wr => ∃ q : Nat, q ≤ n ∧ i = .int .i64 q ∧ kk = .int .i64 (k + q * 1) ∧ g < wr.heap.size ∧ Only w wr g ∧ RowW wr g o (n * 1) ∧ RowR wr g o (q * 1) (fun j => .int .i64 (k + j))) (fun _ i _ => n - (intOf i).toNat)
    case atStart => exact ⟨0, Nat.zero_le _, rfl, by simp, hg, Only.refl _ _, HW.out, fun j hj => absurd hj (by omega)⟩
    case round =>
      obtain ⟨q, hq, rfl, rfl, hgr, ho, hw, hr⟩ := hrel
      have HO := Lib.hid ho
      have HW' := Lib.hid hw
      have HR := Lib.hid hr
      clear ho hw hr
      by_cases hlt : q < n
      · obtain ⟨⟨u100, hu0⟩, hf0⟩ := HW'.out (q * 1 + 0) (by omega)
        simp only [Nat.add_zero, Nat.mul_one] at hu0 hf0
        go_wp2
        go_roundw
        case rel =>
          refine ⟨q + 1, by omega, by go_num, by go_num, by simp; exact hgr, (HO.out.set _ _), (HW'.out.set _ _), ?_⟩
          have r0 := RowR.step (m := q * 1) (a := o + q) (u := .int .i64 (k + q)) HR.out HW'.out (by omega) (by omega) (by simp only [Value.int.injEq, true_and]; omega)
          exact RowR.cast (by omega) r0
        case measure => simp [intOf] <;> omega
      · obtain rfl : q = n := by omega
        go_wp2
        go_ret
        exact ⟨rfl, HO.out.size, fun h => absurd h (by omega), fun g' o' e _ => by injection e with e; injection e with e1 e2; subst e1 e2; exact ⟨HO.out, HW'.out, HR.out⟩⟩

set_option maxHeartbeats 1000000 in
theorem heldInt64S_any (A : Option Addr) (n c : Nat) (k : Int) (w : World) (h : Rd w A (n * 1) (fun j => .int .i64 (k + j))) (hn : n ≤ 1000000000) (h0 : 0 ≤ k) (hk : k ≤ 2000000000) :
    Calls Try.prog 52 #[.slice A n c, .int .i64 k] w fun e w' => e = .returned (.int .i64 (k + n * 1)) ∧ Below w.heap.size w w' := by
  have H := Lib.hid h
  clear h
  go_enter Try.func52, Try.ntmps52
  go_wp2
  go_loop [1, 5] (fun kk i => ∃ q : Nat, q ≤ n ∧ i = .int .i64 q ∧ kk = .int .i64 (k + q * 1)) (fun _ i => n - (intOf i).toNat)
  case atStart => exact ⟨0, Nat.zero_le _, rfl, by simp⟩
  case round =>
    obtain ⟨q, hq, rfl, rfl⟩ := hrel
    by_cases hlt : q < n
    · obtain ⟨g, o, rfl, hg, hr⟩ := H.out (by omega)
      have c0 := hr (q * 1 + 0) (by omega)
      simp only [Nat.add_zero, Nat.mul_one] at c0
      clear hr
      go_wp2
      go_round
      case rel => exact ⟨q + 1, by omega, by go_num, by go_num⟩
      case measure => simp [intOf] <;> omega
    · obtain rfl : q = n := by omega
      go_wp2
      go_ret
      exact ⟨rfl, Below.refl _ _⟩


set_option maxHeartbeats 1000000 in
theorem eqInt64SS_any (A A' : Option Addr) (n c c' : Nat) (As As' : Nat → Option Addr) (ns cs cs' : Nat → Nat) (z : Nat → Nat → Int) (w : World) (ha : RdSS 1 A n As ns cs z w) (hb : RdSS 1 A' n As' ns cs' z w) (hn : n ≤ 1000000000) (hns : ∀ j, j < n → ns j ≤ 1000000000) :
    Calls Try.prog 28 #[.slice A n c, .slice A' n c'] w fun e w' => e = .returned (.bool true) ∧ Below w.heap.size w w' := by
  have HA := Lib.hid ha
  have HB := Lib.hid hb
  have HN := Lib.hid hns
  clear ha hb hns
  go_enter Try.func28, Try.ntmps28
  go_wp2
  go_loopw [5] (fun i wr => ∃ k : Nat, k ≤ n ∧ i = .int .i64 k ∧ Below w.heap.size w wr) (fun i _ => n - (intOf i).toNat)
  case atStart => exact ⟨0, Nat.zero_le _, rfl, Below.refl _ _⟩
  case round =>
    obtain ⟨k, hk, rfl, hbl⟩ := hrel
    have HL := Lib.hid hbl
    clear hbl
    by_cases hlt : k < n
    · obtain ⟨g, o, rfl, hg, hc⟩ := HA.out.1 (by omega)
      obtain ⟨g', o', rfl, hg', hc'⟩ := HB.out.1 (by omega)
      have a0 := ((bcell HL.out).1 g _ hg).trans (hc k hlt)
      have b0 := ((bcell HL.out).1 g' _ hg').trans (hc' k hlt)
      have R1 := Lib.hid ((HA.out.2 k hlt).below HL.out)
      have R2 := Lib.hid ((HB.out.2 k hlt).below HL.out)
      clear hc hc'
      have hgr : g < wr.heap.size := blt HL.out hg
      have hgr' : g' < wr.heap.size := blt HL.out hg'
      go_wp2
      go_region_held3 (fun w' => w'.cell? ⟨g, o + k, none⟩ = some (.slice (As k) (ns k) (cs k)) ∧ w'.cell? ⟨g', o' + k, none⟩ = some (.slice (As' k) (ns k) (cs' k))) (go_keep) (first | (go_at_call 50; refine (eqInt64S_any (As k) (As' k) (ns k) (cs k) (cs' k) (z k) _ (R1.out.drewN 1) (R2.out.drewN 1) (HN.out k hlt)).mono ?_; rintro e w1 ⟨rfl, hb1⟩; have hk1 := fun x => (bcell hb1).1 g x (by simpa using hgr); have hk2 := fun x => (bcell hb1).1 g' x (by simpa using hgr')))
      go_wp2
      go_roundw
      case rel => exact ⟨k + 1, by omega, by go_num, (Below.drewN' HL.out 1).trans (hb1.mono HL.out.size)⟩
      case measure => simp [intOf] <;> omega
    · obtain rfl : k = n := by omega
      go_wp2
      go_ret
      exact ⟨rfl, HL.out⟩

/-- What a mark leaves in a slice of slices: the rows up to q are marked, the others can still be written. -/
def MidSS (S : Nat) (n : Nat) (As : Nat → Option Addr) (ns : Nat → Nat) (k : Int) (q : Nat) (w : World) : Prop :=
  (∀ j, j < q → Rd w (As j) (ns j * S) (fun i => .int .i64 (k + offS S ns j + i))) ∧ ∀ j, q ≤ j → j < n → Wr w (As j) (ns j * S)

set_option maxHeartbeats 1000000 in
theorem markInt64SS_any (A : Option Addr) (n c : Nat) (As : Nat → Option Addr) (ns cs : Nat → Nat) (k : Int) (w : World) (h : WrSS 1 A n As ns cs w) (hn : n ≤ 1000000000) (hsum : offS 1 ns n ≤ 1000000000) (h0 : 0 ≤ k) (hk : k ≤ 1) :
    Calls Try.prog 29 #[.slice A n c, .int .i64 k] w (MarkO w (FSS 1 A n As ns) (k + offS 1 ns n) (RdSS 1 A n As ns cs (fun j i => k + offS 1 ns j + i))) := by
  have H := Lib.hid h
  have HSUM := Lib.hid hsum
  clear h
  go_enter Try.func29, Try.ntmps29
  go_wp2
  go_loopw [1, 5] (fun kk i wr => ∃ q : Nat, q ≤ n ∧ i = .int .i64 q ∧ kk = .int .i64 (k + offS 1 ns q) ∧ Fr w wr (fun b => ∃ j, j < n ∧ Fb (As j) (ns j * 1) b) ∧ MidSS 1 n As ns k q wr) (fun _ i _ => n - (intOf i).toNat)
  case atStart => exact ⟨0, Nat.zero_le _, rfl, by simp [offS], Fr.refl _ _, fun j hj => absurd hj (by omega), fun j _ hj => H.out.2.1 j hj⟩
  case round =>
    obtain ⟨q, hq, rfl, rfl, hfr, hmid⟩ := hrel
    have HF := Lib.hid hfr
    have HM := Lib.hid hmid
    clear hfr hmid
    have hoq : offS 1 ns q ≤ 1000000000 := Nat.le_trans (offS_mono _ _ hq) hsum
    by_cases hlt : q < n
    · have hout := (rd_obj A n _).fr H.out.1 HF.out (fun b hb ⟨j, hj, hb'⟩ => H.out.2.2.1 j b hj hb' hb)
      obtain ⟨g, o, rfl, hc⟩ := Rd.row hout hlt
      clear hout
      have hnq : ns q ≤ 1000000000 := by
        have := offS_mono 1 ns (show q + 1 ≤ n by omega)
        simp only [offS] at this
        omega
      have W1 := Lib.hid (HM.out.2 q (Nat.le_refl _) hlt)
      go_wp2_with fail
      refine (markInt64S_any (As q) (ns q) (cs q) (k + offS 1 ns q) _ W1.out hnq (by omega) (by omega)).mono ?_
      rintro e w1 hm
      obtain rfl := hm.1
      have hO := hm.obj W1.out
      have HF1 := Lib.hid (HF.out.trans (hO.fr.mono (F' := fun b => ∃ j, j < n ∧ Fb (As j) (ns j * 1) b) fun b hb => ⟨q, hlt, hb⟩))
      have HM1 : Hid (MidSS 1 n As ns k (q + 1) w1) := by
        refine ⟨fun j hj => ?_, fun j hj hjn => ?_⟩
        · by_cases hjq : j = q
          · subst hjq
            exact hO.m
          · exact (rd_obj _ _ _).fr (HM.out.1 j (by omega)) hO.fr (fun b hb => H.out.2.2.2 j q b (by omega) hlt hb)
        · exact (wr_obj _ _).fr (HM.out.2 j (by omega) hjn) hO.fr (fun b hb hb' => H.out.2.2.2 q j b (by omega) hjn hb' hb)
      clear hm hO
      go_wp2
      go_roundw
      case rel => exact ⟨q + 1, by omega, by go_num, by simp only [offS, Value.int.injEq, true_and]; omega, HF1.out, HM1.out⟩
      case measure => simp [intOf] <;> omega
    · obtain rfl : q = n := by omega
      go_wp2
      go_ret
      exact ⟨rfl, HF.out.mono fun b hb => .inr hb, ⟨(rd_obj A q _).fr H.out.1 HF.out (fun b hb ⟨j, hj, hb'⟩ => H.out.2.2.1 j b hj hb' hb), fun j hj => HM.out.1 j hj⟩, rdSS_obj _ _ _ _ _ _ _⟩

set_option maxHeartbeats 1000000 in
theorem heldInt64SS_any (A : Option Addr) (n c : Nat) (As : Nat → Option Addr) (ns cs : Nat → Nat) (k : Int) (w : World) (h : RdSS 1 A n As ns cs (fun j i => k + offS 1 ns j + i) w) (hn : n ≤ 1000000000) (hsum : offS 1 ns n ≤ 1000000000) (h0 : 0 ≤ k) (hk : k ≤ 1) :
    Calls Try.prog 30 #[.slice A n c, .int .i64 k] w fun e w' => e = .returned (.int .i64 (k + offS 1 ns n)) ∧ Below w.heap.size w w' := by
  have H := Lib.hid h
  clear h
  go_enter Try.func30, Try.ntmps30
  go_wp2
  go_loopw [1, 5] (fun kk i wr => ∃ q : Nat, q ≤ n ∧ i = .int .i64 q ∧ kk = .int .i64 (k + offS 1 ns q) ∧ Below w.heap.size w wr) (fun _ i _ => n - (intOf i).toNat)
  case atStart => exact ⟨0, Nat.zero_le _, rfl, by simp [offS], Below.refl _ _⟩
  case round =>
    obtain ⟨q, hq, rfl, rfl, hbl⟩ := hrel
    have HB := Lib.hid hbl
    clear hbl
    have hoq : offS 1 ns q ≤ 1000000000 := Nat.le_trans (offS_mono _ _ hq) hsum
    by_cases hlt : q < n
    · have hout := H.out.1.below HB.out
      obtain ⟨g, o, rfl, hc⟩ := hout.row hlt
      clear hout
      have hnq : ns q * 1 + offS 1 ns q ≤ 1000000000 := by
        have := offS_mono 1 ns (show q + 1 ≤ n by omega)
        simp only [offS] at this
        omega
      have R1 := Lib.hid ((H.out.2 q hlt).below HB.out)
      go_wp2_with fail
      refine (heldInt64S_any (As q) (ns q) (cs q) (k + offS 1 ns q) _ R1.out (by omega) (by omega) (by omega)).mono ?_
      rintro e w1 ⟨he, hb1⟩
      obtain rfl := he
      have HB1 := Lib.hid (HB.out.trans (hb1.mono HB.out.size))
      clear hb1
      go_wp2
      go_roundw
      case rel => exact ⟨q + 1, by omega, by go_num, by simp only [offS, Value.int.injEq, true_and]; omega, HB1.out⟩
      case measure => simp [intOf] <;> omega
    · obtain rfl : q = n := by omega
      go_wp2
      go_ret
      exact ⟨rfl, HB.out⟩

/-- What the count of a slice's size says: it ran out, or the slice is not longer than what was left. -/
def SzP (w : World) (L n : Nat) (e : Ending) (w' : World) : Prop := ∃ r : Int, (r < 0 ∨ (n ≤ L ∧ r = L - n)) ∧ e = .returned (.int .i64 r) ∧ w = w'
theorem szInt64S_any (A : Option Addr) (n c L : Nat) (w : World) (hn : n ≤ maxLen) (hL : L ≤ 1048576) :
    Calls Try.prog 53 #[.slice A n c, .int .i64 L] w (SzP w L n) := by
  unfold maxLen at hn
  by_cases hle : n ≤ L
  · go_enter Try.func53, Try.ntmps53
    go_wp2
    go_ret
    exact ⟨(L : Int) - n, .inr ⟨hle, rfl⟩, rfl, rfl⟩
  · go_enter Try.func53, Try.ntmps53
    go_wp2
    go_ret
    exact ⟨-1, .inl (by omega), rfl, rfl⟩
theorem infoInt64' : (Try.prog.info? 2).map (fun i => (i.zero, i.size, i.bytes)) = some (some (.int .i64 0), 1, 8) := by kernel_rfl

set_option maxHeartbeats 400000 in
theorem toInt64S_any (A : Option Addr) (n c : Nat) (z : Nat → Int) (w : World) (ha : Rd w A n (fun j => .int .i64 (z j))) (hn : n ≤ 1048576) :
    Calls Try.prog 56 #[.slice A n c] w (NewP w n n (fun j => .int .i64 (z j))) := by
  have HA := Lib.hid ha
  clear ha
  obtain ⟨i0, hi, hz0, hz1, hz2⟩ := info_parts infoInt64'
  go_enter Try.func56, Try.ntmps56
  go_wp2_with (at_make; refine wpList_make_full _ rfl _ _ 46 rfl w.heap.size 2 i0 (.int .i64 0) 1 Try.underlying46 hi hz0 hz1 .i64 .i64 n n n rfl rfl rfl rfl (by rw [hz2]; omega) (by unfold maxLen; omega) (Nat.le_refl _) ?_; intro w1 hown hg1)
  have hb1 := (Below.refl w.heap.size w).grown hg1 (Nat.le_refl _) (fun k e => by cases e)
  have hw1 := RowW.of_own hown
  have hg1 : w.heap.size < w1.heap.size := (hown.lt _ rfl).2
  have HB := Lib.hid hb1
  have HW := Lib.hid hw1
  clear hb1 hw1 hown
  go_loopw [4] (fun i wr => ∃ k : Nat, k ≤ n ∧ i = .int .i64 k ∧ Below w.heap.size w wr ∧ w.heap.size < wr.heap.size ∧ RowW wr w.heap.size 0 n ∧ RowR wr w.heap.size 0 k (fun j => .int .i64 (z j))) (fun i _ => n - (intOf i).toNat)
  case atStart => exact ⟨0, Nat.zero_le _, rfl, HB.out, hg1, by simpa using HW.out, fun j hj => absurd hj (by omega)⟩
  case round =>
    obtain ⟨k, hk, rfl, hb, hgr, hw, hr⟩ := hrel
    have HB := Lib.hid hb
    have HW := Lib.hid hw
    have HR := Lib.hid hr
    clear hb hw hr
    by_cases hlt : k < n
    · obtain ⟨g, o, rfl, hg, hra⟩ := HA.out (by omega)
      have hc := ((bcell HB.out).1 _ _ hg).trans (hra k hlt)
      obtain ⟨⟨u, hu⟩, hf⟩ := HW.out k hlt
      rw [Nat.zero_add] at hu hf
      obtain ⟨x, hx⟩ : ∃ x, x = z k := ⟨_, rfl⟩
      simp only [← hx] at hc
      have HX := Lib.hid hx
      clear hx hra
      go_wp2
      go_roundw
      case rel =>
        refine ⟨k + 1, by omega, by go_num, HB.out.setCell (Nat.le_refl _) _, by simp; exact hgr, HW.out.set _ _, fun j hj => ?_⟩
        by_cases hjk : j = k
        · subst hjk
          rw [Nat.zero_add]
          exact (World.cell?_setCell_same _ _ _ hu).trans (by rw [HX.out])
        · have := (HR.out.set (Nat.le_refl _) (.int .i64 x)) j (by omega)
          rw [Nat.zero_add] at this
          exact this
      case measure => simp [intOf] <;> omega
    · obtain rfl : k = n := by omega
      go_wp2
      go_ret
      exact ⟨_, _, rfl, New.of_row HB.out (Nat.le_refl _) hgr HW.out HR.out⟩
end Go.Proofs.Ytmlimefpmldlbaa
