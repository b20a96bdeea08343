/- Contracts of the laws' helpers over rows of stitches: measured, copied, equal. -/
import Derived.Test.YtfncdogbpmiomaaRowsObj
import Derived.Test.YtfncdogbpmiomaaIntFlat
import Derived.Test.YtfncdogbpmiomaaIntCopy
import Derived.Deep.RegionHeld3
namespace Go.Proofs.Ytfncdogbpmiomaa
open Go.RowKit
set_option maxRecDepth 20000

/-- How many numbers the first k rows hold. -/
def sumN (ns : Nat → Nat) : Nat → Nat
  | 0 => 0
  | k + 1 => sumN ns k + ns k
theorem sumN_mono (ns : Nat → Nat) {i j : Nat} (h : i ≤ j) : sumN ns i ≤ sumN ns j := by
  induction j with
  | zero =>
    obtain rfl : i = 0 := by omega
    exact Nat.le_refl _
  | succ j ih =>
    rcases Nat.lt_or_ge j i with hlt | hge
    · obtain rfl : i = j + 1 := by omega
      exact Nat.le_refl _
    · have := ih hge
      simp only [sumN]
      omega
theorem sumN_one (ns : Nat → Nat) {j n : Nat} (h : j < n) : ns j ≤ sumN ns n := by
  have := sumN_mono ns (show j + 1 ≤ n by omega)
  simp only [sumN] at this
  omega

/-- What the count of rows says. -/
def SzRows (L n : Nat) (ns : Nat → Nat) (r : Int) : Prop := r < 0 ∨ (n + sumN ns n ≤ L ∧ r = (L : Int) - n - sumN ns n)
set_option maxHeartbeats 400000 in
theorem szRow_any (d c : Int) (A : Option Addr) (n q L : Nat) (w : World) (hn : n ≤ maxLen) (hL : L ≤ 1048576) :
    Calls Try.prog 100 #[.agg #[.int .i64 d, .int .i64 c, .slice A n q], .int .i64 L] w
      fun e w' => ∃ r : Int, (r = -1 ∨ (n ≤ L ∧ r = L - n)) ∧ e = .returned (.int .i64 r) ∧ Below w.heap.size w w' := by
  go_enter Try.func100, Try.ntmps100
  go_wp2_with fail
  refine (szInt64S_any A n q L _ hn hL).mono ?_
  rintro e w' ⟨s, hs, rfl, rfl⟩
  have HS := Lib.hid hs
  clear hs
  by_cases h0 : s < 0
  · go_wp2
    go_ret
    exact ⟨-1, .inl rfl, rfl, by (repeat' first | with_reducible exact Below.refl _ _ | with_reducible refine Below.alloc ?_ ?_ _ | with_reducible refine Below.setCell ?_ ?_ _ | with_reducible refine Below.drew ?_ | with_reducible refine Below.drewN' ?_ _ | with_reducible (refine Below.trans ?_ (Below.mono (by assumption) ?_)) | exact Nat.le_refl _ | (simp; done) | (simp; omega) | omega)⟩
  · go_wp2
    go_ret
    exact ⟨s, .inr (HS.out.resolve_left (by omega)), rfl, by (repeat' first | with_reducible exact Below.refl _ _ | with_reducible refine Below.alloc ?_ ?_ _ | with_reducible refine Below.setCell ?_ ?_ _ | with_reducible refine Below.drew ?_ | with_reducible refine Below.drewN' ?_ _ | with_reducible (refine Below.trans ?_ (Below.mono (by assumption) ?_)) | exact Nat.le_refl _ | (simp; done) | (simp; omega) | omega)⟩
set_option maxHeartbeats 1000000 in
theorem szRowS_any (A : Option Addr) (n q L : Nat) (d c : Nat → Int) (As : Nat → Option Addr) (ns cs : Nat → Nat) (z : Nat → Nat → Int) (w : World) (ha : RdRows A n d c As ns cs z w) (hn : n ≤ maxLen) (hns : ∀ j, j < n → ns j ≤ maxLen) (hL : L ≤ 1048576) :
    Calls Try.prog 45 #[.slice A n q, .int .i64 L] w fun e w' => ∃ r : Int, SzRows L n ns r ∧ e = .returned (.int .i64 r) ∧ Below w.heap.size w w' := by
  unfold maxLen at hn
  have HA := Lib.hid ha
  have LA := Lib.hid (rdRows_obj A n d c As ns cs z)
  have HNS := Lib.hid hns
  clear ha hns
  by_cases hbig : n ≤ L
  · go_enter Try.func45, Try.ntmps45
    go_wp2_with fail
    go_loopw [1, 5] (fun l i wr => ∃ k R : Nat, k ≤ n ∧ i = .int .i64 k ∧ l = .int .i64 R ∧ Hid (n + sumN ns k + R = L) ∧ R ≤ L ∧ Below w.heap.size w wr) (fun _ i _ => n - (intOf i).toNat)
    case atStart => exact ⟨0, L - n, Nat.zero_le _, rfl, by go_num, by simp [Hid, sumN]; omega, by omega, Below.refl _ _⟩
    case round =>
      obtain ⟨k, R, hk, rfl, rfl, HR, hR, hb⟩ := hrel
      have HB := Lib.hid hb
      by_cases hlt : k < n
      · obtain ⟨g, o, rfl, hg, h0, h1, h2⟩ := (LA.out.below HA.out hb).row hlt
        have hx := HNS.out k hlt
        obtain ⟨x0, hx0⟩ : ∃ x0, x0 = d k := ⟨_, rfl⟩
        obtain ⟨x1, hx1⟩ : ∃ x1, x1 = c k := ⟨_, rfl⟩
        simp only [← hx0, ← hx1] at h0 h1
        obtain ⟨m, hm⟩ : ∃ m, m = ns k := ⟨_, rfl⟩
        simp only [← hm] at h2 hx
        have HM := Lib.hid hm
        clear hx0 hx1 hb hm
        go_wp2_with fail
        refine (szRow_any x0 x1 (As k) m (cs k) R _ hx (by omega)).mono ?_
        rintro e w1 ⟨s, hs, rfl, hb1⟩
        have HB1 := Lib.hid (HB.out.trans (hb1.mono HB.out.size))
        clear hb1 h0 h1 h2
        rcases hs with rfl | ⟨hs1, rfl⟩
        · go_wp2
          go_ret
          exact ⟨-1, .inl (by omega), rfl, HB1.out⟩
        · go_wp2
          go_roundw
          case rel => exact ⟨k + 1, R - m, by omega, by go_num, by go_num, by show _ = _; have := HR.out; have := HM.out; simp only [sumN]; omega, by omega, HB1.out⟩
          case measure => simp [intOf] <;> omega
      · obtain rfl : n = k := by omega
        clear hb
        go_wp2
        go_ret
        exact ⟨R, .inr (by have := HR.out; omega), rfl, HB.out⟩
  · go_enter Try.func45, Try.ntmps45
    go_wp2
    go_ret
    exact ⟨-1, .inl (by omega), rfl, Below.refl _ _⟩

/-- A copy of a row. -/
def RowCP (w : World) (d c : Int) (n : Nat) (z : Nat → Int) (e : Ending) (w' : World) : Prop :=
  ∃ A q, e = .returned (.agg #[.int .i64 d, .int .i64 c, .slice A n q]) ∧ New w w' A n (fun j => .int .i64 (z j))
set_option maxHeartbeats 1000000 in
theorem toRow_any (d c : Int) (A : Option Addr) (n q : Nat) (z : Nat → Int) (w : World) (ha : Rd w A n (fun j => .int .i64 (z j))) (hn : n ≤ 1048576) :
    Calls Try.prog 106 #[.agg #[.int .i64 d, .int .i64 c, .slice A n q]] w (RowCP w d c n z) := by
  have HA := Lib.hid ha
  clear ha
  go_enter Try.func106, Try.ntmps106
  go_wp2_with fail
  refine (toInt64S_any A n q z _ (HA.out.below (by (repeat' first | with_reducible exact Below.refl _ _ | with_reducible refine Below.alloc ?_ ?_ _ | with_reducible refine Below.setCell ?_ ?_ _ | with_reducible refine Below.drew ?_ | with_reducible refine Below.drewN' ?_ _ | with_reducible (refine Below.trans ?_ (Below.mono (by assumption) ?_)) | exact Nat.le_refl _ | (simp; done) | (simp; omega) | omega))) hn).mono ?_
  rintro e w1 ⟨A1, c1, rfl, hnew⟩
  obtain ⟨hc1, hf1⟩ := bcell hnew.bl
  have hz1 : w.heap.size + 1 + 1 < w1.heap.size := blt hnew.bl (by simp)
  have HN := Lib.hid hnew
  clear hnew
  go_wp2
  refine bodyPost_ret (v := .agg #[.int .i64 d, .int .i64 c, .slice A1 n c1]) (by simp [results, Try.results106, go_sem, hc1]) rfl ⟨A1, c1, rfl, ?_⟩
  refine HN.out.after (F := fun b => b = w.heap.size + 1 ∨ b = w.heap.size + 1 + 1) (by (repeat' first | with_reducible exact Below.refl _ _ | with_reducible refine Below.alloc ?_ ?_ _ | with_reducible refine Below.setCell ?_ ?_ _ | with_reducible refine Below.drew ?_ | with_reducible refine Below.drewN' ?_ _ | with_reducible (refine Below.trans ?_ (Below.mono (by assumption) ?_)) | exact Nat.le_refl _ | (simp; done) | (simp; omega) | omega)) (by (repeat' first | with_reducible exact Fr.refl _ _ | with_reducible refine Fr.set ?_ ?_ _ | (simp; done) | omega)) ?_
  intro b hb
  simp
  omega
theorem infoRow : (Try.prog.info? 68).map (fun i => (i.zero, i.size, i.bytes)) = some (some (.agg #[.int .i64 0, .int .i64 0, .slice none 0 0]), 3, 40) := by kernel_rfl
def RowsP (w : World) (n : Nat) (d c : Nat → Int) (ns : Nat → Nat) (z : Nat → Nat → Int) (e : Ending) (w' : World) : Prop :=
  ∃ A q As cs, e = .returned (.slice A n q) ∧ NewO w w' (RdRows A n d c As ns cs z) (WrRows A n As ns cs) (FRows A n As ns)
set_option maxHeartbeats 2000000 in
theorem toRowS_any (A : Option Addr) (n q : Nat) (d c : Nat → Int) (As : Nat → Option Addr) (ns cs : Nat → Nat) (z : Nat → Nat → Int) (w : World) (ha : RdRows A n d c As ns cs z w) (hn : n ≤ 1048576) (hns : ∀ j, j < n → ns j ≤ 1048576) :
    Calls Try.prog 49 #[.slice A n q] w (RowsP w n d c ns z) := by
  have HA := Lib.hid ha
  have LA := Lib.hid (rdRows_obj A n d c As ns cs z)
  have HNS := Lib.hid hns
  clear ha hns
  obtain ⟨i0, hi, hz0, hz1, hz2⟩ := info_parts infoRow
  go_enter Try.func49, Try.ntmps49
  go_wp2_with (at_make; refine wpList_make_full _ rfl _ _ 29 rfl w.heap.size 68 i0 (.agg #[.int .i64 0, .int .i64 0, .slice none 0 0]) 3 Try.underlying29 hi hz0 hz1 .i64 .i64 n n n rfl rfl rfl rfl (by rw [hz2]; omega) (by unfold maxLen; omega) (Nat.le_refl _) ?_; intro w1 hown hg1)
  have hb1 := (Below.refl w.heap.size w).grown hg1 (Nat.le_refl _) (fun k e => by cases e)
  have hw1 := RowW.of_own hown
  have hg1 : w.heap.size < w1.heap.size := (hown.lt _ rfl).2
  have HB := Lib.hid hb1
  have HW := Lib.hid hw1
  clear hb1 hw1 hown
  go_loopw [4] (fun i wr => ∃ (k : Nat) (As' : Nat → Option Addr) (cs' : Nat → Nat), k ≤ n ∧ i = .int .i64 k ∧ Below w.heap.size w wr ∧ AccRows w.heap.size n k d c As' ns cs' z wr) (fun i _ => n - (intOf i).toNat)
  case atStart => exact ⟨0, As, cs, Nat.zero_le _, rfl, HB.out, ⟨hg1, HW.out, fun j hj => absurd hj (by omega), fun j hj => absurd hj (by omega), fun j hj => absurd hj (by omega), fun j b hj => absurd hj (by omega), fun i j b _ hj => absurd hj (by omega)⟩⟩
  case round =>
    obtain ⟨k, As', cs', hk, rfl, hb, hacc⟩ := hrel
    have HB := Lib.hid hb
    have HACC := Lib.hid hacc
    have hgr := hacc.lt
    by_cases hlt : k < n
    · obtain ⟨g, o, rfl, hg, h0, h1, h2⟩ := (LA.out.below HA.out hb).row hlt
      have HRk := Lib.hid ((LA.out.below HA.out hb).2 k hlt)
      have hm := HNS.out k hlt
      clear hb hacc
      obtain ⟨x0, hx0⟩ : ∃ x0, x0 = d k := ⟨_, rfl⟩
      obtain ⟨x1, hx1⟩ : ∃ x1, x1 = c k := ⟨_, rfl⟩
      simp only [← hx0, ← hx1] at h0 h1
      have HX0 := Lib.hid hx0
      have HX1 := Lib.hid hx1
      clear hx0 hx1
      go_wp2_with fail
      refine (toRow_any x0 x1 (As k) (ns k) (cs k) (z k) _ HRk.out hm).mono ?_
      rintro e w2 ⟨A1, c1, rfl, hnew⟩
      have hrw := HACC.out.rw_.below hnew.bl
      obtain ⟨⟨u0, hu0⟩, hf0⟩ := hrw (k * 3) (by omega)
      obtain ⟨⟨u1, hu1⟩, hf1⟩ := hrw (k * 3 + 1) (by omega)
      obtain ⟨⟨u2, hu2⟩, hf2⟩ := hrw (k * 3 + 2) (by omega)
      rw [Nat.zero_add] at hu0 hf0 hu1 hf1 hu2 hf2
      have HNEXT := HACC.out.next (c1 := c1) hlt hnew
      rw [← HX0.out, ← HX1.out] at HNEXT
      have HNX := Lib.hid HNEXT
      have HB2 := Lib.hid (HB.out.trans (hnew.bl.mono HB.out.size))
      clear hrw hnew HNEXT h0 h1 h2
      go_wp2
      go_roundw
      case rel => exact ⟨k + 1, _, _, by omega, by go_num, (((HB2.out.setCell (Nat.le_refl _) _).setCell (Nat.le_refl _) _).setCell (Nat.le_refl _) _), HNX.out⟩
      case measure => simp [intOf] <;> omega
    · obtain rfl : n = k := by omega
      clear hb hacc
      go_wp2
      go_ret
      exact ⟨_, _, As', cs', rfl, HACC.out.new HB.out⟩

set_option maxHeartbeats 1000000 in
theorem eqRow_any (d c : Int) (A A' : Option Addr) (n q q' : Nat) (z : Nat → Int) (w : World) (ha : Rd w A n (fun j => .int .i64 (z j))) (hb : Rd w A' n (fun j => .int .i64 (z j))) (hn : n ≤ 1000000000) :
    Calls Try.prog 109 #[.agg #[.int .i64 d, .int .i64 c, .slice A n q], .agg #[.int .i64 d, .int .i64 c, .slice A' n q']] w fun e w' => e = .returned (.bool true) ∧ Below w.heap.size w w' := by
  have HA := Lib.hid ha
  have HB := Lib.hid hb
  clear ha hb
  go_enter Try.func109, Try.ntmps109
  go_wp2_with fail
  refine (eqInt64S_any A A' n q q' z _ (by simpa using HA.out.below (by (repeat' first | with_reducible exact Below.refl _ _ | with_reducible refine Below.alloc ?_ ?_ _ | with_reducible refine Below.setCell ?_ ?_ _ | with_reducible refine Below.drew ?_ | with_reducible refine Below.drewN' ?_ _ | with_reducible (refine Below.trans ?_ (Below.mono (by assumption) ?_)) | exact Nat.le_refl _ | (simp; done) | (simp; omega) | omega))) (by simpa using HB.out.below (by (repeat' first | with_reducible exact Below.refl _ _ | with_reducible refine Below.alloc ?_ ?_ _ | with_reducible refine Below.setCell ?_ ?_ _ | with_reducible refine Below.drew ?_ | with_reducible refine Below.drewN' ?_ _ | with_reducible (refine Below.trans ?_ (Below.mono (by assumption) ?_)) | exact Nat.le_refl _ | (simp; done) | (simp; omega) | omega))) hn).mono ?_
  rintro e w1 ⟨rfl, hb1⟩
  have HB1 := Lib.hid hb1
  clear hb1
  go_wp2_with fail
  go_ret
  exact ⟨rfl, (show Below w.heap.size w _ by (repeat' first | with_reducible exact Below.refl _ _ | with_reducible refine Below.alloc ?_ ?_ _ | with_reducible refine Below.setCell ?_ ?_ _ | with_reducible refine Below.drew ?_ | with_reducible refine Below.drewN' ?_ _ | with_reducible (refine Below.trans ?_ (Below.mono (by assumption) ?_)) | exact Nat.le_refl _ | (simp; done) | (simp; omega) | omega)).trans (HB1.out.mono (by simp; omega))⟩
set_option maxHeartbeats 2000000 in
theorem eqRowS_any (A A' : Option Addr) (n q q' : Nat) (d c : Nat → Int) (As As' : Nat → Option Addr) (ns cs cs' : Nat → Nat) (z : Nat → Nat → Int) (w : World) (ha : RdRows A n d c As ns cs z w) (hb : RdRows A' n d c As' ns cs' z w) (hn : n ≤ 1000000000) (hns : ∀ j, j < n → ns j ≤ 1000000000) :
    Calls Try.prog 53 #[.slice A n q, .slice A' n q'] w fun e w' => e = .returned (.bool true) ∧ Below w.heap.size w w' := by
  have HA := Lib.hid ha
  have HB := Lib.hid hb
  have LA := Lib.hid (rdRows_obj A n d c As ns cs z)
  have LB := Lib.hid (rdRows_obj A' n d c As' ns cs' z)
  have HNS := Lib.hid hns
  clear ha hb hns
  go_enter Try.func53, Try.ntmps53
  go_wp2
  go_loopw [5] (fun i wr => ∃ k : Nat, k ≤ n ∧ i = .int .i64 k ∧ Below w.heap.size w wr) (fun i _ => n - (intOf i).toNat)
  case atStart => exact ⟨0, Nat.zero_le _, rfl, Below.refl _ _⟩
  case round =>
    obtain ⟨k, hk, rfl, hbl⟩ := hrel
    have HL := Lib.hid hbl
    by_cases hlt : k < n
    · obtain ⟨g, o, rfl, hg, h0, h1, h2⟩ := (LA.out.below HA.out hbl).row hlt
      obtain ⟨g', o', rfl, hg', h0', h1', h2'⟩ := (LB.out.below HB.out hbl).row hlt
      have HRk := Lib.hid ((LA.out.below HA.out hbl).2 k hlt)
      have HRk' := Lib.hid ((LB.out.below HB.out hbl).2 k hlt)
      have hm := HNS.out k hlt
      clear hbl
      obtain ⟨x0, hx0⟩ : ∃ x0, x0 = d k := ⟨_, rfl⟩
      obtain ⟨x1, hx1⟩ : ∃ x1, x1 = c k := ⟨_, rfl⟩
      simp only [← hx0, ← hx1] at h0 h1 h0' h1'
      clear hx0 hx1
      have b1 : (0 : Int) ≤ (k : Int) := by omega
      have b2 : (k : Int) < (n : Int) := by omega
      go_wp2_with fail
      go_region_held3 (fun w' => w'.cell? ⟨g, o + k * 3, none⟩ = some (.int .i64 x0) ∧ w'.cell? ⟨g', o' + k * 3, none⟩ = some (.int .i64 x0) ∧ w'.cell? ⟨g, o + k * 3 + 1, none⟩ = some (.int .i64 x1) ∧ w'.cell? ⟨g', o' + k * 3 + 1, none⟩ = some (.int .i64 x1) ∧ w'.cell? ⟨g, o + k * 3 + 2, none⟩ = some (.slice (As k) (ns k) (cs k)) ∧ w'.cell? ⟨g', o' + k * 3 + 2, none⟩ = some (.slice (As' k) (ns k) (cs' k))) (go_keep)
        (first | (go_at_call 109; refine (eqRow_any x0 x1 (As k) (As' k) (ns k) (cs k) (cs' k) (z k) _ (HRk.out.drewN 1) (HRk'.out.drewN 1) hm).mono ?_; rintro e w1 ⟨rfl, hb1⟩; have kb := bcell hb1; have k0 := (kb.1 g (o + k * 3) hg).trans h0; have k0' := (kb.1 g' (o' + k * 3) hg').trans h0'; have k1 := (kb.1 g (o + k * 3 + 1) hg).trans h1; have k1' := (kb.1 g' (o' + k * 3 + 1) hg').trans h1'; have k2 := (kb.1 g (o + k * 3 + 2) hg).trans h2; have k2' := (kb.1 g' (o' + k * 3 + 2) hg').trans h2'; clear kb))
      go_wp2
      go_roundw
      case rel => exact ⟨k + 1, by omega, by go_num, (Below.drewN' HL.out 1).trans (hb1.mono HL.out.size)⟩
      case measure => simp [intOf] <;> omega
    · obtain rfl : k = n := by omega
      clear hbl
      go_wp2
      go_ret
      exact ⟨rfl, HL.out⟩
end Go.Proofs.Ytfncdogbpmiomaa
