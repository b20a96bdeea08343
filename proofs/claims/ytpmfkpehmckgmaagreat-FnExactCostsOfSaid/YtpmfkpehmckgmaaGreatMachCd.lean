/- Walks: returns by the reference; both CostsOf. No condition but the bounds. -/
import Derived.Test.YtpmfkpehmckgmaaGreatMachCo
import Derived.Test.YtpmfkpehmckgmaaGreatMachPr
namespace Go.Proofs.YtpmfkpehmckgmaaGreat
open Go.RowKit
set_option maxRecDepth 20000

section
variable (W : Nat) (A : Option Addr) (n q : Nat) (z : Nat → Int) (w : World)
theorem l09Ops_any (ha : Rd w A (n * 8) (fun j => .int .i64 (z j))) (hW2 : W ≤ 24) (hn : n ≤ 1500) (hops : ∀ i, i < n → opW W z i = true) : Calls Tryz.prog 31 #[.slice A n q] w fun e w' => e = .returned (.bool true) ∧ Below w.heap.size w w' := by
  have hv := l07Ops_any 24 A n q z w ha (by omega)
  rw [opsB_24 hW2 hn hops] at hv
  have HV := Lib.hid hv
  clear hv ha hops
  go_enter Tryz.func31, Tryz.ntmps31
  go_wp2_with fail
  refine HV.out.mono ?_
  rintro e w1 ⟨rfl, hb1⟩
  go_wp2_with fail
  go_ret
  exact ⟨rfl, hb1⟩
set_option maxHeartbeats 2000000 in
theorem specReturnsOf_any (ha : Rd w A (n * 8) (fun j => .int .i64 (z j))) (hW1 : 1 ≤ W) (hW2 : W ≤ 24) (hn : n ≤ 1500) (hops : ∀ i, i < n → opW W z i = true) : Calls Tryz.prog 15 #[.slice A n q] w fun e w' => e = .returned (.tuple #[.int .i64 (rtN z n), .int .i64 0]) ∧ Below w.heap.size w w' := by
  unfold rtN
  have hv := l09Ops_any W A n q z w ha hW2 hn hops
  have HA := Lib.hid ha
  have HV := Lib.hid hv
  have HOPS := Lib.hid hops
  obtain ⟨L, hL⟩ : ∃ x, x = (psAt z n).L := ⟨_, rfl⟩
  have HL := Lib.hid hL
  rw [← hL]
  clear hv ha hops hL
  go_enter Tryz.func15, Tryz.ntmps15
  go_wp2_with fail
  refine HV.out.mono ?_
  rintro e w1 ⟨rfl, hb1⟩
  have HB1 := Lib.hid hb1
  clear hb1
  go_wp2_with fail
  refine (l09Passes_any W A n q z w1 (HA.out.below HB1.out) hW1 hW2 hn HOPS.out).mono ?_
  rw [← HL.out]
  rintro e w2 ⟨v, m, rfl, hl, hm, hown, hb2⟩
  obtain ⟨A2, c2, rfl⟩ := own_form hown
  have HLL := Lib.hid hl
  have HOWN := Lib.hid hown
  have HB2 := Lib.hid (HB1.out.trans (hb2.mono HB1.out.size))
  have HE := Lib.hid (show L.length / 6 = m by omega)
  clear hl hown hb2
  go_wp2_with fail
  go_loopw [5, 6, 7] (fun nv lv iv wr => ∃ p : Nat, p ≤ m ∧ iv = .int .i64 p ∧ nv = .int .i64 (retS L p).1 ∧ lv = .int .i64 (retS L p).2 ∧ Below w2.heap.size w2 wr) (fun _ _ iv _ => m - (intOf iv).toNat)
  case atStart => exact ⟨0, Nat.zero_le _, rfl, rfl, rfl, Below.refl _ _⟩
  case round =>
    obtain ⟨p, hp, rfl, rfl, rfl, hb⟩ := hrel
    have HB := Lib.hid hb
    by_cases hlt : p < m
    · obtain ⟨g, cc, hg, hg0, hg1⟩ : ∃ g cc, Value.slice A2 m c2 = .slice (some ⟨g, 0, none⟩) m cc ∧ w1.heap.size ≤ g ∧ g < w2.heap.size := by
        obtain ⟨m', rfl⟩ : ∃ m', m = m' + 1 := ⟨m - 1, by omega⟩
        exact own_some HOWN.out
      injection hg with e1 e2 e3
      subst e1 e3
      have ho := own_below HOWN.out hb
      have f : ∀ t, t < 6 → wr.cell? ⟨g, p * 6 + t, none⟩ = some (.int .i64 (L.getD (p * 6 + t) 0)) := fun t ht => by
        have := HLL.out
        rw [ho.cellAt _ (by omega), ints_at L (by omega)]
      have f0 : wr.cell? ⟨g, p * 6, none⟩ = some (.int .i64 (L.getD (p * 6) 0)) := f 0 (by omega)
      have f1 := f 1 (by omega)
      have f2 := f 2 (by omega)
      have f3 := f 3 (by omega)
      have f4 := f 4 (by omega)
      have f5 := f 5 (by omega)
      have hbd := retS_bd L p
      have HN := Lib.hid (show retS L (p + 1) = if L.getD (p * 6) 0 = 1 then (if L.getD (p * 6 + 1) 0 = (retS L p).2 then (retS L p).1 + 1 else (retS L p).1, L.getD (p * 6 + 1) 0) else retS L p from rfl)
      obtain ⟨k, hk⟩ : ∃ x, x = L.getD (p * 6) 0 := ⟨_, rfl⟩
      obtain ⟨d, hd⟩ : ∃ x, x = L.getD (p * 6 + 1) 0 := ⟨_, rfl⟩
      obtain ⟨x2, hx2⟩ : ∃ x, x = L.getD (p * 6 + 2) 0 := ⟨_, rfl⟩
      obtain ⟨x3, hx3⟩ : ∃ x, x = L.getD (p * 6 + 3) 0 := ⟨_, rfl⟩
      obtain ⟨x4, hx4⟩ : ∃ x, x = L.getD (p * 6 + 4) 0 := ⟨_, rfl⟩
      obtain ⟨x5, hx5⟩ : ∃ x, x = L.getD (p * 6 + 5) 0 := ⟨_, rfl⟩
      rw [← hk] at f0 HN
      rw [← hd] at f1 HN
      rw [← hx2] at f2
      rw [← hx3] at f3
      rw [← hx4] at f4
      rw [← hx5] at f5
      obtain ⟨r1, hr1⟩ : ∃ x, x = (retS L p).1 := ⟨_, rfl⟩
      obtain ⟨r2, hr2⟩ : ∃ x, x = (retS L p).2 := ⟨_, rfl⟩
      rw [← hr1, ← hr2] at HN
      rw [← hr1] at hbd ⊢
      rw [← hr2]
      have HR1 := Lib.hid hr1
      have HR2 := Lib.hid hr2
      clear hk hd hx2 hx3 hx4 hx5 hr1 hr2 ho f hg0 hb
      by_cases hk1 : k = 1
      · have HN1 := Lib.hid (HN.out.trans (if_pos hk1))
        subst hk1
        by_cases hd1 : d = r2
        · have HN2 := Lib.hid (HN1.out.trans (by rw [if_pos hd1]))
          subst hd1
          go_wp2_with fail
          go_roundw
          case rel => exact ⟨p + 1, hlt, by go_num, by rw [HN2.out], by rw [HN2.out], HB.out⟩
          case measure => simp [intOf] <;> omega
        · have HN2 := Lib.hid (HN1.out.trans (by rw [if_neg hd1]))
          have hd1' : (d == r2) = false := by simpa using hd1
          go_wp2_with fail
          go_roundw
          case rel => exact ⟨p + 1, hlt, by go_num, by rw [HN2.out], by rw [HN2.out], HB.out⟩
          case measure => simp [intOf] <;> omega
      · have HN1 := Lib.hid (HN.out.trans (if_neg hk1))
        have hk1' : (k == 1) = false := by simpa using hk1
        go_wp2_with fail
        go_roundw
        case rel => exact ⟨p + 1, hlt, by go_num, by rw [HN1.out, HR1.out], by rw [HN1.out, HR2.out], HB.out⟩
        case measure => simp [intOf] <;> omega
    · obtain rfl : p = m := by omega
      have HB3 := Lib.hid (HB2.out.trans (hb.mono HB2.out.size))
      go_wp2_with fail
      refine bodyPost_ret (v := .tuple #[.int .i64 (retS L p).1, .int .i64 0]) (by simp [results, Tryz.results15, go_sem]) rfl ?_
      exact ⟨by rw [HE.out], HB3.out⟩
end
/-- What CostsOf answers: the numbers, how many carriers there are. -/
def csN (W : Int) (z : Nat → Int) (n : Nat) (k : Nat) : Int :=
  if codeOf W z n = 0 then (match k with | 0 => (n : Int) | 1 => (psN z n : Nat) | 2 => rtN z n | 3 => rks W.toNat z n | _ => tmN W.toNat z n) else 0
def csL (W : Int) (z : Nat → Int) (n : Nat) : Nat := if codeOf W z n = 0 then 4 else 0
def CsQ (w : World) (X0 X1 X2 X3 X4 : Int) (N : Nat) (C : Int) (F : Nat → Int) (e : Ending) (w' : World) : Prop :=
  ∃ (A : Option Addr) (c : Nat), e = .returned (.tuple #[.agg #[.int .i64 X0, .int .i64 X1, .int .i64 X2, .int .i64 X3, .int .i64 X4, .slice A N c], .int .i64 C]) ∧ New w w' A N (fun j => .int .i64 (F j))
def CsP (w : World) (W : Int) (z : Nat → Int) (n : Nat) : Ending → World → Prop := CsQ w (csN W z n 0) (csN W z n 1) (csN W z n 2) (csN W z n 3) (csN W z n 4) (csL W z n) (codeOf W z n) (yAt W.toNat z n)
theorem csL_le (W : Int) (z : Nat → Int) (n : Nat) : csL W z n ≤ 4 := by
  unfold csL
  split <;> omega
theorem CsP.no {w w' : World} {W : Int} {z : Nat → Int} {n : Nat} {e : Ending} {c : Int} (hc : codeOf W z n = c) (h0 : c ≠ 0) (he : e = .returned (.tuple #[.agg #[.int .i64 0, .int .i64 0, .int .i64 0, .int .i64 0, .int .i64 0, .slice none 0 0], .int .i64 c])) (hb : Below w.heap.size w w') : CsP w W z n e w' := by
  unfold CsP CsQ csN csL
  rw [hc]
  simp only [if_neg h0]
  exact ⟨none, 0, he, New.none_ hb _⟩
theorem CsP.ok {w w' : World} {W : Nat} {z : Nat → Int} {n : Nat} {e : Ending} {g : Nat} (hc : codeOf (W : Int) z n = 0) (he : e = .returned (.tuple #[.agg (cCells n (psN z n : Nat) (rtN z n) (rks W z n) (tmN W z n) g), .int .i64 0])) (hg : w.heap.size ≤ g) (hk : Blk w' g 2 (yCells W z n)) (hb : Below w.heap.size w w') : CsP w W z n e w' := by
  unfold CsP CsQ csN csL
  rw [hc, Int.toNat_natCast]
  simp only [if_pos]
  have hr : ∀ j, j < 4 → w'.cell? ⟨g, 0 + j, none⟩ = some (.int .i64 (yAt W z n j)) := fun j hj => by
    rw [Nat.zero_add]
    exact (hk.cell j).trans (yCells_at W z n hj)
  exact ⟨some ⟨g, 0, none⟩, 4, he, New.of_row hb hg hk.lt (fun j hj => ⟨⟨_, hr j hj⟩, hk.frozen _⟩) hr⟩
/-- The bounds of the numbers. -/
theorem cs_bd {W : Nat} {z : Nat → Int} {n : Nat} (h1 : 1 ≤ W) (h2 : W ≤ 24) (hn : n ≤ 1500) (hops : ∀ i, i < n → opW W z i = true) (hok : okTo W z n) : psN z n ≤ 1500 ∧ 0 ≤ rtN z n ∧ rtN z n ≤ 1500 ∧ 0 ≤ rks W z n ∧ rks W z n ≤ 9000 ∧ endsN z n ≤ 1500 := by
  have h3 := retS_bd (psAt z n).L ((psAt z n).L.length / 6)
  obtain ⟨m, hm⟩ := psAt_ok h1 n hops
  have h4 := hm.len
  have h5 := hm.le
  have h6 := rks_bd h1 h2 n hops hok
  have h7 := endsN_le z n
  unfold psN rtN
  refine ⟨by omega, h3.1, by have := h3.2; omega, h6.1, by have := h6.2; omega, by omega⟩
section
variable (W : Int) (A : Option Addr) (n q : Nat) (z : Nat → Int) (w : World)
set_option maxHeartbeats 4000000 in
theorem implCostsOf_any (ha : Rd w A (n * 8) (fun j => .int .i64 (z j))) (hn : n ≤ 1048576) : Calls Tryz.prog 7 #[.int .i64 W, .slice A n q] w (CsP w W z n) := by
  have hb0 : Below w.heap.size w (w.alloc (.cells #[.int .i64 0, .int .i64 0, .int .i64 0, .int .i64 0, .int .i64 0, .slice none 0 0] 26)) := (Below.refl _ _).alloc (Nat.le_refl _) _
  have hr := runCode_any W A n q z _ (ha.below hb0) hn
  have HB0 := Lib.hid hb0
  have HA := Lib.hid ha
  clear ha hb0
  by_cases hc : codeOf W z n = 0
  · obtain ⟨W, rfl, hW1, hW2, hn15, hops, hok⟩ := codeOf_ok hc
    rw [hc] at hr
    have HC := Lib.hid hc
    have HR := Lib.hid hr
    have HOPS := Lib.hid hops
    have HOK := Lib.hid hok
    clear hc hr hops hok
    go_enter Tryz.func7, Tryz.ntmps7
    go_wp2_with fail
    refine HR.out.mono ?_
    rintro e w1 ⟨rfl, hb1⟩
    have HRES := Lib.hid (Blk.below (Blk.at_ w 26 #[.int .i64 0, .int .i64 0, .int .i64 0, .int .i64 0, .int .i64 0, .slice none 0 0] rfl) hb1 (by simp))
    have HB1 := Lib.hid (HB0.out.trans (hb1.mono HB0.out.size))
    clear hb1
    go_wp2_with fail
    refine (costsOf_any W A n q z w1 (HA.out.below HB1.out) hW1 hW2 hn15 HOPS.out HOK.out).mono ?_
    rintro e w2 ⟨gy, rfl, hgy, hby, hb2⟩
    have hbr := HRES.out.below hb2 HRES.out.lt
    have f0 := hbr.frozen 0
    have f1 := hbr.frozen 1
    have f2 := hbr.frozen 2
    have f3 := hbr.frozen 3
    have f4 := hbr.frozen 4
    have f5 := hbr.frozen 5
    have q0 := hbr.cell 0
    have q1 := hbr.cell 1
    have q2 := hbr.cell 2
    have q3 := hbr.cell 3
    have q4 := hbr.cell 4
    have q5 := hbr.cell 5
    have HB2 := Lib.hid (HB1.out.trans (hb2.mono HB1.out.size))
    have HGY := Lib.hid (show w.heap.size < gy by have := HRES.out.lt; omega)
    have HBY := Lib.hid hby
    clear hb2 hgy hby hbr
    obtain ⟨R, hR⟩ : ∃ x, x = rtN z n := ⟨_, rfl⟩
    obtain ⟨K, hK⟩ : ∃ x, x = rks W z n := ⟨_, rfl⟩
    obtain ⟨T, hT⟩ : ∃ x, x = tmN W z n := ⟨_, rfl⟩
    obtain ⟨P, hP⟩ : ∃ x, x = psN z n := ⟨_, rfl⟩
    rw [← hR, ← hK, ← hT, ← hP]
    have HCS : Hid (∀ w' : World, Blk w' gy 2 (yCells W z n) → Below w.heap.size w w' → CsP w (W : Int) z n (.returned (.tuple #[.agg #[.int .i64 n, .int .i64 (P : Nat), .int .i64 R, .int .i64 K, .int .i64 T, .slice (some ⟨gy, 0, none⟩) 4 4], .int .i64 0])) w') := Lib.hid fun w' hk hb => by
      subst hR hK hT hP
      exact CsP.ok HC.out rfl (Nat.le_of_lt HGY.out) hk hb
    clear hR hK hT hP
    unfold cCells
    go_wp2_with fail
    refine bodyPost_ret (v := .tuple #[.agg #[.int .i64 n, .int .i64 (P : Nat), .int .i64 R, .int .i64 K, .int .i64 T, .slice (some ⟨gy, 0, none⟩) 4 4], .int .i64 0]) (by simp [results, Tryz.results7, go_sem, q0, q1, q2, q3, q4, q5]) rfl ?_
    have hne : gy ≠ w.heap.size := by have := HGY.out; omega
    exact HCS.out _ ((((((HBY.out.far (p := ⟨w.heap.size, 0, none⟩) hne _).far (p := ⟨w.heap.size, 1, none⟩) hne _).far (p := ⟨w.heap.size, 2, none⟩) hne _).far (p := ⟨w.heap.size, 3, none⟩) hne _).far (p := ⟨w.heap.size, 4, none⟩) hne _).far (p := ⟨w.heap.size, 5, none⟩) hne _) ((((((HB2.out.setCell (Nat.le_refl _) _).setCell (Nat.le_refl _) _).setCell (Nat.le_refl _) _).setCell (Nat.le_refl _) _).setCell (Nat.le_refl _) _).setCell (Nat.le_refl _) _)
  · obtain ⟨cd, hcd⟩ : ∃ x, x = codeOf W z n := ⟨_, rfl⟩
    have HC := Lib.hid hcd
    rw [← hcd] at hr hc
    have hc1 : (cd == 0) = false := by simpa using hc
    have HC0 := Lib.hid hc
    have HR := Lib.hid hr
    clear hc hr hcd
    go_enter Tryz.func7, Tryz.ntmps7
    go_wp2_with fail
    refine HR.out.mono ?_
    rintro e w1 ⟨rfl, hb1⟩
    have hbr := Blk.below (Blk.at_ w 26 #[.int .i64 0, .int .i64 0, .int .i64 0, .int .i64 0, .int .i64 0, .slice none 0 0] rfl) hb1 (by simp)
    have HB1 := Lib.hid (HB0.out.trans (hb1.mono HB0.out.size))
    have f0 := hbr.frozen 0
    have f1 := hbr.frozen 1
    have f2 := hbr.frozen 2
    have f3 := hbr.frozen 3
    have f4 := hbr.frozen 4
    have f5 := hbr.frozen 5
    have q0 := hbr.cell 0
    have q1 := hbr.cell 1
    have q2 := hbr.cell 2
    have q3 := hbr.cell 3
    have q4 := hbr.cell 4
    have q5 := hbr.cell 5
    clear hb1 hbr
    go_wp2_with fail
    refine bodyPost_ret (v := .tuple #[.agg #[.int .i64 0, .int .i64 0, .int .i64 0, .int .i64 0, .int .i64 0, .slice none 0 0], .int .i64 cd]) (by simp [results, Tryz.results7, go_sem, q0, q1, q2, q3, q4, q5]) rfl ?_
    exact CsP.no HC.out.symm HC0.out rfl ((((((HB1.out.setCell (Nat.le_refl _) _).setCell (Nat.le_refl _) _).setCell (Nat.le_refl _) _).setCell (Nat.le_refl _) _).setCell (Nat.le_refl _) _).setCell (Nat.le_refl _) _)
set_option maxHeartbeats 4000000 in
theorem specCostsOf_any (ha : Rd w A (n * 8) (fun j => .int .i64 (z j))) (hn : n ≤ 1048576) : Calls Tryz.prog 5 #[.int .i64 W, .slice A n q] w (CsP w W z n) := by
  have hb0 : Below w.heap.size w (w.alloc (.cells #[.int .i64 0, .int .i64 0, .int .i64 0, .int .i64 0, .int .i64 0, .slice none 0 0] 26)) := (Below.refl _ _).alloc (Nat.le_refl _) _
  have hr := l27Run_any W A n q z _ (ha.below hb0) hn
  have HB0 := Lib.hid hb0
  have HA := Lib.hid ha
  clear ha hb0
  by_cases hc : codeOf W z n = 0
  · have HR := Lib.hid (hr.mono fun e w' h => h.2 hc)
    obtain ⟨W, rfl, hW1, hW2, hn15, hops, hok⟩ := codeOf_ok hc
    have hbd := cs_bd hW1 hW2 hn15 hops hok
    have HBD := Lib.hid hbd
    have HC := Lib.hid hc
    have HOPS := Lib.hid hops
    clear hc hr hops hok hbd
    rw [Int.toNat_natCast] at HR
    go_enter Tryz.func5, Tryz.ntmps5
    go_wp2_with fail
    refine HR.out.mono ?_
    rintro e w1 ⟨gy, rfl, hgy, hby, hb1⟩
    have HRES := Lib.hid (Blk.below (Blk.at_ w 26 #[.int .i64 0, .int .i64 0, .int .i64 0, .int .i64 0, .int .i64 0, .slice none 0 0] rfl) hb1 (by simp))
    have HB1 := Lib.hid (HB0.out.trans (hb1.mono HB0.out.size))
    have HGY := Lib.hid (show w.heap.size < gy by simp at hgy; omega)
    have HBY := Lib.hid hby
    clear hb1 hgy hby
    obtain ⟨K, hK⟩ : ∃ x, x = rks W z n := ⟨_, rfl⟩
    rw [← hK]
    have HK := Lib.hid hK
    clear hK
    go_wp2_with fail
    refine (l09Passes_any W A n q z w1 (HA.out.below HB1.out) hW1 hW2 hn15 HOPS.out).mono ?_
    rintro e w2 ⟨v, m, rfl, hl, hm, hown, hb2⟩
    obtain ⟨A2, c2, rfl⟩ := own_form hown
    have HM := Lib.hid (show m = psN z n by unfold psN; omega)
    have HB2 := Lib.hid (HB1.out.trans (hb2.mono HB1.out.size))
    have HBW2 := Lib.hid hb2
    clear hl hown hb2
    go_upto_region 5 with (fail)
    obtain ⟨w3, hw3⟩ : ∃ x, x = w2.alloc (.cells #[.int .i64 n, .int .i64 m, .int .i64 0, .int .i64 K, .int .i64 0, .slice (some ⟨gy, 0, none⟩) 4 4] 26) := ⟨_, rfl⟩
    rw [← hw3]
    have hb3 : Below w2.heap.size w2 w3 := hw3 ▸ (Below.refl _ _).alloc (Nat.le_refl _) _
    have hbo : Blk w3 w2.heap.size 26 #[.int .i64 n, .int .i64 m, .int .i64 0, .int .i64 K, .int .i64 0, .slice (some ⟨gy, 0, none⟩) 4 4] := hw3 ▸ Blk.at_ _ _ _ rfl
    have HBO := Lib.hid hbo
    have HB3 := Lib.hid (HB2.out.trans (hb3.mono HB2.out.size))
    have HBW3 := Lib.hid hb3
    clear hw3 hb3 hbo
    go_wp2_with fail
    refine (specReturnsOf_any W A n q z w3 (HA.out.below HB3.out) hW1 hW2 hn15 HOPS.out).mono ?_
    rintro e w4 ⟨rfl, hb4⟩
    obtain ⟨R, hR⟩ : ∃ x, x = rtN z n := ⟨_, rfl⟩
    rw [← hR]
    have HR2 := Lib.hid hR
    have hbo := HBO.out.below hb4 HBO.out.lt
    have f2 := hbo.frozen 2
    have o2 : w4.cell? ⟨w2.heap.size, 2, none⟩ = some (.int .i64 0) := hbo.cell 2
    obtain ⟨w5, hw5⟩ : ∃ x, x = w4.setCell ⟨w2.heap.size, 2, none⟩ (.int .i64 R) := ⟨_, rfl⟩
    have HBO5 : Hid (Blk w5 w2.heap.size 26 #[.int .i64 n, .int .i64 m, .int .i64 R, .int .i64 K, .int .i64 0, .slice (some ⟨gy, 0, none⟩) 4 4]) := Lib.hid (hw5 ▸ hbo.set_ 2 (.int .i64 R))
    have HB4 := Lib.hid (HBW3.out.trans (hb4.mono HBW3.out.size))
    have HB5 : Hid (Below w2.heap.size w2 w5) := Lib.hid (hw5 ▸ HB4.out.setCell (Nat.le_refl _) _)
    clear hR hb4 hbo
    go_upto_region 7 with (fail)
    rw [← hw5]
    clear hw5 f2 o2
    have HB5W := Lib.hid (HB2.out.trans (HB5.out.mono HB2.out.size))
    go_wp2_with fail
    go_loopw [14, 15] (fun ev iv wr => ∃ i : Nat, i ≤ n ∧ iv = .int .i64 i ∧ ev = .int .i64 (endsN z i : Nat) ∧ Below w5.heap.size w5 wr) (fun _ iv _ => n - (intOf iv).toNat)
    case atStart => exact ⟨0, Nat.zero_le _, rfl, rfl, Below.refl _ _⟩
    case round =>
      obtain ⟨i, hi, rfl, rfl, hb⟩ := hrel
      have HB := Lib.hid hb
      have hen := endsN_le z i
      by_cases hlt : i < n
      · obtain ⟨ga, o, rfl, hga, hra⟩ := (HA.out.below HB5W.out).below HB.out (by omega)
        have e0 : wr.cell? ⟨ga, o + i * 8, none⟩ = some (.int .i64 (z (i * 8))) := hra (i * 8) (by omega)
        have HN := Lib.hid (show endsN z (i + 1) = if z (i * 8) = 8 ∨ z (i * 8) = 9 then endsN z i + 1 else endsN z i from rfl)
        obtain ⟨k, hk⟩ : ∃ x, x = z (i * 8) := ⟨_, rfl⟩
        rw [← hk] at e0 HN
        obtain ⟨en, hene⟩ : ∃ x, x = endsN z i := ⟨_, rfl⟩
        rw [← hene] at HN hen ⊢
        have HEN := Lib.hid hene
        clear hra hga hk hb hene
        by_cases h8 : k = 8
        · have HN1 := Lib.hid (HN.out.trans (if_pos (.inl h8)))
          subst h8
          go_wp2_with fail
          go_roundw
          case rel => exact ⟨i + 1, hlt, by go_num, by rw [HN1.out]; simp, HB.out⟩
          case measure => simp [intOf] <;> omega
        · have h8' : (k == 8) = false := by simpa using h8
          by_cases h9 : k = 9
          · have HN1 := Lib.hid (HN.out.trans (if_pos (.inr h9)))
            subst h9
            go_wp2_with fail
            go_roundw
            case rel => exact ⟨i + 1, hlt, by go_num, by rw [HN1.out]; simp, HB.out⟩
            case measure => simp [intOf] <;> omega
          · have h9' : (k == 9) = false := by simpa using h9
            have HN1 := Lib.hid (HN.out.trans (if_neg (by simp [h8, h9])))
            go_wp2_with fail
            go_roundw
            case rel => exact ⟨i + 1, hlt, by go_num, by rw [HN1.out, HEN.out], HB.out⟩
            case measure => simp [intOf] <;> omega
      · obtain rfl : i = n := by omega
        have HTM : Hid (tmN W z i = 20 * (m : Int) + 10 * R + 5 * K + 8 * (endsN z i : Nat)) := Lib.hid (by unfold tmN; rw [← HM.out, HR2.out, HK.out])
        obtain ⟨bd0, bd1, bd2, bd3, bd4, bd5⟩ := HBD.out
        obtain ⟨en, hene⟩ : ∃ x, x = endsN z i := ⟨_, rfl⟩
        rw [← hene] at HTM bd5 ⊢
        rw [← HM.out] at bd0
        rw [← HR2.out] at bd1 bd2
        rw [← HK.out] at bd3 bd4
        have hbo := HBO5.out.below hb HBO5.out.lt
        have hbr := (HRES.out.below HBW2.out HRES.out.lt).below (HB5.out.trans (hb.mono HB5.out.size)) (Nat.lt_of_lt_of_le HRES.out.lt HBW2.out.size)
        have hby := ((HBY.out.below HBW2.out HBY.out.lt).below (HB5.out.trans (hb.mono HB5.out.size)) (Nat.lt_of_lt_of_le HBY.out.lt HBW2.out.size))
        have HBYR := Lib.hid hby
        have d0 : wr.cell? ⟨w2.heap.size, 0, none⟩ = some (.int .i64 i) := hbo.cell 0
        have d1 : wr.cell? ⟨w2.heap.size, 1, none⟩ = some (.int .i64 (m : Nat)) := hbo.cell 1
        have d2 : wr.cell? ⟨w2.heap.size, 2, none⟩ = some (.int .i64 R) := hbo.cell 2
        have d3 : wr.cell? ⟨w2.heap.size, 3, none⟩ = some (.int .i64 K) := hbo.cell 3
        have d4 : wr.cell? ⟨w2.heap.size, 4, none⟩ = some (.int .i64 0) := hbo.cell 4
        have d5 : wr.cell? ⟨w2.heap.size, 5, none⟩ = some (.slice (some ⟨gy, 0, none⟩) 4 4) := hbo.cell 5
        have f4 := hbo.frozen 4
        have hs2 : w.heap.size < w2.heap.size := Nat.lt_of_lt_of_le HRES.out.lt HBW2.out.size
        have hgy2 : gy < w2.heap.size := Nat.lt_of_lt_of_le HBY.out.lt HBW2.out.size
        have n1 : w.heap.size ≠ w2.heap.size := by omega
        have n2 : w2.heap.size ≠ w.heap.size := by omega
        have HN3 := Lib.hid (show gy ≠ w2.heap.size by omega)
        have HN4 := Lib.hid (show gy ≠ w.heap.size by have := HGY.out; omega)
        have q0 := hbr.cell 0
        have f10 := hbr.frozen 0
        have q1 := hbr.cell 1
        have f11 := hbr.frozen 1
        have q2 := hbr.cell 2
        have f12 := hbr.frozen 2
        have q3 := hbr.cell 3
        have f13 := hbr.frozen 3
        have q4 := hbr.cell 4
        have f14 := hbr.frozen 4
        have q5 := hbr.cell 5
        have f15 := hbr.frozen 5
        have HWR := Lib.hid (HB5W.out.trans (hb.mono HB5W.out.size))
        clear hbo hbr hby hb hene hs2 hgy2
        go_wp2_with fail
        refine bodyPost_ret (v := .tuple #[.agg (cCells i (m : Nat) R K (20 * (m : Int) + 10 * R + 5 * K + 8 * (en : Nat)) gy), .int .i64 0]) (by simp [results, Tryz.results5, go_sem, q0, q1, q2, q3, q4, q5]) rfl ?_
        exact CsP.ok HC.out (by rw [← HM.out, ← HR2.out, ← HK.out, HTM.out]) (Nat.le_of_lt HGY.out)
          (((((((HBYR.out.far (p := ⟨w2.heap.size, 4, none⟩) HN3.out _).far (p := ⟨w.heap.size, 0, none⟩) HN4.out _).far (p := ⟨w.heap.size, 1, none⟩) HN4.out _).far (p := ⟨w.heap.size, 2, none⟩) HN4.out _).far (p := ⟨w.heap.size, 3, none⟩) HN4.out _).far (p := ⟨w.heap.size, 4, none⟩) HN4.out _).far (p := ⟨w.heap.size, 5, none⟩) HN4.out _)
          (((((((HWR.out.setCell HB2.out.size _).setCell (Nat.le_refl _) _).setCell (Nat.le_refl _) _).setCell (Nat.le_refl _) _).setCell (Nat.le_refl _) _).setCell (Nat.le_refl _) _).setCell (Nat.le_refl _) _)
  · have HR := Lib.hid (hr.mono fun e w' h => h.1 hc)
    obtain ⟨cd, hcd⟩ : ∃ x, x = codeOf W z n := ⟨_, rfl⟩
    have HC := Lib.hid hcd
    rw [← hcd] at HR hc
    have hc1 : (cd == 0) = false := by simpa using hc
    have HC0 := Lib.hid hc
    clear hc hr hcd
    go_enter Tryz.func5, Tryz.ntmps5
    go_wp2_with fail
    refine HR.out.mono ?_
    rintro e w1 ⟨rfl, hb1⟩
    have hbr := Blk.below (Blk.at_ w 26 #[.int .i64 0, .int .i64 0, .int .i64 0, .int .i64 0, .int .i64 0, .slice none 0 0] rfl) hb1 (by simp)
    have HB1 := Lib.hid (HB0.out.trans (hb1.mono HB0.out.size))
    have f0 := hbr.frozen 0
    have f1 := hbr.frozen 1
    have f2 := hbr.frozen 2
    have f3 := hbr.frozen 3
    have f4 := hbr.frozen 4
    have f5 := hbr.frozen 5
    have q0 := hbr.cell 0
    have q1 := hbr.cell 1
    have q2 := hbr.cell 2
    have q3 := hbr.cell 3
    have q4 := hbr.cell 4
    have q5 := hbr.cell 5
    clear hb1 hbr
    go_wp2_with fail
    refine bodyPost_ret (v := .tuple #[.agg #[.int .i64 0, .int .i64 0, .int .i64 0, .int .i64 0, .int .i64 0, .slice none 0 0], .int .i64 cd]) (by simp [results, Tryz.results5, go_sem, q0, q1, q2, q3, q4, q5]) rfl ?_
    exact CsP.no HC.out.symm HC0.out rfl ((((((HB1.out.setCell (Nat.le_refl _) _).setCell (Nat.le_refl _) _).setCell (Nat.le_refl _) _).setCell (Nat.le_refl _) _).setCell (Nat.le_refl _) _).setCell (Nat.le_refl _) _)
end
end Go.Proofs.YtpmfkpehmckgmaaGreat
