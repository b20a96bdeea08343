/- Walks: whether a chart is valid, by the program. No condition but the bounds. -/
import Derived.Test.YtacppheedleamaaChartE
import Derived.Test.YtacppheedleamaaRowsObj
import Derived.Test.YtacppheedleamaaAppAt
namespace Go.Proofs.Ytacppheedleamaa
open Go.RowKit
set_option maxRecDepth 20000

/-- The stacks behind the first rows of a chart. -/
def stL (cols : Nat) (ns : Nat → Nat) (z : Nat → Nat → Int) : Nat → List Int
  | 0 => List.replicate cols 1
  | k + 1 => aft (fun j => (stL cols ns z k).getD j 0) (z k) (ns k)
def stF (cols : Nat) (ns : Nat → Nat) (z : Nat → Nat → Int) (k j : Nat) : Int := (stL cols ns z k).getD j 0
def stN (cols : Nat) (ns : Nat → Nat) (z : Nat → Nat → Int) : Nat → Nat
  | 0 => cols
  | k + 1 => segM (z k) (ns k)
def rowB (cols : Nat) (d c : Nat → Int) (ns : Nat → Nat) (z : Nat → Nat → Int) (k : Nat) : Bool :=
  dirB (d k) && inB (c k) 1 4 && stitchesB (z k) (ns k) && decide (saC (stF cols ns z k) (stN cols ns z k) (z k) (ns k) = 0) && keepB (stF cols ns z k) (stN cols ns z k) (z k) (ns k) (d k) (ns k)
def rowsB (cols : Nat) (d c : Nat → Int) (ns : Nat → Nat) (z : Nat → Nat → Int) : Nat → Bool
  | 0 => true
  | k + 1 => rowsB cols d c ns z k && rowB cols d c ns z k
theorem rowsB_false {cols : Nat} {d c : Nat → Int} {ns : Nat → Nat} {z : Nat → Nat → Int} {n k : Nat} (hk : k < n) (h : rowB cols d c ns z k = false) : rowsB cols d c ns z n = false := by
  induction n with
  | zero => omega
  | succ n ih =>
    simp only [rowsB]
    by_cases hkn : k = n
    · subst hkn; rw [h]; simp
    · rw [ih (by omega)]; rfl
theorem rowsB_all {cols : Nat} {d c : Nat → Int} {ns : Nat → Nat} {z : Nat → Nat → Int} {n : Nat} (h : rowsB cols d c ns z n = true) : ∀ k, k < n → rowB cols d c ns z k = true := by
  induction n with
  | zero => intro k hk; omega
  | succ n ih =>
    simp only [rowsB, Bool.and_eq_true] at h
    intro k hk
    by_cases hkn : k = n
    · subst hkn; exact h.2
    · exact ih h.1 k (by omega)
/-- A chart of cols columns and n rows is valid. -/
def chartB (cols : Int) (n : Nat) (d c : Nat → Int) (ns : Nat → Nat) (z : Nat → Nat → Int) : Bool := inB cols 1 8 && decide (1 ≤ n ∧ n ≤ 8) && rowsB cols.toNat d c ns z n
theorem saC_zero {s : Nat → Int} {n : Nat} {z : Nat → Int} {m : Nat} (h : saC s n z m = 0) : stacksB s n = true ∧ stitchesB z m = true ∧ segT z m = n ∧ segM z m ≤ 8 ∧ fitB s z m = true := by
  unfold saC at h
  by_cases h1 : (stacksB s n && stitchesB z m) = true
  · rw [if_pos h1] at h
    simp only [Bool.and_eq_true] at h1
    by_cases h2 : segT z m = n
    · rw [if_pos h2] at h
      by_cases h3 : (fitB s z m && decide (segM z m ≤ 8)) = true
      · simp only [Bool.and_eq_true, decide_eq_true_eq] at h3
        exact ⟨h1.1, h1.2, h2, h3.2, h3.1⟩
      · rw [if_neg h3] at h; cases h
    · rw [if_neg h2] at h; cases h
  · rw [if_neg h1] at h; cases h
theorem segM_pos {z : Nat → Int} {m : Nat} (hz : stitchesB z m = true) (ht : 0 < segT z m) : 0 < segM z m := by
  have hk := (stitchesB_of hz).2
  cases m with
  | zero => simp [segT] at ht
  | succ m =>
    have h0 := hk 0 (by omega)
    have h1 : 1 ≤ mkN (z 0) := by
      unfold mkN
      repeat' split
      all_goals omega
    have h2 := segM_mono z (show 1 ≤ m + 1 by omega)
    have h3 : segM z 1 = mkN (z 0) := by simp [segM]
    omega
theorem stN_ok {cols : Nat} {d c : Nat → Int} {ns : Nat → Nat} {z : Nat → Nat → Int} {k : Nat} (hc : 1 ≤ cols ∧ cols ≤ 8) (h : rowsB cols d c ns z k = true) : 1 ≤ stN cols ns z k ∧ stN cols ns z k ≤ 8 := by
  induction k with
  | zero => exact hc
  | succ k ih =>
    have h0 := h
    simp only [rowsB, Bool.and_eq_true] at h
    have h1 := ih h.1
    have h2 := h.2
    simp only [rowB, Bool.and_eq_true, decide_eq_true_eq] at h2
    obtain ⟨_, hz, ht, hm, _⟩ := saC_zero h2.1.2
    have := segM_pos hz (by omega)
    simp only [stN]
    omega
theorem stF_zero {cols j : Nat} {ns : Nat → Nat} {z : Nat → Nat → Int} (h : j < cols) : stF cols ns z 0 j = 1 := by simp [stF, stL, List.getD, h]

theorem infoSl64 : (Try.prog.info? 38).map (fun i => (i.zero, i.size, i.bytes)) = some (some (.slice none 0 0), 1, 24) := by kernel_rfl
/-- The stacks of columns in memory. -/
def StacksAt (w : World) (v : Value) (N : Nat) (f : Nat → Int) : Prop := ∃ g o c, v = .slice (some ⟨g, o, none⟩) N c ∧ (N ≤ c ∧ c ≤ maxLen) ∧ Rd w (some ⟨g, o, none⟩) N (fun j => .int .i64 (f j))
theorem StacksAt.of {w w' : World} {A : Option Addr} {N c : Nat} {f : Nat → Int} (hn : New w w' A N (fun j => .int .i64 (f j))) (hN : 0 < N) (hc : N ≤ c ∧ c ≤ maxLen) : StacksAt w' (.slice A N c) N f := by
  obtain ⟨g, o, rfl, _⟩ := new_row hn hN
  exact ⟨g, o, c, rfl, hc, hn.rd⟩
/-- An answer beside a value that nobody looks into. -/
def AnyP (b : Bool) (w : World) (e : Ending) (w' : World) : Prop := ∃ v, e = .returned (.tuple #[v, .bool b]) ∧ Below w.heap.size w w'
set_option maxHeartbeats 4000000 in
theorem allStacks_any (cols : Int) (A : Option Addr) (n q : Nat) (d c : Nat → Int) (As : Nat → Option Addr) (ns cs : Nat → Nat) (z : Nat → Nat → Int) (w : World) (ha : RdRows A n d c As ns cs z w) (hn : n ≤ 1048576) (hns : ∀ j, j < n → ns j ≤ 1048576) :
    Calls Try.prog 53 #[.agg #[.int .i64 cols, .slice A n q]] w (AnyP (chartB cols n d c ns z) w) := by
  obtain ⟨i0, hi, iz, is, ib⟩ := info_parts infoSl64
  have HNS := Lib.hid hns
  have HL := Lib.hid ((Below.refl w.heap.size w).alloc (Nat.le_refl _) (.cells #[.int .i64 cols, .slice A n q] 26))
  have HX := Lib.hid (box_new w #[.int .i64 cols, .slice A n q] 26)
  have HA := Lib.hid ((rdRows_obj A n d c As ns cs z).below ha HL.out)
  have LA := Lib.hid (rdRows_obj A n d c As ns cs z)
  clear ha hns
  cases hcb : inB cols 1 8
  · have HC := Lib.hid (show chartB cols n d c ns z = false by simp [chartB, hcb])
    go_enter Try.func53, Try.ntmps53
    go_wp2_with ((go_at_call 34; refine (within_any _ _ _ _).mono ?_; rintro e w' ⟨rfl, rfl⟩))
    go_ret2
    exact ⟨.slice none 0 0, by rw [HC.out]; rfl, HL.out⟩
  have hc18 := inB_of hcb
  by_cases hn18 : 1 ≤ n ∧ n ≤ 8
  case neg =>
    have HC := Lib.hid (show chartB cols n d c ns z = false by simp [chartB, hn18])
    have HCB := Lib.hid hcb
    clear hcb
    have hn1 : n < 1 ∨ 8 < n := by omega
    clear hn18
    rcases hn1 with hn1 | hn1
    all_goals
      go_enter Try.func53, Try.ntmps53
      go_wp2_with ((go_at_call 34; refine (within_any _ _ _ _).mono ?_; rintro e w' ⟨rfl, rfl⟩; rw [HCB.out]))
      go_ret2
      exact ⟨.slice none 0 0, by rw [HC.out]; rfl, HL.out⟩
  obtain ⟨hn1, hn8⟩ := hn18
  obtain ⟨C, rfl⟩ := Int.eq_ofNat_of_zero_le (show 0 ≤ cols by omega)
  have hC : chartB C n d c ns z = rowsB C d c ns z n := by simp [chartB, hcb, hn1, hn8]
  have HC := Lib.hid hC
  have HCB := Lib.hid hcb
  have hC1 : 1 ≤ C ∧ C ≤ 8 := by omega
  clear hC hcb
  go_enter Try.func53, Try.ntmps53
  go_wp2_with ((go_at_call 34; refine (within_any _ _ _ _).mono ?_; rintro e w' ⟨rfl, rfl⟩; rw [HCB.out]))
  refine (repeat64_any (w.heap.size + 1) 1 C _ (cell_alloc_at (by simp) 0) (by omega) (by omega)).mono ?_
  rintro e w1 ⟨A1, c1, rfl, hc1, hn1⟩
  have hb1 : Below (w.heap.size + 1) (w.alloc (.cells #[.int .i64 C, .slice A n q] 26)) w1 := Below.trans ((Below.refl _ _).alloc (by simp) _) (hn1.bl.mono (by simp))
  have HB1 := Lib.hid hb1
  have hs1 := hb1.size
  simp only [World.size_alloc] at hs1
  have HS1 := Lib.hid (StacksAt.of hn1 (by omega) hc1)
  have hbx : ∀ o, w1.cell? ⟨w.heap.size, o, none⟩ = (#[.int .i64 C, .slice A n q] : Array Value)[o]? := fun o => ((bcell hb1).1 _ o (by omega)).trans (HX.out o)
  have hlt1 : w.heap.size < w1.heap.size := by omega
  have HBL := Lib.hid hn1.bb
  clear hn1 hb1
  go_wp2_with fail
  clear hbx
  go_loopw [4, 5, 34] (fun sv v i wr => ∃ k : Nat, k ≤ n ∧ i = .int .i64 k ∧ Hid (rowsB C d c ns z k = true) ∧ StacksAt wr sv (stN C ns z k) (stF C ns z k) ∧ (∃ xs, wr.ownsRow (w.heap.size + 1) 38 1 v k xs) ∧ Hid (∀ b A' N' c', sv = .slice (some ⟨A', N', none⟩) b c' → ¬ v.ownBlock = some A') ∧ Below (w.heap.size + 1) (w.alloc (.cells #[.int .i64 C, .slice A n q] 26)) wr) (fun _ _ i _ => n - (intOf i).toNat)
  case atStart =>
    obtain ⟨g, o, c', e, hc', hr⟩ := HS1.out
    refine ⟨0, Nat.zero_le _, rfl, Lib.hid rfl, ⟨g, o, c', e, hc', (hr.below ((Below.refl _ _).alloc (Nat.le_refl _) _)).congr fun j hj => by rw [stF_zero hj]⟩, ⟨[], World.ownsRow_made w1 #[] (base := w.heap.size + 1) (e := 38) (size := 1) 0 hs1 (by unfold maxLen; omega) rfl⟩, Lib.hid ?_, HB1.out.alloc hs1 _⟩
    intro b A' N' c' e2 e3
    injection e2 with e2
    have h1 := HBL.out _ e2
    injection e3 with e3
    simp only at e3 h1
    omega
  case round =>
    obtain ⟨k, hk, rfl, HRB, hst, ⟨xs, hown⟩, HNE, hbl⟩ := hrel
    have hbl2 : Below (w.alloc (.cells #[.int .i64 C, .slice A n q] 26)).heap.size (w.alloc (.cells #[.int .i64 C, .slice A n q] 26)) wr := by simpa using hbl
    have hs0 := hbl.size
    simp only [World.size_alloc] at hs0
    have HB := Lib.hid hbl
    have HB2 := Lib.hid hbl2
    have HOWN := Lib.hid hown
    clear hbl hbl2 hown
    by_cases hlt : k < n
    · have hrr := LA.out.below HA.out HB2.out
      obtain ⟨gA, oA, rfl, hgA, r0, r1, r2⟩ := RdRows.row hrr hlt
      have HZ := Lib.hid (hrr.2 k hlt)
      have hnk := HNS.out k hlt
      obtain ⟨g, o, c', rfl, hc', hst⟩ := hst
      have HST := Lib.hid hst
      have hSN := stN_ok hC1 HRB.out
      have HFA := Lib.hid (fun h => HC.out.trans (rowsB_false hlt h))
      clear hrr hst
      obtain ⟨dk, hdk⟩ : ∃ t, t = d k := ⟨_, rfl⟩
      obtain ⟨ck, hck⟩ : ∃ t, t = c k := ⟨_, rfl⟩
      rw [← hdk] at r0
      rw [← hck] at r1
      obtain ⟨V, hV⟩ : ∃ V, V = (dirB dk && inB ck 1 4 && stitchesB (z k) (ns k)) := ⟨_, rfl⟩
      have hrowB : rowB C d c ns z k = (V && decide (saC (stF C ns z k) (stN C ns z k) (z k) (ns k) = 0) && keepB (stF C ns z k) (stN C ns z k) (z k) (ns k) dk (ns k)) := by rw [hV, hdk, hck]; rfl
      have HV := Lib.hid hV
      have HROW := Lib.hid hrowB
      clear hV hrowB hdk hck
      have hgw := World.block_lt_of_cell? wr _ r0
      simp only at hgw
      go_wp2_with fail
      refine (implValidRow_any dk ck (As k) (ns k) (cs k) (z k) _ (HZ.out.below ((Below.refl _ _).alloc (Nat.le_refl _) _)) hnk).mono ?_
      rintro e w2 ⟨rfl, hb2⟩
      rw [← HV.out]
      have x2 := fun o => ((bcell hb2).1 wr.heap.size o (by simp)).trans (cell_alloc_at rfl o)
      have y2 : wr.heap.size < w2.heap.size := blt hb2 (by simp)
      have HW2 := Lib.hid (((Below.refl wr.heap.size wr).alloc (Nat.le_refl _) _).trans (hb2.mono (by simp)))
      clear hb2 r0 r1 r2
      cases V
      · have HF := Lib.hid (HFA.out (by rw [HROW.out]; rfl))
        go_wp2
        go_ret2
        exact ⟨.slice none 0 0, by rw [HF.out]; rfl, (HL.out.trans (HB2.out.mono (by simp))).trans (HW2.out.mono (by omega))⟩
      go_wp2_with fail
      refine (implStacksAfter_any g o (stN C ns z k) c' (As k) (ns k) (cs k) (stF C ns z k) (z k) _ (HST.out.below HW2.out) (HZ.out.below HW2.out) (by omega) hnk hc'.1 hc'.2).mono ?_
      rintro e w3 ⟨A3, c3, rfl, hc3, hn3⟩
      have x3 := fun o => ((bcell hn3.bl).1 wr.heap.size o y2).trans (x2 o)
      have y3 : wr.heap.size < w3.heap.size := blt hn3.bl y2
      have HN3 := Lib.hid (hn3.under HW2.out)
      have HBA := Lib.hid (hn3.ab.mono (show wr.heap.size ≤ w2.heap.size by omega))
      clear hn3 x2
      by_cases hcode : saC (stF C ns z k) (stN C ns z k) (z k) (ns k) = 0
      case neg =>
        have HF := Lib.hid (HFA.out (by rw [HROW.out, decide_eq_false hcode]; simp))
        have hcb : (saC (stF C ns z k) (stN C ns z k) (z k) (ns k) != 0) = true := by simpa using hcode
        go_wp2
        go_ret2
        exact ⟨.slice none 0 0, by rw [HF.out]; rfl, (HL.out.trans (HB2.out.mono (by simp))).trans (HN3.out.bl.mono (by omega))⟩
      obtain ⟨hss, hzz, htt, hmm, _⟩ := saC_zero hcode
      have HCD := Lib.hid hcode
      have hcb : (saC (stF C ns z k) (stN C ns z k) (z k) (ns k) != 0) = false := by simpa using hcode
      have HSS := Lib.hid hss
      have HZZ := Lib.hid hzz
      have HTT := Lib.hid htt
      clear hcode hss hzz htt
      go_wp2_with fail
      refine (keepsLimit_any dk ck (As k) (ns k) (cs k) g o (stN C ns z k) c' (stF C ns z k) (z k) _ (HST.out.below HN3.out.bl) (HZ.out.below HN3.out.bl) hc'.1 hc'.2 HSS.out HZZ.out HTT.out).mono ?_
      rintro e w4 ⟨rfl, hb4⟩
      have HN4 := Lib.hid (HN3.out.then hb4)
      have HOWN4 := Lib.hid (own_below HOWN.out HN4.out.bl)
      clear hb4 x3
      have hsN : saN (stF C ns z k) (stN C ns z k) (z k) (ns k) = stN C ns z (k + 1) := by rw [saN, if_pos HCD.out]; rfl
      cases hkb : keepB (stF C ns z k) (stN C ns z k) (z k) (ns k) dk (ns k)
      · have HF := Lib.hid (HFA.out (by rw [HROW.out, hkb]; simp))
        go_wp2
        go_ret2
        exact ⟨.slice none 0 0, by rw [HF.out]; rfl, (HL.out.trans (HB2.out.mono (by simp))).trans (HN4.out.bl.mono (by omega))⟩
      have HRB2 := Lib.hid (show rowsB C d c ns z (k + 1) = true by simp only [rowsB]; rw [HRB.out, HROW.out, HCD.out, hkb]; rfl)
      have hSN2 := stN_ok hC1 HRB2.out
      have HKB := Lib.hid hkb
      have HSN := Lib.hid hsN
      have hs4 := HN4.out.bl.size
      have HB4 := Lib.hid (HB.out.trans (HN4.out.bl.mono hs0))
      clear hkb hsN
      go_wp2_with (at_builtin; go_must (refine wpList_appGa w4 rfl (.tmp 57) (.tmp 59) _ rfl (w.heap.size + 1) 38 i0 _ 1 24 Try.underlying32 hi iz is ib rfl (by omega) u5 k xs rfl HOWN4.out _ 1 1 _ rfl rfl (by simp [Value.oneCell']) (by unfold maxLen; omega) (by omega) (by omega) ?_); intro v' w' hown' hf' hat'; have HOWN' := Lib.hid hown'; have HF' := Lib.hid hf'; have HAT' := Lib.hid hat'; clear hown' hf' hat')
      go_roundw
      case rel =>
        have hlt5 : ∀ b, u5.ownBlock = some b → b < wr.heap.size := fun b hb => (HOWN.out.lt b hb).2
        have hAb : ∀ b, Fb A3 (saN (stF C ns z k) (stN C ns z k) (z k) (ns k)) b → wr.heap.size ≤ b ∧ b < w4.heap.size := fun b ⟨_, a, e, hb⟩ => ⟨hb ▸ HN4.out.ab a e, hb ▸ HN4.out.bb a e⟩
        refine ⟨k + 1, by omega, by go_num, HRB2, ?_, ⟨_, HOWN'.out⟩, Lib.hid ?_, (HB.out.trans (HN4.out.bl.mono hs0)).trans (HF'.out.own HOWN4.out (by omega))⟩
        · have hrd := (rd_obj _ _ _).fr HN4.out.rd HF'.out (fun b hb he => by have := hAb b hb; have := hlt5 b he; omega)
          rw [HSN.out] at hrd hc3 ⊢
          obtain ⟨g3, o3, e3, _⟩ := hrd (by omega)
          subst e3
          exact ⟨g3, o3, c3, rfl, hc3, hrd⟩
        · intro b A' N' c'' e2 e3
          injection e2 with e2
          have h1 := hAb A' ⟨by rw [HSN.out]; omega, _, e2, rfl⟩
          rcases HAT'.out with h2 | h2
          · have := hlt5 A' (h2.symm.trans e3)
            omega
          · rw [h2] at e3
            injection e3 with e3
            omega
      case measure => simp [intOf] <;> omega
    · obtain rfl : n = k := by omega
      go_wp2
      go_ret2
      exact ⟨u5, by rw [HC.out, HRB.out]; rfl, HL.out.trans (HB2.out.mono (by simp))⟩
theorem implValidChart_any (cols : Int) (A : Option Addr) (n q : Nat) (d c : Nat → Int) (As : Nat → Option Addr) (ns cs : Nat → Nat) (z : Nat → Nat → Int) (w : World) (ha : RdRows A n d c As ns cs z w) (hn : n ≤ 1048576) (hns : ∀ j, j < n → ns j ≤ 1048576) :
    Calls Try.prog 28 #[.agg #[.int .i64 cols, .slice A n q]] w fun e w' => e = .returned (.bool (chartB cols n d c ns z)) ∧ Below w.heap.size w w' := by
  have hL := (Below.refl w.heap.size w).alloc (Nat.le_refl _) (.cells #[.int .i64 cols, .slice A n q] 26)
  have HC := Lib.hid (allStacks_any cols A n q d c As ns cs z _ ((rdRows_obj A n d c As ns cs z).below ha hL) hn hns)
  have HL := Lib.hid hL
  clear ha hL hns
  go_enter Try.func28, Try.ntmps28
  go_wp2_with fail
  refine HC.out.mono ?_
  rintro e w2 ⟨v, rfl, hb2⟩
  have HB := Lib.hid (HL.out.trans (hb2.mono (by simp)))
  clear hb2
  go_wp2
  go_ret
  exact ⟨rfl, HB.out⟩
end Go.Proofs.Ytacppheedleamaa
