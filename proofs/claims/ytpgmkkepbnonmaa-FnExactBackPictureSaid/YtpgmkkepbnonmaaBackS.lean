/- Walks: the back picture of a chart, by the reference. No condition but the bounds. -/
import Derived.Test.YtpgmkkepbnonmaaFrontI
import Derived.Test.YtpgmkkepbnonmaaReverses
namespace Go.Proofs.Ytpgmkkepbnonmaa
open Go.RowKit
set_option maxRecDepth 20000

/-- A byte of a line, seen from behind. -/
def othB (b : Int) : Int := if b = 86 then 45 else if b = 45 then 86 else b
/-- A row of bytes of which the first k have been turned. -/
def bkM (f : Nat → Int) (k j : Nat) : Int := if j < k then othB (f j) else f j
/-- A line from behind. -/
def bkT (s : ByteArray) : ByteArray := strF s.size fun j => othB (revB s j)
theorem bkT_size (s : ByteArray) : (bkT s).size = s.size := strF_size _ _
theorem revB_byte (s : ByteArray) (j : Nat) : 0 ≤ revB s j ∧ revB s j < 256 := by
  unfold revB
  have := (s.data.toList.getD (s.size - 1 - j) 0).toNat_lt
  omega
theorem byte_strF (n : Nat) (z : Nat → Int) (k : Nat) (hk : k < n) (h0 : 0 ≤ z k) (h1 : z k < 256) : (((strF n z).data.toList.getD k 0).toNat : Int) = z k := by
  unfold strF
  rw [strOfNums_data]
  simp [List.getD, hk]
  omega
theorem strF_congr {n : Nat} {f g : Nat → Int} (h : ∀ j, j < n → f j = g j) : strF n f = strF n g := by
  unfold strF
  congr 1
  exact List.map_congr_left fun j hj => h j (List.mem_range.1 hj)
theorem bkM_self (f : Nat → Int) (k : Nat) : bkM f k k = f k := if_neg (Nat.lt_irrefl _)
theorem bkM_next {w : World} {g o a n k : Nat} {f : Nat → Int} (hr : RowR w g o n (fun j => .int .u8 (bkM f k j))) (hk : k < n) (ha : a = o + k) {y : Int} (hy : y = othB (f k)) :
    RowR (w.setCell ⟨g, a, none⟩ (.int .u8 y)) g o n (fun j => .int .u8 (bkM f (k + 1) j)) := by
  subst ha
  intro j hj
  have h1 := hr j hj
  by_cases hjk : j = k
  · subst hjk
    rw [World.cell?_setCell_same _ _ _ h1]
    simp only [bkM]
    rw [if_pos (by omega), hy]
  · rw [World.cell?_setCell_other _ _ _ _ (by intro e; injection e; omega), h1]
    simp only [bkM]
    by_cases hc : j < k
    · rw [if_pos hc, if_pos (by omega)]
    · rw [if_neg hc, if_neg (by omega)]
theorem bkM_stay {w : World} {g o n k : Nat} {f : Nat → Int} (hr : RowR w g o n (fun j => .int .u8 (bkM f k j))) (hy : f k = othB (f k)) :
    RowR w g o n (fun j => .int .u8 (bkM f (k + 1) j)) := fun j hj => by
  rw [hr j hj]
  simp only [bkM]
  by_cases hjk : j = k
  · subst hjk
    rw [if_neg (by omega), if_pos (by omega), ← hy]
  · by_cases hc : j < k
    · rw [if_pos hc, if_pos (by omega)]
    · rw [if_neg hc, if_neg (by omega)]

set_option maxHeartbeats 1000000 in
theorem l30Other_any (s : ByteArray) (w : World) (hn : s.size ≤ 1048576) :
    Calls Try.prog 57 #[.string s] w fun e w' => e = .returned (.string (bkT s)) ∧ Below w.heap.size w w' := by
  go_enter Try.func57, Try.ntmps57
  go_wp2_with fail
  refine (l30Reverse_any s _ hn).mono ?_
  rintro e w1 ⟨rfl, hb1⟩
  obtain ⟨T, hT⟩ : ∃ T, T = strF s.size (revB s) := ⟨_, rfl⟩
  have hsz : T.size = s.size := by rw [hT, strF_size]
  have HBY := Lib.hid (show ∀ j, j < T.size → ((T.data.toList.getD j 0).toNat : Int) = revB s j from fun j hj => by
    rw [hT]
    exact byte_strF _ _ _ (by omega) (revB_byte s j).1 (revB_byte s j).2)
  have kc := fun (W : World) => run_bytes_of_string (P := Try.prog) W 9 86 5 T Try.underlying9 Try.underlying86 Try.underlying5
  rw [← hT]
  have HB1 := Lib.hid hb1
  have HSZ := Lib.hid hsz
  have hTn : T.size ≤ 1048576 := by omega
  obtain ⟨h1, h2⟩ := bytes_block w1 T (grownCap w1 T.size 0 5) 5
  have HW1 := Lib.hid h1
  have HR1 := Lib.hid h2
  clear hb1 hT h1 h2 hsz
  go_wp2
  clear kc
  go_loopw [4] (fun i wr => ∃ k : Nat, k ≤ T.size ∧ i = .int .i64 k ∧ RowW wr w1.heap.size 0 T.size ∧ RowR wr w1.heap.size 0 T.size (fun j => .int .u8 (bkM (revB s) k j)) ∧ Below w1.heap.size w1 wr) (fun i _ => T.size - (intOf i).toNat)
  case atStart => exact ⟨0, Nat.zero_le _, rfl, HW1.out, fun j hj => (HR1.out j hj).trans (congrArg (fun x => some (Value.int .u8 x)) ((HBY.out j hj).trans (if_neg (Nat.not_lt_zero j)).symm)), Below.drewN' ((Below.refl _ _).alloc (Nat.le_refl _) _) 1⟩
  case round =>
    obtain ⟨k, hk, rfl, hw, hr, hb⟩ := hrel
    have HW := Lib.hid hw
    have HR := Lib.hid hr
    have HB := Lib.hid hb
    by_cases hlt : k < T.size
    · have hc : wr.cell? ⟨w1.heap.size, k, none⟩ = some (.int .u8 (revB s k)) := by
        have h := HR.out k hlt
        rw [Nat.zero_add] at h
        exact h.trans (by simp only [bkM_self])
      have hf := (HW.out k hlt).2
      rw [Nat.zero_add] at hf
      obtain ⟨x, hx⟩ : ∃ x, x = revB s k := ⟨_, rfl⟩
      rw [← hx] at hc
      have HX := Lib.hid hx
      clear hw hr hb hx
      by_cases h86 : x = 86
      · subst h86
        go_wp2
        go_roundw
        case rel => exact ⟨k + 1, by omega, by go_num, HW.out.set _ _, bkM_next HR.out hlt (by omega) (by rw [← HX.out]; rfl), HB.out.setCell (Nat.le_refl _) _⟩
        case measure => simp [intOf] <;> omega
      · by_cases h45 : x = 45
        · subst h45
          go_wp2
          go_roundw
          case rel => exact ⟨k + 1, by omega, by go_num, HW.out.set _ _, bkM_next HR.out hlt (by omega) (by rw [← HX.out]; rfl), HB.out.setCell (Nat.le_refl _) _⟩
          case measure => simp [intOf] <;> omega
        · have b1 : (x == 86) = false := by simpa using h86
          have b2 : (x == 45) = false := by simpa using h45
          go_wp2
          go_roundw
          case rel => exact ⟨k + 1, by omega, by go_num, HW.out, bkM_stay HR.out (by rw [← HX.out, othB, if_neg h86, if_neg h45]), HB.out⟩
          case measure => simp [intOf] <;> omega
    · obtain rfl : k = T.size := by omega
      have hrd : Rd wr (some ⟨w1.heap.size, 0, none⟩) T.size (fun j => .int .u8 (othB (revB s j))) := fun hN => ⟨_, _, rfl, hw.lt hN, fun j hj => (hr j hj).trans (by simp only [bkM]; rw [if_pos hj])⟩
      have kc' := fun c => conv_rd (c := c) hrd
      have HB2 := Lib.hid (HB1.out.trans (hb.mono HB1.out.size))
      rw [show strF T.size (fun j => othB (revB s j)) = bkT s from by rw [HSZ.out]; rfl] at kc'
      clear hw hr hb hrd
      go_wp2
      go_ret
      exact ⟨rfl, HB2.out⟩

/-- The lines of the back picture. -/
def bpT (n : Nat) (ns : Nat → Nat) (z : Nat → Nat → Int) (k : Nat) : ByteArray := bkT (fpT n ns z k)
theorem fpT_size (n : Nat) (ns : Nat → Nat) (z : Nat → Nat → Int) (k : Nat) : (fpT n ns z k).size ≤ 4 * ns (n - 1 - k) := by
  unfold fpT
  rw [strOfNums_size, lnL_length]
  exact segM_le _ _

set_option maxHeartbeats 1000000 in
theorem specBackPicture_any (cols : Int) (A : Option Addr) (n q : Nat) (d c : Nat → Int) (As : Nat → Option Addr) (ns cs : Nat → Nat) (z : Nat → Nat → Int) (w : World) (ha : RdRows A n d c As ns cs z w) (hn : n ≤ 1048576) (hns : ∀ j, j < n → ns j ≤ 1048576) :
    Calls Try.prog 24 #[.agg #[.int .i64 cols, .slice A n q]] w (NewP2 w (fpN cols n d c ns z) (fpN cols n d c ns z) (fun j => .string (bpT n ns z j)) (fpC cols n d c ns z)) := by
  have hL := (Below.refl w.heap.size w).alloc (Nat.le_refl _) (.cells #[.int .i64 cols, .slice A n q] 41)
  have HL := Lib.hid hL
  have hbx := box_new w #[.int .i64 cols, .slice A n q] 41
  have HAT := Lib.hid (show ChartAt (w.alloc (.cells #[.int .i64 cols, .slice A n q] 41)) w.heap.size 0 cols A n q from ⟨hbx 0, hbx 1⟩)
  have HA := Lib.hid ((rdRows_obj A n d c As ns cs z).below ha hL)
  have LA := Lib.hid (rdRows_obj A n d c As ns cs z)
  have HNS := Lib.hid hns
  clear ha hL hbx hns
  go_enter Try.func24, Try.ntmps24
  go_wp2_with fail
  refine (l15Ok_any w.heap.size 0 cols A n q d c As ns cs z _ HAT HA.out hn HNS.out).mono ?_
  rintro e w1 ⟨rfl, hb1⟩
  have HB1 := Lib.hid (HL.out.trans (hb1.mono HL.out.size))
  cases hv : chartB cols n d c ns z
  · clear hb1
    go_wp2
    go_ret2
    exact ⟨none, 0, by simp [fpN, fpC, hv], by simp only [fpN, hv]; exact New.none_ HB1.out _⟩
  obtain ⟨_, _, hn1, hn8, hk⟩ := chartB_of hv
  have HAT1 := Lib.hid (HAT.out.below hb1)
  have HA1 := Lib.hid (LA.out.below HA.out hb1)
  have HK := Lib.hid hk
  have HV := Lib.hid hv
  clear hb1 hk hv
  go_wp2_with fail
  refine (l30Front_any w.heap.size 0 cols A n q d c As ns cs z _ HAT1 HA1.out hn8 HK.out).mono ?_
  rintro e w2 ⟨A2, c2, rfl, hn2⟩
  obtain ⟨g, o, rfl, hw2⟩ := hn2.wr (by omega)
  obtain ⟨g', o', e', hg2, hr2⟩ := hn2.rd (by omega)
  injection e' with e'
  injection e' with e1 e2
  subst e1 e2
  have hgB : w1.heap.size ≤ g := hn2.ab _ rfl
  have HW2 := Lib.hid hw2
  have HR2 := Lib.hid hr2
  have HB2 := Lib.hid hn2.bl
  clear hn2 hw2 hr2
  go_wp2
  go_loopw [5] (fun i wr => ∃ k : Nat, k ≤ n ∧ i = .int .i64 k ∧ g < wr.heap.size ∧ RowW wr g o n ∧ RowR wr g o n (fun j => .string (if j < k then bpT n ns z j else fpT n ns z j)) ∧ Below w1.heap.size w1 wr) (fun i _ => n - (intOf i).toNat)
  case atStart => exact ⟨0, Nat.zero_le _, rfl, hg2, HW2.out, fun j hj => (HR2.out j hj).trans (by simp only [if_neg (Nat.not_lt_zero j)]), HB2.out⟩
  case round =>
    obtain ⟨k, hk, rfl, hg, hw, hr, hb⟩ := hrel
    have HW := Lib.hid hw
    have HR := Lib.hid hr
    have HB := Lib.hid hb
    clear hw hr hb
    by_cases hlt : k < n
    · have hc : wr.cell? ⟨g, o + k, none⟩ = some (.string (fpT n ns z k)) := (HR.out k hlt).trans (by simp only [if_neg (Nat.lt_irrefl k)])
      have hsz : (fpT n ns z k).size ≤ 64 := by
        have := fpT_size n ns z k
        have := (stitchesB_of (HK.out (n - 1 - k) (by omega))).1
        omega
      obtain ⟨T, hT⟩ : ∃ T, T = fpT n ns z k := ⟨_, rfl⟩
      rw [← hT] at hc hsz
      have HT := Lib.hid hT
      clear hT
      go_wp2_with fail
      refine (l30Other_any T _ (by omega)).mono ?_
      rintro e w3 ⟨rfl, hb3⟩
      have HW3 := Lib.hid (HW.out.below hb3)
      have HR3 := Lib.hid (HR.out.below hg hb3)
      have HB3 := Lib.hid (HB.out.trans (hb3.mono HB.out.size))
      have hg3 : g < w3.heap.size := blt hb3 hg
      obtain ⟨⟨u, hu⟩, hf⟩ := HW3.out k hlt
      clear hb3 hc
      go_wp2
      go_roundw
      case rel =>
        refine ⟨k + 1, by omega, by go_num, by simp [World.setCell]; exact hg3, HW3.out.set _ _, ?_, HB3.out.setCell hgB _⟩
        intro j hj
        by_cases hjk : j = k
        · subst hjk
          rw [World.cell?_setCell_same _ _ _ hu, HT.out]
          simp only [if_pos (Nat.lt_succ_self j)]
          rfl
        · rw [World.cell?_setCell_other _ _ _ _ (by intro e; injection e; omega), HR3.out j hj]
          by_cases hc : j < k
          · simp only [if_pos hc, if_pos (show j < k + 1 by omega)]
          · simp only [if_neg hc, if_neg (show ¬ j < k + 1 by omega)]
      case measure => simp [intOf] <;> omega
    · obtain rfl : k = n := by omega
      have HN := Lib.hid (show New w1 wr (some ⟨g, o, none⟩) k (fun j => .string (bpT k ns z j)) from ⟨HB.out, fun a e => by injection e with e; subst e; exact hgB, fun a e => by injection e with e; subst e; exact hg, fun _ => ⟨_, _, rfl, HW.out⟩, fun _ => ⟨_, _, rfl, hg, fun j hj => (HR.out j hj).trans (by simp only [if_pos hj])⟩⟩)
      have HN2 := Lib.hid (HN.out.under HB1.out)
      go_wp2
      go_ret2
      have e1 : fpN cols k d c ns z = k := by simp [fpN, HV.out]
      rw [e1]
      exact ⟨_, c2, by simp [fpC, HV.out], HN2.out⟩
end Go.Proofs.Ytpgmkkepbnonmaa
