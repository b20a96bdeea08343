/- The walk of the law on hand knitting: the events of a drawn chart are valid and leave as many strands as its columns have; the cast-on and the rows one after the other make them. No condition but that the argument is bytes. -/
import Derived.Test.YtacppheedleamaaHdA
import Derived.Test.YtacppheedleamaaPicC
import Derived.Deep.QuietTactic
import Derived.IntWalk
set_option linter.unusedVariables false
set_option linter.unusedSimpArgs false
namespace Go.Proofs.Ytacppheedleamaa
open Go.RowKit
set_option maxRecDepth 100000

theorem specValidChart_any (cols : Int) (A : Option Addr) (n q : Nat) (d c : Nat → Int) (As : Nat → Option Addr) (ns cs : Nat → Nat) (z : Nat → Nat → Int) (w : World) (ha : RdRows A n d c As ns cs z w) (hn : n ≤ 1048576) (hns : ∀ j, j < n → ns j ≤ 1048576) :
    Calls Try.prog 8 #[.agg #[.int .i64 cols, .slice A n q]] w fun e w' => e = .returned (.bool (chartB cols n d c ns z)) ∧ Below w.heap.size w w' := by
  have HL := Lib.hid ((Below.refl w.heap.size w).alloc (Nat.le_refl _) (.cells #[.int .i64 cols, .slice A n q] 26))
  have hbx := box_new w #[.int .i64 cols, .slice A n q] 26
  have HK := Lib.hid (l15Ok_any w.heap.size 0 cols A n q d c As ns cs z _ (Lib.hid ⟨hbx 0, hbx 1⟩) ((rdRows_obj A n d c As ns cs z).below ha HL.out) hn hns)
  clear hbx ha hns
  go_enter Try.func8, Try.ntmps8
  go_wp2_with fail
  refine HK.out.mono ?_
  rintro e w2 ⟨rfl, hb⟩
  have HB := Lib.hid (HL.out.trans (hb.mono (by simp)))
  clear hb
  go_wp2_with fail
  go_ret
  exact ⟨rfl, HB.out⟩
theorem aft_small {s z : Nat → Int} {n m : Nat} (h : RowFit s z n m) : ∀ x ∈ aft s z m, 1 ≤ x ∧ x ≤ 5 := by
  rw [← cat_last (s := s) (d := 1) h.hz (Nat.le_refl m)]
  have : ∀ i, i ≤ m → ∀ x ∈ catC (celT s z 1 m m) i, 1 ≤ x ∧ x ≤ 5 := by
    intro i hi
    induction i with
    | zero =>
      intro x hx
      cases hx
    | succ i ih =>
      intro x hx
      simp only [catC] at hx
      rcases List.mem_append.1 hx with hx | hx
      · exact ih (by omega) x hx
      · exact (h.celT (by omega)).1 x hx
  exact this m (Nat.le_refl m)
theorem sumR_small {f : Nat → Int} {n : Nat} (h : ∀ j, j < n → 1 ≤ f j ∧ f j ≤ 5) : ∀ k, k ≤ n → 0 ≤ sumR f 0 k ∧ sumR f 0 k ≤ 5 * k
  | 0, _ => ⟨Int.le_refl _, by simp [sumR]⟩
  | k + 1, hk => by
    have ih := sumR_small h k (by omega)
    have h1 := h (0 + k) (by omega)
    simp only [sumR]
    omega
theorem rowB_more {cols : Nat} {d c : Nat → Int} {ns : Nat → Nat} {z : Nat → Nat → Int} {k : Nat} (h : rowB cols d c ns z k = true) : dirB (d k) = true ∧ inB (c k) 1 4 = true ∧ saC (stF cols ns z k) (stN cols ns z k) (z k) (ns k) = 0 ∧ keepB (stF cols ns z k) (stN cols ns z k) (z k) (ns k) (d k) (ns k) = true := by
  simp only [rowB, Bool.and_eq_true, decide_eq_true_eq] at h
  exact ⟨h.1.1.1.1, h.1.1.1.2, h.1.2, h.2⟩
theorem castL_getD {cc : Int} {k j : Nat} (hj : j < k * 6) : (castL cc k).getD j 0 = castZ cc j := by
  simp [castL, List.getD, hj]
set_option maxHeartbeats 16000000 in
theorem lawHand_walk (A : Option Addr) (n c : Nat) (b : Nat → Int) (hn : n ≤ maxLen) (w : World) (ha : Rd w A n (fun j => .int .u8 (b j))) (hb : ∀ j, j < n → 0 ≤ b j ∧ b j < 256) :
    Calls Try.prog 3 #[.slice A n c] w fun e w' => e = .returned (.bool true) ∧ Below w.heap.size w w' := by
  by_cases hlong : 1048576 < n
  · go_enter Try.func3, Try.ntmps3
    go_wp2_with fail
    refine (b10Long_any A n c w).mono ?_
    rintro e w' ⟨rfl, rfl⟩
    rw [decide_eq_true hlong]
    go_wp2_with fail
    go_ret
    exact ⟨rfl, Below.refl _ _⟩
  have HCO := Lib.hid (show Code8 w A n b from ⟨ha, hb, by omega⟩)
  clear ha hb hn
  go_enter Try.func3, Try.ntmps3
  go_wp2_with fail
  refine (b10Long_any A n c w).mono ?_
  rintro e w' ⟨rfl, rfl⟩
  rw [decide_eq_false hlong]
  clear hlong
  go_wp2_with fail
  refine (drawHandKnit_any A n c b w HCO.out).mono ?_
  rintro e w1 ⟨cols, A1, c1, rs, rfl, hl9, hrl, hrd, hb1⟩
  obtain ⟨N, hN⟩ : ∃ N, N = rs.length := ⟨_, rfl⟩
  obtain ⟨d, hd⟩ : ∃ f, f = dF rs := ⟨_, rfl⟩
  obtain ⟨cr, hcr⟩ : ∃ f, f = cF rs := ⟨_, rfl⟩
  obtain ⟨As, hAs⟩ : ∃ f, f = AF rs := ⟨_, rfl⟩
  obtain ⟨ns, hns0⟩ : ∃ f, f = nF rs := ⟨_, rfl⟩
  obtain ⟨cs, hcs⟩ : ∃ f, f = qF rs := ⟨_, rfl⟩
  obtain ⟨z, hz⟩ : ∃ f, f = zF rs := ⟨_, rfl⟩
  have hns : ∀ j, j < N → ns j ≤ 1048576 := fun j hj => by
    rw [hns0]
    exact Nat.le_trans (hrl _ (getD_mem (show j < rs.length by omega))) (by decide)
  rw [← hN, ← hd, ← hcr, ← hAs, ← hns0, ← hcs, ← hz] at hrd
  rw [← hN] at hl9 ⊢
  clear hN hd hcr hAs hns0 hcs hz hrl
  have HNS := Lib.hid hns
  have hbx := box_new w1 #[.int .i64 cols, .slice A1 N c1] 26
  have hA1 := (Below.refl w1.heap.size w1).alloc (Nat.le_refl _) (.cells #[.int .i64 cols, .slice A1 N c1] 26)
  have HRD := Lib.hid ((rdRows_obj A1 N d cr As ns cs z).below hrd hA1)
  have HB := Lib.hid (hb1.trans (hA1.mono hb1.size))
  have HX := Lib.hid hbx
  clear hrd hb1 hA1 hns hbx HCO
  go_upto_region 4 with fail
  obtain ⟨G, hG⟩ : ∃ G, G = w1.heap.size := ⟨_, rfl⟩
  obtain ⟨w2, hw2⟩ : ∃ x, x = w1.alloc (.cells #[.int .i64 cols, .slice A1 N c1] 26) := ⟨_, rfl⟩
  have hGl : G < w2.heap.size := by rw [hw2, hG]; simp
  rw [← hw2] at HRD HB HX ⊢
  rw [← hG] at HX ⊢
  clear hw2 hG
  have x0 : w2.cell? ⟨G, 0, none⟩ = some (.int .i64 cols) := HX.out 0
  have x1 : w2.cell? ⟨G, 1, none⟩ = some (.slice A1 N c1) := HX.out 1
  have HHK := Lib.hid (implHandKnit_any cols A1 N c1 d cr As ns cs z w2 HRD.out (by omega) HNS.out)
  unfold HkR at HHK
  cases hv : chartB cols N d cr ns z
  · have e1 : hkN cols N d cr ns z = 0 := by simp [hkN, hv]
    have e2 : hkCode cols N d cr ns z = 1 := by simp [hkCode, hv]
    rw [e1, e2] at HHK
    have HV := Lib.hid hv
    clear hv e1 e2
    go_wp2_with fail
    refine HHK.out.mono ?_
    rintro e w3 ⟨A3, c3, rfl, hn3⟩
    have HB3 := Lib.hid hn3.bl
    have y0 := at_below HB3.out hGl x0
    have y1 := at_below HB3.out hGl x1
    have HVC := Lib.hid (specValidChart_any cols A1 N c1 d cr As ns cs z w3 ((rdRows_obj A1 N d cr As ns cs z).below HRD.out HB3.out) (by omega) HNS.out)
    rw [HV.out] at HVC
    clear hn3 HHK
    go_wp2_with fail
    refine HVC.out.mono ?_
    rintro e w4 ⟨rfl, hb4⟩
    have HE := Lib.hid (HB.out.trans ((HB3.out.trans (hb4.mono HB3.out.size)).mono HB.out.size))
    clear hb4
    go_wp2_with fail
    go_ret
    exact ⟨rfl, HE.out⟩
  obtain ⟨hc8, hC, hN8, hrows⟩ := chart_rows hv
  obtain ⟨hkl, hkc⟩ := hk_count hv
  have e2 : hkCode cols N d cr ns z = 0 := by simp [hkCode, hv]
  have hkb := hkE_length hC.2 hrows (Nat.le_refl N)
  rw [e2] at HHK
  obtain ⟨K, hK⟩ : ∃ q, q = hkN cols N d cr ns z := ⟨_, rfl⟩
  rw [← hK] at HHK hkl hkc
  obtain ⟨C, hCC⟩ : ∃ q, q = cols.toNat := ⟨_, rfl⟩
  have hcolsC : cols = (C : Int) := by have := inB_of hc8; omega
  have HV := Lib.hid hv
  have HRB := Lib.hid hrows
  have HKL := Lib.hid hkl
  have HKC := Lib.hid hkc
  have hK5 : K ≤ 30000 := by omega
  rw [← hCC] at HHK HRB HKL HKC hC
  subst hcolsC
  clear hv e2 hrows hkl hkc hK hCC hkb
  go_wp2_with fail
  refine HHK.out.mono ?_
  rintro e w3 ⟨A3, c3, rfl, hn3⟩
  have HB3 := Lib.hid hn3.bl
  have HE3 := Lib.hid hn3.rd
  have y0 := at_below HB3.out hGl x0
  have y1 := at_below HB3.out hGl x1
  have HRD3 := Lib.hid ((rdRows_obj A1 N d cr As ns cs z).below HRD.out HB3.out)
  have HVC := Lib.hid (specValidChart_any C A1 N c1 d cr As ns cs z w3 HRD3.out (by omega) HNS.out)
  rw [HV.out] at HVC
  clear hn3 HHK x0 x1
  go_wp2_with (first | (go_at_call 8; refine HVC.out.mono ?_; rintro e w4 ⟨he, hb4⟩; obtain rfl : e = .returned (.bool true) := he; have HB4 := Lib.hid hb4; have z0 := at_below hb4 (Nat.lt_of_lt_of_le hGl HB3.out.size) y0; have z1' := at_below hb4 (Nat.lt_of_lt_of_le hGl HB3.out.size) y1; clear hb4))
  have HRD4 := Lib.hid ((rdRows_obj A1 N d cr As ns cs z).below HRD3.out HB4.out)
  have HSO := specStacksOf_any C A1 N c1 d cr As ns cs z w4 HRD4.out (by omega) HNS.out HV.out (fun k hk => by rw [Int.toNat_natCast]; exact stL_len HRB.out hk)
  simp only [Int.toNat_natCast] at HSO
  have HSO := Lib.hid HSO
  have HW4 := Lib.hid (HB.out.trans ((HB3.out.trans (HB4.out.mono HB3.out.size)).mono HB.out.size))
  have HE4 := Lib.hid (HE3.out.below HB4.out)
  have hG4 : G < w4.heap.size := Nat.lt_of_lt_of_le hGl (Nat.le_trans HB3.out.size HB4.out.size)
  clear HVC HRD HRD3 HE3 HB HX HB3 HB4 y0 y1 hGl
  go_wp2_with fail
  refine HSO.out.mono ?_
  rintro e w5 ⟨A5, c5, xs, rfl, ho5, hs5, hb5⟩
  have HO5 := Lib.hid ho5
  have HS5 := Lib.hid hs5
  have HB5 := Lib.hid hb5
  have HRD5 := Lib.hid ((rdRows_obj A1 N d cr As ns cs z).below HRD4.out hb5)
  have HE5 := Lib.hid (HE4.out.below hb5)
  have HW5 := Lib.hid (HW4.out.trans (hb5.mono HW4.out.size))
  have k0 := at_below hb5 hG4 z0
  have k1 := at_below hb5 hG4 z1'
  have hG5 : G < w5.heap.size := Nat.lt_of_lt_of_le hG4 hb5.size
  obtain ⟨m, hm⟩ : ∃ q, q = sumI (stL C ns z N) := ⟨_, rfl⟩
  have HM := Lib.hid hm
  rw [← hm] at HKC
  have HSTR := Lib.hid (specStrandsOf_any A3 K c3 _ m w5 HE5.out (by omega) HKC.out)
  clear ho5 hs5 hb5 HSO HRD4 HE4 HW4 z0 z1' hG4 hm
  go_wp2_with fail
  refine HSTR.out.mono ?_
  rintro e w6 ⟨rfl, q6, hw6⟩
  have hb6 : Below w5.heap.size w5 w6 := by rw [hw6]; exact Below.drewN' (Below.refl _ _) q6
  have HB6 := Lib.hid hb6
  have HRD6 := Lib.hid ((rdRows_obj A1 N d cr As ns cs z).below HRD5.out hb6)
  have HE6 := Lib.hid (HE5.out.below hb6)
  have HW6 := Lib.hid (HW5.out.trans (hb6.mono HW5.out.size))
  have HO6 := Lib.hid (own_below HO5.out hb6)
  have HS6 := Lib.hid (HS5.out.below hb6)
  have z0 := at_below hb6 hG5 k0
  have z1' := at_below hb6 hG5 k1
  have hG6 : G < w6.heap.size := Nat.lt_of_lt_of_le hG5 hb6.size
  obtain ⟨gA, oA, rfl, hgA, r0, r1, r2⟩ := HRD6.out.row (k := 0) (by omega)
  rw [Nat.zero_mul, Nat.add_zero] at r1
  obtain ⟨c0, hc0⟩ : ∃ q, q = cr 0 := ⟨_, rfl⟩
  rw [← hc0] at r1
  have HC0 := Lib.hid hc0
  have hrow0 := rowB_more (rowsB_all HRB.out 0 (by omega))
  have hcast : castOk (C : Int) c0 = true := by rw [hc0]; simp [castOk, hc8, hrow0.2.1]
  have HCA := implHandCastOn_any C c0 w6.drew
  rw [(castN_yes hcast).1, (castN_yes hcast).2, Int.toNat_natCast] at HCA
  have HCA := Lib.hid HCA
  have b0 : 0 < N := by omega
  have b0' : (0 : Int) < (N : Int) := by omega
  clear hw6 hb6 HSTR HO5 HS5 HB5 HRD5 HE5 HW5 k0 k1 hG5 r0 r2 hc0 hrow0 hcast HB6
  go_wp2_with fail
  go_region_held3 (fun w' => w'.cell? ⟨G, 0, none⟩ = some (.int .i64 (C : Int)) ∧ w'.cell? ⟨G, 1, none⟩ = some (.slice (some ⟨gA, oA, none⟩) N c1) ∧ w'.cell? ⟨gA, oA + 1, none⟩ = some (.int .i64 c0)) (go_keep)
    ((go_at_call 11; refine HCA.out.mono ?_; rintro e w7 ⟨A7, c7, rfl, hn7⟩; have HB7 : Hid (Below w6.heap.size w6 w7) := Lib.hid (((Below.refl w6.heap.size w6).drew).trans hn7.bl); have HF7 := Lib.hid hn7.rd; have kx0 := at_below HB7.out hG6 z0; have kx1 := at_below HB7.out hG6 z1'; have kx2 := at_below HB7.out hgA r1; clear hn7))
  rename_i hHeld
  clear hHeld
  all_goals
    have HRD7 := Lib.hid ((rdRows_obj (some ⟨gA, oA, none⟩) N d cr As ns cs z).below HRD6.out HB7.out)
    have HE7 := Lib.hid (HE6.out.below HB7.out)
    have HW7 := Lib.hid (HW6.out.trans (HB7.out.mono HW6.out.size))
    have HO7 := Lib.hid (own_below HO6.out HB7.out)
    have HS7 := Lib.hid (HS6.out.below HB7.out)
    have y0 := at_below HB7.out hG6 z0
    have y1 := at_below HB7.out hG6 z1'
    have hG7 : G < w7.heap.size := Nat.lt_of_lt_of_le hG6 HB7.out.size
    have HVE := specValidEvents_any A3 K c3 _ w7 HE7.out (by omega)
    rw [HKC.out] at HVE
    have HVE := Lib.hid HVE
    clear HB7 HRD6 HE6 HW6 HO6 HS6 z0 z1' hG6 r1 HCA
    go_upto_region 12 with (first | (go_at_call 12; refine HVE.out.mono ?_; rintro e w8 ⟨he8, q8, hw8⟩; obtain rfl : e = .returned (.bool true) := he8; have hb8 : Below w7.heap.size w7 w8 := (by rw [hw8]; exact Below.drewN' (Below.refl _ _) q8); have HB8 := Lib.hid hb8; clear hw8 hb8))
    have HRD8 := Lib.hid ((rdRows_obj (some ⟨gA, oA, none⟩) N d cr As ns cs z).below HRD7.out HB8.out)
    have HE8 := Lib.hid (HE7.out.below HB8.out)
    have HF8 := Lib.hid (HF7.out.below HB8.out)
    have HW8 := Lib.hid (HW7.out.trans (HB8.out.mono HW7.out.size))
    have HO8 := Lib.hid (own_below HO7.out HB8.out)
    have HS8 := Lib.hid (HS7.out.below HB8.out)
    have z0 := at_below HB8.out hG7 y0
    have z1' := at_below HB8.out hG7 y1
    have hG8 : G < w8.heap.size := Nat.lt_of_lt_of_le hG7 HB8.out.size
    clear HRD7 HE7 HF7 HW7 HO7 HS7 y0 y1 hG7 HB8 HVE
    obtain ⟨i0, hi0, iz, is, ib⟩ := info_parts infoD
    obtain ⟨j0, hj0, jz, js, jb⟩ := info_parts infoEvent
    have HA8 := Lib.hid ((Below.refl w8.heap.size w8).alloc (Nat.le_refl _) (.cells #[] 2))
    have HN8 := Lib.hid (World.ownsRow_made w8 #[] 0 (Nat.le_refl w8.heap.size) (by unfold maxLen; omega) rfl : (w8.alloc (.cells #[] 2)).ownsRow w8.heap.size 2 1 (.slice (some ⟨w8.heap.size, 0, none⟩) 0 0) 0 [])
    go_upto_region 14 with fail
    go_loopg [12, 13] C (fun gh sz i wr => ∃ k : Nat, i = .int .i64 k ∧ gh + k = C ∧ Hid (wr.ownsRow w8.heap.size 2 1 sz k (ints (List.replicate k 1))) ∧ Hid (Below w8.heap.size w8 wr))
    case atStart => exact ⟨0, rfl, rfl, HN8, HA8⟩
    case round =>
      clear HN8 HA8
      obtain ⟨k, rfl, hgk, HSZ, HBW⟩ := hrel
      obtain ⟨As1, cs1, rfl⟩ := own_form HSZ.out
      have hsz := HBW.out.size
      have u0 := at_below HBW.out hG8 z0
      by_cases hlt : k < C
      · have l1 : (k : Int) < (C : Int) := by omega
        go_wp2_with (at_builtin; go_must (refine wpList_app wr rfl (.tmp 93) (.tmp 94) _ rfl w8.heap.size 2 i0 _ 1 8 Try.underlying38 hi0 iz is ib rfl (by omega) (.slice As1 k cs1) k (ints (List.replicate k 1)) rfl HSZ.out _ 1 1 _ rfl rfl (by simp [Value.oneCell']) (by unfold maxLen; omega) (by omega) hsz ?_); intro v' w' hown' hb'; have HW9 := Lib.hid hown'; have HB9 := Lib.hid (HBW.out.trans hb'); clear hown' hb')
        go_roundg (gk - 1)
        case measure => omega
        case rel => exact ⟨k + 1, i64c (by omega), by omega, by rw [List.replicate_succ', ints_app]; exact HW9, HB9⟩
      · obtain rfl : k = C := by omega
        obtain ⟨As2, cs2, e2, hc2, hn2⟩ := New.of_own_c HBW.out HSZ.out
        injection e2 with e2 _ e3
        subst e2 e3
        rw [Nat.mul_one] at hn2
        have hr0 : Rd wr As1 (stN k ns z 0) (fun j => .int .i64 (stF k ns z 0 j)) := hn2.rd.congr fun j hj => by
          have hj' : j < k := hj
          simp [ints, List.getD, stF, stL, hj']
        obtain ⟨gs, os, rfl, _, _⟩ := hr0 (by show 0 < k; omega)
        have HSZ9 := Lib.hid hr0
        obtain ⟨w9, hw9⟩ : ∃ x, x = wr := ⟨_, rfl⟩
        subst hw9
        have HRD9 := Lib.hid ((rdRows_obj (some ⟨gA, oA, none⟩) N d cr As ns cs z).below HRD8.out HBW.out)
        have HE9 := Lib.hid (HE8.out.below HBW.out)
        have HF9 := Lib.hid (HF8.out.below HBW.out)
        have HW9 := Lib.hid (HW8.out.trans (HBW.out.mono HW8.out.size))
        have HO9 := Lib.hid (own_below HO8.out HBW.out)
        have HS9 := Lib.hid (HS8.out.below HBW.out)
        have u1 := at_below HBW.out hG8 z1'
        have hG9 : G < w9.heap.size := Nat.lt_of_lt_of_le hG8 HBW.out.size
        clear HRD8 HE8 HF8 HW8 HO8 HS8 z0 z1' hG8 HBW HSZ hn2 hr0
        have l2 : ¬ (k : Int) < (k : Int) := by omega
        have HFC : Hid (Rd w9 A7 (k * 6) (fun j => .int .i64 ((hkE k d cr ns z 0).getD j 0))) := Lib.hid (HF9.out.congr fun j hj => by
          show _ = Value.int .i64 ((castL (cr 0) k).getD j 0)
          rw [castL_getD hj, HC0.out])
        have U1 := Lib.hid u1
        obtain ⟨g5, rfl, _⟩ := own_slot HO9.out b0
        clear HF9
        go_upto_region 19 with fail
        go_loopg [12, 14, 15] N (fun gh sz al i wr => ∃ (r : Nat) (gs os cz : Nat) (Aa : Option Addr) (Ka ca : Nat), sz = .slice (some ⟨gs, os, none⟩) (stN k ns z r) cz ∧ al = .slice Aa Ka ca ∧ i = .int .i64 r ∧ gh + r = N ∧ Hid ((hkE k d cr ns z r).length = Ka * 6) ∧ (stN k ns z r ≤ cz ∧ cz ≤ maxLen) ∧ Hid (Rd wr (some ⟨gs, os, none⟩) (stN k ns z r) (fun j => .int .i64 (stF k ns z r j))) ∧ Hid (Rd wr Aa (Ka * 6) (fun j => .int .i64 ((hkE k d cr ns z r).getD j 0))) ∧ Hid (Below w9.heap.size w9 wr))
        case atStart => exact ⟨0, gs, os, cs1, A7, k, c7, rfl, rfl, rfl, by omega, Lib.hid (by simp only [hkE, castL_length]), hc2, HSZ9, HFC, Lib.hid (Below.refl _ _)⟩
        case round =>
          clear HSZ9 HFC u0 u1
          obtain ⟨r, gs, os, cz, Aa, Ka, ca, rfl, rfl, rfl, hgr, HL, hcz, HSZ, HAL, HBW⟩ := hrel
          have hsz := HBW.out.size
          have v1 := at_below HBW.out hG9 U1.out
          by_cases hlt : r < N
          · have l1 : (r : Int) < (N : Int) := by omega
            have l0 : (0 : Int) ≤ (r : Int) := by omega
            obtain ⟨hd, hc, hsa, hkp⟩ := rowB_more (rowsB_all HRB.out r hlt)
            have hst := stN_ok hC (rowsB_upto HRB.out (show r ≤ N by omega))
            have hst1 := stN_ok hC (rowsB_upto HRB.out (show r + 1 ≤ N by omega))
            have hf := RowFit.of hsa
            have h12 : sumR (stF k ns z r) 0 (stN k ns z r) ≤ 12 := by
              rw [stL_sum HRB.out (by omega)]
              exact stL_12 hC.2 HRB.out (by omega)
            have hrw := (rdRows_obj (some ⟨gA, oA, none⟩) N d cr As ns cs z).below HRD9.out HBW.out
            obtain ⟨g', o', e', hg', r0, r1, r2⟩ := RdRows.row hrw hlt
            injection e' with e'
            injection e' with e1 e2
            subst e1 e2
            have HHR := Lib.hid (implHandRow_any (d r) (cr r) (As r) (ns r) (cs r) (z r) (stF k ns z r) gs os (stN k ns z r) cz wr (hrw.2 r hlt) HSZ.out hcz.1 hcz.2 (by omega) hd hc hsa hkp h12)
            have hLa : (aft (stF k ns z r) (z r) (ns r)).length = stN k ns z (r + 1) := aft_length hf.hz (Nat.le_refl _)
            have hkn := hkE_length hC.2 HRB.out (show r + 1 ≤ N by omega)
            have hkn0 := HL.out
            obtain ⟨E1, hE1⟩ : ∃ q, q = rowE (stF k ns z r) (z r) (cr r) (d r) (ns r) (ns r) := ⟨_, rfl⟩
            obtain ⟨L1, hL1⟩ : ∃ q, q = aft (stF k ns z r) (z r) (ns r) := ⟨_, rfl⟩
            have hkE1 : hkE k d cr ns z (r + 1) = hkE k d cr ns z r ++ E1 := by rw [hE1]; rfl
            rw [hkE1, List.length_append] at hkn
            rw [← hE1, ← hL1] at HHR
            rw [← hL1] at hLa
            have HLA := Lib.hid hLa
            have HE1 := Lib.hid hkE1
            have HL1 := Lib.hid hL1
            clear hd hc hsa hkp hf h12 hrw hE1 hL1 hkE1 hLa
            obtain ⟨wo, hwo⟩ : ∃ x, x = wr := ⟨_, rfl⟩
            subst hwo
            go_wp2_with fail
            refine HHR.out.mono ?_
            rintro e w10 ⟨ev, af, nE, rfl, hoE, hoA, hb10⟩
            rw [HLA.out] at hoA
            obtain ⟨Ae, ce, rfl⟩ := own_form hoE
            obtain ⟨g2, c2, rfl, hg2, hg2'⟩ : ∃ g2 c2, af = .slice (some ⟨g2, 0, none⟩) (stN k ns z (r + 1)) c2 ∧ stN k ns z (r + 1) ≤ c2 ∧ c2 ≤ maxLen := by
              rcases hoA.2 with ⟨_, h0⟩ | ⟨g, cap, _, e, _, _, h1, h2, _⟩
              · omega
              · exact ⟨g, cap, e, h1, h2⟩
            have hlE : E1.length = nE * 6 := by have := hoE.1; simpa [ints] using this
            have hRA : Rd w10 (some ⟨g2, 0, none⟩) (stN k ns z (r + 1)) (fun j => .int .i64 (stF k ns z (r + 1) j)) := (hk_rd hoA).congr fun j hj => by
              rw [HL1.out]
              rfl
            obtain ⟨a5, q5, hx5, hr5, _⟩ := HS9.out r hlt
            obtain ⟨g6, e6, hc6⟩ := own_slot (own_below (own_below HO9.out HBW.out) hb10) hlt
            injection e6 with e6
            injection e6 with e6
            subst e6
            rw [hx5] at hc6
            have HNUM := Lib.hid (b10Nums_any (some ⟨g2, 0, none⟩) a5 (stN k ns z (r + 1)) c2 q5 (fun j => stF k ns z (r + 1) j) w10 hRA ((hr5.below HBW.out).below hb10) (by omega))
            have HRA := Lib.hid hRA
            have HOE := Lib.hid hoE
            have HB10 := Lib.hid hb10
            have HAL10 := Lib.hid (HAL.out.below hb10)
            have HLE := Lib.hid hlE
            have hz10 := hb10.size
            clear hoE hoA hb10 hRA hx5 hr5 r0 r1 r2 v1 HHR HSZ HAL
            go_upto_region 24 with (first | (go_at_call 14; refine HNUM.out.mono ?_; rintro e w11 ⟨rfl, hb11⟩; have HB11 := Lib.hid hb11; clear hb11))
            have hz11 := HB11.out.size
            have HAX := Lib.hid ((Below.refl w11.heap.size w11).alloc (Nat.le_refl _) (.cells #[] 77))
            have HMK := Lib.hid (World.ownsRow_made w11 #[] 0 (Nat.le_refl w11.heap.size) (by unfold maxLen; omega) rfl : (w11.alloc (.cells #[] 77)).ownsRow w11.heap.size 77 6 (.slice (some ⟨w11.heap.size, 0, none⟩) 0 0) 0 [])
            have HALX := Lib.hid ((HAL10.out.below HB11.out).below HAX.out)
            have HE11 := Lib.hid (hk_rd6 (own_below HOE.out HB11.out))
            have hq1 : 0 + Ka ≤ maxLen := by unfold maxLen; omega
            have hq2 : (0 + Ka) * 48 ≤ 140737488355328 := by omega
            have hq3 : w11.heap.size ≤ (w11.alloc (.cells #[] 77)).heap.size := by simp
            have hq4 : Ka + nE ≤ maxLen := by unfold maxLen; omega
            have hq5 : (Ka + nE) * 48 ≤ 140737488355328 := by omega
            clear HNUM hc6
            go_wp2_with (first
              | (at_builtin; refine wpList_appR (w11.alloc (.cells #[] 77)) rfl (.tmp 126) (.tmp 127) _ rfl w11.heap.size 77 j0 _ 6 48 Try.underlying28 hj0 jz js jb rfl (by decide) (.slice (some ⟨w11.heap.size, 0, none⟩) 0 0) 0 [] rfl HMK.out Aa Ka ca (fun j => .int .i64 ((hkE k d cr ns z r).getD j 0)) rfl HALX.out (fun j => rfl) hq1 hq2 hq3 ?_; intro v12 w12 hown12 hf12; rw [Nat.zero_add, List.nil_append, ints_get _ _ HL.out] at hown12; obtain ⟨A12, c12, rfl⟩ := own_form hown12; have hb12 := hf12.own HMK.out hq3; have HO12 := Lib.hid hown12; have HB12 := Lib.hid (HAX.out.trans hb12); have HE12 := Lib.hid (HE11.out.below (HAX.out.trans hb12)); have hz12 : w11.heap.size ≤ w12.heap.size := Nat.le_trans hq3 hf12.size; clear hown12 hf12 hb12)
              | (at_builtin; refine wpList_appR w12 rfl (.tmp 128) (.tmp 129) _ rfl w11.heap.size 77 j0 _ 6 48 Try.underlying28 hj0 jz js jb rfl (by decide) (.slice A12 Ka c12) Ka (ints (hkE k d cr ns z r)) rfl HO12.out Ae nE ce (fun j => .int .i64 (E1.getD j 0)) rfl HE12.out (fun j => rfl) hq4 hq5 hz12 ?_; intro v13 w13 hown13 hf13; rw [ints_get _ _ HLE.out, ← ints_app] at hown13; obtain ⟨A13, c13, rfl⟩ := own_form hown13; have HO13 := Lib.hid hown13; have HB13 := Lib.hid (HB12.out.trans (hf13.own HO12.out hz12)); clear hown13 hf13))
            go_roundg (gk - 1)
            case measure => omega
            case rel =>
              have hb13 : Below w10.heap.size w10 w13 := HB11.out.trans (HB13.out.mono hz11)
              have hal : Rd w13 A13 ((Ka + nE) * 6) (fun j => .int .i64 ((hkE k d cr ns z (r + 1)).getD j 0)) := by
                rw [HE1.out]
                exact hk_rd6 HO13.out
              exact ⟨r + 1, g2, 0, c2, A13, Ka + nE, c13, rfl, rfl, i64c (by omega), by omega, Lib.hid (by rw [HE1.out, List.length_append, HL.out, HLE.out]; omega), ⟨hg2, hg2'⟩, Lib.hid (HRA.out.below hb13), Lib.hid hal, Lib.hid ((HBW.out.trans (HB10.out.mono hsz)).trans (hb13.mono (by omega)))⟩
          · have l1 : ¬ (r : Int) < (N : Int) := by omega
            have hrN : r = N := by omega
            subst hrN
            have hst := stN_ok hC HRB.out
            have hsm : ∀ j, j < stN k ns z r → 1 ≤ stF k ns z r j ∧ stF k ns z r j ≤ 5 := fun j hj => by
              obtain ⟨r', rfl⟩ : ∃ r', r = r' + 1 := ⟨r - 1, by omega⟩
              have hf := RowFit.of (rowB_more (rowsB_all HRB.out r' (by omega))).2.2.1
              have hl : (aft (stF k ns z r') (z r') (ns r')).length = stN k ns z (r' + 1) := aft_length hf.hz (Nat.le_refl _)
              have hx : stF k ns z (r' + 1) j = (aft (stF k ns z r') (z r') (ns r')).getD j 0 := rfl
              rw [hx, List.getD_eq_getElem?_getD, List.getElem?_eq_getElem (by omega)]
              exact aft_small hf _ (List.getElem_mem _)
            have HSM := Lib.hid hsm
            have HSB := Lib.hid (sumR_small hsm)
            have hsum : sumR (stF k ns z r) 0 (stN k ns z r) = m := by rw [stL_sum HRB.out (Nat.le_refl _), HM.out]
            have HSUM := Lib.hid hsum
            obtain ⟨f, hff⟩ : ∃ f, f = stF k ns z r := ⟨_, rfl⟩
            obtain ⟨n3, hn3⟩ : ∃ q, q = stN k ns z r := ⟨_, rfl⟩
            rw [← hff] at HSM HSB HSUM HSZ
            rw [← hn3] at HSM HSB HSUM HSZ hst hcz ⊢
            obtain ⟨g', o', e', hg', hrs⟩ := HSZ.out (by omega)
            injection e' with e'
            injection e' with e1 e2
            subst e1 e2
            have HRS := Lib.hid hrs
            have HSE := specSameEvents_any Aa A3 ca c3 Ka K (hkE k d cr ns z r) (hkE k d cr ns z r) wr HL.out HKL.out HAL.out (HE9.out.below HBW.out) (by have := HKL.out; have := HL.out; omega) (by omega)
            rw [decide_eq_true rfl] at HSE
            have HSE := Lib.hid HSE
            have HEND := Lib.hid (HW9.out.trans (HBW.out.mono HW9.out.size))
            clear hsm hsum hff hn3 hrs
            go_upto_region 28 with fail
            go_loop [19, 20] (fun s i => ∃ j : Nat, j ≤ n3 ∧ i = .int .i64 j ∧ s = .int .i64 (sumR f 0 j)) (fun _ i => n3 - (intOf i).toNat)
            case atStart => exact ⟨0, Nat.zero_le _, rfl, rfl⟩
            case round =>
              obtain ⟨j, hj, rfl, rfl⟩ := hrel
              by_cases hlj : j < n3
              · have m1 : (j : Int) < (n3 : Int) := by omega
                have m0 : (0 : Int) ≤ (j : Int) := by omega
                have hx : wr.cell? ⟨gs, os + j, none⟩ = some (.int .i64 (f j)) := HRS.out j hlj
                obtain ⟨hx1, hx2⟩ := HSM.out j hlj
                obtain ⟨hs1, hs2⟩ := HSB.out j (by omega)
                have hnext : sumR f 0 j + f j = sumR f 0 (j + 1) := by simp [sumR]
                have HNX := Lib.hid hnext
                obtain ⟨S, hS⟩ : ∃ S, S = sumR f 0 j := ⟨_, rfl⟩
                obtain ⟨x, hxx⟩ : ∃ x, x = f j := ⟨_, rfl⟩
                rw [← hS, ← hxx] at HNX
                rw [← hxx] at hx hx1 hx2
                rw [← hS] at hs1 hs2 ⊢
                have hs3 : S ≤ 40 := by omega
                clear hnext hS hxx hs2
                go_wp2_with fail
                go_round
                case rel => exact ⟨j + 1, by omega, by go_num, by rw [← HNX.out]⟩
                case measure => simp [intOf] <;> omega
              · obtain rfl : n3 = j := by omega
                have hsm := HSUM.out
                rw [hsm]
                clear hsm
                go_wp2_with (first | (go_at_call 15; refine HSE.out.mono ?_; rintro e w14 ⟨rfl, q14, rfl⟩))
                go_ret
                exact ⟨rfl, Below.drewN' HEND.out q14⟩
end Go.Proofs.Ytacppheedleamaa
