/- Walks: whether a row is valid, and whether it keeps the limit, by the reference. No condition but the bounds. (Printed by wip/thingen.py.) -/
import Derived.Test.YtacppheedleamaaChartF
namespace Go.Proofs.Ytacppheedleamaa
open Go.RowKit
set_option maxRecDepth 20000

/-- The row at ⟨g, o⟩. -/
structure RowAt (w : World) (g o : Nat) (d c : Int) (A : Option Addr) (n q : Nat) : Prop where
  c0 : w.cell? ⟨g, o, none⟩ = some (.int .i64 d)
  c1 : w.cell? ⟨g, o + 1, none⟩ = some (.int .i64 c)
  c2 : w.cell? ⟨g, o + 2, none⟩ = some (.slice A n q)
theorem RowAt.below {w w' : World} {g o : Nat} {d c : Int} {A : Option Addr} {n q : Nat} (h : RowAt w g o d c A n q) (hb : Below w.heap.size w w') : RowAt w' g o d c A n q := by
  have hg : g < w.heap.size := World.block_lt_of_cell? w _ h.c0
  exact ⟨at_below hb hg h.c0, at_below hb hg h.c1, at_below hb hg h.c2⟩
set_option maxHeartbeats 1000000 in
theorem l15Row_any (g o : Nat) (d c : Int) (A : Option Addr) (n q : Nat) (z : Nat → Int) (w : World) (H : Hid (RowAt w g o d c A n q)) (hz : Rd w A n (fun j => .int .i64 (z j))) (hn : n ≤ 1048576) :
    Calls Try.prog 56 #[.pointer (some ⟨g, o, none⟩)] w fun e w' => e = .returned (.bool (dirB d && inB c 1 4 && stitchesB z n)) ∧ w = w' := by
  have HC := Lib.hid (l14Ok_any A n q z w hz hn)
  have c0 := H.out.c0
  have c1 := H.out.c1
  have c2 := H.out.c2
  clear hz
  by_cases hd : d = 1
  · subst hd
    go_enter Try.func56, Try.ntmps56
    go_wp2_with (first | (go_at_call 55; refine (l00In_any _ _ _ _).mono ?_; rintro e w' ⟨rfl, rfl⟩) | (go_at_call 85; refine HC.out.mono ?_; rintro e w' ⟨rfl, rfl⟩))
    all_goals go_ret
    all_goals exact ⟨ret_bool (by simp_all [dirB]), rfl⟩
  · by_cases hd2 : d = -1
    · subst hd2
      go_enter Try.func56, Try.ntmps56
      go_wp2_with (first | (go_at_call 55; refine (l00In_any _ _ _ _).mono ?_; rintro e w' ⟨rfl, rfl⟩) | (go_at_call 85; refine HC.out.mono ?_; rintro e w' ⟨rfl, rfl⟩))
      all_goals go_ret
      all_goals exact ⟨ret_bool (by simp_all [dirB]), rfl⟩
    · have hb1 : (d == 1) = false := by simpa using hd
      have hb2 : (d == -1) = false := by simpa using hd2
      go_enter Try.func56, Try.ntmps56
      go_wp2_with (first | (go_at_call 55; refine (l00In_any _ _ _ _).mono ?_; rintro e w' ⟨rfl, rfl⟩) | (go_at_call 85; refine HC.out.mono ?_; rintro e w' ⟨rfl, rfl⟩))
      all_goals go_ret
      all_goals exact ⟨ret_bool (by simp [dirB, hd, hd2]), rfl⟩

/-- The stacks that stitch i made lie where they should. -/
theorem aft_seg {s z : Nat → Int} {m : Nat} (hz : ∀ j, j < m → 1 ≤ z j ∧ z j ≤ 11) {i : Nat} (hi : i < m) (j : Nat) (hj : j < mkN (z i)) : (aft s z m).getD (segM z i + j) 0 = (madeL (z i) (s (segT z i))).getD j 0 := by
  have hall : ∀ k, i < k → k ≤ m → (aft s z k).getD (segM z i + j) 0 = (madeL (z i) (s (segT z i))).getD j 0 := by
    intro k
    induction k with
    | zero => intro h; omega
    | succ k ih =>
      intro h1 h2
      have hlk := aft_length (s := s) hz (show k ≤ m by omega)
      have hml := madeL_length (s (segT z i)) (hz i hi)
      simp only [aft]
      by_cases hik : i = k
      · subst hik
        simp only [List.getD]
        rw [List.getElem?_append_right (by omega), hlk, show segM z i + j - segM z i = j by omega]
      · have hm := segM_mono z (show i + 1 ≤ k by omega)
        simp only [segM] at hm
        rw [← ih (by omega) (by omega)]
        simp only [List.getD]
        rw [List.getElem?_append_left (by omega)]
  exact hall m hi (Nat.le_refl m)
theorem aft_sum {s z : Nat → Int} {m : Nat} (hz : ∀ j, j < m → 1 ≤ z j ∧ z j ≤ 11) {i : Nat} (hi : i < m) : sumR (fun j => (aft s z m).getD j 0) (segM z i) (mkN (z i)) = madeS (z i) (s (segT z i)) :=
  sumR_congr fun j hj => by rw [Nat.zero_add]; exact aft_seg hz hi j hj


set_option maxHeartbeats 8000000 in
theorem l15ThinR_any (cc : Int) (gr or_ : Nat) (A2 : Option Addr) (m c2 : Nat) (A : Option Addr) (n c : Nat) (A3 : Option Addr) (c3 : Nat) (s z F : Nat → Int) (w : World) (HFF : Hid (F = fun j => (aft s z m).getD j 0)) (H : Hid (RowAt w gr or_ 1 cc A2 m c2)) (ha : Rd w A n (fun j => .int .i64 (s j))) (hb : Rd w A2 m (fun j => .int .i64 (z j))) (h3 : Rd w A3 (segM z m) (fun j => .int .i64 (F j))) (hs : stacksB s n = true) (hz : stitchesB z m = true) (ht : segT z m = n) :
    Calls Try.prog 58 #[.slice A n c, .slice A3 (segM z m) c3, .pointer (some ⟨gr, or_, none⟩)] w fun e w' => e = .returned (.bool (keepB s n z m 1 m)) ∧ Below w.heap.size w w' := by
  have HA := Lib.hid ha
  have HZ := Lib.hid hb
  have H3 := Lib.hid h3
  obtain ⟨hm16, hzk⟩ := stitchesB_of hz
  obtain ⟨hn8, hsk⟩ := stacksB_of hs
  have HZK := Lib.hid hzk
  have HSK := Lib.hid hsk
  have HT := Lib.hid ht
  have hM16 := segM_le z m
  have hgr : gr < w.heap.size := World.block_lt_of_cell? w _ H.out.c0
  have r0 := H.out.c0
  have r2 := H.out.c2
  clear ha hb h3 hzk hsk hs hz ht
  go_enter Try.func58, Try.ntmps58
  go_wp2_with fail
  go_loopg [7, 8] n (fun q sm i wr => ∃ k : Nat, k ≤ n ∧ q + k = n ∧ i = .int .i64 k ∧ sm = .int .i64 (sumR s 0 k) ∧ w = wr)
  case atStart => exact ⟨0, Nat.zero_le _, rfl, rfl, rfl, rfl⟩
  case round =>
    obtain ⟨k, hk, hq, rfl, rfl, rfl⟩ := hrel
    have hsb := seg_bounds HSK.out (a := 0) (c := k) (by omega)
    by_cases hlt : k < n
    · obtain ⟨g, o, rfl, hg, hr⟩ := HA.out (by omega)
      have hc := hr k hlt
      have hsk := HSK.out k hlt
      have HS := Lib.hid (show sumR s 0 (k + 1) = sumR s 0 k + s k by simp [sumR])
      clear hr
      go_wp2
      go_roundg (n - (k + 1))
      case measure => omega
      case rel => exact ⟨k + 1, by omega, by omega, by go_num, i64c HS.out.symm, rfl⟩
    · obtain rfl : n = k := by omega
      have hT := HT.out
      go_wp2_with fail
      go_loopg [7, 10, 11, 12] m (fun q sm fr to_ iv wi => ∃ i : Nat, i ≤ m ∧ q + i = m ∧ iv = .int .i64 i ∧ sm = .int .i64 (keepS s n z m 1 i) ∧ fr = .int .i64 (segT z i : Nat) ∧ to_ = .int .i64 (segM z i : Nat) ∧ Hid (keepB s n z m 1 i = true) ∧ Below w.heap.size w wi)
      case atStart => exact ⟨0, Nat.zero_le _, rfl, rfl, rfl, rfl, rfl, Lib.hid rfl, Below.refl _ _⟩
      case round =>
        obtain ⟨i, hi, hqi, rfl, rfl, rfl, rfl, HK, hbl⟩ := hrel
        have HB := Lib.hid hbl
        have HR := Lib.hid (H.out.below hbl)
        clear hbl r0 r2
        have r0 := HR.out.c0
        have r2 := HR.out.c2
        have hkb := keepS_bounds 1 HSK.out HT.out hi
        by_cases hlt : i < m
        · obtain ⟨gz, oz, rfl, hgz, hrz⟩ := HZ.out (by omega)
          have hc0 := at_below HB.out hgz (hrz i hlt)
          have hcz := at_below HB.out hgz (hrz i (by omega))
          have hzi := HZK.out i (by omega)
          have HCS := Lib.hid (show keepS s n z m 1 (i + 1) = keepS s n z m 1 i + (madeS (z i) (s (segT z i)) - sumR s (segT z i) (tkN (z i))) from rfl)
          have HKN := Lib.hid (fun h => keepB_false (s := s) (n := n) (z := z) (m := m) (d := 1) hlt h)
          have hAS : sumR F (segM z i) (mkN (z i)) = madeS (z i) (s (segT z i)) := by rw [HFF.out]; exact aft_sum (s := s) HZK.out (show i < m by omega)
          have hMB := madeS_bounds (k := z i) (t := s (segT z i)) (fun h0 => HSK.out _ (by
            have h1 := segT_mono z (show i + 1 ≤ m by omega)
            simp only [segT] at h1
            omega))
          have hT1 : segT z i + tkN (z i) ≤ n := by
            have h1 := segT_mono z (show i + 1 ≤ m by omega)
            simp only [segT] at h1
            omega
          have hM1 : segM z i + mkN (z i) ≤ segM z m := by
            have h1 := segM_mono z (show i + 1 ≤ m by omega)
            simp only [segM] at h1
            omega
          have hTn : segT z (i + 1) = segT z i + tkN (z i) := rfl
          have hMn : segM z (i + 1) = segM z i + mkN (z i) := rfl
          have hAV : ∀ j, j < mkN (z i) → -1000 ≤ F (segM z i + j) ∧ F (segM z i + j) ≤ 1000 := fun j hj => by
            rw [HFF.out]
            show -1000 ≤ (aft s z m).getD (segM z i + j) 0 ∧ (aft s z m).getD (segM z i + j) 0 ≤ 1000
            rw [aft_seg HZK.out (show i < m by omega) j hj]
            exact madeL_get hzi (fun h0 => HSK.out _ (by omega)) j
          have HAS := Lib.hid hAS
          have HMB := Lib.hid hMB
          have HTN := Lib.hid hTn
          have HMN := Lib.hid hMn
          have HAV := Lib.hid hAV
          clear hAS hMB hAV
          obtain ⟨y, hy⟩ : ∃ y, y = z i := ⟨_, rfl⟩
          obtain ⟨TX, hTX⟩ : ∃ t, t = segT z i := ⟨_, rfl⟩
          obtain ⟨MX, hMX⟩ : ∃ t, t = segM z i := ⟨_, rfl⟩
          obtain ⟨S0, hS0⟩ : ∃ t, t = keepS s n z m 1 i := ⟨_, rfl⟩
          simp only [← hy, ← hTX, ← hMX, ← hS0] at hcz hzi HCS hT1 hM1 hTn hMn HAS HMB HTN HMN HAV hkb
          rw [← hS0]
          simp only [← hy] at hc0
          rw [← hTX, ← hMX]
          have HTX := Lib.hid hTX
          have HMX := Lib.hid hMX
          have htk := tkN_le y
          have hmk := mkN_le y
          have hST := segT_le z m
          have hFin : S0 - sumR s TX (tkN y) + sumR F MX (mkN y) = keepS s n z m 1 (i + 1) := by rw [HCS.out, HAS.out]; omega
          have HFIN := Lib.hid hFin
          clear hy hTX hMX hrz hS0 hFin hTn hMn
          go_wp2_with fail
          go_loopg [7, 14] (tkN y) (fun q sm kv wi => ∃ j : Nat, j ≤ tkN y ∧ q + j = tkN y ∧ kv = .int .i64 j ∧ sm = .int .i64 (S0 - sumR s TX j) ∧ Below w.heap.size w wi)
          case atStart => exact ⟨0, Nat.zero_le _, rfl, rfl, i64c (by simp [sumR]), HB.out⟩
          case round =>
            obtain ⟨j, hj, hqj, rfl, rfl, hb3⟩ := hrel
            have HB3 := Lib.hid hb3
            clear hb3
            have hsg := seg_bounds HSK.out (a := TX) (c := j) (by omega)
            by_cases hltj : j < tkN y
            · obtain ⟨g, o, rfl, hg, hr⟩ := HA.out (by omega)
              have HC := Lib.hid (hr (TX + j) (by omega))
              have hsk := HSK.out (TX + j) (by omega)
              have HS := Lib.hid (show sumR s TX (j + 1) = sumR s TX j + s (TX + j) from rfl)
              clear hr
              go_wp2_with fail
              with_reducible refine (specColumnsTaken_any y _ hzi).mono ?_
              rintro e w2 ⟨rfl, hb2⟩
              have HB4 := Lib.hid (HB3.out.trans (hb2.mono HB3.out.size))
              have hcs := at_below HB4.out hg HC.out
              clear hb2
              go_wp2
              go_roundg (tkN y - (j + 1))
              case measure => omega
              case rel => exact ⟨j + 1, by omega, by omega, by go_num, i64c (by rw [HS.out]; omega), HB4.out⟩
            · obtain rfl : j = tkN y := by omega
              go_wp2_with fail
              with_reducible refine (specColumnsTaken_any y _ hzi).mono ?_
              rintro e w2 ⟨rfl, hb2⟩
              have HB4 := Lib.hid (HB3.out.trans (hb2.mono HB3.out.size))
              clear hb2
              go_wp2_with fail
              go_loopg [7, 15] (mkN y) (fun q sm kv wi => ∃ j : Nat, j ≤ mkN y ∧ q + j = mkN y ∧ kv = .int .i64 j ∧ sm = .int .i64 (S0 - sumR s TX (tkN y) + sumR F MX j) ∧ Below w.heap.size w wi)
              case atStart => exact ⟨0, Nat.zero_le _, rfl, rfl, i64c (by simp [sumR]), HB4.out⟩
              case round =>
                obtain ⟨l, hl, hql, rfl, rfl, hb5⟩ := hrel
                have HB5 := Lib.hid hb5
                clear hb5
                have hsa := sumR_bounds (s := F) (a := MX) (n := l) (fun j hj => HAV.out j (by omega))
                by_cases hltl : l < mkN y
                · obtain ⟨g, o, rfl, hg, hr⟩ := H3.out (by omega)
                  have HC := Lib.hid (hr (MX + l) (by omega))
                  have hav := HAV.out l hltl
                  have HS := Lib.hid (show sumR F MX (l + 1) = sumR F MX l + F (MX + l) from rfl)
                  clear hr
                  go_wp2_with fail
                  with_reducible refine (specColumnsMade_any y _ hzi).mono ?_
                  rintro e w3 ⟨rfl, hb6⟩
                  have HB6 := Lib.hid (HB5.out.trans (hb6.mono HB5.out.size))
                  have hcs := at_below HB6.out hg HC.out
                  clear hb6
                  go_wp2
                  go_roundg (mkN y - (l + 1))
                  case measure => omega
                  case rel => exact ⟨l + 1, by omega, by omega, by go_num, i64c (by rw [HS.out]; omega), HB6.out⟩
                · obtain rfl : l = mkN y := by omega
                  rw [HFIN.out]
                  go_wp2_with fail
                  with_reducible refine (specColumnsMade_any y _ hzi).mono ?_
                  rintro e w3 ⟨rfl, hb6⟩
                  have HB6 := Lib.hid (HB5.out.trans (hb6.mono HB5.out.size))
                  clear hb6 r0 r2 hc0 hcz
                  have r0 := (H.out.below HB6.out).c0
                  by_cases h12 : 12 < keepS s n z m 1 (i + 1)
                  · go_wp2
                    go_ret
                    exact ⟨ret_bool (HKN.out (by omega)).symm, HB6.out⟩
                  · have HK2 := Lib.hid (show keepB s n z m 1 (i + 1) = true by simp only [keepB]; rw [HK.out]; simp; omega)
                    go_wp2_with fail
                    with_reducible refine (specColumnsTaken_any y _ hzi).mono ?_
                    rintro e w7 ⟨rfl, hb7⟩
                    have HB7 := Lib.hid (HB6.out.trans (hb7.mono HB6.out.size))
                    clear hb7 r0
                    go_wp2_with fail
                    with_reducible refine (specColumnsMade_any y _ hzi).mono ?_
                    rintro e w8 ⟨rfl, hb8⟩
                    have HB8 := Lib.hid (HB7.out.trans (hb8.mono HB7.out.size))
                    clear hb8
                    go_wp2
                    go_roundg (m - (i + 1))
                    case measure => omega
                    case rel => exact ⟨i + 1, by omega, by omega, by go_num, rfl, i64c (by rw [HTN.out]; omega), i64c (by rw [HMN.out]; omega), HK2, HB8.out⟩
        · obtain rfl : i = m := by omega
          go_wp2
          go_ret
          exact ⟨ret_bool HK.out.symm, HB.out⟩


set_option maxHeartbeats 8000000 in
theorem l15ThinL_any (cc : Int) (gr or_ : Nat) (A2 : Option Addr) (m c2 : Nat) (A : Option Addr) (n c : Nat) (A3 : Option Addr) (c3 : Nat) (s z F : Nat → Int) (w : World) (HFF : Hid (F = fun j => (aft s z m).getD j 0)) (H : Hid (RowAt w gr or_ (-1) cc A2 m c2)) (ha : Rd w A n (fun j => .int .i64 (s j))) (hb : Rd w A2 m (fun j => .int .i64 (z j))) (h3 : Rd w A3 (segM z m) (fun j => .int .i64 (F j))) (hs : stacksB s n = true) (hz : stitchesB z m = true) (ht : segT z m = n) :
    Calls Try.prog 58 #[.slice A n c, .slice A3 (segM z m) c3, .pointer (some ⟨gr, or_, none⟩)] w fun e w' => e = .returned (.bool (keepB s n z m (-1) m)) ∧ Below w.heap.size w w' := by
  have HA := Lib.hid ha
  have HZ := Lib.hid hb
  have H3 := Lib.hid h3
  obtain ⟨hm16, hzk⟩ := stitchesB_of hz
  obtain ⟨hn8, hsk⟩ := stacksB_of hs
  have HZK := Lib.hid hzk
  have HSK := Lib.hid hsk
  have HT := Lib.hid ht
  have hM16 := segM_le z m
  have hgr : gr < w.heap.size := World.block_lt_of_cell? w _ H.out.c0
  have r0 := H.out.c0
  have r2 := H.out.c2
  clear ha hb h3 hzk hsk hs hz ht
  go_enter Try.func58, Try.ntmps58
  go_wp2_with fail
  go_loopg [7, 8] n (fun q sm i wr => ∃ k : Nat, k ≤ n ∧ q + k = n ∧ i = .int .i64 k ∧ sm = .int .i64 (sumR s 0 k) ∧ w = wr)
  case atStart => exact ⟨0, Nat.zero_le _, rfl, rfl, rfl, rfl⟩
  case round =>
    obtain ⟨k, hk, hq, rfl, rfl, rfl⟩ := hrel
    have hsb := seg_bounds HSK.out (a := 0) (c := k) (by omega)
    by_cases hlt : k < n
    · obtain ⟨g, o, rfl, hg, hr⟩ := HA.out (by omega)
      have hc := hr k hlt
      have hsk := HSK.out k hlt
      have HS := Lib.hid (show sumR s 0 (k + 1) = sumR s 0 k + s k by simp [sumR])
      clear hr
      go_wp2
      go_roundg (n - (k + 1))
      case measure => omega
      case rel => exact ⟨k + 1, by omega, by omega, by go_num, i64c HS.out.symm, rfl⟩
    · obtain rfl : n = k := by omega
      have hT := HT.out
      go_wp2_with fail
      go_loopg [7, 10, 11, 12] m (fun q sm fr to_ iv wi => ∃ i : Nat, i ≤ m ∧ q + i = m ∧ iv = .int .i64 i ∧ sm = .int .i64 (keepS s n z m (-1) i) ∧ fr = .int .i64 (segT z (m - i) : Nat) ∧ to_ = .int .i64 (segM z (m - i) : Nat) ∧ Hid (keepB s n z m (-1) i = true) ∧ Below w.heap.size w wi)
      case atStart => exact ⟨0, Nat.zero_le _, rfl, rfl, rfl, i64c (by rw [Nat.sub_zero, HT.out]), i64c (by rw [Nat.sub_zero]), Lib.hid rfl, Below.refl _ _⟩
      case round =>
        obtain ⟨i, hi, hqi, rfl, rfl, rfl, rfl, HK, hbl⟩ := hrel
        have HB := Lib.hid hbl
        have HR := Lib.hid (H.out.below hbl)
        clear hbl r0 r2
        have r0 := HR.out.c0
        have r2 := HR.out.c2
        have hkb := keepS_bounds (-1) HSK.out HT.out hi
        by_cases hlt : i < m
        · obtain ⟨gz, oz, rfl, hgz, hrz⟩ := HZ.out (by omega)
          have hc0 := at_below HB.out hgz (hrz i hlt)
          have hcz := at_below HB.out hgz (hrz (m - 1 - i) (by omega))
          have hzi := HZK.out (m - 1 - i) (by omega)
          have HCS := Lib.hid (show keepS s n z m (-1) (i + 1) = keepS s n z m (-1) i + (madeS (z (m - 1 - i)) (s (segT z (m - 1 - i))) - sumR s (segT z (m - 1 - i)) (tkN (z (m - 1 - i)))) from rfl)
          have HKN := Lib.hid (fun h => keepB_false (s := s) (n := n) (z := z) (m := m) (d := (-1)) hlt h)
          have hAS : sumR F (segM z (m - 1 - i)) (mkN (z (m - 1 - i))) = madeS (z (m - 1 - i)) (s (segT z (m - 1 - i))) := by rw [HFF.out]; exact aft_sum (s := s) HZK.out (show (m - 1 - i) < m by omega)
          have hMB := madeS_bounds (k := z (m - 1 - i)) (t := s (segT z (m - 1 - i))) (fun h0 => HSK.out _ (by
            have h1 := segT_mono z (show (m - 1 - i) + 1 ≤ m by omega)
            simp only [segT] at h1
            omega))
          have hT1 : segT z (m - 1 - i) + tkN (z (m - 1 - i)) ≤ n := by
            have h1 := segT_mono z (show (m - 1 - i) + 1 ≤ m by omega)
            simp only [segT] at h1
            omega
          have hM1 : segM z (m - 1 - i) + mkN (z (m - 1 - i)) ≤ segM z m := by
            have h1 := segM_mono z (show (m - 1 - i) + 1 ≤ m by omega)
            simp only [segM] at h1
            omega
          have hTn : segT z (m - i) = segT z (m - 1 - i) + tkN (z (m - 1 - i)) := (by rw [show m - i = m - 1 - i + 1 by omega]; rfl)
          have hMn : segM z (m - i) = segM z (m - 1 - i) + mkN (z (m - 1 - i)) := (by rw [show m - i = m - 1 - i + 1 by omega]; rfl)
          have hAV : ∀ j, j < mkN (z (m - 1 - i)) → -1000 ≤ F (segM z (m - 1 - i) + j) ∧ F (segM z (m - 1 - i) + j) ≤ 1000 := fun j hj => by
            rw [HFF.out]
            show -1000 ≤ (aft s z m).getD (segM z (m - 1 - i) + j) 0 ∧ (aft s z m).getD (segM z (m - 1 - i) + j) 0 ≤ 1000
            rw [aft_seg HZK.out (show (m - 1 - i) < m by omega) j hj]
            exact madeL_get hzi (fun h0 => HSK.out _ (by omega)) j
          have HAS := Lib.hid hAS
          have HMB := Lib.hid hMB
          have HTN := Lib.hid hTn
          have HMN := Lib.hid hMn
          have HAV := Lib.hid hAV
          clear hAS hMB hAV
          obtain ⟨y, hy⟩ : ∃ y, y = z (m - 1 - i) := ⟨_, rfl⟩
          obtain ⟨TX, hTX⟩ : ∃ t, t = segT z (m - 1 - i) := ⟨_, rfl⟩
          obtain ⟨MX, hMX⟩ : ∃ t, t = segM z (m - 1 - i) := ⟨_, rfl⟩
          obtain ⟨S0, hS0⟩ : ∃ t, t = keepS s n z m (-1) i := ⟨_, rfl⟩
          simp only [← hy, ← hTX, ← hMX, ← hS0] at hcz hzi HCS hT1 hM1 hTn hMn HAS HMB HTN HMN HAV hkb
          rw [← hS0]
          rw [hTn, hMn]
          have HTX := Lib.hid hTX
          have HMX := Lib.hid hMX
          have htk := tkN_le y
          have hmk := mkN_le y
          have hST := segT_le z m
          have hFin : S0 - sumR s TX (tkN y) + sumR F MX (mkN y) = keepS s n z m (-1) (i + 1) := by rw [HCS.out, HAS.out]; omega
          have HFIN := Lib.hid hFin
          clear hy hTX hMX hrz hS0 hFin hTn hMn
          go_wp2_with fail
          with_reducible refine (specColumnsTaken_any y _ hzi).mono ?_
          rintro e w1 ⟨rfl, hb1⟩
          have HB1 := Lib.hid (HB.out.trans (hb1.mono HB.out.size))
          clear hb1
          go_wp2_with fail
          with_reducible refine (specColumnsMade_any y _ hzi).mono ?_
          rintro e w2 ⟨rfl, hb2⟩
          replace HB := Lib.hid (HB1.out.trans (hb2.mono HB1.out.size))
          clear hb2
          go_wp2_with fail
          go_loopg [7, 14] (tkN y) (fun q sm kv wi => ∃ j : Nat, j ≤ tkN y ∧ q + j = tkN y ∧ kv = .int .i64 j ∧ sm = .int .i64 (S0 - sumR s TX j) ∧ Below w.heap.size w wi)
          case atStart => exact ⟨0, Nat.zero_le _, rfl, rfl, i64c (by simp [sumR]), HB.out⟩
          case round =>
            obtain ⟨j, hj, hqj, rfl, rfl, hb3⟩ := hrel
            have HB3 := Lib.hid hb3
            clear hb3
            have hsg := seg_bounds HSK.out (a := TX) (c := j) (by omega)
            by_cases hltj : j < tkN y
            · obtain ⟨g, o, rfl, hg, hr⟩ := HA.out (by omega)
              have HC := Lib.hid (hr (TX + j) (by omega))
              have hsk := HSK.out (TX + j) (by omega)
              have HS := Lib.hid (show sumR s TX (j + 1) = sumR s TX j + s (TX + j) from rfl)
              clear hr
              go_wp2_with fail
              with_reducible refine (specColumnsTaken_any y _ hzi).mono ?_
              rintro e w2 ⟨rfl, hb2⟩
              have HB4 := Lib.hid (HB3.out.trans (hb2.mono HB3.out.size))
              have hcs := at_below HB4.out hg HC.out
              clear hb2
              go_wp2
              go_roundg (tkN y - (j + 1))
              case measure => omega
              case rel => exact ⟨j + 1, by omega, by omega, by go_num, i64c (by rw [HS.out]; omega), HB4.out⟩
            · obtain rfl : j = tkN y := by omega
              go_wp2_with fail
              with_reducible refine (specColumnsTaken_any y _ hzi).mono ?_
              rintro e w2 ⟨rfl, hb2⟩
              have HB4 := Lib.hid (HB3.out.trans (hb2.mono HB3.out.size))
              clear hb2
              go_wp2_with fail
              go_loopg [7, 15] (mkN y) (fun q sm kv wi => ∃ j : Nat, j ≤ mkN y ∧ q + j = mkN y ∧ kv = .int .i64 j ∧ sm = .int .i64 (S0 - sumR s TX (tkN y) + sumR F MX j) ∧ Below w.heap.size w wi)
              case atStart => exact ⟨0, Nat.zero_le _, rfl, rfl, i64c (by simp [sumR]), HB4.out⟩
              case round =>
                obtain ⟨l, hl, hql, rfl, rfl, hb5⟩ := hrel
                have HB5 := Lib.hid hb5
                clear hb5
                have hsa := sumR_bounds (s := F) (a := MX) (n := l) (fun j hj => HAV.out j (by omega))
                by_cases hltl : l < mkN y
                · obtain ⟨g, o, rfl, hg, hr⟩ := H3.out (by omega)
                  have HC := Lib.hid (hr (MX + l) (by omega))
                  have hav := HAV.out l hltl
                  have HS := Lib.hid (show sumR F MX (l + 1) = sumR F MX l + F (MX + l) from rfl)
                  clear hr
                  go_wp2_with fail
                  with_reducible refine (specColumnsMade_any y _ hzi).mono ?_
                  rintro e w3 ⟨rfl, hb6⟩
                  have HB6 := Lib.hid (HB5.out.trans (hb6.mono HB5.out.size))
                  have hcs := at_below HB6.out hg HC.out
                  clear hb6
                  go_wp2
                  go_roundg (mkN y - (l + 1))
                  case measure => omega
                  case rel => exact ⟨l + 1, by omega, by omega, by go_num, i64c (by rw [HS.out]; omega), HB6.out⟩
                · obtain rfl : l = mkN y := by omega
                  rw [HFIN.out]
                  go_wp2_with fail
                  with_reducible refine (specColumnsMade_any y _ hzi).mono ?_
                  rintro e w3 ⟨rfl, hb6⟩
                  have HB6 := Lib.hid (HB5.out.trans (hb6.mono HB5.out.size))
                  clear hb6 r0 r2 hc0 hcz
                  have r0 := (H.out.below HB6.out).c0
                  by_cases h12 : 12 < keepS s n z m (-1) (i + 1)
                  · go_wp2
                    go_ret
                    exact ⟨ret_bool (HKN.out (by omega)).symm, HB6.out⟩
                  · have HK2 := Lib.hid (show keepB s n z m (-1) (i + 1) = true by simp only [keepB]; rw [HK.out]; simp; omega)
                    go_wp2
                    go_roundg (m - (i + 1))
                    case measure => omega
                    case rel => exact ⟨i + 1, by omega, by omega, by go_num, rfl, i64c (by rw [HTX.out, show m - (i + 1) = m - 1 - i by omega]), i64c (by rw [HMX.out, show m - (i + 1) = m - 1 - i by omega]), HK2, HB6.out⟩
        · obtain rfl : i = m := by omega
          go_wp2
          go_ret
          exact ⟨ret_bool HK.out.symm, HB.out⟩

end Go.Proofs.Ytacppheedleamaa
