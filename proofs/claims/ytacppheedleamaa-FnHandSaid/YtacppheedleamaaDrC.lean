/- Walks: stitches drawn. No condition but the bounds. -/
import Derived.Test.YtacppheedleamaaDrAB
import Derived.Test.YtacppheedleamaaChartH
import Derived.Test.YtacppheedleamaaConv
import Derived.Deep.CutRange
namespace Go.Proofs.Ytacppheedleamaa
open Go.RowKit
set_option maxRecDepth 20000

abbrev KL : List Int := [1, 1, 1, 2, 2, 3, 4, 5, 6, 7, 8, 9, 10, 11]
theorem kl_kind (u : Nat) : (1 ≤ KL.getD (u % KL.length) 0 ∧ KL.getD (u % KL.length) 0 ≤ 11) ∧ (KL.getD (u % KL.length) 0 = 3 → u % 2 = 1) := by
  have h : ∀ t, t < 14 → (1 ≤ KL.getD t 0 ∧ KL.getD t 0 ≤ 11) ∧ (KL.getD t 0 = 3 → t % 2 = 1) := by decide
  obtain ⟨h1, h2⟩ := h (u % 14) (Nat.mod_lt _ (by omega))
  exact ⟨h1, fun h3 => by have := h2 h3; omega⟩
theorem infoD : (Try.prog.info? 2).map (fun i => (i.zero, i.size, i.bytes)) = some (some (.int .i64 0), 1, 8) := by kernel_rfl
/-- A list of numbers that a draw made. -/
def DrL (w : World) (g : Nat) (A : Option Addr) (n c : Nat) (b : Nat → Int) (i K M : Nat) (lo hi : Int) (e : Ending) (w' : World) : Prop :=
  ∃ v L, e = .returned v ∧ w'.ownsRow w.heap.size 2 1 v L.length (ints L) ∧ L.length ≤ M ∧ (∀ x ∈ L, lo ≤ x ∧ x ≤ hi) ∧ Drawn w w' g A n c b i K
set_option maxHeartbeats 8000000 in
theorem l14Draw_any (cols : Nat) (hcl : cols ≤ 8) (g : Nat) (A : Option Addr) (n c : Nat) (b : Nat → Int) (i x : Nat) (w : World) (h : Src w g A n c b i x) (hi : i < 2305843009213693952) :
    Calls Try.prog 83 #[.pointer (some ⟨g, 0, none⟩), .int .i64 cols] w (DrL w g A n c b i 70368744177664 16 1 11) := by
  obtain ⟨i0, hi0, iz, is, ib⟩ := info_parts infoD
  have hgw := h.blk.lt
  have hn := h.n
  obtain ⟨m0, hm0, hmt0⟩ := Lcg.Mt_any n i x hn
  have HMT := Lib.hid hmt0
  have H := Lib.hid h
  clear h hmt0
  go_enter Try.func83, Try.ntmps83
  go_wp2_with fail
  have hG0 : (cols + 16) * 1099512676353 + m0 ≤ 27487816908824 := by omega
  obtain ⟨G0, hG⟩ : ∃ G, G = (cols + 16) * 1099512676353 + m0 := ⟨_, rfl⟩
  rw [← hG] at hG0
  go_loopg [5, 6, 7, 8] G0 (fun gh out md lf _ wr => ∃ (L : List Int) (left mdn i' y m : Nat), lf = .int .i64 left ∧ md = .int .i64 mdn ∧ L.length + left ≤ 16 ∧ left ≤ 8 ∧ mdn ≤ 4 * L.length ∧ m ≤ 1099512676352 ∧ gh = (left + 16 - L.length) * 1099512676353 + m ∧ i' + 2 * gh ≤ i + 2 * G0 ∧ Hid (wr.ownsRow w.heap.size 2 1 out L.length (ints L)) ∧ Hid (∀ x ∈ L, (1 : Int) ≤ x ∧ x ≤ 11) ∧ Hid (Src wr g A n c b i' y) ∧ Hid (Lcg.Mt n i' y m) ∧ Hid (Fr w wr (fun b => b = g)))
  case atStart => exact ⟨[], cols, 0, i, x, m0, rfl, rfl, by simp; omega, hcl, Nat.zero_le _, hm0, hG, Nat.le_refl _, Lib.hid (World.ownsRow_made w #[] 0 (Nat.le_refl _) (by unfold maxLen; omega) rfl), Lib.hid (fun x hx => by cases hx), Lib.hid (H.out.below ((Below.refl _ _).alloc (Nat.le_refl _) _)), HMT, Lib.hid (Fr.of_below ((Below.refl _ _).alloc (Nat.le_refl _) _) _)⟩
  case round =>
    clear HMT H
    obtain ⟨L, left, mdn, i', y, m, rfl, rfl, hLl, hl8, hmd, hm, hgk, hi', HO, HL, HS, HMT, HF⟩ := hrel
    have hsz := HF.out.size
    obtain ⟨A5, c5, rfl⟩ := own_form HO.out
    by_cases hlt : 0 < left
    case neg =>
      obtain rfl : left = 0 := by omega
      have HD := Lib.hid (show Drawn w wr g A n c b i 70368744177664 from ⟨i', y, HS.out, by omega, HF.out⟩)
      clear hgk hi'
      go_wp2_with fail
      go_ret
      exact ⟨_, L, rfl, HO.out, by omega, HL.out, HD.out⟩
    have b1 : (0 : Int) < (left : Int) := by omega
    go_upto_region 5 with fail
    obtain ⟨wo, hwo⟩ : ∃ x, x = wr := ⟨_, rfl⟩
    subst hwo
    have HA := Lib.hid ((Below.refl wo.heap.size wo).alloc (Nat.le_refl _) (.cells #[.int .i64 1, .int .i64 1, .int .i64 1, .int .i64 2, .int .i64 2, .int .i64 3, .int .i64 4, .int .i64 5, .int .i64 6, .int .i64 7, .int .i64 8, .int .i64 9, .int .i64 10, .int .i64 11] 2))
    have HAM := Lib.hid (src_among KL (some ⟨wo.heap.size, 0, none⟩) 14 (by decide) (by decide) g A n c b i' y _ (HS.out.below HA.out) (by omega) (rdI_lit wo 2 KL _ rfl) (fun a e => by injection e with e; subst e; show wo.heap.size ≠ g; omega))
    go_wp2_with fail
    refine HAM.out.mono ?_
    rintro e w2 ⟨u, y2, rfl, hu, hs, hf, hx⟩
    obtain ⟨hk1, hk2⟩ := kl_kind u
    obtain ⟨kd, hkd⟩ : ∃ k, k = KL.getD (u % KL.length) 0 := ⟨_, rfl⟩
    rw [← hkd] at hk1 hk2 ⊢
    have HS2 := Lib.hid hs
    have HX := Lib.hid hx
    have HF2 := Lib.hid ((HF.out.trans (Fr.of_below HA.out _)).trans hf)
    have HO2 := Lib.hid (own_fr (own_below HO.out HA.out) hf (fun k hk => by have := (HO.out.lt k hk).1; omega))
    have hsz2 := HF2.out.size
    clear hs hf hx hkd HAM HO HS HF
    by_cases hc : kd = 3 ∧ (8 ≤ mdn + left ∨ 16 ≤ L.length + left)
    · obtain ⟨hk3, hcc⟩ := hc
      obtain ⟨m2, hm2, hmt2⟩ := Lcg.Mt_step HMT.out HX.out (hk2 hk3)
      have HM2 := Lib.hid hmt2
      subst hk3
      have hcase : (8 : Int) ≤ (mdn : Int) + (left : Int) ∨ (¬ (8 : Int) ≤ (mdn : Int) + (left : Int)) ∧ (16 : Int) ≤ (L.length : Int) + (left : Int) := by omega
      clear hmt2 hcc
      rcases hcase with c1 | ⟨c1, c2⟩
      all_goals
        go_wp2_with fail
        go_roundg ((left + 16 - L.length) * 1099512676353 + m2)
        case measure => omega
        case rel => exact ⟨L, left, mdn, i' + 1, y2, m2, rfl, rfl, hLl, hl8, hmd, by omega, rfl, by omega, HO2, HL, HS2, HM2, HF2⟩
    have hcase : (kd == 3) = false ∧ ¬ kd = 3 ∨ kd = 3 ∧ (¬ (8 : Int) ≤ (mdn : Int) + (left : Int)) ∧ ¬ (16 : Int) ≤ (L.length : Int) + (left : Int) := by
      by_cases h3 : kd = 3
      · exact .inr ⟨h3, by omega, by omega⟩
      · exact .inl ⟨by simp [h3], h3⟩
    have HKT := Lib.hid (specColumnsTaken_any kd)
    rcases hcase with ⟨c1, c2⟩ | ⟨c0, c1, c2⟩
    · have HCO := Lib.hid (show kd = 3 → L.length + left < 16 from fun h => absurd h c2)
      obtain ⟨TK, hTK⟩ : ∃ t, t = tkN kd := ⟨_, rfl⟩
      rw [← hTK] at HKT
      have HTK := Lib.hid hTK
      clear hTK
      go_upto_if 34 with (go_at_call 90; refine (HKT.out _ hk1).mono ?_; rintro e w3 ⟨rfl, hb3⟩; have HS3 := Lib.hid (HS2.out.below hb3); have HF3 := Lib.hid (HF2.out.trans (Fr.of_below hb3 _)); have HO3 := Lib.hid (own_below HO2.out hb3); clear hb3)
      go_cut [8] from 31 to 49 (fun s wx => ∃ (kv : Int) (i2 y3 : Nat), s = .int .i64 kv ∧ (1 ≤ kv ∧ kv ≤ 11) ∧ tkN kv ≤ left ∧ (kv = 3 → L.length + left < 16) ∧ i2 ≤ i' + 2 ∧ Hid (Src wx g A n c b i2 y3) ∧ Hid (Fr w wx (fun b => b = g)) ∧ Hid (wx.ownsRow w.heap.size 2 1 (.slice A5 L.length c5) L.length (ints L)))
      case first =>
        by_cases ht : left < TK
        · have ht1 : (left : Int) < (TK : Int) := by omega
          go_wp2_with fail
          refine (src_pickS 2 (Nat.le_refl _) (by omega) g A n c b (i' + 1) y2 _ HS3.out (by omega)).mono ?_
          rintro e w4 ⟨u4, y4, rfl, hu4, hs4, hf4, _⟩
          obtain ⟨t4, ht4⟩ : ∃ t, t = u4 % 2 := ⟨_, rfl⟩
          have ht5 : t4 < 2 := by omega
          rw [← ht4]
          have HS4 := Lib.hid hs4
          have HF4 := Lib.hid (HF3.out.trans hf4)
          have HO4 := Lib.hid (own_fr HO3.out hf4 (fun k hk => by have := (HO3.out.lt k hk).1; omega))
          clear hs4 hf4 ht4
          go_wp2_with fail
          go_meet
          exact ⟨1 + (t4 : Int), i' + 1 + 1, y4, rfl, by omega, by
                have h12 : (1 + (t4 : Int) = 1 ∨ 1 + (t4 : Int) = 2) := by omega
                rcases h12 with h | h <;> rw [h] <;> simp [tkN] <;> omega, fun h => by omega, by omega, HS4, HF4, HO4⟩
        · have ht1 : ¬ (left : Int) < (TK : Int) := by omega
          have htl : tkN kd ≤ left := by rw [← HTK.out]; omega
          go_wp2_with fail
          go_meet
          exact ⟨kd, i' + 1, y2, rfl, hk1, htl, HCO.out, by omega, HS3, HF3, HO3⟩
      case rest =>
        obtain ⟨kv, i2, y3, rfl, hkv, htk, hk3, hi2, HS5, HF5, HO5⟩ := hcut
        have hsz5 := HF5.out.size
        have htm := mkN_le kv
        have HK2 := Lib.hid (specColumnsTaken_any kv)
        have HM2 := Lib.hid (specColumnsMade_any kv)
        have hlen : L.length + 1 ≤ maxLen := by unfold maxLen; omega
        obtain ⟨m2, hm2, hmt2⟩ := Lcg.Mt_any n i2 y3 HS5.out.n
        have HMT2 := Lib.hid hmt2
        have htk0 : tkN kv = 0 → kv = 3 := fun h => by rcases kinds_11 hkv with rfl | rfl | rfl | rfl | rfl | rfl | rfl | rfl | rfl | rfl | rfl <;> simp [tkN] at h <;> rfl
        clear hmt2 HS2 HF2 HO2 HKT
        go_wp2_with (at_builtin; go_must (refine wpList_app wc rfl (.tmp 38) (.tmp 40) _ rfl w.heap.size 2 i0 _ 1 8 Try.underlying38 hi0 iz is ib rfl (by omega) (.slice A5 L.length c5) L.length (ints L) rfl HO5.out _ 1 1 _ rfl rfl (by simp [Value.oneCell']) (by unfold maxLen; omega) (by omega) hsz5 ?_); intro v' w' hown' hb'; have HO6 := Lib.hid hown'; have HS6 := Lib.hid (HS5.out.base hb' hgw); have HF6 := Lib.hid (HF5.out.then_below hb'); clear hown' hb')
        refine (HK2.out _ hkv).mono ?_
        rintro e w7 ⟨rfl, hb7⟩
        have HO7 := Lib.hid (own_below HO6.out hb7)
        have HS7 := Lib.hid (HS6.out.below hb7)
        have HF7 := Lib.hid (HF6.out.trans (Fr.of_below hb7 _))
        clear hb7 HO6 HS6 HF6
        obtain ⟨TK, hTK⟩ : ∃ t, t = tkN kv := ⟨_, rfl⟩
        rw [← hTK] at htk htk0 ⊢
        go_wp2_with fail
        refine (HM2.out _ hkv).mono ?_
        rintro e w8 ⟨rfl, hb8⟩
        have HO8 := Lib.hid (own_below HO7.out hb8)
        have HS8 := Lib.hid (HS7.out.below hb8)
        have HF8 := Lib.hid (HF7.out.trans (Fr.of_below hb8 _))
        clear hb8 HO7 HS7 HF7
        obtain ⟨MK, hMK⟩ : ∃ t, t = mkN kv := ⟨_, rfl⟩
        rw [← hMK] at htm ⊢
        have hll : (L ++ [kv]).length = L.length + 1 := by simp
        go_wp2_with fail
        go_roundg ((left - TK + 16 - (L ++ [kv]).length) * 1099512676353 + m2)
        case measure => rw [hll]; omega
        case rel => exact ⟨L ++ [kv], left - TK, mdn + MK, i2, y3, m2, i64c (by omega), i64c (by omega), by rw [hll]; omega, by omega, by rw [hll]; omega, hm2, rfl, by rw [hll]; omega, Lib.hid (by rw [hll, ints_app]; exact HO8.out), Lib.hid (fun x hx => by
          rcases List.mem_append.1 hx with h | h
          · exact HL.out x h
          · rw [List.mem_singleton.1 h]
            exact hkv), HS8, HMT2, HF8⟩
    · have HCO := Lib.hid (show L.length + left < 16 from by omega)
      subst c0
      obtain ⟨TK, hTK⟩ : ∃ t, t = tkN 3 := ⟨_, rfl⟩
      rw [← hTK] at HKT
      have HTK := Lib.hid hTK
      clear hTK
      go_upto_if 34 with (go_at_call 90; refine (HKT.out _ hk1).mono ?_; rintro e w3 ⟨rfl, hb3⟩; have HS3 := Lib.hid (HS2.out.below hb3); have HF3 := Lib.hid (HF2.out.trans (Fr.of_below hb3 _)); have HO3 := Lib.hid (own_below HO2.out hb3); clear hb3)
      go_cut [8] from 31 to 49 (fun s wx => ∃ (kv : Int) (i2 y3 : Nat), s = .int .i64 kv ∧ (1 ≤ kv ∧ kv ≤ 11) ∧ tkN kv ≤ left ∧ (kv = 3 → L.length + left < 16) ∧ i2 ≤ i' + 2 ∧ Hid (Src wx g A n c b i2 y3) ∧ Hid (Fr w wx (fun b => b = g)) ∧ Hid (wx.ownsRow w.heap.size 2 1 (.slice A5 L.length c5) L.length (ints L)))
      case first =>
        have ht : ¬ left < TK := by rw [HTK.out]; simp [tkN]
        have ht1 : ¬ (left : Int) < (TK : Int) := by omega
        have htl : tkN 3 ≤ left := by rw [← HTK.out]; omega
        go_wp2_with fail
        go_meet
        exact ⟨3, i' + 1, y2, rfl, hk1, htl, fun _ => HCO.out, by omega, HS3, HF3, HO3⟩
      case rest =>
        obtain ⟨kv, i2, y3, rfl, hkv, htk, hk3, hi2, HS5, HF5, HO5⟩ := hcut
        have hsz5 := HF5.out.size
        have htm := mkN_le kv
        have HK2 := Lib.hid (specColumnsTaken_any kv)
        have HM2 := Lib.hid (specColumnsMade_any kv)
        have hlen : L.length + 1 ≤ maxLen := by unfold maxLen; omega
        obtain ⟨m2, hm2, hmt2⟩ := Lcg.Mt_any n i2 y3 HS5.out.n
        have HMT2 := Lib.hid hmt2
        have htk0 : tkN kv = 0 → kv = 3 := fun h => by rcases kinds_11 hkv with rfl | rfl | rfl | rfl | rfl | rfl | rfl | rfl | rfl | rfl | rfl <;> simp [tkN] at h <;> rfl
        clear hmt2 HS2 HF2 HO2 HKT
        go_wp2_with (at_builtin; go_must (refine wpList_app wc rfl (.tmp 38) (.tmp 40) _ rfl w.heap.size 2 i0 _ 1 8 Try.underlying38 hi0 iz is ib rfl (by omega) (.slice A5 L.length c5) L.length (ints L) rfl HO5.out _ 1 1 _ rfl rfl (by simp [Value.oneCell']) (by unfold maxLen; omega) (by omega) hsz5 ?_); intro v' w' hown' hb'; have HO6 := Lib.hid hown'; have HS6 := Lib.hid (HS5.out.base hb' hgw); have HF6 := Lib.hid (HF5.out.then_below hb'); clear hown' hb')
        refine (HK2.out _ hkv).mono ?_
        rintro e w7 ⟨rfl, hb7⟩
        have HO7 := Lib.hid (own_below HO6.out hb7)
        have HS7 := Lib.hid (HS6.out.below hb7)
        have HF7 := Lib.hid (HF6.out.trans (Fr.of_below hb7 _))
        clear hb7 HO6 HS6 HF6
        obtain ⟨TK, hTK⟩ : ∃ t, t = tkN kv := ⟨_, rfl⟩
        rw [← hTK] at htk htk0 ⊢
        go_wp2_with fail
        refine (HM2.out _ hkv).mono ?_
        rintro e w8 ⟨rfl, hb8⟩
        have HO8 := Lib.hid (own_below HO7.out hb8)
        have HS8 := Lib.hid (HS7.out.below hb8)
        have HF8 := Lib.hid (HF7.out.trans (Fr.of_below hb8 _))
        clear hb8 HO7 HS7 HF7
        obtain ⟨MK, hMK⟩ : ∃ t, t = mkN kv := ⟨_, rfl⟩
        rw [← hMK] at htm ⊢
        have hll : (L ++ [kv]).length = L.length + 1 := by simp
        go_wp2_with fail
        go_roundg ((left - TK + 16 - (L ++ [kv]).length) * 1099512676353 + m2)
        case measure => rw [hll]; omega
        case rel => exact ⟨L ++ [kv], left - TK, mdn + MK, i2, y3, m2, i64c (by omega), i64c (by omega), by rw [hll]; omega, by omega, by rw [hll]; omega, hm2, rfl, by rw [hll]; omega, Lib.hid (by rw [hll, ints_app]; exact HO8.out), Lib.hid (fun x hx => by
          rcases List.mem_append.1 hx with h | h
          · exact HL.out x h
          · rw [List.mem_singleton.1 h]
            exact hkv), HS8, HMT2, HF8⟩
end Go.Proofs.Ytacppheedleamaa
