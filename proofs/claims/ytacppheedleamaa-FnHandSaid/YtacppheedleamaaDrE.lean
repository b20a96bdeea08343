/- Walks: braids drawn. No condition but the bounds. -/
import Derived.Test.YtacppheedleamaaDrD
namespace Go.Proofs.Ytacppheedleamaa
open Go.RowKit
set_option maxRecDepth 20000

set_option maxHeartbeats 8000000 in
theorem l03DrawWord_any (s : Int) (h0 : 0 ≤ s) (h5 : s ≤ 5) (g : Nat) (A : Option Addr) (n c : Nat) (b : Nat → Int) (i x : Nat) (w : World) (h : Src w g A n c b i x) (hi : i < 2305843009213693952) :
    Calls Try.prog 108 #[.pointer (some ⟨g, 0, none⟩), .int .i64 s, .int .i64 10] w (DrL w g A n c b i 100 10 (-12) 12) := by
  obtain ⟨i0, hi0, iz, is, ib⟩ := info_parts infoD
  have hgw := h.blk.lt
  have HA := Lib.hid ((Below.refl w.heap.size w).alloc (Nat.le_refl _) (.cells #[] 2))
  have H := Lib.hid h
  clear h
  by_cases h2 : s < 2
  · go_enter Try.func108, Try.ntmps108
    go_wp2_with fail
    go_ret
    exact ⟨_, [], rfl, World.ownsRow_made w #[] 0 (Nat.le_refl _) (by unfold maxLen; omega) rfl, by simp, fun x hx => (by cases hx), i, x, H.out.below HA.out, by omega, Fr.of_below HA.out _⟩
  go_enter Try.func108, Try.ntmps108
  go_wp2_with fail
  refine (src_pickS 11 (by omega) (by omega) g A n c b i x _ (H.out.below HA.out) (by omega)).mono ?_
  rintro e w2 ⟨u2, y2, rfl, hu2, hs2, hf2, _⟩
  obtain ⟨t2, ht2⟩ : ∃ t, t = u2 % 11 := ⟨_, rfl⟩
  have ht3 : t2 < 11 := by omega
  rw [← ht2]
  have HS2 := Lib.hid hs2
  have HF2 := Lib.hid ((Fr.of_below HA.out _).trans hf2)
  have HO2 := Lib.hid (own_fr (show (w.alloc (.cells #[] 2)).ownsRow w.heap.size 2 1 (.slice (some ⟨w.heap.size, 0, none⟩) 0 0) 0 [] from World.ownsRow_made w #[] 0 (Nat.le_refl _) (by unfold maxLen; omega) rfl) hf2 (fun k hk => by simp [Value.ownBlock] at hk; omega))
  clear hs2 hf2 ht2 H
  go_wp2_with fail
  go_loopg [7, 8, 9] t2 (fun gh out k _ wr => ∃ (L : List Int) (i' y : Nat), k = .int .i64 gh ∧ L.length + gh = t2 ∧ i' + 3 * gh ≤ i + 1 + 3 * t2 ∧ Hid (wr.ownsRow w.heap.size 2 1 out L.length (ints L)) ∧ Hid (∀ x ∈ L, (-12 : Int) ≤ x ∧ x ≤ 12) ∧ Hid (Src wr g A n c b i' y) ∧ Hid (Fr w wr (fun b => b = g)))
  case atStart => exact ⟨[], i + 1, y2, rfl, by simp, Nat.le_refl _, HO2, Lib.hid (fun x hx => by cases hx), HS2, HF2⟩
  case round =>
    clear HO2 HS2 HF2
    obtain ⟨L, i', y, rfl, hL, hi', HO, HL, HS, HF⟩ := hrel
    obtain ⟨A5, c5, rfl⟩ := own_form HO.out
    have hsz := HF.out.size
    by_cases hlt : 0 < gk
    case neg =>
      obtain rfl : gk = 0 := by omega
      have HD := Lib.hid (show Drawn w wr g A n c b i 100 from ⟨i', y, HS.out, by omega, HF.out⟩)
      clear hi'
      go_wp2_with fail
      go_ret
      exact ⟨_, L, rfl, HO.out, by omega, HL.out, HD.out⟩
    have b1 : (0 : Int) < (gk : Int) := by omega
    have HP := Lib.hid (src_pick (s - 1) (by omega) g A n c b i' y _ HS.out (by omega))
    clear HS
    go_wp2_with fail
    refine HP.out.mono ?_
    rintro e w3 ⟨v3, rfl, hv3, i3, y3, hs3, hi3, hf3⟩
    have HS3 := Lib.hid hs3
    have HF3 := Lib.hid (HF.out.trans hf3)
    have HO3 := Lib.hid (own_fr HO.out hf3 (fun k hk => by have := (HO.out.lt k hk).1; omega))
    have hv4 : (v3 : Int) ≤ 5 := by omega
    clear hs3 hf3 HO HF HP
    go_wp2_with fail
    refine (src_one 2 (by omega) (by omega) g A n c b i3 y3 _ HS3.out (by omega)).mono ?_
    rintro e w4 ⟨t4, rfl, i4, y4, hs4, hi4, hf4⟩
    have HS4 := Lib.hid hs4
    have HF4 := Lib.hid (HF3.out.trans hf4)
    have HO4 := Lib.hid (own_fr HO3.out hf4 (fun k hk => by have := (HO3.out.lt k hk).1; omega))
    have hsz4 := HF4.out.size
    clear hs4 hf4 HO3 HF3 HS3
    cases t4
    all_goals
      go_wp2_with (at_builtin; go_must (refine wpList_app w4 rfl (.tmp 31) (.tmp 33) _ rfl w.heap.size 2 i0 _ 1 8 Try.underlying38 hi0 iz is ib rfl (by omega) (.slice A5 L.length c5) L.length (ints L) rfl HO4.out _ 1 1 _ rfl rfl (by simp [Value.oneCell']) (by unfold maxLen; omega) (by omega) hsz4 ?_); intro v' w' hown' hb'; have HO6 := Lib.hid hown'; have HS6 := Lib.hid (HS4.out.base hb' hgw); have HF6 := Lib.hid (HF4.out.then_below hb'); clear hown' hb')
      go_roundg (gk - 1)
      case measure => omega
      case rel => exact ⟨L ++ [_], i4, y4, i64c (by omega), by simp; omega, by omega, Lib.hid (by rw [List.length_append, ints_app]; exact HO6.out), Lib.hid (fun x hx => by
        rcases List.mem_append.1 hx with h | h
        · exact HL.out x h
        · rw [List.mem_singleton.1 h]; omega), HS6, HF6⟩
/-- A braid that a draw made. -/
def DrBr (w : World) (g : Nat) (A : Option Addr) (n c : Nat) (b : Nat → Int) (i K M : Nat) (e : Ending) (w' : World) : Prop :=
  ∃ s A1 c1 L, e = .returned (.agg #[.int .i64 s, .slice A1 (List.length L) c1]) ∧ (-1 ≤ s ∧ s ≤ 13) ∧ w'.ownsRow w.heap.size 2 1 (.slice A1 L.length c1) L.length (ints L) ∧ L.length ≤ M ∧ Drawn w w' g A n c b i K
set_option maxHeartbeats 8000000 in
theorem l03Draw_any (g : Nat) (A : Option Addr) (n c : Nat) (b : Nat → Int) (i x : Nat) (w : World) (h : Src w g A n c b i x) (hi : i < 1152921504606846976) :
    Calls Try.prog 74 #[.pointer (some ⟨g, 0, none⟩), .int .i64 10] w fun e w' => ∃ s A1 c1 L, e = .returned (.agg #[.int .i64 s, .slice A1 (List.length L) c1]) ∧ (0 ≤ s ∧ s ≤ 5) ∧ w'.ownsRow w.heap.size 2 1 (.slice A1 L.length c1) L.length (ints L) ∧ L.length ≤ 10 ∧ Drawn w w' g A n c b i 101 := by
  have hgw := h.blk.lt
  have hblk := Blk.at_ w 53 #[.int .i64 0, .slice none 0 0] rfl
  obtain ⟨w1, hw1⟩ : ∃ w1, w1 = w.alloc (.cells #[.int .i64 0, .slice none 0 0] 53) := ⟨_, rfl⟩
  have HB1 := Lib.hid (show Below w.heap.size w w1 by rw [hw1]; exact (Below.refl _ _).alloc (Nat.le_refl _) _)
  rw [← hw1] at hblk
  have HK1 := Lib.hid hblk
  have hz1 := hblk.lt
  have HA := Lib.hid ((Below.refl w1.heap.size w1).alloc (Nat.le_refl _) (.cells #[.int .i64 2, .int .i64 3, .int .i64 3, .int .i64 4, .int .i64 4, .int .i64 5, .int .i64 1, .int .i64 0] 2))
  have HAM := Lib.hid (src_among [2, 3, 3, 4, 4, 5, 1, 0] (some ⟨w1.heap.size, 0, none⟩) 8 (by decide) (by decide) g A n c b i x _ ((h.below HB1.out).below HA.out) (by omega) (rdI_lit w1 2 _ _ rfl) (fun a e => by injection e with e; subst e; show w1.heap.size ≠ g; omega))
  clear h hblk
  go_enter Try.func74, Try.ntmps74
  go_upto_region 1 with fail
  rw [← hw1]
  clear hw1
  go_wp2_with fail
  refine HAM.out.mono ?_
  rintro e w2 ⟨u, y2, rfl, hu, hs, hf, _⟩
  have hkd : 0 ≤ ([2, 3, 3, 4, 4, 5, 1, 0] : List Int).getD (u % 8) 0 ∧ ([2, 3, 3, 4, 4, 5, 1, 0] : List Int).getD (u % 8) 0 ≤ 5 := by
    have h : ∀ t, t < 8 → 0 ≤ ([2, 3, 3, 4, 4, 5, 1, 0] : List Int).getD t 0 ∧ ([2, 3, 3, 4, 4, 5, 1, 0] : List Int).getD t 0 ≤ 5 := by decide
    exact h _ (Nat.mod_lt _ (by omega))
  change _ at hkd
  obtain ⟨kd, hk⟩ : ∃ k, k = ([2, 3, 3, 4, 4, 5, 1, 0] : List Int).getD (u % ([2, 3, 3, 4, 4, 5, 1, 0] : List Int).length) 0 := ⟨_, rfl⟩
  have hkd' : 0 ≤ kd ∧ kd ≤ 5 := by rw [hk]; exact hkd
  rw [← hk]
  have HS2 := Lib.hid hs
  have HF2 := Lib.hid ((Fr.of_below HA.out _).trans hf)
  have HK2 := Lib.hid (HK1.out.fr HF2.out (by omega))
  have HFW := Lib.hid (((Fr.of_below HB1.out _).trans HF2.out))
  have hsz2 := HFW.out.size
  clear hs hf hk hkd HAM
  go_wp2_with fail
  refine (l03DrawWord_any kd hkd'.1 hkd'.2 g A n c b (i + 1) y2 _ HS2.out (by omega)).mono ?_
  rintro e w3 ⟨v, L, rfl, ho, hl, _, i3, y3, hs3, hi3, hf3⟩
  obtain ⟨A5, c5, rfl⟩ := own_form ho
  have hz2 := HK2.out.lt
  have HK3 := Lib.hid (HK2.out.fr hf3 (by omega))
  have HO3 := Lib.hid ho
  have HS3 := Lib.hid hs3
  have HF3 := Lib.hid (HFW.out.trans hf3)
  clear ho hs3 hf3
  have k0 : w3.cell? ⟨w.heap.size, 0, none⟩ = some (.int .i64 0) := HK3.out.cell 0
  have k1 : w3.cell? ⟨w.heap.size, 1, none⟩ = some (.slice none 0 0) := HK3.out.cell 1
  have fz := fun j => HK3.out.frozen j
  go_wp2_with fail
  have hbF : Blk ((w3.setCell ⟨w.heap.size, 0, none⟩ (.int .i64 kd)).setCell ⟨w.heap.size, 1, none⟩ (.slice A5 L.length c5)) w.heap.size 53 #[.int .i64 kd, .slice A5 L.length c5] := (HK3.out.set_ 0 (.int .i64 kd)).set_ 1 (.slice A5 L.length c5)
  have g0 : ((w3.setCell ⟨w.heap.size, 0, none⟩ (.int .i64 kd)).setCell ⟨w.heap.size, 1, none⟩ (.slice A5 L.length c5)).cell? ⟨w.heap.size, 0, none⟩ = some (.int .i64 kd) := hbF.cell 0
  have g1 : ((w3.setCell ⟨w.heap.size, 0, none⟩ (.int .i64 kd)).setCell ⟨w.heap.size, 1, none⟩ (.slice A5 L.length c5)).cell? ⟨w.heap.size, 1, none⟩ = some (.slice A5 L.length c5) := hbF.cell 1
  have hlow : Below w.heap.size w3 ((w3.setCell ⟨w.heap.size, 0, none⟩ (.int .i64 kd)).setCell ⟨w.heap.size, 1, none⟩ (.slice A5 L.length c5)) := ((Below.refl _ _).setCell (p := ⟨w.heap.size, 0, none⟩) (Nat.le_refl _) _).setCell (p := ⟨w.heap.size, 1, none⟩) (Nat.le_refl _) _
  have hown := own_base (own_set (own_set HO3.out (p := ⟨w.heap.size, 0, none⟩) (by show w.heap.size < w2.heap.size; omega) (.int .i64 kd)) (p := ⟨w.heap.size, 1, none⟩) (by show w.heap.size < w2.heap.size; omega) (.slice A5 L.length c5)) (show w.heap.size ≤ w2.heap.size by omega)
  have HSF := Lib.hid (HS3.out.base hlow hgw)
  have HFF := Lib.hid (HF3.out.then_below hlow)
  refine bodyPost_ret (v := .agg #[.int .i64 kd, .slice A5 L.length c5]) (by simp [results, Try.results74, go_sem, g0, g1]) rfl ⟨kd, A5, c5, L, rfl, hkd', hown, by omega, i3, y3, HSF.out, by omega, HFF.out⟩
end Go.Proofs.Ytacppheedleamaa
