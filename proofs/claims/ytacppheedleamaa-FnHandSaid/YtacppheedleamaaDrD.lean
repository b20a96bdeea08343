/- Walks: stitches drawn that are not always valid. No condition but the bounds. -/
import Derived.Test.YtacppheedleamaaDrC
namespace Go.Proofs.Ytacppheedleamaa
open Go.RowKit
set_option maxRecDepth 20000

theorem own_take' {B : Nat} {w : World} {e : TypeId} {g n c : Nat} {xs : List Value} (h : w.ownsRow B e 1 (.slice (some ⟨g, 0, none⟩) n c) n xs) {m : Nat} (hm : m ≤ n) : w.ownsRow B e 1 (.slice (some ⟨g, 0, none⟩) m c) m (xs.take m) := by
  refine ⟨by have := h.1; simp; omega, ?_⟩
  rcases h.2 with ⟨h0, _⟩ | ⟨g', cap, cur, e', hb, hg, h1, h2, h3, h4⟩
  · cases h0
  · injection e' with e1 _ e2
    injection e1 with e1
    injection e1 with e1
    subst e1
    subst e2
    refine .inr ⟨_, _, cur, rfl, hb, hg, by omega, h2, h3, ?_⟩
    rw [← h4, List.take_take]
    congr 1
    omega
set_option maxHeartbeats 8000000 in
theorem l14Bent_any (cols : Nat) (hcl : cols ≤ 8) (g : Nat) (A : Option Addr) (n c : Nat) (b : Nat → Int) (i x : Nat) (w : World) (h : Src w g A n c b i x) (hi : i < 2305843009213693952) :
    Calls Try.prog 52 #[.pointer (some ⟨g, 0, none⟩), .int .i64 cols] w (DrL w g A n c b i 70368744177700 18 (-1) 13) := by
  obtain ⟨i0, hi0, iz, is, ib⟩ := info_parts infoD
  have hgw := h.blk.lt
  have H := Lib.hid (l14Draw_any cols hcl g A n c b i x w h hi)
  clear h
  go_enter Try.func52, Try.ntmps52
  go_wp2_with fail
  refine H.out.mono ?_
  rintro e w1 ⟨v, L, rfl, ho, hl, hL, i1, y1, hs, hi1, hf⟩
  obtain ⟨A5, c5, rfl⟩ := own_form ho
  have HO := Lib.hid ho
  have HL := Lib.hid hL
  have HS := Lib.hid hs
  have HF := Lib.hid hf
  clear ho hL hs hf H
  go_wp2_with fail
  refine (src_pickS 14 (by omega) (by omega) g A n c b i1 y1 _ HS.out (by omega)).mono ?_
  rintro e w2 ⟨u2, y2, rfl, hu2, hs2, hf2, _⟩
  obtain ⟨t2, ht2⟩ : ∃ t, t = u2 % 14 := ⟨_, rfl⟩
  have ht3 : t2 < 14 := by omega
  rw [← ht2]
  have HS2 := Lib.hid hs2
  have HF2 := Lib.hid (HF.out.trans hf2)
  have HO2 := Lib.hid (own_fr HO.out hf2 (fun k hk => by have := (HO.out.lt k hk).1; omega))
  have hsz2 := HF2.out.size
  clear hs2 hf2 ht2 HS HF HO
  by_cases h0 : t2 = 0
  · subst h0
    go_wp2_with fail
    refine (src_pickS 14 (by omega) (by omega) g A n c b (i1 + 1) y2 _ HS2.out (by omega)).mono ?_
    rintro e w3 ⟨u3, y3, rfl, hu3, hs3, hf3, _⟩
    obtain ⟨t3, ht3⟩ : ∃ t, t = u3 % 14 := ⟨_, rfl⟩
    have ht4 : t3 < 14 := by omega
    rw [← ht3]
    have HS3 := Lib.hid hs3
    have HF3 := Lib.hid (HF2.out.trans hf3)
    have HO3 := Lib.hid (own_fr HO2.out hf3 (fun k hk => by have := (HO2.out.lt k hk).1; omega))
    have hsz3 := HF3.out.size
    clear hs3 hf3 ht3 HS2 HF2 HO2
    go_wp2_with (at_builtin; go_must (refine wpList_app w3 rfl (.tmp 13) (.tmp 17) _ rfl w.heap.size 2 i0 _ 1 8 Try.underlying38 hi0 iz is ib rfl (by omega) (.slice A5 L.length c5) L.length (ints L) rfl HO3.out _ 1 1 _ rfl rfl (by simp [Value.oneCell']) (by unfold maxLen; omega) (by omega) hsz3 ?_); intro v' w' hown' hb'; have HO6 := Lib.hid hown'; have HS6 := Lib.hid (HS3.out.base hb' hgw); have HF6 := Lib.hid (HF3.out.then_below hb'); clear hown' hb')
    go_ret
    exact ⟨_, L ++ [(t3 : Int) - 1], rfl, by rw [List.length_append, ints_app]; exact HO6.out, by simp; omega, fun x hx => by
      rcases List.mem_append.1 hx with h | h
      · have := HL.out x h; omega
      · rw [List.mem_singleton.1 h]; omega, _, _, HS6.out, by omega, HF6.out⟩
  have h0b : ((t2 : Int) == 0) = false := by rw [beq_eq_false_iff_ne]; omega
  have h0c : ¬ (t2 : Int) = 0 := by omega
  by_cases h1 : t2 = 1
  · subst h1
    go_wp2_with (at_builtin; go_must (refine wpList_app w2 rfl (.tmp 21) (.tmp 22) _ rfl w.heap.size 2 i0 _ 1 8 Try.underlying38 hi0 iz is ib rfl (by omega) (.slice A5 L.length c5) L.length (ints L) rfl HO2.out _ 2 2 _ rfl rfl (by simp [Value.oneCell']) (by unfold maxLen; omega) (by omega) hsz2 ?_); intro v' w' hown' hb'; have HO6 := Lib.hid hown'; have HS6 := Lib.hid (HS2.out.base hb' hgw); have HF6 := Lib.hid (HF2.out.then_below hb'); clear hown' hb')
    go_ret
    exact ⟨_, L ++ [1, 1], rfl, by rw [List.length_append, ints, List.map_append]; exact HO6.out, by simp; omega, fun x hx => by
      rcases List.mem_append.1 hx with h | h
      · have := HL.out x h; omega
      · simp at h; omega, _, _, HS6.out, by omega, HF6.out⟩
  have h1b : ((t2 : Int) == 1) = false := by rw [beq_eq_false_iff_ne]; omega
  have h1c : ¬ (t2 : Int) = 1 := by omega
  by_cases h2 : t2 = 2
  · subst h2
    go_upto_region 8 with fail
    go_loopg [5] (18 - L.length) (fun gh out wr => ∃ L2 : List Int, gh = 18 - L2.length ∧ L.length ≤ L2.length ∧ L2.length ≤ 17 ∧ Hid (wr.ownsRow w.heap.size 2 1 out L2.length (ints L2)) ∧ Hid (∀ x ∈ L2, (-1 : Int) ≤ x ∧ x ≤ 13) ∧ Hid (Fr w wr (fun b => b = g)) ∧ Hid (Src wr g A n c b (i1 + 1) y2))
    case atStart => exact ⟨L, rfl, Nat.le_refl _, by omega, HO2, Lib.hid (fun x hx => by have := HL.out x hx; omega), HF2, HS2⟩
    case round =>
      clear HO2 HS2 HF2
      obtain ⟨L2, hgk, hle, h17, HO3, HL3, HF3, HS3⟩ := hrel
      obtain ⟨A6, c6, rfl⟩ := own_form HO3.out
      have hsz3 := HF3.out.size
      by_cases hlt : L2.length ≤ 16
      · have b1 : (L2.length : Int) ≤ 16 := by omega
        go_wp2_with (at_builtin; go_must (refine wpList_app wr rfl (.tmp 29) (.tmp 30) _ rfl w.heap.size 2 i0 _ 1 8 Try.underlying38 hi0 iz is ib rfl (by omega) (.slice A6 L2.length c6) L2.length (ints L2) rfl HO3.out _ 1 1 _ rfl rfl (by simp [Value.oneCell']) (by unfold maxLen; omega) (by omega) hsz3 ?_); intro v' w' hown' hb'; have HO6 := Lib.hid hown'; have HS6 := Lib.hid (HS3.out.base hb' hgw); have HF6 := Lib.hid (HF3.out.then_below hb'); clear hown' hb')
        go_roundg (18 - (L2 ++ [3]).length)
        case measure => simp; omega
        case rel => exact ⟨L2 ++ [3], rfl, by simp; omega, by simp; omega, Lib.hid (by rw [List.length_append, ints_app]; exact HO6.out), Lib.hid (fun x hx => by
          rcases List.mem_append.1 hx with h | h
          · exact HL3.out x h
          · rw [List.mem_singleton.1 h]; omega), HF6, HS6⟩
      · have b1 : ¬ (L2.length : Int) ≤ 16 := by omega
        obtain hL17 : L2.length = 17 := by omega
        go_wp2_with fail
        refine (src_pickS 2 (by omega) (by omega) g A n c b (i1 + 1) y2 _ HS3.out (by omega)).mono ?_
        rintro e w5 ⟨u5, y5, rfl, hu5, hs5, hf5, _⟩
        obtain ⟨t5, ht5⟩ : ∃ t, t = u5 % 2 := ⟨_, rfl⟩
        have ht6 : t5 < 2 := by omega
        rw [← ht5]
        have HS5 := Lib.hid hs5
        have HF5 := Lib.hid (HF3.out.trans hf5)
        have HO5 := Lib.hid (own_fr HO3.out hf5 (fun k hk => by have := (HO3.out.lt k hk).1; omega))
        clear hs5 hf5 ht5 HS3 HF3 HO3
        obtain ⟨g6, rfl, hcap⟩ : ∃ g6, A6 = some ⟨g6, 0, none⟩ ∧ L2.length ≤ c6 := by
          rcases HO5.out.2 with ⟨e, h0⟩ | ⟨g6, cap, cur, e, _, _, hnc, _⟩
          · omega
          · injection e with e1 _ e3
            exact ⟨g6, e1, by omega⟩
        have s1 : (0 : Int) ≤ 16 + (t5 : Int) := by omega
        have s2 : 16 + (t5 : Int) ≤ (c6 : Int) := by omega
        have HO6 := Lib.hid (own_take' HO5.out (show 16 + t5 ≤ L2.length by omega))
        go_wp2_with fail
        trace_state
        go_ret
        exact ⟨_, L2.take (16 + t5), rfl, by rw [List.length_take, Nat.min_eq_left (by omega), ints, List.map_take]; exact HO6.out, by simp; omega, fun x hx => HL3.out x (List.mem_of_mem_take hx), _, _, HS5.out, by omega, HF5.out⟩
  · have h2b : ((t2 : Int) == 2) = false := by rw [beq_eq_false_iff_ne]; omega
    have h2c : ¬ (t2 : Int) = 2 := by omega
    go_wp2_with fail
    go_ret
    exact ⟨_, L, rfl, HO2.out, by omega, fun x hx => by have := HL.out x hx; omega, _, _, HS2.out, by omega, HF2.out⟩
end Go.Proofs.Ytacppheedleamaa
