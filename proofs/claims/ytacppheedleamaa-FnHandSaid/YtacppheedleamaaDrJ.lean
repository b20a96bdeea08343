/- Walks: charts drawn that are not always valid. No condition but the bounds. -/
import Derived.Test.YtacppheedleamaaDrI
import Derived.IntWalk
import Derived.Deep.RegionHeld3
set_option linter.unusedVariables false
set_option linter.unusedSimpArgs false
namespace Go.Proofs.Ytacppheedleamaa
open Go.RowKit
set_option maxRecDepth 100000

/-- A chart that a draw made, valid or not. -/
def ChF (w : World) (g : Nat) (A : Option Addr) (n c : Nat) (b : Nat → Int) (i K : Nat) (e : Ending) (w' : World) : Prop :=
  ∃ (cols : Int) (A1 : Option Addr) (c1 : Nat) (rs : List RwD), e = .returned (.agg #[.int .i64 cols, .slice A1 rs.length c1]) ∧ rs.length ≤ 9 ∧ RowsOk w.heap.size w' (.slice A1 rs.length c1) rs ∧ Drawn w w' g A n c b i K
theorem three_row (w : World) (t : TypeId) (d c : Int) (A : Option Addr) (n q : Nat) : RowR (w.alloc (.cells #[.int .i64 d, .int .i64 c, .slice A n q] t)) w.heap.size 0 (1 * 3) (rowF (fun _ => d) (fun _ => c) (fun _ => A) (fun _ => n) (fun _ => q)) := fun j hj => by
  have h : j = 0 ∨ j = 1 ∨ j = 2 := by omega
  rcases h with rfl | rfl | rfl
  · exact cell_alloc_at rfl 0
  · exact cell_alloc_at rfl 1
  · exact cell_alloc_at rfl 2
theorem rowF_one (d c : Int) (A : Option Addr) (n q : Nat) (j : Nat) : (rowF (fun _ => d) (fun _ => c) (fun _ => A) (fun _ => n) (fun _ => q) j).oneCell' = true := by
  unfold rowF
  split
  · rfl
  · split <;> rfl
set_option maxHeartbeats 16000000 in
theorem l15Bent_any (g : Nat) (A : Option Addr) (n c : Nat) (b : Nat → Int) (i x : Nat) (w : World) (h : Src w g A n c b i x) (hi : i < 288230376151711744) :
    Calls Try.prog 27 #[.pointer (some ⟨g, 0, none⟩)] w (ChF w g A n c b i 914793674309900) := by
  obtain ⟨j0, hj0, jz, js, jb⟩ := info_parts infoRowD
  have hgw := h.blk.lt
  have hblk := Blk.at_ w 26 #[.int .i64 0, .slice none 0 0] rfl
  obtain ⟨w1, hw1⟩ : ∃ w1, w1 = w.alloc (.cells #[.int .i64 0, .slice none 0 0] 26) := ⟨_, rfl⟩
  have HB1 := Lib.hid (show Below w.heap.size w w1 by rw [hw1]; exact (Below.refl _ _).alloc (Nat.le_refl _) _)
  rw [← hw1] at hblk
  have HK1 := Lib.hid hblk
  have hz1 := hblk.lt
  have HDR := Lib.hid (l15Draw_any g A n c b i x w1 (h.below HB1.out) (by omega))
  clear h hblk
  go_enter Try.func27, Try.ntmps27
  go_upto_region 1 with fail
  rw [← hw1]
  clear hw1
  go_wp2_with fail
  refine HDR.out.mono ?_
  rintro e w2 ⟨cl, A1, c1, rs, rfl, hcl, hrl, hro, i2, y2, hs2, hi2, hf2⟩
  obtain ⟨G, hG⟩ : ∃ G, G = w2.heap.size := ⟨_, rfl⟩
  have hz2 : w1.heap.size ≤ w2.heap.size := hf2.size
  have HA2 := (Below.refl w2.heap.size w2).alloc (Nat.le_refl _) (.cells #[.int .i64 cl, .slice A1 rs.length c1] 26)
  have HC := Lib.hid (show Ch0 w (w2.alloc (.cells #[.int .i64 cl, .slice A1 rs.length c1] 26)) w.heap.size G g A n c b i2 y2 cl (.slice A1 rs.length c1) from
    ⟨(HK1.out.fr hf2 (by omega)).alloc _, by rw [hG]; exact Blk.at_ w2 _ _ rfl, hs2.below HA2, ((Fr.of_below HB1.out _).trans hf2).trans (Fr.of_below HA2 _)⟩)
  have HR : Hid (RowsOk w.heap.size (w2.alloc (.cells #[.int .i64 cl, .slice A1 rs.length c1] 26)) (.slice A1 rs.length c1) rs) := Lib.hid (RowsOk.below ⟨own_base hro.ow (by omega), fun r hr => ⟨own_base (hro.st r hr).1 (by omega), (hro.st r hr).2⟩⟩ HA2)
  have hRG : w.heap.size ≠ G := by omega
  have hGl : w.heap.size ≤ G := by omega
  clear hro hs2 hf2 HDR HK1 HA2
  go_upto_region 2 with fail
  rw [← hG]
  obtain ⟨w3, hw3⟩ : ∃ w3, w3 = w2.alloc (.cells #[.int .i64 cl, .slice A1 rs.length c1] 26) := ⟨_, rfl⟩
  rw [← hw3] at HC HR ⊢
  clear hw3 hG hz2
  have hEND : ∀ (X : World) (cols : Int) (A1 : Option Addr) (c1 : Nat) (rs : List RwD) (N i' y' : Nat), rs.length = N → Ch0 w X w.heap.size G g A n c b i' y' cols (.slice A1 N c1) → RowsOk w.heap.size X (.slice A1 N c1) rs → N ≤ 9 → i' ≤ i + 914793674309900 → ∀ a : Act, a.tmps[2]?.getD undef = .pointer (some ⟨w.heap.size, 0, none⟩) → a.defers = [] → bodyPost Try.prog Try.f27 (ChF w g A n c b i 914793674309900) Exit.ret a ((X.setCell ⟨w.heap.size, 0, none⟩ (.int .i64 cols)).setCell ⟨w.heap.size, 1, none⟩ (.slice A1 N c1)) := fun X cols A1 c1 rs N i' y' hN hX hr hl hi' a ha hdf => by
    subst hN
    obtain ⟨k1, k3, k4⟩ := hX.fin hgw (Nat.le_refl _)
    have g0 := k1.cell 0
    have g1 := k1.cell 1
    simp only [List.getElem?_toArray, List.getElem?_cons_zero, List.getElem?_cons_succ] at g0 g1
    have r1 := hr.far hX.rb (by decide) (by decide) 0 (.int .i64 cols)
    have r2 := r1.far (hX.rb.set_ 0 (.int .i64 cols)) (by decide) (by decide) 1 (.slice A1 rs.length c1)
    exact bodyPost_ret (v := .agg #[.int .i64 cols, .slice A1 rs.length c1]) (by simp [results, Try.results27, go_sem, g0, g1, ha]) hdf ⟨cols, A1, c1, rs, rfl, hl, r2, i', y', k3, hi', k4⟩
  have HEND := Lib.hid hEND
  clear hEND
  have b1 : w3.cell? ⟨G, 1, none⟩ = some (.slice A1 rs.length c1) := HC.out.bb.cell 1
  go_wp2_with fail
  refine (src_pick rs.length (by omega) g A n c b i2 y2 _ HC.out.src (by omega)).mono ?_
  rintro e w4 ⟨k, rfl, hk, i4, y4, hs4, hi4, hf4⟩
  have hkl : k < rs.length := by omega
  have HC4 := Lib.hid (HC.out.draw hgw (Nat.le_refl _) hGl hs4 hf4)
  have HR4 := Lib.hid (HR.out.fr hgw hf4)
  clear hs4 hf4 HC HR b1 hk
  go_wp2_with fail
  refine (src_pickS 20 (by omega) (by omega) g A n c b i4 y4 _ HC4.out.src (by omega)).mono ?_
  rintro e w5 ⟨u5, y5, rfl, hu5, hs5, hf5, _⟩
  obtain ⟨t, ht⟩ : ∃ t, t = u5 % 20 := ⟨_, rfl⟩
  have ht20 : t < 20 := by omega
  rw [← ht]
  have HC5 := Lib.hid (HC4.out.draw hgw (Nat.le_refl _) hGl hs5 hf5)
  have HR5 := Lib.hid (HR4.out.fr hgw hf5)
  clear hs5 hf5 ht HC4 HR4
  obtain ⟨g2, cur, rfl, hg2, hbg, _, _⟩ := HR5.out.at_ (by omega)
  have HBG := Lib.hid hbg
  have hg2l := hbg.lt
  clear hbg
  obtain ⟨r, hrk⟩ : ∃ r, rs[k]? = some r := ⟨_, List.getElem?_eq_getElem hkl⟩
  have HRK := Lib.hid hrk
  clear hrk
  have b0 : w5.cell? ⟨G, 0, none⟩ = some (.int .i64 cl) := HC5.out.bb.cell 0
  have b1 : w5.cell? ⟨G, 1, none⟩ = some (.slice (some ⟨g2, 0, none⟩) rs.length c1) := HC5.out.bb.cell 1
  have bf := fun j => HC5.out.bb.frozen j
  have r0 : w5.cell? ⟨w.heap.size, 0, none⟩ = some (.int .i64 0) := HC5.out.rb.cell 0
  have r1 : w5.cell? ⟨w.heap.size, 1, none⟩ = some (.slice none 0 0) := HC5.out.rb.cell 1
  have rf := fun j => HC5.out.rb.frozen j
  by_cases h0 : t = 0
  · subst h0
    have HA5 := Lib.hid ((Below.refl w5.heap.size w5).alloc (Nat.le_refl _) (.cells #[.int .i64 0, .int .i64 (-1), .int .i64 8, .int .i64 9, .int .i64 2] 2))
    have HAM := Lib.hid (src_among [0, -1, 8, 9, 2] (some ⟨w5.heap.size, 0, none⟩) 5 (by decide) (by decide) g A n c b (i4 + 1) y5 _ (HC5.out.src.below HA5.out) (by omega) (rdI_lit w5 2 _ _ rfl) (fun a e => by injection e with e; subst e; show w5.heap.size ≠ g; omega))
    go_wp2_with fail
    refine HAM.out.mono ?_
    rintro e w6 ⟨u6, y6, rfl, hu6, hs6, hf6, _⟩
    obtain ⟨kd, hk⟩ : ∃ k, k = ([0, -1, 8, 9, 2] : List Int).getD (u6 % ([0, -1, 8, 9, 2] : List Int).length) 0 := ⟨_, rfl⟩
    rw [← hk]
    have HC6 := Lib.hid ((HC5.out.below HA5.out).draw hgw (Nat.le_refl _) hGl hs6 hf6)
    have HR6 := Lib.hid ((HR5.out.below HA5.out).fr hgw hf6)
    have k0 : w6.cell? ⟨G, 0, none⟩ = some (.int .i64 cl) := HC6.out.bb.cell 0
    have k1 : w6.cell? ⟨G, 1, none⟩ = some (.slice (some ⟨g2, 0, none⟩) rs.length c1) := HC6.out.bb.cell 1
    have kf := fun j => HC6.out.bb.frozen j
    have m0 : w6.cell? ⟨w.heap.size, 0, none⟩ = some (.int .i64 0) := HC6.out.rb.cell 0
    have m1 : w6.cell? ⟨w.heap.size, 1, none⟩ = some (.slice none 0 0) := HC6.out.rb.cell 1
    have mf := fun j => HC6.out.rb.frozen j
    have HCS := Lib.hid (HC6.out.num hgw hGl hRG kd)
    have HRS := Lib.hid (HR6.out.far HC6.out.bb (by decide) (by decide) 0 (.int .i64 kd))
    clear hs6 hf6 hk HAM HC5 HR5
    go_wp2_with fail
    exact HEND.out _ kd (some ⟨g2, 0, none⟩) c1 rs rs.length _ y6 rfl HCS.out HRS.out (by omega) (by omega) _ rfl rfl
  have h0b : ((t : Int) == 0) = false := by rw [beq_eq_false_iff_ne]; omega
  have h0c : ¬ (t : Int) = 0 := by omega
  by_cases h1 : t = 1
  · subst h1
    go_upto_region 7 with fail
    have HA5 := Lib.hid (((Below.refl w5.heap.size w5).alloc (Nat.le_refl _) (.cells #[.int .i64 0, .int .i64 2, .int .i64 (-1)] 2)).drew)
    have HAM := Lib.hid (src_among [0, 2, -1] (some ⟨w5.heap.size, 0, none⟩) 3 (by decide) (by decide) g A n c b (i4 + 1) y5 _ (HC5.out.src.below HA5.out) (by omega) ((rdI_lit w5 2 _ _ rfl).below ((Below.refl _ _).drew)) (fun a e => by injection e with e; subst e; show w5.heap.size ≠ g; omega))
    have q1 : (w5.alloc (.cells #[.int .i64 0, .int .i64 2, .int .i64 (-1)] 2)).cell? ⟨G, 1, none⟩ = some (.slice (some ⟨g2, 0, none⟩) rs.length c1) := (HC5.out.bb.alloc _).cell 1
    have l1 : (0 : Int) ≤ (k : Int) := by omega
    have l2 : (k : Int) < (rs.length : Int) := by omega
    go_region_law (first
      | (go_simp; go_at_call 51; refine HAM.out.mono ?_; rintro e w6 ⟨u6, y6, rfl, hu6, hs6, hf6, _⟩; obtain ⟨kd, hk⟩ : ∃ k, k = ([0, 2, -1] : List Int).getD (u6 % ([0, 2, -1] : List Int).length) 0 := ⟨_, rfl⟩; rw [← hk]; have HC6 := Lib.hid ((HC5.out.below HA5.out).draw hgw (Nat.le_refl _) hGl hs6 hf6); have HR6 := Lib.hid ((HR5.out.below HA5.out).fr hgw hf6); have k1 : w6.cell? ⟨G, 1, none⟩ = some (.slice (some ⟨g2, 0, none⟩) rs.length c1) := HC6.out.bb.cell 1; obtain ⟨e0, e1, e2, ef⟩ := HR6.out.cells hkl; clear hs6 hf6 hk))
    all_goals
      have HC7 := Lib.hid (HC6.out.row hgw HR6.out (k * 3) (.int .i64 kd))
      have HR7 := Lib.hid (HR6.out.set0 HRK.out kd)
      have p0 : _ = some (Value.int .i64 cl) := HC7.out.bb.cell 0
      have p1 : _ = some (Value.slice (some ⟨g2, 0, none⟩) rs.length c1) := HC7.out.bb.cell 1
      have p2 : _ = some (Value.int .i64 0) := HC7.out.rb.cell 0
      have p3 : _ = some (Value.slice none 0 0) := HC7.out.rb.cell 1
      have pf := fun j => HC7.out.rb.frozen j
      clear e0 e1 e2 ef k1 HC6 HR6
      go_wp2_with fail
      exact HEND.out _ cl (some ⟨g2, 0, none⟩) c1 _ rs.length _ y6 (List.length_set ..) HC7.out HR7.out (by omega) (by omega) _ rfl rfl
  have h1b : ((t : Int) == 1) = false := by rw [beq_eq_false_iff_ne]; omega
  have h1c : ¬ (t : Int) = 1 := by omega
  by_cases h2 : t = 2
  · subst h2
    go_upto_region 9 with fail
    have HA5 := Lib.hid (((Below.refl w5.heap.size w5).alloc (Nat.le_refl _) (.cells #[.int .i64 0, .int .i64 4, .int .i64 5] 2)).drew)
    have HAM := Lib.hid (src_among [0, 4, 5] (some ⟨w5.heap.size, 0, none⟩) 3 (by decide) (by decide) g A n c b (i4 + 1) y5 _ (HC5.out.src.below HA5.out) (by omega) ((rdI_lit w5 2 _ _ rfl).below ((Below.refl _ _).drew)) (fun a e => by injection e with e; subst e; show w5.heap.size ≠ g; omega))
    have q1 : (w5.alloc (.cells #[.int .i64 0, .int .i64 4, .int .i64 5] 2)).cell? ⟨G, 1, none⟩ = some (.slice (some ⟨g2, 0, none⟩) rs.length c1) := (HC5.out.bb.alloc _).cell 1
    have l1 : (0 : Int) ≤ (k : Int) := by omega
    have l2 : (k : Int) < (rs.length : Int) := by omega
    go_region_law (first
      | (go_simp; go_at_call 51; refine HAM.out.mono ?_; rintro e w6 ⟨u6, y6, rfl, hu6, hs6, hf6, _⟩; obtain ⟨kd, hk⟩ : ∃ k, k = ([0, 4, 5] : List Int).getD (u6 % ([0, 4, 5] : List Int).length) 0 := ⟨_, rfl⟩; rw [← hk]; have HC6 := Lib.hid ((HC5.out.below HA5.out).draw hgw (Nat.le_refl _) hGl hs6 hf6); have HR6 := Lib.hid ((HR5.out.below HA5.out).fr hgw hf6); have k1 : w6.cell? ⟨G, 1, none⟩ = some (.slice (some ⟨g2, 0, none⟩) rs.length c1) := HC6.out.bb.cell 1; obtain ⟨e0, e1, e2, ef⟩ := HR6.out.cells hkl; clear hs6 hf6 hk))
    all_goals
      have HC7 := Lib.hid (HC6.out.row hgw HR6.out (k * 3 + 1) (.int .i64 kd))
      have HR7 := Lib.hid (HR6.out.set1 HRK.out kd)
      have p0 : _ = some (Value.int .i64 cl) := HC7.out.bb.cell 0
      have p1 : _ = some (Value.slice (some ⟨g2, 0, none⟩) rs.length c1) := HC7.out.bb.cell 1
      have p2 : _ = some (Value.int .i64 0) := HC7.out.rb.cell 0
      have p3 : _ = some (Value.slice none 0 0) := HC7.out.rb.cell 1
      have pf := fun j => HC7.out.rb.frozen j
      clear e0 e1 e2 ef k1 HC6 HR6
      go_wp2_with fail
      exact HEND.out _ cl (some ⟨g2, 0, none⟩) c1 _ rs.length _ y6 (List.length_set ..) HC7.out HR7.out (by omega) (by omega) _ rfl rfl
  have h2b : ((t : Int) == 2) = false := by rw [beq_eq_false_iff_ne]; omega
  have h2c : ¬ (t : Int) = 2 := by omega
  by_cases h3 : t = 3
  · subst h3
    go_upto_region 11 with fail
    have HA5 := Lib.hid ((Below.refl w5.heap.size w5).drew)
    have HLB := Lib.hid (l14Bent_any cl hcl.2 g A n c b (i4 + 1) y5 _ (HC5.out.src.below HA5.out) (by omega))
    have l1 : (0 : Int) ≤ (k : Int) := by omega
    have l2 : (k : Int) < (rs.length : Int) := by omega
    have hz5 := HC5.out.fr.size
    go_region_law (first
      | (go_simp; go_at_call 52; refine HLB.out.mono ?_; rintro e w6 ⟨v6, L6, rfl, ho6, hl6, _, i6, y6, hs6, hi6, hf6⟩; obtain ⟨A6, c6, rfl⟩ := own_form ho6; have HC6 := Lib.hid ((HC5.out.below HA5.out).draw hgw (Nat.le_refl _) hGl hs6 hf6); have HR6 := Lib.hid ((HR5.out.below HA5.out).fr hgw hf6); have HO6 := Lib.hid (own_base ho6 hz5); have k0 : w6.cell? ⟨G, 0, none⟩ = some (.int .i64 cl) := HC6.out.bb.cell 0; have k1 : w6.cell? ⟨G, 1, none⟩ = some (.slice (some ⟨g2, 0, none⟩) rs.length c1) := HC6.out.bb.cell 1; obtain ⟨e0, e1, e2, ef⟩ := HR6.out.cells hkl; clear hs6 hf6 ho6))
    all_goals
      have HC7 := Lib.hid (HC6.out.row hgw HR6.out (k * 3 + 2) (.slice A6 L6.length c6))
      have HR7 := Lib.hid (HR6.out.set2 HRK.out ⟨HO6.out, Nat.le_trans hl6 (by decide)⟩)
      have p0 : _ = some (Value.int .i64 cl) := HC7.out.bb.cell 0
      have p1 : _ = some (Value.slice (some ⟨g2, 0, none⟩) rs.length c1) := HC7.out.bb.cell 1
      have p2 : _ = some (Value.int .i64 0) := HC7.out.rb.cell 0
      have p3 : _ = some (Value.slice none 0 0) := HC7.out.rb.cell 1
      have pf := fun j => HC7.out.rb.frozen j
      clear k0 e0 e1 e2 ef k1 HC6 HR6
      go_wp2_with fail
      exact HEND.out _ cl (some ⟨g2, 0, none⟩) c1 _ rs.length _ y6 (List.length_set ..) HC7.out HR7.out (by omega) (by omega) _ rfl rfl
  have h3b : ((t : Int) == 3) = false := by rw [beq_eq_false_iff_ne]; omega
  have h3c : ¬ (t : Int) = 3 := by omega
  by_cases h4 : t = 4
  · subst h4
    have HC7 := Lib.hid (HC5.out.put hgw hGl hRG (.slice none 0 0))
    have HR7 : Hid (RowsOk w.heap.size (w5.setCell ⟨G, 1, none⟩ (.slice none 0 0)) (.slice none 0 0) []) := Lib.hid ⟨⟨rfl, .inl ⟨rfl, rfl⟩⟩, fun r hr => by cases hr⟩
    go_wp2_with fail
    exact HEND.out _ cl none 0 [] 0 _ y5 rfl HC7.out HR7.out (by omega) (by omega) _ rfl rfl
  have h4b : ((t : Int) == 4) = false := by rw [beq_eq_false_iff_ne]; omega
  have h4c : ¬ (t : Int) = 4 := by omega
  by_cases h5 : t = 5
  · subst h5
    go_upto_region 15 with fail
    go_loopg [] (10 - rs.length) (fun gh wr => ∃ (g3 c3 : Nat) (rs' : List RwD), gh = 10 - rs'.length ∧ (1 ≤ rs'.length ∧ rs'.length ≤ 9) ∧ Hid (Ch0 w wr w.heap.size G g A n c b (i4 + 1) y5 cl (.slice (some ⟨g3, 0, none⟩) rs'.length c3)) ∧ Hid (RowsOk w.heap.size wr (.slice (some ⟨g3, 0, none⟩) rs'.length c3) rs'))
    case atStart => exact ⟨g2, c1, rs, rfl, by omega, HC5, HR5⟩
    case round =>
      clear HC5 HR5 HBG HRK b0 b1 bf r0 r1 rf hg2l
      obtain ⟨g3, c3, rs', hgk, hl9, HC, HR⟩ := hrel
      have hsz := HC.out.fr.size
      have b1 : wr.cell? ⟨G, 1, none⟩ = some (.slice (some ⟨g3, 0, none⟩) rs'.length c3) := HC.out.bb.cell 1
      have bf := fun j => HC.out.bb.frozen j
      by_cases hlt : rs'.length ≤ 8
      · have l1 : (rs'.length : Int) ≤ 8 := by omega
        have l2 : 0 < rs'.length := by omega
        have hst := HR.out.st _ (getD_mem (show 0 < rs'.length by omega))
        obtain ⟨e0, e1, e2, ef⟩ := HR.out.cells (show 0 < rs'.length by omega)
        simp only [Nat.zero_mul, Nat.zero_add, dF, cF, AF, nF, qF] at e0 e1 e2
        obtain ⟨r, hr⟩ : ∃ r, r = rs'.getD 0 rw0 := ⟨_, rfl⟩
        rw [← hr] at e0 e1 e2 hst
        have hAL := ((Below.refl wr.heap.size wr).alloc (Nat.le_refl _) (.cells #[.int .i64 r.d, .int .i64 r.c, .slice r.A r.L.length r.q] 40)).drew
        have HCA := Lib.hid (HC.out.below hAL)
        have HRA := Lib.hid (HR.out.below hAL)
        have HSA := Lib.hid (show _ ∧ r.L.length ≤ 20 from ⟨own_below hst.1 hAL, hst.2⟩)
        have HRW : Hid (RowR (wr.alloc (.cells #[.int .i64 r.d, .int .i64 r.c, .slice r.A r.L.length r.q] 40)).drew wr.heap.size 0 (1 * 3) (rowF (fun _ => r.d) (fun _ => r.c) (fun _ => r.A) (fun _ => r.L.length) (fun _ => r.q))) := Lib.hid (three_row wr 40 r.d r.c r.A r.L.length r.q)
        have q1 : (wr.alloc (.cells #[.int .i64 r.d, .int .i64 r.c, .slice r.A r.L.length r.q] 40)).cell? ⟨G, 1, none⟩ = some (.slice (some ⟨g3, 0, none⟩) rs'.length c3) := HCA.out.bb.cell 1
        have hn1 : rs'.length + 1 ≤ maxLen := by unfold maxLen; omega
        have hn2 : (rs'.length + 1) * 40 ≤ 140737488355328 := by omega
        have hsA := HCA.out.fr.size
        clear hst hr hAL
        go_wp2_with fail
        go_region_law (first
          | (refine step_appR (wr.alloc (.cells #[.int .i64 r.d, .int .i64 r.c, .slice r.A r.L.length r.q] 40)).drew rfl (.tmp 61) (.tmp 66) _ rfl w.heap.size 40 j0 _ 3 40 Try.underlying24 hj0 jz js jb rfl (by decide) (.slice (some ⟨g3, 0, none⟩) rs'.length c3) rs'.length (rwsV rs') rfl HRA.out.ow wr.heap.size 0 1 1 _ rfl HRW.out (rowF_one _ _ _ _ _) hn1 hn2 hsA ?_; intro v' w' hown' hf'; obtain ⟨A7, c7, rfl⟩ := own_form hown'; have HC' := Lib.hid (HCA.out.app hgw HRA.out.ow (by decide) hf'); have HR' := Lib.hid (HRA.out.push (r := r) HSA.out hown' hf'); have m1 : w'.cell? ⟨G, 1, none⟩ = some (.slice (some ⟨g3, 0, none⟩) rs'.length c3) := HC'.out.bb.cell 1; have mf := fun j => HC'.out.bb.frozen j; clear hown' hf'))
        all_goals
          have e1 : (rs' ++ [r]).length = rs'.length + 1 := by simp
          obtain ⟨g7, cur7, rfl, _, _, _, _⟩ := RowsOk.at_ (c1 := c7) (A1 := A7) (rs := rs' ++ [r]) (by rw [e1]; exact HR'.out) (by omega)
          have HCS := Lib.hid (HC'.out.put hgw hGl hRG (.slice (some ⟨g7, 0, none⟩) (rs'.length + 1) c7))
          have HRS := Lib.hid (HR'.out.far HC'.out.bb (by decide) (by decide) 1 (.slice (some ⟨g7, 0, none⟩) (rs'.length + 1) c7))
          clear HC' HR' m1 mf q1 HCA HRA HSA HRW hsA hn1 hn2 e0 e1 e2 ef b1 bf
          go_wp2_with fail
          go_roundg (10 - (rs' ++ [r]).length)
          case measure => simp; omega
          case rel => exact ⟨g7, c7, rs' ++ [r], rfl, by simp; omega, by rw [List.length_append]; exact HCS, by rw [List.length_append]; exact HRS⟩
      · have l1 : ¬ (rs'.length : Int) ≤ 8 := by omega
        have b0 : wr.cell? ⟨G, 0, none⟩ = some (.int .i64 cl) := HC.out.bb.cell 0
        have r0 : wr.cell? ⟨w.heap.size, 0, none⟩ = some (.int .i64 0) := HC.out.rb.cell 0
        have r1 : wr.cell? ⟨w.heap.size, 1, none⟩ = some (.slice none 0 0) := HC.out.rb.cell 1
        have rf := fun j => HC.out.rb.frozen j
        go_wp2_with fail
        exact HEND.out _ cl (some ⟨g3, 0, none⟩) c3 rs' rs'.length _ y5 rfl HC.out HR.out (by omega) (by omega) _ rfl rfl
  have h5b : ((t : Int) == 5) = false := by rw [beq_eq_false_iff_ne]; omega
  have h5c : ¬ (t : Int) = 5 := by omega
  go_wp2_with fail
  exact HEND.out _ cl (some ⟨g2, 0, none⟩) c1 rs rs.length _ y5 rfl HC5.out HR5.out (by omega) (by omega) _ rfl rfl
end Go.Proofs.Ytacppheedleamaa
