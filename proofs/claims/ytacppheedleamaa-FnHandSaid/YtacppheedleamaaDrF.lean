/- Walk: braids drawn that are not always valid. No condition but the bounds. -/
import Derived.Test.YtacppheedleamaaDrE
import Derived.Test.YtacppheedleamaaAppStep
import Derived.IntWalk
import Derived.Deep.RegionHeld3
set_option linter.unusedVariables false
set_option linter.unusedSimpArgs false
namespace Go.Proofs.Ytacppheedleamaa
open Go.RowKit
set_option maxRecDepth 20000

theorem two_blk {w : World} {g : Nat} {t e : TypeId} {cs : Array Value} {B n size : Nat} {v : Value} {xs : List Value} (h : Blk w g t cs) (ho : w.ownsRow B e size v n xs) (hne : t ≠ e) : ¬ v.ownBlock = some g := fun hk => by
  rcases ho.2 with ⟨rfl, _⟩ | ⟨g2, cap, cur, rfl, _, hg, _⟩
  · cases hk
  · simp [Value.ownBlock] at hk
    subst hk
    have h2 : w.heap[g2]? = _ := h
    rw [hg] at h2
    simp only [Option.some.injEq, Obj.cells.injEq] at h2
    exact hne h2.2.1.symm
/-- A braid is being drawn: its block G, the result's block R. -/
structure BrS (w X : World) (R G g : Nat) (A : Option Addr) (n c : Nat) (b : Nat → Int) (i y : Nat) (s : Int) (v : Value) (L : List Int) : Prop where
  rb : Blk X R 53 #[.int .i64 0, .slice none 0 0]
  bb : Blk X G 53 #[.int .i64 s, v]
  ow : X.ownsRow w.heap.size 2 1 v L.length (ints L)
  src : Src X g A n c b i y
  fr : Fr w X (fun b => b = g)
section
variable {w X Y : World} {R G g : Nat} {A : Option Addr} {n c : Nat} {b : Nat → Int} {i i' y y' : Nat} {s : Int} {v : Value} {L : List Int}
theorem BrS.draw (h : BrS w X R G g A n c b i y s v L) (hg : g < w.heap.size) (hR : w.heap.size ≤ R) (hG : w.heap.size ≤ G) (hs : Src Y g A n c b i' y') (hf : Fr X Y (fun b => b = g)) : BrS w Y R G g A n c b i' y' s v L :=
  ⟨h.rb.fr hf (by omega), h.bb.fr hf (by omega), own_fr h.ow hf (fun k hk => by have := (h.ow.lt k hk).1; omega), hs, h.fr.trans hf⟩
theorem BrS.below (h : BrS w X R G g A n c b i y s v L) (hb : Below X.heap.size X Y) : BrS w Y R G g A n c b i y s v L :=
  ⟨h.rb.below hb h.rb.lt, h.bb.below hb h.bb.lt, own_below h.ow hb, h.src.below hb, h.fr.trans (Fr.of_below hb _)⟩
/-- Behind an append the word grows, in the same block or in a new one. -/
theorem BrS.app (h : BrS w X R G g A n c b i y s v L) (hg : g < w.heap.size) {v' : Value} {L' : List Int} (ho : Y.ownsRow w.heap.size 2 1 v' L'.length (ints L')) (hf : Fr X Y (fun b => v.ownBlock = some b)) :
    Blk Y R 53 #[.int .i64 0, .slice none 0 0] ∧ Blk Y G 53 #[.int .i64 s, v] ∧ Src Y g A n c b i y ∧ Fr w Y (fun b => b = g) := by
  have h1 := two_blk h.rb h.ow (by decide)
  have h2 := two_blk h.bb h.ow (by decide)
  have hl : Below w.heap.size X Y := hf.below h.fr.size (fun b hb => (h.ow.lt b hb).1)
  exact ⟨h.rb.fr hf h1, h.bb.fr hf h2, h.src.base hl hg, h.fr.then_below hl⟩
theorem BrS.put (hg : g < w.heap.size) (hR : w.heap.size ≤ R) (hG : w.heap.size ≤ G) (hRG : R ≠ G) {v' : Value} {L' : List Int} (h1 : Blk Y R 53 #[.int .i64 0, .slice none 0 0]) (h2 : Blk Y G 53 #[.int .i64 s, v]) (h3 : Src Y g A n c b i y) (h4 : Fr w Y (fun b => b = g)) (ho : Y.ownsRow w.heap.size 2 1 v' L'.length (ints L')) :
    BrS w (Y.setCell ⟨G, 1, none⟩ v') R G g A n c b i y s v' L' := by
  have hl : Below w.heap.size Y (Y.setCell ⟨G, 1, none⟩ v') := (Below.refl _ _).setCell (p := ⟨G, 1, none⟩) hG _
  have hne := two_blk h2 ho (by decide)
  refine ⟨h1.far hRG _, h2.set_ 1 v', ?_, h3.base hl hg, h4.then_below hl⟩
  exact own_keep ho fun b hb => Below.heap_setCell _ _ _ _ (fun e => hne (by rw [hb, e]))
theorem BrS.num (h : BrS w X R G g A n c b i y s v L) (hg : g < w.heap.size) (hG : w.heap.size ≤ G) (hRG : R ≠ G) (s' : Int) : BrS w (X.setCell ⟨G, 0, none⟩ (.int .i64 s')) R G g A n c b i y s' v L := by
  have hl : Below w.heap.size X (X.setCell ⟨G, 0, none⟩ (.int .i64 s')) := (Below.refl _ _).setCell (p := ⟨G, 0, none⟩) hG _
  have hne := two_blk h.bb h.ow (by decide)
  refine ⟨h.rb.far hRG _, h.bb.set_ 0 _, ?_, h.src.base hl hg, h.fr.then_below hl⟩
  exact own_keep h.ow fun b hb => Below.heap_setCell _ _ _ _ (fun e => hne (by rw [hb, e]))
/-- The result is laid. -/
theorem BrS.fin (h : BrS w X R G g A n c b i y s v L) (hg : g < w.heap.size) (hR : w.heap.size ≤ R) :
    Blk ((X.setCell ⟨R, 0, none⟩ (.int .i64 s)).setCell ⟨R, 1, none⟩ v) R 53 #[.int .i64 s, v] ∧ ((X.setCell ⟨R, 0, none⟩ (.int .i64 s)).setCell ⟨R, 1, none⟩ v).ownsRow w.heap.size 2 1 v L.length (ints L) ∧ Src ((X.setCell ⟨R, 0, none⟩ (.int .i64 s)).setCell ⟨R, 1, none⟩ v) g A n c b i y ∧ Fr w ((X.setCell ⟨R, 0, none⟩ (.int .i64 s)).setCell ⟨R, 1, none⟩ v) (fun b => b = g) := by
  have hl : Below w.heap.size X ((X.setCell ⟨R, 0, none⟩ (.int .i64 s)).setCell ⟨R, 1, none⟩ v) := ((Below.refl _ _).setCell (p := ⟨R, 0, none⟩) hR _).setCell (p := ⟨R, 1, none⟩) hR _
  have hne := two_blk h.rb h.ow (by decide)
  refine ⟨(h.rb.set_ 0 _).set_ 1 _, own_keep h.ow fun b hb => ?_, h.src.base hl hg, h.fr.then_below hl⟩
  have e0 : ¬ b = R := fun e => hne (by rw [hb, e])
  exact (Below.heap_setCell _ ⟨R, 1, none⟩ _ _ e0).trans (Below.heap_setCell _ ⟨R, 0, none⟩ _ _ e0)
end
theorem one_row (w : World) (t : TypeId) (k : Int) : RowR (w.alloc (.cells #[.int .i64 k] t)) w.heap.size 0 (1 * 1) (fun _ => .int .i64 k) := fun j hj => by
  obtain rfl : j = 0 := by omega
  exact cell_alloc_at rfl 0
set_option maxHeartbeats 16000000 in
theorem l03Bent_any (g : Nat) (A : Option Addr) (n c : Nat) (b : Nat → Int) (i x : Nat) (w : World) (h : Src w g A n c b i x) (hi : i < 1152921504606846976) :
    Calls Try.prog 43 #[.pointer (some ⟨g, 0, none⟩), .int .i64 10] w (DrBr w g A n c b i 110 41) := by
  obtain ⟨i0, hi0, iz, is, ib⟩ := info_parts infoD
  have hgw := h.blk.lt
  have hblk := Blk.at_ w 53 #[.int .i64 0, .slice none 0 0] rfl
  obtain ⟨w1, hw1⟩ : ∃ w1, w1 = w.alloc (.cells #[.int .i64 0, .slice none 0 0] 53) := ⟨_, rfl⟩
  have HB1 := Lib.hid (show Below w.heap.size w w1 by rw [hw1]; exact (Below.refl _ _).alloc (Nat.le_refl _) _)
  rw [← hw1] at hblk
  have HK1 := Lib.hid hblk
  have hz1 := hblk.lt
  have HDR := Lib.hid (l03Draw_any g A n c b i x w1 (h.below HB1.out) hi)
  clear h hblk
  go_enter Try.func43, Try.ntmps43
  go_upto_region 1 with fail
  rw [← hw1]
  clear hw1
  go_wp2_with fail
  refine HDR.out.mono ?_
  rintro e w2 ⟨s, A5, c5, L, rfl, hs, ho, hl, i2, y2, hs2, hi2, hf2⟩
  obtain ⟨G, hG⟩ : ∃ G, G = w2.heap.size := ⟨_, rfl⟩
  have hz2 : w1.heap.size ≤ w2.heap.size := hf2.size
  have HA2 := (Below.refl w2.heap.size w2).alloc (Nat.le_refl _) (.cells #[.int .i64 s, .slice A5 L.length c5] 53)
  have HST := Lib.hid (show BrS w (w2.alloc (.cells #[.int .i64 s, .slice A5 L.length c5] 53)) w.heap.size G g A n c b i2 y2 s (.slice A5 L.length c5) L from
    ⟨(HK1.out.fr hf2 (by omega)).alloc _, by rw [hG]; exact Blk.at_ w2 _ _ rfl, own_below (own_base ho (by omega)) HA2, hs2.below HA2, ((Fr.of_below HB1.out _).trans hf2).trans (Fr.of_below HA2 _)⟩)
  have hRG : w.heap.size ≠ G := by omega
  have hGl : w.heap.size ≤ G := by omega
  clear ho hs2 hf2 HDR HK1 HA2
  go_upto_region 2 with fail
  rw [← hG]
  obtain ⟨w3, hw3⟩ : ∃ w3, w3 = w2.alloc (.cells #[.int .i64 s, .slice A5 L.length c5] 53) := ⟨_, rfl⟩
  rw [← hw3] at HST ⊢
  clear hw3
  go_wp2_with fail
  refine (src_pickS 14 (by omega) (by omega) g A n c b i2 y2 _ HST.out.src (by omega)).mono ?_
  rintro e w4 ⟨u4, y4, rfl, hu4, hs4, hf4, _⟩
  obtain ⟨t, ht⟩ : ∃ t, t = u4 % 14 := ⟨_, rfl⟩
  have ht14 : t < 14 := by omega
  rw [← ht]
  have HS4 := Lib.hid (HST.out.draw hgw (Nat.le_refl _) hGl hs4 hf4)
  clear hs4 hf4 ht HST hG hz2
  have hEND : ∀ (X : World) (s' : Int) (v' : Value) (L' : List Int) (i' y' : Nat), BrS w X w.heap.size G g A n c b i' y' s' v' L' → -1 ≤ s' → s' ≤ 13 → L'.length ≤ 41 → i' ≤ i + 110 → ∀ a : Act, a.tmps[4]?.getD undef = .pointer (some ⟨w.heap.size, 0, none⟩) → a.defers = [] → bodyPost Try.prog Try.f43 (DrBr w g A n c b i 110 41) Exit.ret a ((X.setCell ⟨w.heap.size, 0, none⟩ (.int .i64 s')).setCell ⟨w.heap.size, 1, none⟩ v') := fun X s' v' L' i' y' hX h1 h2 h3 h4 a ha hd => by
    obtain ⟨k1, k2, k3, k4⟩ := hX.fin hgw (Nat.le_refl _)
    obtain ⟨A', c', rfl⟩ := own_form k2
    have g0 : ((X.setCell ⟨w.heap.size, 0, none⟩ (.int .i64 s')).setCell ⟨w.heap.size, 1, none⟩ (.slice A' L'.length c')).cell? ⟨w.heap.size, 0, none⟩ = some (.int .i64 s') := k1.cell 0
    have g1 : ((X.setCell ⟨w.heap.size, 0, none⟩ (.int .i64 s')).setCell ⟨w.heap.size, 1, none⟩ (.slice A' L'.length c')).cell? ⟨w.heap.size, 1, none⟩ = some (.slice A' L'.length c') := k1.cell 1
    exact bodyPost_ret (v := .agg #[.int .i64 s', .slice A' L'.length c']) (by simp [results, Try.results43, go_sem, g0, g1, ha]) hd ⟨s', A', c', L', rfl, ⟨h1, h2⟩, k2, h3, i', y', k3, h4, k4⟩
  have HEND := Lib.hid hEND
  clear hEND
  by_cases h0 : t = 0
  · subst h0
    have HA4 := Lib.hid ((Below.refl w4.heap.size w4).alloc (Nat.le_refl _) (.cells #[.int .i64 (-1), .int .i64 12, .int .i64 13, .int .i64 1] 2))
    have HAM := Lib.hid (src_among [-1, 12, 13, 1] (some ⟨w4.heap.size, 0, none⟩) 4 (by decide) (by decide) g A n c b (i2 + 1) y4 _ (HS4.out.src.below HA4.out) (by omega) (rdI_lit w4 2 _ _ rfl) (fun a e => by injection e with e; subst e; have := HS4.out.src.blk.lt; show w4.heap.size ≠ g; omega))
    go_wp2_with fail
    refine HAM.out.mono ?_
    rintro e w5 ⟨u5, y5, rfl, hu5, hs5, hf5, _⟩
    have hkd : -1 ≤ ([-1, 12, 13, 1] : List Int).getD (u5 % 4) 0 ∧ ([-1, 12, 13, 1] : List Int).getD (u5 % 4) 0 ≤ 13 := by
      have h : ∀ t, t < 4 → -1 ≤ ([-1, 12, 13, 1] : List Int).getD t 0 ∧ ([-1, 12, 13, 1] : List Int).getD t 0 ≤ 13 := by decide
      exact h _ (Nat.mod_lt _ (by omega))
    obtain ⟨kd, hk⟩ : ∃ k, k = ([-1, 12, 13, 1] : List Int).getD (u5 % ([-1, 12, 13, 1] : List Int).length) 0 := ⟨_, rfl⟩
    have hkd' : -1 ≤ kd ∧ kd ≤ 13 := by rw [hk]; exact hkd
    rw [← hk]
    have HS5 := Lib.hid ((HS4.out.below HA4.out).draw hgw (Nat.le_refl _) hGl hs5 hf5)
    have b0 : w5.cell? ⟨G, 0, none⟩ = some (.int .i64 s) := HS5.out.bb.cell 0
    have b1 : w5.cell? ⟨G, 1, none⟩ = some (.slice A5 L.length c5) := HS5.out.bb.cell 1
    have bf := fun j => HS5.out.bb.frozen j
    have r0 : w5.cell? ⟨w.heap.size, 0, none⟩ = some (.int .i64 0) := HS5.out.rb.cell 0
    have r1 : w5.cell? ⟨w.heap.size, 1, none⟩ = some (.slice none 0 0) := HS5.out.rb.cell 1
    have rf := fun j => HS5.out.rb.frozen j
    clear hs5 hf5 hk hkd HAM HS4
    go_wp2_with fail
    exact HEND.out _ kd (.slice A5 L.length c5) L _ y5 (HS5.out.num hgw hGl hRG kd) hkd'.1 hkd'.2 (by omega) (by omega) _ rfl rfl
  have h0b : ((t : Int) == 0) = false := by rw [beq_eq_false_iff_ne]; omega
  have h0c : ¬ (t : Int) = 0 := by omega
  have b0 : w4.cell? ⟨G, 0, none⟩ = some (.int .i64 s) := HS4.out.bb.cell 0
  have b1 : w4.cell? ⟨G, 1, none⟩ = some (.slice A5 L.length c5) := HS4.out.bb.cell 1
  have bf := fun j => HS4.out.bb.frozen j
  have r0 : w4.cell? ⟨w.heap.size, 0, none⟩ = some (.int .i64 0) := HS4.out.rb.cell 0
  have r1 : w4.cell? ⟨w.heap.size, 1, none⟩ = some (.slice none 0 0) := HS4.out.rb.cell 1
  have rf := fun j => HS4.out.rb.frozen j
  by_cases h1 : t = 1
  · subst h1
    go_upto_region 6 with fail
    have HA4 := Lib.hid (((Below.refl w4.heap.size w4).alloc (Nat.le_refl _) (.cells #[.int .i64 0, .int .i64 s, .int .i64 (IntKind.i64.wrap (-s)), .int .i64 (-9223372036854775808)] 2)).drew)
    have HAM := Lib.hid (src_among [0, s, IntKind.i64.wrap (-s), -9223372036854775808] (some ⟨w4.heap.size, 0, none⟩) 4 (by simp) (by simp) g A n c b (i2 + 1) y4 _ (HS4.out.src.below HA4.out) (by omega) ((rdI_lit w4 2 _ _ rfl).below ((Below.refl _ _).drew)) (fun a e => by injection e with e; subst e; have := HS4.out.src.blk.lt; show w4.heap.size ≠ g; omega))
    have hm1 : L.length + 1 ≤ maxLen := by unfold maxLen; omega
    have hm2 : (L.length + 1) * 8 ≤ 140737488355328 := by omega
    have q0 : (w4.alloc (.cells #[.int .i64 0, .int .i64 s, .int .i64 (IntKind.i64.wrap (-s)), .int .i64 (-9223372036854775808)] 2)).cell? ⟨G, 0, none⟩ = some (.int .i64 s) := (HS4.out.bb.alloc _).cell 0
    have q1 : (w4.alloc (.cells #[.int .i64 0, .int .i64 s, .int .i64 (IntKind.i64.wrap (-s)), .int .i64 (-9223372036854775808)] 2)).cell? ⟨G, 1, none⟩ = some (.slice A5 L.length c5) := (HS4.out.bb.alloc _).cell 1
    go_region_law (first
      | (go_simp; go_at_call 51; refine HAM.out.mono ?_; rintro e w5 ⟨u5, y5, rfl, hu5, hs5, hf5, _⟩; obtain ⟨kd, hk⟩ : ∃ k, k = ([0, s, IntKind.i64.wrap (-s), -9223372036854775808] : List Int).getD (u5 % ([0, s, IntKind.i64.wrap (-s), -9223372036854775808] : List Int).length) 0 := ⟨_, rfl⟩; rw [← hk]; have HS5 := Lib.hid ((HS4.out.below HA4.out).draw hgw (Nat.le_refl _) hGl hs5 hf5); have HS6 := Lib.hid (HS5.out.below ((Below.refl w5.heap.size w5).alloc (Nat.le_refl _) (.cells #[.int .i64 kd] 2))); have HR6 := Lib.hid (one_row w5 2 kd); have k0 : w5.cell? ⟨G, 0, none⟩ = some (.int .i64 s) := HS5.out.bb.cell 0; have k1 : w5.cell? ⟨G, 1, none⟩ = some (.slice A5 L.length c5) := HS5.out.bb.cell 1; have k2 : (w5.alloc (.cells #[.int .i64 kd] 2)).cell? ⟨G, 0, none⟩ = some (.int .i64 s) := (HS5.out.bb.alloc _).cell 0; have k3 : (w5.alloc (.cells #[.int .i64 kd] 2)).cell? ⟨G, 1, none⟩ = some (.slice A5 L.length c5) := (HS5.out.bb.alloc _).cell 1; clear hs5 hf5 hk)
      | (refine step_appR (w5.alloc (.cells #[.int .i64 kd] 2)) rfl (.tmp 20) (.tmp 29) _ rfl w.heap.size 2 i0 _ 1 8 Try.underlying38 hi0 iz is ib rfl (Nat.le_refl 1) (.slice A5 L.length c5) L.length (ints L) rfl HS6.out.ow w5.heap.size 0 1 1 (fun _ => .int .i64 kd) rfl HR6.out (fun _ => rfl) hm1 hm2 HS6.out.fr.size ?_; intro v' w' hown' hf'; obtain ⟨A6, c6, rfl⟩ := own_form hown'; have ho' : w'.ownsRow w.heap.size 2 1 (.slice A6 (L.length + 1) c6) (L ++ [kd]).length (ints (L ++ [kd])) := by rw [List.length_append, ints_app]; exact hown'
         obtain ⟨e1, e2, e3, e4⟩ := HS6.out.app hgw ho' hf'; have HB9 := Lib.hid e2; have HP9 := Lib.hid (BrS.put hgw (Nat.le_refl _) hGl hRG e1 e2 e3 e4 ho'); have m0 : w'.cell? ⟨G, 0, none⟩ = some (.int .i64 s) := e2.cell 0; have m1 : w'.cell? ⟨G, 1, none⟩ = some (.slice A5 L.length c5) := e2.cell 1; have mf := fun j => e2.frozen j; clear e1 e2 e3 e4 ho' hown' hf'))
    all_goals
      have p0 : _ = some (Value.int .i64 0) := HP9.out.rb.cell 0
      have p1 : _ = some (Value.slice none 0 0) := HP9.out.rb.cell 1
      have pf := fun j => HP9.out.rb.frozen j
      have p2 : _ = some (Value.int .i64 s) := HP9.out.bb.cell 0
      have p3 : _ = some (Value.slice A6 (L.length + 1) c6) := HP9.out.bb.cell 1
      go_wp2_with fail
      exact HEND.out _ s (.slice A6 (L.length + 1) c6) (L ++ [kd]) _ y5 HP9.out (by omega) (by omega) (by simp; omega) (by omega) _ rfl rfl
  have h1b : ((t : Int) == 1) = false := by rw [beq_eq_false_iff_ne]; omega
  have h1c : ¬ (t : Int) = 1 := by omega
  by_cases h2 : t = 2
  · subst h2
    go_upto_region 8 with fail
    go_loopg [] (42 - L.length) (fun gh wr => ∃ (A2 : Option Addr) (c2 : Nat) (L2 : List Int), gh = 42 - L2.length ∧ L2.length ≤ 41 ∧ Hid (BrS w wr w.heap.size G g A n c b (i2 + 1) y4 s (.slice A2 L2.length c2) L2))
    case atStart => exact ⟨A5, c5, L, rfl, by omega, HS4⟩
    case round =>
      clear HS4 b0 b1 bf r0 r1 rf
      obtain ⟨A2, c2, L2, hgk, h41, HB⟩ := hrel
      have hsz := HB.out.fr.size
      have b1 : wr.cell? ⟨G, 1, none⟩ = some (.slice A2 L2.length c2) := HB.out.bb.cell 1
      have bf := fun j => HB.out.bb.frozen j
      by_cases hlt : L2.length ≤ 40
      · have l1 : (L2.length : Int) ≤ 40 := by omega
        go_wp2_with (at_builtin; go_must (refine wpList_appG wr rfl (.tmp 39) (.tmp 40) _ rfl w.heap.size 2 i0 _ 1 8 Try.underlying38 hi0 iz is ib rfl (by omega) (.slice A2 L2.length c2) L2.length (ints L2) rfl HB.out.ow _ 1 1 _ rfl rfl (by simp [Value.oneCell']) (by unfold maxLen; omega) (by omega) hsz ?_); intro v' w' hown' hf'; obtain ⟨A6, c6, rfl⟩ := own_form hown'; have ho' : w'.ownsRow w.heap.size 2 1 (.slice A6 (L2.length + 1) c6) (L2 ++ [1]).length (ints (L2 ++ [1])) := by rw [List.length_append, ints_app]; exact hown'
                     obtain ⟨e1, e2, e3, e4⟩ := HB.out.app hgw ho' hf'; have HP9 := Lib.hid (BrS.put hgw (Nat.le_refl _) hGl hRG e1 e2 e3 e4 ho'); have m1 : w'.cell? ⟨G, 1, none⟩ = some (.slice A2 L2.length c2) := e2.cell 1; have mf := fun j => e2.frozen j; clear e1 e2 e3 e4 ho' hown' hf')
        go_roundg (42 - (L2 ++ [1]).length)
        case measure => simp; omega
        case rel => exact ⟨A6, c6, L2 ++ [1], rfl, by simp; omega, by rw [List.length_append]; exact HP9⟩
      · have l1 : ¬ (L2.length : Int) ≤ 40 := by omega
        have h41' : L2.length = 41 := by omega
        obtain ⟨g6, rfl, hcap⟩ : ∃ g6, A2 = some ⟨g6, 0, none⟩ ∧ L2.length ≤ c2 := by
          rcases HB.out.ow.2 with ⟨e, h0⟩ | ⟨g6, cap, cur, e, _, _, hnc, _⟩
          · omega
          · injection e with e1 _ e3
            exact ⟨g6, e1, by omega⟩
        go_upto_region 10 with fail
        have HPK := Lib.hid (src_pickS 3 (by omega) (by omega) g A n c b (i2 + 1) y4 _ (HB.out.src.below ((Below.refl wr.heap.size wr).drew)) (by omega))
        have HSS := Lib.hid (show ∀ u : Nat, ∃ t : Nat, t = u % 3 ∧ t < 3 ∧ IntKind.i64.wrap (39 + (t : Int)) = 39 + (t : Int) ∧ (0 : Int) ≤ 39 + (t : Int) ∧ 39 + (t : Int) ≤ (c2 : Int) from fun u => ⟨u % 3, rfl, by omega, IntWalk.i64_in _ (by omega), by omega, by omega⟩)
        go_region_law (first | (go_simp; go_at_call 50; refine HPK.out.mono ?_; rintro e w5 ⟨u5, y5, rfl, hu5, hs5, hf5, _⟩; obtain ⟨t5, ht5, ht6, s0, s1, s2⟩ := HSS.out u5; rw [← ht5]; have HS5 := Lib.hid ((HB.out.below ((Below.refl wr.heap.size wr).drew)).draw hgw (Nat.le_refl _) hGl hs5 hf5); have k1 : w5.cell? ⟨G, 1, none⟩ = some (.slice (some ⟨g6, 0, none⟩) L2.length c2) := HS5.out.bb.cell 1; have kf := fun j => HS5.out.bb.frozen j; clear hs5 hf5 ht5))
        all_goals
          have htn : (39 + (t5 : Int)).toNat = 39 + t5 := by omega
          rw [htn]
          have ho' : w5.ownsRow w.heap.size 2 1 (.slice (some ⟨g6, 0, none⟩) (39 + t5) c2) (L2.take (39 + t5)).length (ints (L2.take (39 + t5))) := by
            rw [List.length_take, Nat.min_eq_left (by omega), ints, List.map_take]
            exact own_take' HS5.out.ow (by omega)
          have HP9 := Lib.hid (BrS.put hgw (Nat.le_refl _) hGl hRG HS5.out.rb HS5.out.bb HS5.out.src HS5.out.fr ho')
          have p0 : _ = some (Value.int .i64 0) := HP9.out.rb.cell 0
          have p1 : _ = some (Value.slice none 0 0) := HP9.out.rb.cell 1
          have pf := fun j => HP9.out.rb.frozen j
          have p2 : _ = some (Value.int .i64 s) := HP9.out.bb.cell 0
          have p3 : _ = some (Value.slice (some ⟨g6, 0, none⟩) (39 + t5) c2) := HP9.out.bb.cell 1
          clear ho' htn s0 s1 s2
          go_wp2_with fail
          exact HEND.out _ s (.slice (some ⟨g6, 0, none⟩) (39 + t5) c2) (L2.take (39 + t5)) _ y5 HP9.out (by omega) (by omega) (by simp; omega) (by omega) _ rfl rfl
  have h2b : ((t : Int) == 2) = false := by rw [beq_eq_false_iff_ne]; omega
  have h2c : ¬ (t : Int) = 2 := by omega
  go_wp2_with fail
  exact HEND.out _ s (.slice A5 L.length c5) L _ y4 HS4.out (by omega) (by omega) (by omega) (by omega) _ rfl rfl
end Go.Proofs.Ytacppheedleamaa
