/- Walks: charts and braids drawn from bytes; the columns after each row of a chart. No condition but the bounds. -/
import Derived.Test.YtacppheedleamaaDrJ
import Derived.Test.YtacppheedleamaaPicS
set_option linter.unusedVariables false
set_option linter.unusedSimpArgs false
namespace Go.Proofs.Ytacppheedleamaa
open Go.RowKit
set_option maxRecDepth 100000

/-- Bytes: their length and where they lie. -/
structure Code8 (w : World) (A : Option Addr) (n : Nat) (b : Nat → Int) : Prop where
  rd : Rd w A n (fun j => .int .u8 (b j))
  b : ∀ j, j < n → 0 ≤ b j ∧ b j < 256
  n : n ≤ 1048576
theorem Code8.below {w w' : World} {A : Option Addr} {n : Nat} {b : Nat → Int} (h : Code8 w A n b) (hb : Below w.heap.size w w') : Code8 w' A n b := ⟨h.rd.below hb, h.b, h.n⟩
theorem l00From_any (A : Option Addr) (n c : Nat) (b : Nat → Int) (w : World) (h : Code8 w A n b) :
    Calls Try.prog 26 #[.slice A n c] w fun e w' => e = .returned (.pointer (some ⟨w.heap.size, 0, none⟩)) ∧ Src w' w.heap.size A n c b 0 0 ∧ Below w.heap.size w w' := by
  have H := Lib.hid h
  clear h
  go_enter Try.func26, Try.ntmps26
  go_wp2_with fail
  go_ret
  have hb := (Below.refl w.heap.size w).alloc (Nat.le_refl _) (.cells #[.slice A n c, .int .i64 0, .int .u64 0] 87)
  exact ⟨rfl, ⟨Blk.at_ w _ _ rfl, by omega, H.out.rd.below hb, H.out.b, fun a h0 e => by
    obtain ⟨g, o, e2, hg, _⟩ := H.out.rd h0
    rw [e2] at e
    injection e with e
    subst e
    exact hg, H.out.n⟩, hb⟩
theorem drawn_fr {w w' : World} {g : Nat} {A : Option Addr} {n c : Nat} {b : Nat → Int} {i K : Nat} (h : Drawn w w' g A n c b i K) : Fr w w' (fun b => b = g) := by
  obtain ⟨_, _, _, _, hf⟩ := h
  exact hf
/-- What a draw of a chart leaves. -/
def ChP (w : World) (e : Ending) (w' : World) : Prop :=
  ∃ (cols : Int) (A1 : Option Addr) (c1 : Nat) (rs : List RwD), e = .returned (.agg #[.int .i64 cols, .slice A1 rs.length c1]) ∧ rs.length ≤ 9 ∧ (∀ r ∈ rs, r.L.length ≤ 20) ∧ RdRows A1 rs.length (dF rs) (cF rs) (AF rs) (nF rs) (qF rs) (zF rs) w' ∧ Below w.heap.size w w'
def BrP (w : World) (e : Ending) (w' : World) : Prop :=
  ∃ (s : Int) (A1 : Option Addr) (c1 : Nat) (L : List Int), e = .returned (.agg #[.int .i64 s, .slice A1 L.length c1]) ∧ L.length ≤ 41 ∧ Rd w' A1 L.length (fun j => .int .i64 (L.getD j 0)) ∧ Below w.heap.size w w'
theorem fr_below {w w1 w2 : World} (h1 : Below w.heap.size w w1) (h2 : Fr w1 w2 (fun b => b = w.heap.size)) : Below w.heap.size w w2 := h1.trans (h2.below h1.size fun b hb => by omega)
set_option maxHeartbeats 1000000 in
theorem drawFront_any (A : Option Addr) (n c : Nat) (b : Nat → Int) (w : World) (h : Code8 w A n b) :
    Calls Try.prog 16 #[.slice A n c] w (ChP w) := by
  have HB1 := Lib.hid ((Below.refl w.heap.size w).alloc (Nat.le_refl _) (.cells #[.int .i64 0, .slice none 0 0] 26))
  have HF := Lib.hid (l00From_any A n c b _ (h.below HB1.out))
  have HK := Lib.hid (Blk.at_ w 26 #[.int .i64 0, .slice none 0 0] rfl)
  clear h
  go_enter Try.func16, Try.ntmps16
  go_upto_region 1 with fail
  obtain ⟨w1, hw1⟩ : ∃ x, x = w.alloc (.cells #[.int .i64 0, .slice none 0 0] 26) := ⟨_, rfl⟩
  have hz1 : w.heap.size < w1.heap.size := by rw [hw1]; simp
  rw [← hw1] at HB1 HF HK ⊢
  clear hw1
  go_wp2_with fail
  refine HF.out.mono ?_
  rintro e w2 ⟨rfl, hs, hb⟩
  obtain ⟨i0, hi0, hs⟩ : ∃ i0 : Nat, i0 ≤ 5 ∧ Src w2 w1.heap.size A n c b i0 0 := ⟨0, Nat.zero_le _, hs⟩
  have HS := Lib.hid (l15Bent_any w1.heap.size A n c b i0 0 w2 hs (by omega))
  have HB2 := Lib.hid hb
  have HK2 := Lib.hid (HK.out.below hb HK.out.lt)
  have hz2 := hb.size
  clear hs hb HF HK
  go_wp2_with fail
  refine HS.out.mono ?_
  rintro e w3 ⟨cols, A1, c1, rs, rfl, hl, hr, hdr⟩
  have hf : Fr w2 w3 (fun b => b = w1.heap.size) := drawn_fr hdr
  clear hdr
  have HR := Lib.hid hr
  have HK3 := Lib.hid (HK2.out.fr hf (by omega))
  have HB3 := Lib.hid (HB1.out.trans ((fr_below HB2.out hf).mono (by omega)))
  clear hr hf HK2
  have r0 : w3.cell? ⟨w.heap.size, 0, none⟩ = some (.int .i64 0) := HK3.out.cell 0
  have r1 : w3.cell? ⟨w.heap.size, 1, none⟩ = some (.slice none 0 0) := HK3.out.cell 1
  have rf := fun j => HK3.out.frozen j
  have k1 : Blk ((w3.setCell ⟨w.heap.size, 0, none⟩ (.int .i64 cols)).setCell ⟨w.heap.size, 1, none⟩ (.slice A1 rs.length c1)) w.heap.size 26 #[.int .i64 cols, .slice A1 rs.length c1] := (HK3.out.set_ 0 (.int .i64 cols)).set_ 1 (.slice A1 rs.length c1)
  have g0 := k1.cell 0
  have g1 := k1.cell 1
  have hrF := (HR.out.far HK3.out (by decide) (by decide) 0 (.int .i64 cols)).far (HK3.out.set_ 0 (.int .i64 cols)) (by decide) (by decide) 1 (.slice A1 rs.length c1)
  have HRF := Lib.hid hrF
  clear k1 hrF
  simp only [List.getElem?_toArray, List.getElem?_cons_zero, List.getElem?_cons_succ] at g0 g1
  go_wp2_with fail
  exact bodyPost_ret (v := .agg #[.int .i64 cols, .slice A1 rs.length c1]) (by simp [results, Try.results16, go_sem, g0, g1]) rfl ⟨cols, A1, c1, rs, rfl, hl, fun r hr => (HR.out.st r hr).2, HRF.out.rd, (HB3.out.setCell (p := ⟨w.heap.size, 0, none⟩) (Nat.le_refl _) _).setCell (p := ⟨w.heap.size, 1, none⟩) (Nat.le_refl _) _⟩
set_option maxHeartbeats 1000000 in
theorem drawHandKnit_any (A : Option Addr) (n c : Nat) (b : Nat → Int) (w : World) (h : Code8 w A n b) :
    Calls Try.prog 6 #[.slice A n c] w (ChP w) := by
  have HB1 := Lib.hid ((Below.refl w.heap.size w).alloc (Nat.le_refl _) (.cells #[.int .i64 0, .slice none 0 0] 26))
  have HF := Lib.hid (l00From_any A n c b _ (h.below HB1.out))
  have HK := Lib.hid (Blk.at_ w 26 #[.int .i64 0, .slice none 0 0] rfl)
  clear h
  go_enter Try.func6, Try.ntmps6
  go_upto_region 1 with fail
  obtain ⟨w1, hw1⟩ : ∃ x, x = w.alloc (.cells #[.int .i64 0, .slice none 0 0] 26) := ⟨_, rfl⟩
  have hz1 : w.heap.size < w1.heap.size := by rw [hw1]; simp
  rw [← hw1] at HB1 HF HK ⊢
  clear hw1
  go_wp2_with fail
  refine HF.out.mono ?_
  rintro e w2 ⟨rfl, hs, hb⟩
  obtain ⟨i0, hi0, hs⟩ : ∃ i0 : Nat, i0 ≤ 5 ∧ Src w2 w1.heap.size A n c b i0 0 := ⟨0, Nat.zero_le _, hs⟩
  have HS := Lib.hid (l15Bent_any w1.heap.size A n c b i0 0 w2 hs (by omega))
  have HB2 := Lib.hid hb
  have HK2 := Lib.hid (HK.out.below hb HK.out.lt)
  have hz2 := hb.size
  clear hs hb HF HK
  go_wp2_with fail
  refine HS.out.mono ?_
  rintro e w3 ⟨cols, A1, c1, rs, rfl, hl, hr, hdr⟩
  have hf : Fr w2 w3 (fun b => b = w1.heap.size) := drawn_fr hdr
  clear hdr
  have HR := Lib.hid hr
  have HK3 := Lib.hid (HK2.out.fr hf (by omega))
  have HB3 := Lib.hid (HB1.out.trans ((fr_below HB2.out hf).mono (by omega)))
  clear hr hf HK2
  have r0 : w3.cell? ⟨w.heap.size, 0, none⟩ = some (.int .i64 0) := HK3.out.cell 0
  have r1 : w3.cell? ⟨w.heap.size, 1, none⟩ = some (.slice none 0 0) := HK3.out.cell 1
  have rf := fun j => HK3.out.frozen j
  have k1 : Blk ((w3.setCell ⟨w.heap.size, 0, none⟩ (.int .i64 cols)).setCell ⟨w.heap.size, 1, none⟩ (.slice A1 rs.length c1)) w.heap.size 26 #[.int .i64 cols, .slice A1 rs.length c1] := (HK3.out.set_ 0 (.int .i64 cols)).set_ 1 (.slice A1 rs.length c1)
  have g0 := k1.cell 0
  have g1 := k1.cell 1
  have hrF := (HR.out.far HK3.out (by decide) (by decide) 0 (.int .i64 cols)).far (HK3.out.set_ 0 (.int .i64 cols)) (by decide) (by decide) 1 (.slice A1 rs.length c1)
  have HRF := Lib.hid hrF
  clear k1 hrF
  simp only [List.getElem?_toArray, List.getElem?_cons_zero, List.getElem?_cons_succ] at g0 g1
  go_wp2_with fail
  exact bodyPost_ret (v := .agg #[.int .i64 cols, .slice A1 rs.length c1]) (by simp [results, Try.results6, go_sem, g0, g1]) rfl ⟨cols, A1, c1, rs, rfl, hl, fun r hr => (HR.out.st r hr).2, HRF.out.rd, (HB3.out.setCell (p := ⟨w.heap.size, 0, none⟩) (Nat.le_refl _) _).setCell (p := ⟨w.heap.size, 1, none⟩) (Nat.le_refl _) _⟩
set_option maxHeartbeats 1000000 in
theorem drawBraid_any (A : Option Addr) (n c : Nat) (b : Nat → Int) (w : World) (h : Code8 w A n b) :
    Calls Try.prog 21 #[.slice A n c] w (BrP w) := by
  have HB1 := Lib.hid ((Below.refl w.heap.size w).alloc (Nat.le_refl _) (.cells #[.int .i64 0, .slice none 0 0] 53))
  have HF := Lib.hid (l00From_any A n c b _ (h.below HB1.out))
  have HK := Lib.hid (Blk.at_ w 53 #[.int .i64 0, .slice none 0 0] rfl)
  clear h
  go_enter Try.func21, Try.ntmps21
  go_upto_region 1 with fail
  obtain ⟨w1, hw1⟩ : ∃ x, x = w.alloc (.cells #[.int .i64 0, .slice none 0 0] 53) := ⟨_, rfl⟩
  have hz1 : w.heap.size < w1.heap.size := by rw [hw1]; simp
  rw [← hw1] at HB1 HF HK ⊢
  clear hw1
  go_wp2_with fail
  refine HF.out.mono ?_
  rintro e w2 ⟨rfl, hs, hb⟩
  obtain ⟨i0, hi0, hs⟩ : ∃ i0 : Nat, i0 ≤ 5 ∧ Src w2 w1.heap.size A n c b i0 0 := ⟨0, Nat.zero_le _, hs⟩
  have HS := Lib.hid (l03Bent_any w1.heap.size A n c b i0 0 w2 hs (by omega))
  have HB2 := Lib.hid hb
  have HK2 := Lib.hid (HK.out.below hb HK.out.lt)
  have hz2 := hb.size
  clear hs hb HF HK
  go_wp2_with fail
  refine HS.out.mono ?_
  rintro e w3 ⟨cols, A1, c1, rs, rfl, _, hr, hl, hdr⟩
  have hf : Fr w2 w3 (fun b => b = w1.heap.size) := drawn_fr hdr
  clear hdr
  have HR := Lib.hid hr
  have HK3 := Lib.hid (HK2.out.fr hf (by omega))
  have HB3 := Lib.hid (HB1.out.trans ((fr_below HB2.out hf).mono (by omega)))
  clear hr hf HK2
  have r0 : w3.cell? ⟨w.heap.size, 0, none⟩ = some (.int .i64 0) := HK3.out.cell 0
  have r1 : w3.cell? ⟨w.heap.size, 1, none⟩ = some (.slice none 0 0) := HK3.out.cell 1
  have rf := fun j => HK3.out.frozen j
  have k1 : Blk ((w3.setCell ⟨w.heap.size, 0, none⟩ (.int .i64 cols)).setCell ⟨w.heap.size, 1, none⟩ (.slice A1 rs.length c1)) w.heap.size 53 #[.int .i64 cols, .slice A1 rs.length c1] := (HK3.out.set_ 0 (.int .i64 cols)).set_ 1 (.slice A1 rs.length c1)
  have g0 := k1.cell 0
  have g1 := k1.cell 1
  have HRF := Lib.hid (own_keep (w' := (w3.setCell ⟨w.heap.size, 0, none⟩ (.int .i64 cols)).setCell ⟨w.heap.size, 1, none⟩ (.slice A1 rs.length c1)) HR.out fun b hb => (Below.heap_setCell _ ⟨w.heap.size, 1, none⟩ _ b (by have := (HR.out.lt b hb).1; show b ≠ w.heap.size; omega)).trans (Below.heap_setCell _ ⟨w.heap.size, 0, none⟩ _ b (by have := (HR.out.lt b hb).1; show b ≠ w.heap.size; omega)))
  clear k1
  simp only [List.getElem?_toArray, List.getElem?_cons_zero, List.getElem?_cons_succ] at g0 g1
  go_wp2_with fail
  exact bodyPost_ret (v := .agg #[.int .i64 cols, .slice A1 rs.length c1]) (by simp [results, Try.results21, go_sem, g0, g1]) rfl ⟨cols, A1, c1, rs, rfl, hl, own_rdI HRF.out, (HB3.out.setCell (p := ⟨w.heap.size, 0, none⟩) (Nat.le_refl _) _).setCell (p := ⟨w.heap.size, 1, none⟩) (Nat.le_refl _) _⟩
theorem b10Long_any (A : Option Addr) (n c : Nat) (w : World) : Calls Try.prog 5 #[.slice A n c] w fun e w' => e = .returned (.bool (decide (1048576 < n))) ∧ w = w' := by
  by_cases h : 1048576 < n
  · have h1 : (1048576 : Int) < (n : Int) := by omega
    rw [decide_eq_true h]
    go_enter Try.func5, Try.ntmps5
    go_wp2_with fail
    go_ret
    exact ⟨rfl, rfl⟩
  · have h1 : ¬ (1048576 : Int) < (n : Int) := by omega
    rw [decide_eq_false h]
    go_enter Try.func5, Try.ntmps5
    go_wp2_with fail
    go_ret
    exact ⟨rfl, rfl⟩
end Go.Proofs.Ytacppheedleamaa
