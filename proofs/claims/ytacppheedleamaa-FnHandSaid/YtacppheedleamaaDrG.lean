/- Walks: rows of stitches drawn. No condition but the bounds. -/
import Derived.Test.YtacppheedleamaaDrF
import Derived.Test.YtacppheedleamaaAppAt
set_option linter.unusedVariables false
set_option linter.unusedSimpArgs false
namespace Go.Proofs.Ytacppheedleamaa
open Go.RowKit
set_option maxRecDepth 20000

/-- A row and the columns' stacks behind it, drawn. -/
def RowQ (w : World) (g : Nat) (A : Option Addr) (n c : Nat) (b : Nat → Int) (i K : Nat) (d cr : Int) (e : Ending) (w' : World) : Prop :=
  ∃ (A1 : Option Addr) (c1 : Nat) (L : List Int) (A2 : Option Addr) (n2 c2 : Nat) (S : Nat → Int), e = .returned (.tuple #[.agg #[.int .i64 d, .int .i64 cr, .slice A1 L.length c1], .slice A2 n2 c2]) ∧ w'.ownsRow w.heap.size 2 1 (.slice A1 L.length c1) L.length (ints L) ∧ L.length ≤ 16 ∧ n2 ≤ 8 ∧ Rd w' A2 n2 (fun j => .int .i64 (S j)) ∧ Ab A2 w.heap.size ∧ Drawn w w' g A n c b i K
/-- A row is being drawn: the result's block R, its own block G. -/
structure RwS (w X : World) (R G g : Nat) (A : Option Addr) (n c : Nat) (b : Nat → Int) (i y : Nat) (d cr : Int) (v : Value) : Prop where
  rb : Blk X R 40 #[.int .i64 0, .int .i64 0, .slice none 0 0]
  bb : Blk X G 40 #[.int .i64 d, .int .i64 cr, v]
  src : Src X g A n c b i y
  fr : Fr w X (fun b => b = g)
section
variable {w X Y : World} {R G g : Nat} {A : Option Addr} {n c : Nat} {b : Nat → Int} {i i' y y' : Nat} {d cr : Int} {v : Value}
theorem RwS.draw (h : RwS w X R G g A n c b i y d cr v) (hg : g < w.heap.size) (hR : w.heap.size ≤ R) (hG : w.heap.size ≤ G) (hs : Src Y g A n c b i' y') (hf : Fr X Y (fun b => b = g)) : RwS w Y R G g A n c b i' y' d cr v :=
  ⟨h.rb.fr hf (by omega), h.bb.fr hf (by omega), hs, h.fr.trans hf⟩
theorem RwS.below (h : RwS w X R G g A n c b i y d cr v) (hb : Below X.heap.size X Y) : RwS w Y R G g A n c b i y d cr v :=
  ⟨h.rb.below hb h.rb.lt, h.bb.below hb h.bb.lt, h.src.below hb, h.fr.trans (Fr.of_below hb _)⟩
theorem RwS.put (h : RwS w X R G g A n c b i y d cr v) (hg : g < w.heap.size) (hG : w.heap.size ≤ G) (hRG : R ≠ G) (v' : Value) : RwS w (X.setCell ⟨G, 2, none⟩ v') R G g A n c b i y d cr v' := by
  have hl : Below w.heap.size X (X.setCell ⟨G, 2, none⟩ v') := (Below.refl _ _).setCell (p := ⟨G, 2, none⟩) hG _
  exact ⟨h.rb.far hRG _, h.bb.set_ 2 v', h.src.base hl hg, h.fr.then_below hl⟩
theorem RwS.app (h : RwS w X R G g A n c b i y d cr v) (hg : g < w.heap.size) {e : TypeId} {sz m : Nat} {v0 : Value} {xs : List Value} (ho : X.ownsRow w.heap.size e sz v0 m xs) (hne : 40 ≠ e) (hf : Fr X Y (fun b => v0.ownBlock = some b)) : RwS w Y R G g A n c b i y d cr v := by
  have h1 := two_blk h.rb ho hne
  have h2 := two_blk h.bb ho hne
  have hl : Below w.heap.size X Y := hf.below h.fr.size (fun b hb => (ho.lt b hb).1)
  exact ⟨h.rb.fr hf h1, h.bb.fr hf h2, h.src.base hl hg, h.fr.then_below hl⟩
theorem RwS.fin (h : RwS w X R G g A n c b i y d cr v) (hg : g < w.heap.size) (hR : w.heap.size ≤ R) :
    Blk (((X.setCell ⟨R, 0, none⟩ (.int .i64 d)).setCell ⟨R, 1, none⟩ (.int .i64 cr)).setCell ⟨R, 2, none⟩ v) R 40 #[.int .i64 d, .int .i64 cr, v] ∧ Src (((X.setCell ⟨R, 0, none⟩ (.int .i64 d)).setCell ⟨R, 1, none⟩ (.int .i64 cr)).setCell ⟨R, 2, none⟩ v) g A n c b i y ∧ Fr w (((X.setCell ⟨R, 0, none⟩ (.int .i64 d)).setCell ⟨R, 1, none⟩ (.int .i64 cr)).setCell ⟨R, 2, none⟩ v) (fun b => b = g) := by
  have hl : Below w.heap.size X (((X.setCell ⟨R, 0, none⟩ (.int .i64 d)).setCell ⟨R, 1, none⟩ (.int .i64 cr)).setCell ⟨R, 2, none⟩ v) := (((Below.refl _ _).setCell (p := ⟨R, 0, none⟩) hR _).setCell (p := ⟨R, 1, none⟩) hR _).setCell (p := ⟨R, 2, none⟩) hR _
  exact ⟨((h.rb.set_ 0 _).set_ 1 _).set_ 2 _, h.src.base hl hg, h.fr.then_below hl⟩
end
theorem far3 (X : World) (R : Nat) (u0 u1 u2 : Value) {k : Nat} (hk : k ≠ R) : (((X.setCell ⟨R, 0, none⟩ u0).setCell ⟨R, 1, none⟩ u1).setCell ⟨R, 2, none⟩ u2).heap[k]? = X.heap[k]? :=
  ((Below.heap_setCell _ ⟨R, 2, none⟩ u2 k hk).trans (Below.heap_setCell _ ⟨R, 1, none⟩ u1 k hk)).trans (Below.heap_setCell _ ⟨R, 0, none⟩ u0 k hk)
theorem Rd.blk {w w' : World} {A : Option Addr} {n : Nat} {f : Nat → Value} (h : Rd w A n f) (hz : w.heap.size ≤ w'.heap.size) (hb : ∀ a, A = some a → a.block < w.heap.size → w'.heap[a.block]? = w.heap[a.block]?) : Rd w' A n f := fun h0 => by
  obtain ⟨ga, o, rfl, hg, hr⟩ := h h0
  exact ⟨ga, o, rfl, by omega, fun j hj => (World.cell?_of_block (w := w) (a := ⟨ga, o + j, none⟩) (hb ⟨ga, o, none⟩ rfl hg)).trans (hr j hj)⟩
set_option maxHeartbeats 16000000 in
theorem l15DrawRow_any (d cr : Int) (hd : dirB d = true) (As : Option Addr) (m ca : Nat) (S : Nat → Int) (hm : m ≤ 8) (g : Nat) (A : Option Addr) (n c : Nat) (b : Nat → Int) (i x : Nat) (w : World) (h : Src w g A n c b i x) (hi : i < 1152921504606846976) (hs : Rd w As m (fun j => .int .i64 (S j))) (hA : ∀ a, As = some a → a.block ≠ g) :
    Calls Try.prog 81 #[.pointer (some ⟨g, 0, none⟩), .slice As m ca, .int .i64 d, .int .i64 cr] w (RowQ w g A n c b i 211106232532992 d cr) := by
  obtain ⟨i0, hi0, iz, is, ib⟩ := info_parts infoD
  have hgw := h.blk.lt
  obtain ⟨w1, hw1⟩ : ∃ w1, w1 = (w.alloc (.cells #[.int .i64 0, .int .i64 0, .slice none 0 0] 40)).alloc (.cells #[.int .i64 d, .int .i64 cr, .slice none 0 0] 40) := ⟨_, rfl⟩
  have HB1 := Lib.hid (show Below w.heap.size w w1 by rw [hw1]; exact ((Below.refl _ _).alloc (Nat.le_refl _) _).alloc (by simp) _)
  have HS1 := Lib.hid (show RwS w w1 w.heap.size (w.heap.size + 1) g A n c b i x d cr (.slice none 0 0) from
    ⟨by rw [hw1]; exact (Blk.at_ w _ _ rfl).alloc _, by rw [hw1]; exact (by simpa using Blk.at_ (w.alloc (.cells #[.int .i64 0, .int .i64 0, .slice none 0 0] 40)) 40 #[.int .i64 d, .int .i64 cr, .slice none 0 0] rfl), h.below HB1.out, Fr.of_below HB1.out _⟩)
  have HRS := Lib.hid hs
  have HRA := Lib.hid hA
  clear h hs hA
  have hEND : ∀ (X : World) (A1 : Option Addr) (c1 : Nat) (L : List Int) (A2 : Option Addr) (n2 c2 : Nat) (F : Nat → Int) (i' y' : Nat), RwS w X w.heap.size (w.heap.size + 1) g A n c b i' y' d cr (.slice A1 L.length c1) → X.ownsRow (w.heap.size + 2) 2 1 (.slice A1 L.length c1) L.length (ints L) → L.length ≤ 16 → n2 ≤ 8 → Rd X A2 n2 (fun j => .int .i64 (F j)) → Ab A2 (w.heap.size + 2) → i' ≤ i + 211106232532992 → ∀ a : Act, a.tmps[8]?.getD undef = .pointer (some ⟨w.heap.size, 0, none⟩) → a.tmps[9]?.getD undef = .slice A2 n2 c2 → a.defers = [] → bodyPost Try.prog Try.f81 (RowQ w g A n c b i 211106232532992 d cr) Exit.ret a (((X.setCell ⟨w.heap.size, 0, none⟩ (.int .i64 d)).setCell ⟨w.heap.size, 1, none⟩ (.int .i64 cr)).setCell ⟨w.heap.size, 2, none⟩ (.slice A1 L.length c1)) := fun X A1 c1 L A2 n2 c2 F i' y' hX ho hl hn hr hab hi' a ha hb2 hdf => by
    obtain ⟨k1, k3, k4⟩ := hX.fin hgw (Nat.le_refl _)
    have g0 := k1.cell 0
    have g1 := k1.cell 1
    have g2 := k1.cell 2
    simp only [List.getElem?_toArray, List.getElem?_cons_zero, List.getElem?_cons_succ] at g0 g1 g2
    refine bodyPost_ret (v := .tuple #[.agg #[.int .i64 d, .int .i64 cr, .slice A1 L.length c1], .slice A2 n2 c2]) (by simp [results, Try.results81, go_sem, g0, g1, g2, ha, hb2]) hdf ⟨A1, c1, L, A2, n2, c2, F, rfl, own_base (own_keep ho fun b hb => far3 _ _ _ _ _ (by have := (ho.lt b hb).1; omega)) (by omega), hl, hn, hr.blk (by simp) (fun a e _ => far3 _ _ _ _ _ (by have := hab a e; omega)), fun a e => by have := hab a e; omega, i', y', k3, hi', k4⟩
  have HEND := Lib.hid hEND
  clear hEND
  go_enter Try.func81, Try.ntmps81
  go_upto_region 2 with fail
  rw [← hw1]
  clear hw1
  go_upto_region 3 with fail
  go_loopg [11, 12, 13] 3 (fun gh k nx cd wr => ∃ (kk i' y : Nat) (v : Value), k = .int .i64 kk ∧ gh + kk = 3 ∧ i' ≤ i + kk * 70368744177664 ∧ Hid (RwS w wr w.heap.size (w.heap.size + 1) g A n c b i' y d cr v))
  case atStart => exact ⟨0, i, x, _, rfl, rfl, by omega, HS1⟩
  case round =>
    clear HS1
    obtain ⟨kk, i', y, v, rfl, hkk, hi', HS⟩ := hrel
    obtain ⟨hz, hw2⟩ : w.heap.size + 2 ≤ wr.heap.size ∧ True := ⟨by have := HS.out.bb.lt; omega, trivial⟩
    clear hw2
    have fz := fun j => HS.out.bb.frozen j
    by_cases hlt : kk < 3
    · have l1 : (kk : Int) < 3 := by omega
      have HDR := Lib.hid (l14Draw_any m hm g A n c b i' y wr HS.out.src (by omega))
      go_wp2_with fail
      refine HDR.out.mono ?_
      rintro e w3 ⟨v3, L, rfl, ho, hl, _, i3, y3, hs3, hi3, hf3⟩
      obtain ⟨A5, c5, rfl⟩ := own_form ho
      have hz3 := hf3.size
      have HS3 := Lib.hid (HS.out.draw hgw (Nat.le_refl _) (by omega) hs3 hf3)
      have HO3 := Lib.hid ho
      have f3 := fun j => HS3.out.bb.frozen j
      have c3 : w3.cell? ⟨w.heap.size + 1, 2, none⟩ = some v := HS3.out.bb.cell 2
      clear ho hs3 hf3 HDR HS fz
      have HS4 := Lib.hid (HS3.out.put hgw (by omega) (by omega) (.slice A5 L.length c5))
      have HO4 := Lib.hid (own_set HO3.out (p := ⟨w.heap.size + 1, 2, none⟩) (by show w.heap.size + 1 < wr.heap.size; omega) (.slice A5 L.length c5))
      go_upto_region 6 with fail
      obtain ⟨w4, hw4⟩ : ∃ x, x = w3.setCell ⟨w.heap.size + 1, 2, none⟩ (.slice A5 L.length c5) := ⟨_, rfl⟩
      have hz4 : w3.heap.size ≤ w4.heap.size := by rw [hw4]; simp
      rw [← hw4] at HS4 HO4 ⊢
      clear hw4 HS3 HO3 f3 c3
      have c4 : w4.cell? ⟨w.heap.size + 1, 2, none⟩ = some (.slice A5 L.length c5) := HS4.out.bb.cell 2
      have HR4 := Lib.hid (Rd.src HRS.out HS4.out.fr HRA.out)
      have HZ4 := Lib.hid (own_rdI HO4.out)
      go_wp2_with fail
      refine (specStacksAfter_any As m ca A5 L.length c5 S (fun j => L.getD j 0) w4 HR4.out HZ4.out (by omega) (by omega)).mono ?_
      rintro e w5 ⟨A7, c7, rfl, _, hN⟩
      have HN5 := Lib.hid hN
      have HB5 := Lib.hid hN.bl
      have HS5 := Lib.hid (HS4.out.below HB5.out)
      have HO5 := Lib.hid (own_below HO4.out HB5.out)
      have hz5 := HB5.out.size
      clear hN
      by_cases hc : saC S m (fun j => L.getD j 0) L.length = 0
      · obtain ⟨q1, q2, q3, q4, _⟩ := saC_zero hc
        rw [show saN S m (fun j => L.getD j 0) L.length = segM (fun j => L.getD j 0) L.length from if_pos hc] at HN5 ⊢
        rw [hc]
        have HRW := Lib.hid (show RowAt w5 (w.heap.size + 1) 0 d cr A5 L.length c5 from ⟨HS5.out.bb.cell 0, HS5.out.bb.cell 1, HS5.out.bb.cell 2⟩)
        have HTH := Lib.hid (l15Thin_any d cr (w.heap.size + 1) 0 A5 L.length c5 As m ca A7 c7 S (fun j => L.getD j 0) (fun j => (aft S (fun j => L.getD j 0) L.length).getD j 0) w5 hd (Lib.hid rfl) HRW (HR4.out.below HB5.out) (HZ4.out.below HB5.out) HN5.out.rd q1 q2 q3)
        clear HRW
        obtain ⟨N7, hN7⟩ : ∃ q, q = segM (fun j => L.getD j 0) L.length := ⟨_, rfl⟩
        rw [← hN7] at HN5 HTH q4 ⊢
        clear hN7 q1 q2 q3 hc
        go_wp2_with (first | (go_at_call 58; refine HTH.out.mono ?_; rintro e w6 ⟨rfl, hb6⟩; obtain ⟨t6, ht6⟩ : ∃ t, t = keepB S m (fun j => L.getD j 0) L.length d L.length := ⟨_, rfl⟩; rw [← ht6]; have HB6 := Lib.hid hb6; have HS6 := Lib.hid (HS5.out.below hb6); have HO6 := Lib.hid (own_base (own_below HO5.out hb6) (show w.heap.size + 2 ≤ wr.heap.size by omega)); have e0 : w6.cell? ⟨w.heap.size + 1, 0, none⟩ = some (.int .i64 d) := HS6.out.bb.cell 0; have e1 : w6.cell? ⟨w.heap.size + 1, 1, none⟩ = some (.int .i64 cr) := HS6.out.bb.cell 1; have e2 : w6.cell? ⟨w.heap.size + 1, 2, none⟩ = some (.slice A5 L.length c5) := HS6.out.bb.cell 2; have r0 : w6.cell? ⟨w.heap.size, 0, none⟩ = some (.int .i64 0) := HS6.out.rb.cell 0; have r1 : w6.cell? ⟨w.heap.size, 1, none⟩ = some (.int .i64 0) := HS6.out.rb.cell 1; have r2 : w6.cell? ⟨w.heap.size, 2, none⟩ = some (.slice none 0 0) := HS6.out.rb.cell 2; have rf := fun j => HS6.out.rb.frozen j; have ef := fun j => HS6.out.bb.frozen j; clear hb6 ht6; cases t6))
        · go_roundg (gk - 1)
          case measure => omega
          case rel => exact ⟨kk + 1, i3, y3, .slice A5 L.length c5, i64c (by omega), by omega, by omega, HS6⟩
        · exact HEND.out w6 A5 c5 L A7 N7 c7 (fun j => (aft S (fun j => L.getD j 0) L.length).getD j 0) i3 y3 HS6.out HO6.out hl q4 (HN5.out.rd.below HB6.out) (fun a e => by have := HN5.out.ab a e; omega) (by omega) _ rfl rfl rfl
      · obtain ⟨cd, hcd⟩ : ∃ q, q = saC S m (fun j => L.getD j 0) L.length := ⟨_, rfl⟩
        rw [← hcd] at hc ⊢
        obtain ⟨N7, hN7⟩ : ∃ q, q = saN S m (fun j => L.getD j 0) L.length := ⟨_, rfl⟩
        rw [← hN7]
        have hcb : (cd == 0) = false := by simpa using hc
        clear hN7 hcd HN5
        go_wp2_with fail
        go_roundg (gk - 1)
        case measure => omega
        case rel => exact ⟨kk + 1, i3, y3, .slice A5 L.length c5, i64c (by omega), by omega, by omega, HS5⟩
    · have l1 : ¬ (kk : Int) < 3 := by omega
      have hz2 := HS.out.bb.lt
      have e2 : wr.cell? ⟨w.heap.size + 1, 2, none⟩ = some v := HS.out.bb.cell 2
      have HS2 := Lib.hid ((HS.out.put hgw (by omega) (by omega) (.slice (some ⟨wr.heap.size, 0, none⟩) 0 0)).below ((Below.refl _ _).alloc (Nat.le_refl _) (.cells #[] 2)))
      have HO2 : Hid (((wr.setCell ⟨w.heap.size + 1, 2, none⟩ (.slice (some ⟨wr.heap.size, 0, none⟩) 0 0)).alloc (.cells #[] 2)).ownsRow (w.heap.size + 2) 2 1 (.slice (some ⟨wr.heap.size, 0, none⟩) 0 0) 0 []) := Lib.hid (by simpa using World.ownsRow_made (e := 2) (base := w.heap.size + 2) (size := 1) (wr.setCell ⟨w.heap.size + 1, 2, none⟩ (.slice (some ⟨wr.heap.size, 0, none⟩) 0 0)) #[] 0 (by simp; omega) (by unfold maxLen; omega) rfl)
      go_upto_region 10 with fail
      obtain ⟨w4, hw4⟩ : ∃ x, x = (wr.setCell ⟨w.heap.size + 1, 2, none⟩ (.slice (some ⟨wr.heap.size, 0, none⟩) 0 0)).alloc (.cells #[] 2) := ⟨_, rfl⟩
      have hz4 : wr.heap.size + 1 ≤ w4.heap.size := by rw [hw4]; simp
      obtain ⟨q4, hq4⟩ : ∃ q, q = wr.heap.size := ⟨_, rfl⟩
      rw [← hw4] at HS2 HO2 ⊢
      rw [← hq4] at HS2 HO2 hz4 ⊢
      clear hw4 HS e2 fz
      have HB5 := (Below.refl w4.heap.size w4).alloc (Nat.le_refl _) (.cells #[] 2)
      have HS5 := Lib.hid (HS2.out.below HB5)
      have HO5 := Lib.hid (own_below HO2.out HB5)
      have HN5 := Lib.hid (World.ownsRow_made w4 #[] 0 (show w.heap.size + 2 ≤ w4.heap.size by omega) (by unfold maxLen; omega) rfl : (w4.alloc (.cells #[] 2)).ownsRow (w.heap.size + 2) 2 1 (.slice (some ⟨w4.heap.size, 0, none⟩) 0 0) 0 [])
      clear HB5
      go_upto_region 12 with fail
      obtain ⟨w5, hw5⟩ : ∃ x, x = w4.alloc (.cells #[] 2) := ⟨_, rfl⟩
      rw [← hw5] at HS5 HO5 HN5 ⊢
      clear hw5
      go_loopg [14, 48] m (fun gh af k wq => ∃ (L1 : List Int) (B1 : Option Addr) (d1 : Nat) (L2 : List Int) (B2 : Option Addr) (d2 : Nat), k = .int .i64 L1.length ∧ gh + L1.length = m ∧ Hid (L2.length = L1.length) ∧ af = .slice B2 L2.length d2 ∧ Hid (RwS w wq w.heap.size (w.heap.size + 1) g A n c b i' y d cr (.slice B1 L1.length d1)) ∧ Hid (wq.ownsRow (w.heap.size + 2) 2 1 (.slice B1 L1.length d1) L1.length (ints L1)) ∧ Hid (wq.ownsRow (w.heap.size + 2) 2 1 (.slice B2 L2.length d2) L2.length (ints L2)) ∧ Hid (∀ q, (Value.slice B2 L2.length d2).ownBlock = some q → ¬ (Value.slice B1 L1.length d1).ownBlock = some q))
      case atStart => exact ⟨[], _, _, [], _, _, rfl, rfl, Lib.hid rfl, rfl, HS5, HO5, HN5, Lib.hid (fun q h1 h2 => by simp [Value.ownBlock] at h1 h2; omega)⟩
      case round =>
        clear HS5 HO5 HN5 HS2 HO2
        obtain ⟨L1, B1, d1, L2, B2, d2, rfl, hgk, HLL, rfl, HS, HO1, HO2, HD⟩ := hrel
        have hzq := HS.out.bb.lt
        have b2 : wr.cell? ⟨w.heap.size + 1, 2, none⟩ = some (.slice B1 L1.length d1) := HS.out.bb.cell 2
        have bf := fun j => HS.out.bb.frozen j
        by_cases hlt : L1.length < m
        · have l2 : (L1.length : Int) < (m : Int) := by omega
          go_upto_region 14 with (at_builtin; go_must (refine wpList_appGa wr rfl (.tmp 51) (.tmp 52) _ rfl (w.heap.size + 2) 2 i0 _ 1 8 Try.underlying38 hi0 iz is ib rfl (by omega) (.slice B1 L1.length d1) L1.length (ints L1) rfl HO1.out _ 1 1 _ rfl rfl (by simp [Value.oneCell']) (by unfold maxLen; omega) (by omega) (by omega) ?_); intro v' w' hown' hf' hat'; obtain ⟨B3, d3, rfl⟩ := own_form hown'; have HS6 := Lib.hid (HS.out.app hgw (own_base HO1.out (by omega)) (by decide) hf'); have HO6 := Lib.hid hown'; have HP6 := Lib.hid (own_keep HO2.out fun q hq => hf'.block q (HO2.out.lt q hq).2 (HD.out q hq)); have HD6 : Hid (∀ q, (Value.slice B2 L2.length d2).ownBlock = some q → ¬ (Value.slice B3 (L1.length + 1) d3).ownBlock = some q) := Lib.hid (fun q h1 h2 => by
                      rcases hat' with h | h
                      · exact HD.out q h1 (h ▸ h2)
                      · rw [h] at h2; have := (HO2.out.lt q h1).2; have h3 := Option.some.inj h2; omega); have b6 : w'.cell? ⟨w.heap.size + 1, 2, none⟩ = some (.slice B1 L1.length d1) := HS6.out.bb.cell 2; have f6 := fun j => HS6.out.bb.frozen j; have hz6 := hf'.size; clear hown' hf' hat')
          have HS7 := Lib.hid (HS6.out.put hgw (by omega) (by omega) (.slice B3 (L1.length + 1) d3))
          have HO7 := Lib.hid (own_set HO6.out (p := ⟨w.heap.size + 1, 2, none⟩) (by show w.heap.size + 1 < w.heap.size + 2; omega) (.slice B3 (L1.length + 1) d3))
          have HP7 := Lib.hid (own_set HP6.out (p := ⟨w.heap.size + 1, 2, none⟩) (by show w.heap.size + 1 < w.heap.size + 2; omega) (.slice B3 (L1.length + 1) d3))
          obtain ⟨w7, hw7⟩ : ∃ x, x = w'.setCell ⟨w.heap.size + 1, 2, none⟩ (.slice B3 (L1.length + 1) d3) := ⟨_, rfl⟩
          have hz7 : w'.heap.size ≤ w7.heap.size := by rw [hw7]; simp
          rw [← hw7] at HS7 HO7 HP7 ⊢
          clear hw7 HS6 HO6 HP6 b6 f6 HS HO1 HO2 HD
          have e1 : (L1 ++ [1]).length = L1.length + 1 := by simp
          have e2 : (L2 ++ [1]).length = L2.length + 1 := by simp
          go_wp2_with (at_builtin; go_must (refine wpList_appGa w7 rfl (.tmp 55) (.tmp 56) _ rfl (w.heap.size + 2) 2 i0 _ 1 8 Try.underlying38 hi0 iz is ib rfl (by omega) (.slice B2 L2.length d2) L2.length (ints L2) rfl HP7.out _ 1 1 _ rfl rfl (by simp [Value.oneCell']) (by have := HLL.out; unfold maxLen; omega) (by have := HLL.out; omega) (by omega) ?_); intro v' w' hown' hf' hat'; obtain ⟨B4, d4, rfl⟩ := own_form hown'; have HS8 := Lib.hid (HS7.out.app hgw (own_base HP7.out (by omega)) (by decide) hf'); have HP8 := Lib.hid hown'; have HO8 := Lib.hid (own_keep HO7.out fun q hq => hf'.block q (HO7.out.lt q hq).2 (fun h => HD6.out q h hq)); have HD8 : Hid (∀ q, (Value.slice B4 (L2.length + 1) d4).ownBlock = some q → ¬ (Value.slice B3 (L1.length + 1) d3).ownBlock = some q) := Lib.hid (fun q h1 h2 => by
                      rcases hat' with h | h
                      · exact HD6.out q (h ▸ h1) h2
                      · rw [h] at h1; have := (HO7.out.lt q h2).2; have h3 := Option.some.inj h1; omega); clear hown' hf' hat')
          go_roundg (gk - 1)
          case measure => omega
          case rel => exact ⟨L1 ++ [1], B3, d3, L2 ++ [1], B4, d4, i64c (by omega), by omega, Lib.hid (by have := HLL.out; omega), by rw [e2], by rw [e1]; exact HS8, by rw [e1, ints_app]; exact HO8, by rw [e2, ints_app]; exact HP8, by rw [e1, e2]; exact HD8⟩
        · have l2 : ¬ (L1.length : Int) < (m : Int) := by omega
          have b0 : wr.cell? ⟨w.heap.size + 1, 0, none⟩ = some (.int .i64 d) := HS.out.bb.cell 0
          have b1 : wr.cell? ⟨w.heap.size + 1, 1, none⟩ = some (.int .i64 cr) := HS.out.bb.cell 1
          have r0 : wr.cell? ⟨w.heap.size, 0, none⟩ = some (.int .i64 0) := HS.out.rb.cell 0
          have r1 : wr.cell? ⟨w.heap.size, 1, none⟩ = some (.int .i64 0) := HS.out.rb.cell 1
          have r2 : wr.cell? ⟨w.heap.size, 2, none⟩ = some (.slice none 0 0) := HS.out.rb.cell 2
          have rf := fun j => HS.out.rb.frozen j
          have hAB : Ab B2 (w.heap.size + 2) := fun a e => by
            subst e
            rcases HO2.out.2 with ⟨e, _⟩ | ⟨gg, cap, cur, e, hg, _⟩
            · injection e with e; cases e
            · injection e with e; injection e with e; subst e; exact hg
          have HAB := Lib.hid hAB
          clear hAB
          go_wp2_with fail
          exact HEND.out wr B1 d1 L1 B2 L2.length d2 (fun j => L2.getD j 0) i' y HS.out HO1.out (by omega) (by have := HLL.out; omega) (own_rdI HO2.out) HAB.out (by omega) _ rfl rfl rfl
end Go.Proofs.Ytacppheedleamaa
