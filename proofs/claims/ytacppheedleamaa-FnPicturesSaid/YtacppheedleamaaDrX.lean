/- Plain: the pictures of a chart have its rows; the back in a mirror is the front with knits and purls exchanged; a braid is read off its picture. Walks: rows of stitches drawn. No condition but the bounds. Walks: charts drawn. No condition but the bounds. Plain lemmas: rows of stitches that a call owns, changed in place; read. Walks: charts drawn that are not always valid. No condition but the bounds. Walks: charts and braids drawn from bytes; the columns after each row of a chart. No condition but the bounds. Walks: the columns after each row of a valid chart, by the reference. No condition but the bounds. Walks: what the law on pictures calls besides: the length of its bytes, a valid braid. No condition but the bounds. -/
import Derived.Test.YtacppheedleamaaBackI
import Derived.Test.YtacppheedleamaaReadPicI
import Derived.Test.YtacppheedleamaaDrF
import Derived.Test.YtacppheedleamaaAppAt
import Derived.Test.YtacppheedleamaaRowsObj
import Derived.Test.YtacppheedleamaaAppStep
import Derived.IntWalk
import Derived.Deep.RegionHeld3
import Derived.Test.YtacppheedleamaaPicS
import Derived.Test.YtacppheedleamaaLst
import Derived.Deep.LoopGhost
import Derived.Deep.CutRange
import Derived.Test.YtacppheedleamaaMirI
import Derived.Test.YtacppheedleamaaSameRows
set_option linter.unusedVariables false
set_option linter.unusedSimpArgs false
namespace Go.Proofs.Ytacppheedleamaa
open Go.RowKit

def byt (s : ByteArray) (k : Nat) : Int := ((s.data.toList.getD k 0).toNat : Int)
theorem byt_byte (s : ByteArray) (k : Nat) : 0 ≤ byt s k ∧ byt s k < 256 := by
  unfold byt
  have := (s.data.toList.getD k 0).toNat_lt
  omega
theorem oth_byte {b : Int} (h : 0 ≤ b ∧ b < 256) : 0 ≤ othB b ∧ othB b < 256 := by
  unfold othB
  repeat' split
  all_goals omega
theorem fpT_len (n : Nat) (ns : Nat → Nat) (z : Nat → Nat → Int) (k : Nat) : (fpT n ns z k).size = segM (z (n - 1 - k)) (ns (n - 1 - k)) := by
  unfold fpT
  rw [strOfNums_size, lnL_length]
/-- A line from behind in a mirror. -/
def tnT (s : ByteArray) : ByteArray := strF (bkT s).size (revB (bkT s))
theorem tnT_size (s : ByteArray) : (tnT s).size = s.size := by
  unfold tnT
  rw [strF_size, bkT_size]
theorem tnT_byte (s : ByteArray) (k : Nat) (hk : k < s.size) : byt (tnT s) k = othB (byt s k) := by
  have h1 : byt (tnT s) k = revB (bkT s) k := byte_strF _ _ _ (by rw [bkT_size]; exact hk) (revB_byte _ _).1 (revB_byte _ _).2
  rw [h1]
  unfold revB
  rw [bkT_size]
  have h2 := oth_byte (revB_byte s (s.size - 1 - k))
  have h3 := byte_strF s.size (fun j => othB (revB s j)) (s.size - 1 - k) (by omega) h2.1 h2.2
  show (((bkT s).data.toList.getD (s.size - 1 - k) 0).toNat : Int) = _
  rw [show bkT s = strF s.size fun j => othB (revB s j) from rfl, h3]
  show othB (revB s (s.size - 1 - k)) = _
  unfold revB byt
  rw [show s.size - 1 - (s.size - 1 - k) = k by omega]
/-- A braid is read off its picture. -/
theorem read_back {S n : Nat} {z : Nat → Int} (h : braidB S n z = true) : okL (picF S z) (n + 1) (z1 (picF S z)) = true ∧ strandsOf (picF S z) = S ∧ ∀ j, j < n → z1 (picF S z) j = z j := by
  have h1 : strandsOf (picF S z) = S := by
    unfold strandsOf
    rw [picF_zero, strF_size]
    omega
  have hn : n ≤ 40 := by
    simp only [braidB, Bool.and_eq_true] at h
    simpa using h.1.2
  have h2 : okL (picF S z) (n + 1) z = true := by
    unfold okL
    rw [h1, Nat.add_sub_cancel, h, sameTo_of (fun j _ => by rw [h1])]
    simp
    omega
  have h3 := read_same h2
  rw [Nat.add_sub_cancel] at h3
  refine ⟨?_, h1, fun j hj => (h3 j hj).1⟩
  rw [okL_congr (z' := z) (by omega) fun j hj => (h3 j (by omega)).1]
  exact h2
end Go.Proofs.Ytacppheedleamaa

set_option linter.unusedVariables false
set_option linter.unusedSimpArgs false
namespace Go.Proofs.Ytacppheedleamaa
open Go.RowKit
set_option maxRecDepth 20000

/-- A row and the columns' stacks behind it, drawn. -/
def RowQ (w : World) (g : Nat) (A : Option Addr) (n c : Nat) (b : Nat → Int) (i K : Nat) (d cr : Int) (e : Ending) (w' : World) : Prop :=
  ∃ (A1 : Option Addr) (c1 : Nat) (L : List Int) (A2 : Option Addr) (n2 c2 : Nat) (S : Nat → Int), e = .returned (.tuple #[.agg #[.int .i64 d, .int .i64 cr, .slice A1 L.length c1], .slice A2 n2 c2]) ∧ w'.ownsRow w.heap.size 2 1 (.slice A1 L.length c1) L.length (ints L) ∧ L.length ≤ 16 ∧ n2 ≤ 8 ∧ Rd w' A2 n2 (fun j => .int .i64 (S j)) ∧ Ab A2 w.heap.size ∧ Drawn w w' g A n c b i K
/-- A row is being drawn: the result's block R, its own block G. -/
structure RwS (w X : World) (R G g : Nat) (A : Option Addr) (n c : Nat) (b : Nat → Int) (i y : Nat) (d cr : Int) (v : Value) : Prop where
  rb : Blk X R 40 #[.int .i64 0, .int .i64 0, .slice none 0 0]
  bb : Blk X G 40 #[.int .i64 d, .int .i64 cr, v]
  src : Src X g A n c b i y
  fr : Fr w X (fun b => b = g)
section
variable {w X Y : World} {R G g : Nat} {A : Option Addr} {n c : Nat} {b : Nat → Int} {i i' y y' : Nat} {d cr : Int} {v : Value}
theorem RwS.draw (h : RwS w X R G g A n c b i y d cr v) (hg : g < w.heap.size) (hR : w.heap.size ≤ R) (hG : w.heap.size ≤ G) (hs : Src Y g A n c b i' y') (hf : Fr X Y (fun b => b = g)) : RwS w Y R G g A n c b i' y' d cr v :=
  ⟨h.rb.fr hf (by omega), h.bb.fr hf (by omega), hs, h.fr.trans hf⟩
theorem RwS.below (h : RwS w X R G g A n c b i y d cr v) (hb : Below X.heap.size X Y) : RwS w Y R G g A n c b i y d cr v :=
  ⟨h.rb.below hb h.rb.lt, h.bb.below hb h.bb.lt, h.src.below hb, h.fr.trans (Fr.of_below hb _)⟩
theorem RwS.put (h : RwS w X R G g A n c b i y d cr v) (hg : g < w.heap.size) (hG : w.heap.size ≤ G) (hRG : R ≠ G) (v' : Value) : RwS w (X.setCell ⟨G, 2, none⟩ v') R G g A n c b i y d cr v' := by
  have hl : Below w.heap.size X (X.setCell ⟨G, 2, none⟩ v') := (Below.refl _ _).setCell (p := ⟨G, 2, none⟩) hG _
  exact ⟨h.rb.far hRG _, h.bb.set_ 2 v', h.src.base hl hg, h.fr.then_below hl⟩
theorem RwS.app (h : RwS w X R G g A n c b i y d cr v) (hg : g < w.heap.size) {e : TypeId} {sz m : Nat} {v0 : Value} {xs : List Value} (ho : X.ownsRow w.heap.size e sz v0 m xs) (hne : 40 ≠ e) (hf : Fr X Y (fun b => v0.ownBlock = some b)) : RwS w Y R G g A n c b i y d cr v := by
  have h1 := two_blk h.rb ho hne
  have h2 := two_blk h.bb ho hne
  have hl : Below w.heap.size X Y := hf.below h.fr.size (fun b hb => (ho.lt b hb).1)
  exact ⟨h.rb.fr hf h1, h.bb.fr hf h2, h.src.base hl hg, h.fr.then_below hl⟩
theorem RwS.fin (h : RwS w X R G g A n c b i y d cr v) (hg : g < w.heap.size) (hR : w.heap.size ≤ R) :
    Blk (((X.setCell ⟨R, 0, none⟩ (.int .i64 d)).setCell ⟨R, 1, none⟩ (.int .i64 cr)).setCell ⟨R, 2, none⟩ v) R 40 #[.int .i64 d, .int .i64 cr, v] ∧ Src (((X.setCell ⟨R, 0, none⟩ (.int .i64 d)).setCell ⟨R, 1, none⟩ (.int .i64 cr)).setCell ⟨R, 2, none⟩ v) g A n c b i y ∧ Fr w (((X.setCell ⟨R, 0, none⟩ (.int .i64 d)).setCell ⟨R, 1, none⟩ (.int .i64 cr)).setCell ⟨R, 2, none⟩ v) (fun b => b = g) := by
  have hl : Below w.heap.size X (((X.setCell ⟨R, 0, none⟩ (.int .i64 d)).setCell ⟨R, 1, none⟩ (.int .i64 cr)).setCell ⟨R, 2, none⟩ v) := (((Below.refl _ _).setCell (p := ⟨R, 0, none⟩) hR _).setCell (p := ⟨R, 1, none⟩) hR _).setCell (p := ⟨R, 2, none⟩) hR _
  exact ⟨((h.rb.set_ 0 _).set_ 1 _).set_ 2 _, h.src.base hl hg, h.fr.then_below hl⟩
end
theorem far3 (X : World) (R : Nat) (u0 u1 u2 : Value) {k : Nat} (hk : k ≠ R) : (((X.setCell ⟨R, 0, none⟩ u0).setCell ⟨R, 1, none⟩ u1).setCell ⟨R, 2, none⟩ u2).heap[k]? = X.heap[k]? :=
  ((Below.heap_setCell _ ⟨R, 2, none⟩ u2 k hk).trans (Below.heap_setCell _ ⟨R, 1, none⟩ u1 k hk)).trans (Below.heap_setCell _ ⟨R, 0, none⟩ u0 k hk)
theorem Rd.blk {w w' : World} {A : Option Addr} {n : Nat} {f : Nat → Value} (h : Rd w A n f) (hz : w.heap.size ≤ w'.heap.size) (hb : ∀ a, A = some a → a.block < w.heap.size → w'.heap[a.block]? = w.heap[a.block]?) : Rd w' A n f := fun h0 => by
  obtain ⟨ga, o, rfl, hg, hr⟩ := h h0
  exact ⟨ga, o, rfl, by omega, fun j hj => (World.cell?_of_block (w := w) (a := ⟨ga, o + j, none⟩) (hb ⟨ga, o, none⟩ rfl hg)).trans (hr j hj)⟩
set_option maxHeartbeats 16000000 in
theorem l15DrawRow_any (d cr : Int) (hd : dirB d = true) (As : Option Addr) (m ca : Nat) (S : Nat → Int) (hm : m ≤ 8) (g : Nat) (A : Option Addr) (n c : Nat) (b : Nat → Int) (i x : Nat) (w : World) (h : Src w g A n c b i x) (hi : i < 1152921504606846976) (hs : Rd w As m (fun j => .int .i64 (S j))) (hA : ∀ a, As = some a → a.block ≠ g) :
    Calls Try.prog 81 #[.pointer (some ⟨g, 0, none⟩), .slice As m ca, .int .i64 d, .int .i64 cr] w (RowQ w g A n c b i 211106232532992 d cr) := by
  obtain ⟨i0, hi0, iz, is, ib⟩ := info_parts infoD
  have hgw := h.blk.lt
  obtain ⟨w1, hw1⟩ : ∃ w1, w1 = (w.alloc (.cells #[.int .i64 0, .int .i64 0, .slice none 0 0] 40)).alloc (.cells #[.int .i64 d, .int .i64 cr, .slice none 0 0] 40) := ⟨_, rfl⟩
  have HB1 := Lib.hid (show Below w.heap.size w w1 by rw [hw1]; exact ((Below.refl _ _).alloc (Nat.le_refl _) _).alloc (by simp) _)
  have HS1 := Lib.hid (show RwS w w1 w.heap.size (w.heap.size + 1) g A n c b i x d cr (.slice none 0 0) from
    ⟨by rw [hw1]; exact (Blk.at_ w _ _ rfl).alloc _, by rw [hw1]; exact (by simpa using Blk.at_ (w.alloc (.cells #[.int .i64 0, .int .i64 0, .slice none 0 0] 40)) 40 #[.int .i64 d, .int .i64 cr, .slice none 0 0] rfl), h.below HB1.out, Fr.of_below HB1.out _⟩)
  have HRS := Lib.hid hs
  have HRA := Lib.hid hA
  clear h hs hA
  have hEND : ∀ (X : World) (A1 : Option Addr) (c1 : Nat) (L : List Int) (A2 : Option Addr) (n2 c2 : Nat) (F : Nat → Int) (i' y' : Nat), RwS w X w.heap.size (w.heap.size + 1) g A n c b i' y' d cr (.slice A1 L.length c1) → X.ownsRow (w.heap.size + 2) 2 1 (.slice A1 L.length c1) L.length (ints L) → L.length ≤ 16 → n2 ≤ 8 → Rd X A2 n2 (fun j => .int .i64 (F j)) → Ab A2 (w.heap.size + 2) → i' ≤ i + 211106232532992 → ∀ a : Act, a.tmps[8]?.getD undef = .pointer (some ⟨w.heap.size, 0, none⟩) → a.tmps[9]?.getD undef = .slice A2 n2 c2 → a.defers = [] → bodyPost Try.prog Try.f81 (RowQ w g A n c b i 211106232532992 d cr) Exit.ret a (((X.setCell ⟨w.heap.size, 0, none⟩ (.int .i64 d)).setCell ⟨w.heap.size, 1, none⟩ (.int .i64 cr)).setCell ⟨w.heap.size, 2, none⟩ (.slice A1 L.length c1)) := fun X A1 c1 L A2 n2 c2 F i' y' hX ho hl hn hr hab hi' a ha hb2 hdf => by
    obtain ⟨k1, k3, k4⟩ := hX.fin hgw (Nat.le_refl _)
    have g0 := k1.cell 0
    have g1 := k1.cell 1
    have g2 := k1.cell 2
    simp only [List.getElem?_toArray, List.getElem?_cons_zero, List.getElem?_cons_succ] at g0 g1 g2
    refine bodyPost_ret (v := .tuple #[.agg #[.int .i64 d, .int .i64 cr, .slice A1 L.length c1], .slice A2 n2 c2]) (by simp [results, Try.results81, go_sem, g0, g1, g2, ha, hb2]) hdf ⟨A1, c1, L, A2, n2, c2, F, rfl, own_base (own_keep ho fun b hb => far3 _ _ _ _ _ (by have := (ho.lt b hb).1; omega)) (by omega), hl, hn, hr.blk (by simp) (fun a e _ => far3 _ _ _ _ _ (by have := hab a e; omega)), fun a e => by have := hab a e; omega, i', y', k3, hi', k4⟩
  have HEND := Lib.hid hEND
  clear hEND
  go_enter Try.func81, Try.ntmps81
  go_upto_region 2 with fail
  rw [← hw1]
  clear hw1
  go_upto_region 3 with fail
  go_loopg [11, 12, 13] 3 (fun gh k nx cd wr => ∃ (kk i' y : Nat) (v : Value), k = .int .i64 kk ∧ gh + kk = 3 ∧ i' ≤ i + kk * 70368744177664 ∧ Hid (RwS w wr w.heap.size (w.heap.size + 1) g A n c b i' y d cr v))
  case atStart => exact ⟨0, i, x, _, rfl, rfl, by omega, HS1⟩
  case round =>
    clear HS1
    obtain ⟨kk, i', y, v, rfl, hkk, hi', HS⟩ := hrel
    obtain ⟨hz, hw2⟩ : w.heap.size + 2 ≤ wr.heap.size ∧ True := ⟨by have := HS.out.bb.lt; omega, trivial⟩
    clear hw2
    have fz := fun j => HS.out.bb.frozen j
    by_cases hlt : kk < 3
    · have l1 : (kk : Int) < 3 := by omega
      have HDR := Lib.hid (l14Draw_any m hm g A n c b i' y wr HS.out.src (by omega))
      go_wp2_with fail
      refine HDR.out.mono ?_
      rintro e w3 ⟨v3, L, rfl, ho, hl, _, i3, y3, hs3, hi3, hf3⟩
      obtain ⟨A5, c5, rfl⟩ := own_form ho
      have hz3 := hf3.size
      have HS3 := Lib.hid (HS.out.draw hgw (Nat.le_refl _) (by omega) hs3 hf3)
      have HO3 := Lib.hid ho
      have f3 := fun j => HS3.out.bb.frozen j
      have c3 : w3.cell? ⟨w.heap.size + 1, 2, none⟩ = some v := HS3.out.bb.cell 2
      clear ho hs3 hf3 HDR HS fz
      have HS4 := Lib.hid (HS3.out.put hgw (by omega) (by omega) (.slice A5 L.length c5))
      have HO4 := Lib.hid (own_set HO3.out (p := ⟨w.heap.size + 1, 2, none⟩) (by show w.heap.size + 1 < wr.heap.size; omega) (.slice A5 L.length c5))
      go_upto_region 6 with fail
      obtain ⟨w4, hw4⟩ : ∃ x, x = w3.setCell ⟨w.heap.size + 1, 2, none⟩ (.slice A5 L.length c5) := ⟨_, rfl⟩
      have hz4 : w3.heap.size ≤ w4.heap.size := by rw [hw4]; simp
      rw [← hw4] at HS4 HO4 ⊢
      clear hw4 HS3 HO3 f3 c3
      have c4 : w4.cell? ⟨w.heap.size + 1, 2, none⟩ = some (.slice A5 L.length c5) := HS4.out.bb.cell 2
      have HR4 := Lib.hid (Rd.src HRS.out HS4.out.fr HRA.out)
      have HZ4 := Lib.hid (own_rdI HO4.out)
      go_wp2_with fail
      refine (specStacksAfter_any As m ca A5 L.length c5 S (fun j => L.getD j 0) w4 HR4.out HZ4.out (by omega) (by omega)).mono ?_
      rintro e w5 ⟨A7, c7, rfl, _, hN⟩
      have HN5 := Lib.hid hN
      have HB5 := Lib.hid hN.bl
      have HS5 := Lib.hid (HS4.out.below HB5.out)
      have HO5 := Lib.hid (own_below HO4.out HB5.out)
      have hz5 := HB5.out.size
      clear hN
      by_cases hc : saC S m (fun j => L.getD j 0) L.length = 0
      · obtain ⟨q1, q2, q3, q4, _⟩ := saC_zero hc
        rw [show saN S m (fun j => L.getD j 0) L.length = segM (fun j => L.getD j 0) L.length from if_pos hc] at HN5 ⊢
        rw [hc]
        have HRW := Lib.hid (show RowAt w5 (w.heap.size + 1) 0 d cr A5 L.length c5 from ⟨HS5.out.bb.cell 0, HS5.out.bb.cell 1, HS5.out.bb.cell 2⟩)
        have HTH := Lib.hid (l15Thin_any d cr (w.heap.size + 1) 0 A5 L.length c5 As m ca A7 c7 S (fun j => L.getD j 0) (fun j => (aft S (fun j => L.getD j 0) L.length).getD j 0) w5 hd (Lib.hid rfl) HRW (HR4.out.below HB5.out) (HZ4.out.below HB5.out) HN5.out.rd q1 q2 q3)
        clear HRW
        obtain ⟨N7, hN7⟩ : ∃ q, q = segM (fun j => L.getD j 0) L.length := ⟨_, rfl⟩
        rw [← hN7] at HN5 HTH q4 ⊢
        clear hN7 q1 q2 q3 hc
        go_wp2_with (first | (go_at_call 58; refine HTH.out.mono ?_; rintro e w6 ⟨rfl, hb6⟩; obtain ⟨t6, ht6⟩ : ∃ t, t = keepB S m (fun j => L.getD j 0) L.length d L.length := ⟨_, rfl⟩; rw [← ht6]; have HB6 := Lib.hid hb6; have HS6 := Lib.hid (HS5.out.below hb6); have HO6 := Lib.hid (own_base (own_below HO5.out hb6) (show w.heap.size + 2 ≤ wr.heap.size by omega)); have e0 : w6.cell? ⟨w.heap.size + 1, 0, none⟩ = some (.int .i64 d) := HS6.out.bb.cell 0; have e1 : w6.cell? ⟨w.heap.size + 1, 1, none⟩ = some (.int .i64 cr) := HS6.out.bb.cell 1; have e2 : w6.cell? ⟨w.heap.size + 1, 2, none⟩ = some (.slice A5 L.length c5) := HS6.out.bb.cell 2; have r0 : w6.cell? ⟨w.heap.size, 0, none⟩ = some (.int .i64 0) := HS6.out.rb.cell 0; have r1 : w6.cell? ⟨w.heap.size, 1, none⟩ = some (.int .i64 0) := HS6.out.rb.cell 1; have r2 : w6.cell? ⟨w.heap.size, 2, none⟩ = some (.slice none 0 0) := HS6.out.rb.cell 2; have rf := fun j => HS6.out.rb.frozen j; have ef := fun j => HS6.out.bb.frozen j; clear hb6 ht6; cases t6))
        · go_roundg (gk - 1)
          case measure => omega
          case rel => exact ⟨kk + 1, i3, y3, .slice A5 L.length c5, i64c (by omega), by omega, by omega, HS6⟩
        · exact HEND.out w6 A5 c5 L A7 N7 c7 (fun j => (aft S (fun j => L.getD j 0) L.length).getD j 0) i3 y3 HS6.out HO6.out hl q4 (HN5.out.rd.below HB6.out) (fun a e => by have := HN5.out.ab a e; omega) (by omega) _ rfl rfl rfl
      · obtain ⟨cd, hcd⟩ : ∃ q, q = saC S m (fun j => L.getD j 0) L.length := ⟨_, rfl⟩
        rw [← hcd] at hc ⊢
        obtain ⟨N7, hN7⟩ : ∃ q, q = saN S m (fun j => L.getD j 0) L.length := ⟨_, rfl⟩
        rw [← hN7]
        have hcb : (cd == 0) = false := by simpa using hc
        clear hN7 hcd HN5
        go_wp2_with fail
        go_roundg (gk - 1)
        case measure => omega
        case rel => exact ⟨kk + 1, i3, y3, .slice A5 L.length c5, i64c (by omega), by omega, by omega, HS5⟩
    · have l1 : ¬ (kk : Int) < 3 := by omega
      have hz2 := HS.out.bb.lt
      have e2 : wr.cell? ⟨w.heap.size + 1, 2, none⟩ = some v := HS.out.bb.cell 2
      have HS2 := Lib.hid ((HS.out.put hgw (by omega) (by omega) (.slice (some ⟨wr.heap.size, 0, none⟩) 0 0)).below ((Below.refl _ _).alloc (Nat.le_refl _) (.cells #[] 2)))
      have HO2 : Hid (((wr.setCell ⟨w.heap.size + 1, 2, none⟩ (.slice (some ⟨wr.heap.size, 0, none⟩) 0 0)).alloc (.cells #[] 2)).ownsRow (w.heap.size + 2) 2 1 (.slice (some ⟨wr.heap.size, 0, none⟩) 0 0) 0 []) := Lib.hid (by simpa using World.ownsRow_made (e := 2) (base := w.heap.size + 2) (size := 1) (wr.setCell ⟨w.heap.size + 1, 2, none⟩ (.slice (some ⟨wr.heap.size, 0, none⟩) 0 0)) #[] 0 (by simp; omega) (by unfold maxLen; omega) rfl)
      go_upto_region 10 with fail
      obtain ⟨w4, hw4⟩ : ∃ x, x = (wr.setCell ⟨w.heap.size + 1, 2, none⟩ (.slice (some ⟨wr.heap.size, 0, none⟩) 0 0)).alloc (.cells #[] 2) := ⟨_, rfl⟩
      have hz4 : wr.heap.size + 1 ≤ w4.heap.size := by rw [hw4]; simp
      obtain ⟨q4, hq4⟩ : ∃ q, q = wr.heap.size := ⟨_, rfl⟩
      rw [← hw4] at HS2 HO2 ⊢
      rw [← hq4] at HS2 HO2 hz4 ⊢
      clear hw4 HS e2 fz
      have HB5 := (Below.refl w4.heap.size w4).alloc (Nat.le_refl _) (.cells #[] 2)
      have HS5 := Lib.hid (HS2.out.below HB5)
      have HO5 := Lib.hid (own_below HO2.out HB5)
      have HN5 := Lib.hid (World.ownsRow_made w4 #[] 0 (show w.heap.size + 2 ≤ w4.heap.size by omega) (by unfold maxLen; omega) rfl : (w4.alloc (.cells #[] 2)).ownsRow (w.heap.size + 2) 2 1 (.slice (some ⟨w4.heap.size, 0, none⟩) 0 0) 0 [])
      clear HB5
      go_upto_region 12 with fail
      obtain ⟨w5, hw5⟩ : ∃ x, x = w4.alloc (.cells #[] 2) := ⟨_, rfl⟩
      rw [← hw5] at HS5 HO5 HN5 ⊢
      clear hw5
      go_loopg [14, 48] m (fun gh af k wq => ∃ (L1 : List Int) (B1 : Option Addr) (d1 : Nat) (L2 : List Int) (B2 : Option Addr) (d2 : Nat), k = .int .i64 L1.length ∧ gh + L1.length = m ∧ Hid (L2.length = L1.length) ∧ af = .slice B2 L2.length d2 ∧ Hid (RwS w wq w.heap.size (w.heap.size + 1) g A n c b i' y d cr (.slice B1 L1.length d1)) ∧ Hid (wq.ownsRow (w.heap.size + 2) 2 1 (.slice B1 L1.length d1) L1.length (ints L1)) ∧ Hid (wq.ownsRow (w.heap.size + 2) 2 1 (.slice B2 L2.length d2) L2.length (ints L2)) ∧ Hid (∀ q, (Value.slice B2 L2.length d2).ownBlock = some q → ¬ (Value.slice B1 L1.length d1).ownBlock = some q))
      case atStart => exact ⟨[], _, _, [], _, _, rfl, rfl, Lib.hid rfl, rfl, HS5, HO5, HN5, Lib.hid (fun q h1 h2 => by simp [Value.ownBlock] at h1 h2; omega)⟩
      case round =>
        clear HS5 HO5 HN5 HS2 HO2
        obtain ⟨L1, B1, d1, L2, B2, d2, rfl, hgk, HLL, rfl, HS, HO1, HO2, HD⟩ := hrel
        have hzq := HS.out.bb.lt
        have b2 : wr.cell? ⟨w.heap.size + 1, 2, none⟩ = some (.slice B1 L1.length d1) := HS.out.bb.cell 2
        have bf := fun j => HS.out.bb.frozen j
        by_cases hlt : L1.length < m
        · have l2 : (L1.length : Int) < (m : Int) := by omega
          go_upto_region 14 with (at_builtin; go_must (refine wpList_appGa wr rfl (.tmp 51) (.tmp 52) _ rfl (w.heap.size + 2) 2 i0 _ 1 8 Try.underlying38 hi0 iz is ib rfl (by omega) (.slice B1 L1.length d1) L1.length (ints L1) rfl HO1.out _ 1 1 _ rfl rfl (by simp [Value.oneCell']) (by unfold maxLen; omega) (by omega) (by omega) ?_); intro v' w' hown' hf' hat'; obtain ⟨B3, d3, rfl⟩ := own_form hown'; have HS6 := Lib.hid (HS.out.app hgw (own_base HO1.out (by omega)) (by decide) hf'); have HO6 := Lib.hid hown'; have HP6 := Lib.hid (own_keep HO2.out fun q hq => hf'.block q (HO2.out.lt q hq).2 (HD.out q hq)); have HD6 : Hid (∀ q, (Value.slice B2 L2.length d2).ownBlock = some q → ¬ (Value.slice B3 (L1.length + 1) d3).ownBlock = some q) := Lib.hid (fun q h1 h2 => by
                      rcases hat' with h | h
                      · exact HD.out q h1 (h ▸ h2)
                      · rw [h] at h2; have := (HO2.out.lt q h1).2; have h3 := Option.some.inj h2; omega); have b6 : w'.cell? ⟨w.heap.size + 1, 2, none⟩ = some (.slice B1 L1.length d1) := HS6.out.bb.cell 2; have f6 := fun j => HS6.out.bb.frozen j; have hz6 := hf'.size; clear hown' hf' hat')
          have HS7 := Lib.hid (HS6.out.put hgw (by omega) (by omega) (.slice B3 (L1.length + 1) d3))
          have HO7 := Lib.hid (own_set HO6.out (p := ⟨w.heap.size + 1, 2, none⟩) (by show w.heap.size + 1 < w.heap.size + 2; omega) (.slice B3 (L1.length + 1) d3))
          have HP7 := Lib.hid (own_set HP6.out (p := ⟨w.heap.size + 1, 2, none⟩) (by show w.heap.size + 1 < w.heap.size + 2; omega) (.slice B3 (L1.length + 1) d3))
          obtain ⟨w7, hw7⟩ : ∃ x, x = w'.setCell ⟨w.heap.size + 1, 2, none⟩ (.slice B3 (L1.length + 1) d3) := ⟨_, rfl⟩
          have hz7 : w'.heap.size ≤ w7.heap.size := by rw [hw7]; simp
          rw [← hw7] at HS7 HO7 HP7 ⊢
          clear hw7 HS6 HO6 HP6 b6 f6 HS HO1 HO2 HD
          have e1 : (L1 ++ [1]).length = L1.length + 1 := by simp
          have e2 : (L2 ++ [1]).length = L2.length + 1 := by simp
          go_wp2_with (at_builtin; go_must (refine wpList_appGa w7 rfl (.tmp 55) (.tmp 56) _ rfl (w.heap.size + 2) 2 i0 _ 1 8 Try.underlying38 hi0 iz is ib rfl (by omega) (.slice B2 L2.length d2) L2.length (ints L2) rfl HP7.out _ 1 1 _ rfl rfl (by simp [Value.oneCell']) (by have := HLL.out; unfold maxLen; omega) (by have := HLL.out; omega) (by omega) ?_); intro v' w' hown' hf' hat'; obtain ⟨B4, d4, rfl⟩ := own_form hown'; have HS8 := Lib.hid (HS7.out.app hgw (own_base HP7.out (by omega)) (by decide) hf'); have HP8 := Lib.hid hown'; have HO8 := Lib.hid (own_keep HO7.out fun q hq => hf'.block q (HO7.out.lt q hq).2 (fun h => HD6.out q h hq)); have HD8 : Hid (∀ q, (Value.slice B4 (L2.length + 1) d4).ownBlock = some q → ¬ (Value.slice B3 (L1.length + 1) d3).ownBlock = some q) := Lib.hid (fun q h1 h2 => by
                      rcases hat' with h | h
                      · exact HD6.out q (h ▸ h1) h2
                      · rw [h] at h1; have := (HO7.out.lt q h2).2; have h3 := Option.some.inj h1; omega); clear hown' hf' hat')
          go_roundg (gk - 1)
          case measure => omega
          case rel => exact ⟨L1 ++ [1], B3, d3, L2 ++ [1], B4, d4, i64c (by omega), by omega, Lib.hid (by have := HLL.out; omega), by rw [e2], by rw [e1]; exact HS8, by rw [e1, ints_app]; exact HO8, by rw [e2, ints_app]; exact HP8, by rw [e1, e2]; exact HD8⟩
        · have l2 : ¬ (L1.length : Int) < (m : Int) := by omega
          have b0 : wr.cell? ⟨w.heap.size + 1, 0, none⟩ = some (.int .i64 d) := HS.out.bb.cell 0
          have b1 : wr.cell? ⟨w.heap.size + 1, 1, none⟩ = some (.int .i64 cr) := HS.out.bb.cell 1
          have r0 : wr.cell? ⟨w.heap.size, 0, none⟩ = some (.int .i64 0) := HS.out.rb.cell 0
          have r1 : wr.cell? ⟨w.heap.size, 1, none⟩ = some (.int .i64 0) := HS.out.rb.cell 1
          have r2 : wr.cell? ⟨w.heap.size, 2, none⟩ = some (.slice none 0 0) := HS.out.rb.cell 2
          have rf := fun j => HS.out.rb.frozen j
          have hAB : Ab B2 (w.heap.size + 2) := fun a e => by
            subst e
            rcases HO2.out.2 with ⟨e, _⟩ | ⟨gg, cap, cur, e, hg, _⟩
            · injection e with e; cases e
            · injection e with e; injection e with e; subst e; exact hg
          have HAB := Lib.hid hAB
          clear hAB
          go_wp2_with fail
          exact HEND.out wr B1 d1 L1 B2 L2.length d2 (fun j => L2.getD j 0) i' y HS.out HO1.out (by omega) (by have := HLL.out; omega) (own_rdI HO2.out) HAB.out (by omega) _ rfl rfl rfl
end Go.Proofs.Ytacppheedleamaa

set_option linter.unusedVariables false
set_option linter.unusedSimpArgs false
namespace Go.Proofs.Ytacppheedleamaa
open Go.RowKit
set_option maxRecDepth 100000

theorem infoRowD : (Try.prog.info? 40).map (fun i => (i.zero, i.size, i.bytes)) = some (some (.agg #[.int .i64 0, .int .i64 0, .slice none 0 0]), 3, 40) := by kernel_rfl
/-- A row as data. -/
structure RwD where
  d : Int
  c : Int
  A : Option Addr
  q : Nat
  L : List Int
def rwV (r : RwD) : List Value := [.int .i64 r.d, .int .i64 r.c, .slice r.A r.L.length r.q]
def rwsV (rs : List RwD) : List Value := rs.flatMap rwV
theorem rwsV_app (rs : List RwD) (r : RwD) : rwsV (rs ++ [r]) = rwsV rs ++ rwV r := by simp [rwsV]
/-- Rows that a call owns. -/
structure RowsOk (B : Nat) (X : World) (v : Value) (rs : List RwD) : Prop where
  ow : X.ownsRow B 40 3 v rs.length (rwsV rs)
  st : ∀ r ∈ rs, X.ownsRow B 2 1 (.slice r.A r.L.length r.q) r.L.length (ints r.L) ∧ r.L.length ≤ 20
/-- A chart is being drawn: the result's block R, its own block G. -/
structure Ch0 (w X : World) (R G g : Nat) (A : Option Addr) (n c : Nat) (b : Nat → Int) (i y : Nat) (cols : Int) (v : Value) : Prop where
  rb : Blk X R 26 #[.int .i64 0, .slice none 0 0]
  bb : Blk X G 26 #[.int .i64 cols, v]
  src : Src X g A n c b i y
  fr : Fr w X (fun b => b = g)
theorem two_own {X : World} {B B' n n' sz sz' k : Nat} {e e' : TypeId} {v v' : Value} {xs xs' : List Value} (h : X.ownsRow B e sz v n xs) (h' : X.ownsRow B' e' sz' v' n' xs') (hne : e ≠ e') (hk : v.ownBlock = some k) (hk' : v'.ownBlock = some k) : False := by
  rcases h.2 with ⟨rfl, _⟩ | ⟨g2, cap, cur, rfl, _, hg, _⟩
  · cases hk
  · rcases h'.2 with ⟨rfl, _⟩ | ⟨g3, cap', cur', rfl, _, hg', _⟩
    · cases hk'
    · simp [Value.ownBlock] at hk hk'
      subst hk
      subst hk'
      rw [hg'] at hg
      simp only [Option.some.injEq, Obj.cells.injEq] at hg
      exact hne hg.2.1.symm
section
variable {w X Y : World} {R G g B : Nat} {A : Option Addr} {n c : Nat} {b : Nat → Int} {i i' y y' : Nat} {cols : Int} {v : Value} {rs : List RwD}
theorem Ch0.draw (h : Ch0 w X R G g A n c b i y cols v) (hg : g < w.heap.size) (hR : w.heap.size ≤ R) (hG : w.heap.size ≤ G) (hs : Src Y g A n c b i' y') (hf : Fr X Y (fun b => b = g)) : Ch0 w Y R G g A n c b i' y' cols v :=
  ⟨h.rb.fr hf (by omega), h.bb.fr hf (by omega), hs, h.fr.trans hf⟩
theorem Ch0.below (h : Ch0 w X R G g A n c b i y cols v) (hb : Below X.heap.size X Y) : Ch0 w Y R G g A n c b i y cols v :=
  ⟨h.rb.below hb h.rb.lt, h.bb.below hb h.bb.lt, h.src.below hb, h.fr.trans (Fr.of_below hb _)⟩
theorem Ch0.put (h : Ch0 w X R G g A n c b i y cols v) (hg : g < w.heap.size) (hG : w.heap.size ≤ G) (hRG : R ≠ G) (v' : Value) : Ch0 w (X.setCell ⟨G, 1, none⟩ v') R G g A n c b i y cols v' := by
  have hl : Below w.heap.size X (X.setCell ⟨G, 1, none⟩ v') := (Below.refl _ _).setCell (p := ⟨G, 1, none⟩) hG _
  exact ⟨h.rb.far hRG _, h.bb.set_ 1 v', h.src.base hl hg, h.fr.then_below hl⟩
theorem Ch0.num (h : Ch0 w X R G g A n c b i y cols v) (hg : g < w.heap.size) (hG : w.heap.size ≤ G) (hRG : R ≠ G) (s : Int) : Ch0 w (X.setCell ⟨G, 0, none⟩ (.int .i64 s)) R G g A n c b i y s v := by
  have hl : Below w.heap.size X (X.setCell ⟨G, 0, none⟩ (.int .i64 s)) := (Below.refl _ _).setCell (p := ⟨G, 0, none⟩) hG _
  exact ⟨h.rb.far hRG _, h.bb.set_ 0 _, h.src.base hl hg, h.fr.then_below hl⟩
theorem Ch0.app (h : Ch0 w X R G g A n c b i y cols v) (hg : g < w.heap.size) {e : TypeId} {sz m : Nat} {v0 : Value} {xs : List Value} (ho : X.ownsRow w.heap.size e sz v0 m xs) (hne : 26 ≠ e) (hf : Fr X Y (fun b => v0.ownBlock = some b)) : Ch0 w Y R G g A n c b i y cols v := by
  have h1 := two_blk h.rb ho hne
  have h2 := two_blk h.bb ho hne
  have hl : Below w.heap.size X Y := hf.below h.fr.size (fun b hb => (ho.lt b hb).1)
  exact ⟨h.rb.fr hf h1, h.bb.fr hf h2, h.src.base hl hg, h.fr.then_below hl⟩
theorem Ch0.fin (h : Ch0 w X R G g A n c b i y cols v) (hg : g < w.heap.size) (hR : w.heap.size ≤ R) :
    Blk ((X.setCell ⟨R, 0, none⟩ (.int .i64 cols)).setCell ⟨R, 1, none⟩ v) R 26 #[.int .i64 cols, v] ∧ Src ((X.setCell ⟨R, 0, none⟩ (.int .i64 cols)).setCell ⟨R, 1, none⟩ v) g A n c b i y ∧ Fr w ((X.setCell ⟨R, 0, none⟩ (.int .i64 cols)).setCell ⟨R, 1, none⟩ v) (fun b => b = g) := by
  have hl : Below w.heap.size X ((X.setCell ⟨R, 0, none⟩ (.int .i64 cols)).setCell ⟨R, 1, none⟩ v) := ((Below.refl _ _).setCell (p := ⟨R, 0, none⟩) hR _).setCell (p := ⟨R, 1, none⟩) hR _
  exact ⟨(h.rb.set_ 0 _).set_ 1 _, h.src.base hl hg, h.fr.then_below hl⟩
theorem RowsOk.keep (h : RowsOk B X v rs) (hk : ∀ q, (v.ownBlock = some q ∨ ∃ r ∈ rs, (Value.slice r.A r.L.length r.q).ownBlock = some q) → Y.heap[q]? = X.heap[q]?) : RowsOk B Y v rs :=
  ⟨own_keep h.ow fun q hq => hk q (.inl hq), fun r hr => ⟨own_keep (h.st r hr).1 fun q hq => hk q (.inr ⟨r, hr, hq⟩), (h.st r hr).2⟩⟩
theorem RowsOk.lt (h : RowsOk B X v rs) {q : Nat} (hq : v.ownBlock = some q ∨ ∃ r ∈ rs, (Value.slice r.A r.L.length r.q).ownBlock = some q) : B ≤ q ∧ q < X.heap.size := by
  rcases hq with h1 | ⟨r, hr, h1⟩
  · exact h.ow.lt q h1
  · exact (h.st r hr).1.lt q h1
theorem RowsOk.fr (h : RowsOk B X v rs) (hg : g < B) (hf : Fr X Y (fun b => b = g)) : RowsOk B Y v rs := h.keep fun q hq => hf.block q (h.lt hq).2 (by have := (h.lt hq).1; omega)
theorem RowsOk.below (h : RowsOk B X v rs) (hb : Below X.heap.size X Y) : RowsOk B Y v rs := h.keep fun q hq => hb.block q (h.lt hq).2
theorem RowsOk.far (h : RowsOk B X v rs) {t : TypeId} {cs : Array Value} (hb : Blk X G t cs) (h1 : t ≠ 40) (h2 : t ≠ 2) (o : Nat) (u : Value) : RowsOk B (X.setCell ⟨G, o, none⟩ u) v rs := h.keep fun q hq => Below.heap_setCell _ ⟨G, o, none⟩ u q fun e => by
  subst e
  rcases hq with h3 | ⟨r, hr, h3⟩
  · exact two_blk hb h.ow h1 h3
  · exact two_blk hb (h.st r hr).1 h2 h3
/-- A row more: behind an append. -/
theorem RowsOk.push (h : RowsOk B X v rs) {r : RwD} (hr : X.ownsRow B 2 1 (.slice r.A r.L.length r.q) r.L.length (ints r.L) ∧ r.L.length ≤ 20) {v' : Value} (ho : Y.ownsRow B 40 3 v' (rs.length + 1) (rwsV rs ++ rwV r)) (hf : Fr X Y (fun b => v.ownBlock = some b)) : RowsOk B Y v' (rs ++ [r]) := by
  refine ⟨by rw [rwsV_app, List.length_append]; exact ho, fun r' hr' => ?_⟩
  have h1 : X.ownsRow B 2 1 (.slice r'.A r'.L.length r'.q) r'.L.length (ints r'.L) ∧ r'.L.length ≤ 20 := by
    rcases List.mem_append.1 hr' with h2 | h2
    · exact h.st r' h2
    · rw [List.mem_singleton.1 h2]; exact hr
  exact ⟨own_keep h1.1 fun q hq => hf.block q (h1.1.lt q hq).2 fun hv => two_own h.ow h1.1 (by decide) hv hq, h1.2⟩
end
/-- A chart that a draw made. -/
def ChQ (w : World) (g : Nat) (A : Option Addr) (n c : Nat) (b : Nat → Int) (i K : Nat) (e : Ending) (w' : World) : Prop :=
  ∃ (cols : Nat) (A1 : Option Addr) (c1 : Nat) (rs : List RwD), e = .returned (.agg #[.int .i64 cols, .slice A1 rs.length c1]) ∧ (1 ≤ cols ∧ cols ≤ 8) ∧ (1 ≤ rs.length ∧ rs.length ≤ 4) ∧ RowsOk w.heap.size w' (.slice A1 rs.length c1) rs ∧ Drawn w w' g A n c b i K
set_option maxHeartbeats 16000000 in
theorem l15Draw_any (g : Nat) (A : Option Addr) (n c : Nat) (b : Nat → Int) (i x : Nat) (w : World) (h : Src w g A n c b i x) (hi : i < 576460752303423488) :
    Calls Try.prog 49 #[.pointer (some ⟨g, 0, none⟩), .int .i64 8, .int .i64 4] w (ChQ w g A n c b i 844424930132100) := by
  obtain ⟨i0, hi0, iz, is, ib⟩ := info_parts infoD
  obtain ⟨j0, hj0, jz, js, jb⟩ := info_parts infoRowD
  have hgw := h.blk.lt
  have hblk := Blk.at_ w 26 #[.int .i64 0, .slice none 0 0] rfl
  obtain ⟨w1, hw1⟩ : ∃ w1, w1 = w.alloc (.cells #[.int .i64 0, .slice none 0 0] 26) := ⟨_, rfl⟩
  have HB1 := Lib.hid (show Below w.heap.size w w1 by rw [hw1]; exact (Below.refl _ _).alloc (Nat.le_refl _) _)
  rw [← hw1] at hblk
  have HK1 := Lib.hid hblk
  have hz1 := hblk.lt
  have HPK := Lib.hid (src_pickS 8 (by omega) (by omega) g A n c b i x w1 (h.below HB1.out) (by omega))
  clear h hblk
  go_enter Try.func49, Try.ntmps49
  go_upto_region 1 with fail
  rw [← hw1]
  clear hw1
  go_wp2_with fail
  refine HPK.out.mono ?_
  rintro e w2 ⟨u2, y2, rfl, hu2, hs2, hf2, _⟩
  obtain ⟨t2, ht2⟩ : ∃ t, t = u2 % 8 := ⟨_, rfl⟩
  have ht3 : t2 < 8 := by omega
  rw [← ht2]
  have hz2 : w1.heap.size ≤ w2.heap.size := hf2.size
  have HS2 := Lib.hid hs2
  have HF2 := Lib.hid ((Fr.of_below HB1.out _).trans hf2)
  have HK2 := Lib.hid (HK1.out.fr hf2 (by omega))
  clear hs2 hf2 HPK ht2 HK1
  go_upto_region 2 with fail
  obtain ⟨cl, hcl⟩ : ∃ q : Nat, q = 1 + t2 := ⟨_, rfl⟩
  have hcl8 : 1 ≤ cl ∧ cl ≤ 8 := by omega
  have hci : 1 + (t2 : Int) = (cl : Int) := by omega
  obtain ⟨G, hG⟩ : ∃ G, G = w2.heap.size := ⟨_, rfl⟩
  have HA2 := (Below.refl w2.heap.size w2).alloc (Nat.le_refl _) (.cells #[.int .i64 cl, .slice none 0 0] 26)
  have HC := Lib.hid (show Ch0 w (w2.alloc (.cells #[.int .i64 cl, .slice none 0 0] 26)) w.heap.size G g A n c b (i + 1) y2 cl (.slice none 0 0) from
    ⟨HK2.out.alloc _, by rw [hG]; exact Blk.at_ w2 _ _ rfl, HS2.out.below HA2, HF2.out.trans (Fr.of_below HA2 _)⟩)
  have hRG : w.heap.size ≠ G := by omega
  have hGl : w.heap.size ≤ G := by omega
  clear HA2 HS2 HF2 HK2
  rw [hci, ← hG]
  obtain ⟨w3, hw3⟩ : ∃ w3, w3 = w2.alloc (.cells #[.int .i64 cl, .slice none 0 0] 26) := ⟨_, rfl⟩
  rw [← hw3] at HC ⊢
  clear hw3 hci hG hz2 hcl
  have hEND : ∀ (X : World) (A1 : Option Addr) (c1 : Nat) (rs : List RwD) (i' y' : Nat), Ch0 w X w.heap.size G g A n c b i' y' cl (.slice A1 rs.length c1) → RowsOk w.heap.size X (.slice A1 rs.length c1) rs → 1 ≤ rs.length ∧ rs.length ≤ 4 → i' ≤ i + 844424930132100 → ∀ a : Act, a.tmps[6]?.getD undef = .pointer (some ⟨w.heap.size, 0, none⟩) → a.defers = [] → bodyPost Try.prog Try.f49 (ChQ w g A n c b i 844424930132100) Exit.ret a ((X.setCell ⟨w.heap.size, 0, none⟩ (.int .i64 cl)).setCell ⟨w.heap.size, 1, none⟩ (.slice A1 rs.length c1)) := fun X A1 c1 rs i' y' hX hr hl hi' a ha hdf => by
    obtain ⟨k1, k3, k4⟩ := hX.fin hgw (Nat.le_refl _)
    have g0 := k1.cell 0
    have g1 := k1.cell 1
    simp only [List.getElem?_toArray, List.getElem?_cons_zero, List.getElem?_cons_succ] at g0 g1
    have r1 := hr.far hX.rb (by decide) (by decide) 0 (.int .i64 cl)
    have r2 := r1.far (hX.rb.set_ 0 (.int .i64 cl)) (by decide) (by decide) 1 (.slice A1 rs.length c1)
    exact bodyPost_ret (v := .agg #[.int .i64 cl, .slice A1 rs.length c1]) (by simp [results, Try.results49, go_sem, g0, g1, ha]) hdf ⟨cl, A1, c1, rs, rfl, hcl8, hl, r2, i', y', k3, hi', k4⟩
  have HEND := Lib.hid hEND
  clear hEND
  have HA3 := (Below.refl w3.heap.size w3).alloc (Nat.le_refl _) (.cells #[] 2)
  have hz3 := HC.out.bb.lt
  have HC4 := Lib.hid (HC.out.below HA3)
  have HO4 := Lib.hid (World.ownsRow_made w3 #[] 0 (show w.heap.size ≤ w3.heap.size by omega) (by unfold maxLen; omega) rfl : (w3.alloc (.cells #[] 2)).ownsRow w.heap.size 2 1 (.slice (some ⟨w3.heap.size, 0, none⟩) 0 0) 0 [])
  clear HA3 HC
  go_upto_region 3 with fail
  go_loopg [8] cl (fun gh st wr => ∃ (L1 : List Int) (B1 : Option Addr) (d1 : Nat), st = .slice B1 L1.length d1 ∧ gh + L1.length = cl ∧ Hid (Ch0 w wr w.heap.size G g A n c b (i + 1) y2 cl (.slice none 0 0)) ∧ Hid (wr.ownsRow w.heap.size 2 1 (.slice B1 L1.length d1) L1.length (ints L1)))
  case atStart => exact ⟨[], _, _, rfl, rfl, HC4, HO4⟩
  case round =>
    clear HC4 HO4
    obtain ⟨L1, B1, d1, rfl, hgk, HC, HO⟩ := hrel
    have hsz := HC.out.fr.size
    have b0 : wr.cell? ⟨G, 0, none⟩ = some (.int .i64 cl) := HC.out.bb.cell 0
    by_cases hlt : L1.length < cl
    · have l2 : (L1.length : Int) < (cl : Int) := by omega
      have e1 : (L1 ++ [1]).length = L1.length + 1 := by simp
      go_wp2_with (at_builtin; go_must (refine wpList_appG wr rfl (.tmp 25) (.tmp 26) _ rfl w.heap.size 2 i0 _ 1 8 Try.underlying38 hi0 iz is ib rfl (by omega) (.slice B1 L1.length d1) L1.length (ints L1) rfl HO.out _ 1 1 _ rfl rfl (by simp [Value.oneCell']) (by unfold maxLen; omega) (by omega) hsz ?_); intro v' w' hown' hf'; obtain ⟨B3, d3, rfl⟩ := own_form hown'; have HC6 := Lib.hid (HC.out.app hgw HO.out (by decide) hf'); have HO6 := Lib.hid hown'; clear hown' hf')
      go_roundg (gk - 1)
      case measure => omega
      case rel => exact ⟨L1 ++ [1], B3, d3, by rw [e1], by omega, HC6, by rw [e1, ints_app]; exact HO6⟩
    · have l2 : ¬ (L1.length : Int) < (cl : Int) := by omega
      obtain ⟨wo, hwo⟩ : ∃ x, x = wr := ⟨_, rfl⟩
      subst hwo
      go_wp2_with fail
      refine (src_one 6 (by omega) (by omega) g A n c b (i + 1) y2 _ HC.out.src (by omega)).mono ?_
      rintro e w4 ⟨t4, rfl, i4, y4, hs4, hi4, hf4⟩
      have HC4 := Lib.hid (HC.out.draw hgw (Nat.le_refl _) hGl hs4 hf4)
      have HO4 := Lib.hid (own_fr HO.out hf4 (fun k hk => by have := (HO.out.lt k hk).1; omega))
      clear hs4 hf4 HC HO b0
      go_upto_if 29 with fail
      go_cut [9] from 28 to 29 (fun dv wx => ∃ d : Int, dv = .int .i64 d ∧ Hid (dirB d = true) ∧ Hid (Ch0 w wx w.heap.size G g A n c b i4 y4 cl (.slice none 0 0)) ∧ Hid (wx.ownsRow w.heap.size 2 1 (.slice B1 L1.length d1) L1.length (ints L1)))
      case first =>
        cases t4
        all_goals
          go_wp2_with fail
          go_meet
          exact ⟨_, rfl, Lib.hid (by decide), HC4, HO4⟩
      case rest =>
        obtain ⟨d, rfl, HD, HC5, HO5⟩ := hcut
        clear HC4 HO4
        go_wp2_with fail
        refine (src_pickS 4 (by omega) (by omega) g A n c b i4 y4 _ HC5.out.src (by omega)).mono ?_
        rintro e w5 ⟨u5, y5, rfl, hu5, hs5, hf5, _⟩
        obtain ⟨t5, ht5⟩ : ∃ t, t = u5 % 4 := ⟨_, rfl⟩
        have ht6 : t5 < 4 := by omega
        rw [← ht5]
        have HC6 := Lib.hid (HC5.out.draw hgw (Nat.le_refl _) hGl hs5 hf5)
        have HO6 := Lib.hid (own_fr HO5.out hf5 (fun k hk => by have := (HO5.out.lt k hk).1; omega))
        clear hs5 hf5 ht5 HC5 HO5
        go_upto_region 9 with fail
        obtain ⟨K0, hK0, hK4⟩ : ∃ q : Nat, 1 + (t5 : Int) = (q : Int) ∧ 1 ≤ q ∧ q ≤ 4 := ⟨1 + t5, by omega, by omega⟩
        rw [hK0]
        clear hK0
        have HR0 : Hid (RowsOk w.heap.size w5 (.slice none ([] : List RwD).length 0) []) := Lib.hid ⟨⟨rfl, .inl ⟨rfl, rfl⟩⟩, fun r hr => by cases hr⟩
        go_loopg [8, 9, 10] K0 (fun gh st dv k wr => ∃ (As : Option Addr) (m ca : Nat) (S : Nat → Int) (d : Int) (A1 : Option Addr) (c1 : Nat) (rs : List RwD) (i' y' : Nat), st = .slice As m ca ∧ dv = .int .i64 d ∧ k = .int .i64 gh ∧ rs.length + gh = K0 ∧ i' + 211106232533000 * gh ≤ i + 5 + 211106232533000 * K0 ∧ m ≤ 8 ∧ Hid (dirB d = true) ∧ Hid (Ch0 w wr w.heap.size G g A n c b i' y' cl (.slice A1 rs.length c1)) ∧ Hid (RowsOk w.heap.size wr (.slice A1 rs.length c1) rs) ∧ Hid (Rd wr As m (fun j => .int .i64 (S j))) ∧ Hid (∀ a, As = some a → a.block ≠ g))
        case atStart =>
          have hAB : ∀ a, B1 = some a → a.block ≠ g := fun a e => by
            subst e
            rcases HO6.out.2 with ⟨e, _⟩ | ⟨gg, cap, cur, e, hg, _⟩
            · injection e with e; cases e
            · injection e with e; injection e with e; subst e; show gg ≠ g; omega
          exact ⟨B1, L1.length, d1, fun j => L1.getD j 0, d, none, 0, [], i4 + 1, y5, rfl, rfl, rfl, by simp, by omega, by omega, HD, HC6, HR0, Lib.hid (own_rdI HO6.out), Lib.hid hAB⟩
        case round =>
          clear HC6 HO6 HR0 HD
          obtain ⟨As, m, ca, S, d, A1, c1, rs, i', y', rfl, rfl, rfl, hlen, hi', hm8, HD, HC, HR, HRd, HA⟩ := hrel
          have hsz := HC.out.fr.size
          by_cases hlt : 0 < gk
          · have l3 : (0 : Int) < (gk : Int) := by omega
            obtain ⟨wq, hwq⟩ : ∃ x, x = wr := ⟨_, rfl⟩
            subst hwq
            go_wp2_with fail
            refine (src_one 12 (by omega) (by omega) g A n c b i' y' _ HC.out.src (by omega)).mono ?_
            rintro e w7 ⟨t7, rfl, i7, y7, hs7, hi7, hf7⟩
            have HC7 := Lib.hid (HC.out.draw hgw (Nat.le_refl _) hGl hs7 hf7)
            have HR7 := Lib.hid (HR.out.fr hgw hf7)
            have HRd7 := Lib.hid (HRd.out.src hf7 HA.out)
            clear hs7 hf7 HC HR HRd
            go_upto_if 39 with fail
            go_cut [11] from 34 to 62 (fun cv wx => ∃ (cr : Int) (i8 y8 : Nat), cv = .int .i64 cr ∧ i8 ≤ i7 + 1 ∧ Hid (Ch0 w wx w.heap.size G g A n c b i8 y8 cl (.slice A1 rs.length c1)) ∧ Hid (RowsOk w.heap.size wx (.slice A1 rs.length c1) rs) ∧ Hid (Rd wx As m (fun j => .int .i64 (S j))))
            case first =>
              cases t7
              · go_wp2_with fail
                go_meet
                exact ⟨1, i7, y7, rfl, by omega, HC7, HR7, HRd7⟩
              · go_wp2_with fail
                refine (src_pickS 4 (by omega) (by omega) g A n c b i7 y7 _ HC7.out.src (by omega)).mono ?_
                rintro e w8 ⟨u8, y8, rfl, hu8, hs8, hf8, _⟩
                obtain ⟨t8, ht8⟩ : ∃ t, t = u8 % 4 := ⟨_, rfl⟩
                have ht9 : t8 < 4 := by omega
                rw [← ht8]
                have HC8 := Lib.hid (HC7.out.draw hgw (Nat.le_refl _) hGl hs8 hf8)
                have HR8 := Lib.hid (HR7.out.fr hgw hf8)
                have HRd8 := Lib.hid (HRd7.out.src hf8 HA.out)
                clear hs8 hf8 ht8
                go_wp2_with fail
                go_meet
                exact ⟨_, i7 + 1, y8, rfl, by omega, HC8, HR8, HRd8⟩
            case rest =>
              obtain ⟨cr, i8, y8, rfl, hi8, HC8, HR8, HRd8⟩ := hcut
              clear HC7 HR7 HRd7
              have hsz8 := HC8.out.fr.size
              have HDR := Lib.hid (l15DrawRow_any d cr HD.out As m ca S hm8 g A n c b i8 y8 wc HC8.out.src (by omega) HRd8.out HA.out)
              go_wp2_with fail
              refine HDR.out.mono ?_
              rintro e w9 ⟨A5, c5, L, A6, n6, c6, S6, rfl, ho, hl, hn6, hr6, hab, i9, y9, hs9, hi9, hf9⟩
              have HC9 := Lib.hid (HC8.out.draw hgw (Nat.le_refl _) hGl hs9 hf9)
              have HR9 := Lib.hid (HR8.out.fr hgw hf9)
              have hz9 := hf9.size
              have hGc : G < wc.heap.size := HC8.out.bb.lt
              have HO9 := Lib.hid (own_base ho hsz8)
              have HR6 := Lib.hid hr6
              have HAB := Lib.hid hab
              have HVL := Lib.hid (fun q hq => (HR8.out.ow.lt q hq).2)
              have hG9 : G < w9.heap.size := HC9.out.bb.lt
              clear ho hr6 hab hs9 hf9 HC8 HR8 HRd8 HDR
              have HAL := Lib.hid ((Below.refl w9.heap.size w9).alloc (Nat.le_refl _) (.cells #[.int .i64 d, .int .i64 cr, .slice A5 L.length c5] 40))
              have HCA := Lib.hid (HC9.out.below HAL.out)
              have HRA := Lib.hid (HR9.out.below HAL.out)
              have HOA := Lib.hid (own_below HO9.out HAL.out)
              have HPA := Lib.hid (Blk.at_ w9 40 #[.int .i64 d, .int .i64 cr, .slice A5 L.length c5] rfl)
              have HNA := Lib.hid (HR6.out.below HAL.out)
              go_upto_region 15 with fail
              obtain ⟨P, hP⟩ : ∃ q, q = w9.heap.size := ⟨_, rfl⟩
              obtain ⟨wA, hwA⟩ : ∃ x, x = w9.alloc (.cells #[.int .i64 d, .int .i64 cr, .slice A5 L.length c5] 40) := ⟨_, rfl⟩
              have hzA : w9.heap.size ≤ wA.heap.size := by rw [hwA]; simp
              rw [← hwA] at HCA HRA HOA HPA HNA ⊢
              rw [← hP] at HPA ⊢
              clear hwA HAL HC9 HR9 HO9 HR6 hP
              have k1 : wA.cell? ⟨G, 1, none⟩ = some (.slice A1 rs.length c1) := HCA.out.bb.cell 1
              have p0 : wA.cell? ⟨P, 0, none⟩ = some (.int .i64 d) := HPA.out.cell 0
              have p1 : wA.cell? ⟨P, 1, none⟩ = some (.int .i64 cr) := HPA.out.cell 1
              have p2 : wA.cell? ⟨P, 2, none⟩ = some (.slice A5 L.length c5) := HPA.out.cell 2
              have hszA : w.heap.size ≤ wA.heap.size := by omega
              have hn1 : rs.length + 1 ≤ maxLen := by unfold maxLen; omega
              have hn2 : (rs.length + 1) * 40 ≤ 140737488355328 := by omega
              have hL20 : L.length ≤ 20 := by omega
              go_upto_region 16 with (at_builtin; go_must (refine wpList_appG wA rfl (.tmp 52) (.tmp 54) _ rfl w.heap.size 40 j0 _ 3 40 Try.underlying24 hj0 jz js jb rfl (by omega) (.slice A1 rs.length c1) rs.length (rwsV rs) rfl HRA.out.ow _ 1 1 _ rfl rfl (by simp [Value.oneCell']) hn1 hn2 hszA ?_); intro v' w' hown' hf'; obtain ⟨A7, c7, rfl⟩ := own_form hown'; have HC' := Lib.hid (HCA.out.app hgw HRA.out.ow (by decide) hf'); have HR' := Lib.hid (HRA.out.push (r := ⟨d, cr, A5, c5, L⟩) ⟨HOA.out, hL20⟩ hown' hf'); have HN' := Lib.hid (HNA.out.blk hf'.size fun a e hlt => hf'.block _ hlt fun h => by have h1 := HVL.out _ h; have h2 := HAB.out a e; omega); have m1 : w'.cell? ⟨G, 1, none⟩ = some (.slice A1 rs.length c1) := HC'.out.bb.cell 1; have mf := fun j => HC'.out.bb.frozen j; have hzw := hf'.size; clear hown' hf')
              have e1 : (rs ++ [(⟨d, cr, A5, c5, L⟩ : RwD)]).length = rs.length + 1 := by simp
              have HCS := Lib.hid (HC'.out.put hgw hGl hRG (.slice A7 (rs.length + 1) c7))
              have HRS := Lib.hid (HR'.out.far HC'.out.bb (by decide) (by decide) 1 (.slice A7 (rs.length + 1) c7))
              have HNS := Lib.hid (HN'.out.blk (w' := w'.setCell ⟨G, 1, none⟩ (.slice A7 (rs.length + 1) c7)) (by simp) fun a e hlt => Below.heap_setCell _ ⟨G, 1, none⟩ _ _ (fun h => by have h2 := HAB.out a e; have h3 : a.block = G := h; omega))
              obtain ⟨wS, hwS⟩ : ∃ x, x = w'.setCell ⟨G, 1, none⟩ (.slice A7 (rs.length + 1) c7) := ⟨_, rfl⟩
              have hzS : w'.heap.size ≤ wS.heap.size := by rw [hwS]; simp
              rw [← hwS] at HCS HRS HNS ⊢
              clear hwS HC' HR' HN' m1 mf HCA HRA HOA HPA HNA k1 p0 p1 p2 hn1 hn2
              have HAG : Hid (∀ a, A6 = some a → a.block ≠ g) := Lib.hid fun a e => by have := HAB.out a e; omega
              go_wp2_with fail
              refine (src_one 12 (by omega) (by omega) g A n c b i9 y9 _ HCS.out.src (by omega)).mono ?_
              rintro e w10 ⟨t10, rfl, i10, y10, hs10, hi10, hf10⟩
              have HC10 := Lib.hid (HCS.out.draw hgw (Nat.le_refl _) hGl hs10 hf10)
              have HR10 := Lib.hid (HRS.out.fr hgw hf10)
              have HN10 := Lib.hid (HNS.out.src hf10 HAG.out)
              clear hs10 hf10 HCS HRS HNS
              rcases dirB_of HD.out with rfl | rfl
              all_goals
                cases t10
                all_goals
                  go_wp2_with fail
                  go_roundg (gk - 1)
                  case measure => omega
                  case rel => exact ⟨A6, n6, c6, S6, _, A7, c7, rs ++ [⟨_, cr, A5, c5, L⟩], i10, y10, rfl, rfl, i64c (by omega), by rw [e1]; omega, by omega, hn6, Lib.hid (by decide), by rw [e1]; exact HC10, by rw [e1]; exact HR10, HN10, HAG⟩
          · obtain rfl : gk = 0 := by omega
            have b0 : wr.cell? ⟨G, 0, none⟩ = some (.int .i64 cl) := HC.out.bb.cell 0
            have b1 : wr.cell? ⟨G, 1, none⟩ = some (.slice A1 rs.length c1) := HC.out.bb.cell 1
            have r0 : wr.cell? ⟨w.heap.size, 0, none⟩ = some (.int .i64 0) := HC.out.rb.cell 0
            have r1 : wr.cell? ⟨w.heap.size, 1, none⟩ = some (.slice none 0 0) := HC.out.rb.cell 1
            have rf := fun j => HC.out.rb.frozen j
            go_wp2_with fail
            exact HEND.out wr A1 c1 rs i' y' HC.out HR.out (by omega) (by omega) _ rfl rfl
end Go.Proofs.Ytacppheedleamaa

set_option linter.unusedVariables false
set_option linter.unusedSimpArgs false
namespace Go.Proofs.Ytacppheedleamaa
open Go.RowKit

theorem own_put {B : Nat} {w : World} {e : TypeId} {size g n c : Nat} {xs : List Value} (h : w.ownsRow B e size (.slice (some ⟨g, 0, none⟩) n c) n xs) (q : Nat) (u : Value) : (w.setCell ⟨g, q, none⟩ u).ownsRow B e size (.slice (some ⟨g, 0, none⟩) n c) n (xs.set q u) := by
  obtain ⟨hl, ⟨h1, _⟩ | ⟨g', cap, cur, h1, hB, hg, h2, h3, h4, h5⟩⟩ := h
  · cases h1
  · injection h1 with h1 _ h6
    injection h1 with h1
    injection h1 with h1
    subst h1 h6
    refine ⟨by rw [List.length_set]; exact hl, .inr ⟨g, c, cur.setIfInBounds q u, rfl, hB, Blk.set_ hg q u, h2, h3, by simpa using h4, ?_⟩⟩
    rw [Array.toList_setIfInBounds, List.take_set, h5]
theorem rwsV_cons (r : RwD) (rs : List RwD) : rwsV (r :: rs) = .int .i64 r.d :: .int .i64 r.c :: .slice r.A r.L.length r.q :: rwsV rs := rfl
theorem rwsV_set0 (t : Int) {r : RwD} : ∀ (rs : List RwD) (k : Nat), rs[k]? = some r → rwsV (rs.set k ⟨t, r.c, r.A, r.q, r.L⟩) = (rwsV rs).set (k * 3) (.int .i64 t)
  | [], k, h => by simp at h
  | r0 :: rs, 0, h => by
    simp only [List.getElem?_cons_zero, Option.some.injEq] at h
    subst h
    rfl
  | r0 :: rs, k + 1, h => by
    rw [List.getElem?_cons_succ] at h
    rw [List.set_cons_succ, rwsV_cons, rwsV_cons, rwsV_set0 t rs k h, show (k + 1) * 3 = k * 3 + 1 + 1 + 1 by omega, List.set_cons_succ, List.set_cons_succ, List.set_cons_succ]
theorem rwsV_set1 (t : Int) {r : RwD} : ∀ (rs : List RwD) (k : Nat), rs[k]? = some r → rwsV (rs.set k ⟨r.d, t, r.A, r.q, r.L⟩) = (rwsV rs).set (k * 3 + 1) (.int .i64 t)
  | [], k, h => by simp at h
  | r0 :: rs, 0, h => by
    simp only [List.getElem?_cons_zero, Option.some.injEq] at h
    subst h
    rfl
  | r0 :: rs, k + 1, h => by
    rw [List.getElem?_cons_succ] at h
    rw [List.set_cons_succ, rwsV_cons, rwsV_cons, rwsV_set1 t rs k h, show (k + 1) * 3 + 1 = k * 3 + 1 + 1 + 1 + 1 by omega, List.set_cons_succ, List.set_cons_succ, List.set_cons_succ]
theorem rwsV_set2 (A : Option Addr) (q : Nat) (L : List Int) {r : RwD} : ∀ (rs : List RwD) (k : Nat), rs[k]? = some r → rwsV (rs.set k ⟨r.d, r.c, A, q, L⟩) = (rwsV rs).set (k * 3 + 2) (.slice A L.length q)
  | [], k, h => by simp at h
  | r0 :: rs, 0, h => by
    simp only [List.getElem?_cons_zero, Option.some.injEq] at h
    subst h
    rfl
  | r0 :: rs, k + 1, h => by
    rw [List.getElem?_cons_succ] at h
    rw [List.set_cons_succ, rwsV_cons, rwsV_cons, rwsV_set2 A q L rs k h, show (k + 1) * 3 + 2 = k * 3 + 2 + 1 + 1 + 1 by omega, List.set_cons_succ, List.set_cons_succ, List.set_cons_succ]
section
variable {X : World} {B g2 c1 k q : Nat} {rs : List RwD} {r : RwD} {u : Value}
/-- One cell of row k is stored. -/
theorem RowsOk.setR (h : RowsOk B X (.slice (some ⟨g2, 0, none⟩) rs.length c1) rs) {r' : RwD} (he : rwsV (rs.set k r') = (rwsV rs).set q u) (hr : X.ownsRow B 2 1 (.slice r'.A r'.L.length r'.q) r'.L.length (ints r'.L) ∧ r'.L.length ≤ 20) : RowsOk B (X.setCell ⟨g2, q, none⟩ u) (.slice (some ⟨g2, 0, none⟩) rs.length c1) (rs.set k r') := by
  refine ⟨by rw [he, List.length_set]; exact own_put h.ow q u, fun r1 hr1 => ?_⟩
  have h1 : X.ownsRow B 2 1 (.slice r1.A r1.L.length r1.q) r1.L.length (ints r1.L) ∧ r1.L.length ≤ 20 := by
    rcases List.mem_or_eq_of_mem_set hr1 with h2 | h2
    · exact h.st r1 h2
    · rw [h2]; exact hr
  exact ⟨own_keep h1.1 fun b hb => Below.heap_setCell X ⟨g2, q, none⟩ u b fun e => by
    subst e
    exact two_own h.ow h1.1 (by decide) rfl hb, h1.2⟩
theorem RowsOk.set0 (h : RowsOk B X (.slice (some ⟨g2, 0, none⟩) rs.length c1) rs) (hk : rs[k]? = some r) (t : Int) : RowsOk B (X.setCell ⟨g2, k * 3, none⟩ (.int .i64 t)) (.slice (some ⟨g2, 0, none⟩) rs.length c1) (rs.set k ⟨t, r.c, r.A, r.q, r.L⟩) :=
  h.setR (rwsV_set0 t rs k hk) (h.st r (List.mem_of_getElem? hk))
theorem RowsOk.set1 (h : RowsOk B X (.slice (some ⟨g2, 0, none⟩) rs.length c1) rs) (hk : rs[k]? = some r) (t : Int) : RowsOk B (X.setCell ⟨g2, k * 3 + 1, none⟩ (.int .i64 t)) (.slice (some ⟨g2, 0, none⟩) rs.length c1) (rs.set k ⟨r.d, t, r.A, r.q, r.L⟩) :=
  h.setR (rwsV_set1 t rs k hk) (h.st r (List.mem_of_getElem? hk))
theorem RowsOk.set2 (h : RowsOk B X (.slice (some ⟨g2, 0, none⟩) rs.length c1) rs) (hk : rs[k]? = some r) {A : Option Addr} {q : Nat} {L : List Int} (ho : X.ownsRow B 2 1 (.slice A L.length q) L.length (ints L) ∧ L.length ≤ 20) : RowsOk B (X.setCell ⟨g2, k * 3 + 2, none⟩ (.slice A L.length q)) (.slice (some ⟨g2, 0, none⟩) rs.length c1) (rs.set k ⟨r.d, r.c, A, q, L⟩) :=
  h.setR (rwsV_set2 A q L rs k hk) ho
/-- Where the rows lie. -/
theorem RowsOk.at_ {A1 : Option Addr} (h : RowsOk B X (.slice A1 rs.length c1) rs) (h1 : 1 ≤ rs.length) : ∃ g2 cur, A1 = some ⟨g2, 0, none⟩ ∧ B ≤ g2 ∧ Blk X g2 40 cur ∧ rs.length * 3 ≤ cur.size ∧ cur.toList.take (rs.length * 3) = rwsV rs := by
  obtain ⟨hl, ⟨h2, h3⟩ | ⟨g', cap, cur, h2, hB, hg, h3, h4, h5, h6⟩⟩ := h.ow
  · omega
  · injection h2 with h2
    exact ⟨g', cur, h2, hB, hg, by rw [h5]; exact Nat.mul_le_mul_right 3 h3, h6⟩
def rw0 : RwD := ⟨0, 0, none, 0, []⟩
abbrev dF (rs : List RwD) (j : Nat) : Int := (rs.getD j rw0).d
abbrev cF (rs : List RwD) (j : Nat) : Int := (rs.getD j rw0).c
abbrev AF (rs : List RwD) (j : Nat) : Option Addr := (rs.getD j rw0).A
abbrev nF (rs : List RwD) (j : Nat) : Nat := (rs.getD j rw0).L.length
abbrev qF (rs : List RwD) (j : Nat) : Nat := (rs.getD j rw0).q
abbrev zF (rs : List RwD) (j i : Nat) : Int := (rs.getD j rw0).L.getD i 0
theorem rwsV_get : ∀ (rs : List RwD) (q : Nat), q < rs.length * 3 → (rwsV rs)[q]? = some (rowF (dF rs) (cF rs) (AF rs) (nF rs) (qF rs) q)
  | [], q, h => by simp at h
  | r :: rs, 0, _ => rfl
  | r :: rs, 1, _ => rfl
  | r :: rs, 2, _ => rfl
  | r :: rs, q + 3, h => by
    have ih := rwsV_get rs q (by simp at h; omega)
    rw [rwsV_cons, List.getElem?_cons_succ, List.getElem?_cons_succ, List.getElem?_cons_succ, ih]
    unfold rowF
    rw [show (q + 3) % 3 = q % 3 by omega, show (q + 3) / 3 = q / 3 + 1 by omega]
    rfl
theorem getD_mem {rs : List RwD} {j : Nat} (h : j < rs.length) : rs.getD j rw0 ∈ rs := by
  rw [List.getD_eq_getElem?_getD, List.getElem?_eq_getElem h]
  exact List.getElem_mem h
/-- It reads as rows. -/
theorem RowsOk.rd {A1 : Option Addr} (h : RowsOk B X (.slice A1 rs.length c1) rs) : RdRows A1 rs.length (dF rs) (cF rs) (AF rs) (nF rs) (qF rs) (zF rs) X := by
  refine ⟨fun h0 => ?_, fun j hj => own_rdI (h.st _ (getD_mem hj)).1⟩
  obtain ⟨g2, cur, rfl, _, hb, hc, ht⟩ := h.at_ (by omega)
  refine ⟨g2, 0, rfl, hb.lt, fun q hq => ?_⟩
  rw [Nat.zero_add, hb.cell q, ← rwsV_get rs q hq, ← ht, List.getElem?_take_of_lt hq, Array.getElem?_toList]
theorem RowsOk.cells (h : RowsOk B X (.slice (some ⟨g2, 0, none⟩) rs.length c1) rs) (hk : k < rs.length) : X.cell? ⟨g2, k * 3, none⟩ = some (.int .i64 (dF rs k)) ∧ X.cell? ⟨g2, k * 3 + 1, none⟩ = some (.int .i64 (cF rs k)) ∧ X.cell? ⟨g2, k * 3 + 2, none⟩ = some (.slice (AF rs k) (nF rs k) (qF rs k)) ∧ ∀ j, X.frozen? ⟨g2, j, none⟩ = false := by
  obtain ⟨g3, o, e, _, h0, h1, h2⟩ := h.rd.row hk
  injection e with e
  injection e with e1 e2
  subst e1 e2
  obtain ⟨g4, cur, e, _, hb, _⟩ := h.at_ (by omega)
  injection e with e
  injection e with e1
  subst e1
  rw [Nat.zero_add] at h0 h1 h2
  exact ⟨h0, h1, h2, fun j => hb.frozen j⟩
theorem Ch0.row {w : World} {R G g : Nat} {A : Option Addr} {n c : Nat} {b : Nat → Int} {i y : Nat} {cols : Int} {v : Value} (h : Ch0 w X R G g A n c b i y cols v) (hg : g < w.heap.size) (hr : RowsOk w.heap.size X (.slice (some ⟨g2, 0, none⟩) rs.length c1) rs) (q : Nat) (u : Value) : Ch0 w (X.setCell ⟨g2, q, none⟩ u) R G g A n c b i y cols v := by
  have h1 : R ≠ g2 := fun e => two_blk h.rb hr.ow (by decide) (by rw [e]; rfl)
  have h2 : G ≠ g2 := fun e => two_blk h.bb hr.ow (by decide) (by rw [e]; rfl)
  have hl : Below w.heap.size X (X.setCell ⟨g2, q, none⟩ u) := (Below.refl _ _).setCell (p := ⟨g2, q, none⟩) (hr.ow.lt g2 rfl).1 _
  exact ⟨h.rb.far h1 _, h.bb.far h2 _, h.src.base hl hg, h.fr.then_below hl⟩
end
end Go.Proofs.Ytacppheedleamaa

set_option linter.unusedVariables false
set_option linter.unusedSimpArgs false
namespace Go.Proofs.Ytacppheedleamaa
open Go.RowKit
set_option maxRecDepth 100000

/-- A chart that a draw made, valid or not. -/
def ChF (w : World) (g : Nat) (A : Option Addr) (n c : Nat) (b : Nat → Int) (i K : Nat) (e : Ending) (w' : World) : Prop :=
  ∃ (cols : Int) (A1 : Option Addr) (c1 : Nat) (rs : List RwD), e = .returned (.agg #[.int .i64 cols, .slice A1 rs.length c1]) ∧ rs.length ≤ 9 ∧ RowsOk w.heap.size w' (.slice A1 rs.length c1) rs ∧ Drawn w w' g A n c b i K
theorem three_row (w : World) (t : TypeId) (d c : Int) (A : Option Addr) (n q : Nat) : RowR (w.alloc (.cells #[.int .i64 d, .int .i64 c, .slice A n q] t)) w.heap.size 0 (1 * 3) (rowF (fun _ => d) (fun _ => c) (fun _ => A) (fun _ => n) (fun _ => q)) := fun j hj => by
  have h : j = 0 ∨ j = 1 ∨ j = 2 := by omega
  rcases h with rfl | rfl | rfl
  · exact cell_alloc_at rfl 0
  · exact cell_alloc_at rfl 1
  · exact cell_alloc_at rfl 2
theorem rowF_one (d c : Int) (A : Option Addr) (n q : Nat) (j : Nat) : (rowF (fun _ => d) (fun _ => c) (fun _ => A) (fun _ => n) (fun _ => q) j).oneCell' = true := by
  unfold rowF
  split
  · rfl
  · split <;> rfl
set_option maxHeartbeats 16000000 in
theorem l15Bent_any (g : Nat) (A : Option Addr) (n c : Nat) (b : Nat → Int) (i x : Nat) (w : World) (h : Src w g A n c b i x) (hi : i < 288230376151711744) :
    Calls Try.prog 27 #[.pointer (some ⟨g, 0, none⟩)] w (ChF w g A n c b i 914793674309900) := by
  obtain ⟨j0, hj0, jz, js, jb⟩ := info_parts infoRowD
  have hgw := h.blk.lt
  have hblk := Blk.at_ w 26 #[.int .i64 0, .slice none 0 0] rfl
  obtain ⟨w1, hw1⟩ : ∃ w1, w1 = w.alloc (.cells #[.int .i64 0, .slice none 0 0] 26) := ⟨_, rfl⟩
  have HB1 := Lib.hid (show Below w.heap.size w w1 by rw [hw1]; exact (Below.refl _ _).alloc (Nat.le_refl _) _)
  rw [← hw1] at hblk
  have HK1 := Lib.hid hblk
  have hz1 := hblk.lt
  have HDR := Lib.hid (l15Draw_any g A n c b i x w1 (h.below HB1.out) (by omega))
  clear h hblk
  go_enter Try.func27, Try.ntmps27
  go_upto_region 1 with fail
  rw [← hw1]
  clear hw1
  go_wp2_with fail
  refine HDR.out.mono ?_
  rintro e w2 ⟨cl, A1, c1, rs, rfl, hcl, hrl, hro, i2, y2, hs2, hi2, hf2⟩
  obtain ⟨G, hG⟩ : ∃ G, G = w2.heap.size := ⟨_, rfl⟩
  have hz2 : w1.heap.size ≤ w2.heap.size := hf2.size
  have HA2 := (Below.refl w2.heap.size w2).alloc (Nat.le_refl _) (.cells #[.int .i64 cl, .slice A1 rs.length c1] 26)
  have HC := Lib.hid (show Ch0 w (w2.alloc (.cells #[.int .i64 cl, .slice A1 rs.length c1] 26)) w.heap.size G g A n c b i2 y2 cl (.slice A1 rs.length c1) from
    ⟨(HK1.out.fr hf2 (by omega)).alloc _, by rw [hG]; exact Blk.at_ w2 _ _ rfl, hs2.below HA2, ((Fr.of_below HB1.out _).trans hf2).trans (Fr.of_below HA2 _)⟩)
  have HR : Hid (RowsOk w.heap.size (w2.alloc (.cells #[.int .i64 cl, .slice A1 rs.length c1] 26)) (.slice A1 rs.length c1) rs) := Lib.hid (RowsOk.below ⟨own_base hro.ow (by omega), fun r hr => ⟨own_base (hro.st r hr).1 (by omega), (hro.st r hr).2⟩⟩ HA2)
  have hRG : w.heap.size ≠ G := by omega
  have hGl : w.heap.size ≤ G := by omega
  clear hro hs2 hf2 HDR HK1 HA2
  go_upto_region 2 with fail
  rw [← hG]
  obtain ⟨w3, hw3⟩ : ∃ w3, w3 = w2.alloc (.cells #[.int .i64 cl, .slice A1 rs.length c1] 26) := ⟨_, rfl⟩
  rw [← hw3] at HC HR ⊢
  clear hw3 hG hz2
  have hEND : ∀ (X : World) (cols : Int) (A1 : Option Addr) (c1 : Nat) (rs : List RwD) (N i' y' : Nat), rs.length = N → Ch0 w X w.heap.size G g A n c b i' y' cols (.slice A1 N c1) → RowsOk w.heap.size X (.slice A1 N c1) rs → N ≤ 9 → i' ≤ i + 914793674309900 → ∀ a : Act, a.tmps[2]?.getD undef = .pointer (some ⟨w.heap.size, 0, none⟩) → a.defers = [] → bodyPost Try.prog Try.f27 (ChF w g A n c b i 914793674309900) Exit.ret a ((X.setCell ⟨w.heap.size, 0, none⟩ (.int .i64 cols)).setCell ⟨w.heap.size, 1, none⟩ (.slice A1 N c1)) := fun X cols A1 c1 rs N i' y' hN hX hr hl hi' a ha hdf => by
    subst hN
    obtain ⟨k1, k3, k4⟩ := hX.fin hgw (Nat.le_refl _)
    have g0 := k1.cell 0
    have g1 := k1.cell 1
    simp only [List.getElem?_toArray, List.getElem?_cons_zero, List.getElem?_cons_succ] at g0 g1
    have r1 := hr.far hX.rb (by decide) (by decide) 0 (.int .i64 cols)
    have r2 := r1.far (hX.rb.set_ 0 (.int .i64 cols)) (by decide) (by decide) 1 (.slice A1 rs.length c1)
    exact bodyPost_ret (v := .agg #[.int .i64 cols, .slice A1 rs.length c1]) (by simp [results, Try.results27, go_sem, g0, g1, ha]) hdf ⟨cols, A1, c1, rs, rfl, hl, r2, i', y', k3, hi', k4⟩
  have HEND := Lib.hid hEND
  clear hEND
  have b1 : w3.cell? ⟨G, 1, none⟩ = some (.slice A1 rs.length c1) := HC.out.bb.cell 1
  go_wp2_with fail
  refine (src_pick rs.length (by omega) g A n c b i2 y2 _ HC.out.src (by omega)).mono ?_
  rintro e w4 ⟨k, rfl, hk, i4, y4, hs4, hi4, hf4⟩
  have hkl : k < rs.length := by omega
  have HC4 := Lib.hid (HC.out.draw hgw (Nat.le_refl _) hGl hs4 hf4)
  have HR4 := Lib.hid (HR.out.fr hgw hf4)
  clear hs4 hf4 HC HR b1 hk
  go_wp2_with fail
  refine (src_pickS 20 (by omega) (by omega) g A n c b i4 y4 _ HC4.out.src (by omega)).mono ?_
  rintro e w5 ⟨u5, y5, rfl, hu5, hs5, hf5, _⟩
  obtain ⟨t, ht⟩ : ∃ t, t = u5 % 20 := ⟨_, rfl⟩
  have ht20 : t < 20 := by omega
  rw [← ht]
  have HC5 := Lib.hid (HC4.out.draw hgw (Nat.le_refl _) hGl hs5 hf5)
  have HR5 := Lib.hid (HR4.out.fr hgw hf5)
  clear hs5 hf5 ht HC4 HR4
  obtain ⟨g2, cur, rfl, hg2, hbg, _, _⟩ := HR5.out.at_ (by omega)
  have HBG := Lib.hid hbg
  have hg2l := hbg.lt
  clear hbg
  obtain ⟨r, hrk⟩ : ∃ r, rs[k]? = some r := ⟨_, List.getElem?_eq_getElem hkl⟩
  have HRK := Lib.hid hrk
  clear hrk
  have b0 : w5.cell? ⟨G, 0, none⟩ = some (.int .i64 cl) := HC5.out.bb.cell 0
  have b1 : w5.cell? ⟨G, 1, none⟩ = some (.slice (some ⟨g2, 0, none⟩) rs.length c1) := HC5.out.bb.cell 1
  have bf := fun j => HC5.out.bb.frozen j
  have r0 : w5.cell? ⟨w.heap.size, 0, none⟩ = some (.int .i64 0) := HC5.out.rb.cell 0
  have r1 : w5.cell? ⟨w.heap.size, 1, none⟩ = some (.slice none 0 0) := HC5.out.rb.cell 1
  have rf := fun j => HC5.out.rb.frozen j
  by_cases h0 : t = 0
  · subst h0
    have HA5 := Lib.hid ((Below.refl w5.heap.size w5).alloc (Nat.le_refl _) (.cells #[.int .i64 0, .int .i64 (-1), .int .i64 8, .int .i64 9, .int .i64 2] 2))
    have HAM := Lib.hid (src_among [0, -1, 8, 9, 2] (some ⟨w5.heap.size, 0, none⟩) 5 (by decide) (by decide) g A n c b (i4 + 1) y5 _ (HC5.out.src.below HA5.out) (by omega) (rdI_lit w5 2 _ _ rfl) (fun a e => by injection e with e; subst e; show w5.heap.size ≠ g; omega))
    go_wp2_with fail
    refine HAM.out.mono ?_
    rintro e w6 ⟨u6, y6, rfl, hu6, hs6, hf6, _⟩
    obtain ⟨kd, hk⟩ : ∃ k, k = ([0, -1, 8, 9, 2] : List Int).getD (u6 % ([0, -1, 8, 9, 2] : List Int).length) 0 := ⟨_, rfl⟩
    rw [← hk]
    have HC6 := Lib.hid ((HC5.out.below HA5.out).draw hgw (Nat.le_refl _) hGl hs6 hf6)
    have HR6 := Lib.hid ((HR5.out.below HA5.out).fr hgw hf6)
    have k0 : w6.cell? ⟨G, 0, none⟩ = some (.int .i64 cl) := HC6.out.bb.cell 0
    have k1 : w6.cell? ⟨G, 1, none⟩ = some (.slice (some ⟨g2, 0, none⟩) rs.length c1) := HC6.out.bb.cell 1
    have kf := fun j => HC6.out.bb.frozen j
    have m0 : w6.cell? ⟨w.heap.size, 0, none⟩ = some (.int .i64 0) := HC6.out.rb.cell 0
    have m1 : w6.cell? ⟨w.heap.size, 1, none⟩ = some (.slice none 0 0) := HC6.out.rb.cell 1
    have mf := fun j => HC6.out.rb.frozen j
    have HCS := Lib.hid (HC6.out.num hgw hGl hRG kd)
    have HRS := Lib.hid (HR6.out.far HC6.out.bb (by decide) (by decide) 0 (.int .i64 kd))
    clear hs6 hf6 hk HAM HC5 HR5
    go_wp2_with fail
    exact HEND.out _ kd (some ⟨g2, 0, none⟩) c1 rs rs.length _ y6 rfl HCS.out HRS.out (by omega) (by omega) _ rfl rfl
  have h0b : ((t : Int) == 0) = false := by rw [beq_eq_false_iff_ne]; omega
  have h0c : ¬ (t : Int) = 0 := by omega
  by_cases h1 : t = 1
  · subst h1
    go_upto_region 7 with fail
    have HA5 := Lib.hid (((Below.refl w5.heap.size w5).alloc (Nat.le_refl _) (.cells #[.int .i64 0, .int .i64 2, .int .i64 (-1)] 2)).drew)
    have HAM := Lib.hid (src_among [0, 2, -1] (some ⟨w5.heap.size, 0, none⟩) 3 (by decide) (by decide) g A n c b (i4 + 1) y5 _ (HC5.out.src.below HA5.out) (by omega) ((rdI_lit w5 2 _ _ rfl).below ((Below.refl _ _).drew)) (fun a e => by injection e with e; subst e; show w5.heap.size ≠ g; omega))
    have q1 : (w5.alloc (.cells #[.int .i64 0, .int .i64 2, .int .i64 (-1)] 2)).cell? ⟨G, 1, none⟩ = some (.slice (some ⟨g2, 0, none⟩) rs.length c1) := (HC5.out.bb.alloc _).cell 1
    have l1 : (0 : Int) ≤ (k : Int) := by omega
    have l2 : (k : Int) < (rs.length : Int) := by omega
    go_region_law (first
      | (go_simp; go_at_call 51; refine HAM.out.mono ?_; rintro e w6 ⟨u6, y6, rfl, hu6, hs6, hf6, _⟩; obtain ⟨kd, hk⟩ : ∃ k, k = ([0, 2, -1] : List Int).getD (u6 % ([0, 2, -1] : List Int).length) 0 := ⟨_, rfl⟩; rw [← hk]; have HC6 := Lib.hid ((HC5.out.below HA5.out).draw hgw (Nat.le_refl _) hGl hs6 hf6); have HR6 := Lib.hid ((HR5.out.below HA5.out).fr hgw hf6); have k1 : w6.cell? ⟨G, 1, none⟩ = some (.slice (some ⟨g2, 0, none⟩) rs.length c1) := HC6.out.bb.cell 1; obtain ⟨e0, e1, e2, ef⟩ := HR6.out.cells hkl; clear hs6 hf6 hk))
    all_goals
      have HC7 := Lib.hid (HC6.out.row hgw HR6.out (k * 3) (.int .i64 kd))
      have HR7 := Lib.hid (HR6.out.set0 HRK.out kd)
      have p0 : _ = some (Value.int .i64 cl) := HC7.out.bb.cell 0
      have p1 : _ = some (Value.slice (some ⟨g2, 0, none⟩) rs.length c1) := HC7.out.bb.cell 1
      have p2 : _ = some (Value.int .i64 0) := HC7.out.rb.cell 0
      have p3 : _ = some (Value.slice none 0 0) := HC7.out.rb.cell 1
      have pf := fun j => HC7.out.rb.frozen j
      clear e0 e1 e2 ef k1 HC6 HR6
      go_wp2_with fail
      exact HEND.out _ cl (some ⟨g2, 0, none⟩) c1 _ rs.length _ y6 (List.length_set ..) HC7.out HR7.out (by omega) (by omega) _ rfl rfl
  have h1b : ((t : Int) == 1) = false := by rw [beq_eq_false_iff_ne]; omega
  have h1c : ¬ (t : Int) = 1 := by omega
  by_cases h2 : t = 2
  · subst h2
    go_upto_region 9 with fail
    have HA5 := Lib.hid (((Below.refl w5.heap.size w5).alloc (Nat.le_refl _) (.cells #[.int .i64 0, .int .i64 4, .int .i64 5] 2)).drew)
    have HAM := Lib.hid (src_among [0, 4, 5] (some ⟨w5.heap.size, 0, none⟩) 3 (by decide) (by decide) g A n c b (i4 + 1) y5 _ (HC5.out.src.below HA5.out) (by omega) ((rdI_lit w5 2 _ _ rfl).below ((Below.refl _ _).drew)) (fun a e => by injection e with e; subst e; show w5.heap.size ≠ g; omega))
    have q1 : (w5.alloc (.cells #[.int .i64 0, .int .i64 4, .int .i64 5] 2)).cell? ⟨G, 1, none⟩ = some (.slice (some ⟨g2, 0, none⟩) rs.length c1) := (HC5.out.bb.alloc _).cell 1
    have l1 : (0 : Int) ≤ (k : Int) := by omega
    have l2 : (k : Int) < (rs.length : Int) := by omega
    go_region_law (first
      | (go_simp; go_at_call 51; refine HAM.out.mono ?_; rintro e w6 ⟨u6, y6, rfl, hu6, hs6, hf6, _⟩; obtain ⟨kd, hk⟩ : ∃ k, k = ([0, 4, 5] : List Int).getD (u6 % ([0, 4, 5] : List Int).length) 0 := ⟨_, rfl⟩; rw [← hk]; have HC6 := Lib.hid ((HC5.out.below HA5.out).draw hgw (Nat.le_refl _) hGl hs6 hf6); have HR6 := Lib.hid ((HR5.out.below HA5.out).fr hgw hf6); have k1 : w6.cell? ⟨G, 1, none⟩ = some (.slice (some ⟨g2, 0, none⟩) rs.length c1) := HC6.out.bb.cell 1; obtain ⟨e0, e1, e2, ef⟩ := HR6.out.cells hkl; clear hs6 hf6 hk))
    all_goals
      have HC7 := Lib.hid (HC6.out.row hgw HR6.out (k * 3 + 1) (.int .i64 kd))
      have HR7 := Lib.hid (HR6.out.set1 HRK.out kd)
      have p0 : _ = some (Value.int .i64 cl) := HC7.out.bb.cell 0
      have p1 : _ = some (Value.slice (some ⟨g2, 0, none⟩) rs.length c1) := HC7.out.bb.cell 1
      have p2 : _ = some (Value.int .i64 0) := HC7.out.rb.cell 0
      have p3 : _ = some (Value.slice none 0 0) := HC7.out.rb.cell 1
      have pf := fun j => HC7.out.rb.frozen j
      clear e0 e1 e2 ef k1 HC6 HR6
      go_wp2_with fail
      exact HEND.out _ cl (some ⟨g2, 0, none⟩) c1 _ rs.length _ y6 (List.length_set ..) HC7.out HR7.out (by omega) (by omega) _ rfl rfl
  have h2b : ((t : Int) == 2) = false := by rw [beq_eq_false_iff_ne]; omega
  have h2c : ¬ (t : Int) = 2 := by omega
  by_cases h3 : t = 3
  · subst h3
    go_upto_region 11 with fail
    have HA5 := Lib.hid ((Below.refl w5.heap.size w5).drew)
    have HLB := Lib.hid (l14Bent_any cl hcl.2 g A n c b (i4 + 1) y5 _ (HC5.out.src.below HA5.out) (by omega))
    have l1 : (0 : Int) ≤ (k : Int) := by omega
    have l2 : (k : Int) < (rs.length : Int) := by omega
    have hz5 := HC5.out.fr.size
    go_region_law (first
      | (go_simp; go_at_call 52; refine HLB.out.mono ?_; rintro e w6 ⟨v6, L6, rfl, ho6, hl6, _, i6, y6, hs6, hi6, hf6⟩; obtain ⟨A6, c6, rfl⟩ := own_form ho6; have HC6 := Lib.hid ((HC5.out.below HA5.out).draw hgw (Nat.le_refl _) hGl hs6 hf6); have HR6 := Lib.hid ((HR5.out.below HA5.out).fr hgw hf6); have HO6 := Lib.hid (own_base ho6 hz5); have k0 : w6.cell? ⟨G, 0, none⟩ = some (.int .i64 cl) := HC6.out.bb.cell 0; have k1 : w6.cell? ⟨G, 1, none⟩ = some (.slice (some ⟨g2, 0, none⟩) rs.length c1) := HC6.out.bb.cell 1; obtain ⟨e0, e1, e2, ef⟩ := HR6.out.cells hkl; clear hs6 hf6 ho6))
    all_goals
      have HC7 := Lib.hid (HC6.out.row hgw HR6.out (k * 3 + 2) (.slice A6 L6.length c6))
      have HR7 := Lib.hid (HR6.out.set2 HRK.out ⟨HO6.out, Nat.le_trans hl6 (by decide)⟩)
      have p0 : _ = some (Value.int .i64 cl) := HC7.out.bb.cell 0
      have p1 : _ = some (Value.slice (some ⟨g2, 0, none⟩) rs.length c1) := HC7.out.bb.cell 1
      have p2 : _ = some (Value.int .i64 0) := HC7.out.rb.cell 0
      have p3 : _ = some (Value.slice none 0 0) := HC7.out.rb.cell 1
      have pf := fun j => HC7.out.rb.frozen j
      clear k0 e0 e1 e2 ef k1 HC6 HR6
      go_wp2_with fail
      exact HEND.out _ cl (some ⟨g2, 0, none⟩) c1 _ rs.length _ y6 (List.length_set ..) HC7.out HR7.out (by omega) (by omega) _ rfl rfl
  have h3b : ((t : Int) == 3) = false := by rw [beq_eq_false_iff_ne]; omega
  have h3c : ¬ (t : Int) = 3 := by omega
  by_cases h4 : t = 4
  · subst h4
    have HC7 := Lib.hid (HC5.out.put hgw hGl hRG (.slice none 0 0))
    have HR7 : Hid (RowsOk w.heap.size (w5.setCell ⟨G, 1, none⟩ (.slice none 0 0)) (.slice none 0 0) []) := Lib.hid ⟨⟨rfl, .inl ⟨rfl, rfl⟩⟩, fun r hr => by cases hr⟩
    go_wp2_with fail
    exact HEND.out _ cl none 0 [] 0 _ y5 rfl HC7.out HR7.out (by omega) (by omega) _ rfl rfl
  have h4b : ((t : Int) == 4) = false := by rw [beq_eq_false_iff_ne]; omega
  have h4c : ¬ (t : Int) = 4 := by omega
  by_cases h5 : t = 5
  · subst h5
    go_upto_region 15 with fail
    go_loopg [] (10 - rs.length) (fun gh wr => ∃ (g3 c3 : Nat) (rs' : List RwD), gh = 10 - rs'.length ∧ (1 ≤ rs'.length ∧ rs'.length ≤ 9) ∧ Hid (Ch0 w wr w.heap.size G g A n c b (i4 + 1) y5 cl (.slice (some ⟨g3, 0, none⟩) rs'.length c3)) ∧ Hid (RowsOk w.heap.size wr (.slice (some ⟨g3, 0, none⟩) rs'.length c3) rs'))
    case atStart => exact ⟨g2, c1, rs, rfl, by omega, HC5, HR5⟩
    case round =>
      clear HC5 HR5 HBG HRK b0 b1 bf r0 r1 rf hg2l
      obtain ⟨g3, c3, rs', hgk, hl9, HC, HR⟩ := hrel
      have hsz := HC.out.fr.size
      have b1 : wr.cell? ⟨G, 1, none⟩ = some (.slice (some ⟨g3, 0, none⟩) rs'.length c3) := HC.out.bb.cell 1
      have bf := fun j => HC.out.bb.frozen j
      by_cases hlt : rs'.length ≤ 8
      · have l1 : (rs'.length : Int) ≤ 8 := by omega
        have l2 : 0 < rs'.length := by omega
        have hst := HR.out.st _ (getD_mem (show 0 < rs'.length by omega))
        obtain ⟨e0, e1, e2, ef⟩ := HR.out.cells (show 0 < rs'.length by omega)
        simp only [Nat.zero_mul, Nat.zero_add, dF, cF, AF, nF, qF] at e0 e1 e2
        obtain ⟨r, hr⟩ : ∃ r, r = rs'.getD 0 rw0 := ⟨_, rfl⟩
        rw [← hr] at e0 e1 e2 hst
        have hAL := ((Below.refl wr.heap.size wr).alloc (Nat.le_refl _) (.cells #[.int .i64 r.d, .int .i64 r.c, .slice r.A r.L.length r.q] 40)).drew
        have HCA := Lib.hid (HC.out.below hAL)
        have HRA := Lib.hid (HR.out.below hAL)
        have HSA := Lib.hid (show _ ∧ r.L.length ≤ 20 from ⟨own_below hst.1 hAL, hst.2⟩)
        have HRW : Hid (RowR (wr.alloc (.cells #[.int .i64 r.d, .int .i64 r.c, .slice r.A r.L.length r.q] 40)).drew wr.heap.size 0 (1 * 3) (rowF (fun _ => r.d) (fun _ => r.c) (fun _ => r.A) (fun _ => r.L.length) (fun _ => r.q))) := Lib.hid (three_row wr 40 r.d r.c r.A r.L.length r.q)
        have q1 : (wr.alloc (.cells #[.int .i64 r.d, .int .i64 r.c, .slice r.A r.L.length r.q] 40)).cell? ⟨G, 1, none⟩ = some (.slice (some ⟨g3, 0, none⟩) rs'.length c3) := HCA.out.bb.cell 1
        have hn1 : rs'.length + 1 ≤ maxLen := by unfold maxLen; omega
        have hn2 : (rs'.length + 1) * 40 ≤ 140737488355328 := by omega
        have hsA := HCA.out.fr.size
        clear hst hr hAL
        go_wp2_with fail
        go_region_law (first
          | (refine step_appR (wr.alloc (.cells #[.int .i64 r.d, .int .i64 r.c, .slice r.A r.L.length r.q] 40)).drew rfl (.tmp 61) (.tmp 66) _ rfl w.heap.size 40 j0 _ 3 40 Try.underlying24 hj0 jz js jb rfl (by decide) (.slice (some ⟨g3, 0, none⟩) rs'.length c3) rs'.length (rwsV rs') rfl HRA.out.ow wr.heap.size 0 1 1 _ rfl HRW.out (rowF_one _ _ _ _ _) hn1 hn2 hsA ?_; intro v' w' hown' hf'; obtain ⟨A7, c7, rfl⟩ := own_form hown'; have HC' := Lib.hid (HCA.out.app hgw HRA.out.ow (by decide) hf'); have HR' := Lib.hid (HRA.out.push (r := r) HSA.out hown' hf'); have m1 : w'.cell? ⟨G, 1, none⟩ = some (.slice (some ⟨g3, 0, none⟩) rs'.length c3) := HC'.out.bb.cell 1; have mf := fun j => HC'.out.bb.frozen j; clear hown' hf'))
        all_goals
          have e1 : (rs' ++ [r]).length = rs'.length + 1 := by simp
          obtain ⟨g7, cur7, rfl, _, _, _, _⟩ := RowsOk.at_ (c1 := c7) (A1 := A7) (rs := rs' ++ [r]) (by rw [e1]; exact HR'.out) (by omega)
          have HCS := Lib.hid (HC'.out.put hgw hGl hRG (.slice (some ⟨g7, 0, none⟩) (rs'.length + 1) c7))
          have HRS := Lib.hid (HR'.out.far HC'.out.bb (by decide) (by decide) 1 (.slice (some ⟨g7, 0, none⟩) (rs'.length + 1) c7))
          clear HC' HR' m1 mf q1 HCA HRA HSA HRW hsA hn1 hn2 e0 e1 e2 ef b1 bf
          go_wp2_with fail
          go_roundg (10 - (rs' ++ [r]).length)
          case measure => simp; omega
          case rel => exact ⟨g7, c7, rs' ++ [r], rfl, by simp; omega, by rw [List.length_append]; exact HCS, by rw [List.length_append]; exact HRS⟩
      · have l1 : ¬ (rs'.length : Int) ≤ 8 := by omega
        have b0 : wr.cell? ⟨G, 0, none⟩ = some (.int .i64 cl) := HC.out.bb.cell 0
        have r0 : wr.cell? ⟨w.heap.size, 0, none⟩ = some (.int .i64 0) := HC.out.rb.cell 0
        have r1 : wr.cell? ⟨w.heap.size, 1, none⟩ = some (.slice none 0 0) := HC.out.rb.cell 1
        have rf := fun j => HC.out.rb.frozen j
        go_wp2_with fail
        exact HEND.out _ cl (some ⟨g3, 0, none⟩) c3 rs' rs'.length _ y5 rfl HC.out HR.out (by omega) (by omega) _ rfl rfl
  have h5b : ((t : Int) == 5) = false := by rw [beq_eq_false_iff_ne]; omega
  have h5c : ¬ (t : Int) = 5 := by omega
  go_wp2_with fail
  exact HEND.out _ cl (some ⟨g2, 0, none⟩) c1 rs rs.length _ y5 rfl HC5.out HR5.out (by omega) (by omega) _ rfl rfl
end Go.Proofs.Ytacppheedleamaa

set_option linter.unusedVariables false
set_option linter.unusedSimpArgs false
namespace Go.Proofs.Ytacppheedleamaa
open Go.RowKit
set_option maxRecDepth 100000

/-- Bytes: their length and where they lie. -/
structure Code8 (w : World) (A : Option Addr) (n : Nat) (b : Nat → Int) : Prop where
  rd : Rd w A n (fun j => .int .u8 (b j))
  b : ∀ j, j < n → 0 ≤ b j ∧ b j < 256
  n : n ≤ 1048576
theorem Code8.below {w w' : World} {A : Option Addr} {n : Nat} {b : Nat → Int} (h : Code8 w A n b) (hb : Below w.heap.size w w') : Code8 w' A n b := ⟨h.rd.below hb, h.b, h.n⟩
theorem l00From_any (A : Option Addr) (n c : Nat) (b : Nat → Int) (w : World) (h : Code8 w A n b) :
    Calls Try.prog 26 #[.slice A n c] w fun e w' => e = .returned (.pointer (some ⟨w.heap.size, 0, none⟩)) ∧ Src w' w.heap.size A n c b 0 0 ∧ Below w.heap.size w w' := by
  have H := Lib.hid h
  clear h
  go_enter Try.func26, Try.ntmps26
  go_wp2_with fail
  go_ret
  have hb := (Below.refl w.heap.size w).alloc (Nat.le_refl _) (.cells #[.slice A n c, .int .i64 0, .int .u64 0] 87)
  exact ⟨rfl, ⟨Blk.at_ w _ _ rfl, by omega, H.out.rd.below hb, H.out.b, fun a h0 e => by
    obtain ⟨g, o, e2, hg, _⟩ := H.out.rd h0
    rw [e2] at e
    injection e with e
    subst e
    exact hg, H.out.n⟩, hb⟩
theorem drawn_fr {w w' : World} {g : Nat} {A : Option Addr} {n c : Nat} {b : Nat → Int} {i K : Nat} (h : Drawn w w' g A n c b i K) : Fr w w' (fun b => b = g) := by
  obtain ⟨_, _, _, _, hf⟩ := h
  exact hf
/-- What a draw of a chart leaves. -/
def ChP (w : World) (e : Ending) (w' : World) : Prop :=
  ∃ (cols : Int) (A1 : Option Addr) (c1 : Nat) (rs : List RwD), e = .returned (.agg #[.int .i64 cols, .slice A1 rs.length c1]) ∧ rs.length ≤ 9 ∧ (∀ r ∈ rs, r.L.length ≤ 20) ∧ RdRows A1 rs.length (dF rs) (cF rs) (AF rs) (nF rs) (qF rs) (zF rs) w' ∧ Below w.heap.size w w'
def BrP (w : World) (e : Ending) (w' : World) : Prop :=
  ∃ (s : Int) (A1 : Option Addr) (c1 : Nat) (L : List Int), e = .returned (.agg #[.int .i64 s, .slice A1 L.length c1]) ∧ L.length ≤ 41 ∧ Rd w' A1 L.length (fun j => .int .i64 (L.getD j 0)) ∧ Below w.heap.size w w'
theorem fr_below {w w1 w2 : World} (h1 : Below w.heap.size w w1) (h2 : Fr w1 w2 (fun b => b = w.heap.size)) : Below w.heap.size w w2 := h1.trans (h2.below h1.size fun b hb => by omega)
set_option maxHeartbeats 1000000 in
theorem drawFront_any (A : Option Addr) (n c : Nat) (b : Nat → Int) (w : World) (h : Code8 w A n b) :
    Calls Try.prog 16 #[.slice A n c] w (ChP w) := by
  have HB1 := Lib.hid ((Below.refl w.heap.size w).alloc (Nat.le_refl _) (.cells #[.int .i64 0, .slice none 0 0] 26))
  have HF := Lib.hid (l00From_any A n c b _ (h.below HB1.out))
  have HK := Lib.hid (Blk.at_ w 26 #[.int .i64 0, .slice none 0 0] rfl)
  clear h
  go_enter Try.func16, Try.ntmps16
  go_upto_region 1 with fail
  obtain ⟨w1, hw1⟩ : ∃ x, x = w.alloc (.cells #[.int .i64 0, .slice none 0 0] 26) := ⟨_, rfl⟩
  have hz1 : w.heap.size < w1.heap.size := by rw [hw1]; simp
  rw [← hw1] at HB1 HF HK ⊢
  clear hw1
  go_wp2_with fail
  refine HF.out.mono ?_
  rintro e w2 ⟨rfl, hs, hb⟩
  obtain ⟨i0, hi0, hs⟩ : ∃ i0 : Nat, i0 ≤ 5 ∧ Src w2 w1.heap.size A n c b i0 0 := ⟨0, Nat.zero_le _, hs⟩
  have HS := Lib.hid (l15Bent_any w1.heap.size A n c b i0 0 w2 hs (by omega))
  have HB2 := Lib.hid hb
  have HK2 := Lib.hid (HK.out.below hb HK.out.lt)
  have hz2 := hb.size
  clear hs hb HF HK
  go_wp2_with fail
  refine HS.out.mono ?_
  rintro e w3 ⟨cols, A1, c1, rs, rfl, hl, hr, hdr⟩
  have hf : Fr w2 w3 (fun b => b = w1.heap.size) := drawn_fr hdr
  clear hdr
  have HR := Lib.hid hr
  have HK3 := Lib.hid (HK2.out.fr hf (by omega))
  have HB3 := Lib.hid (HB1.out.trans ((fr_below HB2.out hf).mono (by omega)))
  clear hr hf HK2
  have r0 : w3.cell? ⟨w.heap.size, 0, none⟩ = some (.int .i64 0) := HK3.out.cell 0
  have r1 : w3.cell? ⟨w.heap.size, 1, none⟩ = some (.slice none 0 0) := HK3.out.cell 1
  have rf := fun j => HK3.out.frozen j
  have k1 : Blk ((w3.setCell ⟨w.heap.size, 0, none⟩ (.int .i64 cols)).setCell ⟨w.heap.size, 1, none⟩ (.slice A1 rs.length c1)) w.heap.size 26 #[.int .i64 cols, .slice A1 rs.length c1] := (HK3.out.set_ 0 (.int .i64 cols)).set_ 1 (.slice A1 rs.length c1)
  have g0 := k1.cell 0
  have g1 := k1.cell 1
  have hrF := (HR.out.far HK3.out (by decide) (by decide) 0 (.int .i64 cols)).far (HK3.out.set_ 0 (.int .i64 cols)) (by decide) (by decide) 1 (.slice A1 rs.length c1)
  have HRF := Lib.hid hrF
  clear k1 hrF
  simp only [List.getElem?_toArray, List.getElem?_cons_zero, List.getElem?_cons_succ] at g0 g1
  go_wp2_with fail
  exact bodyPost_ret (v := .agg #[.int .i64 cols, .slice A1 rs.length c1]) (by simp [results, Try.results16, go_sem, g0, g1]) rfl ⟨cols, A1, c1, rs, rfl, hl, fun r hr => (HR.out.st r hr).2, HRF.out.rd, (HB3.out.setCell (p := ⟨w.heap.size, 0, none⟩) (Nat.le_refl _) _).setCell (p := ⟨w.heap.size, 1, none⟩) (Nat.le_refl _) _⟩
set_option maxHeartbeats 1000000 in
theorem drawHandKnit_any (A : Option Addr) (n c : Nat) (b : Nat → Int) (w : World) (h : Code8 w A n b) :
    Calls Try.prog 6 #[.slice A n c] w (ChP w) := by
  have HB1 := Lib.hid ((Below.refl w.heap.size w).alloc (Nat.le_refl _) (.cells #[.int .i64 0, .slice none 0 0] 26))
  have HF := Lib.hid (l00From_any A n c b _ (h.below HB1.out))
  have HK := Lib.hid (Blk.at_ w 26 #[.int .i64 0, .slice none 0 0] rfl)
  clear h
  go_enter Try.func6, Try.ntmps6
  go_upto_region 1 with fail
  obtain ⟨w1, hw1⟩ : ∃ x, x = w.alloc (.cells #[.int .i64 0, .slice none 0 0] 26) := ⟨_, rfl⟩
  have hz1 : w.heap.size < w1.heap.size := by rw [hw1]; simp
  rw [← hw1] at HB1 HF HK ⊢
  clear hw1
  go_wp2_with fail
  refine HF.out.mono ?_
  rintro e w2 ⟨rfl, hs, hb⟩
  obtain ⟨i0, hi0, hs⟩ : ∃ i0 : Nat, i0 ≤ 5 ∧ Src w2 w1.heap.size A n c b i0 0 := ⟨0, Nat.zero_le _, hs⟩
  have HS := Lib.hid (l15Bent_any w1.heap.size A n c b i0 0 w2 hs (by omega))
  have HB2 := Lib.hid hb
  have HK2 := Lib.hid (HK.out.below hb HK.out.lt)
  have hz2 := hb.size
  clear hs hb HF HK
  go_wp2_with fail
  refine HS.out.mono ?_
  rintro e w3 ⟨cols, A1, c1, rs, rfl, hl, hr, hdr⟩
  have hf : Fr w2 w3 (fun b => b = w1.heap.size) := drawn_fr hdr
  clear hdr
  have HR := Lib.hid hr
  have HK3 := Lib.hid (HK2.out.fr hf (by omega))
  have HB3 := Lib.hid (HB1.out.trans ((fr_below HB2.out hf).mono (by omega)))
  clear hr hf HK2
  have r0 : w3.cell? ⟨w.heap.size, 0, none⟩ = some (.int .i64 0) := HK3.out.cell 0
  have r1 : w3.cell? ⟨w.heap.size, 1, none⟩ = some (.slice none 0 0) := HK3.out.cell 1
  have rf := fun j => HK3.out.frozen j
  have k1 : Blk ((w3.setCell ⟨w.heap.size, 0, none⟩ (.int .i64 cols)).setCell ⟨w.heap.size, 1, none⟩ (.slice A1 rs.length c1)) w.heap.size 26 #[.int .i64 cols, .slice A1 rs.length c1] := (HK3.out.set_ 0 (.int .i64 cols)).set_ 1 (.slice A1 rs.length c1)
  have g0 := k1.cell 0
  have g1 := k1.cell 1
  have hrF := (HR.out.far HK3.out (by decide) (by decide) 0 (.int .i64 cols)).far (HK3.out.set_ 0 (.int .i64 cols)) (by decide) (by decide) 1 (.slice A1 rs.length c1)
  have HRF := Lib.hid hrF
  clear k1 hrF
  simp only [List.getElem?_toArray, List.getElem?_cons_zero, List.getElem?_cons_succ] at g0 g1
  go_wp2_with fail
  exact bodyPost_ret (v := .agg #[.int .i64 cols, .slice A1 rs.length c1]) (by simp [results, Try.results6, go_sem, g0, g1]) rfl ⟨cols, A1, c1, rs, rfl, hl, fun r hr => (HR.out.st r hr).2, HRF.out.rd, (HB3.out.setCell (p := ⟨w.heap.size, 0, none⟩) (Nat.le_refl _) _).setCell (p := ⟨w.heap.size, 1, none⟩) (Nat.le_refl _) _⟩
set_option maxHeartbeats 1000000 in
theorem drawBraid_any (A : Option Addr) (n c : Nat) (b : Nat → Int) (w : World) (h : Code8 w A n b) :
    Calls Try.prog 21 #[.slice A n c] w (BrP w) := by
  have HB1 := Lib.hid ((Below.refl w.heap.size w).alloc (Nat.le_refl _) (.cells #[.int .i64 0, .slice none 0 0] 53))
  have HF := Lib.hid (l00From_any A n c b _ (h.below HB1.out))
  have HK := Lib.hid (Blk.at_ w 53 #[.int .i64 0, .slice none 0 0] rfl)
  clear h
  go_enter Try.func21, Try.ntmps21
  go_upto_region 1 with fail
  obtain ⟨w1, hw1⟩ : ∃ x, x = w.alloc (.cells #[.int .i64 0, .slice none 0 0] 53) := ⟨_, rfl⟩
  have hz1 : w.heap.size < w1.heap.size := by rw [hw1]; simp
  rw [← hw1] at HB1 HF HK ⊢
  clear hw1
  go_wp2_with fail
  refine HF.out.mono ?_
  rintro e w2 ⟨rfl, hs, hb⟩
  obtain ⟨i0, hi0, hs⟩ : ∃ i0 : Nat, i0 ≤ 5 ∧ Src w2 w1.heap.size A n c b i0 0 := ⟨0, Nat.zero_le _, hs⟩
  have HS := Lib.hid (l03Bent_any w1.heap.size A n c b i0 0 w2 hs (by omega))
  have HB2 := Lib.hid hb
  have HK2 := Lib.hid (HK.out.below hb HK.out.lt)
  have hz2 := hb.size
  clear hs hb HF HK
  go_wp2_with fail
  refine HS.out.mono ?_
  rintro e w3 ⟨cols, A1, c1, rs, rfl, _, hr, hl, hdr⟩
  have hf : Fr w2 w3 (fun b => b = w1.heap.size) := drawn_fr hdr
  clear hdr
  have HR := Lib.hid hr
  have HK3 := Lib.hid (HK2.out.fr hf (by omega))
  have HB3 := Lib.hid (HB1.out.trans ((fr_below HB2.out hf).mono (by omega)))
  clear hr hf HK2
  have r0 : w3.cell? ⟨w.heap.size, 0, none⟩ = some (.int .i64 0) := HK3.out.cell 0
  have r1 : w3.cell? ⟨w.heap.size, 1, none⟩ = some (.slice none 0 0) := HK3.out.cell 1
  have rf := fun j => HK3.out.frozen j
  have k1 : Blk ((w3.setCell ⟨w.heap.size, 0, none⟩ (.int .i64 cols)).setCell ⟨w.heap.size, 1, none⟩ (.slice A1 rs.length c1)) w.heap.size 53 #[.int .i64 cols, .slice A1 rs.length c1] := (HK3.out.set_ 0 (.int .i64 cols)).set_ 1 (.slice A1 rs.length c1)
  have g0 := k1.cell 0
  have g1 := k1.cell 1
  have HRF := Lib.hid (own_keep (w' := (w3.setCell ⟨w.heap.size, 0, none⟩ (.int .i64 cols)).setCell ⟨w.heap.size, 1, none⟩ (.slice A1 rs.length c1)) HR.out fun b hb => (Below.heap_setCell _ ⟨w.heap.size, 1, none⟩ _ b (by have := (HR.out.lt b hb).1; show b ≠ w.heap.size; omega)).trans (Below.heap_setCell _ ⟨w.heap.size, 0, none⟩ _ b (by have := (HR.out.lt b hb).1; show b ≠ w.heap.size; omega)))
  clear k1
  simp only [List.getElem?_toArray, List.getElem?_cons_zero, List.getElem?_cons_succ] at g0 g1
  go_wp2_with fail
  exact bodyPost_ret (v := .agg #[.int .i64 cols, .slice A1 rs.length c1]) (by simp [results, Try.results21, go_sem, g0, g1]) rfl ⟨cols, A1, c1, rs, rfl, hl, own_rdI HRF.out, (HB3.out.setCell (p := ⟨w.heap.size, 0, none⟩) (Nat.le_refl _) _).setCell (p := ⟨w.heap.size, 1, none⟩) (Nat.le_refl _) _⟩
end Go.Proofs.Ytacppheedleamaa

set_option linter.unusedVariables false
set_option linter.unusedSimpArgs false
namespace Go.Proofs.Ytacppheedleamaa
open Go.RowKit
set_option maxRecDepth 100000

/-- The columns after each of k rows. -/
def colL (C : Nat) (ns : Nat → Nat) (z : Nat → Nat → Int) (k : Nat) : List Int := (List.range k).map fun j => (stN C ns z (j + 1) : Int)
theorem colL_next (C : Nat) (ns : Nat → Nat) (z : Nat → Nat → Int) (k : Nat) : colL C ns z (k + 1) = colL C ns z k ++ [(stN C ns z (k + 1) : Int)] := by simp [colL, List.range_succ]
theorem colL_len (C : Nat) (ns : Nat → Nat) (z : Nat → Nat → Int) (k : Nat) : (colL C ns z k).length = k := by simp [colL]
theorem own_slot {B n : Nat} {w : World} {e : TypeId} {A : Option Addr} {c : Nat} {xs : List Value} (h : w.ownsRow B e 1 (.slice A n c) n xs) {j : Nat} (hj : j < n) : ∃ g, A = some ⟨g, 0, none⟩ ∧ w.cell? ⟨g, j, none⟩ = xs[j]? := by
  rcases h.2 with ⟨e, h0⟩ | ⟨g, cap, cur, e, _, hg, _⟩
  · omega
  · injection e with e1 _ e3
    subst e1 e3
    exact ⟨g, rfl, by rw [h.cellAt j (by omega), List.getElem?_eq_getElem (by rw [h.1]; omega)]⟩
set_option maxHeartbeats 4000000 in
theorem specColumnsAfter_any (cols : Int) (A : Option Addr) (n q : Nat) (d c : Nat → Int) (As : Nat → Option Addr) (ns cs : Nat → Nat) (z : Nat → Nat → Int) (w : World) (ha : RdRows A n d c As ns cs z w) (hn : n ≤ 1048576) (hns : ∀ j, j < n → ns j ≤ 1048576) (hv : chartB cols n d c ns z = true) :
    Calls Try.prog 19 #[.agg #[.int .i64 cols, .slice A n q]] w fun e w' => ∃ A2 c2, e = .returned (.tuple #[.slice A2 n c2, .int .i64 0]) ∧ Rd w' A2 n (fun j => .int .i64 (stN cols.toNat ns z (j + 1) : Int)) ∧ Below w.heap.size w w' := by
  obtain ⟨j0, hj0, jz, js, jb⟩ := info_parts info64
  have HL := Lib.hid ((Below.refl w.heap.size w).alloc (Nat.le_refl _) (.cells #[.int .i64 cols, .slice A n q] 26))
  have hbx := box_new w #[.int .i64 cols, .slice A n q] 26
  have HV := Lib.hid hv
  have HST := Lib.hid (l15StacksL_any w.heap.size 0 cols A n q d c As ns cs z _ (Lib.hid ⟨hbx 0, hbx 1⟩) ((rdRows_obj A n d c As ns cs z).below ha HL.out) hn hns)
  clear hbx ha hns hv
  go_enter Try.func19, Try.ntmps19
  go_wp2_with fail
  refine HST.out.mono ?_
  rintro e w2 ⟨v, rfl, hb, hx⟩
  obtain ⟨xs, ho, hsl⟩ := hx HV.out
  rw [HV.out]
  obtain ⟨A2, c2, rfl⟩ := own_form ho
  have HO := Lib.hid ho
  have HSL := Lib.hid hsl
  have HB := Lib.hid (HL.out.trans (hb.mono (by simp)))
  clear hb hx ho hsl HST HL
  go_upto_region 6 with fail
  have HA2 := Lib.hid ((Below.refl w2.heap.size w2).alloc (Nat.le_refl _) (.cells #[] 2))
  have HN2 := Lib.hid (World.ownsRow_made w2 #[] 0 (Nat.le_refl w2.heap.size) (by unfold maxLen; omega) rfl : (w2.alloc (.cells #[] 2)).ownsRow w2.heap.size 2 1 (.slice (some ⟨w2.heap.size, 0, none⟩) 0 0) 0 [])
  go_loopg [6, 7] n (fun gh out i wr => ∃ k : Nat, i = .int .i64 k ∧ gh + k = n ∧ Hid (wr.ownsRow w2.heap.size 2 1 out k (ints (colL cols.toNat ns z k))) ∧ Hid (Below w2.heap.size w2 wr))
  case atStart => exact ⟨0, rfl, rfl, HN2, HA2⟩
  case round =>
    clear HN2 HA2
    obtain ⟨k, rfl, hgk, HW, HBW⟩ := hrel
    obtain ⟨A5, c5, rfl⟩ := own_form HW.out
    have hsz := HBW.out.size
    by_cases hlt : k < n
    · have l1 : (k : Int) < (n : Int) := by omega
      have l2 : (0 : Int) ≤ (k : Int) := by omega
      obtain ⟨g, rfl, hc⟩ := own_slot (own_below HO.out HBW.out) hlt
      obtain ⟨a, q', hxj⟩ := HSL.out k hlt
      rw [hxj] at hc
      clear hxj
      obtain ⟨N, hN⟩ : ∃ N, N = stN cols.toNat ns z (k + 1) := ⟨_, rfl⟩
      rw [← hN] at hc
      have HN := Lib.hid hN
      clear hN
      go_wp2_with (at_builtin; go_must (refine wpList_app wr rfl (.tmp 21) (.tmp 27) _ rfl w2.heap.size 2 j0 _ 1 8 Try.underlying38 hj0 jz js jb rfl (by omega) (.slice A5 k c5) k (ints (colL cols.toNat ns z k)) rfl HW.out _ 1 1 _ rfl rfl (by simp [Value.oneCell']) (by unfold maxLen; omega) (by omega) hsz ?_); intro v' w' hown' hb'; have HW6 := Lib.hid hown'; have HB6 := Lib.hid (HBW.out.trans hb'); clear hown' hb')
      go_roundg (gk - 1)
      case measure => omega
      case rel => exact ⟨k + 1, i64c (by omega), by omega, by rw [colL_next, ints_app, ← HN.out]; exact HW6, HB6⟩
    · obtain rfl : k = n := by omega
      go_wp2_with fail
      go_ret2
      refine ⟨A5, c5, rfl, ?_, HB.out.trans (HBW.out.mono HB.out.size)⟩
      have h := own_rdI (L := colL cols.toNat ns z k) HW.out
      intro h0
      obtain ⟨g, o, e, hg, hr⟩ := h (by rw [colL_len]; exact h0)
      refine ⟨g, o, e, hg, fun j hj => ?_⟩
      rw [hr j (by rw [colL_len]; exact hj)]
      simp [colL, List.getD, hj]
end Go.Proofs.Ytacppheedleamaa

set_option linter.unusedVariables false
set_option linter.unusedSimpArgs false
namespace Go.Proofs.Ytacppheedleamaa
open Go.RowKit
set_option maxRecDepth 100000

theorem b10Long_any (A : Option Addr) (n c : Nat) (w : World) : Calls Try.prog 5 #[.slice A n c] w fun e w' => e = .returned (.bool (decide (1048576 < n))) ∧ w = w' := by
  by_cases h : 1048576 < n
  · have h1 : (1048576 : Int) < (n : Int) := by omega
    rw [decide_eq_true h]
    go_enter Try.func5, Try.ntmps5
    go_wp2_with fail
    go_ret
    exact ⟨rfl, rfl⟩
  · have h1 : ¬ (1048576 : Int) < (n : Int) := by omega
    rw [decide_eq_false h]
    go_enter Try.func5, Try.ntmps5
    go_wp2_with fail
    go_ret
    exact ⟨rfl, rfl⟩
theorem specValidBraid_any (s : Int) (A : Option Addr) (n c : Nat) (z : Nat → Int) (w : World) (ha : Rd w A n (fun j => .int .i64 (z j))) (hn : n ≤ 1048576) :
    Calls Try.prog 23 #[.agg #[.int .i64 s, .slice A n c]] w fun e w' => e = .returned (.bool (braidB s n z)) ∧ Below w.heap.size w w' := by
  have hb : Below w.heap.size w (w.alloc (.cells #[.int .i64 s, .slice A n c] 53)) := (Below.refl _ _).alloc (Nat.le_refl _) _
  have HX0 := Lib.hid (box_new w #[.int .i64 s, .slice A n c] 53)
  have HA := Lib.hid (ha.below hb)
  have HB := Lib.hid hb
  clear ha hb
  go_enter Try.func23, Try.ntmps23
  go_wp2_with fail
  refine (l03Ok_any w.heap.size s A n c z _ (HX0.out 0) (HX0.out 1) HA.out hn).mono ?_
  rintro e w' ⟨rfl, q, rfl⟩
  go_wp2_with fail
  go_ret
  exact ⟨rfl, Below.drewN' HB.out q⟩
theorem eqP_same {z z' : Nat → Int} : ∀ {n : Nat}, (∀ j, j < n → z j = z' j) → eqP z z' n = true
  | 0, _ => rfl
  | n + 1, h => by
    simp only [eqP, Bool.and_eq_true, decide_eq_true_eq]
    exact ⟨eqP_same fun j hj => h j (by omega), h n (by omega)⟩
theorem eqL_same {z z' : Nat → Int} {n : Nat} (h : ∀ j, j < n → z j = z' j) : eqL n z n z' = true := by
  unfold eqL
  rw [eqP_same h]
  simp
/-- A braid read off its picture is that braid. -/
theorem read_all {S n : Nat} {z : Nat → Int} (h : braidB S n z = true) : okL (picF S z) (n + 1) (z1 (picF S z)) = true ∧ rS (picF S z) (n + 1) = S ∧ rN (picF S z) (n + 1) = n ∧ eqL n (z1 (picF S z)) n z = true := by
  obtain ⟨h1, h2, h3⟩ := read_back h
  exact ⟨h1, by rw [rS, if_pos h1, h2], by rw [rN, if_pos h1, Nat.add_sub_cancel], eqL_same h3⟩
/-- Bytes of a line and of the same line from behind in a mirror. -/
theorem tn_ways (F : ByteArray) (k : Nat) (hk : k < F.size) (hk' : k < (tnT F).size) :
    (F[k] = 86 ∧ (tnT F)[k] = 45) ∨ (F[k] = 45 ∧ (tnT F)[k] = 86) ∨ ((tnT F)[k] = F[k] ∧ ¬ F[k] = 86 ∧ ¬ F[k] = 45) := by
  have hb : ∀ (s : ByteArray) (h : k < s.size), byt s k = (s[k].toNat : Int) := fun s h => byteAt_get s k h
  have h1 := hb F hk
  have h2 := hb (tnT F) hk'
  have h3 := tnT_byte F k hk
  rw [h1, h2] at h3
  unfold othB at h3
  have e : ∀ (x : UInt8) (m : Nat), m < 256 → x.toNat = m → x = UInt8.ofNat m := fun x m hm h => UInt8.toNat_inj.1 (by rw [h, UInt8.toNat_ofNat', Nat.mod_eq_of_lt hm])
  by_cases h86 : (F[k].toNat : Int) = 86
  · rw [if_pos h86] at h3
    exact .inl ⟨e _ 86 (by decide) (by omega), e _ 45 (by decide) (by omega)⟩
  · rw [if_neg h86] at h3
    by_cases h45 : (F[k].toNat : Int) = 45
    · rw [if_pos h45] at h3
      exact .inr (.inl ⟨e _ 45 (by decide) (by omega), e _ 86 (by decide) (by omega)⟩)
    · rw [if_neg h45] at h3
      refine .inr (.inr ⟨UInt8.toNat_inj.1 (by omega), fun h => h86 (by rw [h]; rfl), fun h => h45 (by rw [h]; rfl)⟩)
end Go.Proofs.Ytacppheedleamaa
