/- Walks: all operations of a tube, by the reference and by the program. No condition but the bounds. -/
import Derived.Test.YtjegoffdkmbibaaTubes3
namespace Go.Proofs.Ytjegoffdkmbibaa
open Go.RowKit
set_option maxRecDepth 20000

theorem own_lit {base : Nat} {e : TypeId} {size : Nat} (w : World) (cs : List Value) (n : Nat) (hb : base ≤ w.heap.size) (hn : n ≤ maxLen) (hl : cs.length = n * size) :
    (w.alloc (.cells cs.toArray e)).ownsRow base e size (.slice (some ⟨w.heap.size, 0, none⟩) n n) n cs :=
  ⟨hl, .inr ⟨w.heap.size, n, cs.toArray, rfl, hb, heap_alloc_new w _, Nat.le_refl _, hn, by simpa using hl, by simp [← hl]⟩⟩
/-- The numbers of k rounds. -/
def roundsZ (n : Nat) (c : Int) (k : Nat) : List Int := (List.range k).flatMap fun _ => roundZ n c
theorem roundsZ_next (n : Nat) (c : Int) (k : Nat) : roundsZ n c (k + 1) = roundsZ n c k ++ roundZ n c := by simp [roundsZ, List.range_succ]
def headZ (n : Nat) (c : Int) (b : Bool) : List Int := [8, 1, 0, 0, 0, 0, c, 0] ++ castZ8 n c b
def opsN (n r : Nat) (t : Bool) : Nat := 1 + (n + n) + r * (n + n) + topN n t + 1
def opsZ (n r : Nat) (c : Int) (b t : Bool) : List Int := headZ n c b ++ roundsZ n c r ++ topZ n c t ++ [9, 0, 0, 0, 0, 0, c, 0]

set_option maxHeartbeats 1000000 in
theorem l28Ops_any (g n r : Nat) (c : Int) (b t : Bool) (w : World) (h0 : w.cell? ⟨g, 0, none⟩ = some (.int .i64 n)) (h1 : w.cell? ⟨g, 1, none⟩ = some (.int .i64 r)) (h2 : w.cell? ⟨g, 2, none⟩ = some (.int .i64 c)) (h3 : w.cell? ⟨g, 3, none⟩ = some (.bool b)) (h4 : w.cell? ⟨g, 4, none⟩ = some (.bool t)) (hn : n ≤ 6) (hr : r ≤ 8) :
    Calls Try.prog 59 #[.pointer (some ⟨g, 0, none⟩)] w (OwnZ w (opsN n r t) (opsZ n r c b t)) := by
  obtain ⟨i0, hi, iz, is, ib⟩ := info_parts infoOp
  have htn : topN n t ≤ 12 := by unfold topN; split <;> omega
  have hg := World.block_lt_of_cell? w _ h0
  have H0 := Lib.hid h0
  have H1 := Lib.hid h1
  have H2 := Lib.hid h2
  have H3 := Lib.hid h3
  have H4 := Lib.hid h4
  have k2 := h2
  clear h0 h1 h2 h3 h4
  go_enter Try.func59, Try.ntmps59
  go_wp2_with fail
  have O1 := Lib.hid (own_lit (base := w.heap.size) (e := 76) (size := 8) w (ints [8, 1, 0, 0, 0, 0, c, 0]) 1 (Nat.le_refl _) (by unfold maxLen; omega) rfl)
  have B1 := Lib.hid ((Below.refl w.heap.size w).alloc (Nat.le_refl _) (.cells (ints [8, 1, 0, 0, 0, 0, c, 0]).toArray 76))
  refine (l28CastOn_any g n c b _ ((World.cell?_alloc_lt w _ ⟨g, 0, none⟩ hg).trans H0.out) ((World.cell?_alloc_lt w _ ⟨g, 2, none⟩ hg).trans H2.out) ((World.cell?_alloc_lt w _ ⟨g, 3, none⟩ hg).trans H3.out) hn).mono ?_
  rintro e w1 ⟨v1, rfl, ho1, hb1⟩
  have HO1 := Lib.hid ho1
  have HB1 := Lib.hid (B1.out.trans (hb1.mono B1.out.size))
  have O2 := Lib.hid (own_below O1.out hb1)
  clear ho1 hb1
  go_wp2_with (at_builtin; go_must (refine wpList_app_own w1 rfl (.tmp 11) (.tmp 13) _ rfl w.heap.size 76 i0 _ 8 64 Try.underlying24 hi iz is ib rfl (by omega) _ 1 _ rfl O2.out _ _ (n + n) _ rfl HO1.out (ints_one _) (by unfold maxLen; omega) (by omega) HB1.out.size ?_); intro v2 w2 hown2 hb2)
  rw [← ints_app] at hown2
  have HO2 := Lib.hid hown2
  have HB2 := Lib.hid (HB1.out.trans hb2)
  clear hown2 hb2 k2
  go_wp2_with fail
  go_loopw [3, 4] (fun v i wr => ∃ k : Nat, k ≤ r ∧ i = .int .i64 k ∧ wr.ownsRow w.heap.size 76 8 v (1 + (n + n) + k * (n + n)) (ints (headZ n c b ++ roundsZ n c k)) ∧ Below w.heap.size w wr) (fun _ i _ => r - (intOf i).toNat)
  case atStart => exact ⟨0, Nat.zero_le _, rfl, by simpa [headZ, roundsZ] using HO2.out, HB2.out⟩
  case round =>
    obtain ⟨k, hk, rfl, hown, hb⟩ := hrel
    have k0 := ((bcell hb).1 _ _ hg).trans H0.out
    have k1 := ((bcell hb).1 _ _ hg).trans H1.out
    have k2 := ((bcell hb).1 _ _ hg).trans H2.out
    have k4 := ((bcell hb).1 _ _ hg).trans H4.out
    have hgr : g < wr.heap.size := blt hb hg
    have HB := Lib.hid hb
    have HOWN := Lib.hid hown
    clear hb hown
    have hkn : k * (n + n) ≤ 8 * 12 := Nat.mul_le_mul (by omega) (by omega)
    by_cases hlt : k < r
    · go_wp2_with (first
        | (go_at_call 57; refine (l28Round_any g n c _ k0 k2 hn).mono ?_; rintro e w3 ⟨v3, rfl, ho3, hb3⟩; have HO3 := Lib.hid ho3; have HB3 := Lib.hid hb3; clear ho3 hb3)
        | (at_builtin; go_must (refine wpList_app_own w3 rfl (.tmp 23) (.tmp 25) _ rfl w.heap.size 76 i0 _ 8 64 Try.underlying24 hi iz is ib rfl (by omega) u3 (1 + (n + n) + k * (n + n)) _ rfl (own_below HOWN.out HB3.out) _ _ (n + n) _ rfl HO3.out (ints_one _) (by unfold maxLen; omega) (by omega) (Nat.le_trans HB.out.size HB3.out.size) ?_); intro v' w' hown' hb'))
      go_wp2
      go_roundw
      case rel => exact ⟨k + 1, by omega, by go_num, by rw [roundsZ_next, ← List.append_assoc, ints_app (_ ++ _)]; rw [show 1 + (n + n) + (k + 1) * (n + n) = 1 + (n + n) + k * (n + n) + (n + n) by rw [Nat.add_mul]; omega]; exact hown', (HB.out.trans (HB3.out.mono HB.out.size)).trans hb'⟩
      case measure => simp [intOf] <;> omega
    · obtain rfl : r = k := by omega
      go_wp2_with fail
      refine (l28Top_any g n c t _ k0 k2 k4 hn).mono ?_
      rintro e w3 ⟨v3, rfl, ho3, hb3⟩
      have k2' := ((bcell hb3).1 _ _ hgr).trans k2
      have HO3 := Lib.hid ho3
      have HB3 := Lib.hid hb3
      clear ho3 hb3 k0 k1 k2 k4
      have K2 := Lib.hid k2'
      clear k2'
      go_wp2_with (first
        | (at_builtin; refine wpList_app_own w3 rfl (.tmp 27) (.tmp 29) _ rfl w.heap.size 76 i0 _ 8 64 Try.underlying24 hi iz is ib rfl (by omega) u3 (1 + (n + n) + r * (n + n)) _ rfl (own_below HOWN.out HB3.out) _ _ (topN n t) _ rfl HO3.out (ints_one _) (by unfold maxLen; omega) (by omega) (Nat.le_trans HB.out.size HB3.out.size) ?_; intro v4 w4 hown4 hb4; have k5 := ((bcell hb4).1 _ _ hg).trans K2.out; rw [← ints_app] at hown4; have HO4 := Lib.hid hown4; have HB4 := Lib.hid ((HB.out.trans (HB3.out.mono HB.out.size)).trans hb4); clear hown4 hb4)
        | (at_builtin; go_must (refine wpList_app w4 rfl (.tmp 31) (.tmp 37) _ rfl w.heap.size 76 i0 _ 8 64 Try.underlying24 hi iz is ib rfl (by omega) v4 (1 + (n + n) + r * (n + n) + topN n t) _ rfl HO4.out _ 1 1 (ints [9, 0, 0, 0, 0, 0, c, 0]) rfl rfl (ints_one _) (by unfold maxLen; omega) (by omega) HB4.out.size ?_); intro v' w' hown' hb'))
      go_ret
      exact ⟨_, rfl, by rw [← ints_app] at hown'; exact hown', HB4.out.trans hb'⟩
end Go.Proofs.Ytjegoffdkmbibaa
