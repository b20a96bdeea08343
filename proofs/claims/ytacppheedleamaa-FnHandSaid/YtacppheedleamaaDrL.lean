/- Walks: the columns after each row of a valid chart, by the reference. No condition but the bounds. -/
import Derived.Test.YtacppheedleamaaPicS
import Derived.Test.YtacppheedleamaaLst
import Derived.Deep.LoopGhost
import Derived.Deep.CutRange
set_option linter.unusedVariables false
set_option linter.unusedSimpArgs false
namespace Go.Proofs.Ytacppheedleamaa
open Go.RowKit
set_option maxRecDepth 100000

/-- The columns after each of k rows. -/
def colL (C : Nat) (ns : Nat → Nat) (z : Nat → Nat → Int) (k : Nat) : List Int := (List.range k).map fun j => (stN C ns z (j + 1) : Int)
theorem colL_next (C : Nat) (ns : Nat → Nat) (z : Nat → Nat → Int) (k : Nat) : colL C ns z (k + 1) = colL C ns z k ++ [(stN C ns z (k + 1) : Int)] := by simp [colL, List.range_succ]
theorem colL_len (C : Nat) (ns : Nat → Nat) (z : Nat → Nat → Int) (k : Nat) : (colL C ns z k).length = k := by simp [colL]
theorem own_slot {B n : Nat} {w : World} {e : TypeId} {A : Option Addr} {c : Nat} {xs : List Value} (h : w.ownsRow B e 1 (.slice A n c) n xs) {j : Nat} (hj : j < n) : ∃ g, A = some ⟨g, 0, none⟩ ∧ w.cell? ⟨g, j, none⟩ = xs[j]? := by
  rcases h.2 with ⟨e, h0⟩ | ⟨g, cap, cur, e, _, hg, _⟩
  · omega
  · injection e with e1 _ e3
    subst e1 e3
    exact ⟨g, rfl, by rw [h.cellAt j (by omega), List.getElem?_eq_getElem (by rw [h.1]; omega)]⟩
set_option maxHeartbeats 4000000 in
theorem specColumnsAfter_any (cols : Int) (A : Option Addr) (n q : Nat) (d c : Nat → Int) (As : Nat → Option Addr) (ns cs : Nat → Nat) (z : Nat → Nat → Int) (w : World) (ha : RdRows A n d c As ns cs z w) (hn : n ≤ 1048576) (hns : ∀ j, j < n → ns j ≤ 1048576) (hv : chartB cols n d c ns z = true) :
    Calls Try.prog 19 #[.agg #[.int .i64 cols, .slice A n q]] w fun e w' => ∃ A2 c2, e = .returned (.tuple #[.slice A2 n c2, .int .i64 0]) ∧ Rd w' A2 n (fun j => .int .i64 (stN cols.toNat ns z (j + 1) : Int)) ∧ Below w.heap.size w w' := by
  obtain ⟨j0, hj0, jz, js, jb⟩ := info_parts info64
  have HL := Lib.hid ((Below.refl w.heap.size w).alloc (Nat.le_refl _) (.cells #[.int .i64 cols, .slice A n q] 26))
  have hbx := box_new w #[.int .i64 cols, .slice A n q] 26
  have HV := Lib.hid hv
  have HST := Lib.hid (l15StacksL_any w.heap.size 0 cols A n q d c As ns cs z _ (Lib.hid ⟨hbx 0, hbx 1⟩) ((rdRows_obj A n d c As ns cs z).below ha HL.out) hn hns)
  clear hbx ha hns hv
  go_enter Try.func19, Try.ntmps19
  go_wp2_with fail
  refine HST.out.mono ?_
  rintro e w2 ⟨v, rfl, hb, hx⟩
  obtain ⟨xs, ho, hsl⟩ := hx HV.out
  rw [HV.out]
  obtain ⟨A2, c2, rfl⟩ := own_form ho
  have HO := Lib.hid ho
  have HSL := Lib.hid hsl
  have HB := Lib.hid (HL.out.trans (hb.mono (by simp)))
  clear hb hx ho hsl HST HL
  go_upto_region 6 with fail
  have HA2 := Lib.hid ((Below.refl w2.heap.size w2).alloc (Nat.le_refl _) (.cells #[] 2))
  have HN2 := Lib.hid (World.ownsRow_made w2 #[] 0 (Nat.le_refl w2.heap.size) (by unfold maxLen; omega) rfl : (w2.alloc (.cells #[] 2)).ownsRow w2.heap.size 2 1 (.slice (some ⟨w2.heap.size, 0, none⟩) 0 0) 0 [])
  go_loopg [6, 7] n (fun gh out i wr => ∃ k : Nat, i = .int .i64 k ∧ gh + k = n ∧ Hid (wr.ownsRow w2.heap.size 2 1 out k (ints (colL cols.toNat ns z k))) ∧ Hid (Below w2.heap.size w2 wr))
  case atStart => exact ⟨0, rfl, rfl, HN2, HA2⟩
  case round =>
    clear HN2 HA2
    obtain ⟨k, rfl, hgk, HW, HBW⟩ := hrel
    obtain ⟨A5, c5, rfl⟩ := own_form HW.out
    have hsz := HBW.out.size
    by_cases hlt : k < n
    · have l1 : (k : Int) < (n : Int) := by omega
      have l2 : (0 : Int) ≤ (k : Int) := by omega
      obtain ⟨g, rfl, hc⟩ := own_slot (own_below HO.out HBW.out) hlt
      obtain ⟨a, q', hxj⟩ := HSL.out k hlt
      rw [hxj] at hc
      clear hxj
      obtain ⟨N, hN⟩ : ∃ N, N = stN cols.toNat ns z (k + 1) := ⟨_, rfl⟩
      rw [← hN] at hc
      have HN := Lib.hid hN
      clear hN
      go_wp2_with (at_builtin; go_must (refine wpList_app wr rfl (.tmp 21) (.tmp 27) _ rfl w2.heap.size 2 j0 _ 1 8 Try.underlying38 hj0 jz js jb rfl (by omega) (.slice A5 k c5) k (ints (colL cols.toNat ns z k)) rfl HW.out _ 1 1 _ rfl rfl (by simp [Value.oneCell']) (by unfold maxLen; omega) (by omega) hsz ?_); intro v' w' hown' hb'; have HW6 := Lib.hid hown'; have HB6 := Lib.hid (HBW.out.trans hb'); clear hown' hb')
      go_roundg (gk - 1)
      case measure => omega
      case rel => exact ⟨k + 1, i64c (by omega), by omega, by rw [colL_next, ints_app, ← HN.out]; exact HW6, HB6⟩
    · obtain rfl : k = n := by omega
      go_wp2_with fail
      go_ret2
      refine ⟨A5, c5, rfl, ?_, HB.out.trans (HBW.out.mono HB.out.size)⟩
      have h := own_rdI (L := colL cols.toNat ns z k) HW.out
      intro h0
      obtain ⟨g, o, e, hg, hr⟩ := h (by rw [colL_len]; exact h0)
      refine ⟨g, o, e, hg, fun j hj => ?_⟩
      rw [hr j (by rw [colL_len]; exact hj)]
      simp [colL, List.getD, hj]
end Go.Proofs.Ytacppheedleamaa
