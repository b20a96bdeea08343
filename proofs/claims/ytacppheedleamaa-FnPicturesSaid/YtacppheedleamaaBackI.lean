/- Walks: the back picture of a chart, by the program. No condition but the bounds. -/
import Derived.Test.YtacppheedleamaaBackS
namespace Go.Proofs.Ytacppheedleamaa
open Go.RowKit
set_option maxRecDepth 20000

def bpV (n : Nat) (ns : Nat → Nat) (z : Nat → Nat → Int) (m : Nat) : List Value := (List.range m).map fun j => .string (bpT n ns z j)
theorem bpV_next (n : Nat) (ns : Nat → Nat) (z : Nat → Nat → Int) (m : Nat) : bpV n ns z (m + 1) = bpV n ns z m ++ [.string (bpT n ns z m)] := by simp [bpV, List.range_succ]
set_option maxHeartbeats 2000000 in
theorem implBackPicture_any (cols : Int) (A : Option Addr) (n q : Nat) (d c : Nat → Int) (As : Nat → Option Addr) (ns cs : Nat → Nat) (z : Nat → Nat → Int) (w : World) (ha : RdRows A n d c As ns cs z w) (hn : n ≤ 1048576) (hns : ∀ j, j < n → ns j ≤ 1048576) :
    Calls Try.prog 18 #[.agg #[.int .i64 cols, .slice A n q]] w (NewP2 w (fpN cols n d c ns z) (fpN cols n d c ns z) (fun j => .string (bpT n ns z j)) (fpC cols n d c ns z)) := by
  obtain ⟨i0, hi, iz, is, ib⟩ := info_parts infoString
  have hL := (Below.refl w.heap.size w).alloc (Nat.le_refl _) (.cells #[.int .i64 cols, .slice A n q] 26)
  have HL := Lib.hid hL
  have HA := Lib.hid ((rdRows_obj A n d c As ns cs z).below ha hL)
  have HNS := Lib.hid hns
  clear ha hL hns
  go_enter Try.func18, Try.ntmps18
  go_wp2_with fail
  refine (implFrontPicture_any cols A n q d c As ns cs z _ HA.out hn HNS.out).mono ?_
  rintro e w1 ⟨A1, c1, rfl, hn1⟩
  have HB1 := Lib.hid (HL.out.trans (hn1.bl.mono HL.out.size))
  cases hv : chartB cols n d c ns z
  · have e1 : fpC cols n d c ns z = 1 := by simp [fpC, hv]
    have e2 : fpN cols n d c ns z = 0 := by simp [fpN, hv]
    rw [e1, e2]
    clear hn1
    go_wp2
    go_ret2
    exact ⟨none, 0, by simp [e1, e2], by rw [e2]; exact New.none_ HB1.out _⟩
  have e1 : fpC cols n d c ns z = 0 := by simp [fpC, hv]
  have e2 : fpN cols n d c ns z = n := by simp [fpN, hv]
  rw [e1, e2]
  rw [e2] at hn1
  obtain ⟨_, _, hn0, hn8, hk⟩ := chartB_of hv
  obtain ⟨g, o, rfl, hg1, hr1⟩ := hn1.rd (by omega)
  have HK := Lib.hid hk
  have HR1 := Lib.hid hr1
  have HE1 := Lib.hid e1
  have HE2 := Lib.hid e2
  clear hn1 hr1 hk hv e1 e2
  go_wp2
  go_loopg [6, 23] n (fun qq v iv wr => ∃ k : Nat, k ≤ n ∧ qq + k = n ∧ iv = .int .i64 k ∧ wr.ownsRow w1.heap.size 9 1 v k (bpV n ns z k) ∧ Below w1.heap.size w1 wr)
  case atStart => exact ⟨0, Nat.zero_le _, rfl, rfl, World.ownsRow_made _ #[] 0 (Nat.le_refl _) (by unfold maxLen; omega) rfl, (Below.refl _ _).alloc (Nat.le_refl _) _⟩
  case round =>
    obtain ⟨k, hkn, hq, rfl, hown, hbl⟩ := hrel
    obtain ⟨W1, rfl⟩ : ∃ W1 : World, W1 = wr := ⟨_, rfl⟩
    have HB := Lib.hid hbl
    have HOWN := Lib.hid hown
    clear hown hbl
    by_cases hlt : k < n
    · have hc := HR1.out.below hg1 HB.out k hlt
      have hsz : (fpT n ns z k).size ≤ 64 := by
        have := fpT_size n ns z k
        have := (stitchesB_of (HK.out (n - 1 - k) (by omega))).1
        omega
      obtain ⟨T, hT⟩ : ∃ T, T = fpT n ns z k := ⟨_, rfl⟩
      simp only [← hT] at hc hsz
      have HT := Lib.hid hT
      clear hT
      go_wp2_with fail
      refine (reversed_any T _ (by omega)).mono ?_
      rintro e w3 ⟨A3, c3, rfl, hn3⟩
      have HB3 := Lib.hid hn3.bl
      have HOWN3 := Lib.hid (own_below HOWN.out hn3.bl)
      have HAB := Lib.hid hn3.ab
      have HW3 := Lib.hid hn3.wr
      have HR3 := Lib.hid hn3.rd
      clear hn3 hc
      go_wp2
      go_loopw [31] (fun i wi => ∃ j : Nat, j ≤ T.size ∧ i = .int .i64 j ∧ Wr wi A3 T.size ∧ Rd wi A3 T.size (fun t => .int .u8 (bkM (revB T) j t)) ∧ Below W1.heap.size W1 wi) (fun i _ => T.size - (intOf i).toNat)
      case atStart => exact ⟨0, Nat.zero_le _, rfl, HW3.out, HR3.out.congr fun j hj => rfl, HB3.out⟩
      case round =>
        obtain ⟨j, hj, rfl, hw, hr, hb⟩ := hrel
        have HW := Lib.hid hw
        have HR := Lib.hid hr
        have HBi := Lib.hid hb
        clear hw hr hb
        by_cases hltj : j < T.size
        · obtain ⟨g3, o3, rfl, hw3⟩ := HW.out (by omega)
          obtain ⟨g', o', e', hg3, hr3⟩ := HR.out (by omega)
          injection e' with e'
          injection e' with e1 e2
          subst e1 e2
          have hB3 : W1.heap.size ≤ g3 := HAB.out _ rfl
          have hc : wr.cell? ⟨g3, o3 + j, none⟩ = some (.int .u8 (revB T j)) := (hr3 j hltj).trans (by simp only [bkM_self])
          have hf := (hw3 j hltj).2
          obtain ⟨x, hx⟩ : ∃ x, x = revB T j := ⟨_, rfl⟩
          rw [← hx] at hc
          have HX := Lib.hid hx
          have HW4 := Lib.hid hw3
          have HR4 := Lib.hid hr3
          clear hw3 hr3 hx
          by_cases h86 : x = 86
          · subst h86
            go_wp2
            go_roundw
            case rel => exact ⟨j + 1, by omega, by go_num, fun _ => ⟨_, _, rfl, HW4.out.set _ _⟩, fun _ => ⟨_, _, rfl, by simp [World.setCell]; exact hg3, bkM_next HR4.out hltj rfl (by rw [← HX.out]; rfl)⟩, HBi.out.setCell hB3 _⟩
            case measure => simp [intOf] <;> omega
          · by_cases h45 : x = 45
            · subst h45
              go_wp2
              go_roundw
              case rel => exact ⟨j + 1, by omega, by go_num, fun _ => ⟨_, _, rfl, HW4.out.set _ _⟩, fun _ => ⟨_, _, rfl, by simp [World.setCell]; exact hg3, bkM_next HR4.out hltj rfl (by rw [← HX.out]; rfl)⟩, HBi.out.setCell hB3 _⟩
              case measure => simp [intOf] <;> omega
            · have b1 : (x == 86) = false := by simpa using h86
              have b2 : (x == 45) = false := by simpa using h45
              go_wp2
              go_roundw
              case rel => exact ⟨j + 1, by omega, by go_num, HW.out, fun _ => ⟨_, _, rfl, hg3, bkM_stay HR4.out (by rw [← HX.out, othB, if_neg h86, if_neg h45])⟩, HBi.out⟩
              case measure => simp [intOf] <;> omega
        · obtain rfl : j = T.size := by omega
          have hrd : Rd wr A3 T.size (fun j => .int .u8 (othB (revB T j))) := HR.out.congr fun t ht => by simp only [bkM]; rw [if_pos ht]
          have kc := conv_rd (c := c3) hrd
          rw [show strF T.size (fun j => othB (revB T j)) = bkT T from rfl] at kc
          have HOWN4 := Lib.hid (own_below HOWN.out HBi.out)
          have HB4 := Lib.hid (HB.out.trans (HBi.out.mono HB.out.size))
          clear hrd
          go_wp2_with (at_builtin; go_must (refine wpList_app wr rfl (.tmp 48) (.tmp 51) _ rfl w1.heap.size 9 i0 _ 1 16 Try.underlying46 hi iz is ib rfl (by omega) u6 k (bpV n ns z k) rfl HOWN4.out _ 1 1 _ rfl rfl (by simp [Value.oneCell']) (by unfold maxLen; omega) (by omega) HB4.out.size ?_); intro v' w' hown' hb'; have HOWN' := Lib.hid hown'; have HB' := Lib.hid (HB4.out.trans hb'); clear hown' hb')
          go_roundg (n - (k + 1))
          case measure => omega
          case rel => exact ⟨k + 1, by omega, by omega, by go_num, by rw [bpV_next, bpT, ← HT.out]; exact HOWN'.out, HB'.out⟩
    · obtain rfl : n = k := by omega
      obtain ⟨A4, c4, rfl, hnew⟩ := New.of_own (w := w1) HB.out HOWN.out
      have HN := Lib.hid (hnew.under HB1.out)
      clear hnew
      go_wp2
      go_ret2
      rw [HE2.out]
      refine ⟨A4, c4, by simp [HE1.out], ?_⟩
      have := HN.out
      rw [Nat.mul_one] at this
      exact this.congr fun j hj => by simp [bpV, List.getD, hj]
end Go.Proofs.Ytacppheedleamaa
