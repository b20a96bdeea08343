/- Walks: the stacks of a valid chart with their lengths; the columns after each row, by the reference. No condition but the bounds. (Printed by wip/picsgen.py.) -/
import Derived.Test.YtacppheedleamaaChartH
namespace Go.Proofs.Ytacppheedleamaa
open Go.RowKit
set_option maxRecDepth 20000

/-- Slices of as many columns as there are after each row. -/
def SlN (C : Nat) (ns : Nat → Nat) (z : Nat → Nat → Int) (k : Nat) (xs : List Value) : Prop := ∀ j, j < k → ∃ a q, xs[j]? = some (.slice a (stN C ns z (j + 1)) q)
theorem SlN.next {C : Nat} {ns : Nat → Nat} {z : Nat → Nat → Int} {k : Nat} {xs : List Value} (h : SlN C ns z k xs) (hl : xs.length = k) {a : Option Addr} {q : Nat} : SlN C ns z (k + 1) (xs ++ [.slice a (segM (z k) (ns k)) q]) := fun j hj => by
  rcases Nat.lt_or_ge j k with h1 | h1
  · obtain ⟨a, q, e⟩ := h j h1
    exact ⟨a, q, by rw [List.getElem?_append_left (by omega)]; exact e⟩
  · obtain rfl : j = k := by omega
    exact ⟨a, q, by rw [List.getElem?_append_right (by omega), hl, Nat.sub_self]; rfl⟩
def StkP (cols : Int) (n : Nat) (d c : Nat → Int) (ns : Nat → Nat) (z : Nat → Nat → Int) (w : World) (e : Ending) (w' : World) : Prop :=
  ∃ v, e = .returned (.tuple #[v, .bool (chartB cols n d c ns z)]) ∧ Below w.heap.size w w' ∧ (chartB cols n d c ns z = true → ∃ xs, w'.ownsRow w.heap.size 38 1 v n xs ∧ SlN cols.toNat ns z n xs)
set_option maxHeartbeats 4000000 in
theorem l15StacksL_any (g0 o0 : Nat) (cols : Int) (A : Option Addr) (n q : Nat) (d c : Nat → Int) (As : Nat → Option Addr) (ns cs : Nat → Nat) (z : Nat → Nat → Int) (w : World) (H : Hid (ChartAt w g0 o0 cols A n q)) (ha : RdRows A n d c As ns cs z w) (hn : n ≤ 1048576) (hns : ∀ j, j < n → ns j ≤ 1048576) :
    Calls Try.prog 31 #[.pointer (some ⟨g0, o0, none⟩)] w (StkP cols n d c ns z w) := by
  obtain ⟨i0, hi, iz, is, ib⟩ := info_parts infoSl64
  obtain ⟨j0, hj0, jz, js, jb⟩ := info_parts info64
  have HNS := Lib.hid hns
  have HA := Lib.hid ha
  have LA := Lib.hid (rdRows_obj A n d c As ns cs z)
  have h0 := H.out.c0
  have h1 := H.out.c1
  clear ha hns
  cases hcb : inB cols 1 8
  · have HC := Lib.hid (show chartB cols n d c ns z = false by simp [chartB, hcb])
    have HCB := Lib.hid hcb
    clear hcb
    go_enter Try.func31, Try.ntmps31
    go_wp2_with ((go_at_call 55; refine (l00In_any _ _ _ _).mono ?_; rintro e w' ⟨rfl, rfl⟩; rw [HCB.out]))
    go_ret2
    exact ⟨.slice none 0 0, by rw [HC.out]; rfl, Below.refl _ _, fun h => absurd h (by rw [HC.out]; exact Bool.false_ne_true)⟩
  have hc18 := inB_of hcb
  by_cases hn18 : 1 ≤ n ∧ n ≤ 8
  case neg =>
    have HC := Lib.hid (show chartB cols n d c ns z = false by simp [chartB, hn18])
    have HCB := Lib.hid hcb
    have HNB := Lib.hid (show inB (n : Int) 1 8 = false by cases h : inB (n : Int) 1 8 with
      | false => rfl
      | true => have := inB_of h; omega)
    clear hcb hn18
    go_enter Try.func31, Try.ntmps31
    go_wp2_with (first | (go_at_call_of 55 (Value.int .i64 cols); refine (l00In_any _ _ _ _).mono ?_; rintro e w' ⟨rfl, rfl⟩; rw [HCB.out]) | (go_at_call_of 55 (Value.int .i64 (n : Int)); refine (l00In_any _ _ _ _).mono ?_; rintro e w' ⟨rfl, rfl⟩; rw [HNB.out]))
    go_ret2
    exact ⟨.slice none 0 0, by rw [HC.out]; rfl, Below.refl _ _, fun h => absurd h (by rw [HC.out]; exact Bool.false_ne_true)⟩
  obtain ⟨hn1, hn8⟩ := hn18
  obtain ⟨C, rfl⟩ := Int.eq_ofNat_of_zero_le (show 0 ≤ cols by omega)
  have hC : chartB C n d c ns z = rowsB C d c ns z n := by simp [chartB, hcb, hn1, hn8]
  have HC := Lib.hid hC
  have HCB := Lib.hid hcb
  have HNB := Lib.hid (show inB (n : Int) 1 8 = true by simp [inB]; omega)
  have hC1 : 1 ≤ C ∧ C ≤ 8 := by omega
  clear hC hcb
  go_enter Try.func31, Try.ntmps31
  go_wp2_with (first | (go_at_call_of 55 (Value.int .i64 (C : Int)); refine (l00In_any _ _ _ _).mono ?_; rintro e w' ⟨rfl, rfl⟩; rw [HCB.out]) | (go_at_call_of 55 (Value.int .i64 (n : Int)); refine (l00In_any _ _ _ _).mono ?_; rintro e w' ⟨rfl, rfl⟩; rw [HNB.out]))
  clear h0 h1
  go_loopg [4] C (fun qq v wr => ∃ k : Nat, k ≤ C ∧ qq + k = C ∧ wr.ownsRow w.heap.size 2 1 v k (ints (ones k)) ∧ (∃ A' c', v = .slice A' k c') ∧ Below w.heap.size w wr)
  case atStart => exact ⟨0, Nat.zero_le _, rfl, World.ownsRow_made _ #[] 0 (Nat.le_refl _) (by unfold maxLen; omega) rfl, ⟨_, _, rfl⟩, (Below.refl _ _).alloc (Nat.le_refl _) _⟩
  case round =>
    obtain ⟨k, hk, hq, hown, ⟨A', c', rfl⟩, hbl⟩ := hrel
    have HB := Lib.hid hbl
    have HOWN := Lib.hid hown
    have hAt := H.out.below hbl
    have h0 := hAt.c0
    clear hbl hown hAt
    by_cases hlt : k < C
    · go_wp2_with (at_builtin; go_must (refine wpList_app wr rfl (.tmp 32) (.tmp 33) _ rfl w.heap.size 2 j0 _ 1 8 Try.underlying38 hj0 jz js jb rfl (by omega) (.slice A' k c') k (ints (ones k)) rfl HOWN.out _ 1 1 _ rfl rfl (by simp [Value.oneCell']) (by unfold maxLen; omega) (by omega) HB.out.size ?_); intro v' w' hown' hb'; have HOWN' := Lib.hid hown'; have HB' := Lib.hid (HB.out.trans hb'); clear hown' hb')
      go_roundg (C - (k + 1))
      case measure => omega
      case rel => exact ⟨k + 1, by omega, by omega, by rw [ones, List.replicate_succ', ints_app]; exact HOWN'.out, own_form HOWN'.out, HB'.out⟩
    · obtain rfl : C = k := by omega
      have hs1 := HB.out.size
      have hnew := New.of_own_c HB.out HOWN.out
      obtain ⟨A2, c2, e2, hc2, hn2⟩ := hnew
      injection e2 with e2 _ e3
      subst e2 e3
      rw [Nat.mul_one] at hn2
      have hst0 : StacksAt wr (.slice A' C c') (stN C ns z 0) (stF C ns z 0) := StacksAt.of (hn2.congr fun j hj => by rw [stF_zero hj]; simp [ones, ints, List.getD, hj]) (by omega) hc2
      have HST0 := Lib.hid hst0
      clear hst0 hn2
      go_wp2_with fail
      go_loopw [4, 5, 6] (fun sv v i wi => ∃ k : Nat, k ≤ n ∧ i = .int .i64 k ∧ Hid (rowsB C d c ns z k = true) ∧ StacksAt wi sv (stN C ns z k) (stF C ns z k) ∧ (∃ xs, wi.ownsRow w.heap.size 38 1 v k xs ∧ Hid (SlN C ns z k xs)) ∧ Hid (∀ b A' N' c', sv = .slice (some ⟨A', N', none⟩) b c' → ¬ v.ownBlock = some A') ∧ Below w.heap.size w wi) (fun _ _ i _ => n - (intOf i).toNat)
      case atStart =>
        obtain ⟨g, o, c', e, hc', hr⟩ := HST0.out
        refine ⟨0, Nat.zero_le _, rfl, Lib.hid rfl, ⟨g, o, c', e, hc', hr.below ((Below.refl _ _).alloc (Nat.le_refl _) _)⟩, ⟨[], World.ownsRow_made wr #[] (base := w.heap.size) (e := 38) (size := 1) 0 hs1 (by unfold maxLen; omega) rfl, Lib.hid (fun j hj => absurd hj (Nat.not_lt_zero j))⟩, Lib.hid ?_, HB.out.alloc hs1 _⟩
        intro b A'' N' c'' e2 e3
        rw [e] at e2
        injection e2 with e2
        injection e2 with e2
        injection e2 with e2
        injection e3 with e3
        simp only at e3
        obtain ⟨_, _, e4, hlt, _⟩ := hr (by simp only [stN]; omega)
        injection e4 with e4
        injection e4 with e4
        omega
      case round =>
        obtain ⟨k, hk, rfl, HRB, hst, ⟨xs, hown, HSL⟩, HNE, hbl⟩ := hrel
        have hs0 := hbl.size
        have HB := Lib.hid hbl
        have HOWN := Lib.hid hown
        have hAt := H.out.below hbl
        have h1 := hAt.c1
        clear hown hAt h0
        by_cases hlt : k < n
        · have hrr := LA.out.below HA.out HB.out
          obtain ⟨gA, oA, rfl, hgA, r0, r1, r2⟩ := RdRows.row hrr hlt
          have HZ := Lib.hid (hrr.2 k hlt)
          have hnk := HNS.out k hlt
          obtain ⟨g, o, c', rfl, hc', hst⟩ := hst
          have HST := Lib.hid hst
          have hSN := stN_ok hC1 HRB.out
          have HFA := Lib.hid (fun h => HC.out.trans (rowsB_false hlt h))
          have HRW := Lib.hid (show RowAt wr gA (oA + k * 3) (d k) (c k) (As k) (ns k) (cs k) from ⟨r0, r1, r2⟩)
          clear hrr hst r0 r1 r2 hbl
          obtain ⟨dk, hdk⟩ : ∃ t, t = d k := ⟨_, rfl⟩
          obtain ⟨ck, hck⟩ : ∃ t, t = c k := ⟨_, rfl⟩
          rw [← hdk, ← hck] at HRW
          obtain ⟨V, hV⟩ : ∃ V, V = (dirB dk && inB ck 1 4 && stitchesB (z k) (ns k)) := ⟨_, rfl⟩
          have hrowB : rowB C d c ns z k = (V && decide (saC (stF C ns z k) (stN C ns z k) (z k) (ns k) = 0) && keepB (stF C ns z k) (stN C ns z k) (z k) (ns k) dk (ns k)) := by rw [hV, hdk, hck]; rfl
          have HV := Lib.hid hV
          have HROW := Lib.hid hrowB
          clear hV hrowB hdk hck
          have r2 := HRW.out.c2
          cases V
          · have HF := Lib.hid (HFA.out (by rw [HROW.out]; rfl))
            go_wp2_with ((go_at_call 56; with_reducible refine (l15Row_any gA (oA + k * 3) dk ck (As k) (ns k) (cs k) (z k) _ HRW HZ.out hnk).mono ?_; rintro e w' ⟨rfl, rfl⟩; rw [← HV.out]))
            go_ret2
            exact ⟨.slice none 0 0, by rw [HF.out]; rfl, HB.out, fun h => absurd h (by rw [HF.out]; exact Bool.false_ne_true)⟩
          have hdir : dirB dk = true := by
            have := HV.out.symm
            simp only [Bool.and_eq_true] at this
            exact this.1.1
          have HDIR := Lib.hid hdir
          clear hdir
          go_wp2_with ((go_at_call 56; with_reducible refine (l15Row_any gA (oA + k * 3) dk ck (As k) (ns k) (cs k) (z k) _ HRW HZ.out hnk).mono ?_; rintro e w' ⟨rfl, rfl⟩; rw [← HV.out]))
          refine (specStacksAfter_any (some ⟨g, o, none⟩) (stN C ns z k) c' (As k) (ns k) (cs k) (stF C ns z k) (z k) _ HST.out HZ.out (by omega) hnk).mono ?_
          rintro e w3 ⟨A3, c3, rfl, hc3, hn3⟩
          have HN3 := Lib.hid hn3
          have h1' := (H.out.below (HB.out.trans (hn3.bl.mono hs0))).c1
          clear hn3 h1 r2
          by_cases hcode : saC (stF C ns z k) (stN C ns z k) (z k) (ns k) = 0
          case neg =>
            have HF := Lib.hid (HFA.out (by rw [HROW.out, decide_eq_false hcode]; simp))
            have hcb : (saC (stF C ns z k) (stN C ns z k) (z k) (ns k) != 0) = true := by simpa using hcode
            go_wp2
            go_ret2
            exact ⟨.slice none 0 0, by rw [HF.out]; rfl, HB.out.trans (HN3.out.bl.mono hs0), fun h => absurd h (by rw [HF.out]; exact Bool.false_ne_true)⟩
          obtain ⟨hss, hzz, htt, hmm, _⟩ := saC_zero hcode
          have hsM : saN (stF C ns z k) (stN C ns z k) (z k) (ns k) = segM (z k) (ns k) := by rw [saN, if_pos hcode]
          rw [hsM] at HN3 hc3 ⊢
          have HCD := Lib.hid hcode
          have hcb : (saC (stF C ns z k) (stN C ns z k) (z k) (ns k) != 0) = false := by simpa using hcode
          have HSS := Lib.hid hss
          have HZZ := Lib.hid hzz
          have HTT := Lib.hid htt
          clear hcode hss hzz htt hsM
          go_wp2_with fail
          refine (l15Thin_any dk ck gA (oA + k * 3) (As k) (ns k) (cs k) (some ⟨g, o, none⟩) (stN C ns z k) c' A3 c3 (stF C ns z k) (z k) _ _ HDIR.out (Lib.hid rfl) (Lib.hid (HRW.out.below HN3.out.bl)) (HST.out.below HN3.out.bl) (HZ.out.below HN3.out.bl) HN3.out.rd HSS.out HZZ.out HTT.out).mono ?_
          rintro e w4 ⟨rfl, hb4⟩
          have HN4 := Lib.hid (HN3.out.then hb4)
          have HOWN4 := Lib.hid (own_below HOWN.out HN4.out.bl)
          clear hb4 h1'
          cases hkb : keepB (stF C ns z k) (stN C ns z k) (z k) (ns k) dk (ns k)
          · have HF := Lib.hid (HFA.out (by rw [HROW.out, hkb]; simp))
            go_wp2
            go_ret2
            exact ⟨.slice none 0 0, by rw [HF.out]; rfl, HB.out.trans (HN4.out.bl.mono hs0), fun h => absurd h (by rw [HF.out]; exact Bool.false_ne_true)⟩
          have HRB2 := Lib.hid (show rowsB C d c ns z (k + 1) = true by simp only [rowsB]; rw [HRB.out, HROW.out, HCD.out, hkb]; rfl)
          have hSN2 := stN_ok hC1 HRB2.out
          have HKB := Lib.hid hkb
          have hs4 := HN4.out.bl.size
          clear hkb
          go_wp2_with (at_builtin; go_must (refine wpList_appGa w4 rfl (.tmp 80) (.tmp 82) _ rfl w.heap.size 38 i0 _ 1 24 Try.underlying32 hi iz is ib rfl (by omega) u5 k xs rfl HOWN4.out _ 1 1 _ rfl rfl (by simp [Value.oneCell']) (by unfold maxLen; omega) (by omega) (by omega) ?_); intro v' w' hown' hf' hat'; have HOWN' := Lib.hid hown'; have HF' := Lib.hid hf'; have HAT' := Lib.hid hat'; clear hown' hf' hat')
          go_roundw
          case rel =>
            have hlt5 : ∀ b, u5.ownBlock = some b → b < wr.heap.size := fun b hb => (HOWN.out.lt b hb).2
            have hAb : ∀ b, Fb A3 (segM (z k) (ns k)) b → wr.heap.size ≤ b ∧ b < w4.heap.size := fun b ⟨_, a, e, hb⟩ => ⟨hb ▸ HN4.out.ab a e, hb ▸ HN4.out.bb a e⟩
            refine ⟨k + 1, by omega, by go_num, HRB2, ?_, ⟨_, HOWN'.out, Lib.hid (SlN.next HSL.out (by have := HOWN4.out.1; omega))⟩, Lib.hid ?_, (HB.out.trans (HN4.out.bl.mono hs0)).trans (HF'.out.own HOWN4.out (by omega))⟩
            · have hrd := (rd_obj _ _ _).fr HN4.out.rd HF'.out (fun b hb he => by have := hAb b hb; have := hlt5 b he; omega)
              obtain ⟨g3, o3, e3, _⟩ := hrd (by simp only [stN] at hSN2; omega)
              subst e3
              exact ⟨g3, o3, c3, rfl, hc3, hrd⟩
            · intro b A' N' c'' e2 e3
              injection e2 with e2
              have h1 := hAb A' ⟨by simp only [stN] at hSN2; omega, _, e2, rfl⟩
              rcases HAT'.out with h2 | h2
              · have := hlt5 A' (h2.symm.trans e3)
                omega
              · rw [h2] at e3
                injection e3 with e3
                omega
          case measure => simp [intOf] <;> omega
        · obtain rfl : n = k := by omega
          go_wp2
          go_ret2
          exact ⟨u5, by rw [HC.out, HRB.out]; rfl, HB.out, fun _ => ⟨xs, HOWN.out, HSL.out⟩⟩
end Go.Proofs.Ytacppheedleamaa
