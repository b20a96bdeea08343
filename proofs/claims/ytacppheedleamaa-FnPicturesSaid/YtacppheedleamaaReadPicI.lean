/- Walks: the program's ReadBraidPicture. No condition but the bounds. -/
import Derived.Test.YtacppheedleamaaReadPic
namespace Go.Proofs.Ytacppheedleamaa
open Go.RowKit
set_option maxRecDepth 20000

set_option maxHeartbeats 400000 in
theorem equalLines_any (A A' : Option Addr) (m c c' : Nat) (l : Nat → ByteArray) (z : Nat → Int) (w : World) (ha : Rd w A m (fun j => .string (picF (strandsOf l) z j))) (hb : Rd w A' m (fun j => .string (l j))) (hm : m ≤ 1048576) :
    Calls Try.prog 47 #[.slice A m c, .slice A' m c'] w fun e w' => e = .returned (.bool (sameTo l z m)) ∧ ∃ q, w' = w.drewN q := by
  have HA := Lib.hid ha
  have HB := Lib.hid hb
  clear ha hb
  go_enter Try.func47, Try.ntmps47
  go_wp2_with fail
  go_loopw [13] (fun i wr => ∃ j q : Nat, j ≤ m ∧ i = .int .i64 j ∧ wr = w.drewN q ∧ Hid (sameTo l z j = true)) (fun i _ => m - (intOf i).toNat)
  case atStart => exact ⟨0, 0, Nat.zero_le _, rfl, rfl, rfl⟩
  case round =>
    obtain ⟨j, q, hj, rfl, rfl, HJ⟩ := hrel
    by_cases hlt : j < m
    · obtain ⟨ga, oa, rfl, _, hra⟩ := HA.out (by omega)
      obtain ⟨gb, ob, rfl, _, hrb⟩ := HB.out (by omega)
      have hca := hra j hlt
      have hcb := hrb j hlt
      obtain ⟨x, hx⟩ : ∃ x, x = l j := ⟨_, rfl⟩
      obtain ⟨y, hy⟩ : ∃ y, y = picF (strandsOf l) z j := ⟨_, rfl⟩
      simp only [← hx, ← hy] at hca hcb
      have b1 : (0 : Int) ≤ (j : Int) := by omega
      have b2 : (j : Int) < (m : Int) := by omega
      by_cases he : y = x
      · subst he
        have HN : Hid (sameTo l z (j + 1) = true) := by
          show sameTo l z (j + 1) = true
          simp only [sameTo]
          rw [HJ.out, ← hy, ← hx]; simp
        clear hra hrb hx hy
        go_wp2_with fail
        go_quiet (fail)
        go_wp2
        go_roundw
        case rel => exact ⟨j + 1, q + nq, by omega, by go_num, rfl, HN.out⟩
        case measure => simp [intOf] <;> omega
      · have hne := bytes_ne he
        have HNo : Hid (sameTo l z m = false) := sameTo_not hlt (by rw [← hy, ← hx]; exact he)
        clear hra hrb hx hy he
        go_wp2_with fail
        go_quiet (fail)
        go_wp2
        go_ret
        exact ⟨by rw [HNo.out]; rfl, q + nq, by simp [World.drewN, Nat.add_assoc]⟩
    · obtain rfl : j = m := by omega
      go_wp2
      go_ret
      exact ⟨by rw [HJ.out]; rfl, q, rfl⟩

set_option maxHeartbeats 2000000 in
theorem implRead_any (A : Option Addr) (m q : Nat) (hq : m ≤ q) (l : Nat → ByteArray) (w : World) (ha : Rd w A m (fun j => .string (l j))) (hm : m ≤ 1048576) (hl : ∀ j, j < m → (l j).size ≤ 1048576) :
    Calls Try.prog 24 #[.slice A m q] w (ReadP w l m) := by
  by_cases hbig : m = 0 ∨ 41 < m
  · have HO := Lib.hid (okL_big (l := l) (z := z1 l) hbig)
    rcases hbig with h | h
    · subst h
      go_enter Try.func24, Try.ntmps24
      go_wp2
      exact bodyPost_ret (v := .tuple #[.agg #[.int .i64 0, .slice none 0 0], .bool false]) (by simp [results, Try.results24, go_sem]) rfl (ReadP.no HO.out (by (repeat' first | with_reducible exact Below.refl _ _ | with_reducible refine Below.alloc ?_ ?_ _ | with_reducible refine Below.setCell ?_ ?_ _ | with_reducible refine Below.drew ?_ | with_reducible refine Below.drewN' ?_ _ | with_reducible (refine Below.trans ?_ (Below.mono (by assumption) ?_)) | exact Nat.le_refl _ | (simp; done) | (simp; omega) | omega)))
    · have h0 : 1 ≤ m := by omega
      go_enter Try.func24, Try.ntmps24
      go_wp2
      exact bodyPost_ret (v := .tuple #[.agg #[.int .i64 0, .slice none 0 0], .bool false]) (by simp [results, Try.results24, go_sem]) rfl (ReadP.no HO.out (by (repeat' first | with_reducible exact Below.refl _ _ | with_reducible refine Below.alloc ?_ ?_ _ | with_reducible refine Below.setCell ?_ ?_ _ | with_reducible refine Below.drew ?_ | with_reducible refine Below.drewN' ?_ _ | with_reducible (refine Below.trans ?_ (Below.mono (by assumption) ?_)) | exact Nat.le_refl _ | (simp; done) | (simp; omega) | omega)))
  · obtain ⟨hm1, hm2⟩ : 1 ≤ m ∧ m ≤ 41 := by omega
    obtain ⟨i0, hi, iz, is, ib⟩ := info_parts infoI64
    obtain ⟨g, o, rfl, hg, hr⟩ := ha (by omega)
    have hc0 := hr 0 (by omega)
    rw [Nat.add_zero] at hc0
    have hz0 := hl 0 (by omega)
    obtain ⟨l0, hl0⟩ : ∃ l0, l0 = l 0 := ⟨_, rfl⟩
    simp only [← hl0] at hc0 hz0
    obtain ⟨S, hS⟩ : ∃ S : Nat, S = (l0.size + 1) / 2 := ⟨_, rfl⟩
    have hS1 : ((l0.size : Int) + 1) / 2 = (S : Int) := by omega
    have HS : Hid (S = strandsOf l) := by unfold strandsOf; rw [← hl0]; exact hS
    have HS1 := Lib.hid hS1
    have HA := Lib.hid ha
    have HR := Lib.hid hr
    have HL := Lib.hid hl
    clear ha hr hl hl0 hbig hS
    obtain ⟨N, rfl⟩ : ∃ N, m = N + 1 := ⟨m - 1, by omega⟩
    have hA0 : Blk ((w.alloc (.cells #[.int .i64 0, .slice none 0 0] 53)).alloc (.cells #[.int .i64 S, .slice none 0 0] 53)) w.heap.size 53 #[.int .i64 0, .slice none 0 0] := (Blk.at_ _ _ _ rfl).alloc _
    have hA1 : Blk ((w.alloc (.cells #[.int .i64 0, .slice none 0 0] 53)).alloc (.cells #[.int .i64 S, .slice none 0 0] 53)) (w.heap.size + 1) 53 #[.int .i64 S, .slice none 0 0] := Blk.at_ _ _ _ (by simp)
    have HA0 := Lib.hid hA0
    have HA1 := Lib.hid hA1
    clear hA0 hA1
    rcases Nat.eq_zero_or_pos N with hz | hpos
    · subst hz
      rcases (show q = 1 ∨ ¬ q = 1 by omega) with rfl | hq1
      all_goals
        go_enter Try.func24, Try.ntmps24
        go_wp2_with fail
        clear hS1
        go_loopw [28] (fun i wr => ∃ (Av : Option Addr) (cv : Nat), i = .int .i64 0 ∧ Blk wr w.heap.size 53 #[.int .i64 0, .slice none 0 0] ∧ Blk wr (w.heap.size + 1) 53 #[.int .i64 S, .slice Av 0 cv] ∧ wr.ownsRow (w.heap.size + 2) 2 1 (.slice Av 0 cv) 0 (wordV (z2 l) 0) ∧ Below w.heap.size w wr) (fun _ _ => 0)
        case atStart => exact ⟨none, 0, rfl, HA0.out, HA1.out, ⟨rfl, .inl ⟨rfl, rfl⟩⟩, by (repeat' first | with_reducible exact Below.refl _ _ | with_reducible refine Below.alloc ?_ ?_ _ | with_reducible refine Below.setCell ?_ ?_ _ | with_reducible refine Below.drew ?_ | with_reducible refine Below.drewN' ?_ _ | with_reducible (refine Below.trans ?_ (Below.mono (by assumption) ?_)) | exact Nat.le_refl _ | (simp; done) | (simp; omega) | omega)⟩
        case round =>
          obtain ⟨Av, cv, rfl, hx0, hx1, hown, hb⟩ := hrel
          have HX0 := Lib.hid hx0
          have HX1 := Lib.hid hx1
          have HOWN := Lib.hid hown
          have HB := Lib.hid hb
          clear hx0 hx1 hown hb
          obtain ⟨A1, c1, e1, hn1⟩ := New.of_own (w := w) HB.out (own_base HOWN.out (by omega))
          injection e1 with e1 e2 e3
          subst e1 e3
          rw [Nat.mul_one] at hn1
          have hn1 := hn1.congr (f' := fun j => .int .i64 (z2 l j)) fun j hj => by first | omega | simp [wordV, List.getD, hj]
          have HRd := Lib.hid hn1.rd
          have g1 : ∀ i, wr.cell? ⟨w.heap.size + 1, i, none⟩ = (#[.int .i64 S, .slice Av (0) cv] : Array Value)[i]? := HX1.out.cell
          clear hn1 e2
          go_wp2_with fail
          refine (validBraid_any S Av (0) cv (z2 l) _ HRd.out (by omega)).mono ?_
          rintro e w2 ⟨rfl, hb2⟩
          have hx0' := HX0.out.below hb2 (HX0.out.lt)
          have hx1' := HX1.out.below hb2 (HX1.out.lt)
          have HX0' := Lib.hid hx0'
          have HX1' := Lib.hid hx1'
          have HOWN' := Lib.hid (own_below HOWN.out hb2)
          have HB' := Lib.hid (HB.out.trans (hb2.mono HB.out.size))
          have HRd' := Lib.hid (HRd.out.below hb2)
          have g0 := hx0'.cell
          have g1 := hx1'.cell
          have f0 := hx0'.frozen
          clear hb2 hx0' hx1'
          cases hv : braidB (S : Int) (0) (z2 l)
          · have HNo : Hid (okL l (0 + 1) (z1 l) = false) := by
              show okL l (0 + 1) (z1 l) = false
              rw [ok_both]; unfold okL; rw [← HS.out, Nat.add_sub_cancel, hv]; simp
            clear hv
            go_wp2
            exact bodyPost_ret (v := .tuple #[.agg #[.int .i64 0, .slice none 0 0], .bool false]) (by simp [results, Try.results24, go_sem, g0]) rfl (ReadP.no HNo.out ((HB'.out.setCell (Nat.le_refl _) _).setCell (Nat.le_refl _) _))
          · have HV := Lib.hid hv
            have hall : lettersB (S : Int) (z2 l) (0) = true := by
              simp only [braidB, Bool.and_eq_true] at hv
              exact hv.2
            have hS12 : S ≤ 12 := by
              simp only [braidB, Bool.and_eq_true] at hv
              have := inB_true hv.1.1
              omega
            have HALL := Lib.hid hall
            clear hv hall
            go_wp2_with fail
            refine (braidPicture_any S Av (0) cv (z2 l) _ HRd'.out hS12 (by omega) HALL.out).mono ?_
            rintro e w3 ⟨A3, c3, rfl, _, hp3⟩
            have hx0' := HX0'.out.below hp3.bl (HX0'.out.lt)
            have hx1' := HX1'.out.below hp3.bl (HX1'.out.lt)
            have HX0'' := Lib.hid hx0'
            have HX1'' := Lib.hid hx1'
            have HOWN'' := Lib.hid (own_below HOWN'.out hp3.bl)
            have HB'' := Lib.hid (HB'.out.trans (hp3.bl.mono HB'.out.size))
            have HP3 := Lib.hid (show Rd w3 A3 (0 + 1) (fun j => .string (picF (strandsOf l) (z2 l) j)) by rw [← HS.out]; exact hp3.rd)
            have HL3 := Lib.hid (HA.out.below HB''.out)
            clear hp3 hx0' hx1' g0 g1 f0
            go_wp2_with fail
            refine (equalLines_any A3 (some ⟨g, o, none⟩) (0 + 1) c3 _ l (z2 l) _ HP3.out HL3.out (by omega)).mono ?_
            rintro e w4 ⟨rfl, q4, rfl⟩
            have g0 := HX0''.out.cell
            have g1 := HX1''.out.cell
            have f0 := HX0''.out.frozen
            cases hs : sameTo l (z2 l) (0 + 1)
            · have HNo : Hid (okL l (0 + 1) (z1 l) = false) := by
                show okL l (0 + 1) (z1 l) = false
                rw [ok_both]; unfold okL; rw [hs]; simp
              clear hs
              go_wp2
              exact bodyPost_ret (v := .tuple #[.agg #[.int .i64 0, .slice none 0 0], .bool false]) (by simp [results, Try.results24, go_sem, g0]) rfl (ReadP.no HNo.out (((Below.drewN' HB''.out q4).setCell (Nat.le_refl _) _).setCell (Nat.le_refl _) _))
            · have HY2 : Hid (okL l (0 + 1) (z2 l) = true) := by
                show okL l (0 + 1) (z2 l) = true
                unfold okL; rw [← HS.out, Nat.add_sub_cancel, HV.out, hs]; simp <;> omega
              have HY1 : Hid (okL l (0 + 1) (z1 l) = true) := (ok_both l (0 + 1)).trans HY2.out
              have hown3 := own_set (own_set (own_drewN HOWN''.out q4) (p := ⟨w.heap.size, 0, none⟩) (by simp) (.int .i64 S)) (p := ⟨w.heap.size, 1, none⟩) (by simp) (.slice Av (0) cv)
              clear hs
              go_wp2
              exact bodyPost_ret (v := .tuple #[.agg #[.int .i64 S, .slice Av (0) cv], .bool true]) (by simp [results, Try.results24, go_sem, g0]) rfl (ReadP.end_ HS.out HY2.out HY1.out (((Below.drewN' HB''.out q4).setCell (Nat.le_refl _) _).setCell (Nat.le_refl _) _) hown3)
    · have hq1 : ¬ q = 1 := by omega
      go_enter Try.func24, Try.ntmps24
      go_wp2_with fail
      clear hS1
      go_loopw [28] (fun i wr => ∃ (k : Nat) (Av : Option Addr) (cv : Nat), k ≤ N ∧ i = .int .i64 k ∧ Blk wr w.heap.size 53 #[.int .i64 0, .slice none 0 0] ∧ Blk wr (w.heap.size + 1) 53 #[.int .i64 S, .slice Av k cv] ∧ wr.ownsRow (w.heap.size + 2) 2 1 (.slice Av k cv) k (wordV (z2 l) k) ∧ Below w.heap.size w wr) (fun i _ => N - (intOf i).toNat)
      case atStart => exact ⟨0, none, 0, Nat.zero_le _, rfl, HA0.out, HA1.out, ⟨rfl, .inl ⟨rfl, rfl⟩⟩, by (repeat' first | with_reducible exact Below.refl _ _ | with_reducible refine Below.alloc ?_ ?_ _ | with_reducible refine Below.setCell ?_ ?_ _ | with_reducible refine Below.drew ?_ | with_reducible refine Below.drewN' ?_ _ | with_reducible (refine Below.trans ?_ (Below.mono (by assumption) ?_)) | exact Nat.le_refl _ | (simp; done) | (simp; omega) | omega)⟩
      case round =>
        obtain ⟨k, Av, cv, hk, rfl, hx0, hx1, hown, hb⟩ := hrel
        have HX0 := Lib.hid hx0
        have HX1 := Lib.hid hx1
        have HOWN := Lib.hid hown
        have HB := Lib.hid hb
        by_cases hlt : k < N
        · have hcw := ((bcell hb).1 _ _ hg).trans (HR.out (1 + k) (by omega))
          have hzx := HL.out (1 + k) (by omega)
          obtain ⟨x, hx⟩ : ∃ x, x = l (1 + k) := ⟨_, rfl⟩
          simp only [← hx, ← Nat.add_assoc] at hcw hzx
          have HX := Lib.hid hx
          have hs1 := hx1.lt
          clear hx hb hx0 hx1 hown
          obtain ⟨wo, hwo⟩ : ∃ wo : World, wo = wr := ⟨_, rfl⟩
          subst hwo
          go_wp2_with fail
          go_loop [7, 34] (fun a i => ∃ j : Nat, j ≤ x.size ∧ i = .int .i64 j ∧ a = .int .i64 (l2Upto x j)) (fun _ i => x.size - (intOf i).toNat)
          case atStart => exact ⟨0, Nat.zero_le _, rfl, rfl⟩
          case round =>
            obtain ⟨j, hj, rfl, rfl⟩ := hrel
            by_cases hlj : j < x.size
            · have HBy := Lib.hid (byteAt_get x j hlj)
              obtain ⟨y, hy⟩ : ∃ y : Int, y = (x[j].toNat : Int) := ⟨_, rfl⟩
              by_cases h0 : y = 120
              · have hb0 : x[j].toNat = 120 := by omega
                have hx1 : x[j] = 120 := UInt8.toNat_inj.1 (by rw [hb0]; rfl)
                have HN : Hid (l2Upto x (j + 1) = (((j + 1) / 2 : Nat) : Int)) := by
                  show l2Upto x (j + 1) = _
                  rw [l2Upto, if_pos (by rw [HBy.out]; omega)]
                clear hy h0 hb0
                go_wp2
                go_round
                case rel => exact ⟨j + 1, by omega, by go_num, by rw [HN.out]; exact congrArg (Value.int .i64) (by omega)⟩
                case measure => simp [intOf] <;> omega
              · by_cases h1 : y = 121
                · have hb0 : x[j].toNat = 121 := by omega
                  have hx1 : x[j] = 121 := UInt8.toNat_inj.1 (by rw [hb0]; rfl)
                  have HN : Hid (l2Upto x (j + 1) = -(((j + 1) / 2 : Nat) : Int)) := by
                    show l2Upto x (j + 1) = _
                    rw [l2Upto, if_neg (by rw [HBy.out]; omega), if_pos (by rw [HBy.out]; omega)]
                  clear hy h0 h1 hb0
                  go_wp2
                  go_round
                  case rel => exact ⟨j + 1, by omega, by go_num, by rw [HN.out, ← neg_half j (by omega)]⟩
                  case measure => simp [intOf] <;> omega
                · have hb0 : ((x[j].toNat : Int) == 120) = false := by simp; omega
                  have hb1 : ((x[j].toNat : Int) == 121) = false := by simp; omega
                  have HN : Hid (l2Upto x (j + 1) = l2Upto x j) := by
                    show l2Upto x (j + 1) = _
                    rw [l2Upto, if_neg (by rw [HBy.out]; omega), if_neg (by rw [HBy.out]; omega)]
                  clear hy h0 h1
                  go_wp2
                  go_round
                  case rel => exact ⟨j + 1, by omega, by go_num, by rw [HN.out]⟩
                  case measure => simp [intOf] <;> omega
            · obtain rfl : x.size = j := by omega
              have hc11 : wo.cell? ⟨w.heap.size + 1, 1, none⟩ = some (.slice Av k cv) := HX1.out.cell 1
              have hbase : w.heap.size + 2 ≤ wo.heap.size := by omega
              go_wp2_with (at_builtin; go_must (refine wpList_app wo rfl (.tmp 53) (.tmp 55) _ rfl (w.heap.size + 2) 2 i0 _ 1 8 Try.underlying38 hi iz is ib rfl (by omega) (.slice Av k cv) k (wordV (z2 l) k) rfl HOWN.out _ 1 1 _ rfl rfl (by simp [Value.oneCell']) (by unfold maxLen; omega) (by omega) hbase ?_); intro v' w' hown' hb'; obtain ⟨A', c', rfl⟩ := own_form hown'; have HOWN' := Lib.hid hown'; have HX0' := Lib.hid (HX0.out.below hb' (by omega)); have hx1' := HX1.out.below hb' (by omega); have HX1' := Lib.hid hx1'; have hc1' := hx1'.cell; have hf1' := hx1'.frozen; have HB' := Lib.hid (HB.out.trans (hb'.mono (by omega))); clear hown' hb' hx1' hc11)
              go_wp2
              go_roundw
              case rel =>
                have hw : wordV (z2 l) (k + 1) = wordV (z2 l) k ++ [.int .i64 (l2Upto x x.size)] := by rw [wordV_next]; unfold z2 let2; rw [Nat.add_comm k 1, ← HX.out]
                exact ⟨k + 1, _, _, by omega, by go_num, HX0'.out.far (by simp) _, HX1'.out.set_ 1 _, by rw [hw]; exact own_set HOWN'.out (by simp) _, HB'.out.setCell (by simp) _⟩
              case measure => simp [intOf] <;> omega
        · obtain rfl : N = k := by omega
          clear hx0 hx1 hown hb
          obtain ⟨A1, c1, e1, hn1⟩ := New.of_own (w := w) HB.out (own_base HOWN.out (by omega))
          injection e1 with e1 e2 e3
          subst e1 e3
          rw [Nat.mul_one] at hn1
          have hn1 := hn1.congr (f' := fun j => .int .i64 (z2 l j)) fun j hj => by first | omega | simp [wordV, List.getD, hj]
          have HRd := Lib.hid hn1.rd
          have g1 : ∀ i, wr.cell? ⟨w.heap.size + 1, i, none⟩ = (#[.int .i64 S, .slice Av (N) cv] : Array Value)[i]? := HX1.out.cell
          clear hn1 e2
          go_wp2_with fail
          refine (validBraid_any S Av (N) cv (z2 l) _ HRd.out (by omega)).mono ?_
          rintro e w2 ⟨rfl, hb2⟩
          have hx0' := HX0.out.below hb2 (HX0.out.lt)
          have hx1' := HX1.out.below hb2 (HX1.out.lt)
          have HX0' := Lib.hid hx0'
          have HX1' := Lib.hid hx1'
          have HOWN' := Lib.hid (own_below HOWN.out hb2)
          have HB' := Lib.hid (HB.out.trans (hb2.mono HB.out.size))
          have HRd' := Lib.hid (HRd.out.below hb2)
          have g0 := hx0'.cell
          have g1 := hx1'.cell
          have f0 := hx0'.frozen
          clear hb2 hx0' hx1'
          cases hv : braidB (S : Int) (N) (z2 l)
          · have HNo : Hid (okL l (N + 1) (z1 l) = false) := by
              show okL l (N + 1) (z1 l) = false
              rw [ok_both]; unfold okL; rw [← HS.out, Nat.add_sub_cancel, hv]; simp
            clear hv
            go_wp2
            exact bodyPost_ret (v := .tuple #[.agg #[.int .i64 0, .slice none 0 0], .bool false]) (by simp [results, Try.results24, go_sem, g0]) rfl (ReadP.no HNo.out ((HB'.out.setCell (Nat.le_refl _) _).setCell (Nat.le_refl _) _))
          · have HV := Lib.hid hv
            have hall : lettersB (S : Int) (z2 l) (N) = true := by
              simp only [braidB, Bool.and_eq_true] at hv
              exact hv.2
            have hS12 : S ≤ 12 := by
              simp only [braidB, Bool.and_eq_true] at hv
              have := inB_true hv.1.1
              omega
            have HALL := Lib.hid hall
            clear hv hall
            go_wp2_with fail
            refine (braidPicture_any S Av (N) cv (z2 l) _ HRd'.out hS12 (by omega) HALL.out).mono ?_
            rintro e w3 ⟨A3, c3, rfl, _, hp3⟩
            have hx0' := HX0'.out.below hp3.bl (HX0'.out.lt)
            have hx1' := HX1'.out.below hp3.bl (HX1'.out.lt)
            have HX0'' := Lib.hid hx0'
            have HX1'' := Lib.hid hx1'
            have HOWN'' := Lib.hid (own_below HOWN'.out hp3.bl)
            have HB'' := Lib.hid (HB'.out.trans (hp3.bl.mono HB'.out.size))
            have HP3 := Lib.hid (show Rd w3 A3 (N + 1) (fun j => .string (picF (strandsOf l) (z2 l) j)) by rw [← HS.out]; exact hp3.rd)
            have HL3 := Lib.hid (HA.out.below HB''.out)
            clear hp3 hx0' hx1' g0 g1 f0
            go_wp2_with fail
            refine (equalLines_any A3 (some ⟨g, o, none⟩) (N + 1) c3 _ l (z2 l) _ HP3.out HL3.out (by omega)).mono ?_
            rintro e w4 ⟨rfl, q4, rfl⟩
            have g0 := HX0''.out.cell
            have g1 := HX1''.out.cell
            have f0 := HX0''.out.frozen
            cases hs : sameTo l (z2 l) (N + 1)
            · have HNo : Hid (okL l (N + 1) (z1 l) = false) := by
                show okL l (N + 1) (z1 l) = false
                rw [ok_both]; unfold okL; rw [hs]; simp
              clear hs
              go_wp2
              exact bodyPost_ret (v := .tuple #[.agg #[.int .i64 0, .slice none 0 0], .bool false]) (by simp [results, Try.results24, go_sem, g0]) rfl (ReadP.no HNo.out (((Below.drewN' HB''.out q4).setCell (Nat.le_refl _) _).setCell (Nat.le_refl _) _))
            · have HY2 : Hid (okL l (N + 1) (z2 l) = true) := by
                show okL l (N + 1) (z2 l) = true
                unfold okL; rw [← HS.out, Nat.add_sub_cancel, HV.out, hs]; simp <;> omega
              have HY1 : Hid (okL l (N + 1) (z1 l) = true) := (ok_both l (N + 1)).trans HY2.out
              have hown3 := own_set (own_set (own_drewN HOWN''.out q4) (p := ⟨w.heap.size, 0, none⟩) (by simp) (.int .i64 S)) (p := ⟨w.heap.size, 1, none⟩) (by simp) (.slice Av (N) cv)
              clear hs
              go_wp2
              exact bodyPost_ret (v := .tuple #[.agg #[.int .i64 S, .slice Av (N) cv], .bool true]) (by simp [results, Try.results24, go_sem, g0]) rfl (ReadP.end_ HS.out HY2.out HY1.out (((Below.drewN' HB''.out q4).setCell (Nat.le_refl _) _).setCell (Nat.le_refl _) _) hown3)

def rS (l : Nat → ByteArray) (m : Nat) : Int := if okL l m (z1 l) then (strandsOf l : Int) else 0
def rN (l : Nat → ByteArray) (m : Nat) : Nat := if okL l m (z1 l) then m - 1 else 0
theorem rN_le (l : Nat → ByteArray) (m : Nat) (h : m ≤ 1048576) : rN l m ≤ 1048576 := by unfold rN; split <;> omega
/-- A braid and whether it is one. -/
def ReadQ (s : Int) (n : Nat) (b : Bool) (z : Nat → Int) (w : World) (e : Ending) (w' : World) : Prop :=
  ∃ A c, e = .returned (.tuple #[.agg #[.int .i64 s, .slice A n c], .bool b]) ∧ New w w' A n (fun j => .int .i64 (z j))
theorem implReadC_any (A : Option Addr) (m q : Nat) (hq : m ≤ q) (l : Nat → ByteArray) (w : World) (ha : Rd w A m (fun j => .string (l j))) (hm : m ≤ 1048576) (hl : ∀ j, j < m → (l j).size ≤ 1048576) :
    Calls Try.prog 24 #[.slice A m q] w (ReadQ (rS l m) (rN l m) (okL l m (z1 l)) (z1 l) w) := (implRead_any A m q hq l w ha hm hl).mono fun _ _ h => h
theorem implReadQ_any (A : Option Addr) (m : Nat) (l : Nat → ByteArray) (w : World) (ha : Rd w A m (fun j => .string (l j))) (hm : m ≤ 1048576) (hl : ∀ j, j < m → (l j).size ≤ 1048576) :
    Calls Try.prog 24 #[.slice A m m] w (ReadQ (rS l m) (rN l m) (okL l m (z1 l)) (z1 l) w) := (implRead_any A m m (Nat.le_refl _) l w ha hm hl).mono fun _ _ h => h
end Go.Proofs.Ytacppheedleamaa
