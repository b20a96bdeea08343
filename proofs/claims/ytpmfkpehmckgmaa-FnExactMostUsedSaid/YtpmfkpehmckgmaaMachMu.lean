/- Walks: both MostUsed. No condition but the bounds. -/
import Derived.Test.YtpmfkpehmckgmaaMachUs
namespace Go.Proofs.Ytpmfkpehmckgmaa
open Go.RowKit
set_option maxRecDepth 20000

set_option maxHeartbeats 1000000 in
theorem concat64v_any (g cp : Nat) (A1 A2 : Option Addr) (n1 n2 c1 c2 : Nat) (f1 f2 : Nat → Value) (w : World) (h0 : w.cell? ⟨g, 0, none⟩ = some (.slice A1 n1 c1)) (h1 : w.cell? ⟨g, 1, none⟩ = some (.slice A2 n2 c2))
    (o1 : Rd w A1 n1 f1) (o2 : Rd w A2 n2 f2) (q1 : ∀ j, (f1 j).oneCell' = true) (q2 : ∀ j, (f2 j).oneCell' = true) (hp : 0 < n1 + n2) (hn1 : n1 ≤ 1000) (hn2 : n2 ≤ 1000) :
    Calls Try.prog 46 #[.slice (some ⟨g, 0, none⟩) 2 cp] w fun e w' => ∃ v, e = .returned v ∧ w'.ownsRow w.heap.size 2 1 v (n1 + n2) ((List.range n1).map f1 ++ (List.range n2).map f2) ∧ Below w.heap.size w w' := by
  obtain ⟨i0, hi, iz, is, ib⟩ := info_parts infoN
  have hg := World.block_lt_of_cell? w _ h0
  have H0 := Lib.hid h0
  have H1 := Lib.hid h1
  have O1 := Lib.hid o1
  have O2 := Lib.hid o2
  have Q1 := Lib.hid q1
  have Q2 := Lib.hid q2
  clear h0 h1 o1 o2 q1 q2
  go_enter Try.func46, Try.ntmps46
  go_wp2
  go_loop [3, 11] (fun s i => ∃ k : Nat, k ≤ 2 ∧ i = .int .i64 k ∧ s = .int .i64 (sumN n1 n2 k)) (fun _ i => 2 - (intOf i).toNat)
  case atStart => exact ⟨0, by omega, rfl, rfl⟩
  case round =>
    obtain ⟨k, hk, rfl, rfl⟩ := hrel
    have k0 := H0.out
    have k1 := H1.out
    rcases (show k = 0 ∨ k = 1 ∨ k = 2 by omega) with rfl | rfl | rfl
    · simp only [sumN] at *
      go_wp2
      go_round
      case rel => exact ⟨1, by omega, by go_num, by simp⟩
      case measure => simp [intOf] <;> omega
    · simp only [sumN] at *
      go_wp2
      go_round
      case rel => exact ⟨2, by omega, by go_num, by simp⟩
      case measure => simp [intOf] <;> omega
    · simp only [sumN] at *
      go_wp2_with fail
      rw [← Int.natCast_add]
      refine (grow64_nil (n1 + n2) _ hp (by omega)).mono ?_
      rintro e w1 ⟨v1, rfl, ho1, hb1⟩
      have HO1 := Lib.hid ho1
      have HB1 := Lib.hid hb1
      clear ho1 hb1 k0 k1
      go_wp2_with fail
      go_loopw [6, 27] (fun v i wr => ∃ (k : Nat), k ≤ 2 ∧ i = .int .i64 k ∧ wr.ownsRow w.heap.size 2 1 v (sumN n1 n2 k) (if k = 0 then [] else if k = 1 then (List.range n1).map f1 else (List.range n1).map f1 ++ (List.range n2).map f2) ∧ Below w.heap.size w wr) (fun _ i _ => 2 - (intOf i).toNat)
      case atStart => exact ⟨0, by omega, rfl, HO1.out, HB1.out⟩
      case round =>
        obtain ⟨k, hk, rfl, hown, hb⟩ := hrel
        have k0 := ((bcell hb).1 _ _ hg).trans H0.out
        have k1 := ((bcell hb).1 _ _ hg).trans H1.out
        have P1 := Lib.hid (O1.out.below hb)
        have P2 := Lib.hid (O2.out.below hb)
        have hgr : g < wr.heap.size := blt hb hg
        have HB := Lib.hid hb
        have HOWN := Lib.hid hown
        clear hb hown
        rcases (show k = 0 ∨ k = 1 ∨ k = 2 by omega) with rfl | rfl | rfl
        · go_wp2_with (at_builtin; go_must (refine wpList_appR _ rfl (.tmp 31) (.tmp 32) _ rfl w.heap.size 2 i0 _ 1 8 Try.underlying41 hi iz is ib rfl (by omega) u6 0 [] rfl HOWN.out A1 n1 c1 f1 rfl (by rw [Nat.mul_one]; exact P1.out) Q1.out (by unfold maxLen; omega) (by omega) HB.out.size ?_); intro v' w' hown' hfr; have HOWN' := Lib.hid hown'; have HBN := Lib.hid (HB.out.trans ((hfr.own HOWN.out HB.out.size).mono (Nat.le_refl _))); clear hown' hfr)
          go_roundw
          case rel => exact ⟨1, by omega, by go_num, by simpa [sumN] using HOWN'.out, HBN.out⟩
          case measure => simp [intOf] <;> omega
        · go_wp2_with (at_builtin; go_must (refine wpList_appR _ rfl (.tmp 31) (.tmp 32) _ rfl w.heap.size 2 i0 _ 1 8 Try.underlying41 hi iz is ib rfl (by omega) u6 n1 ((List.range n1).map f1) rfl HOWN.out A2 n2 c2 f2 rfl (by rw [Nat.mul_one]; exact P2.out) Q2.out (by unfold maxLen; omega) (by omega) HB.out.size ?_); intro v' w' hown' hfr; have HOWN' := Lib.hid hown'; have HBN := Lib.hid (HB.out.trans ((hfr.own HOWN.out HB.out.size).mono (Nat.le_refl _))); clear hown' hfr)
          go_roundw
          case rel => exact ⟨2, by omega, by go_num, by simpa [sumN] using HOWN'.out, HBN.out⟩
          case measure => simp [intOf] <;> omega
        · go_wp2
          go_ret
          exact ⟨_, rfl, HOWN.out, HB.out⟩
/-- The needle that is named most so far: how often, its bed and number. -/
def muF (f : Nat → Int) (bed : Int) (s : Int × Int × Int) : Nat → Int × Int × Int
  | 0 => s
  | i + 1 => if (muF f bed s i).1 < f i then (f i, bed, (i : Int)) else muF f bed s i
def mu1 (z : Nat → Int) (n i : Nat) : Int × Int × Int := muF (uU z 1 n) 1 (0, 0, 0) i
def mu2 (z : Nat → Int) (n W i : Nat) : Int × Int × Int := muF (uU z 2 n) 2 (mu1 z n W) i
def muT (z : Nat → Int) (n W t : Nat) : Int × Int × Int := if t ≤ W then mu1 z n t else mu2 z n W (t - W)
theorem muT_next (z : Nat → Int) (n W t : Nat) : muT z n W (t + 1) = if (muT z n W t).1 < (if t < W then uU z 1 n t else uU z 2 n (t - W)) then (if t < W then ((if t < W then uU z 1 n t else uU z 2 n (t - W)), 1, (t : Int)) else ((if t < W then uU z 1 n t else uU z 2 n (t - W)), 2, (t : Int) - W)) else muT z n W t := by
  unfold muT
  by_cases h : t < W
  · rw [if_pos (show t + 1 ≤ W by omega), if_pos (show t ≤ W by omega), if_pos h, if_pos h]
    rfl
  · rw [if_neg (show ¬ t + 1 ≤ W by omega), if_neg h, if_neg h, show t + 1 - W = (t - W) + 1 by omega]
    by_cases h2 : t = W
    · subst h2
      rw [if_pos (Nat.le_refl _), Nat.sub_self, show ((t : Int) - t) = ((0 : Nat) : Int) by omega]
      rfl
    · rw [if_neg (show ¬ t ≤ W by omega), show ((t : Int) - W) = ((t - W : Nat) : Int) by omega]
      rfl
theorem muT_end (z : Nat → Int) (n W : Nat) : muT z n W (W + W) = mu2 z n W W := by
  unfold muT
  by_cases h : W = 0
  · subst h; rfl
  · rw [if_neg (by omega), show W + W - W = W by omega]
theorem listAt (f k : Nat → Int) (W : Nat) {t : Nat} (ht : t < W + W) : ((List.range W).map (fun j => Value.int .i64 (f j)) ++ (List.range W).map (fun j => Value.int .i64 (k j)))[t]? = some (.int .i64 (if t < W then f t else k (t - W))) := by
  by_cases h : t < W
  · rw [if_pos h, List.getElem?_append_left (by simpa using h)]
    simp [h]
  · rw [if_neg h, List.getElem?_append_right (by simp; omega)]
    simp [show t - W < W by omega]
/-- The answer: bed, number, how often, code. -/
def muR (W : Int) (z : Nat → Int) (n : Nat) : Int × Int × Int × Int :=
  if codeOf W z n = 0 then (if (mu2 z n W.toNat W.toNat).1 = 0 then (0, 0, 0, 3) else ((mu2 z n W.toNat W.toNat).2.1, (mu2 z n W.toNat W.toNat).2.2, (mu2 z n W.toNat W.toNat).1, 0)) else (0, 0, 0, codeOf W z n)
def MuP (w : World) (r : Int × Int × Int × Int) (e : Ending) (w' : World) : Prop := e = .returned (.tuple #[.agg #[.int .i64 r.1, .int .i64 r.2.1], .int .i64 r.2.2.1, .int .i64 r.2.2.2]) ∧ Below w.heap.size w w'
section
variable (W : Int) (A : Option Addr) (n q : Nat) (z : Nat → Int) (w : World)
set_option maxHeartbeats 4000000 in
theorem specMostUsed_any (ha : Rd w A (n * 8) (fun j => .int .i64 (z j))) (hn : n ≤ 1048576) : Calls Try.prog 23 #[.int .i64 W, .slice A n q] w (MuP w (muR W z n)) := by
  have hb0 : Below w.heap.size w (w.alloc (.cells #[.int .i64 0, .int .i64 0] 37)) := (Below.refl _ _).alloc (Nat.le_refl _) _
  have hr := specNeedleUses_any W A n q z _ (ha.below hb0) hn
  have HB0 := Lib.hid hb0
  clear ha hb0
  by_cases hc : codeOf W z n = 0
  · obtain ⟨W, rfl, hW1, hW2, hn15, _, _⟩ := codeOf_ok hc
    rw [show okW (W : Int) z n = W from (if_pos hc).trans (Int.toNat_natCast _), hc] at hr
    have HX := Lib.hid (show muR (W : Int) z n = if (mu2 z n W W).1 = 0 then (0, 0, 0, 3) else ((mu2 z n W W).2.1, (mu2 z n W W).2.2, (mu2 z n W W).1, 0) from (if_pos hc).trans (by rw [Int.toNat_natCast]))
    have HR := Lib.hid hr
    clear hc hr
    go_enter Try.func23, Try.ntmps23
    go_wp2_with fail
    refine HR.out.mono ?_
    rintro e w1 ⟨AF, AK, cA, cB, rfl, hpF, hpK, _⟩
    have hbl := hpF.bl
    have HF := Lib.hid hpF.rd
    have HK := Lib.hid hpK.rd
    have HB1 := Lib.hid (HB0.out.trans (hbl.mono HB0.out.size))
    have HRES := Lib.hid (Blk.below (Blk.at_ w 37 #[.int .i64 0, .int .i64 0] rfl) hbl (by simp))
    have hs1 : w.heap.size < w1.heap.size := HRES.out.lt
    have HBX : Hid (Blk (w1.alloc (.cells #[.int .i64 0, .int .i64 0] 37)) w1.heap.size 37 #[.int .i64 (mu1 z n 0).2.1, .int .i64 (mu1 z n 0).2.2]) := Lib.hid (Blk.at_ _ _ _ rfl)
    clear hpF hpK hbl
    go_wp2_with fail
    go_loopw [11, 12] (fun mv iv wr => ∃ i : Nat, i ≤ W ∧ iv = .int .i64 i ∧ mv = .int .i64 (mu1 z n i).1 ∧ Blk wr w1.heap.size 37 #[.int .i64 (mu1 z n i).2.1, .int .i64 (mu1 z n i).2.2] ∧ Fr (w1.alloc (.cells #[.int .i64 0, .int .i64 0] 37)) wr (fun b => b = w1.heap.size)) (fun _ iv _ => W - (intOf iv).toNat)
    case atStart => exact ⟨0, Nat.zero_le _, rfl, rfl, HBX.out, Fr.refl _ _⟩
    case round =>
      obtain ⟨i, hi, rfl, rfl, hbx, hfr⟩ := hrel
      have HBY := Lib.hid hbx
      have HFR := Lib.hid hfr
      by_cases hlt : i < W
      · obtain ⟨gA, oA, rfl, hgA, hrA⟩ := HF.out (by omega)
        have hc0 : wr.cell? ⟨gA, oA + i, none⟩ = some (.int .i64 (uU z 1 n i)) := ((hfr.cells (by simp; omega) (by omega) _).trans (World.cell?_alloc_lt w1 _ _ hgA)).trans (hrA i (by omega))
        have c0 := hbx.cell 0
        have c1 := hbx.cell 1
        have f0 := hbx.frozen 0
        have f1 := hbx.frozen 1
        replace c0 := (show _ = some (Value.int .i64 (mu1 z n i).2.1) from c0)
        replace c1 := (show _ = some (Value.int .i64 (mu1 z n i).2.2) from c1)
        have HN := Lib.hid (show mu1 z n (i + 1) = if (mu1 z n i).1 < uU z 1 n i then (uU z 1 n i, 1, (i : Int)) else mu1 z n i from rfl)
        obtain ⟨v, hv⟩ : ∃ x, x = uU z 1 n i := ⟨_, rfl⟩
        rw [← hv] at hc0 HN
        obtain ⟨m, hm⟩ : ∃ x, x = (mu1 z n i).1 := ⟨_, rfl⟩
        rw [← hm] at HN ⊢
        have HM := Lib.hid hm
        clear hbx hfr hrA hgA hv hm
        by_cases hmv : m < v
        · have HN1 : Hid (mu1 z n (i + 1) = (v, 1, (i : Int))) := Lib.hid (HN.out.trans (if_pos hmv))
          have HBZ : Hid (Blk ((wr.setCell ⟨w1.heap.size, 0, none⟩ (.int .i64 1)).setCell ⟨w1.heap.size, 1, none⟩ (.int .i64 i)) w1.heap.size 37 #[.int .i64 (mu1 z n (i + 1)).2.1, .int .i64 (mu1 z n (i + 1)).2.2]) := Lib.hid (by rw [HN1.out]; exact (HBY.out.set_ 0 (.int .i64 1)).set_ 1 (.int .i64 i))
          go_wp2_with fail
          go_roundw
          case rel => exact ⟨i + 1, hlt, by go_num, by rw [HN1.out], HBZ.out, (HFR.out.set (p := ⟨w1.heap.size, 0, none⟩) rfl _).set (p := ⟨w1.heap.size, 1, none⟩) rfl _⟩
          case measure => simp [intOf] <;> omega
        · have HN1 : Hid (mu1 z n (i + 1) = mu1 z n i) := Lib.hid (HN.out.trans (if_neg hmv))
          go_wp2_with fail
          go_roundw
          case rel => exact ⟨i + 1, hlt, by go_num, by rw [HN1.out, HM.out], by rw [HN1.out]; exact HBY.out, HFR.out⟩
          case measure => simp [intOf] <;> omega
      · obtain rfl : W = i := by omega
        clear hbx hfr
        go_wp2_with fail
        go_loopw [11, 13] (fun mv iv wr => ∃ i : Nat, i ≤ W ∧ iv = .int .i64 i ∧ mv = .int .i64 (mu2 z n W i).1 ∧ Blk wr w1.heap.size 37 #[.int .i64 (mu2 z n W i).2.1, .int .i64 (mu2 z n W i).2.2] ∧ Fr (w1.alloc (.cells #[.int .i64 0, .int .i64 0] 37)) wr (fun b => b = w1.heap.size)) (fun _ iv _ => W - (intOf iv).toNat)
        case atStart => exact ⟨0, Nat.zero_le _, rfl, rfl, HBY.out, HFR.out⟩
        case round =>
          obtain ⟨i, hi, rfl, rfl, hbx, hfr⟩ := hrel
          have HBY := Lib.hid hbx
          have HFR := Lib.hid hfr
          by_cases hlt : i < W
          · obtain ⟨gA, oA, rfl, hgA, hrA⟩ := HK.out (by omega)
            have hc0 : wr.cell? ⟨gA, oA + i, none⟩ = some (.int .i64 (uU z 2 n i)) := ((hfr.cells (by simp; omega) (by omega) _).trans (World.cell?_alloc_lt w1 _ _ hgA)).trans (hrA i (by omega))
            have c0 := hbx.cell 0
            have c1 := hbx.cell 1
            have f0 := hbx.frozen 0
            have f1 := hbx.frozen 1
            replace c0 := (show _ = some (Value.int .i64 (mu2 z n W i).2.1) from c0)
            replace c1 := (show _ = some (Value.int .i64 (mu2 z n W i).2.2) from c1)
            have HN := Lib.hid (show mu2 z n W (i + 1) = if (mu2 z n W i).1 < uU z 2 n i then (uU z 2 n i, 2, (i : Int)) else mu2 z n W i from rfl)
            obtain ⟨v, hv⟩ : ∃ x, x = uU z 2 n i := ⟨_, rfl⟩
            rw [← hv] at hc0 HN
            obtain ⟨m, hm⟩ : ∃ x, x = (mu2 z n W i).1 := ⟨_, rfl⟩
            rw [← hm] at HN ⊢
            have HM := Lib.hid hm
            clear hbx hfr hrA hgA hv hm
            by_cases hmv : m < v
            · have HN1 : Hid (mu2 z n W (i + 1) = (v, 2, (i : Int))) := Lib.hid (HN.out.trans (if_pos hmv))
              have HBZ : Hid (Blk ((wr.setCell ⟨w1.heap.size, 0, none⟩ (.int .i64 2)).setCell ⟨w1.heap.size, 1, none⟩ (.int .i64 i)) w1.heap.size 37 #[.int .i64 (mu2 z n W (i + 1)).2.1, .int .i64 (mu2 z n W (i + 1)).2.2]) := Lib.hid (by rw [HN1.out]; exact (HBY.out.set_ 0 (.int .i64 2)).set_ 1 (.int .i64 i))
              go_wp2_with fail
              go_roundw
              case rel => exact ⟨i + 1, hlt, by go_num, by rw [HN1.out], HBZ.out, (HFR.out.set (p := ⟨w1.heap.size, 0, none⟩) rfl _).set (p := ⟨w1.heap.size, 1, none⟩) rfl _⟩
              case measure => simp [intOf] <;> omega
            · have HN1 : Hid (mu2 z n W (i + 1) = mu2 z n W i) := Lib.hid (HN.out.trans (if_neg hmv))
              go_wp2_with fail
              go_roundw
              case rel => exact ⟨i + 1, hlt, by go_num, by rw [HN1.out, HM.out], by rw [HN1.out]; exact HBY.out, HFR.out⟩
              case measure => simp [intOf] <;> omega
          · obtain rfl : W = i := by omega
            clear hbx hfr
            have hres := (HRES.out.alloc (.cells #[.int .i64 0, .int .i64 0] 37)).fr HFR.out (by show ¬ w.heap.size = w1.heap.size; omega)
            have q0 := (show wr.cell? ⟨w.heap.size, 0, none⟩ = some (Value.int .i64 0) from hres.cell 0)
            have q1 := (show wr.cell? ⟨w.heap.size, 1, none⟩ = some (Value.int .i64 0) from hres.cell 1)
            have g0 := hres.frozen 0
            have g1 := hres.frozen 1
            have HBE := Lib.hid ((HB1.out.alloc (by omega) (.cells #[.int .i64 0, .int .i64 0] 37)).trans (HFR.out.below (by simp; omega) (fun b hb => by subst hb; omega)))
            clear hres
            obtain ⟨m, hm⟩ : ∃ x, x = (mu2 z n W W).1 := ⟨_, rfl⟩
            rw [← hm] at HX ⊢
            by_cases hm0 : m = 0
            · subst hm0
              have HR0 := Lib.hid (HX.out.trans (if_pos rfl))
              clear hm
              go_wp2_with fail
              refine bodyPost_ret (v := .tuple #[.agg #[.int .i64 0, .int .i64 0], .int .i64 0, .int .i64 3]) (by simp [results, Try.results23, go_sem, q0, q1]) rfl ?_
              exact ⟨by rw [HR0.out], (HBE.out.setCell (Nat.le_refl _) _).setCell (Nat.le_refl _) _⟩
            · have HR0 := Lib.hid (HX.out.trans (if_neg hm0))
              have hm1 : (m == 0) = false := by simpa using hm0
              have b0 := (show wr.cell? ⟨w1.heap.size, 0, none⟩ = some (Value.int .i64 (mu2 z n W W).2.1) from HBY.out.cell 0)
              have b1 := (show wr.cell? ⟨w1.heap.size, 1, none⟩ = some (Value.int .i64 (mu2 z n W W).2.2) from HBY.out.cell 1)
              clear hm hm0
              go_wp2_with fail
              refine bodyPost_ret (v := .tuple #[.agg #[.int .i64 (mu2 z n W W).2.1, .int .i64 (mu2 z n W W).2.2], .int .i64 m, .int .i64 0]) (by simp [results, Try.results23, go_sem, q0, q1]) rfl ?_
              exact ⟨by rw [HR0.out], (HBE.out.setCell (Nat.le_refl _) _).setCell (Nat.le_refl _) _⟩
  · have HX := Lib.hid (show muR W z n = (0, 0, 0, codeOf W z n) from if_neg hc)
    rw [show okW W z n = 0 from if_neg hc] at hr
    obtain ⟨cd, hcd⟩ : ∃ x, x = codeOf W z n := ⟨_, rfl⟩
    rw [← hcd] at hr hc HX
    have hc1 : (cd == 0) = false := by simpa using hc
    have HR := Lib.hid hr
    clear hc hr hcd
    go_enter Try.func23, Try.ntmps23
    go_wp2_with fail
    refine HR.out.mono ?_
    rintro e w1 ⟨AF, AK, cA, cB, rfl, hpF, _, _⟩
    have hbl := hpF.bl
    have hres := Blk.below (Blk.at_ w 37 #[.int .i64 0, .int .i64 0] rfl) hbl (by simp)
    have q0 := (show w1.cell? ⟨w.heap.size, 0, none⟩ = some (Value.int .i64 0) from hres.cell 0)
    have q1 := (show w1.cell? ⟨w.heap.size, 1, none⟩ = some (Value.int .i64 0) from hres.cell 1)
    have g0 := hres.frozen 0
    have g1 := hres.frozen 1
    have HB1 := Lib.hid (HB0.out.trans (hbl.mono HB0.out.size))
    clear hpF hbl hres
    go_wp2_with fail
    refine bodyPost_ret (v := .tuple #[.agg #[.int .i64 0, .int .i64 0], .int .i64 0, .int .i64 cd]) (by simp [results, Try.results23, go_sem, q0, q1]) rfl ?_
    exact ⟨by rw [HX.out], (HB1.out.setCell (Nat.le_refl _) _).setCell (Nat.le_refl _) _⟩
set_option maxHeartbeats 4000000 in
theorem implMostUsed_any (ha : Rd w A (n * 8) (fun j => .int .i64 (z j))) (hn : n ≤ 1048576) : Calls Try.prog 24 #[.int .i64 W, .slice A n q] w (MuP w (muR W z n)) := by
  have hb0 : Below w.heap.size w (w.alloc (.cells #[.int .i64 0, .int .i64 0] 37)) := (Below.refl _ _).alloc (Nat.le_refl _) _
  have hr := implNeedleUses_any W A n q z _ (ha.below hb0) hn
  have HB0 := Lib.hid hb0
  clear ha hb0
  by_cases hc : codeOf W z n = 0
  · obtain ⟨W, rfl, hW1, hW2, hn15, _, _⟩ := codeOf_ok hc
    rw [show okW (W : Int) z n = W from (if_pos hc).trans (Int.toNat_natCast _), hc] at hr
    have HX := Lib.hid (show muR (W : Int) z n = if (mu2 z n W W).1 = 0 then (0, 0, 0, 3) else ((mu2 z n W W).2.1, (mu2 z n W W).2.2, (mu2 z n W W).1, 0) from (if_pos hc).trans (by rw [Int.toNat_natCast]))
    have HR := Lib.hid hr
    clear hc hr
    go_enter Try.func24, Try.ntmps24
    go_wp2_with fail
    refine HR.out.mono ?_
    rintro e w1 ⟨AF, AK, cA, cB, rfl, hpF, hpK, _⟩
    have hbl := hpF.bl
    have HF := Lib.hid hpF.rd
    have HK := Lib.hid hpK.rd
    have HB1 := Lib.hid (HB0.out.trans (hbl.mono HB0.out.size))
    have HRES := Lib.hid (Blk.below (Blk.at_ w 37 #[.int .i64 0, .int .i64 0] rfl) hbl (by simp))
    have hs1 : w.heap.size < w1.heap.size := HRES.out.lt
    have HBX : Hid (Blk (w1.alloc (.cells #[.int .i64 0, .int .i64 0] 37)) w1.heap.size 37 #[.int .i64 (muT z n W 0).2.1, .int .i64 (muT z n W 0).2.2]) := Lib.hid (Blk.at_ _ _ _ rfl)
    clear hpF hpK hbl
    have hb2 : Below w1.heap.size w1 ((w1.alloc (.cells #[.int .i64 0, .int .i64 0] 37)).alloc (.cells #[.slice AF W cA, .slice AK W cB] 41)) := by (repeat' first | with_reducible exact Below.refl _ _ | with_reducible refine Below.alloc ?_ ?_ _ | with_reducible refine Below.setCell ?_ ?_ _ | with_reducible refine Below.drew ?_ | with_reducible refine Below.drewN' ?_ _ | with_reducible (refine Below.trans ?_ (Below.mono (by assumption) ?_)) | exact Nat.le_refl _ | (simp; done) | (simp; omega) | omega)
    have HF2 := Lib.hid (HF.out.below hb2)
    have HK2 := Lib.hid (HK.out.below hb2)
    rw [Nat.mul_one] at HF2 HK2
    have HB2 := Lib.hid (HB1.out.trans (hb2.mono HB1.out.size))
    have HRES2 := Lib.hid ((HRES.out.alloc (.cells #[.int .i64 0, .int .i64 0] 37)).alloc (.cells #[.slice AF W cA, .slice AK W cB] 41))
    have HBX2 := Lib.hid (HBX.out.alloc (.cells #[.slice AF W cA, .slice AK W cB] 41))
    clear hb2
    go_wp2_with fail
    refine (concat64v_any (w1.heap.size + 1) 2 AF AK W W cA cB (fun j => .int .i64 (uU z 1 n j)) (fun j => .int .i64 (uU z 2 n j)) _ ((new_at _ _ _ (by simp) 0).trans rfl) ((new_at _ _ _ (by simp) 1).trans rfl) HF2.out HK2.out (fun _ => rfl) (fun _ => rfl) (by omega) (by omega) (by omega)).mono ?_
    rintro e w3 ⟨v3, rfl, hown3, hb3⟩
    obtain ⟨gv, cv, rfl⟩ : ∃ gv cv, v3 = .slice (some ⟨gv, 0, none⟩) (W + W) cv := by
      rcases hown3.2 with ⟨_, h0⟩ | ⟨q, cap, _, e, _⟩
      · omega
      · exact ⟨q, cap, e⟩
    have HOWN := Lib.hid hown3
    have HB3 := Lib.hid (HB2.out.trans (hb3.mono HB2.out.size))
    have HRES3 := Lib.hid (HRES2.out.below hb3 HRES2.out.lt)
    have HBX3 := Lib.hid (HBX2.out.below hb3 HBX2.out.lt)
    have hs3 : w1.heap.size < w3.heap.size := HBX3.out.lt
    have hgv : w1.heap.size + 1 + 1 ≤ gv ∧ gv < w3.heap.size := by
      have h := hown3.lt gv rfl
      simp at h
      exact ⟨by omega, h.2⟩
    have HGV := Lib.hid hgv
    clear hown3 hb3 hgv
    go_wp2_with fail
    go_loopw [11, 31] (fun mv iv wr => ∃ i : Nat, i ≤ W + W ∧ iv = .int .i64 i ∧ mv = .int .i64 (muT z n W i).1 ∧ Blk wr w1.heap.size 37 #[.int .i64 (muT z n W i).2.1, .int .i64 (muT z n W i).2.2] ∧ Fr w3 wr (fun b => b = w1.heap.size)) (fun _ iv _ => (W + W) - (intOf iv).toNat)
    case atStart => exact ⟨0, Nat.zero_le _, rfl, rfl, HBX3.out, Fr.refl _ _⟩
    case round =>
      obtain ⟨i, hi, rfl, rfl, hbx, hfr⟩ := hrel
      have HBY := Lib.hid hbx
      have HFR := Lib.hid hfr
      by_cases hlt : i < W + W
      · have hc0 := (hfr.cells HGV.out.2 (by have := HGV.out.1; omega) i).trans (HOWN.out.cellAt i (by omega))
        rw [listAt (uU z 1 n) (uU z 2 n) W hlt] at hc0
        have c0 := hbx.cell 0
        have c1 := hbx.cell 1
        have f0 := hbx.frozen 0
        have f1 := hbx.frozen 1
        replace c0 := (show _ = some (Value.int .i64 (muT z n W i).2.1) from c0)
        replace c1 := (show _ = some (Value.int .i64 (muT z n W i).2.2) from c1)
        have HN := Lib.hid (muT_next z n W i)
        obtain ⟨v, hv⟩ : ∃ x, x = (if i < W then uU z 1 n i else uU z 2 n (i - W)) := ⟨_, rfl⟩
        rw [← hv] at hc0 HN
        obtain ⟨m, hm⟩ : ∃ x, x = (muT z n W i).1 := ⟨_, rfl⟩
        rw [← hm] at HN ⊢
        have HM := Lib.hid hm
        clear hbx hfr hv hm
        by_cases hmv : m < v
        · by_cases hiW : i < W
          · have HN1 : Hid (muT z n W (i + 1) = (v, 1, (i : Int))) := Lib.hid (HN.out.trans ((if_pos hmv).trans (if_pos hiW)))
            have HBZ : Hid (Blk ((wr.setCell ⟨w1.heap.size, 0, none⟩ (.int .i64 1)).setCell ⟨w1.heap.size, 1, none⟩ (.int .i64 i)) w1.heap.size 37 #[.int .i64 (muT z n W (i + 1)).2.1, .int .i64 (muT z n W (i + 1)).2.2]) := Lib.hid (by rw [HN1.out]; exact (HBY.out.set_ 0 (.int .i64 1)).set_ 1 (.int .i64 i))
            go_wp2_with fail
            go_roundw
            case rel => exact ⟨i + 1, hlt, by go_num, by rw [HN1.out], HBZ.out, (HFR.out.set (p := ⟨w1.heap.size, 0, none⟩) rfl _).set (p := ⟨w1.heap.size, 1, none⟩) rfl _⟩
            case measure => simp [intOf] <;> omega
          · have HN1 : Hid (muT z n W (i + 1) = (v, 2, (i : Int) - W)) := Lib.hid (HN.out.trans ((if_pos hmv).trans (if_neg hiW)))
            have HBZ : Hid (Blk ((((wr.setCell ⟨w1.heap.size, 0, none⟩ (.int .i64 1)).setCell ⟨w1.heap.size, 1, none⟩ (.int .i64 i)).setCell ⟨w1.heap.size, 0, none⟩ (.int .i64 2)).setCell ⟨w1.heap.size, 1, none⟩ (.int .i64 ((i : Int) - W))) w1.heap.size 37 #[.int .i64 (muT z n W (i + 1)).2.1, .int .i64 (muT z n W (i + 1)).2.2]) := Lib.hid (by rw [HN1.out]; exact (((HBY.out.set_ 0 (.int .i64 1)).set_ 1 (.int .i64 i)).set_ 0 (.int .i64 2)).set_ 1 (.int .i64 ((i : Int) - W)))
            go_wp2_with fail
            go_roundw
            case rel => exact ⟨i + 1, hlt, by go_num, by rw [HN1.out], HBZ.out, (((HFR.out.set (p := ⟨w1.heap.size, 0, none⟩) rfl _).set (p := ⟨w1.heap.size, 1, none⟩) rfl _).set (p := ⟨w1.heap.size, 0, none⟩) rfl _).set (p := ⟨w1.heap.size, 1, none⟩) rfl _⟩
            case measure => simp [intOf] <;> omega
        · have HN1 : Hid (muT z n W (i + 1) = muT z n W i) := Lib.hid (HN.out.trans (if_neg hmv))
          go_wp2_with fail
          go_roundw
          case rel => exact ⟨i + 1, hlt, by go_num, by rw [HN1.out, HM.out], by rw [HN1.out]; exact HBY.out, HFR.out⟩
          case measure => simp [intOf] <;> omega
      · obtain rfl : i = W + W := by omega
        rw [muT_end] at HBY ⊢
        clear hbx hfr
        have hres := HRES3.out.fr HFR.out (by show ¬ w.heap.size = w1.heap.size; omega)
        have q0 := (show wr.cell? ⟨w.heap.size, 0, none⟩ = some (Value.int .i64 0) from hres.cell 0)
        have q1 := (show wr.cell? ⟨w.heap.size, 1, none⟩ = some (Value.int .i64 0) from hres.cell 1)
        have g0 := hres.frozen 0
        have g1 := hres.frozen 1
        have HBE := Lib.hid (HB3.out.trans (HFR.out.below HB3.out.size (fun b hb => by subst hb; omega)))
        clear hres
        obtain ⟨m, hm⟩ : ∃ x, x = (mu2 z n W W).1 := ⟨_, rfl⟩
        rw [← hm] at HX ⊢
        by_cases hm0 : m = 0
        · subst hm0
          have HR0 := Lib.hid (HX.out.trans (if_pos rfl))
          clear hm
          go_wp2_with fail
          refine bodyPost_ret (v := .tuple #[.agg #[.int .i64 0, .int .i64 0], .int .i64 0, .int .i64 3]) (by simp [results, Try.results24, go_sem, q0, q1]) rfl ?_
          exact ⟨by rw [HR0.out], (HBE.out.setCell (Nat.le_refl _) _).setCell (Nat.le_refl _) _⟩
        · have HR0 := Lib.hid (HX.out.trans (if_neg hm0))
          have hm1 : (m == 0) = false := by simpa using hm0
          have b0 := (show wr.cell? ⟨w1.heap.size, 0, none⟩ = some (Value.int .i64 (mu2 z n W W).2.1) from HBY.out.cell 0)
          have b1 := (show wr.cell? ⟨w1.heap.size, 1, none⟩ = some (Value.int .i64 (mu2 z n W W).2.2) from HBY.out.cell 1)
          clear hm hm0
          go_wp2_with fail
          refine bodyPost_ret (v := .tuple #[.agg #[.int .i64 (mu2 z n W W).2.1, .int .i64 (mu2 z n W W).2.2], .int .i64 m, .int .i64 0]) (by simp [results, Try.results24, go_sem, q0, q1]) rfl ?_
          exact ⟨by rw [HR0.out], (HBE.out.setCell (Nat.le_refl _) _).setCell (Nat.le_refl _) _⟩
  · have HX := Lib.hid (show muR W z n = (0, 0, 0, codeOf W z n) from if_neg hc)
    rw [show okW W z n = 0 from if_neg hc] at hr
    obtain ⟨cd, hcd⟩ : ∃ x, x = codeOf W z n := ⟨_, rfl⟩
    rw [← hcd] at hr hc HX
    have hc1 : (cd == 0) = false := by simpa using hc
    have HR := Lib.hid hr
    clear hc hr hcd
    go_enter Try.func24, Try.ntmps24
    go_wp2_with fail
    refine HR.out.mono ?_
    rintro e w1 ⟨AF, AK, cA, cB, rfl, hpF, _, _⟩
    have hbl := hpF.bl
    have hres := Blk.below (Blk.at_ w 37 #[.int .i64 0, .int .i64 0] rfl) hbl (by simp)
    have q0 := (show w1.cell? ⟨w.heap.size, 0, none⟩ = some (Value.int .i64 0) from hres.cell 0)
    have q1 := (show w1.cell? ⟨w.heap.size, 1, none⟩ = some (Value.int .i64 0) from hres.cell 1)
    have g0 := hres.frozen 0
    have g1 := hres.frozen 1
    have HB1 := Lib.hid (HB0.out.trans (hbl.mono HB0.out.size))
    clear hpF hbl hres
    go_wp2_with fail
    refine bodyPost_ret (v := .tuple #[.agg #[.int .i64 0, .int .i64 0], .int .i64 0, .int .i64 cd]) (by simp [results, Try.results24, go_sem, q0, q1]) rfl ?_
    exact ⟨by rw [HX.out], (HB1.out.setCell (Nat.le_refl _) _).setCell (Nat.le_refl _) _⟩
end
end Go.Proofs.Ytpmfkpehmckgmaa
