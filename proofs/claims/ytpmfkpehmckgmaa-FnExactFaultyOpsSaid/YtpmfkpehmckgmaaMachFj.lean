/- Walks: FaultyOps by the program. No condition but the bounds. -/
import Derived.Test.YtpmfkpehmckgmaaMachFi
import Derived.Test.YtpmfkpehmckgmaaMachFu
import Derived.Test.YtpmfkpehmckgmaaMachZ
namespace Go.Proofs.Ytpmfkpehmckgmaa
open Go.RowKit
set_option maxRecDepth 20000

theorem yStep_congr {p : Mst × List Int} {y y' : Nat → Int} {j j' : Nat} (h : ∀ t, t < 8 → y (j * 8 + t) = y' (j' * 8 + t)) : yStep p y j = yStep p y' j' := by
  have h0 := h 0 (by omega)
  rw [Nat.add_zero, Nat.add_zero] at h0
  have e1 : kC p.1 y j = kC p.1 y' j' := by unfold kC; rw [h0, h 1 (by omega), h 2 (by omega), h 3 (by omega), h 4 (by omega), h 5 (by omega), h 6 (by omega)]
  have e2 : kS p.1 y j = kS p.1 y' j' := by unfold kS; rw [h0, h 1 (by omega), h 2 (by omega), h 3 (by omega), h 4 (by omega), h 5 (by omega), h 6 (by omega), h 7 (by omega)]
  have e3 : opL y j = opL y' j' := by unfold opL; rw [h0, h 1 (by omega), h 2 (by omega), h 3 (by omega), h 4 (by omega), h 5 (by omega), h 6 (by omega), h 7 (by omega)]
  unfold yStep
  rw [e1, e2, e3]
theorem ySeq_congr {p : Mst × List Int} {y y' : Nat → Int} : ∀ K, (∀ t, t < K * 8 → y t = y' t) → ySeq y p K = ySeq y' p K
  | 0, _ => rfl
  | K + 1, h => by
    show yStep (ySeq y p K) y K = yStep (ySeq y' p K) y' K
    rw [ySeq_congr K fun t ht => h t (by omega)]
    exact yStep_congr fun t ht => h _ (by omega)
/-- What is executed behind the operation with the fault: the operations instead of it, and those behind it. -/
def restL (s : Mst) (z : Nat → Int) (At : Nat) (f : Int) (R : Nat) : List Int := (List.range (insN s z At f * 8)).map (insF s z At f) ++ (List.range (R * 8)).map (fun t => z ((At + 1) * 8 + t))
def restY (s : Mst) (z : Nat → Int) (At : Nat) (f : Int) (R : Nat) (t : Nat) : Int := (restL s z At f R).getD t 0
theorem restY_front {s : Mst} {z : Nat → Int} {At : Nat} {f : Int} {R t : Nat} (ht : t < insN s z At f * 8) : restY s z At f R t = insF s z At f t := by
  unfold restY restL
  rw [List.getD_eq_getElem?_getD, List.getElem?_append_left (by simpa using ht), List.getElem?_map, List.getElem?_range ht]
  rfl
theorem restY_back {s : Mst} {z : Nat → Int} {At : Nat} {f : Int} {R t : Nat} (ht : t < R * 8) : restY s z At f R (insN s z At f * 8 + t) = z ((At + 1) * 8 + t) := by
  unfold restY restL
  rw [List.getD_eq_getElem?_getD, List.getElem?_append_right (by simp), List.length_map, List.length_range, Nat.add_sub_cancel_left, List.getElem?_map, List.getElem?_range ht]
  rfl
theorem rest_ok {W : Nat} {s : Mst} {z : Nat → Int} {At n j : Nat} {f : Int} (hW : 1 ≤ W) (hops : ∀ i, i < n → opW W z i = true) (hAt : At < n) (hc : canB f (z (At * 8)) = true) (hj : j < insN s z At f + (n - (At + 1))) : opW W (restY s z At f (n - (At + 1))) j = true := by
  by_cases hjk : j < insN s z At f
  · have h := ins_ok (s := s) hW (hops At hAt) hc hjk
    exact opW_same h fun t ht => restY_front (by omega)
  · refine opW_same (hops (At + 1 + (j - insN s z At f)) (by omega)) fun t ht => ?_
    have h := restY_back (s := s) (z := z) (At := At) (f := f) (R := n - (At + 1)) (t := (j - insN s z At f) * 8 + t) (by omega)
    rw [show j * 8 + t = insN s z At f * 8 + ((j - insN s z At f) * 8 + t) by omega, h]
    congr 1
    omega
theorem rest_run {W : Nat} {z : Nat → Int} {At n : Nat} {f : Int} (hAt : At < n) : ∀ r, r ≤ n - (At + 1) → ySeq (restY (gAt W z f At At).1 z At f (n - (At + 1))) (gAt W z f At At) (insN (gAt W z f At At).1 z At f + r) = gAt W z f At (At + 1 + r)
  | 0, _ => by
    show ySeq _ _ (insN (gAt W z f At At).1 z At f) = (if At = At then ySeq (insF (gAt W z f At At).1 z At f) (gAt W z f At At) (insN (gAt W z f At At).1 z At f) else yStep (gAt W z f At At) z At)
    rw [if_pos rfl]
    exact ySeq_congr _ fun t ht => restY_front ht
  | r + 1, hr => by
    show yStep (ySeq _ _ (insN (gAt W z f At At).1 z At f + r)) _ (insN (gAt W z f At At).1 z At f + r) = (if At + 1 + r = At then _ else yStep (gAt W z f At (At + 1 + r)) z (At + 1 + r))
    rw [if_neg (by omega), rest_run hAt r (by omega)]
    refine yStep_congr fun t ht => ?_
    have h := restY_back (s := (gAt W z f At At).1) (z := z) (At := At) (f := f) (R := n - (At + 1)) (t := r * 8 + t) (by omega)
    rw [show (insN (gAt W z f At At).1 z At f + r) * 8 + t = insN (gAt W z f At At).1 z At f * 8 + (r * 8 + t) by omega, h]
    congr 1
    omega
theorem opsL_range (y : Nat → Int) : ∀ n, (List.range (n * 8)).map y = opsL y n
  | 0 => rfl
  | n + 1 => by
    rw [show (n + 1) * 8 = n * 8 + 1 + 1 + 1 + 1 + 1 + 1 + 1 + 1 by omega]
    simp only [List.range_succ, List.map_append, List.map_cons, List.map_nil, opsL_range y n, List.append_assoc, List.cons_append, List.nil_append]
    rfl
section
variable (W : Nat) (A : Option Addr) (n q : Nat) (z : Nat → Int) (f x : Int) (w : World)
set_option maxHeartbeats 16000000 in
theorem faultyOps_any (ha : Rd w A (n * 8) (fun j => .int .i64 (z j))) (hW1 : 1 ≤ W) (hW2 : W ≤ 24) (hn : n ≤ 1500) (hq : n ≤ q) (hops : ∀ i, i < n → opW W z i = true) (hok : okTo W z n) (hc : codeOf (W : Int) z n = 0) :
    Calls Try.prog 54 #[.int .i64 W, .slice A n q, .agg #[.int .i64 f, .int .i64 x]] w (FyP w W z n f x) := by
  obtain ⟨i0, hi, iz, is, ib⟩ := info_parts infoOp
  obtain ⟨Wb, hWb⟩ : ∃ x', x' = w.alloc (.cells #[.int .i64 f, .int .i64 x] 52) := ⟨_, rfl⟩
  have HB0 : Hid (Below w.heap.size w Wb) := Lib.hid (hWb ▸ (Below.refl _ _).alloc (Nat.le_refl _) _)
  have HBX : Hid (Blk Wb w.heap.size 52 #[.int .i64 f, .int .i64 x]) := Lib.hid (hWb ▸ Blk.at_ _ _ _ rfl)
  have HWB := Lib.hid hWb
  have HA := Lib.hid (ha.below HB0.out)
  have HC := Lib.hid hc
  have HOPS := Lib.hid hops
  have HOK := Lib.hid hok
  have HNQ := Lib.hid hq
  have hwn : IntKind.i64.wrap ((n : Int) - 1) = (n : Int) - 1 := by rw [IntKind.wrap_i64]; omega
  clear ha hWb hc hops hok
  cases hin : inB x 0 ((n : Int) - 1)
  · have HIN := Lib.hid hin
    have HI : Hid (∀ w', Calls Try.prog 69 #[.int .i64 x, .int .i64 0, .int .i64 ((n : Int) - 1)] w' fun e w'' => e = .returned (.bool false) ∧ w'' = w') := Lib.hid fun w' => (within_any x 0 ((n : Int) - 1) w').mono fun _ _ h => ⟨h.1.trans (by rw [HIN.out]), h.2.symm⟩
    have HOKF : Hid (fyOk n z f x = false) := Lib.hid (by unfold fyOk; rw [hin]; rfl)
    have b1 := (show _ = some (Value.int .i64 x) from HBX.out.cell 1)
    clear hin
    go_enter Try.func54, Try.ntmps54
    go_upto_region 1 with (fail)
    rw [← HWB.out]
    go_quiet ((go_at_call 69; exact Calls.quiet_of_same (HI.out _)))
    go_wp2_with fail
    refine bodyPost_ret (v := .tuple #[.slice none 0 0, .int .i64 3]) (by simp [results, Try.results54, go_sem]) rfl ?_
    exact FyP.no HC.out HOKF.out rfl (Below.drewN' HB0.out _)
  · have hx := inB_true hin
    obtain ⟨At, rfl⟩ := Int.eq_ofNat_of_zero_le hx.1
    have hAt : At < n := by omega
    have hAtI : (At : Int) < (n : Int) := by omega
    have hAt0 : (0 : Int) ≤ (At : Int) := by omega
    have HAT := Lib.hid hAt
    have HIN := Lib.hid hin
    have HI : Hid (∀ w', Calls Try.prog 69 #[.int .i64 At, .int .i64 0, .int .i64 ((n : Int) - 1)] w' fun e w'' => e = .returned (.bool true) ∧ w'' = w') := Lib.hid fun w' => (within_any At 0 ((n : Int) - 1) w').mono fun _ _ h => ⟨h.1.trans (by rw [HIN.out]), h.2.symm⟩
    have hop := opOk_at hW1 (HOPS.out At hAt)
    have HK19 := Lib.hid (And.intro hop.k1 hop.k9)
    have HOKq : Hid (fyOk n z f (At : Int) = canB f (z (At * 8))) := Lib.hid (by unfold fyOk; rw [hin, Int.toNat_natCast]; rfl)
    clear hin hx hop
    obtain ⟨ga, o, hA', hga, hra⟩ := HA.out (by omega)
    subst hA'
    have hce := opCe_of hra hAt
    obtain ⟨k, hx0⟩ : ∃ x, x = z (At * 8) := ⟨_, rfl⟩
    obtain ⟨d, hx1⟩ : ∃ x, x = z (At * 8 + 1) := ⟨_, rfl⟩
    obtain ⟨fb, hx2⟩ : ∃ x, x = z (At * 8 + 2) := ⟨_, rfl⟩
    obtain ⟨fa, hx3⟩ : ∃ x, x = z (At * 8 + 3) := ⟨_, rfl⟩
    obtain ⟨tb, hx4⟩ : ∃ x, x = z (At * 8 + 4) := ⟨_, rfl⟩
    obtain ⟨ta, hx5⟩ : ∃ x, x = z (At * 8 + 5) := ⟨_, rfl⟩
    obtain ⟨c, hx6⟩ : ∃ x, x = z (At * 8 + 6) := ⟨_, rfl⟩
    obtain ⟨r, hx7⟩ : ∃ x, x = z (At * 8 + 7) := ⟨_, rfl⟩
    rw [← hx0, ← hx1, ← hx2, ← hx3, ← hx4, ← hx5, ← hx6, ← hx7] at hce
    rw [← hx0] at HK19 HOKq
    have HX : Hid (k = z (At * 8) ∧ d = z (At * 8 + 1) ∧ fb = z (At * 8 + 2) ∧ fa = z (At * 8 + 3) ∧ tb = z (At * 8 + 4) ∧ ta = z (At * 8 + 5) ∧ c = z (At * 8 + 6) ∧ r = z (At * 8 + 7)) := Lib.hid ⟨hx0, hx1, hx2, hx3, hx4, hx5, hx6, hx7⟩
    have HCE := Lib.hid hce
    have HGA : Hid (ga < Wb.heap.size) := Lib.hid hga
    have HROW := Lib.hid hra
    have b0 := (show _ = some (Value.int .i64 f) from HBX.out.cell 0)
    have b1 := (show _ = some (Value.int .i64 At) from HBX.out.cell 1)
    have c0 := hce.c0
    clear hx0 hx1 hx2 hx3 hx4 hx5 hx6 hx7 hce hga hra
    cases hcan : canB f k
    · have HCAN := Lib.hid hcan
      have HF : Hid (∀ w', Calls Try.prog 67 #[.int .i64 f, .int .i64 k] w' fun e w'' => e = .returned (.bool false) ∧ w'' = w') := Lib.hid fun w' => (canFail_any f k w' HK19.out.1 HK19.out.2).mono fun _ _ h => ⟨h.1.trans (by rw [HCAN.out]), h.2.symm⟩
      clear hcan hAt
      go_enter Try.func54, Try.ntmps54
      go_upto_region 1 with (fail)
      rw [← HWB.out]
      go_quiet (first | (go_at_call 69; exact Calls.quiet_of_same (HI.out _)) | (go_at_call 67; exact Calls.quiet_of_same (HF.out _)))
      go_wp2_with fail
      refine bodyPost_ret (v := .tuple #[.slice none 0 0, .int .i64 3]) (by simp [results, Try.results54, go_sem]) rfl ?_
      exact FyP.no HC.out (HOKq.out.trans HCAN.out) rfl (Below.drewN' HB0.out _)
    · have HCAN := Lib.hid hcan
      have HF : Hid (∀ w', Calls Try.prog 67 #[.int .i64 f, .int .i64 k] w' fun e w'' => e = .returned (.bool true) ∧ w'' = w') := Lib.hid fun w' => (canFail_any f k w' HK19.out.1 HK19.out.2).mono fun _ _ h => ⟨h.1.trans (by rw [HCAN.out]), h.2.symm⟩
      clear hcan hAt
      go_enter Try.func54, Try.ntmps54
      go_upto_region 1 with (fail)
      rw [← HWB.out]
      go_quiet (first | (go_at_call 69; exact Calls.quiet_of_same (HI.out _)) | (go_at_call 67; exact Calls.quiet_of_same (HF.out _)))
      obtain ⟨w1, hw1⟩ : ∃ x, x = Wb.drewN nq := ⟨_, rfl⟩
      rw [← hw1]
      have HB1 : Hid (Below Wb.heap.size Wb w1) := Lib.hid (hw1 ▸ Below.drewN' (Below.refl _ _) nq)
      have hbx := HBX.out.below HB1.out HBX.out.lt
      clear b0 b1 c0 hw1
      have b1 := (show _ = some (Value.int .i64 At) from hbx.cell 1)
      have hAq : At ≤ q := by have := HAT.out; have := HNQ.out; omega
      have hAqI : (At : Int) ≤ (q : Int) := by omega
      clear hbx
      go_wp2_with fail
      refine (run_any W (some ⟨ga, o, none⟩) At q z w1 (fun _ => ⟨ga, o, rfl, Nat.lt_of_lt_of_le HGA.out HB1.out.size, fun t ht => (HROW.out.below HGA.out HB1.out) t (by have := HAT.out; omega)⟩) hW1 hW2 (by have := HAT.out; omega) fun i hi => HOPS.out i (by have := HAT.out; omega)).mono ?_
      rintro e w2 ⟨ir, v, rfl, _, _, hrc, ⟨tg0, ⟨g0, gf, cf, gk, ck, gc, cc, F0, K0, L0, D0⟩, rfl, hlo, hlt0, ⟨⟨AL, nL, cL, hL⟩, ⟨AD, nD, cD, hD⟩⟩, hmk⟩, hb2⟩
      obtain rfl : L0 = _ := hL
      obtain rfl : D0 = _ := hD
      have hrc0 : runC W z At = 0 := runC_ok fun i hi => HOK.out i (by have := HAT.out; omega)
      obtain rfl := hrc hrc0
      rw [hrc0]
      obtain ⟨gm, hgm⟩ : ∃ x, x = w2.heap.size := ⟨_, rfl⟩
      have HGM : Hid (w1.heap.size ≤ gm) := Lib.hid (by rw [hgm]; exact hb2.size)
      obtain ⟨s0, hs0⟩ : ∃ x, x = mSt W z ir := ⟨_, rfl⟩
      rw [← hs0] at hmk
      obtain ⟨Wm, hWm⟩ : ∃ x, x = w2.alloc (.cells (cellsM ⟨g0, gf, cf, gk, ck, gc, cc, F0, K0, .slice AL nL cL, .slice AD nD cD⟩ s0) 69) := ⟨_, rfl⟩
      have hbm : Below w2.heap.size w2 Wm := hWm ▸ (Below.refl _ _).alloc (Nat.le_refl _) _
      have H0 : Hid (Runs w1 (onT tg0 gm) ⟨gm, gf, cf, gk, ck, gc, cc, F0, K0, .slice AL nL cL, .slice AD nD cD⟩ s0 Wm) := Lib.hid ⟨hmk gm Wm (by rw [hgm]; exact Decidable.byContradiction fun hn => Nat.lt_irrefl _ (hlt0 _ hn)) (fun b hb => hbm.block b (hlt0 b hb)) hbm.size (hWm ▸ Blk.at_ _ _ _ hgm),
        hb2.trans (hbm.mono hb2.size), fun q hq => by
          unfold onT at hq
          split at hq
          · have := HGM.out; omega
          · exact hlo q hq⟩
      have HWM := Lib.hid hWm
      have HGMQ := Lib.hid hgm
      have HS0 := Lib.hid hs0
      have HOKA : Hid (okTo W z ir) := Lib.hid fun i hi => HOK.out i (by have := HAT.out; omega)
      have HP0 : Hid (gAt W z f ir ir = (s0, opsL z ir)) := Lib.hid (by rw [hs0]; exact gAt_before ir (Nat.le_refl _) HOKA.out)
      clear hlo hlt0 hmk hb2 hWm hgm hbm hrc hrc0
      simp only [cellsM] at HWM ⊢
      rw [← hs0]
      clear hs0
      go_upto_region 4 with (fail)
      rw [← HWM.out, ← HGMQ.out]
      have HB1m : Hid (Below Wb.heap.size Wb Wm) := Lib.hid (HB1.out.trans (H0.out.b.mono HB1.out.size))
      have hbx := HBX.out.below HB1m.out HBX.out.lt
      clear b1
      have b1 := (show _ = some (Value.int .i64 ir) from hbx.cell 1)
      clear hbx
      go_wp2_with fail
      refine (cloneOp_any ga o ir q z Wm (fun _ => ⟨ga, o, rfl, Nat.lt_of_lt_of_le HGA.out HB1m.out.size, fun t ht => (HROW.out.below HGA.out HB1m.out) t (by have := HAT.out; omega)⟩) (by have := HAT.out; omega)).mono ?_
      rintro e w3 ⟨vo, rfl, howno, hb3⟩
      obtain ⟨Ao, co, rfl⟩ := own_form howno
      have HB3 := Lib.hid hb3
      have HB3b : Hid (Below Wb.heap.size Wb w3) := Lib.hid (HB1m.out.trans (hb3.mono HB1m.out.size))
      have HOWN3 : Hid (w3.ownsRow w1.heap.size 58 8 (.slice Ao ir co) ir (ints (opsL z ir))) := Lib.hid (by have h := own_base howno H0.out.b.size; rwa [opsL_range] at h)
      have HFRo : Hid (∀ b, (Value.slice Ao ir co).ownBlock = some b → Wm.heap.size ≤ b) := Lib.hid fun b hb => (howno.lt b hb).1
      have HR3 := Lib.hid (H0.out.below hb3)
      have HCE3 : Hid (OpCe ga (o + ir * 8) k d fb fa tb ta c r w3) := Lib.hid ((opCe_loc _ _ _ _ _ _ _ _ _ _).1 _ _ HCE.out fun q hq => by subst hq; exact HB3b.out.block _ HGA.out)
      have hbx := HBX.out.below HB3b.out HBX.out.lt
      have d0 := (show _ = some (Value.int .i64 f) from hbx.cell 0)
      have d1 := (show _ = some (Value.int .i64 ir) from hbx.cell 1)
      have c0 := HCE3.out.c0
      have c1 := HCE3.out.c1
      have c2 := HCE3.out.c2
      have c3 : w3.cell? ⟨ga, o + ir * 8 + 3, none⟩ = some (.int .i64 fa) := HCE3.out.c3
      have c4 := HCE3.out.c4
      have c5 : w3.cell? ⟨ga, o + ir * 8 + 5, none⟩ = some (.int .i64 ta) := HCE3.out.c5
      have c6 := HCE3.out.c6
      have c7 := HCE3.out.c7
      have D0 := Lib.hid d0
      have D1 := Lib.hid d1
      have hA1 : IntKind.i64.wrap ((ir : Int) + 1) = (ir : Int) + 1 := by rw [IntKind.wrap_i64]; omega
      have hA2 : (ir : Int) + 1 ≤ (n : Int) := by omega
      have hA0 : (0 : Int) ≤ (ir : Int) + 1 := by omega
      have hA3 : (n : Int) ≤ (q : Int) := by have := HNQ.out; omega
      clear hbx b1 howno hb3
      have hm3 : Mem (onT tg0 gm) ⟨gm, gf, cf, gk, ck, gc, cc, F0, K0, .slice AL nL cL, .slice AD nD cD⟩ s0 w3.drew := HR3.out.m.same (fun _ _ => rfl) (Nat.le_refl _)
      have hsW : s0.W = W := by rw [HS0.out]; exact mSt_W W z ir
      have hbo := bedOk_B (HOPS.out ir HAT.out)
      have hinsq := instead_any (W := W) (z := z) (i := ir) (f := f) hm3 hsW hW1 (HOPS.out ir HAT.out) (by rw [← HX.out.1]; exact HCAN.out) (fun h3 => hbo (.inl (by
        have h := HCAN.out
        rw [HX.out.1, h3, canB3] at h
        simpa using h)))
      obtain ⟨e0, e1, e2, e3, e4, e5, e6, e7⟩ := HX.out
      rw [← e0, ← e1, ← e2, ← e3, ← e4, ← e5, ← e6, ← e7] at hinsq
      have HINS := Lib.hid hinsq
      obtain ⟨K, hK0⟩ : ∃ x, x = insN s0 z ir f := ⟨_, rfl⟩
      rw [← hK0] at HINS
      have HKq := Lib.hid hK0
      have HK2 : Hid (K ≤ 2) := Lib.hid (by rw [hK0]; exact insN_le _ _ _ _)
      have HSW := Lib.hid hsW
      clear e0 e1 e2 e3 e4 e5 e6 e7 hinsq hK0 hm3 hsW hbo
      obtain ⟨AR, hAR⟩ : ∃ x : Option Addr, x = (if q = ir + 1 then some ⟨ga, o, none⟩ else some ⟨ga, o + (ir + 1) * 8, none⟩) := ⟨_, rfl⟩
      have HARq := Lib.hid hAR
      obtain ⟨R, hR⟩ : ∃ x, x = n - (ir + 1) := ⟨_, rfl⟩
      have HRq := Lib.hid hR
      clear hAR hR
      go_wp2_with fail
      refine wp_region_lastL (S := fun w' => w'.cell? ⟨ga, o + ir * 8, none⟩ = some (.int .i64 k) ∧ w'.cell? ⟨ga, o + ir * 8 + 1, none⟩ = some (.int .i64 d) ∧ w'.cell? ⟨ga, o + ir * 8 + 2, none⟩ = some (.int .i64 fb) ∧ w'.cell? ⟨ga, o + ir * 8 + 3, none⟩ = some (.int .i64 fa) ∧ w'.cell? ⟨ga, o + ir * 8 + 4, none⟩ = some (.int .i64 tb) ∧ w'.cell? ⟨ga, o + ir * 8 + 5, none⟩ = some (.int .i64 ta) ∧ w'.cell? ⟨ga, o + ir * 8 + 6, none⟩ = some (.int .i64 c) ∧ w'.cell? ⟨ga, o + ir * 8 + 7, none⟩ = some (.int .i64 r) ∧ w'.cell? ⟨w.heap.size, 0, none⟩ = some (.int .i64 f) ∧ w'.cell? ⟨w.heap.size, 1, none⟩ = some (.int .i64 ir)) _ (by simp) (by kernel_rfl) (by kernel_rfl) ⟨c0, c1, c2, c3, c4, c5, c6, c7, d0, d1⟩ (fun hHeldR => ?_)
      simp only [List.dropLast, List.getLast_cons_cons, List.getLast_singleton, List.length_cons, List.length_nil]
      refine wpAnyH_take (i := 0) (v := ?_) rfl (by kernel_rfl) (by kernel_rfl) (by kernel_rfl) (fun _ _ _ h => h) (Or.inl ⟨by rfl, ?_⟩) hHeldR ?_
      rotate_left
      · (intro w0 hSw; (try dsimp only at hSw); go_simp <;> with_reducible rfl)
      simp only [List.getElem_toArray, List.getElem_cons_succ, List.getElem_cons_zero, Act.put, List.setIfInBounds_toArray, List.set_cons_zero, List.set_cons_succ]
      refine wpAnyH_take (i := 1) (v := ?_) rfl (by kernel_rfl) (by kernel_rfl) (by kernel_rfl) (fun _ _ _ h => h) (Or.inl ⟨by rfl, ?_⟩) hHeldR ?_
      rotate_left
      · (intro w0 hSw; (try dsimp only at hSw); go_simp <;> with_reducible rfl)
      simp only [List.getElem_toArray, List.getElem_cons_succ, List.getElem_cons_zero, Act.put, List.setIfInBounds_toArray, List.set_cons_zero, List.set_cons_succ]
      refine wpAnyH_take (i := 2) (v := ?_) rfl (by kernel_rfl) (by kernel_rfl) (by kernel_rfl) (fun _ _ _ h => h) (Or.inl ⟨by rfl, ?_⟩) hHeldR ?_
      rotate_left
      · (intro w0 hSw; (try dsimp only at hSw); go_simp <;> with_reducible rfl)
      simp only [List.getElem_toArray, List.getElem_cons_succ, List.getElem_cons_zero, Act.put, List.setIfInBounds_toArray, List.set_cons_zero, List.set_cons_succ]
      refine wpAnyH_take (i := 3) (v := ?_) rfl (by kernel_rfl) (by kernel_rfl) (by kernel_rfl) (fun _ _ _ h => h) (Or.inl ⟨by rfl, ?_⟩) hHeldR ?_
      rotate_left
      · (intro w0 hSw; (try dsimp only at hSw); go_simp <;> with_reducible rfl)
      simp only [List.getElem_toArray, List.getElem_cons_succ, List.getElem_cons_zero, Act.put, List.setIfInBounds_toArray, List.set_cons_zero, List.set_cons_succ]
      refine wpAnyH_take (i := 4) (v := ?_) rfl (by kernel_rfl) (by kernel_rfl) (by kernel_rfl) (fun _ _ _ h => h) (Or.inl ⟨by rfl, ?_⟩) hHeldR ?_
      rotate_left
      · (intro w0 hSw; (try dsimp only at hSw); go_simp <;> with_reducible rfl)
      simp only [List.getElem_toArray, List.getElem_cons_succ, List.getElem_cons_zero, Act.put, List.setIfInBounds_toArray, List.set_cons_zero, List.set_cons_succ]
      refine wpAnyH_take (i := 5) (v := ?_) rfl (by kernel_rfl) (by kernel_rfl) (by kernel_rfl) (fun _ _ _ h => h) (Or.inl ⟨by rfl, ?_⟩) hHeldR ?_
      rotate_left
      · (intro w0 hSw; (try dsimp only at hSw); go_simp <;> with_reducible rfl)
      simp only [List.getElem_toArray, List.getElem_cons_succ, List.getElem_cons_zero, Act.put, List.setIfInBounds_toArray, List.set_cons_zero, List.set_cons_succ]
      refine wpAnyH_take (i := 6) (v := ?_) rfl (by kernel_rfl) (by kernel_rfl) (by kernel_rfl) (fun _ _ _ h => h) (Or.inl ⟨by rfl, ?_⟩) hHeldR ?_
      rotate_left
      · (intro w0 hSw; (try dsimp only at hSw); go_simp <;> with_reducible rfl)
      simp only [List.getElem_toArray, List.getElem_cons_succ, List.getElem_cons_zero, Act.put, List.setIfInBounds_toArray, List.set_cons_zero, List.set_cons_succ]
      refine wpAnyH_take (i := 8) (v := ?_) rfl (by kernel_rfl) (by kernel_rfl) (by kernel_rfl) (fun _ _ _ h => h) (Or.inl ⟨by rfl, ?_⟩) hHeldR ?_
      rotate_left
      · (intro w0 hSw; (try dsimp only at hSw); go_simp <;> with_reducible rfl)
      simp only [List.getElem_toArray, List.getElem_cons_succ, List.getElem_cons_zero, Act.put, List.setIfInBounds_toArray, List.set_cons_zero, List.set_cons_succ]
      refine wpAnyH_take (i := 9) (v := ?_) rfl (by kernel_rfl) (by kernel_rfl) (by kernel_rfl) (fun _ _ _ h => h) (Or.inl ⟨by rfl, ?_⟩) hHeldR ?_
      rotate_left
      · (intro w0 hSw; (try dsimp only at hSw); go_simp <;> with_reducible rfl)
      simp only [List.getElem_toArray, List.getElem_cons_succ, List.getElem_cons_zero, Act.put, List.setIfInBounds_toArray, List.set_cons_zero, List.set_cons_succ]
      refine wpAnyH_take (i := 10) (v := ?_) rfl (by kernel_rfl) (by kernel_rfl) (by kernel_rfl) (fun _ _ _ h => h) (Or.inl ⟨by rfl, ?_⟩) hHeldR ?_
      rotate_left
      · (intro w0 hSw; (try dsimp only at hSw); go_simp <;> with_reducible rfl)
      simp only [List.getElem_toArray, List.getElem_cons_succ, List.getElem_cons_zero, Act.put, List.setIfInBounds_toArray, List.set_cons_zero, List.set_cons_succ]
      refine wpAnyH_take (i := 11) (v := ?_) rfl (by kernel_rfl) (by kernel_rfl) (by kernel_rfl) (fun _ _ _ h => h) (Or.inl ⟨by rfl, ?_⟩) hHeldR ?_
      rotate_left
      · (intro w0 hSw; (try dsimp only at hSw); go_simp <;> with_reducible rfl)
      simp only [List.getElem_toArray, List.getElem_cons_succ, List.getElem_cons_zero, Act.put, List.setIfInBounds_toArray, List.set_cons_zero, List.set_cons_succ]
      refine wpAnyH_take (i := 12) (v := .slice AR R (q - (ir + 1))) rfl (by kernel_rfl) (by kernel_rfl) (by kernel_rfl) (fun _ _ _ h => h) (Or.inl ⟨by rfl, ?_⟩) hHeldR ?_
      · intro w0 hSw
        (try dsimp only at hSw)
        rw [HARq.out, HRq.out]
        go_simp <;> with_reducible rfl
      simp only [List.getElem_toArray, List.getElem_cons_succ, List.getElem_cons_zero, Act.put, List.setIfInBounds_toArray, List.set_cons_zero, List.set_cons_succ]
      refine wpAnyH_ready (rs := [7]) (by kernel_rfl) (by simp) ?_
      refine AllReadyH.cons rfl (fun K1 hK => ?_) AllReadyH.nil
      simp only [List.getElem_toArray, List.getElem_cons_succ, List.getElem_cons_zero]
      go_simp
      refine HINS.out.mono ?_
      rintro e w4 ⟨vi, rfl, howni, hbi⟩
      obtain ⟨ALi, ci, rfl⟩ := own_form howni
      have HOI : Hid (w4.ownsRow w3.heap.size 58 8 (.slice ALi K ci) K (ints (insL s0 z ir f))) := Lib.hid howni
      have HBI : Hid (Below w3.heap.size w3 w4) := Lib.hid (((Below.refl w3.heap.size w3).drew).trans hbi)
      have HCE4 : Hid (∀ w', Below w3.heap.size w3 w' → OpCe ga (o + ir * 8) k d fb fa tb ta c r w' ∧ w'.cell? ⟨w.heap.size, 0, none⟩ = some (.int .i64 f) ∧ w'.cell? ⟨w.heap.size, 1, none⟩ = some (.int .i64 ir)) := Lib.hid fun w' hb => ⟨(opCe_loc _ _ _ _ _ _ _ _ _ _).1 _ _ HCE3.out fun q hq => by subst hq; exact hb.block _ (World.block_lt_of_cell? _ _ HCE3.out.c0), ((bcell hb).1 _ 0 (World.block_lt_of_cell? _ _ D0.out)).trans D0.out, ((bcell hb).1 _ 1 (World.block_lt_of_cell? _ _ D1.out)).trans D1.out⟩
      have HSF : Hid (∀ w', Below w3.heap.size w3 w' → w'.cell? ⟨ga, o + ir * 8, none⟩ = some (.int .i64 k) ∧ w'.cell? ⟨ga, o + ir * 8 + 1, none⟩ = some (.int .i64 d) ∧ w'.cell? ⟨ga, o + ir * 8 + 2, none⟩ = some (.int .i64 fb) ∧ w'.cell? ⟨ga, o + ir * 8 + 3, none⟩ = some (.int .i64 fa) ∧ w'.cell? ⟨ga, o + ir * 8 + 4, none⟩ = some (.int .i64 tb) ∧ w'.cell? ⟨ga, o + ir * 8 + 5, none⟩ = some (.int .i64 ta) ∧ w'.cell? ⟨ga, o + ir * 8 + 6, none⟩ = some (.int .i64 c) ∧ w'.cell? ⟨ga, o + ir * 8 + 7, none⟩ = some (.int .i64 r) ∧ w'.cell? ⟨w.heap.size, 0, none⟩ = some (.int .i64 f) ∧ w'.cell? ⟨w.heap.size, 1, none⟩ = some (.int .i64 ir)) := Lib.hid fun w' hb => by
        obtain ⟨h1, h2, h3⟩ := HCE4.out w' hb
        exact ⟨h1.c0, h1.c1, h1.c2, h1.c3, h1.c4, h1.c5, h1.c6, h1.c7, h2, h3⟩
      clear howni hbi c0 c1 c2 c3 c4 c5 c6 c7 d0 d1
      refine hK.out _ _ (HSF.out _ HBI.out) (fun hHeld1 => ?_)
      clear hK K1 hHeldR
      refine wpAnyH_ready (rs := [13]) (by kernel_rfl) (by simp) ?_
      refine AllReadyH.cons rfl (fun K2 hK => ?_) AllReadyH.nil
      simp only [List.getElem_toArray, List.getElem_cons_succ, List.getElem_cons_zero]
      go_simp
      obtain ⟨w5, hw5⟩ : ∃ x, x = w4.alloc (.cells #[.slice ALi K ci, .slice AR R (q - (ir + 1))] 26) := ⟨_, rfl⟩
      rw [← hw5]
      have hb5 : Below w4.heap.size w4 w5 := hw5 ▸ (Below.refl _ _).alloc (Nat.le_refl _) _
      have HB5 : Hid (Below w3.heap.size w3 w5) := Lib.hid (HBI.out.trans (hb5.mono HBI.out.size))
      have HP5 : Hid (Blk w5 w4.heap.size 26 #[.slice ALi K ci, .slice AR R (q - (ir + 1))]) := Lib.hid (hw5 ▸ Blk.at_ _ _ _ rfl)
      have HRD1 : Hid (Rd w5 ALi (K * 8) (fun t => .int .i64 (insF s0 z ir f t))) := Lib.hid ((own_rd (g := 0) HOI.out fun t _ => rfl).below hb5)
      have HRD2 : Hid (Rd w5 AR (R * 8) (fun t => .int .i64 (z ((ir + 1) * 8 + t)))) := Lib.hid fun h0 => by
        have hq1 : ¬ q = ir + 1 := by have := HNQ.out; have := HRq.out; omega
        have hb : Below Wb.heap.size Wb w5 := HB3b.out.trans (HB5.out.mono HB3b.out.size)
        refine ⟨ga, o + (ir + 1) * 8, by rw [HARq.out, if_neg hq1], Nat.lt_of_lt_of_le HGA.out hb.size, fun t ht => ?_⟩
        rw [Nat.add_assoc]
        exact (HROW.out.below HGA.out hb) ((ir + 1) * 8 + t) (by have := HRq.out; omega)
      clear hb5 hw5
      refine hK.out _ _ (HSF.out _ HB5.out) (fun hHeld2 => ?_)
      clear hK K2 hHeld1
      refine wpAnyH_ready (rs := [14]) (by kernel_rfl) (by simp) ?_
      refine AllReadyH.cons rfl (fun K3 hK => ?_) AllReadyH.nil
      simp only [List.getElem_toArray, List.getElem_cons_succ, List.getElem_cons_zero]
      go_simp
      refine (concatOp2_any w4.heap.size 2 ALi AR K R ci (q - (ir + 1)) (insF s0 z ir f) (fun t => z ((ir + 1) * 8 + t)) w5 (HP5.out.cell 0) (HP5.out.cell 1) HRD1.out HRD2.out (by have := HK2.out; omega) (by have := HRq.out; omega)).mono ?_
      rintro e w6 ⟨vr, rfl, hownr, hb6⟩
      obtain ⟨ALr, cr, rfl⟩ := own_form hownr
      have HB6 : Hid (Below w3.heap.size w3 w6) := Lib.hid (HB5.out.trans (hb6.mono HB5.out.size))
      have HOR : Hid (w6.ownsRow w5.heap.size 58 8 (.slice ALr (K + R) cr) (K + R) (ints (restL s0 z ir f R))) := Lib.hid (by unfold restL; rw [← HKq.out]; exact hownr)
      clear hb6 hownr
      refine hK.out _ _ (HSF.out _ HB6.out) (fun hHeld3 => ?_)
      clear hK K3 hHeld2
      refine wpAnyH_done (by kernel_rfl) ?_ _
      refine LastPost.of ?_
      go_simp
      clear hHeld3
      obtain ⟨N, hN⟩ : ∃ x, x = K + R := ⟨_, rfl⟩
      rw [← hN]
      rw [← hN] at HOR
      have HNq := Lib.hid hN
      have HN15 : Hid (N ≤ 1502) := Lib.hid (by have := HK2.out; have := HRq.out; omega)
      obtain ⟨y, hy⟩ : ∃ x, x = restY s0 z ir f R := ⟨_, rfl⟩
      have HYq := Lib.hid hy
      have HY : Hid (∀ j, j < N → opW W y j = true) := Lib.hid fun j hj => by
        rw [hy, HRq.out]
        exact rest_ok hW1 HOPS.out HAT.out (by rw [← HX.out.1]; exact HCAN.out) (by rw [← HKq.out, ← HRq.out, ← hN]; exact hj)
      obtain ⟨p0, hp0⟩ : ∃ x, x = gAt W z f ir ir := ⟨_, rfl⟩
      have HP0q := Lib.hid hp0
      have HPe : Hid (p0 = (s0, opsL z ir)) := Lib.hid (hp0.trans HP0.out)
      have HYO : Hid (YOk W (8 * ir) (2 * ir) p0) := Lib.hid (by rw [hp0]; exact gAt_ok hW1 hW2 ir (fun j hj => HOPS.out j (by have := HAT.out; omega)) fun h => absurd h (Nat.lt_irrefl _))
      have HEND : Hid (ySeq y p0 N = gAt W z f ir n) := Lib.hid (by
        have h := rest_run (W := W) (z := z) (f := f) HAT.out (n - (ir + 1)) (Nat.le_refl _)
        rw [← hp0, HPe.out, ← HKq.out, ← HRq.out, ← hy, ← HPe.out, ← hN] at h
        rw [h]
        congr 1
        have := HAT.out
        have := HRq.out
        omega)
      have HIR : Hid (Runs w1 (onT tg0 gm) ⟨gm, gf, cf, gk, ck, gc, cc, F0, K0, .slice AL nL cL, .slice AD nD cD⟩ (ySeq y p0 0).1 w6) := Lib.hid (by show Runs _ _ _ p0.1 _; rw [HPe.out]; exact HR3.out.below HB6.out)
      have HIO : Hid (w6.ownsRow w1.heap.size 58 8 (.slice Ao ir co) ir (ints (ySeq y p0 0).2)) := Lib.hid (by show World.ownsRow _ _ _ _ _ _ (ints p0.2); rw [HPe.out]; exact own_below HOWN3.out HB6.out)
      have HIL : Hid ((ySeq y p0 0).2.length = 8 * ir) := Lib.hid (by show p0.2.length = _; rw [HPe.out]; exact opsL_len z ir)
      have HIU : Hid (∀ b, (Value.slice Ao ir co).ownBlock = some b → onT tg0 gm b = 0) := Lib.hid fun b hb => Decidable.byContradiction fun hn => by have h1 := H0.out.m.lt b hn; have h2 := HFRo.out b hb; omega
      have HID : Hid (Rd w6 ALr (N * 8) (fun t => .int .i64 (y t))) := Lib.hid (own_rd (g := 0) HOR.out fun t _ => by rw [hy]; rfl)
      have HIN : Hid (∀ ad, ALr = some ad → onT tg0 gm ad.block = 0 ∧ (Value.slice Ao ir co).ownBlock ≠ some ad.block) := Lib.hid fun ad he => by
        subst he
        have hlo : w5.heap.size ≤ ad.block := by
          rcases HOR.out.2 with ⟨e, _⟩ | ⟨y', cap, cur, e, hy', _⟩
          · cases e
          · injection e with e1 e2 e3
            injection e1 with e1
            subst e1
            exact hy'
        have h1 := HB5.out.size
        exact ⟨Decidable.byContradiction fun hn => by have := HR3.out.m.lt _ hn; omega, fun e => by have := (HOWN3.out.lt _ e).2; omega⟩
      clear hN hy hp0 hA1 hA2 hA0 hA3 HINS HSF HCE4
      go_wp2_with fail
      go_loopw [11, 66] (fun ov kv wx => ∃ (j : Nat) (tg : Nat → Nat) (a : MAdr) (m : Nat) (L : List Int), j ≤ N ∧ kv = .int .i64 j ∧ a.g = gm ∧ Runs w1 tg a (ySeq y p0 j).1 wx ∧ L = (ySeq y p0 j).2 ∧ L.length = 8 * m ∧ wx.ownsRow w1.heap.size 58 8 ov m (ints L) ∧ (∀ b, ov.ownBlock = some b → tg b = 0) ∧ Rd wx ALr (N * 8) (fun t => .int .i64 (y t)) ∧ (∀ ad, ALr = some ad → tg ad.block = 0 ∧ ov.ownBlock ≠ some ad.block)) (fun _ kv _ => N - (intOf kv).toNat)
      case atStart => exact ⟨0, _, _, ir, _, Nat.zero_le _, rfl, rfl, HIR.out, rfl, HIL.out, HIO.out, HIU.out, HID.out, HIN.out⟩
      case round =>
        obtain ⟨j, tg, a, m, L, hjK, rfl, hg, hr, hL, hlen, hown, hut, hrd, hna⟩ := hrel
        have HG := Lib.hid hg
        have HR := Lib.hid hr
        have HL := Lib.hid hL
        have HLEN := Lib.hid hlen
        have HOWN := Lib.hid hown
        have HUT := Lib.hid hut
        have HRD := Lib.hid hrd
        have HNA := Lib.hid hna
        have hyo := ySeq_ok hW1 HYO.out j fun q hq => HY.out q (by omega)
        obtain ⟨s, hsv⟩ : ∃ s, s = (ySeq y p0 j).1 := ⟨_, rfl⟩
        have hsW := hyo.w
        have hs := hyo.o
        have hmL := hyo.l
        rw [← hL, hlen] at hmL
        have hm3 : m ≤ 6000 := by obtain ⟨k', h1, h2⟩ := hmL; have := HN15.out; have := HAT.out; omega
        have hn15 := HN15.out
        rw [← hsv] at HR hsW hs
        have HSV := Lib.hid hsv
        have HSWj := Lib.hid hsW
        have HS := Lib.hid hs
        clear hg hr hL hlen hown hut hrd hna hyo hsv hsW hs hmL
        by_cases hlt : j < N
        · have HLT := Lib.hid hlt
          obtain ⟨gl, ol, hAL, hgl, hrl⟩ := HRD.out (by omega)
          have hce := opCe_of hrl hlt
          have hp := opOk_at hW1 (HY.out j hlt)
          rw [← HSWj.out] at hp
          have hbd := opBeds_B (HY.out j hlt)
          have hbo := bedOk_B (HY.out j hlt)
          have HGL : Hid (gl < wr.heap.size) := Lib.hid hgl
          have HROWl := Lib.hid hrl
          have HGN : Hid (tg gl = 0) := Lib.hid (HNA.out _ hAL).1
          have HGO := Lib.hid (HNA.out _ hAL).2
          have HALq := Lib.hid hAL
          obtain ⟨k, hx0⟩ : ∃ x, x = y (j * 8) := ⟨_, rfl⟩
          obtain ⟨d, hx1⟩ : ∃ x, x = y (j * 8 + 1) := ⟨_, rfl⟩
          obtain ⟨fb, hx2⟩ : ∃ x, x = y (j * 8 + 2) := ⟨_, rfl⟩
          obtain ⟨fa, hx3⟩ : ∃ x, x = y (j * 8 + 3) := ⟨_, rfl⟩
          obtain ⟨tb, hx4⟩ : ∃ x, x = y (j * 8 + 4) := ⟨_, rfl⟩
          obtain ⟨ta, hx5⟩ : ∃ x, x = y (j * 8 + 5) := ⟨_, rfl⟩
          obtain ⟨c, hx6⟩ : ∃ x, x = y (j * 8 + 6) := ⟨_, rfl⟩
          obtain ⟨r, hx7⟩ : ∃ x, x = y (j * 8 + 7) := ⟨_, rfl⟩
          rw [← hx0, ← hx1, ← hx2, ← hx3, ← hx4, ← hx5, ← hx6, ← hx7] at hce hp
          rw [← hx0, ← hx2, ← hx4] at hbd
          rw [← hx0, ← hx2] at hbo
          have HXj : Hid (k = y (j * 8) ∧ d = y (j * 8 + 1) ∧ fb = y (j * 8 + 2) ∧ fa = y (j * 8 + 3) ∧ tb = y (j * 8 + 4) ∧ ta = y (j * 8 + 5) ∧ c = y (j * 8 + 6) ∧ r = y (j * 8 + 7)) := Lib.hid ⟨hx0, hx1, hx2, hx3, hx4, hx5, hx6, hx7⟩
          have HP := Lib.hid hp
          have HBD := Lib.hid hbd
          have HBO := Lib.hid hbo
          have o0 := hce.c0
          have o1 := hce.c1
          have o2 := hce.c2
          have o3 : wr.cell? ⟨gl, ol + j * 8 + 3, none⟩ = some (.int .i64 fa) := hce.c3
          have o4 := hce.c4
          have o5 : wr.cell? ⟨gl, ol + j * 8 + 5, none⟩ = some (.int .i64 ta) := hce.c5
          have o6 := hce.c6
          have o7 := hce.c7
          clear hx0 hx1 hx2 hx3 hx4 hx5 hx6 hx7 hce hp hrl hgl hAL hbd hbo
          have hALg := HALq.out
          subst hALg
          go_upto_region 9 with (fail)
          obtain ⟨v1, hv1⟩ : ∃ x, x = wr.alloc (.cells (opC k d fb fa tb ta c r) 58) := ⟨_, rfl⟩
          rw [← hv1]
          obtain ⟨bx, hbx⟩ : ∃ x, x = wr.heap.size := ⟨_, rfl⟩
          rw [← hbx]
          have hb1 : Below wr.heap.size wr v1 := hv1 ▸ (Below.refl _ _).alloc (Nat.le_refl _) _
          have HX1 : Hid (Blk v1 bx 58 (opC k d fb fa tb ta c r)) := Lib.hid (hv1 ▸ Blk.at_ _ _ _ hbx)
          have HBV := Lib.hid hb1
          have HR1 := Lib.hid (HR.out.below hb1)
          have HBXq := Lib.hid hbx
          have HOWN1 := Lib.hid (own_below HOWN.out hb1)
          have HTB : Hid (tg bx = 0) := Lib.hid (Decidable.byContradiction fun hn => by have := HR.out.m.lt bx hn; omega)
          have HOB : Hid (∀ b, u11.ownBlock = some b → b ≠ bx) := Lib.hid fun b hb => by have := (HOWN.out.lt b hb).2; omega
          have x0 := (show _ = some (Value.int .i64 k) from HX1.out.cell 0)
          have x1 := (show _ = some (Value.int .i64 d) from HX1.out.cell 1)
          have x2 := (show _ = some (Value.int .i64 fb) from HX1.out.cell 2)
          have x3 := (show _ = some (Value.int .i64 fa) from HX1.out.cell 3)
          have x4 := (show _ = some (Value.int .i64 tb) from HX1.out.cell 4)
          have x5 := (show _ = some (Value.int .i64 ta) from HX1.out.cell 5)
          have x6 := (show _ = some (Value.int .i64 c) from HX1.out.cell 6)
          have x7 := (show _ = some (Value.int .i64 r) from HX1.out.cell 7)
          have hex := execute_any (D := 8 * 1500 + 8 * 1502) (k := k) (d := d) (fb := fb) (fa := fa) (tb := tb) (ta := ta) (c := c) (r := r) HR1.out.m { HS.out with db := Nat.le_trans HS.out.db (by have := HN15.out; have := HAT.out; omega) } (by omega) HP.out HBD.out HBO.out
          rw [HG.out] at hex
          obtain ⟨code, hcode⟩ : ∃ y, y = doCode s k d fb fa tb ta (c - 1).toNat := ⟨_, rfl⟩
          rw [← hcode] at hex
          have HKC : Hid (kC (ySeq y p0 j).1 y j = code) := Lib.hid (by
            obtain ⟨e0, e1, e2, e3, e4, e5, e6, e7⟩ := HXj.out
            unfold kC
            rw [← HSV.out, ← e0, ← e1, ← e2, ← e3, ← e4, ← e5, ← e6]
            exact hcode.symm)
          have HEX := Lib.hid hex
          clear hex hcode hv1 hbx hb1 o0 o1 o2 o3 o4 o5 o6 o7
          go_wp2_with fail
          refine HEX.out.mono ?_
          rintro e w7 ⟨rfl, hf7, hm7⟩
          by_cases hc0 : code = 0
          · obtain ⟨tg7, a7, hg7, hr7, hk7⟩ := HR1.out.step (by rw [HG.out]; exact hm7 hc0)
            subst hc0
            have HG7 : Hid (a7.g = gm) := Lib.hid (hg7.trans HG.out)
            obtain ⟨s', hs'⟩ : ∃ x, x = doSt s k d fb fa tb ta r (c - 1).toNat := ⟨_, rfl⟩
            rw [← hs'] at hr7
            have HNXT : Hid (ySeq y p0 (j + 1) = (s', L ++ [k, d, fb, fa, tb, ta, c, r])) := Lib.hid (by
              obtain ⟨e0, e1, e2, e3, e4, e5, e6, e7⟩ := HXj.out
              show yStep (ySeq y p0 j) y j = _
              unfold yStep
              rw [if_pos HKC.out, ← HL.out, hs']
              unfold kS opL
              rw [← HSV.out, ← e0, ← e1, ← e2, ← e3, ← e4, ← e5, ← e6, ← e7])
            have HR7 := Lib.hid hr7
            have HK7 := Lib.hid hk7
            have HOWN7 : Hid (w7.ownsRow w1.heap.size 58 8 u11 m (ints L)) := Lib.hid (own_blk HOWN1.out fun b hb => (HK7.out b (HOWN1.out.lt b hb).2 (HUT.out b hb)).2)
            have HX7 : Hid (Blk w7 bx 58 (opC k d fb fa tb ta c r)) := Lib.hid ((HK7.out bx HX1.out.lt HTB.out).2.trans HX1.out)
            have HRD7 : Hid (RowR w7 gl ol (N * 8) (fun t => .int .i64 (y t))) := Lib.hid ((HROWl.out.below HGL.out HBV.out).blk (HK7.out gl (Nat.lt_of_lt_of_le HGL.out HBV.out.size) HGN.out).2)
            have HUT7 : Hid (∀ b, u11.ownBlock = some b → tg7 b = 0) := Lib.hid fun b hb => (HK7.out b (HOWN1.out.lt b hb).2 (HUT.out b hb)).1
            have HGN7 : Hid (tg7 gl = 0) := Lib.hid (HK7.out gl (Nat.lt_of_lt_of_le HGL.out HBV.out.size) HGN.out).1
            have HLT7 : Hid (gl < w7.heap.size) := Lib.hid (World.block_lt_of_cell? w7 _ (HRD7.out 0 (by omega)))
            clear x0 x1 x2 x3 x4 x5 x6 x7 hf7 hm7 hg7 hr7 hk7 hs'
            have x0 := (show _ = some (Value.int .i64 k) from HX7.out.cell 0)
            have x1 := (show _ = some (Value.int .i64 d) from HX7.out.cell 1)
            have x2 := (show _ = some (Value.int .i64 fb) from HX7.out.cell 2)
            have x3 := (show _ = some (Value.int .i64 fa) from HX7.out.cell 3)
            have x4 := (show _ = some (Value.int .i64 tb) from HX7.out.cell 4)
            have x5 := (show _ = some (Value.int .i64 ta) from HX7.out.cell 5)
            have x6 := (show _ = some (Value.int .i64 c) from HX7.out.cell 6)
            have x7 := (show _ = some (Value.int .i64 r) from HX7.out.cell 7)
            have HZW : Hid (w1.heap.size ≤ w7.heap.size) := Lib.hid HR7.out.b.size
            obtain ⟨Aq, cq, hov⟩ := own_form HOWN7.out
            subst hov
            go_wp2_with (at_builtin; go_must (refine wpList_appGa w7 rfl (.tmp 73) (.tmp 75) _ rfl w1.heap.size 58 i0 _ 8 64 Try.underlying26 hi iz is ib rfl (by omega) (.slice Aq m cq) m _ (by rfl) HOWN7.out _ 1 1 (ints [k, d, fb, fa, tb, ta, c, r]) rfl rfl (ints_one _) (by unfold maxLen; omega) (by omega) HZW.out ?_); intro v' w8 hown8 hfr8 hat8; rw [← ints_app] at hown8; have HOWN8 := Lib.hid hown8; have HFR8 := Lib.hid hfr8; have HAT8 := Lib.hid hat8; clear hown8 hfr8 hat8)
            have HU8 : Hid (∀ b, v'.ownBlock = some b → tg7 b = 0 ∧ b ≠ gl) := Lib.hid fun b hb => by
              rcases HAT8.out with h | h
              · exact ⟨HUT7.out b (h.symm.trans hb), fun e => HGO.out (by rw [← e]; exact h.symm.trans hb)⟩
              · have h1 : b = w7.heap.size + 1 := Option.some.inj (hb.symm.trans h)
                exact ⟨Decidable.byContradiction fun hn => by have := HR7.out.m.lt b hn; omega, by have := HLT7.out; omega⟩
            have HR8 : Hid (Runs w1 tg7 a7 s' w8) := Lib.hid ⟨HR7.out.m.same (fun b hb => HFR8.out.block b (HR7.out.m.lt b hb) (fun e => hb (HUT7.out b e))) HFR8.out.size, HR7.out.b.trans (HFR8.out.below HZW.out fun b hb => (HOWN7.out.lt b hb).1), HR7.out.lo⟩
            have HRD8 : Hid (Rd w8 (some ⟨gl, ol, none⟩) (N * 8) (fun t => .int .i64 (y t))) := Lib.hid fun _ => ⟨gl, ol, rfl, Nat.lt_of_lt_of_le HLT7.out HFR8.out.size, HRD7.out.blk (HFR8.out.block gl HLT7.out HGO.out)⟩
            clear x0 x1 x2 x3 x4 x5 x6 x7
            go_wp2_with fail
            go_roundw
            case rel => exact ⟨j + 1, tg7, a7, m + 1, L ++ [k, d, fb, fa, tb, ta, c, r], HLT.out, by go_num, HG7.out, by rw [HNXT.out]; exact HR8.out, by rw [HNXT.out], by have := HLEN.out; simp; omega, HOWN8.out, fun b hb => (HU8.out b hb).1, HRD8.out, fun ad he => by obtain rfl := Option.some.inj he; exact ⟨HGN7.out, fun e => (HU8.out _ e).2 rfl⟩⟩
            case measure => simp [intOf] <;> omega
          · have hc1 : (code == 0) = false := by simpa using hc0
            have HNXT : Hid (ySeq y p0 (j + 1) = ySeq y p0 j) := Lib.hid (by
              show yStep (ySeq y p0 j) y j = _
              unfold yStep
              rw [if_neg (by rw [HKC.out]; exact hc0)])
            have hb7 := hf7 hc0
            have HR7 := Lib.hid (HR1.out.below hb7)
            have HOWN7 := Lib.hid (own_below HOWN1.out hb7)
            have HRD7 : Hid (Rd w7 (some ⟨gl, ol, none⟩) (N * 8) (fun t => .int .i64 (y t))) := Lib.hid ((HRD.out.below HBV.out).below hb7)
            clear hf7 hm7 hc0 hb7 x0 x1 x2 x3 x4 x5 x6 x7
            go_wp2_with fail
            go_roundw
            case rel => exact ⟨j + 1, tg, a, m, L, HLT.out, by go_num, HG.out, by rw [HNXT.out, ← HSV.out]; exact HR7.out, by rw [HNXT.out]; exact HL.out, HLEN.out, HOWN7.out, HUT.out, HRD7.out, fun ad he => HNA.out ad he⟩
            case measure => simp [intOf] <;> omega
        · obtain rfl : j = N := by omega
          have HBF : Hid (Below w.heap.size w wr) := Lib.hid (HB0.out.trans ((HB1.out.trans (HR.out.b.mono HB1.out.size)).mono HB0.out.size))
          have HOKT : Hid (fyOk n z f (ir : Int) = true) := Lib.hid (HOKq.out.trans HCAN.out)
          have HLQ' : Hid (L = (gAt (W : Int).toNat z f (ir : Int).toNat n).2) := Lib.hid (by rw [Int.toNat_natCast, Int.toNat_natCast, ← HEND.out]; exact HL.out)
          obtain ⟨Aq, cq, hov⟩ := own_form HOWN.out
          subst hov
          have HOWNF := Lib.hid (own_base HOWN.out (Nat.le_trans HB0.out.size HB1.out.size))
          by_cases hm15 : 1500 < m
          · have hmI : (1500 : Int) < (m : Int) := by omega
            have HM := Lib.hid hm15
            clear hm15
            go_wp2_with fail
            refine bodyPost_ret (v := .tuple #[.slice none 0 0, .int .i64 5]) (by simp [results, Try.results54, go_sem]) rfl ?_
            exact FyP.full HC.out HOKT.out HLQ'.out HLEN.out HM.out rfl HBF.out
          · have hmI : ¬ (1500 : Int) < (m : Int) := by omega
            have HM : Hid (m ≤ 1500) := Lib.hid (by omega)
            clear hm15
            go_wp2_with fail
            refine bodyPost_ret (v := .tuple #[.slice Aq m cq, .int .i64 0]) (by simp [results, Try.results54, go_sem]) rfl ?_
            exact FyP.ok HC.out HOKT.out HLQ'.out HLEN.out HM.out rfl HOWNF.out HBF.out
end
section
variable (W : Int) (A : Option Addr) (n q : Nat) (z : Nat → Int) (f x : Int) (w : World)
set_option maxHeartbeats 4000000 in
theorem implFaultyOps_any (ha : Rd w A (n * 8) (fun j => .int .i64 (z j))) (hn : n ≤ 1048576) (hq : n ≤ q) : Calls Try.prog 35 #[.int .i64 W, .slice A n q, .agg #[.int .i64 f, .int .i64 x]] w (FyP w W z n f x) := by
  obtain ⟨Wb, hWb⟩ : ∃ x', x' = w.alloc (.cells #[.int .i64 f, .int .i64 x] 52) := ⟨_, rfl⟩
  have HB0 : Hid (Below w.heap.size w Wb) := Lib.hid (hWb ▸ (Below.refl _ _).alloc (Nat.le_refl _) _)
  have HBX : Hid (Blk Wb w.heap.size 52 #[.int .i64 f, .int .i64 x]) := Lib.hid (hWb ▸ Blk.at_ _ _ _ rfl)
  have HWB := Lib.hid hWb
  have HA := Lib.hid (ha.below HB0.out)
  have hr := runCode_any W A n q z Wb HA.out hn
  clear ha hWb
  by_cases hc : codeOf W z n = 0
  · obtain ⟨W, rfl, hW1, hW2, hn15, hops, hok⟩ := codeOf_ok hc
    rw [hc] at hr
    have HC := Lib.hid hc
    have HR := Lib.hid hr
    have HOPS := Lib.hid hops
    have HOK := Lib.hid hok
    clear hc hr hops hok
    go_enter Try.func35, Try.ntmps35
    go_upto_region 1 with (fail)
    rw [← HWB.out]
    go_wp2_with fail
    refine HR.out.mono ?_
    rintro e w1 ⟨rfl, hb1⟩
    have hbx := HBX.out.below hb1 HBX.out.lt
    have b0 := (show _ = some (Value.int .i64 f) from hbx.cell 0)
    have b1 := (show _ = some (Value.int .i64 x) from hbx.cell 1)
    have HB1 := Lib.hid hb1
    clear hb1 hbx
    go_wp2_with fail
    refine (faultyOps_any W A n q z f x w1 (HA.out.below HB1.out) hW1 hW2 hn15 hq HOPS.out HOK.out HC.out).mono ?_
    rintro e w2 ⟨A2, c2, rfl, hp⟩
    have HP := Lib.hid (hp.under (HB0.out.trans (HB1.out.mono HB0.out.size)))
    obtain ⟨N, hN⟩ : ∃ y, y = fyN (W : Int) z n f x := ⟨_, rfl⟩
    obtain ⟨cd, hcd⟩ : ∃ y, y = fyC (W : Int) z n f x := ⟨_, rfl⟩
    have HN := Lib.hid hN
    have HCD := Lib.hid hcd
    rw [← hN, ← hcd]
    clear hp hN hcd
    go_wp2_with fail
    refine bodyPost_ret (v := .tuple #[.slice A2 N c2, .int .i64 cd]) (by simp [results, Try.results35, go_sem]) rfl ?_
    exact ⟨A2, c2, by rw [HN.out, HCD.out], HP.out⟩
  · obtain ⟨cd, hcd⟩ : ∃ x, x = codeOf W z n := ⟨_, rfl⟩
    have HC := Lib.hid hcd
    rw [← hcd] at hr hc
    have hc1 : (cd == 0) = false := by simpa using hc
    have HC0 := Lib.hid hc
    have HR := Lib.hid hr
    clear hc hr hcd
    go_enter Try.func35, Try.ntmps35
    go_upto_region 1 with (fail)
    rw [← HWB.out]
    go_wp2_with fail
    refine HR.out.mono ?_
    rintro e w1 ⟨rfl, hb1⟩
    have HB1 := Lib.hid (HB0.out.trans (hb1.mono HB0.out.size))
    clear hb1
    go_wp2_with fail
    refine bodyPost_ret (v := .tuple #[.slice none 0 0, .int .i64 cd]) (by simp [results, Try.results35, go_sem]) rfl ?_
    exact FyP.code HC.out.symm HC0.out rfl HB1.out
end
end Go.Proofs.Ytpmfkpehmckgmaa
