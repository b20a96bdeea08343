/- Walks: the operations that are executed with a fault, by the reference. No condition but the bounds. (Printed by wip/ftgen.py.) -/
import Derived.Test.YtpmfkpehmckgmaaMachFs
import Derived.Deep.RegionHeld3
namespace Go.Proofs.Ytpmfkpehmckgmaa
open Go.RowKit
set_option maxRecDepth 20000

def FyL (w : World) (L : List Int) (e : Ending) (w' : World) : Prop := ∃ (v : Value) (m : Nat), e = .returned v ∧ L.length = 8 * m ∧ m ≤ 3000 ∧ w'.ownsRow w.heap.size 58 8 v m (ints L) ∧ Below w.heap.size w w'
theorem yStep_shift (p : Mst × List Int) (z : Nat → Int) (i : Nat) : yStep p (fun t => z (i * 8 + t)) 0 = yStep p z i := by
  have e1 : kC p.1 (fun t => z (i * 8 + t)) 0 = kC p.1 z i := by simp only [kC, Nat.zero_mul, Nat.zero_add, Nat.add_zero]
  have e2 : kS p.1 (fun t => z (i * 8 + t)) 0 = kS p.1 z i := by simp only [kS, Nat.zero_mul, Nat.zero_add, Nat.add_zero]
  have e3 : opL (fun t => z (i * 8 + t)) 0 = opL z i := by simp only [opL, Nat.zero_mul, Nat.zero_add, Nat.add_zero]
  unfold yStep
  rw [e1, e2, e3]
theorem int_at8 (L : List Int) {j : Nat} (hj : j < L.length) : (ints L)[j]? = some (.int .i64 (L.getD j 0)) := by
  unfold ints
  rw [List.getElem?_map, List.getElem?_eq_getElem hj, List.getD_eq_getElem?_getD, List.getElem?_eq_getElem hj]
  rfl
theorem own_rd {w : World} {B m g c : Nat} {A : Option Addr} {L : List Int} {y : Nat → Int} (h : w.ownsRow B 58 8 (.slice A m c) m (ints L)) (hy : ∀ t, t < m * 8 → y t = L.getD t 0) : Rd w A (m * 8) (fun t => .int .i64 (y t)) := fun h0 => by
  rcases h.2 with ⟨_, h1⟩ | ⟨g, cap, cur, e, hg, hh, _⟩
  · omega
  · injection e with e1 e2 e3
    subst e1
    have hl : L.length = m * 8 := by simpa [ints] using h.1
    refine ⟨g, 0, rfl, (Array.getElem?_eq_some_iff.1 hh).1, fun t ht => ?_⟩
    rw [Nat.zero_add, h.cellAt t (by omega), int_at8 L (by omega)]
    show _ = some (Value.int .i64 (y t))
    rw [hy t ht]
set_option maxHeartbeats 16000000 in
theorem l29Faulty_any (W : Nat) (A : Option Addr) (n q : Nat) (z : Nat → Int) (f : Int) (At : Nat) (w : World) (ha : Rd w A (n * 8) (fun j => .int .i64 (z j))) (hW1 : 1 ≤ W) (hW2 : W ≤ 24) (hn : n ≤ 1500) (hops : ∀ i, i < n → opW W z i = true) (hAt : At < n) (hc : canB f (z (At * 8)) = true) :
    Calls Try.prog 53 #[.int .i64 W, .slice A n q, .agg #[.int .i64 f, .int .i64 At]] w (FyL w (gAt W z f At n).2) := by
  obtain ⟨i0, hi, iz, is, ib⟩ := info_parts infoOp
  obtain ⟨Wb, hWb⟩ : ∃ x, x = w.alloc (.cells #[.int .i64 f, .int .i64 At] 52) := ⟨_, rfl⟩
  have HB0 : Hid (Below w.heap.size w Wb) := Lib.hid (hWb ▸ (Below.refl _ _).alloc (Nat.le_refl _) _)
  have HBX : Hid (Blk Wb w.heap.size 52 #[.int .i64 f, .int .i64 At]) := Lib.hid (hWb ▸ Blk.at_ _ _ _ rfl)
  have HWB := Lib.hid hWb
  have HA := Lib.hid (ha.below HB0.out)
  have HOPS := Lib.hid hops
  have HAT := Lib.hid hAt
  have HC := Lib.hid hc
  have HW : Hid (1 ≤ W ∧ W ≤ 24) := Lib.hid ⟨hW1, hW2⟩
  clear ha hops hWb hAt hc
  go_enter Try.func53, Try.ntmps53
  go_upto_region 1 with (fail)
  rw [← HWB.out]
  go_wp2_with fail
  refine (l07New_any W Wb HW.out.1 HW.out.2).mono ?_
  rintro e w2 ⟨v, rfl, ⟨tg0, ⟨g0, gf, cf, gk, ck, gc, cc, F0, K0, L0, D0⟩, rfl, hlo, hlt0, ⟨⟨AL, nL, cL, hL⟩, ⟨AD, nD, cD, hD⟩⟩, hmk⟩, hb2⟩
  obtain rfl : L0 = _ := hL
  obtain rfl : D0 = _ := hD
  obtain ⟨gm, hgm⟩ : ∃ x, x = w2.heap.size := ⟨_, rfl⟩
  have HGM : Hid (Wb.heap.size ≤ gm) := Lib.hid (by rw [hgm]; exact hb2.size)
  obtain ⟨Wm, hWm⟩ : ∃ x, x = w2.alloc (.cells (cellsM ⟨g0, gf, cf, gk, ck, gc, cc, F0, K0, .slice AL nL cL, .slice AD nD cD⟩ (newM W)) 69) := ⟨_, rfl⟩
  have hbm : Below w2.heap.size w2 Wm := hWm ▸ (Below.refl _ _).alloc (Nat.le_refl _) _
  have H0 : Hid (Runs Wb (onT tg0 gm) ⟨gm, gf, cf, gk, ck, gc, cc, F0, K0, .slice AL nL cL, .slice AD nD cD⟩ (newM W) Wm) := Lib.hid ⟨hmk gm Wm (by rw [hgm]; exact Decidable.byContradiction fun hn => Nat.lt_irrefl _ (hlt0 _ hn)) (fun b hb => hbm.block b (hlt0 b hb)) hbm.size (hWm ▸ Blk.at_ _ _ _ hgm),
    hb2.trans (hbm.mono hb2.size), fun q hq => by
      unfold onT at hq
      split at hq
      · have := HGM.out; omega
      · exact hlo q hq⟩
  have HGM1 : Hid (gm < Wm.heap.size) := Lib.hid (by rw [hgm, hWm]; simp)
  have HWM := Lib.hid hWm
  have HGMQ := Lib.hid hgm
  have HSZ2 := Lib.hid hb2.size
  clear hlo hlt0 hmk hb2 hWm hgm hbm
  simp only [cellsM, newM] at HWM ⊢
  go_upto_region 2 with (fail)
  rw [← HWM.out, ← HGMQ.out]
  have H8 : Hid ((Wm.alloc (.cells #[] 58)).ownsRow Wb.heap.size 58 8 (.slice (some ⟨Wm.heap.size, 0, none⟩) 0 0) 0 (ints [])) := Lib.hid (own_base (World.ownsRow_made (e := 58) (size := 8) Wm #[] 0 (Nat.le_refl _) (by unfold maxLen; omega) rfl) H0.out.b.size)
  have HR8 : Hid (Runs Wb (onT tg0 gm) ⟨gm, gf, cf, gk, ck, gc, cc, F0, K0, .slice AL nL cL, .slice AD nD cD⟩ (gAt W z f At 0).1 (Wm.alloc (.cells #[] 58))) := Lib.hid (H0.out.below ((Below.refl _ _).alloc (Nat.le_refl _) _))
  have HU8 : Hid (∀ b, (Value.slice (some ⟨Wm.heap.size, 0, none⟩) 0 0).ownBlock = some b → onT tg0 gm b = 0) := Lib.hid fun b hb => by
    have h1 : Wm.heap.size = b := Option.some.inj hb
    exact Decidable.byContradiction fun hn => by have := H0.out.m.lt b hn; omega
  go_wp2_with fail
  go_loopw [8, 9] (fun ov iv wr => ∃ (i : Nat) (tg : Nat → Nat) (a : MAdr) (m : Nat) (L : List Int), i ≤ n ∧ iv = .int .i64 i ∧ a.g = gm ∧ Runs Wb tg a (gAt W z f At i).1 wr ∧ L = (gAt W z f At i).2 ∧ L.length = 8 * m ∧ wr.ownsRow Wb.heap.size 58 8 ov m (ints L) ∧ (∀ b, ov.ownBlock = some b → tg b = 0)) (fun _ iv _ => n - (intOf iv).toNat)
  case atStart => exact ⟨0, _, _, 0, [], Nat.zero_le _, rfl, rfl, HR8.out, rfl, rfl, H8.out, HU8.out⟩
  case round =>
    obtain ⟨io, tgo, ao, mo, Lo, hile, rfl, hgo, hro, hLo, hleno, howno, huto⟩ := hrel
    have HGo := Lib.hid hgo
    have HRo := Lib.hid hro
    have HLo := Lib.hid hLo
    have HLENo := Lib.hid hleno
    have HOWNo := Lib.hid howno
    have HUTo := Lib.hid huto
    have hyo := gAt_ok (f := f) (At := At) HW.out.1 HW.out.2 io (fun j hj => HOPS.out j (by omega)) fun _ => HC.out
    have HYo := Lib.hid hyo
    obtain ⟨Aoo, coo, rfl⟩ := own_form howno
    clear hgo hro hLo hleno howno huto hyo
    by_cases hit : io < n
    · have HIT := Lib.hid hit
      have HI15 : Hid (io ≤ 1499) := Lib.hid (by omega)
      obtain ⟨ga, o, rfl, hga, hra⟩ := HA.out (by omega)
      have hraw := hra.below hga HRo.out.b
      have hce := opCe_of hraw hit
      have HGAo : Hid (ga < Wb.heap.size) := Lib.hid hga
      obtain ⟨k, hx0⟩ : ∃ x, x = z (io * 8) := ⟨_, rfl⟩
      obtain ⟨d, hx1⟩ : ∃ x, x = z (io * 8 + 1) := ⟨_, rfl⟩
      obtain ⟨fb, hx2⟩ : ∃ x, x = z (io * 8 + 2) := ⟨_, rfl⟩
      obtain ⟨fa, hx3⟩ : ∃ x, x = z (io * 8 + 3) := ⟨_, rfl⟩
      obtain ⟨tb, hx4⟩ : ∃ x, x = z (io * 8 + 4) := ⟨_, rfl⟩
      obtain ⟨ta, hx5⟩ : ∃ x, x = z (io * 8 + 5) := ⟨_, rfl⟩
      obtain ⟨c, hx6⟩ : ∃ x, x = z (io * 8 + 6) := ⟨_, rfl⟩
      obtain ⟨r, hx7⟩ : ∃ x, x = z (io * 8 + 7) := ⟨_, rfl⟩
      rw [← hx0, ← hx1, ← hx2, ← hx3, ← hx4, ← hx5, ← hx6, ← hx7] at hce
      have HXo : Hid (k = z (io * 8) ∧ d = z (io * 8 + 1) ∧ fb = z (io * 8 + 2) ∧ fa = z (io * 8 + 3) ∧ tb = z (io * 8 + 4) ∧ ta = z (io * 8 + 5) ∧ c = z (io * 8 + 6) ∧ r = z (io * 8 + 7)) := Lib.hid ⟨hx0, hx1, hx2, hx3, hx4, hx5, hx6, hx7⟩
      have HCEo := Lib.hid hce
      have c0 := hce.c0
      have c1 := hce.c1
      have c2 := hce.c2
      have c3 := hce.c3
      have c4 := hce.c4
      have c5 := hce.c5
      have c6 := hce.c6
      have c7 := hce.c7
      clear hx0 hx1 hx2 hx3 hx4 hx5 hx6 hx7 hce hra hraw hga
      go_upto_region 7 with (fail)
      obtain ⟨w1, hw1⟩ : ∃ x, x = wr.alloc (.cells (opC k d fb fa tb ta c r) 58) := ⟨_, rfl⟩
      rw [← hw1]
      obtain ⟨AL, hAL⟩ : ∃ x : Option Addr, x = some ⟨wr.heap.size, 0, none⟩ := ⟨_, rfl⟩
      rw [← hAL]
      have hb1 : Below wr.heap.size wr w1 := hw1 ▸ (Below.refl _ _).alloc (Nat.le_refl _) _
      have hx1 : Blk w1 wr.heap.size 58 (opC k d fb fa tb ta c r) := hw1 ▸ Blk.at_ _ _ _ rfl
      have HB1 := Lib.hid hb1
      have HX1 := Lib.hid hx1
      have HR1 := Lib.hid (HRo.out.below hb1)
      have HO1 := Lib.hid (own_below HOWNo.out hb1)
      have hbx := HBX.out.below HR1.out.b HBX.out.lt
      have b0 := (show _ = some (Value.int .i64 f) from hbx.cell 0)
      have b1 := (show _ = some (Value.int .i64 At) from hbx.cell 1)
      have HALq := Lib.hid hAL
      clear hw1 hAL hb1 hx1 hbx c0 c1 c2 c3 c4 c5 c6 c7
      by_cases hia : io = At
      · have hia' : ((io : Int) == (At : Int)) = true := by simp [hia]
        have HCE1 : Hid (OpCe ga (o + io * 8) k d fb fa tb ta c r w1) := Lib.hid ((opCe_loc _ _ _ _ _ _ _ _ _ _).1 _ _ HCEo.out fun q hq => by subst hq; exact HB1.out.block _ (World.block_lt_of_cell? _ _ HCEo.out.c0))
        have c0 := HCE1.out.c0
        have c1 := HCE1.out.c1
        have c2 := HCE1.out.c2
        have c3 := HCE1.out.c3
        have c4 := HCE1.out.c4
        have c5 := HCE1.out.c5
        have c6 := HCE1.out.c6
        have c7 := HCE1.out.c7
        have HIA := Lib.hid hia
        obtain ⟨p0, hp0⟩ : ∃ x, x = gAt W z f At io := ⟨_, rfl⟩
        rw [← hp0] at HYo HR1
        have hcan : canB f (z (io * 8)) = true := by rw [hia]; exact HC.out
        have hinsq := l29Instead_any (tg := tgo) (a := ao) (s := p0.1) (w := w1.drewN 1) (W := W) (z := z) (i := io) (f := f) (HR1.out.m.drewN 1) HYo.out.w HW.out.1 (HOPS.out io HIT.out) hcan
        obtain ⟨e0, e1, e2, e3, e4, e5, e6, e7⟩ := HXo.out
        rw [← e0, ← e1, ← e2, ← e3, ← e4, ← e5, ← e6, ← e7, HGo.out] at hinsq
        have HINS := Lib.hid hinsq
        obtain ⟨K, hK⟩ : ∃ x, x = insN p0.1 z io f := ⟨_, rfl⟩
        obtain ⟨LI, hLI⟩ : ∃ x, x = insL p0.1 z io f := ⟨_, rfl⟩
        rw [← hK, ← hLI] at HINS
        have HKq := Lib.hid hK
        have HLIq := Lib.hid hLI
        have HP0q := Lib.hid hp0
        have HCAN := Lib.hid hcan
        clear hia e0 e1 e2 e3 e4 e5 e6 e7 hinsq hK hLI hp0 hcan
        go_wp2_with fail
        go_region_held3 (fun w' => w'.cell? ⟨ga, o + io * 8, none⟩ = some (.int .i64 k) ∧ w'.cell? ⟨ga, o + io * 8 + 1, none⟩ = some (.int .i64 d) ∧ w'.cell? ⟨ga, o + io * 8 + 2, none⟩ = some (.int .i64 fb) ∧ w'.cell? ⟨ga, o + io * 8 + 3, none⟩ = some (.int .i64 fa) ∧ w'.cell? ⟨ga, o + io * 8 + 4, none⟩ = some (.int .i64 tb) ∧ w'.cell? ⟨ga, o + io * 8 + 5, none⟩ = some (.int .i64 ta) ∧ w'.cell? ⟨ga, o + io * 8 + 6, none⟩ = some (.int .i64 c) ∧ w'.cell? ⟨ga, o + io * 8 + 7, none⟩ = some (.int .i64 r) ∧ w'.cell? ⟨w.heap.size, 0, none⟩ = some (.int .i64 f)) (go_keep)
          ((go_at_call 75; refine HINS.out.mono ?_; rintro e wi ⟨vi, rfl, howni, hbi⟩; obtain ⟨ALi, ci, rfl⟩ := own_form howni; have HOI : Hid (wi.ownsRow w1.heap.size 58 8 (.slice ALi K ci) K (ints LI)) := Lib.hid howni; have HBI : Hid (Below w1.heap.size w1 wi) := Lib.hid ((Below.drewN' (Below.refl w1.heap.size w1) 1).trans hbi); have HCEi : Hid (OpCe ga (o + io * 8) k d fb fa tb ta c r wi) := Lib.hid ((opCe_loc _ _ _ _ _ _ _ _ _ _).1 _ _ HCE1.out fun q hq => by subst hq; exact HBI.out.block _ (World.block_lt_of_cell? _ _ HCE1.out.c0)); have i0' := HCEi.out.c0; have i1 := HCEi.out.c1; have i2 := HCEi.out.c2; have i3 := HCEi.out.c3; have i4 := HCEi.out.c4; have i5 := HCEi.out.c5; have i6 := HCEi.out.c6; have i7 := HCEi.out.c7; have ib0 := ((bcell HBI.out).1 w.heap.size 0 (World.block_lt_of_cell? _ _ b0)).trans b0; clear howni hbi))
        rename_i hHeld
        clear hHeld c0 c1 c2 c3 c4 c5 c6 c7 i0' i1 i2 i3 i4 i5 i6 i7 ib0 b0 b1
        have HK2 : Hid (K ≤ 2) := Lib.hid (by rw [HKq.out]; exact insN_le _ _ _ _)
        obtain ⟨y, hy⟩ : ∃ x, x = insF p0.1 z io f := ⟨_, rfl⟩
        have HY : Hid (∀ j, j < K → opW W y j = true) := Lib.hid (by rw [hy, HKq.out]; exact fun j hj => ins_ok HW.out.1 (HOPS.out io HIT.out) HCAN.out hj)
        have HGN1 : Hid (gAt W z f At (io + 1) = ySeq y p0 K) := Lib.hid (by
          show (if io = At then ySeq (insF (gAt W z f At io).1 z io f) (gAt W z f At io) (insN (gAt W z f At io).1 z io f) else yStep (gAt W z f At io) z io) = _
          rw [if_pos HIA.out, ← HP0q.out, ← HKq.out, ← hy])
        have HP0 : Hid (YOk W (8 * io) (2 * io) p0) := Lib.hid HYo.out
        have HLI8 := Lib.hid (insL_len p0.1 z io f)
        have HID0 : Hid (Rd wi ALi (K * 8) (fun t => .int .i64 (y t))) := Lib.hid (own_rd (g := 0) HOI.out fun t _ => by rw [hy]; unfold insF; rw [← HLIq.out])
        clear hy
        have HIR := Lib.hid (HR1.out.below HBI.out)
        have HIG := HGo
        have HIL : Hid (p0.2.length = 8 * mo) := Lib.hid (by rw [HP0q.out, ← HLo.out]; exact HLENo.out)
        have HIO : Hid (wi.ownsRow Wb.heap.size 58 8 (.slice Aoo mo coo) mo (ints p0.2)) := Lib.hid (by rw [HP0q.out, ← HLo.out]; exact own_below HO1.out HBI.out)
        have HIU := HUTo
        have HIN : Hid (∀ ad, ALi = some ad → tgo ad.block = 0 ∧ (Value.slice Aoo mo coo).ownBlock ≠ some ad.block) := Lib.hid fun ad he => by
          subst he
          have hlo : w1.heap.size ≤ ad.block := by
            rcases HOI.out.2 with ⟨e, _⟩ | ⟨y', cap, cur, e, hy', _⟩
            · cases e
            · injection e with e1 e2 e3
              injection e1 with e1
              subst e1
              exact hy'
          have hs1 : wr.heap.size < w1.heap.size := HX1.out.lt
          exact ⟨Decidable.byContradiction fun hn => by have := HRo.out.m.lt _ hn; omega, fun e => by have := (HOWNo.out.lt _ e).2; omega⟩
        have HID := HID0
        obtain ⟨AL, hALi⟩ : ∃ x, x = ALi := ⟨_, rfl⟩
        subst hALi
        go_wp2_with fail
        go_loopw [8, 11] (fun ov kv wx => ∃ (j : Nat) (tg : Nat → Nat) (a : MAdr) (m : Nat) (L : List Int), j ≤ K ∧ kv = .int .i64 j ∧ a.g = gm ∧ Runs Wb tg a (ySeq y p0 j).1 wx ∧ L = (ySeq y p0 j).2 ∧ L.length = 8 * m ∧ wx.ownsRow Wb.heap.size 58 8 ov m (ints L) ∧ (∀ b, ov.ownBlock = some b → tg b = 0) ∧ Rd wx AL (K * 8) (fun t => .int .i64 (y t)) ∧ (∀ ad, AL = some ad → tg ad.block = 0 ∧ ov.ownBlock ≠ some ad.block)) (fun _ kv _ => K - (intOf kv).toNat)
        case atStart => exact ⟨0, _, _, _, _, Nat.zero_le _, rfl, HIG.out, HIR.out, rfl, HIL.out, HIO.out, HIU.out, HID.out, HIN.out⟩
        case round =>
          obtain ⟨j, tg, a, m, L, hjK, rfl, hg, hr, hL, hlen, hown, hut, hrd, hna⟩ := hrel
          have HG := Lib.hid hg
          have HR := Lib.hid hr
          have HL := Lib.hid hL
          have HLEN := Lib.hid hlen
          have HOWN := Lib.hid hown
          have HUT := Lib.hid hut
          have HRD := Lib.hid hrd
          have HNA := Lib.hid hna
          have hyo := ySeq_ok hW1 HP0.out j fun q hq => HY.out q (by omega)
          have HWR : Hid (gm < wr.heap.size) := Lib.hid (by rw [← hg]; exact hr.m.lt a.g (by rw [hr.m.tm]; omega))
          obtain ⟨s, hsv⟩ : ∃ s, s = (ySeq y p0 j).1 := ⟨_, rfl⟩
          have hsW := hyo.w
          have hs := hyo.o
          have hmL := hyo.l
          rw [← hL, hlen] at hmL
          have hm3 : m ≤ 3000 := by obtain ⟨k', h1, h2⟩ := hmL; have := HI15.out; have := HK2.out; omega
          rw [← hsv] at HR hsW hs
          have HSV := Lib.hid hsv
          have HSW := Lib.hid hsW
          have HS := Lib.hid hs
          obtain ⟨mL, mcL, mD, mqD, mcD, hcells⟩ := HR.out.m.sev
          have HCE := Lib.hid hcells
          clear hg hr hL hlen hown hut hrd hna hyo hsv hsW hs hmL hcells
          have hk2 := HK2.out
          by_cases hlt : j < K
          · have HLT := Lib.hid hlt
            obtain ⟨gl, ol, hAL, hgl, hrl⟩ := HRD.out (by omega)
            have hce := opCe_of hrl hlt
            have hp := opOk_at hW1 (HY.out j hlt)
            rw [← HSW.out] at hp
            have HGL : Hid (gl < wr.heap.size) := Lib.hid hgl
            have HROW := Lib.hid hrl
            have HGN : Hid (tg gl = 0) := Lib.hid (HNA.out _ hAL).1
            have HGO := Lib.hid (HNA.out _ hAL).2
            have HALq := Lib.hid hAL
            obtain ⟨k, hx0⟩ : ∃ x, x = y (j * 8) := ⟨_, rfl⟩
            obtain ⟨d, hx1⟩ : ∃ x, x = y (j * 8 + 1) := ⟨_, rfl⟩
            obtain ⟨fb, hx2⟩ : ∃ x, x = y (j * 8 + 2) := ⟨_, rfl⟩
            obtain ⟨fa, hx3⟩ : ∃ x, x = y (j * 8 + 3) := ⟨_, rfl⟩
            obtain ⟨tb, hx4⟩ : ∃ x, x = y (j * 8 + 4) := ⟨_, rfl⟩
            obtain ⟨ta, hx5⟩ : ∃ x, x = y (j * 8 + 5) := ⟨_, rfl⟩
            obtain ⟨c, hx6⟩ : ∃ x, x = y (j * 8 + 6) := ⟨_, rfl⟩
            obtain ⟨r, hx7⟩ : ∃ x, x = y (j * 8 + 7) := ⟨_, rfl⟩
            rw [← hx0, ← hx1, ← hx2, ← hx3, ← hx4, ← hx5, ← hx6, ← hx7] at hce hp
            have HX : Hid (k = y (j * 8) ∧ d = y (j * 8 + 1) ∧ fb = y (j * 8 + 2) ∧ fa = y (j * 8 + 3) ∧ tb = y (j * 8 + 4) ∧ ta = y (j * 8 + 5) ∧ c = y (j * 8 + 6) ∧ r = y (j * 8 + 7)) := Lib.hid ⟨hx0, hx1, hx2, hx3, hx4, hx5, hx6, hx7⟩
            have HO := Lib.hid hce
            have HP := Lib.hid hp
            clear hx0 hx1 hx2 hx3 hx4 hx5 hx6 hx7 hce hp hrl hgl hAL
            have ho := l07Own_any (D := 8 * 1500 + 8) HR.out.m { HS.out with db := Nat.le_trans HS.out.db (by have := HI15.out; have := HK2.out; omega) } (by omega)
            rw [HG.out] at ho
            have HOW := Lib.hid ho
            clear ho
            have hALg := HALq.out
            subst hALg
            go_wp2_with fail
            refine HOW.out.mono ?_
            rintro e w3 ⟨v, rfl, ⟨tg1, ⟨g1, gf1, cf1, gk1, ck1, gc1, cc1, F1, K1, L1, D1⟩, rfl, hlo1, hlt1, ⟨⟨AL1, nL1, cL1, hL1⟩, ⟨AD1, nD1, cD1, hD1⟩⟩, hmk1⟩, hb3⟩
            obtain rfl : L1 = _ := hL1
            obtain rfl : D1 = _ := hD1
            clear HOW
            simp only [cellsM] at hmk1 ⊢
            obtain ⟨w4, hw4⟩ : ∃ x, x = w3.alloc (.cells #[.int .i64 s.W, .int .i64 s.rk, .slice (some ⟨gf1, 0, none⟩) s.W cf1, .slice (some ⟨gk1, 0, none⟩) s.W ck1, .slice (some ⟨gc1, 0, none⟩) 4 cc1, .slice AL1 nL1 cL1, .slice AD1 nD1 cD1] 69) := ⟨_, rfl⟩
            have hb4 : Below w3.heap.size w3 w4 := hw4 ▸ (Below.refl _ _).alloc (Nat.le_refl _) _
            have HM4 : Hid (Mem (onT tg1 w3.heap.size) ⟨w3.heap.size, gf1, cf1, gk1, ck1, gc1, cc1, F1, K1, .slice AL1 nL1 cL1, .slice AD1 nD1 cD1⟩ s w4) := Lib.hid (hmk1 w3.heap.size w4 (Decidable.byContradiction fun hn => Nat.lt_irrefl _ (hlt1 _ hn)) (fun b hb => hb4.block b (hlt1 b hb)) hb4.size (hw4 ▸ Blk.at_ _ _ _ rfl))
            have HB3 := Lib.hid hb3
            have HB4 := Lib.hid (hb3.trans (hb4.mono hb3.size))
            have HL1 : Hid (∀ b, onT tg1 w3.heap.size b ≠ 0 → wr.heap.size ≤ b) := Lib.hid fun b hb => by
              unfold onT at hb
              split at hb
              · have := HB3.out.size; omega
              · exact hlo1 b hb
            have HW4 := Lib.hid hw4
            clear hlo1 hlt1 hmk1 hb3 hb4 hw4
            go_upto_region 13 with (fail)
            rw [← HW4.out]
            have HO4 : Hid (OpCe gl (ol + j * 8) k d fb fa tb ta c r w4) := Lib.hid ((opCe_loc _ _ _ _ _ _ _ _ _ _).1 _ _ HO.out fun q hq => by subst hq; exact HB4.out.block _ HGL.out)
            have HGA4 : Hid (onT tg1 w3.heap.size gl = 0) := Lib.hid (Decidable.byContradiction fun hn => by have h1 := HL1.out gl hn; have h2 := HGL.out; omega)
            have hd := l07Do_any (D := 8 * 1500 + 8) gl (ol + j * 8) (k := k) (d := d) (fb := fb) (fa := fa) (tb := tb) (ta := ta) (c := c) (r := r) HM4.out { HS.out with db := Nat.le_trans HS.out.db (by have := HI15.out; have := HK2.out; omega) } (by omega) HO4.out HGA4.out HP.out
            obtain ⟨code, hcode⟩ : ∃ y, y = doCode s k d fb fa tb ta (c - 1).toNat := ⟨_, rfl⟩
            rw [← hcode] at hd
            have HKC : Hid (kC (ySeq y p0 j).1 y j = code) := Lib.hid (by
              obtain ⟨e0, e1, e2, e3, e4, e5, e6, e7⟩ := HX.out
              unfold kC
              rw [← HSV.out, ← e0, ← e1, ← e2, ← e3, ← e4, ← e5, ← e6]
              exact hcode.symm)
            clear hcode
            go_wp2_with fail
            refine hd.mono ?_
            rintro e w5 ⟨rfl, hf5, hm5⟩
            clear hd
            have HF5 := Lib.hid hf5
            have HK5 : Hid (∀ b, b < wr.heap.size → w5.heap[b]? = wr.heap[b]?) := Lib.hid fun b hb => (HF5.out.block b (Nat.lt_of_lt_of_le hb HB4.out.size) (fun hn => by have h1 := HL1.out b hn; omega)).trans (HB4.out.block b hb)
            have HZ5 : Hid (wr.heap.size ≤ w5.heap.size) := Lib.hid (Nat.le_trans HB4.out.size HF5.out.size)
            have HR5 : Hid (Runs Wb tg a s w5) := Lib.hid ⟨HR.out.m.same (fun b hb => HK5.out b (HR.out.m.lt b hb)) HZ5.out, (HR.out.b.trans (HB4.out.mono HR.out.b.size)).trans (HF5.out.below (Nat.le_trans HR.out.b.size HB4.out.size) fun b hb => Nat.le_trans HR.out.b.size (HL1.out b hb)), HR.out.lo⟩
            have HOWN5 : Hid (w5.ownsRow Wb.heap.size 58 8 u8 m (ints L)) := Lib.hid (own_blk HOWN.out fun b hb => HK5.out b (HOWN.out.lt b hb).2)
            have HRD5 : Hid (RowR w5 gl ol (K * 8) (fun t => .int .i64 (y t))) := Lib.hid (HROW.out.blk (HK5.out gl HGL.out))
            have hbk := HR5.out.m.m
            rw [HCE.out, HG.out] at hbk
            have m0 := (show _ = some (Value.int .i64 s.W) from hbk.cell 0)
            have m1 := (show _ = some (Value.int .i64 s.rk) from hbk.cell 1)
            have m2 := (show _ = some (Value.slice (some ⟨a.gf, 0, none⟩) s.W a.cf) from hbk.cell 2)
            have m3 := (show _ = some (Value.slice (some ⟨a.gk, 0, none⟩) s.W a.ck) from hbk.cell 3)
            have m4 := (show _ = some (Value.slice (some ⟨a.gc, 0, none⟩) 4 a.cc) from hbk.cell 4)
            have m5 := (show _ = some (Value.slice mL s.n mcL) from hbk.cell 5)
            have m6 := (show _ = some (Value.slice mD mqD mcD) from hbk.cell 6)
            have HBK := Lib.hid hbk
            clear hf5 hbk
            by_cases hc0 : code = 0
            · obtain ⟨tg5, a5, hg5, hmem5, _, ht5⟩ := hm5 hc0
              subst hc0
              obtain ⟨pL, pcL, pD, pqD, pcD, hc5⟩ := hmem5.sev
              have HLO5 : Hid (∀ b, tg5 b ≠ 0 → wr.heap.size ≤ b) := Lib.hid fun b hb => by
                rcases ht5 b hb with h1 | h1
                · exact HL1.out b h1
                · exact Nat.le_trans HB4.out.size h1
              have hb5 := hmem5.m
              have HMK := Lib.hid (hmem5.makes HLO5.out)
              rw [hc5] at HMK
              rw [hc5, hg5] at hb5
              obtain ⟨s', hs'⟩ : ∃ x, x = doSt s k d fb fa tb ta r (c - 1).toNat := ⟨_, rfl⟩
              rw [← hs'] at HMK hb5
              have HNXT : Hid (ySeq y p0 (j + 1) = (s', L ++ [k, d, fb, fa, tb, ta, c, r])) := Lib.hid (by
                obtain ⟨e0, e1, e2, e3, e4, e5, e6, e7⟩ := HX.out
                show yStep (ySeq y p0 j) y j = _
                unfold yStep
                rw [if_pos HKC.out, ← HL.out, hs']
                unfold kS opL
                rw [← HSV.out, ← e0, ← e1, ← e2, ← e3, ← e4, ← e5, ← e6, ← e7])
              have p0' := (show _ = some (Value.int .i64 s'.W) from hb5.cell 0)
              have p1' := (show _ = some (Value.int .i64 s'.rk) from hb5.cell 1)
              have p2' := (show _ = some (Value.slice (some ⟨a5.gf, 0, none⟩) s'.W a5.cf) from hb5.cell 2)
              have p3' := (show _ = some (Value.slice (some ⟨a5.gk, 0, none⟩) s'.W a5.ck) from hb5.cell 3)
              have p4' := (show _ = some (Value.slice (some ⟨a5.gc, 0, none⟩) 4 a5.cc) from hb5.cell 4)
              have p5' := (show _ = some (Value.slice pL s'.n pcL) from hb5.cell 5)
              have p6' := (show _ = some (Value.slice pD pqD pcD) from hb5.cell 6)
              have f0 := fun o => HBK.out.frozen o
              clear hmem5 ht5 hg5 hc5 hs' hm5 hb5
              obtain ⟨w6, hw6⟩ : ∃ x, x = ((((((w5.setCell ⟨gm, 0, none⟩ (.int .i64 s'.W)).setCell ⟨gm, 1, none⟩ (.int .i64 s'.rk)).setCell ⟨gm, 2, none⟩ (.slice (some ⟨a5.gf, 0, none⟩) s'.W a5.cf)).setCell ⟨gm, 3, none⟩ (.slice (some ⟨a5.gk, 0, none⟩) s'.W a5.ck)).setCell ⟨gm, 4, none⟩ (.slice (some ⟨a5.gc, 0, none⟩) 4 a5.cc)).setCell ⟨gm, 5, none⟩ (.slice pL s'.n pcL)).setCell ⟨gm, 6, none⟩ (.slice pD pqD pcD) := ⟨_, rfl⟩
              have HK6 : Hid (∀ b, b ≠ gm → w6.heap[b]? = w5.heap[b]?) := Lib.hid fun b hb => by rw [hw6]; exact s7_keep hb _ _ _ _ _ _ _
              have HZ6 : Hid (w6.heap.size = w5.heap.size) := Lib.hid (by rw [hw6]; simp only [set_size])
              have HNX : Hid (∃ tg6 a6, a6.g = gm ∧ Runs Wb tg6 a6 s' w6 ∧ ∀ b, b < wr.heap.size → b ≠ gm → tg6 b = 0) := Lib.hid (by
                obtain ⟨tg2, a2, hv, hlo2, hlt2, _, hmk2⟩ := HMK.out
                have hcs := Value.agg.inj hv
                have h0 : tg2 gm = 0 := Decidable.byContradiction fun hn => by have h1 := hlo2 _ hn; have h2 := HWR.out; omega
                refine ⟨onT tg2 gm, { a2 with g := gm }, rfl, ⟨hmk2 gm w6 h0 (fun b hb => ?_) ?_ ?_, ?_, fun b hb => ?_⟩, fun b hb hbg => ?_⟩
                · exact HK6.out b (fun e => hb (by rw [e]; exact h0))
                · rw [HZ6.out]; exact Nat.le_refl _
                · rw [← hcs, hw6]
                  exact Blk.s7 HBK.out _ _ _ _ _ _ _
                · rw [hw6]
                  exact below_s7 HR5.out.b HGM.out _ _ _ _ _ _ _
                · unfold onT at hb
                  split at hb
                  · have := HGM.out; omega
                  · exact Nat.le_trans HR.out.b.size (hlo2 b hb)
                · unfold onT
                  rw [if_neg hbg]
                  exact Decidable.byContradiction fun hn => by have := hlo2 b hn; omega)
              have HW6 := Lib.hid hw6
              clear hw6
              go_upto_region 15 with (fail)
              rw [← HW6.out]
              obtain ⟨tg6, a6, hg6, hr6, ht6⟩ := HNX.out
              have HGmO : Hid (u8.ownBlock ≠ some gm) := Lib.hid fun e => by have h1 := HUT.out gm e; rw [← HG.out, HR.out.m.tm] at h1; omega
              have HGmL : Hid (gl ≠ gm) := Lib.hid fun e => by have h1 := HGN.out; rw [e, ← HG.out, HR.out.m.tm] at h1; omega
              have HOWN6 : Hid (w6.ownsRow Wb.heap.size 58 8 u8 m (ints L)) := Lib.hid (own_blk HOWN5.out fun b hb => HK6.out b (fun e => HGmO.out (by rw [← e]; exact hb)))
              have HRD6 : Hid (RowR w6 gl ol (K * 8) (fun t => .int .i64 (y t))) := Lib.hid (HRD5.out.blk (HK6.out gl HGmL.out))
              have HR6 := Lib.hid hr6
              have HG6 := Lib.hid hg6
              have HUT6 : Hid (∀ b, u8.ownBlock = some b → tg6 b = 0) := Lib.hid fun b hb => ht6 b (HOWN.out.lt b hb).2 (fun e => HGmO.out (by rw [← e]; exact hb))
              have HGN6 : Hid (tg6 gl = 0) := Lib.hid (ht6 gl HGL.out HGmL.out)
              have hce6 := opCe_of HRD6.out HLT.out
              obtain ⟨e0, e1, e2, e3, e4, e5, e6, e7⟩ := HX.out
              rw [← e0, ← e1, ← e2, ← e3, ← e4, ← e5, ← e6, ← e7] at hce6
              have c0 := hce6.c0
              have c1 := hce6.c1
              have c2 := hce6.c2
              have c3 := hce6.c3
              have c4 := hce6.c4
              have c5 := hce6.c5
              have c6 := hce6.c6
              have c7 := hce6.c7
              clear hg6 hr6 ht6 hce6 e0 e1 e2 e3 e4 e5 e6 e7 m0 m1 m2 m3 m4 m5 m6 p0' p1' p2' p3' p4' p5' p6' f0
              have hZ6 : Wb.heap.size ≤ w6.heap.size := HR6.out.b.size
              have HZW := Lib.hid hZ6
              obtain ⟨Ao, co, hov⟩ := own_form HOWN6.out
              subst hov
              go_wp2_with (at_builtin; go_must (refine wpList_appGa w6 rfl (.tmp 51) (.tmp 56) _ rfl Wb.heap.size 58 i0 _ 8 64 Try.underlying26 hi iz is ib rfl (by omega) (.slice Ao m co) m _ (by rfl) HOWN6.out _ 1 1 (ints [k, d, fb, fa, tb, ta, c, r]) rfl rfl (ints_one _) (by unfold maxLen; omega) (by omega) HZW.out ?_); intro v' w7 hown7 hfr7 hat7; rw [← ints_app] at hown7; have HOWN7 := Lib.hid hown7; have HFR7 := Lib.hid hfr7; have HAT7 := Lib.hid hat7; clear hown7 hfr7 hat7)
              have HU7 : Hid (∀ b, v'.ownBlock = some b → tg6 b = 0 ∧ b ≠ gl) := Lib.hid fun b hb => by
                rcases HAT7.out with h | h
                · exact ⟨HUT6.out b (h.symm.trans hb), fun e => HGO.out (by rw [← e]; exact h.symm.trans hb)⟩
                · have h1 : b = w6.heap.size + 1 := Option.some.inj (hb.symm.trans h)
                  exact ⟨Decidable.byContradiction fun hn => by have := HR6.out.m.lt b hn; omega, by have := HGL.out; have := HZ5.out; have := HZ6.out; omega⟩
              have HR7 : Hid (Runs Wb tg6 a6 s' w7) := Lib.hid ⟨HR6.out.m.same (fun b hb => HFR7.out.block b (HR6.out.m.lt b hb) (fun e => hb (HUT6.out b e))) HFR7.out.size, HR6.out.b.trans (HFR7.out.below HZW.out fun b hb => (HOWN6.out.lt b hb).1), HR6.out.lo⟩
              have HRD7 : Hid (Rd w7 (some ⟨gl, ol, none⟩) (K * 8) (fun t => .int .i64 (y t))) := Lib.hid fun _ => ⟨gl, ol, rfl, by have := HGL.out; have := HZ5.out; have := HZ6.out; have := HFR7.out.size; omega, HRD6.out.blk (HFR7.out.block gl (by have := HGL.out; have := HZ5.out; have := HZ6.out; omega) HGO.out)⟩
              clear c0 c1 c2 c3 c4 c5 c6 c7 hZ6
              go_wp2_with fail
              go_roundw
              case rel => exact ⟨j + 1, tg6, a6, m + 1, L ++ [k, d, fb, fa, tb, ta, c, r], HLT.out, by go_num, HG6.out, by rw [HNXT.out]; exact HR7.out, by rw [HNXT.out], by have := HLEN.out; simp; omega, HOWN7.out, fun b hb => (HU7.out b hb).1, HRD7.out, fun ad he => by obtain rfl := Option.some.inj he; exact ⟨HGN6.out, fun e => (HU7.out _ e).2 rfl⟩⟩
              case measure => simp [intOf] <;> omega
            · have hc1 : (code == 0) = false := by simpa using hc0
              have HNXT : Hid (ySeq y p0 (j + 1) = ySeq y p0 j) := Lib.hid (by
                show yStep (ySeq y p0 j) y j = _
                unfold yStep
                rw [if_neg (by rw [HKC.out]; exact hc0)])
              have HRD7 : Hid (Rd w5 (some ⟨gl, ol, none⟩) (K * 8) (fun t => .int .i64 (y t))) := Lib.hid fun _ => ⟨gl, ol, rfl, Nat.lt_of_lt_of_le HGL.out HZ5.out, HRD5.out⟩
              clear hm5 hc0 m0 m1 m2 m3 m4 m5 m6
              go_wp2_with fail
              go_roundw
              case rel => exact ⟨j + 1, tg, a, m, L, HLT.out, by go_num, HG.out, by rw [HNXT.out, ← HSV.out]; exact HR5.out, by rw [HNXT.out]; exact HL.out, HLEN.out, HOWN5.out, HUT.out, HRD7.out, fun ad he => HNA.out ad he⟩
              case measure => simp [intOf] <;> omega
          · obtain rfl : j = K := by omega
            go_wp2_with fail
            go_roundw
            case rel => exact ⟨io + 1, tg, a, m, L, HIT.out, by go_num, HG.out, by rw [HGN1.out, ← HSV.out]; exact HR.out, by rw [HGN1.out]; exact HL.out, HLEN.out, HOWN.out, HUT.out⟩
            case measure => simp [intOf] <;> omega
      · have hia' : ((io : Int) == (At : Int)) = false := by simp only [beq_eq_false_iff_ne]; omega
        obtain ⟨p0, hp0⟩ : ∃ x, x = gAt W z f At io := ⟨_, rfl⟩
        rw [← hp0] at HYo HR1
        obtain ⟨K, hK⟩ : ∃ x : Nat, x = 1 := ⟨_, rfl⟩
        have HK1 := Lib.hid hK
        have HK2 : Hid (K ≤ 2) := Lib.hid (by omega)
        obtain ⟨y, hy⟩ : ∃ x : Nat → Int, x = fun t => z (io * 8 + t) := ⟨_, rfl⟩
        have HY : Hid (∀ j, j < K → opW W y j = true) := Lib.hid fun j hj => by
          obtain rfl : j = 0 := by omega
          rw [hy]
          exact opW_same (HOPS.out io HIT.out) fun t _ => by simp
        have HGN1 : Hid (gAt W z f At (io + 1) = ySeq y p0 K) := Lib.hid (by
          show (if io = At then ySeq (insF (gAt W z f At io).1 z io f) (gAt W z f At io) (insN (gAt W z f At io).1 z io f) else yStep (gAt W z f At io) z io) = _
          rw [if_neg hia, ← hp0, hK, hy]
          exact (yStep_shift p0 z io).symm)
        have HP0q := Lib.hid hp0
        have HP0 : Hid (YOk W (8 * io) (2 * io) p0) := Lib.hid HYo.out
        have HID : Hid (Rd w1 AL (K * 8) (fun t => .int .i64 (y t))) := Lib.hid fun _ => ⟨wr.heap.size, 0, HALq.out, HX1.out.lt, fun t ht => by
          obtain ⟨e0, e1, e2, e3, e4, e5, e6, e7⟩ := HXo.out
          rw [hK] at ht
          have h8 : t = 0 ∨ t = 1 ∨ t = 2 ∨ t = 3 ∨ t = 4 ∨ t = 5 ∨ t = 6 ∨ t = 7 := by omega
          rw [Nat.zero_add, HX1.out.cell, hy]
          rcases h8 with rfl | rfl | rfl | rfl | rfl | rfl | rfl | rfl
          · exact congrArg (fun x => some (Value.int .i64 x)) e0
          · exact congrArg (fun x => some (Value.int .i64 x)) e1
          · exact congrArg (fun x => some (Value.int .i64 x)) e2
          · exact congrArg (fun x => some (Value.int .i64 x)) e3
          · exact congrArg (fun x => some (Value.int .i64 x)) e4
          · exact congrArg (fun x => some (Value.int .i64 x)) e5
          · exact congrArg (fun x => some (Value.int .i64 x)) e6
          · exact congrArg (fun x => some (Value.int .i64 x)) e7⟩
        have HIR := HR1
        have HIG := HGo
        have HIL : Hid (p0.2.length = 8 * mo) := Lib.hid (by rw [HP0q.out, ← HLo.out]; exact HLENo.out)
        have HIO : Hid (w1.ownsRow Wb.heap.size 58 8 (.slice Aoo mo coo) mo (ints p0.2)) := Lib.hid (by rw [HP0q.out, ← HLo.out]; exact HO1.out)
        have HIU := HUTo
        have HIN : Hid (∀ ad, AL = some ad → tgo ad.block = 0 ∧ (Value.slice Aoo mo coo).ownBlock ≠ some ad.block) := Lib.hid fun ad he => by
          have h1 := Option.some.inj (he.symm.trans HALq.out)
          subst h1
          exact ⟨Decidable.byContradiction fun hn => by have h1 : wr.heap.size < wr.heap.size := HRo.out.m.lt _ hn; omega, fun e => by have h1 : wr.heap.size < wr.heap.size := (HOWNo.out.lt _ e).2; omega⟩
        have hK1 : (Value.slice AL 1 1) = .slice AL K 1 := by rw [hK]
        clear hia hy hp0 hK
        rw [hK1]
        clear hK1
        go_wp2_with fail
        go_loopw [8, 11] (fun ov kv wx => ∃ (j : Nat) (tg : Nat → Nat) (a : MAdr) (m : Nat) (L : List Int), j ≤ K ∧ kv = .int .i64 j ∧ a.g = gm ∧ Runs Wb tg a (ySeq y p0 j).1 wx ∧ L = (ySeq y p0 j).2 ∧ L.length = 8 * m ∧ wx.ownsRow Wb.heap.size 58 8 ov m (ints L) ∧ (∀ b, ov.ownBlock = some b → tg b = 0) ∧ Rd wx AL (K * 8) (fun t => .int .i64 (y t)) ∧ (∀ ad, AL = some ad → tg ad.block = 0 ∧ ov.ownBlock ≠ some ad.block)) (fun _ kv _ => K - (intOf kv).toNat)
        case atStart => exact ⟨0, _, _, _, _, Nat.zero_le _, rfl, HIG.out, HIR.out, rfl, HIL.out, HIO.out, HIU.out, HID.out, HIN.out⟩
        case round =>
          obtain ⟨j, tg, a, m, L, hjK, rfl, hg, hr, hL, hlen, hown, hut, hrd, hna⟩ := hrel
          have HG := Lib.hid hg
          have HR := Lib.hid hr
          have HL := Lib.hid hL
          have HLEN := Lib.hid hlen
          have HOWN := Lib.hid hown
          have HUT := Lib.hid hut
          have HRD := Lib.hid hrd
          have HNA := Lib.hid hna
          have hyo := ySeq_ok hW1 HP0.out j fun q hq => HY.out q (by omega)
          have HWR : Hid (gm < wr.heap.size) := Lib.hid (by rw [← hg]; exact hr.m.lt a.g (by rw [hr.m.tm]; omega))
          obtain ⟨s, hsv⟩ : ∃ s, s = (ySeq y p0 j).1 := ⟨_, rfl⟩
          have hsW := hyo.w
          have hs := hyo.o
          have hmL := hyo.l
          rw [← hL, hlen] at hmL
          have hm3 : m ≤ 3000 := by obtain ⟨k', h1, h2⟩ := hmL; have := HI15.out; have := HK2.out; omega
          rw [← hsv] at HR hsW hs
          have HSV := Lib.hid hsv
          have HSW := Lib.hid hsW
          have HS := Lib.hid hs
          obtain ⟨mL, mcL, mD, mqD, mcD, hcells⟩ := HR.out.m.sev
          have HCE := Lib.hid hcells
          clear hg hr hL hlen hown hut hrd hna hyo hsv hsW hs hmL hcells
          have hk2 := HK2.out
          by_cases hlt : j < K
          · have HLT := Lib.hid hlt
            obtain ⟨gl, ol, hAL, hgl, hrl⟩ := HRD.out (by omega)
            have hce := opCe_of hrl hlt
            have hp := opOk_at hW1 (HY.out j hlt)
            rw [← HSW.out] at hp
            have HGL : Hid (gl < wr.heap.size) := Lib.hid hgl
            have HROW := Lib.hid hrl
            have HGN : Hid (tg gl = 0) := Lib.hid (HNA.out _ hAL).1
            have HGO := Lib.hid (HNA.out _ hAL).2
            have HALq := Lib.hid hAL
            obtain ⟨k, hx0⟩ : ∃ x, x = y (j * 8) := ⟨_, rfl⟩
            obtain ⟨d, hx1⟩ : ∃ x, x = y (j * 8 + 1) := ⟨_, rfl⟩
            obtain ⟨fb, hx2⟩ : ∃ x, x = y (j * 8 + 2) := ⟨_, rfl⟩
            obtain ⟨fa, hx3⟩ : ∃ x, x = y (j * 8 + 3) := ⟨_, rfl⟩
            obtain ⟨tb, hx4⟩ : ∃ x, x = y (j * 8 + 4) := ⟨_, rfl⟩
            obtain ⟨ta, hx5⟩ : ∃ x, x = y (j * 8 + 5) := ⟨_, rfl⟩
            obtain ⟨c, hx6⟩ : ∃ x, x = y (j * 8 + 6) := ⟨_, rfl⟩
            obtain ⟨r, hx7⟩ : ∃ x, x = y (j * 8 + 7) := ⟨_, rfl⟩
            rw [← hx0, ← hx1, ← hx2, ← hx3, ← hx4, ← hx5, ← hx6, ← hx7] at hce hp
            have HX : Hid (k = y (j * 8) ∧ d = y (j * 8 + 1) ∧ fb = y (j * 8 + 2) ∧ fa = y (j * 8 + 3) ∧ tb = y (j * 8 + 4) ∧ ta = y (j * 8 + 5) ∧ c = y (j * 8 + 6) ∧ r = y (j * 8 + 7)) := Lib.hid ⟨hx0, hx1, hx2, hx3, hx4, hx5, hx6, hx7⟩
            have HO := Lib.hid hce
            have HP := Lib.hid hp
            clear hx0 hx1 hx2 hx3 hx4 hx5 hx6 hx7 hce hp hrl hgl hAL
            have ho := l07Own_any (D := 8 * 1500 + 8) HR.out.m { HS.out with db := Nat.le_trans HS.out.db (by have := HI15.out; have := HK2.out; omega) } (by omega)
            rw [HG.out] at ho
            have HOW := Lib.hid ho
            clear ho
            have hALg := HALq.out
            subst hALg
            go_wp2_with fail
            refine HOW.out.mono ?_
            rintro e w3 ⟨v, rfl, ⟨tg1, ⟨g1, gf1, cf1, gk1, ck1, gc1, cc1, F1, K1, L1, D1⟩, rfl, hlo1, hlt1, ⟨⟨AL1, nL1, cL1, hL1⟩, ⟨AD1, nD1, cD1, hD1⟩⟩, hmk1⟩, hb3⟩
            obtain rfl : L1 = _ := hL1
            obtain rfl : D1 = _ := hD1
            clear HOW
            simp only [cellsM] at hmk1 ⊢
            obtain ⟨w4, hw4⟩ : ∃ x, x = w3.alloc (.cells #[.int .i64 s.W, .int .i64 s.rk, .slice (some ⟨gf1, 0, none⟩) s.W cf1, .slice (some ⟨gk1, 0, none⟩) s.W ck1, .slice (some ⟨gc1, 0, none⟩) 4 cc1, .slice AL1 nL1 cL1, .slice AD1 nD1 cD1] 69) := ⟨_, rfl⟩
            have hb4 : Below w3.heap.size w3 w4 := hw4 ▸ (Below.refl _ _).alloc (Nat.le_refl _) _
            have HM4 : Hid (Mem (onT tg1 w3.heap.size) ⟨w3.heap.size, gf1, cf1, gk1, ck1, gc1, cc1, F1, K1, .slice AL1 nL1 cL1, .slice AD1 nD1 cD1⟩ s w4) := Lib.hid (hmk1 w3.heap.size w4 (Decidable.byContradiction fun hn => Nat.lt_irrefl _ (hlt1 _ hn)) (fun b hb => hb4.block b (hlt1 b hb)) hb4.size (hw4 ▸ Blk.at_ _ _ _ rfl))
            have HB3 := Lib.hid hb3
            have HB4 := Lib.hid (hb3.trans (hb4.mono hb3.size))
            have HL1 : Hid (∀ b, onT tg1 w3.heap.size b ≠ 0 → wr.heap.size ≤ b) := Lib.hid fun b hb => by
              unfold onT at hb
              split at hb
              · have := HB3.out.size; omega
              · exact hlo1 b hb
            have HW4 := Lib.hid hw4
            clear hlo1 hlt1 hmk1 hb3 hb4 hw4
            go_upto_region 13 with (fail)
            rw [← HW4.out]
            have HO4 : Hid (OpCe gl (ol + j * 8) k d fb fa tb ta c r w4) := Lib.hid ((opCe_loc _ _ _ _ _ _ _ _ _ _).1 _ _ HO.out fun q hq => by subst hq; exact HB4.out.block _ HGL.out)
            have HGA4 : Hid (onT tg1 w3.heap.size gl = 0) := Lib.hid (Decidable.byContradiction fun hn => by have h1 := HL1.out gl hn; have h2 := HGL.out; omega)
            have hd := l07Do_any (D := 8 * 1500 + 8) gl (ol + j * 8) (k := k) (d := d) (fb := fb) (fa := fa) (tb := tb) (ta := ta) (c := c) (r := r) HM4.out { HS.out with db := Nat.le_trans HS.out.db (by have := HI15.out; have := HK2.out; omega) } (by omega) HO4.out HGA4.out HP.out
            obtain ⟨code, hcode⟩ : ∃ y, y = doCode s k d fb fa tb ta (c - 1).toNat := ⟨_, rfl⟩
            rw [← hcode] at hd
            have HKC : Hid (kC (ySeq y p0 j).1 y j = code) := Lib.hid (by
              obtain ⟨e0, e1, e2, e3, e4, e5, e6, e7⟩ := HX.out
              unfold kC
              rw [← HSV.out, ← e0, ← e1, ← e2, ← e3, ← e4, ← e5, ← e6]
              exact hcode.symm)
            clear hcode
            go_wp2_with fail
            refine hd.mono ?_
            rintro e w5 ⟨rfl, hf5, hm5⟩
            clear hd
            have HF5 := Lib.hid hf5
            have HK5 : Hid (∀ b, b < wr.heap.size → w5.heap[b]? = wr.heap[b]?) := Lib.hid fun b hb => (HF5.out.block b (Nat.lt_of_lt_of_le hb HB4.out.size) (fun hn => by have h1 := HL1.out b hn; omega)).trans (HB4.out.block b hb)
            have HZ5 : Hid (wr.heap.size ≤ w5.heap.size) := Lib.hid (Nat.le_trans HB4.out.size HF5.out.size)
            have HR5 : Hid (Runs Wb tg a s w5) := Lib.hid ⟨HR.out.m.same (fun b hb => HK5.out b (HR.out.m.lt b hb)) HZ5.out, (HR.out.b.trans (HB4.out.mono HR.out.b.size)).trans (HF5.out.below (Nat.le_trans HR.out.b.size HB4.out.size) fun b hb => Nat.le_trans HR.out.b.size (HL1.out b hb)), HR.out.lo⟩
            have HOWN5 : Hid (w5.ownsRow Wb.heap.size 58 8 u8 m (ints L)) := Lib.hid (own_blk HOWN.out fun b hb => HK5.out b (HOWN.out.lt b hb).2)
            have HRD5 : Hid (RowR w5 gl ol (K * 8) (fun t => .int .i64 (y t))) := Lib.hid (HROW.out.blk (HK5.out gl HGL.out))
            have hbk := HR5.out.m.m
            rw [HCE.out, HG.out] at hbk
            have m0 := (show _ = some (Value.int .i64 s.W) from hbk.cell 0)
            have m1 := (show _ = some (Value.int .i64 s.rk) from hbk.cell 1)
            have m2 := (show _ = some (Value.slice (some ⟨a.gf, 0, none⟩) s.W a.cf) from hbk.cell 2)
            have m3 := (show _ = some (Value.slice (some ⟨a.gk, 0, none⟩) s.W a.ck) from hbk.cell 3)
            have m4 := (show _ = some (Value.slice (some ⟨a.gc, 0, none⟩) 4 a.cc) from hbk.cell 4)
            have m5 := (show _ = some (Value.slice mL s.n mcL) from hbk.cell 5)
            have m6 := (show _ = some (Value.slice mD mqD mcD) from hbk.cell 6)
            have HBK := Lib.hid hbk
            clear hf5 hbk
            by_cases hc0 : code = 0
            · obtain ⟨tg5, a5, hg5, hmem5, _, ht5⟩ := hm5 hc0
              subst hc0
              obtain ⟨pL, pcL, pD, pqD, pcD, hc5⟩ := hmem5.sev
              have HLO5 : Hid (∀ b, tg5 b ≠ 0 → wr.heap.size ≤ b) := Lib.hid fun b hb => by
                rcases ht5 b hb with h1 | h1
                · exact HL1.out b h1
                · exact Nat.le_trans HB4.out.size h1
              have hb5 := hmem5.m
              have HMK := Lib.hid (hmem5.makes HLO5.out)
              rw [hc5] at HMK
              rw [hc5, hg5] at hb5
              obtain ⟨s', hs'⟩ : ∃ x, x = doSt s k d fb fa tb ta r (c - 1).toNat := ⟨_, rfl⟩
              rw [← hs'] at HMK hb5
              have HNXT : Hid (ySeq y p0 (j + 1) = (s', L ++ [k, d, fb, fa, tb, ta, c, r])) := Lib.hid (by
                obtain ⟨e0, e1, e2, e3, e4, e5, e6, e7⟩ := HX.out
                show yStep (ySeq y p0 j) y j = _
                unfold yStep
                rw [if_pos HKC.out, ← HL.out, hs']
                unfold kS opL
                rw [← HSV.out, ← e0, ← e1, ← e2, ← e3, ← e4, ← e5, ← e6, ← e7])
              have p0' := (show _ = some (Value.int .i64 s'.W) from hb5.cell 0)
              have p1' := (show _ = some (Value.int .i64 s'.rk) from hb5.cell 1)
              have p2' := (show _ = some (Value.slice (some ⟨a5.gf, 0, none⟩) s'.W a5.cf) from hb5.cell 2)
              have p3' := (show _ = some (Value.slice (some ⟨a5.gk, 0, none⟩) s'.W a5.ck) from hb5.cell 3)
              have p4' := (show _ = some (Value.slice (some ⟨a5.gc, 0, none⟩) 4 a5.cc) from hb5.cell 4)
              have p5' := (show _ = some (Value.slice pL s'.n pcL) from hb5.cell 5)
              have p6' := (show _ = some (Value.slice pD pqD pcD) from hb5.cell 6)
              have f0 := fun o => HBK.out.frozen o
              clear hmem5 ht5 hg5 hc5 hs' hm5 hb5
              obtain ⟨w6, hw6⟩ : ∃ x, x = ((((((w5.setCell ⟨gm, 0, none⟩ (.int .i64 s'.W)).setCell ⟨gm, 1, none⟩ (.int .i64 s'.rk)).setCell ⟨gm, 2, none⟩ (.slice (some ⟨a5.gf, 0, none⟩) s'.W a5.cf)).setCell ⟨gm, 3, none⟩ (.slice (some ⟨a5.gk, 0, none⟩) s'.W a5.ck)).setCell ⟨gm, 4, none⟩ (.slice (some ⟨a5.gc, 0, none⟩) 4 a5.cc)).setCell ⟨gm, 5, none⟩ (.slice pL s'.n pcL)).setCell ⟨gm, 6, none⟩ (.slice pD pqD pcD) := ⟨_, rfl⟩
              have HK6 : Hid (∀ b, b ≠ gm → w6.heap[b]? = w5.heap[b]?) := Lib.hid fun b hb => by rw [hw6]; exact s7_keep hb _ _ _ _ _ _ _
              have HZ6 : Hid (w6.heap.size = w5.heap.size) := Lib.hid (by rw [hw6]; simp only [set_size])
              have HNX : Hid (∃ tg6 a6, a6.g = gm ∧ Runs Wb tg6 a6 s' w6 ∧ ∀ b, b < wr.heap.size → b ≠ gm → tg6 b = 0) := Lib.hid (by
                obtain ⟨tg2, a2, hv, hlo2, hlt2, _, hmk2⟩ := HMK.out
                have hcs := Value.agg.inj hv
                have h0 : tg2 gm = 0 := Decidable.byContradiction fun hn => by have h1 := hlo2 _ hn; have h2 := HWR.out; omega
                refine ⟨onT tg2 gm, { a2 with g := gm }, rfl, ⟨hmk2 gm w6 h0 (fun b hb => ?_) ?_ ?_, ?_, fun b hb => ?_⟩, fun b hb hbg => ?_⟩
                · exact HK6.out b (fun e => hb (by rw [e]; exact h0))
                · rw [HZ6.out]; exact Nat.le_refl _
                · rw [← hcs, hw6]
                  exact Blk.s7 HBK.out _ _ _ _ _ _ _
                · rw [hw6]
                  exact below_s7 HR5.out.b HGM.out _ _ _ _ _ _ _
                · unfold onT at hb
                  split at hb
                  · have := HGM.out; omega
                  · exact Nat.le_trans HR.out.b.size (hlo2 b hb)
                · unfold onT
                  rw [if_neg hbg]
                  exact Decidable.byContradiction fun hn => by have := hlo2 b hn; omega)
              have HW6 := Lib.hid hw6
              clear hw6
              go_upto_region 15 with (fail)
              rw [← HW6.out]
              obtain ⟨tg6, a6, hg6, hr6, ht6⟩ := HNX.out
              have HGmO : Hid (u8.ownBlock ≠ some gm) := Lib.hid fun e => by have h1 := HUT.out gm e; rw [← HG.out, HR.out.m.tm] at h1; omega
              have HGmL : Hid (gl ≠ gm) := Lib.hid fun e => by have h1 := HGN.out; rw [e, ← HG.out, HR.out.m.tm] at h1; omega
              have HOWN6 : Hid (w6.ownsRow Wb.heap.size 58 8 u8 m (ints L)) := Lib.hid (own_blk HOWN5.out fun b hb => HK6.out b (fun e => HGmO.out (by rw [← e]; exact hb)))
              have HRD6 : Hid (RowR w6 gl ol (K * 8) (fun t => .int .i64 (y t))) := Lib.hid (HRD5.out.blk (HK6.out gl HGmL.out))
              have HR6 := Lib.hid hr6
              have HG6 := Lib.hid hg6
              have HUT6 : Hid (∀ b, u8.ownBlock = some b → tg6 b = 0) := Lib.hid fun b hb => ht6 b (HOWN.out.lt b hb).2 (fun e => HGmO.out (by rw [← e]; exact hb))
              have HGN6 : Hid (tg6 gl = 0) := Lib.hid (ht6 gl HGL.out HGmL.out)
              have hce6 := opCe_of HRD6.out HLT.out
              obtain ⟨e0, e1, e2, e3, e4, e5, e6, e7⟩ := HX.out
              rw [← e0, ← e1, ← e2, ← e3, ← e4, ← e5, ← e6, ← e7] at hce6
              have c0 := hce6.c0
              have c1 := hce6.c1
              have c2 := hce6.c2
              have c3 := hce6.c3
              have c4 := hce6.c4
              have c5 := hce6.c5
              have c6 := hce6.c6
              have c7 := hce6.c7
              clear hg6 hr6 ht6 hce6 e0 e1 e2 e3 e4 e5 e6 e7 m0 m1 m2 m3 m4 m5 m6 p0' p1' p2' p3' p4' p5' p6' f0
              have hZ6 : Wb.heap.size ≤ w6.heap.size := HR6.out.b.size
              have HZW := Lib.hid hZ6
              obtain ⟨Ao, co, hov⟩ := own_form HOWN6.out
              subst hov
              go_wp2_with (at_builtin; go_must (refine wpList_appGa w6 rfl (.tmp 51) (.tmp 56) _ rfl Wb.heap.size 58 i0 _ 8 64 Try.underlying26 hi iz is ib rfl (by omega) (.slice Ao m co) m _ (by rfl) HOWN6.out _ 1 1 (ints [k, d, fb, fa, tb, ta, c, r]) rfl rfl (ints_one _) (by unfold maxLen; omega) (by omega) HZW.out ?_); intro v' w7 hown7 hfr7 hat7; rw [← ints_app] at hown7; have HOWN7 := Lib.hid hown7; have HFR7 := Lib.hid hfr7; have HAT7 := Lib.hid hat7; clear hown7 hfr7 hat7)
              have HU7 : Hid (∀ b, v'.ownBlock = some b → tg6 b = 0 ∧ b ≠ gl) := Lib.hid fun b hb => by
                rcases HAT7.out with h | h
                · exact ⟨HUT6.out b (h.symm.trans hb), fun e => HGO.out (by rw [← e]; exact h.symm.trans hb)⟩
                · have h1 : b = w6.heap.size + 1 := Option.some.inj (hb.symm.trans h)
                  exact ⟨Decidable.byContradiction fun hn => by have := HR6.out.m.lt b hn; omega, by have := HGL.out; have := HZ5.out; have := HZ6.out; omega⟩
              have HR7 : Hid (Runs Wb tg6 a6 s' w7) := Lib.hid ⟨HR6.out.m.same (fun b hb => HFR7.out.block b (HR6.out.m.lt b hb) (fun e => hb (HUT6.out b e))) HFR7.out.size, HR6.out.b.trans (HFR7.out.below HZW.out fun b hb => (HOWN6.out.lt b hb).1), HR6.out.lo⟩
              have HRD7 : Hid (Rd w7 (some ⟨gl, ol, none⟩) (K * 8) (fun t => .int .i64 (y t))) := Lib.hid fun _ => ⟨gl, ol, rfl, by have := HGL.out; have := HZ5.out; have := HZ6.out; have := HFR7.out.size; omega, HRD6.out.blk (HFR7.out.block gl (by have := HGL.out; have := HZ5.out; have := HZ6.out; omega) HGO.out)⟩
              clear c0 c1 c2 c3 c4 c5 c6 c7 hZ6
              go_wp2_with fail
              go_roundw
              case rel => exact ⟨j + 1, tg6, a6, m + 1, L ++ [k, d, fb, fa, tb, ta, c, r], HLT.out, by go_num, HG6.out, by rw [HNXT.out]; exact HR7.out, by rw [HNXT.out], by have := HLEN.out; simp; omega, HOWN7.out, fun b hb => (HU7.out b hb).1, HRD7.out, fun ad he => by obtain rfl := Option.some.inj he; exact ⟨HGN6.out, fun e => (HU7.out _ e).2 rfl⟩⟩
              case measure => simp [intOf] <;> omega
            · have hc1 : (code == 0) = false := by simpa using hc0
              have HNXT : Hid (ySeq y p0 (j + 1) = ySeq y p0 j) := Lib.hid (by
                show yStep (ySeq y p0 j) y j = _
                unfold yStep
                rw [if_neg (by rw [HKC.out]; exact hc0)])
              have HRD7 : Hid (Rd w5 (some ⟨gl, ol, none⟩) (K * 8) (fun t => .int .i64 (y t))) := Lib.hid fun _ => ⟨gl, ol, rfl, Nat.lt_of_lt_of_le HGL.out HZ5.out, HRD5.out⟩
              clear hm5 hc0 m0 m1 m2 m3 m4 m5 m6
              go_wp2_with fail
              go_roundw
              case rel => exact ⟨j + 1, tg, a, m, L, HLT.out, by go_num, HG.out, by rw [HNXT.out, ← HSV.out]; exact HR5.out, by rw [HNXT.out]; exact HL.out, HLEN.out, HOWN5.out, HUT.out, HRD7.out, fun ad he => HNA.out ad he⟩
              case measure => simp [intOf] <;> omega
          · obtain rfl : j = K := by omega
            go_wp2_with fail
            go_roundw
            case rel => exact ⟨io + 1, tg, a, m, L, HIT.out, by go_num, HG.out, by rw [HGN1.out, ← HSV.out]; exact HR.out, by rw [HGN1.out]; exact HL.out, HLEN.out, HOWN.out, HUT.out⟩
            case measure => simp [intOf] <;> omega
    · obtain rfl : io = n := by omega
      have HBF : Hid (Below w.heap.size w wr) := Lib.hid (HB0.out.trans (HRo.out.b.mono HB0.out.size))
      have HYl := Lib.hid HYo.out.l
      go_wp2_with fail
      go_ret
      exact ⟨_, mo, rfl, by rw [← HLo.out]; exact HLENo.out, by obtain ⟨k', h1, h2⟩ := HYl.out; rw [← HLo.out, HLENo.out] at h1; omega, by rw [← HLo.out]; exact own_base HOWNo.out HB0.out.size, HBF.out⟩
end Go.Proofs.Ytpmfkpehmckgmaa
