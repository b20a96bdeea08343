/- Walks: a machine runs a program, by the reference: its code. No condition but the bounds. -/
import Derived.Test.YtpmfkpehmckgmaaMachN
import Derived.Test.YtpmfkpehmckgmaaMachOw
namespace Go.Proofs.Ytpmfkpehmckgmaa
open Go.RowKit
set_option maxRecDepth 20000

/-- What RunMachine hands back: a machine, how far it came, the code. -/
def Mac7 (v : Value) : Prop := ∃ (x y : Int) (A B C D E : Option Addr) (a b c d e a' b' c' d' e' : Nat), v = .agg #[.int .i64 x, .int .i64 y, .slice A a a', .slice B b b', .slice C c c', .slice D d d', .slice E e e']
def RmP (w : World) (W : Int) (z : Nat → Int) (n : Nat) (e : Ending) (w' : World) : Prop :=
  ∃ (v : Value) (k : Int), Mac7 v ∧ e = .returned (.tuple #[v, .int .i64 k, .int .i64 (codeOf W z n)]) ∧ Below w.heap.size w w'
theorem RmP.of {w w' : World} {W : Int} {z : Nat → Int} {n : Nat} {e : Ending} {c : Int} (hc : codeOf W z n = c) (v : Value) (k : Int) (hv : Mac7 v) (he : e = .returned (.tuple #[v, .int .i64 k, .int .i64 c])) (hb : Below w.heap.size w w') : RmP w W z n e w' :=
  ⟨v, k, hv, by rw [hc]; exact he, hb⟩
theorem Mem.sev {tg : Nat → Nat} {a : MAdr} {s : Mst} {w : World} (H : Mem tg a s w) : ∃ AL cL AD qD cD, cellsM a s = #[.int .i64 s.W, .int .i64 s.rk, .slice (some ⟨a.gf, 0, none⟩) s.W a.cf, .slice (some ⟨a.gk, 0, none⟩) s.W a.ck, .slice (some ⟨a.gc, 0, none⟩) 4 a.cc, .slice AL s.n cL, .slice AD qD cD] := by
  obtain ⟨xs, hx, _⟩ := H.l
  obtain ⟨AL, cL, hL⟩ := own_form hx
  obtain ⟨q, _, xd, hd⟩ := H.d
  obtain ⟨AD, cD, hD⟩ := own_form hd
  exact ⟨AL, cL, AD, q, cD, by unfold cellsM; rw [hL, hD]⟩
theorem Blk.s7 {w : World} {g : Nat} {t : TypeId} {c0 c1 c2 c3 c4 c5 c6 : Value} (h : Blk w g t #[c0, c1, c2, c3, c4, c5, c6]) (u0 u1 u2 u3 u4 u5 u6 : Value) : Blk (((((((w.setCell ⟨g, 0, none⟩ u0).setCell ⟨g, 1, none⟩ u1).setCell ⟨g, 2, none⟩ u2).setCell ⟨g, 3, none⟩ u3).setCell ⟨g, 4, none⟩ u4).setCell ⟨g, 5, none⟩ u5).setCell ⟨g, 6, none⟩ u6) g t #[u0, u1, u2, u3, u4, u5, u6] := by
  have h0 : Blk (w.setCell ⟨g, 0, none⟩ u0) g t #[u0, c1, c2, c3, c4, c5, c6] := h.set_ 0 u0
  have h1 : Blk ((w.setCell ⟨g, 0, none⟩ u0).setCell ⟨g, 1, none⟩ u1) g t #[u0, u1, c2, c3, c4, c5, c6] := h0.set_ 1 u1
  have h2 : Blk (((w.setCell ⟨g, 0, none⟩ u0).setCell ⟨g, 1, none⟩ u1).setCell ⟨g, 2, none⟩ u2) g t #[u0, u1, u2, c3, c4, c5, c6] := h1.set_ 2 u2
  have h3 : Blk ((((w.setCell ⟨g, 0, none⟩ u0).setCell ⟨g, 1, none⟩ u1).setCell ⟨g, 2, none⟩ u2).setCell ⟨g, 3, none⟩ u3) g t #[u0, u1, u2, u3, c4, c5, c6] := h2.set_ 3 u3
  have h4 : Blk (((((w.setCell ⟨g, 0, none⟩ u0).setCell ⟨g, 1, none⟩ u1).setCell ⟨g, 2, none⟩ u2).setCell ⟨g, 3, none⟩ u3).setCell ⟨g, 4, none⟩ u4) g t #[u0, u1, u2, u3, u4, c5, c6] := h3.set_ 4 u4
  have h5 : Blk ((((((w.setCell ⟨g, 0, none⟩ u0).setCell ⟨g, 1, none⟩ u1).setCell ⟨g, 2, none⟩ u2).setCell ⟨g, 3, none⟩ u3).setCell ⟨g, 4, none⟩ u4).setCell ⟨g, 5, none⟩ u5) g t #[u0, u1, u2, u3, u4, u5, c6] := h4.set_ 5 u5
  have h6 : Blk (((((((w.setCell ⟨g, 0, none⟩ u0).setCell ⟨g, 1, none⟩ u1).setCell ⟨g, 2, none⟩ u2).setCell ⟨g, 3, none⟩ u3).setCell ⟨g, 4, none⟩ u4).setCell ⟨g, 5, none⟩ u5).setCell ⟨g, 6, none⟩ u6) g t #[u0, u1, u2, u3, u4, u5, u6] := h5.set_ 6 u6
  exact h6
theorem s7_keep {w : World} {g b : Nat} (hb : b ≠ g) (u0 u1 u2 u3 u4 u5 u6 : Value) : (((((((w.setCell ⟨g, 0, none⟩ u0).setCell ⟨g, 1, none⟩ u1).setCell ⟨g, 2, none⟩ u2).setCell ⟨g, 3, none⟩ u3).setCell ⟨g, 4, none⟩ u4).setCell ⟨g, 5, none⟩ u5).setCell ⟨g, 6, none⟩ u6).heap[b]? = w.heap[b]? := by
  rw [set_keep _ _ _ _ hb, set_keep _ _ _ _ hb, set_keep _ _ _ _ hb, set_keep _ _ _ _ hb, set_keep _ _ _ _ hb, set_keep _ _ _ _ hb, set_keep _ _ _ _ hb]
theorem below_s7 {B : Nat} {w0 w : World} {g : Nat} (h : Below B w0 w) (hg : B ≤ g) (u0 u1 u2 u3 u4 u5 u6 : Value) : Below B w0 (((((((w.setCell ⟨g, 0, none⟩ u0).setCell ⟨g, 1, none⟩ u1).setCell ⟨g, 2, none⟩ u2).setCell ⟨g, 3, none⟩ u3).setCell ⟨g, 4, none⟩ u4).setCell ⟨g, 5, none⟩ u5).setCell ⟨g, 6, none⟩ u6) :=
  ((((((h.setCell hg _).setCell hg _).setCell hg _).setCell hg _).setCell hg _).setCell hg _).setCell hg _
set_option maxHeartbeats 8000000 in
theorem specRunMachine_any (W : Int) (A : Option Addr) (n q : Nat) (z : Nat → Int) (w : World) (ha : Rd w A (n * 8) (fun j => .int .i64 (z j))) (hn : n ≤ 1048576) :
    Calls Try.prog 42 #[.int .i64 W, .slice A n q] w (RmP w W z n) := by
  obtain ⟨W0, hW0⟩ : ∃ x, x = w.alloc (.cells #[.int .i64 0, .int .i64 0, .slice none 0 0, .slice none 0 0, .slice none 0 0, .slice none 0 0, .slice none 0 0] 69) := ⟨_, rfl⟩
  have HB0 : Hid (Below w.heap.size w W0) := Lib.hid (hW0 ▸ (Below.refl _ _).alloc (Nat.le_refl _) _)
  have HRES : Hid (Blk W0 w.heap.size 69 zeroM) := Lib.hid (hW0 ▸ Blk.at_ _ _ _ rfl)
  have HW0 := Lib.hid hW0
  have hops := l07Ops_any W A n q z W0 (ha.below HB0.out) hn
  have HA := Lib.hid (ha.below HB0.out)
  have hlw : w.heap.size < W0.heap.size := HRES.out.lt
  have HLW := Lib.hid hlw
  clear ha hW0 hlw
  cases hpb : progB W z n
  · rw [hpb] at hops
    have HC := Lib.hid (codeOf_no hpb)
    have HO := Lib.hid hops
    clear hops hpb
    go_enter Try.func42, Try.ntmps42
    go_upto_region 1 with (fail)
    rw [← HW0.out]
    go_wp2_with fail
    refine HO.out.mono ?_
    rintro e w1 ⟨rfl, hb1⟩
    have hres := HRES.out.below hb1 HLW.out
    have HB1 := Lib.hid (HB0.out.trans (hb1.mono HB0.out.size))
    have q0 := (show _ = some (Value.int .i64 0) from hres.cell 0)
    have q1 := (show _ = some (Value.int .i64 0) from hres.cell 1)
    have q2 := (show _ = some (Value.slice none 0 0) from hres.cell 2)
    have q3 := (show _ = some (Value.slice none 0 0) from hres.cell 3)
    have q4 := (show _ = some (Value.slice none 0 0) from hres.cell 4)
    have q5 := (show _ = some (Value.slice none 0 0) from hres.cell 5)
    have q6 := (show _ = some (Value.slice none 0 0) from hres.cell 6)
    have f0 := fun o => hres.frozen o
    clear hb1 hres
    go_wp2_with fail
    refine bodyPost_ret (v := .tuple #[.agg zeroM, .int .i64 0, .int .i64 1]) (by simp [results, Try.results42, go_sem, q0, q1, q2, q3, q4, q5, q6]) rfl ?_
    exact RmP.of HC.out _ _ ⟨_, _, _, _, _, _, _, _, _, _, _, _, _, _, _, _, _, rfl⟩ rfl (below_s7 HB1.out (Nat.le_refl _) _ _ _ _ _ _ _)
  · have HPB := Lib.hid hpb
    have hpp : inB W 1 24 = true ∧ n ≤ 1500 ∧ opsB W z n = true := by
      unfold progB at hpb
      simpa only [Bool.and_eq_true, decide_eq_true_eq] using hpb
    have hW : 1 ≤ W ∧ W ≤ 24 := by have := hpp.1; unfold inB at this; simpa only [Bool.and_eq_true, decide_eq_true_eq] using this
    obtain ⟨W, rfl⟩ := Int.eq_ofNat_of_zero_le (show 0 ≤ W by omega)
    have HW : Hid (1 ≤ W ∧ W ≤ 24) := Lib.hid (by omega)
    have hn15 := hpp.2.1
    have HOPS := Lib.hid (opsB_all hpp.2.2)
    rw [hpb] at hops
    have HO := Lib.hid hops
    clear hops hpb hpp hW
    go_enter Try.func42, Try.ntmps42
    go_upto_region 1 with (fail)
    rw [← HW0.out]
    go_wp2_with fail
    refine HO.out.mono ?_
    rintro e w1 ⟨rfl, hb1⟩
    have HB1 := Lib.hid hb1
    clear hb1 HO
    go_wp2_with fail
    refine (l07New_any W w1 HW.out.1 HW.out.2).mono ?_
    rintro e w2 ⟨v, rfl, ⟨tg0, ⟨g0, gf, cf, gk, ck, gc, cc, F0, K0, L0, D0⟩, rfl, hlo, hlt0, ⟨⟨AL, nL, cL, hL⟩, ⟨AD, nD, cD, hD⟩⟩, hmk⟩, hb2⟩
    obtain rfl : L0 = _ := hL
    obtain rfl : D0 = _ := hD
    have HB2 : Hid (Below W0.heap.size W0 w2) := Lib.hid (HB1.out.trans (hb2.mono HB1.out.size))
    have H0 : Hid (Runs W0 (onT tg0 w2.heap.size) ⟨w2.heap.size, gf, cf, gk, ck, gc, cc, F0, K0, .slice AL nL cL, .slice AD nD cD⟩ (mSt W z 0) (w2.alloc (.cells (cellsM ⟨g0, gf, cf, gk, ck, gc, cc, F0, K0, .slice AL nL cL, .slice AD nD cD⟩ (newM W)) 69))) := Lib.hid ⟨hmk _ _ (Decidable.byContradiction fun hn => Nat.lt_irrefl _ (hlt0 _ hn)) (fun b hb => Below.heap_alloc _ _ b (hlt0 b hb)) (by simp) (Blk.at_ _ _ _ rfl),
      HB2.out.alloc HB2.out.size _, fun q hq => by
        unfold onT at hq
        split at hq
        · have := HB2.out.size; omega
        · exact Nat.le_trans HB1.out.size (hlo q hq)⟩
    clear hlo hlt0 hmk hb2
    simp only [cellsM, newM] at H0 ⊢
    go_wp2_with fail
    go_loopw [8] (fun iv wr => ∃ (i : Nat) (tg : Nat → Nat) (a : MAdr), i ≤ n ∧ iv = .int .i64 i ∧ a.g = w2.heap.size ∧ Runs W0 tg a (mSt W z i) wr ∧ okTo W z i) (fun iv _ => n - (intOf iv).toNat)
    case atStart => exact ⟨0, _, _, Nat.zero_le _, rfl, rfl, H0.out, fun i hi => by omega⟩
    case round =>
      obtain ⟨i, tg, a, hile, rfl, hg, hr, hok⟩ := hrel
      have HG := Lib.hid hg
      have HR := Lib.hid hr
      have HOK := Lib.hid hok
      have HWS : Hid (W0.heap.size ≤ w2.heap.size) := Lib.hid HB2.out.size
      have HWR : Hid (w2.heap.size < wr.heap.size) := Lib.hid (by rw [← hg]; exact hr.m.lt a.g (by rw [hr.m.tm]; omega))
      have hs := mSt_ok HW.out.1 HW.out.2 i (fun q hq => HOPS.out q (by omega)) hok
      have HS := Lib.hid hs
      obtain ⟨mL, mcL, mD, mqD, mcD, hcells⟩ := hr.m.sev
      have HCE := Lib.hid hcells
      clear hg hr hok hs hcells
      obtain ⟨s, hsv⟩ : ∃ s, s = mSt W z i := ⟨_, rfl⟩
      rw [← hsv] at HR HS HCE
      have HSV := Lib.hid hsv
      clear hsv
      by_cases hlt : i < n
      · have HLT := Lib.hid hlt
        obtain ⟨ga, o, rfl, hga, hra⟩ := HA.out (by omega)
        have HGA : Hid (ga < W0.heap.size) := Lib.hid hga
        have HT : Hid (∀ b, b < W0.heap.size → tg b = 0) := Lib.hid fun b hb => Decidable.byContradiction fun hn => by have := HR.out.lo b hn; omega
        have hce := opCe_of (hra.below hga HR.out.b) hlt
        have hp := opOk_at HW.out.1 (HOPS.out i hlt)
        rw [← mSt_W W z i, ← HSV.out] at hp
        generalize hx0 : z (i * 8) = k at *
        generalize hx1 : z (i * 8 + 1) = d at *
        generalize hx2 : z (i * 8 + 2) = fb at *
        generalize hx3 : z (i * 8 + 3) = fa at *
        generalize hx4 : z (i * 8 + 4) = tb at *
        generalize hx5 : z (i * 8 + 5) = ta at *
        generalize hx6 : z (i * 8 + 6) = c at *
        generalize hx7 : z (i * 8 + 7) = r at *
        have HX : Hid (z (i * 8) = k ∧ z (i * 8 + 1) = d ∧ z (i * 8 + 2) = fb ∧ z (i * 8 + 3) = fa ∧ z (i * 8 + 4) = tb ∧ z (i * 8 + 5) = ta ∧ z (i * 8 + 6) = c ∧ z (i * 8 + 7) = r) := Lib.hid ⟨hx0, hx1, hx2, hx3, hx4, hx5, hx6, hx7⟩
        have HO := Lib.hid hce
        have HP := Lib.hid hp
        clear hx0 hx1 hx2 hx3 hx4 hx5 hx6 hx7 hce hp hra hga
        have ho := l07Own_any (D := 4 * i) HR.out.m HS.out (by omega)
        rw [HG.out] at ho
        have HOW := Lib.hid ho
        clear ho
        go_wp2_with fail
        refine HOW.out.mono ?_
        rintro e w3 ⟨v, rfl, ⟨tg1, ⟨g1, gf1, cf1, gk1, ck1, gc1, cc1, F1, K1, L1, D1⟩, rfl, hlo1, hlt1, ⟨⟨AL1, nL1, cL1, hL1⟩, ⟨AD1, nD1, cD1, hD1⟩⟩, hmk1⟩, hb3⟩
        obtain rfl : L1 = _ := hL1
        obtain rfl : D1 = _ := hD1
        clear HOW
        simp only [cellsM] at hmk1 ⊢
        obtain ⟨w4, hw4⟩ : ∃ x, x = w3.alloc (.cells #[.int .i64 s.W, .int .i64 s.rk, .slice (some ⟨gf1, 0, none⟩) s.W cf1, .slice (some ⟨gk1, 0, none⟩) s.W ck1, .slice (some ⟨gc1, 0, none⟩) 4 cc1, .slice AL1 nL1 cL1, .slice AD1 nD1 cD1] 69) := ⟨_, rfl⟩
        have hb4 : Below w3.heap.size w3 w4 := hw4 ▸ (Below.refl _ _).alloc (Nat.le_refl _) _
        have HM4 : Hid (Mem (onT tg1 w3.heap.size) ⟨w3.heap.size, gf1, cf1, gk1, ck1, gc1, cc1, F1, K1, .slice AL1 nL1 cL1, .slice AD1 nD1 cD1⟩ s w4) := Lib.hid (hmk1 w3.heap.size w4 (Decidable.byContradiction fun hn => Nat.lt_irrefl _ (hlt1 _ hn)) (fun b hb => hb4.block b (hlt1 b hb)) hb4.size (hw4 ▸ Blk.at_ _ _ _ rfl))
        have HB3 := Lib.hid hb3
        have HB4 := Lib.hid (hb3.trans (hb4.mono hb3.size))
        have HL1 : Hid (∀ b, onT tg1 w3.heap.size b ≠ 0 → wr.heap.size ≤ b) := Lib.hid fun b hb => by
          unfold onT at hb
          split at hb
          · have := HB3.out.size; omega
          · exact hlo1 b hb
        have HW4 := Lib.hid hw4
        clear hlo1 hlt1 hmk1 hb3 hb4 hw4
        go_upto_region 8 with (fail)
        rw [← HW4.out]
        have HO4 : Hid (OpCe ga (o + i * 8) k d fb fa tb ta c r w4) := Lib.hid ((opCe_loc _ _ _ _ _ _ _ _ _ _).1 _ _ HO.out fun q hq => by subst hq; exact HB4.out.block _ (World.block_lt_of_cell? _ _ HO.out.c0))
        have HGA4 : Hid (onT tg1 w3.heap.size ga = 0) := Lib.hid (Decidable.byContradiction fun hn => by have h1 := HL1.out ga hn; have h2 := HGA.out; have h3 := HR.out.b.size; omega)
        have hd := l07Do_any (D := 4 * i) ga (o + i * 8) (k := k) (d := d) (fb := fb) (fa := fa) (tb := tb) (ta := ta) (c := c) (r := r) HM4.out HS.out (by omega) HO4.out HGA4.out HP.out
        obtain ⟨code, hcode⟩ : ∃ y, y = doCode s k d fb fa tb ta (c - 1).toNat := ⟨_, rfl⟩
        rw [← hcode] at hd
        have HCODE := Lib.hid hcode
        have HKC : Hid (kC (mSt W z i) z i = code) := Lib.hid (by unfold kC; rw [HX.out.1, HX.out.2.1, HX.out.2.2.1, HX.out.2.2.2.1, HX.out.2.2.2.2.1, HX.out.2.2.2.2.2.1, HX.out.2.2.2.2.2.2.1, ← HSV.out]; exact hcode.symm)
        clear hcode
        go_wp2_with fail
        refine hd.mono ?_
        rintro e w5 ⟨rfl, hf5, hm5⟩
        clear hd
        have HF5 := Lib.hid hf5
        have HR5 : Hid (Runs W0 tg a s w5) := Lib.hid ⟨HR.out.m.same (fun b hb => (HF5.out.block b (Nat.lt_of_lt_of_le (HR.out.m.lt b hb) HB4.out.size) (fun hn => by have h1 := HL1.out b hn; have h2 := HR.out.m.lt b hb; omega)).trans (HB4.out.block b (HR.out.m.lt b hb))) (Nat.le_trans HB4.out.size HF5.out.size), (HR.out.b.trans (HB4.out.mono HR.out.b.size)).trans (HF5.out.below (Nat.le_trans HR.out.b.size HB4.out.size) fun b hb => Nat.le_trans HR.out.b.size (HL1.out b hb)), HR.out.lo⟩
        have hbk := HR5.out.m.m
        rw [HCE.out, HG.out] at hbk
        have m0 := (show _ = some (Value.int .i64 s.W) from hbk.cell 0)
        have m1 := (show _ = some (Value.int .i64 s.rk) from hbk.cell 1)
        have m2 := (show _ = some (Value.slice (some ⟨a.gf, 0, none⟩) s.W a.cf) from hbk.cell 2)
        have m3 := (show _ = some (Value.slice (some ⟨a.gk, 0, none⟩) s.W a.ck) from hbk.cell 3)
        have m4 := (show _ = some (Value.slice (some ⟨a.gc, 0, none⟩) 4 a.cc) from hbk.cell 4)
        have m5 := (show _ = some (Value.slice mL s.n mcL) from hbk.cell 5)
        have m6 := (show _ = some (Value.slice mD mqD mcD) from hbk.cell 6)
        have HBK := Lib.hid hbk
        clear hf5 hbk
        by_cases hc0 : code = 0
        · obtain ⟨tg5, a5, hg5, hmem5, _, ht5⟩ := hm5 hc0
          subst hc0
          obtain ⟨pL, pcL, pD, pqD, pcD, hc5⟩ := hmem5.sev
          have HLO5 : Hid (∀ b, tg5 b ≠ 0 → wr.heap.size ≤ b) := Lib.hid fun b hb => by
            rcases ht5 b hb with h1 | h1
            · exact HL1.out b h1
            · exact Nat.le_trans HB4.out.size h1
          have hb5 := hmem5.m
          have HMK := Lib.hid (hmem5.makes HLO5.out)
          rw [hc5] at HMK
          rw [hc5, hg5] at hb5
          obtain ⟨s', hs'⟩ : ∃ x, x = doSt s k d fb fa tb ta r (c - 1).toNat := ⟨_, rfl⟩
          rw [← hs'] at HMK hb5
          have HS' : Hid (s' = mSt W z (i + 1)) := Lib.hid (by
            show _ = kS (mSt W z i) z i
            unfold kS
            rw [HX.out.1, HX.out.2.1, HX.out.2.2.1, HX.out.2.2.2.1, HX.out.2.2.2.2.1, HX.out.2.2.2.2.2.1, HX.out.2.2.2.2.2.2.1, HX.out.2.2.2.2.2.2.2, ← HSV.out]
            exact hs')
          have p0 := (show _ = some (Value.int .i64 s'.W) from hb5.cell 0)
          have p1 := (show _ = some (Value.int .i64 s'.rk) from hb5.cell 1)
          have p2 := (show _ = some (Value.slice (some ⟨a5.gf, 0, none⟩) s'.W a5.cf) from hb5.cell 2)
          have p3 := (show _ = some (Value.slice (some ⟨a5.gk, 0, none⟩) s'.W a5.ck) from hb5.cell 3)
          have p4 := (show _ = some (Value.slice (some ⟨a5.gc, 0, none⟩) 4 a5.cc) from hb5.cell 4)
          have p5 := (show _ = some (Value.slice pL s'.n pcL) from hb5.cell 5)
          have p6 := (show _ = some (Value.slice pD pqD pcD) from hb5.cell 6)
          have f0 := fun o => HBK.out.frozen o
          clear hmem5 ht5 hg5 hc5 hs' hm5 hb5
          obtain ⟨w6, hw6⟩ : ∃ x, x = ((((((w5.setCell ⟨w2.heap.size, 0, none⟩ (.int .i64 s'.W)).setCell ⟨w2.heap.size, 1, none⟩ (.int .i64 s'.rk)).setCell ⟨w2.heap.size, 2, none⟩ (.slice (some ⟨a5.gf, 0, none⟩) s'.W a5.cf)).setCell ⟨w2.heap.size, 3, none⟩ (.slice (some ⟨a5.gk, 0, none⟩) s'.W a5.ck)).setCell ⟨w2.heap.size, 4, none⟩ (.slice (some ⟨a5.gc, 0, none⟩) 4 a5.cc)).setCell ⟨w2.heap.size, 5, none⟩ (.slice pL s'.n pcL)).setCell ⟨w2.heap.size, 6, none⟩ (.slice pD pqD pcD) := ⟨_, rfl⟩
          have HNX : Hid (∃ tg6 a6, a6.g = w2.heap.size ∧ Runs W0 tg6 a6 s' w6) := Lib.hid (by
            obtain ⟨tg2, a2, hv, hlo2, hlt2, _, hmk2⟩ := HMK.out
            have hcs := Value.agg.inj hv
            have h0 : tg2 w2.heap.size = 0 := Decidable.byContradiction fun hn => by have h1 := hlo2 _ hn; have h2 := HWR.out; omega
            refine ⟨onT tg2 w2.heap.size, { a2 with g := w2.heap.size }, rfl, hmk2 w2.heap.size w6 h0 (fun b hb => ?_) ?_ ?_, ?_, fun b hb => ?_⟩
            · rw [hw6]
              exact s7_keep (fun e => hb (by rw [e]; exact h0)) _ _ _ _ _ _ _
            · rw [hw6]
              simp only [set_size]
              exact Nat.le_refl _
            · rw [← hcs, hw6]
              exact Blk.s7 HBK.out _ _ _ _ _ _ _
            · rw [hw6]
              exact below_s7 HR5.out.b HWS.out _ _ _ _ _ _ _
            · unfold onT at hb
              split at hb
              · have := HWS.out; omega
              · exact Nat.le_trans HR.out.b.size (hlo2 b hb))
          have HW6 := Lib.hid hw6
          clear hw6
          go_wp2_with fail
          rw [← HW6.out]
          obtain ⟨tg6, a6, hg6, hr6⟩ := HNX.out
          rw [HS'.out] at hr6
          go_roundw
          case rel => exact ⟨i + 1, tg6, a6, HLT.out, by go_num, hg6, hr6, okTo_succ HOK.out HKC.out⟩
          case measure => simp [intOf] <;> omega
        · have HCO : Hid (codeOf W z n = code) := Lib.hid (by
            unfold codeOf
            rw [if_pos HPB.out, Int.toNat_natCast, runC_stop HOK.out HLT.out (by rw [HKC.out]; exact hc0), HKC.out])
          have hc1 : (code == 0) = false := by simpa using hc0
          have hres := HRES.out.below HR5.out.b HLW.out
          have q0 := (show _ = some (Value.int .i64 0) from hres.cell 0)
          have q1 := (show _ = some (Value.int .i64 0) from hres.cell 1)
          have q2 := (show _ = some (Value.slice none 0 0) from hres.cell 2)
          have q3 := (show _ = some (Value.slice none 0 0) from hres.cell 3)
          have q4 := (show _ = some (Value.slice none 0 0) from hres.cell 4)
          have q5 := (show _ = some (Value.slice none 0 0) from hres.cell 5)
          have q6 := (show _ = some (Value.slice none 0 0) from hres.cell 6)
          have f0 := fun o => hres.frozen o
          have HBF := Lib.hid (HB0.out.trans (HR5.out.b.mono HB0.out.size))
          clear hm5 hc0 hres
          go_wp2_with fail
          refine bodyPost_ret (v := .tuple #[.agg #[.int .i64 s.W, .int .i64 s.rk, .slice (some ⟨a.gf, 0, none⟩) s.W a.cf, .slice (some ⟨a.gk, 0, none⟩) s.W a.ck, .slice (some ⟨a.gc, 0, none⟩) 4 a.cc, .slice mL s.n mcL, .slice mD mqD mcD], .int .i64 i, .int .i64 code]) (by simp [results, Try.results42, go_sem, q0, q1, q2, q3, q4, q5, q6]) rfl ?_
          exact RmP.of HCO.out _ _ ⟨_, _, _, _, _, _, _, _, _, _, _, _, _, _, _, _, _, rfl⟩ rfl (below_s7 HBF.out (Nat.le_refl _) _ _ _ _ _ _ _)
      · obtain rfl : n = i := by omega
        have HCO : Hid (codeOf W z n = 0) := Lib.hid (by
          unfold codeOf
          rw [if_pos HPB.out, Int.toNat_natCast, runC_ok HOK.out])
        have hbk := HR.out.m.m
        rw [HCE.out, HG.out] at hbk
        have m0 := (show _ = some (Value.int .i64 s.W) from hbk.cell 0)
        have m1 := (show _ = some (Value.int .i64 s.rk) from hbk.cell 1)
        have m2 := (show _ = some (Value.slice (some ⟨a.gf, 0, none⟩) s.W a.cf) from hbk.cell 2)
        have m3 := (show _ = some (Value.slice (some ⟨a.gk, 0, none⟩) s.W a.ck) from hbk.cell 3)
        have m4 := (show _ = some (Value.slice (some ⟨a.gc, 0, none⟩) 4 a.cc) from hbk.cell 4)
        have m5 := (show _ = some (Value.slice mL s.n mcL) from hbk.cell 5)
        have m6 := (show _ = some (Value.slice mD mqD mcD) from hbk.cell 6)
        have hres := HRES.out.below HR.out.b HLW.out
        have q0 := (show _ = some (Value.int .i64 0) from hres.cell 0)
        have q1 := (show _ = some (Value.int .i64 0) from hres.cell 1)
        have q2 := (show _ = some (Value.slice none 0 0) from hres.cell 2)
        have q3 := (show _ = some (Value.slice none 0 0) from hres.cell 3)
        have q4 := (show _ = some (Value.slice none 0 0) from hres.cell 4)
        have q5 := (show _ = some (Value.slice none 0 0) from hres.cell 5)
        have q6 := (show _ = some (Value.slice none 0 0) from hres.cell 6)
        have f0 := fun o => hres.frozen o
        have HBF := Lib.hid (HB0.out.trans (HR.out.b.mono HB0.out.size))
        clear hbk hres
        go_wp2_with fail
        refine bodyPost_ret (v := .tuple #[.agg #[.int .i64 s.W, .int .i64 s.rk, .slice (some ⟨a.gf, 0, none⟩) s.W a.cf, .slice (some ⟨a.gk, 0, none⟩) s.W a.ck, .slice (some ⟨a.gc, 0, none⟩) 4 a.cc, .slice mL s.n mcL, .slice mD mqD mcD], .int .i64 n, .int .i64 0]) (by simp [results, Try.results42, go_sem, q0, q1, q2, q3, q4, q5, q6]) rfl ?_
        exact RmP.of HCO.out _ _ ⟨_, _, _, _, _, _, _, _, _, _, _, _, _, _, _, _, _, rfl⟩ rfl (below_s7 HBF.out (Nat.le_refl _) _ _ _ _ _ _ _)
end Go.Proofs.Ytpmfkpehmckgmaa
