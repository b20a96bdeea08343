/- Walks: a program is run, by the program. No condition but the bounds. Walks: the code of a program, by the program. No condition but the bounds. -/
import Derived.Test.YtpmfkpehmckgmaaMachXY
import Derived.Test.YtpmfkpehmckgmaaMachN
namespace Go.Proofs.Ytpmfkpehmckgmaa
open Go.RowKit
set_option maxRecDepth 20000

theorem bedOk_B {W : Nat} {z : Nat → Int} {i : Nat} (h : opW W z i = true) : BedOk (z (i * 8)) (z (i * 8 + 2)) := by
  intro hk
  unfold opW at h
  generalize z (i * 8) = k at *
  generalize z (i * 8 + 1) = d at *
  generalize z (i * 8 + 2) = fb at *
  generalize z (i * 8 + 3) = fa at *
  generalize z (i * 8 + 4) = tb at *
  generalize z (i * 8 + 5) = ta at *
  generalize z (i * 8 + 6) = c at *
  generalize z (i * 8 + 7) = r at *
  unfold opB dirB ndB inB at h
  split at h
  · simp only [Bool.and_eq_true, decide_eq_true_eq, beq_iff_eq] at h; omega
  split at h
  · simp only [Bool.and_eq_true, decide_eq_true_eq, beq_iff_eq] at h; omega
  split at h
  · simp only [Bool.and_eq_true, decide_eq_true_eq, beq_iff_eq] at h; omega
  split at h
  · simp only [Bool.and_eq_true, decide_eq_true_eq, beq_iff_eq] at h; omega
  · omega
section
variable {tg : Nat → Nat} {a : MAdr} {s : Mst} {D : Nat} {w : World}
theorem execute_any {k d fb fa tb ta c r : Int} {j : Nat} (H : Mem tg a s w) (hs : MOk s D) (hD : D ≤ 1000000) (hp : OpOk s.W k d fb fa tb ta c r j) (hb : OpBeds k fb tb) (hf : BedOk k fb) :
    Calls Try.prog 64 #[.pointer (some ⟨a.g, 0, none⟩), .agg #[.int .i64 k, .int .i64 d, .int .i64 fb, .int .i64 fa, .int .i64 tb, .int .i64 ta, .int .i64 c, .int .i64 r]] w (ExP w tg a.g (doCode s k d fb fa tb ta j) (doSt s k d fb fa tb ta r j)) := by
  have hk : k = 1 ∨ k = 2 ∨ k = 3 ∨ k = 4 ∨ k = 5 ∨ k = 6 ∨ k = 7 ∨ k = 8 ∨ k = 9 := by have := hp.k1; have := hp.k9; omega
  rcases hk with rfl | rfl | rfl | rfl | rfl | rfl | rfl | rfl | rfl
  · exact execute_1 H hs hD hp hb hf
  · exact execute_2 H hs hD hp hb hf
  · exact execute_3 H hs hD hp hb hf
  · exact execute_4 H hs hD hp hb hf
  · exact execute_5 H hs hD hp hb hf
  · exact execute_6 H hs hD hp hb hf
  · exact execute_7 H hs hD hp hb hf
  · exact execute_8 H hs hD hp hb hf
  · exact execute_9 H hs hD hp hb hf
end
/-- The seven cells of a machine. -/
theorem Mem.seven {tg : Nat → Nat} {a : MAdr} {s : Mst} {w : World} (H : Mem tg a s w) : ∃ AL cL AD qD cD, cellsM a s = #[.int .i64 s.W, .int .i64 s.rk, .slice (some ⟨a.gf, 0, none⟩) s.W a.cf, .slice (some ⟨a.gk, 0, none⟩) s.W a.ck, .slice (some ⟨a.gc, 0, none⟩) 4 a.cc, .slice AL s.n cL, .slice AD qD cD] ∧
    w.cell? ⟨a.g, 0, none⟩ = some (.int .i64 s.W) ∧ w.cell? ⟨a.g, 1, none⟩ = some (.int .i64 s.rk) ∧ w.cell? ⟨a.g, 2, none⟩ = some (.slice (some ⟨a.gf, 0, none⟩) s.W a.cf) ∧ w.cell? ⟨a.g, 3, none⟩ = some (.slice (some ⟨a.gk, 0, none⟩) s.W a.ck) ∧ w.cell? ⟨a.g, 4, none⟩ = some (.slice (some ⟨a.gc, 0, none⟩) 4 a.cc) ∧ w.cell? ⟨a.g, 5, none⟩ = some (.slice AL s.n cL) ∧ w.cell? ⟨a.g, 6, none⟩ = some (.slice AD qD cD) := by
  obtain ⟨xs, hx, _⟩ := H.l
  obtain ⟨AL, cL, hL⟩ := own_form hx
  obtain ⟨q, _, xd, hd⟩ := H.d
  obtain ⟨AD, cD, hD⟩ := own_form hd
  refine ⟨AL, cL, AD, q, cD, by unfold cellsM; rw [hL, hD], H.m.cell 0, H.m.cell 1, H.m.cell 2, H.m.cell 3, H.m.cell 4, (H.m.cell 5).trans (by rw [← hL]; rfl), (H.m.cell 6).trans (by rw [← hD]; rfl)⟩
theorem MakesM.set7 {B : Nat} {v : Value} {s : Mst} {w : World} (h : MakesM B v s w) (g : Nat) (hg : g < B) (u0 u1 u2 u3 u4 u5 u6 : Value) : MakesM B v s (((((((w.setCell ⟨g, 0, none⟩ u0).setCell ⟨g, 1, none⟩ u1).setCell ⟨g, 2, none⟩ u2).setCell ⟨g, 3, none⟩ u3).setCell ⟨g, 4, none⟩ u4).setCell ⟨g, 5, none⟩ u5).setCell ⟨g, 6, none⟩ u6) :=
  ((((((h.set g _ _ hg).set g _ _ hg).set g _ _ hg).set g _ _ hg).set g _ _ hg).set g _ _ hg).set g _ _ hg
theorem below_set7 {B : Nat} {w w0 : World} (h : Below B w0 w) (g : Nat) (hg : B ≤ g) (u0 u1 u2 u3 u4 u5 u6 : Value) : Below B w0 (((((((w.setCell ⟨g, 0, none⟩ u0).setCell ⟨g, 1, none⟩ u1).setCell ⟨g, 2, none⟩ u2).setCell ⟨g, 3, none⟩ u3).setCell ⟨g, 4, none⟩ u4).setCell ⟨g, 5, none⟩ u5).setCell ⟨g, 6, none⟩ u6) :=
  ((((((h.setCell hg _).setCell hg _).setCell hg _).setCell hg _).setCell hg _).setCell hg _).setCell hg _
/-- The machine after a run, how far it came, its code. -/
def RunMP (w : World) (W : Nat) (z : Nat → Int) (n : Nat) (e : Ending) (w' : World) : Prop :=
  ∃ i v, e = .returned (.tuple #[v, .int .i64 (i : Nat), .int .i64 (runC W z n)]) ∧ i ≤ n ∧ okTo W z i ∧ (runC W z n = 0 → i = n) ∧ MakesM w.heap.size v (mSt W z i) w' ∧ Below w.heap.size w w'
set_option maxHeartbeats 4000000 in
theorem run_any (W : Nat) (A : Option Addr) (n q : Nat) (z : Nat → Int) (w : World) (ha : Rd w A (n * 8) (fun j => .int .i64 (z j))) (hW1 : 1 ≤ W) (hW2 : W ≤ 24) (hn : n ≤ 1500) (hops : ∀ i, i < n → opW W z i = true) :
    Calls Try.prog 76 #[.int .i64 W, .slice A n q] w (RunMP w W z n) := by
  have HB0 := Lib.hid ((Below.refl w.heap.size w).alloc (Nat.le_refl _) (.cells zeroM 69))
  have HA := Lib.hid (ha.below HB0.out)
  have HOPS := Lib.hid hops
  clear ha hops
  go_enter Try.func76, Try.ntmps76
  go_wp2_with fail
  refine (newMachine_any W _ hW2).mono ?_
  rintro e w2 ⟨v, rfl, ⟨tg0, ⟨g0, gf, cf, gk, ck, gc, cc, F0, K0, L0, D0⟩, rfl, hlo, hlt0, ⟨⟨AL, nL, cL, hL⟩, ⟨AD, nD, cD, hD⟩⟩, hmk⟩, hb2⟩
  obtain rfl : L0 = _ := hL
  obtain rfl : D0 = _ := hD
  have HB2 : Hid (Below (w.alloc (.cells zeroM 69)).heap.size (w.alloc (.cells zeroM 69)) w2) := Lib.hid hb2
  have H0 : Hid (Runs (w.alloc (.cells zeroM 69)) (onT tg0 w2.heap.size) ⟨w2.heap.size, gf, cf, gk, ck, gc, cc, F0, K0, .slice AL nL cL, .slice AD nD cD⟩ (mSt W z 0) (w2.alloc (.cells (cellsM ⟨g0, gf, cf, gk, ck, gc, cc, F0, K0, .slice AL nL cL, .slice AD nD cD⟩ (newM W)) 69))) := Lib.hid ⟨hmk _ _ (Decidable.byContradiction fun hn => Nat.lt_irrefl _ (hlt0 _ hn)) (fun b hb => Below.heap_alloc _ _ b (hlt0 b hb)) (by simp) (Blk.at_ _ _ _ rfl),
    HB2.out.alloc HB2.out.size _, fun q hq => by
      unfold onT at hq
      split at hq
      · have := HB2.out.size; omega
      · exact hlo q hq⟩
  clear hlo hlt0 hmk hb2
  have hw2s : w.heap.size + 1 ≤ w2.heap.size := by have := HB2.out.size; simpa using this
  simp only [cellsM, newM] at H0 ⊢
  go_wp2_with fail
  go_loopw [15] (fun iv wr => ∃ (i : Nat) (tg : Nat → Nat) (a : MAdr), i ≤ n ∧ iv = .int .i64 i ∧ a.g = w2.heap.size ∧ Runs (w.alloc (.cells zeroM 69)) tg a (mSt W z i) wr ∧ okTo W z i) (fun iv _ => n - (intOf iv).toNat)
  case atStart => exact ⟨0, _, _, Nat.zero_le _, rfl, rfl, H0.out, fun i hi => by omega⟩
  case round =>
    obtain ⟨i, tg, a, hile, rfl, hg, hr, hok⟩ := hrel
    have HG := Lib.hid hg
    have HR := Lib.hid hr
    have HOK := Lib.hid hok
    have HRES : Hid (∀ w', Runs (w.alloc (.cells zeroM 69)) tg a (mSt W z i) w' → Blk w' w.heap.size 69 zeroM) := Lib.hid fun w' h => Blk.below (Blk.at_ w 69 zeroM rfl) h.b (by simp)
    clear hg hr hok
    by_cases hlt : i < n
    · have HLT := Lib.hid hlt
      obtain ⟨ga, o, rfl, hga, hra⟩ := HA.out (by omega)
      have hce := opCe_of (hra.below hga HR.out.b) hlt
      have hs := mSt_ok hW1 hW2 i (fun q hq => HOPS.out q (by omega)) HOK.out
      have hp := opOk_at hW1 (HOPS.out i hlt)
      rw [← mSt_W W z i] at hp
      have hbd := opBeds_B (HOPS.out i hlt)
      have hbo := bedOk_B (HOPS.out i hlt)
      generalize hx0 : z (i * 8) = k at *
      generalize hx1 : z (i * 8 + 1) = d at *
      generalize hx2 : z (i * 8 + 2) = fb at *
      generalize hx3 : z (i * 8 + 3) = fa at *
      generalize hx4 : z (i * 8 + 4) = tb at *
      generalize hx5 : z (i * 8 + 5) = ta at *
      generalize hx6 : z (i * 8 + 6) = c at *
      generalize hx7 : z (i * 8 + 7) = r at *
      have HX0 := Lib.hid hx0
      have HX1 := Lib.hid hx1
      have HX2 := Lib.hid hx2
      have HX3 := Lib.hid hx3
      have HX4 := Lib.hid hx4
      have HX5 := Lib.hid hx5
      have HX6 := Lib.hid hx6
      have HX7 := Lib.hid hx7
      have HS := Lib.hid hs
      have HP := Lib.hid hp
      have HBD := Lib.hid hbd
      have HBO := Lib.hid hbo
      have o0 := hce.c0
      have o1 := hce.c1
      have o2 := hce.c2
      have o3 : wr.cell? ⟨ga, o + i * 8 + 3, none⟩ = some (.int .i64 fa) := hce.c3
      have o4 := hce.c4
      have o5 : wr.cell? ⟨ga, o + i * 8 + 5, none⟩ = some (.int .i64 ta) := hce.c5
      have o6 := hce.c6
      have o7 := hce.c7
      clear hx0 hx1 hx2 hx3 hx4 hx5 hx6 hx7 hce hs hp hra hga hbd hbo
      have HR1 := Lib.hid (HR.out.below ((Below.refl wr.heap.size wr).alloc (Nat.le_refl _) (.cells #[.int .i64 k, .int .i64 d, .int .i64 fb, .int .i64 fa, .int .i64 tb, .int .i64 ta, .int .i64 c, .int .i64 r] 58)))
      have hex := execute_any (D := 4 * i) (k := k) (d := d) (fb := fb) (fa := fa) (tb := tb) (ta := ta) (c := c) (r := r) HR1.out.m HS.out (by omega) HP.out HBD.out HBO.out
      rw [HG.out] at hex
      obtain ⟨code, hcode⟩ : ∃ y, y = doCode (mSt W z i) k d fb fa tb ta (c - 1).toNat := ⟨_, rfl⟩
      rw [← hcode] at hex
      have HCODE := Lib.hid hcode
      have HEX := Lib.hid hex
      clear hex hcode
      go_wp2_with fail
      refine HEX.out.mono ?_
      rintro e w6 ⟨rfl, hf6, hm6⟩
      by_cases hc0 : code = 0
      · obtain ⟨tg7, a7, hg7, hr7, _⟩ := HR1.out.step (by rw [HG.out]; exact hm6 hc0)
        subst hc0
        have HKC : Hid (kC (mSt W z i) z i = 0) := Lib.hid (by unfold kC; rw [HX0.out, HX1.out, HX2.out, HX3.out, HX4.out, HX5.out, HX6.out]; exact HCODE.out.symm)
        have HR7 : Hid (Runs (w.alloc (.cells zeroM 69)) tg7 a7 (mSt W z (i + 1)) w6) := Lib.hid (by
          have e : doSt (mSt W z i) k d fb fa tb ta r (c - 1).toNat = mSt W z (i + 1) := by
            show _ = kS (mSt W z i) z i
            unfold kS
            rw [HX0.out, HX1.out, HX2.out, HX3.out, HX4.out, HX5.out, HX6.out, HX7.out]
          rw [← e]; exact hr7)
        have HG7 : Hid (a7.g = w2.heap.size) := Lib.hid (hg7.trans HG.out)
        clear hm6 hf6 hg7 hr7 o0 o1 o2 o3 o4 o5 o6 o7
        go_wp2_with fail
        go_roundw
        case rel => exact ⟨i + 1, tg7, a7, HLT.out, by go_num, HG7.out, HR7.out, okTo_succ HOK.out HKC.out⟩
        case measure => simp [intOf] <;> omega
      · have HKC : Hid (kC (mSt W z i) z i = code) := Lib.hid (by unfold kC; rw [HX0.out, HX1.out, HX2.out, HX3.out, HX4.out, HX5.out, HX6.out]; exact HCODE.out.symm)
        have HCO : Hid (runC W z n = code) := Lib.hid (by rw [runC_stop HOK.out HLT.out (by rw [HKC.out]; exact hc0), HKC.out])
        have HR6 := Lib.hid (HR1.out.below (hf6 hc0))
        have hc1 : (code == 0) = false := by simpa using hc0
        have HC0 := Lib.hid hc0
        clear hm6 hf6 hc0 o0 o1 o2 o3 o4 o5 o6 o7
        have hres := HRES.out _ HR6.out
        have q0 := (show w6.cell? ⟨w.heap.size, 0, none⟩ = some (Value.int .i64 0) from hres.cell 0)
        have q1 := (show w6.cell? ⟨w.heap.size, 1, none⟩ = some (Value.int .i64 0) from hres.cell 1)
        have q2 := (show w6.cell? ⟨w.heap.size, 2, none⟩ = some (Value.slice none 0 0) from hres.cell 2)
        have q3 := (show w6.cell? ⟨w.heap.size, 3, none⟩ = some (Value.slice none 0 0) from hres.cell 3)
        have q4 := (show w6.cell? ⟨w.heap.size, 4, none⟩ = some (Value.slice none 0 0) from hres.cell 4)
        have q5 := (show w6.cell? ⟨w.heap.size, 5, none⟩ = some (Value.slice none 0 0) from hres.cell 5)
        have q6 := (show w6.cell? ⟨w.heap.size, 6, none⟩ = some (Value.slice none 0 0) from hres.cell 6)
        have f0 := fun o => hres.frozen o
        obtain ⟨BL, dL, BD, qD, dD, hcm, m0, m1, m2, m3, m4, m5, m6⟩ := HR6.out.m.seven
        rw [HG.out] at m0 m1 m2 m3 m4 m5 m6
        have HCM := Lib.hid hcm
        have HMK : Hid (MakesM (w.heap.size + 1) (.agg (cellsM a (mSt W z i))) (mSt W z i) w6) := Lib.hid (HR6.out.m.makes fun b hb => by have := HR6.out.lo b hb; simpa using this)
        have HBL : Hid (Below w.heap.size w w6) := Lib.hid (((Below.refl w.heap.size w).alloc (Nat.le_refl _) (.cells zeroM 69)).trans (HR6.out.b.mono (by simp)))
        rw [hcm] at HMK
        clear hres hcm
        go_wp2_with fail
        refine bodyPost_ret (v := .tuple #[.agg #[.int .i64 (mSt W z i).W, .int .i64 (mSt W z i).rk, .slice (some ⟨a.gf, 0, none⟩) (mSt W z i).W a.cf, .slice (some ⟨a.gk, 0, none⟩) (mSt W z i).W a.ck, .slice (some ⟨a.gc, 0, none⟩) 4 a.cc, .slice BL (mSt W z i).n dL, .slice BD qD dD], .int .i64 (i : Nat), .int .i64 code]) (by simp [results, Try.results76, go_sem, q0, q1, q2, q3, q4, q5, q6]) rfl ?_
        exact ⟨i, _, by rw [HCO.out], hile, HOK.out, fun h => absurd (HCO.out.symm.trans h) HC0.out, (HMK.out.set7 w.heap.size (Nat.lt_succ_self _) _ _ _ _ _ _ _).lower (Nat.le_succ _), below_set7 HBL.out _ (Nat.le_refl _) _ _ _ _ _ _ _⟩
    · obtain rfl : n = i := by omega
      have HCO : Hid (runC W z n = 0) := Lib.hid (runC_ok HOK.out)
      have hres := HRES.out _ HR.out
      have q0 := (show wr.cell? ⟨w.heap.size, 0, none⟩ = some (Value.int .i64 0) from hres.cell 0)
      have q1 := (show wr.cell? ⟨w.heap.size, 1, none⟩ = some (Value.int .i64 0) from hres.cell 1)
      have q2 := (show wr.cell? ⟨w.heap.size, 2, none⟩ = some (Value.slice none 0 0) from hres.cell 2)
      have q3 := (show wr.cell? ⟨w.heap.size, 3, none⟩ = some (Value.slice none 0 0) from hres.cell 3)
      have q4 := (show wr.cell? ⟨w.heap.size, 4, none⟩ = some (Value.slice none 0 0) from hres.cell 4)
      have q5 := (show wr.cell? ⟨w.heap.size, 5, none⟩ = some (Value.slice none 0 0) from hres.cell 5)
      have q6 := (show wr.cell? ⟨w.heap.size, 6, none⟩ = some (Value.slice none 0 0) from hres.cell 6)
      have f0 := fun o => hres.frozen o
      obtain ⟨BL, dL, BD, qD, dD, hcm, m0, m1, m2, m3, m4, m5, m6⟩ := HR.out.m.seven
      rw [HG.out] at m0 m1 m2 m3 m4 m5 m6
      have HCM := Lib.hid hcm
      have HMK : Hid (MakesM (w.heap.size + 1) (.agg (cellsM a (mSt W z n))) (mSt W z n) wr) := Lib.hid (HR.out.m.makes fun b hb => by have := HR.out.lo b hb; simpa using this)
      have HBL : Hid (Below w.heap.size w wr) := Lib.hid (((Below.refl w.heap.size w).alloc (Nat.le_refl _) (.cells zeroM 69)).trans (HR.out.b.mono (by simp)))
      rw [hcm] at HMK
      clear hres hcm
      go_wp2_with fail
      refine bodyPost_ret (v := .tuple #[.agg #[.int .i64 (mSt W z n).W, .int .i64 (mSt W z n).rk, .slice (some ⟨a.gf, 0, none⟩) (mSt W z n).W a.cf, .slice (some ⟨a.gk, 0, none⟩) (mSt W z n).W a.ck, .slice (some ⟨a.gc, 0, none⟩) 4 a.cc, .slice BL (mSt W z n).n dL, .slice BD qD dD], .int .i64 (n : Nat), .int .i64 0]) (by simp [results, Try.results76, go_sem, q0, q1, q2, q3, q4, q5, q6]) rfl ?_
      exact ⟨n, _, by rw [HCO.out], Nat.le_refl _, HOK.out, fun _ => rfl, (HMK.out.set7 w.heap.size (Nat.lt_succ_self _) _ _ _ _ _ _ _).lower (Nat.le_succ _), below_set7 HBL.out _ (Nat.le_refl _) _ _ _ _ _ _ _⟩
end Go.Proofs.Ytpmfkpehmckgmaa

namespace Go.Proofs.Ytpmfkpehmckgmaa
open Go.RowKit
set_option maxRecDepth 20000

/-- A machine as a value: seven cells. -/
def MachV (v : Value) : Prop := ∃ (a0 a1 : Int) (A2 A3 A4 A5 A6 : Option Addr) (n2 c2 n3 c3 n4 c4 n5 c5 n6 c6 : Nat), v = .agg #[.int .i64 a0, .int .i64 a1, .slice A2 n2 c2, .slice A3 n3 c3, .slice A4 n4 c4, .slice A5 n5 c5, .slice A6 n6 c6]
theorem MakesM.v {B : Nat} {v : Value} {s : Mst} {w : World} (h : MakesM B v s w) : MachV v := by
  obtain ⟨tg, ⟨g0, gf, cf, gk, ck, gc, cc, F0, K0, L0, D0⟩, rfl, _, _, ⟨⟨AL, nL, cL, hL⟩, ⟨AD, nD, cD, hD⟩⟩, _⟩ := h
  obtain rfl : L0 = _ := hL
  obtain rfl : D0 = _ := hD
  exact ⟨_, _, _, _, _, _, _, _, _, _, _, _, _, _, _, _, _, rfl⟩
def RunCP (w : World) (c : Int) (e : Ending) (w' : World) : Prop := ∃ (i : Nat) (v : Value), e = .returned (.tuple #[v, .int .i64 i, .int .i64 c]) ∧ MachV v ∧ Below w.heap.size w w'
theorem prog_parts {W : Int} {z : Nat → Int} {n : Nat} (h : progB W z n = true) : ∃ W' : Nat, W = W' ∧ 1 ≤ W' ∧ W' ≤ 24 ∧ n ≤ 1500 ∧ (∀ i, i < n → opW W' z i = true) ∧ codeOf W z n = runC W' z n := by
  have hpp : inB W 1 24 = true ∧ n ≤ 1500 ∧ opsB W z n = true := by
    have h' := h
    unfold progB at h'
    simpa only [Bool.and_eq_true, decide_eq_true_eq] using h'
  have hW : 1 ≤ W ∧ W ≤ 24 := by have := hpp.1; unfold inB at this; simpa only [Bool.and_eq_true, decide_eq_true_eq] using this
  obtain ⟨W', rfl⟩ := Int.eq_ofNat_of_zero_le (show 0 ≤ W by omega)
  exact ⟨W', rfl, by omega, by omega, hpp.2.1, opsB_all hpp.2.2, by unfold codeOf; rw [if_pos h, Int.toNat_natCast]⟩
set_option maxHeartbeats 1000000 in
theorem runMachine_any (W : Int) (A : Option Addr) (n q : Nat) (z : Nat → Int) (w : World) (ha : Rd w A (n * 8) (fun j => .int .i64 (z j))) (hn : n ≤ 1048576) :
    Calls Try.prog 62 #[.int .i64 W, .slice A n q] w (RunCP w (codeOf W z n)) := by
  have HB0 := Lib.hid ((Below.refl w.heap.size w).alloc (Nat.le_refl _) (.cells zeroM 69))
  have HA0 := Lib.hid (ha.below HB0.out)
  have hvf := validFor_any W A n q z _ HA0.out hn
  obtain ⟨cd, hcd⟩ : ∃ c, c = codeOf W z n := ⟨_, rfl⟩
  rw [← hcd]
  cases hpb : progB W z n
  · rw [hpb] at hvf
    obtain rfl : cd = 1 := by rw [hcd]; exact codeOf_no hpb
    have HV := Lib.hid hvf
    clear hvf hpb ha hcd
    go_enter Try.func62, Try.ntmps62
    go_wp2_with fail
    refine HV.out.mono ?_
    rintro e w1 ⟨rfl, hb1⟩
    have hres := Blk.below (Blk.at_ w 69 zeroM rfl) hb1 (by simp)
    have q0 := (show w1.cell? ⟨w.heap.size, 0, none⟩ = some (Value.int .i64 0) from hres.cell 0)
    have q1 := (show w1.cell? ⟨w.heap.size, 1, none⟩ = some (Value.int .i64 0) from hres.cell 1)
    have q2 := (show w1.cell? ⟨w.heap.size, 2, none⟩ = some (Value.slice none 0 0) from hres.cell 2)
    have q3 := (show w1.cell? ⟨w.heap.size, 3, none⟩ = some (Value.slice none 0 0) from hres.cell 3)
    have q4 := (show w1.cell? ⟨w.heap.size, 4, none⟩ = some (Value.slice none 0 0) from hres.cell 4)
    have q5 := (show w1.cell? ⟨w.heap.size, 5, none⟩ = some (Value.slice none 0 0) from hres.cell 5)
    have q6 := (show w1.cell? ⟨w.heap.size, 6, none⟩ = some (Value.slice none 0 0) from hres.cell 6)
    have f0 := fun o => hres.frozen o
    have HB1 := Lib.hid (HB0.out.trans (hb1.mono HB0.out.size))
    clear hb1 hres
    go_wp2_with fail
    refine bodyPost_ret (v := .tuple #[.agg zeroM, .int .i64 0, .int .i64 1]) (by simp [results, Try.results62, go_sem, q0, q1, q2, q3, q4, q5, q6]) rfl ?_
    exact ⟨0, _, rfl, ⟨_, _, _, _, _, _, _, _, _, _, _, _, _, _, _, _, _, rfl⟩, below_set7 HB1.out _ (Nat.le_refl _) _ _ _ _ _ _ _⟩
  · rw [hpb] at hvf
    obtain ⟨W, rfl, hW1, hW2, hn15, hops, hco⟩ := prog_parts hpb
    have hce : runC W z n = cd := hco.symm.trans hcd.symm
    have HCE := Lib.hid hce
    have HV := Lib.hid hvf
    have HOPS := Lib.hid hops
    clear hvf hpb ha hcd hops hco hce
    go_enter Try.func62, Try.ntmps62
    go_wp2_with fail
    refine HV.out.mono ?_
    rintro e w1 ⟨rfl, hb1⟩
    have HR1 := Lib.hid (HA0.out.below hb1)
    have HBW := Lib.hid hb1
    clear hb1
    go_wp2_with fail
    refine (run_any W A n q z w1 HR1.out hW1 hW2 hn15 HOPS.out).mono ?_
    rintro e w2 ⟨i, v, rfl, _, _, _, hmk, hb2⟩
    obtain ⟨a0, a1, A2, A3, A4, A5, A6, n2, c2, n3, c3, n4, c4, n5, c5, n6, c6, rfl⟩ := hmk.v
    rw [HCE.out]
    have hb12 := HBW.out.trans (hb2.mono HBW.out.size)
    have hres := Blk.below (Blk.at_ w 69 zeroM rfl) hb12 (by simp)
    have q0 := (show w2.cell? ⟨w.heap.size, 0, none⟩ = some (Value.int .i64 0) from hres.cell 0)
    have q1 := (show w2.cell? ⟨w.heap.size, 1, none⟩ = some (Value.int .i64 0) from hres.cell 1)
    have q2 := (show w2.cell? ⟨w.heap.size, 2, none⟩ = some (Value.slice none 0 0) from hres.cell 2)
    have q3 := (show w2.cell? ⟨w.heap.size, 3, none⟩ = some (Value.slice none 0 0) from hres.cell 3)
    have q4 := (show w2.cell? ⟨w.heap.size, 4, none⟩ = some (Value.slice none 0 0) from hres.cell 4)
    have q5 := (show w2.cell? ⟨w.heap.size, 5, none⟩ = some (Value.slice none 0 0) from hres.cell 5)
    have q6 := (show w2.cell? ⟨w.heap.size, 6, none⟩ = some (Value.slice none 0 0) from hres.cell 6)
    have f0 := fun o => hres.frozen o
    have HB2 := Lib.hid (HB0.out.trans (hb12.mono HB0.out.size))
    clear hmk hb2 hb12 hres
    go_wp2_with fail
    refine bodyPost_ret (v := .tuple #[.agg #[.int .i64 a0, .int .i64 a1, .slice A2 n2 c2, .slice A3 n3 c3, .slice A4 n4 c4, .slice A5 n5 c5, .slice A6 n6 c6], .int .i64 (i : Nat), .int .i64 cd]) (by simp [results, Try.results62, go_sem, q0, q1, q2, q3, q4, q5, q6]) rfl ?_
    exact ⟨i, _, rfl, ⟨_, _, _, _, _, _, _, _, _, _, _, _, _, _, _, _, _, rfl⟩, below_set7 HB2.out _ (Nat.le_refl _) _ _ _ _ _ _ _⟩
theorem runCode_any (W : Int) (A : Option Addr) (n q : Nat) (z : Nat → Int) (w : World) (ha : Rd w A (n * 8) (fun j => .int .i64 (z j))) (hn : n ≤ 1048576) :
    Calls Try.prog 39 #[.int .i64 W, .slice A n q] w fun e w' => e = .returned (.int .i64 (codeOf W z n)) ∧ Below w.heap.size w w' := by
  obtain ⟨cd, hcd⟩ : ∃ c, c = codeOf W z n := ⟨_, rfl⟩
  have hrm := runMachine_any W A n q z w ha hn
  rw [← hcd] at hrm ⊢
  have HRM := Lib.hid hrm
  clear hrm ha hcd
  go_enter Try.func39, Try.ntmps39
  go_wp2_with fail
  refine HRM.out.mono ?_
  rintro e w2 ⟨i, v, rfl, ⟨a0, a1, A2, A3, A4, A5, A6, n2, c2, n3, c3, n4, c4, n5, c5, n6, c6, rfl⟩, hb2⟩
  have HB2 := Lib.hid hb2
  clear hb2
  go_wp2_with fail
  go_ret
  exact ⟨rfl, HB2.out.alloc HB2.out.size _⟩
end Go.Proofs.Ytpmfkpehmckgmaa
