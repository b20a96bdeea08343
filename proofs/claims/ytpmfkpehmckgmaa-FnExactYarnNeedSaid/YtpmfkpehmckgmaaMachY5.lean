/- Walks: a split is executed, by the program. No condition but the machine's bounds and the operation's. (Printed by wip/exgen.py.) -/
import Derived.Test.YtpmfkpehmckgmaaMachXp
namespace Go.Proofs.Ytpmfkpehmckgmaa
open Go.RowKit
set_option maxRecDepth 20000

section
variable {tg : Nat → Nat} {a : MAdr} {s : Mst} {D : Nat} {w : World}
set_option maxHeartbeats 4000000 in
theorem execute_5 {d fb fa tb ta c r : Int} {j : Nat} (H : Mem tg a s w) (hs : MOk s D) (hD : D ≤ 1000000) (hp : OpOk s.W 5 d fb fa tb ta c r j) (hb : OpBeds 5 fb tb) (hf : BedOk 5 fb) : Calls Try.prog 64 #[.pointer (some ⟨a.g, 0, none⟩), .agg #[.int .i64 5, .int .i64 d, .int .i64 fb, .int .i64 fa, .int .i64 tb, .int .i64 ta, .int .i64 c, .int .i64 r]] w (ExP w tg a.g (doCode s 5 d fb fa tb ta j) (doSt s 5 d fb fa tb ta r j)) := by
  have hg : Below w.heap.size w (w.alloc (.cells #[.int .i64 5, .int .i64 d, .int .i64 fb, .int .i64 fa, .int .i64 tb, .int .i64 ta, .int .i64 c, .int .i64 r] 58)) := (Below.refl _ _).alloc (Nat.le_refl _) _
  have HG := Lib.hid hg
  have HA0 := Lib.hid (At.start (H.below hg))
  have hbox := box_ce w 5 d fb fa tb ta c r
  have HBX := Lib.hid hbox
  have HTW : Hid (tg w.heap.size = 0) := Lib.hid (Decidable.byContradiction fun hn => Nat.lt_irrefl _ (H.lt _ hn))
  have hoc := opCode_any (H.below hg) hs hp hb hf
  obtain ⟨code, hcode⟩ : ∃ z, z = doCode s 5 d fb fa tb ta j := ⟨_, rfl⟩
  rw [← hcode] at hoc ⊢
  obtain ⟨s9, hs9⟩ : ∃ z, z = doSt s 5 d fb fa tb ta r j := ⟨_, rfl⟩
  rw [← hs9]
  have HC := Lib.hid hcode
  have HS9 := Lib.hid hs9
  have HOC := Lib.hid hoc
  have HS := Lib.hid hs
  have HP := Lib.hid hp
  have HB := Lib.hid hb
  have HF := Lib.hid hf
  have hlA : ∃ AL cL, a.L = .slice AL s.n cL := HA0.out.L
  have HLA := Lib.hid hlA
  clear H hs hp hb hf hg hoc hcode hs9 hbox hlA
  go_enter Try.func64, Try.ntmps64
  go_wp2_with fail
  refine HOC.out.mono ?_
  rintro e w1 ⟨rfl, hb1⟩
  by_cases hc0 : code = 0
  · subst hc0
    have HA1 := Lib.hid (HA0.out.below hb1)
    have HO1 := Lib.hid (HA1.out.op HBX.out HTW.out).1
    clear hb1 HOC
    obtain ⟨rfl, hj⟩ := HP.out.car (by omega) (by omega) (by omega)
    have HJ := Lib.hid hj
    have hd := HP.out.dir (by omega) (by omega) (by omega) (by omega)
    have ha0 := HP.out.f0
    have ha1 := HP.out.f1
    have hw2 := HS.out.w2
    have hr1 := HS.out.r1
    have hr2 := HS.out.r2
    have hfb := HF.out (by omega)
    have hbb := HB.out (.inr rfl)
    have hn3 := doCode_n HC.out.symm (by omega)
    have hta0 := HP.out.t0
    have hta1 := HP.out.t1
    have hmc : moveCode s fb fa tb ta = 0 := by
      have h := HC.out
      unfold doCode at h
      rw [if_pos (by omega)] at h
      unfold formCode at h
      split at h
      · rw [if_neg (by omega), if_neg (by omega), if_neg (by omega)] at h
        exact h.symm
      · omega
    have hnz : lstN s fb fa ≠ 0 := by
      have h := hmc
      unfold moveCode at h
      intro h0
      rw [if_pos h0] at h
      split at h <;> omega
    have h4f := lstN_le (b := fb) HS.out ha0 ha1
    have HMS : Hid (MOk (moveSt s fb fa tb ta) D) := Lib.hid (by
      have h := hmc
      unfold moveCode at h
      unfold moveSt
      refine setN_ok (setN_ok HS.out _ _ ?_) _ _ (Nat.zero_le _)
      by_cases hpl : placeI fb fa s.rk = placeI tb ta s.rk
      · rw [if_pos hpl, if_neg hnz] at h
        by_cases hov : 4 < lstN s fb fa + lstN s tb ta
        · rw [if_pos hov] at h; omega
        · omega
      · rw [if_neg hpl] at h; omega)
    have htr := transfer_any fb fa tb ta (HA1.out.below ((Below.refl w1.heap.size w1).drew)).m HS.out hbb ha0 ha1 hta0 hta1 hnz
    have HTR := Lib.hid htr
    clear htr hbb hnz hmc
    have o0 := HO1.out.c0
    have o1 := HO1.out.c1
    have o2 := HO1.out.c2
    have o3 := HO1.out.c3
    have o4 := HO1.out.c4
    have o5 := HO1.out.c5
    have o6 := HO1.out.c6
    have o7 := HO1.out.c7
    rw [Nat.zero_add] at o1 o2 o3 o4 o5 o6 o7
    have HST : Hid (s9 = { setN (more (moveSt s fb fa tb ta)) fb fa 1 with cat := newAt s d (placeI fb fa s.rk) j }) := Lib.hid (by rw [HS9.out, doSt_5])
    have x3 : w1.cell? ⟨w.heap.size, 3, none⟩ = some (.int .i64 fa) := o3
    have x5 : w1.cell? ⟨w.heap.size, 5, none⟩ = some (.int .i64 ta) := o5
    have LO := Lib.hid (World.block_lt_of_cell? w1 _ o0)
    have KS := Lib.hid (And.intro o0 (And.intro o1 (And.intro o2 (And.intro x3 (And.intro o4 (And.intro x5 (And.intro o6 o7)))))))
    clear x3 x5
    go_wp2_with fail
    go_region_held3 (fun w' => w'.cell? ⟨w.heap.size, 0, none⟩ = some (.int .i64 (5)) ∧ w'.cell? ⟨w.heap.size, 1, none⟩ = some (.int .i64 (d)) ∧ w'.cell? ⟨w.heap.size, 2, none⟩ = some (.int .i64 (fb)) ∧ w'.cell? ⟨w.heap.size, 3, none⟩ = some (.int .i64 (fa)) ∧ w'.cell? ⟨w.heap.size, 4, none⟩ = some (.int .i64 (tb)) ∧ w'.cell? ⟨w.heap.size, 5, none⟩ = some (.int .i64 (ta)) ∧ w'.cell? ⟨w.heap.size, 6, none⟩ = some (.int .i64 ((j : Int) + 1)) ∧ w'.cell? ⟨w.heap.size, 7, none⟩ = some (.int .i64 (r))) (go_keep)
      (first
        | (go_at_call 95; refine HTR.out.mono ?_; rintro e w2 ⟨v, tg2, a2, rfl, hat2, hlv, hnil, h8⟩; obtain ⟨Av, cv, rfl⟩ := hlv.form; have HA2 := Lib.hid ((HA1.out.below ((Below.refl w1.heap.size w1).drew)).comp hat2); have HLV := Lib.hid hlv; have HNIL := Lib.hid hnil; have H8 := Lib.hid h8; have HO2 := Lib.hid (HA2.out.op HBX.out HTW.out).1; have y0 := HO2.out.c0; have y1 := HO2.out.c1; have y2 := HO2.out.c2; have y3 : w2.cell? ⟨w.heap.size, 3, none⟩ = some (.int .i64 fa) := HO2.out.c3; have y4 := HO2.out.c4; have y5 : w2.cell? ⟨w.heap.size, 5, none⟩ = some (.int .i64 ta) := HO2.out.c5; have y6 := HO2.out.c6; have y7 := HO2.out.c7; rw [Nat.zero_add] at y1 y2 y4 y6 y7; clear hat2 hlv hnil h8 o0 o1 o2 o3 o4 o5 o6 o7)
        | (go_at_call 94; have hlp := loop_any 5 d fb fa tb ta ((j : Int) + 1) r (.slice Av (lstN s fb fa) cv) (lstN s fb fa) HA2.out.m HMS.out hfb ha0 (by rw [moveSt_W]; exact ha1) (by rw [moveSt_n]; exact hn3) HLV.out (by omega) (fun q hq => ⟨H8.out q hq, by rw [HNIL.out]; exact fun e => by cases e⟩); rw [HA2.out.g] at hlp; refine hlp.mono ?_; rintro e w5 ⟨rfl, hm5⟩; clear hlp; rw [show lstN (moveSt s fb fa tb ta) fb fa = 0 from lstN_put _ _ _ _] at hm5; obtain ⟨tg5, a5, hat5, _, _⟩ := HA2.out.next hm5; have HA5 : Hid (At _ tg a.g (setN (more (moveSt s fb fa tb ta)) fb fa 1) w5 tg5 a5) := Lib.hid hat5; have HO5 := Lib.hid (HA5.out.op HBX.out HTW.out).1; have p0 := HO5.out.c0; have p1 := HO5.out.c1; have p2 := HO5.out.c2; have p3 : w5.cell? ⟨w.heap.size, 3, none⟩ = some (.int .i64 fa) := HO5.out.c3; have p4 := HO5.out.c4; have p5 : w5.cell? ⟨w.heap.size, 5, none⟩ = some (.int .i64 ta) := HO5.out.c5; have p6 := HO5.out.c6; have p7 := HO5.out.c7; rw [Nat.zero_add] at p1 p2 p4 p6 p7; have HCE : Hid ((setN (more (moveSt s fb fa tb ta)) fb fa 1).cat = s.cat) := Lib.hid (by rw [setN_catE]; show (moveSt s fb fa tb ta).cat = _; unfold moveSt; rw [setN_catE, setN_catE]); clear hm5 hat5 y0 y1 y2 y3 y4 y5 y6 y7))
    rename_i hHeld
    clear hHeld p1 p2 p3 p4 p5 p6 p7 KS LO
    go_wp2_with (go_at_call 97; refine (makesLoop_any _ _ (by omega) (by omega)).mono ?_; rintro e w' ⟨rfl, rfl⟩)
    rcases hd with rfl | rfl
    · have t4 := (show _ = some (Value.slice (some ⟨a5.gc, 0, none⟩) 4 a5.cc) from HA5.out.m.m.cell 4)
      have t1 := (show _ = some (Value.int .i64 (setN (more (moveSt s fb fa tb ta)) fb fa 1).rk) from HA5.out.m.m.cell 1)
      rw [HA5.out.g] at t4 t1
      rw [show (setN (more (moveSt s fb fa tb ta)) fb fa 1).rk = s.rk by (rw [setN_rk]; show (moveSt s fb fa tb ta).rk = _; unfold moveSt; rw [setN_rk, setN_rk])] at t1
      have u1 := HO5.out.c1
      have u2 := HO5.out.c2
      have u3 := HO5.out.c3
      have u6 := HO5.out.c6
      rw [Nat.zero_add] at u1 u2 u3 u6
      have hwj : IntKind.i64.wrap (j : Int) = j := by rw [IntKind.wrap_i64]; omega
      have hj0 : (0 : Int) ≤ j := by omega
      have hj4 : (j : Int) < 4 := by omega
      obtain ⟨x, hx⟩ : ∃ x, x = placeI fb fa s.rk := ⟨_, rfl⟩
      have hxb := placeI_bd (b := fb) ha0 (show fa ≤ 23 by omega) hr1 hr2
      rw [← hx] at hxb
      have HX := Lib.hid hx
      clear hx
      have hwx : IntKind.i64.wrap (x + 1) = x + 1 := by rw [IntKind.wrap_i64]; omega
      have hwy : IntKind.i64.wrap x = x := by rw [IntKind.wrap_i64]; omega
      have hv2 : IntKind.i64.wrap ((IntKind.i64.wrap 2).tdiv 2) = 1 := by decide
      have hv0 : IntKind.i64.wrap ((IntKind.i64.wrap 0).tdiv 2) = 0 := by decide
      have hq1 : ∀ (W : World) (x : Nat) (v : Value) (q : Nat), (W.setCell ⟨a5.gc, x, none⟩ v).cell? ⟨a.g, q, none⟩ = W.cell? ⟨a.g, q, none⟩ := fun W x v q => World.cell?_setCell_other W _ _ v (by intro e; injection e with e1 e2; have h1 := HA5.out.m.tc; have h2 := HA5.out.m.tm; rw [HA5.out.g] at h2; rw [e1] at h1; omega)
      have hq2 : ∀ (W : World) (x : Nat) (v : Value) (q : Nat), (W.setCell ⟨a5.gc, x, none⟩ v).cell? ⟨w.heap.size, q, none⟩ = W.cell? ⟨w.heap.size, q, none⟩ := fun W x v q => World.cell?_setCell_other W _ _ v (by intro e; injection e with e1 e2; have h1 := HA5.out.m.tc; have h2 := (HA5.out.op HBX.out HTW.out).2; rw [e1] at h1; omega)
      have LG := Lib.hid (World.block_lt_of_cell? w5 _ t4)
      have LO := Lib.hid (World.block_lt_of_cell? w5 _ u1)
      have KS := Lib.hid (And.intro t4 (And.intro t1 (And.intro u1 (And.intro u2 (And.intro u3 u6)))))
      go_region_held3 (fun w' => w'.cell? ⟨a.g, 4, none⟩ = some (.slice (some ⟨a5.gc, 0, none⟩) 4 a5.cc) ∧ w'.cell? ⟨a.g, 1, none⟩ = some (.int .i64 s.rk) ∧ w'.cell? ⟨w.heap.size, 1, none⟩ = some (.int .i64 (1)) ∧ w'.cell? ⟨w.heap.size, 2, none⟩ = some (.int .i64 fb) ∧ w'.cell? ⟨w.heap.size, 2 + 1, none⟩ = some (.int .i64 fa) ∧ w'.cell? ⟨w.heap.size, 6, none⟩ = some (.int .i64 ((j : Int) + 1))) (go_keep)
        ((go_at_call 98; refine (place_any fb fa s.rk _ ha0 (by omega) hr1 hr2).mono ?_; rintro e w7 ⟨he, hb7⟩; obtain rfl : e = .returned (.int .i64 x) := he.trans (by rw [HX.out]); have HB7 : Hid (Below w5.heap.size w5 w7) := Lib.hid (((Below.refl w5.heap.size w5).drew).trans hb7); have y4 := ((bcell HB7.out).1 a.g 4 LG.out).trans KS.out.1; have y1 := ((bcell HB7.out).1 a.g 1 LG.out).trans KS.out.2.1; have z1 := ((bcell HB7.out).1 w.heap.size 1 LO.out).trans KS.out.2.2.1; have z2 := ((bcell HB7.out).1 w.heap.size 2 LO.out).trans KS.out.2.2.2.1; have z3 := ((bcell HB7.out).1 w.heap.size (2 + 1) LO.out).trans KS.out.2.2.2.2.1; have z6 := ((bcell HB7.out).1 w.heap.size 6 LO.out).trans KS.out.2.2.2.2.2; have cc := (HA5.out.below HB7.out).m.car HJ.out; have cc1 := cc.2.1; have cc2 := cc.2.2.2; clear cc hb7 he))
      rename_i hHeld
      have HA8 := Lib.hid ((HA5.out.below HB7.out).setAt HJ.out (x + 1))
      clear hHeld y4 y1 z1 z2 z3 z6 cc1 cc2 hq1 hq2 hwx hwy hv2 hv0 hwj
      go_wp2_with fail
      go_ret
      exact ⟨rfl, fun h => absurd rfl h, fun _ => Moved.of_below HG.out (by rw [HST.out, ← HX.out]; have h8 := HA8.out.moved; rw [HCE.out] at h8; exact h8)⟩
    · have t4 := (show _ = some (Value.slice (some ⟨a5.gc, 0, none⟩) 4 a5.cc) from HA5.out.m.m.cell 4)
      have t1 := (show _ = some (Value.int .i64 (setN (more (moveSt s fb fa tb ta)) fb fa 1).rk) from HA5.out.m.m.cell 1)
      rw [HA5.out.g] at t4 t1
      rw [show (setN (more (moveSt s fb fa tb ta)) fb fa 1).rk = s.rk by (rw [setN_rk]; show (moveSt s fb fa tb ta).rk = _; unfold moveSt; rw [setN_rk, setN_rk])] at t1
      have u1 := HO5.out.c1
      have u2 := HO5.out.c2
      have u3 := HO5.out.c3
      have u6 := HO5.out.c6
      rw [Nat.zero_add] at u1 u2 u3 u6
      have hwj : IntKind.i64.wrap (j : Int) = j := by rw [IntKind.wrap_i64]; omega
      have hj0 : (0 : Int) ≤ j := by omega
      have hj4 : (j : Int) < 4 := by omega
      obtain ⟨x, hx⟩ : ∃ x, x = placeI fb fa s.rk := ⟨_, rfl⟩
      have hxb := placeI_bd (b := fb) ha0 (show fa ≤ 23 by omega) hr1 hr2
      rw [← hx] at hxb
      have HX := Lib.hid hx
      clear hx
      have hwx : IntKind.i64.wrap (x + 1) = x + 1 := by rw [IntKind.wrap_i64]; omega
      have hwy : IntKind.i64.wrap x = x := by rw [IntKind.wrap_i64]; omega
      have hv2 : IntKind.i64.wrap ((IntKind.i64.wrap 2).tdiv 2) = 1 := by decide
      have hv0 : IntKind.i64.wrap ((IntKind.i64.wrap 0).tdiv 2) = 0 := by decide
      have hq1 : ∀ (W : World) (x : Nat) (v : Value) (q : Nat), (W.setCell ⟨a5.gc, x, none⟩ v).cell? ⟨a.g, q, none⟩ = W.cell? ⟨a.g, q, none⟩ := fun W x v q => World.cell?_setCell_other W _ _ v (by intro e; injection e with e1 e2; have h1 := HA5.out.m.tc; have h2 := HA5.out.m.tm; rw [HA5.out.g] at h2; rw [e1] at h1; omega)
      have hq2 : ∀ (W : World) (x : Nat) (v : Value) (q : Nat), (W.setCell ⟨a5.gc, x, none⟩ v).cell? ⟨w.heap.size, q, none⟩ = W.cell? ⟨w.heap.size, q, none⟩ := fun W x v q => World.cell?_setCell_other W _ _ v (by intro e; injection e with e1 e2; have h1 := HA5.out.m.tc; have h2 := (HA5.out.op HBX.out HTW.out).2; rw [e1] at h1; omega)
      have LG := Lib.hid (World.block_lt_of_cell? w5 _ t4)
      have LO := Lib.hid (World.block_lt_of_cell? w5 _ u1)
      have KS := Lib.hid (And.intro t4 (And.intro t1 (And.intro u1 (And.intro u2 (And.intro u3 u6)))))
      go_region_held3 (fun w' => w'.cell? ⟨a.g, 4, none⟩ = some (.slice (some ⟨a5.gc, 0, none⟩) 4 a5.cc) ∧ w'.cell? ⟨a.g, 1, none⟩ = some (.int .i64 s.rk) ∧ w'.cell? ⟨w.heap.size, 1, none⟩ = some (.int .i64 (-1)) ∧ w'.cell? ⟨w.heap.size, 2, none⟩ = some (.int .i64 fb) ∧ w'.cell? ⟨w.heap.size, 2 + 1, none⟩ = some (.int .i64 fa) ∧ w'.cell? ⟨w.heap.size, 6, none⟩ = some (.int .i64 ((j : Int) + 1))) (go_keep)
        ((go_at_call 98; refine (place_any fb fa s.rk _ ha0 (by omega) hr1 hr2).mono ?_; rintro e w7 ⟨he, hb7⟩; obtain rfl : e = .returned (.int .i64 x) := he.trans (by rw [HX.out]); have HB7 : Hid (Below w5.heap.size w5 w7) := Lib.hid (((Below.refl w5.heap.size w5).drew).trans hb7); have y4 := ((bcell HB7.out).1 a.g 4 LG.out).trans KS.out.1; have y1 := ((bcell HB7.out).1 a.g 1 LG.out).trans KS.out.2.1; have z1 := ((bcell HB7.out).1 w.heap.size 1 LO.out).trans KS.out.2.2.1; have z2 := ((bcell HB7.out).1 w.heap.size 2 LO.out).trans KS.out.2.2.2.1; have z3 := ((bcell HB7.out).1 w.heap.size (2 + 1) LO.out).trans KS.out.2.2.2.2.1; have z6 := ((bcell HB7.out).1 w.heap.size 6 LO.out).trans KS.out.2.2.2.2.2; have cc := (HA5.out.below HB7.out).m.car HJ.out; have cc1 := cc.2.1; have cc2 := cc.2.2.2; clear cc hb7 he))
      rename_i hHeld
      have HA8 := Lib.hid ((HA5.out.below HB7.out).setAt HJ.out (x))
      clear hHeld y4 y1 z1 z2 z3 z6 cc1 cc2 hq1 hq2 hwx hwy hv2 hv0 hwj
      go_wp2_with fail
      go_ret
      exact ⟨rfl, fun h => absurd rfl h, fun _ => Moved.of_below HG.out (by rw [HST.out, ← HX.out]; have h8 := HA8.out.moved; rw [HCE.out] at h8; exact h8)⟩
  · have hc1 : (code == 0) = false := by simpa using hc0
    have HC0 := Lib.hid hc0
    have HB1 := Lib.hid (HG.out.trans (hb1.mono HG.out.size))
    clear hb1 hc0
    go_wp2_with fail
    go_ret
    exact ⟨rfl, fun _ => HB1.out, fun h => absurd h HC0.out⟩
end
end Go.Proofs.Ytpmfkpehmckgmaa
