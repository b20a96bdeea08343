/- Walks: a knit is executed, by the program. No condition but the machine's bounds and the operation's. (Printed by wip/exgen.py.) -/
import Derived.Test.YtpmfkpehmckgmaaMachXp
namespace Go.Proofs.Ytpmfkpehmckgmaa
open Go.RowKit
set_option maxRecDepth 20000

section
variable {tg : Nat → Nat} {a : MAdr} {s : Mst} {D : Nat} {w : World}
set_option maxHeartbeats 4000000 in
theorem execute_1 {d fb fa tb ta c r : Int} {j : Nat} (H : Mem tg a s w) (hs : MOk s D) (hD : D ≤ 1000000) (hp : OpOk s.W 1 d fb fa tb ta c r j) (hb : OpBeds 1 fb tb) (hf : BedOk 1 fb) : Calls Try.prog 64 #[.pointer (some ⟨a.g, 0, none⟩), .agg #[.int .i64 1, .int .i64 d, .int .i64 fb, .int .i64 fa, .int .i64 tb, .int .i64 ta, .int .i64 c, .int .i64 r]] w (ExP w tg a.g (doCode s 1 d fb fa tb ta j) (doSt s 1 d fb fa tb ta r j)) := by
  have hg : Below w.heap.size w (w.alloc (.cells #[.int .i64 1, .int .i64 d, .int .i64 fb, .int .i64 fa, .int .i64 tb, .int .i64 ta, .int .i64 c, .int .i64 r] 58)) := (Below.refl _ _).alloc (Nat.le_refl _) _
  have HG := Lib.hid hg
  have HA0 := Lib.hid (At.start (H.below hg))
  have hbox := box_ce w 1 d fb fa tb ta c r
  have HBX := Lib.hid hbox
  have HTW : Hid (tg w.heap.size = 0) := Lib.hid (Decidable.byContradiction fun hn => Nat.lt_irrefl _ (H.lt _ hn))
  have hoc := opCode_any (H.below hg) hs hp hb hf
  obtain ⟨code, hcode⟩ : ∃ z, z = doCode s 1 d fb fa tb ta j := ⟨_, rfl⟩
  rw [← hcode] at hoc ⊢
  obtain ⟨s9, hs9⟩ : ∃ z, z = doSt s 1 d fb fa tb ta r j := ⟨_, rfl⟩
  rw [← hs9]
  have HC := Lib.hid hcode
  have HS9 := Lib.hid hs9
  have HOC := Lib.hid hoc
  have HS := Lib.hid hs
  have HP := Lib.hid hp
  have HB := Lib.hid hb
  have HF := Lib.hid hf
  have hlA : ∃ AL cL, a.L = .slice AL s.n cL := HA0.out.L
  have HLA := Lib.hid hlA
  clear H hs hp hb hf hg hoc hcode hs9 hbox hlA
  go_enter Try.func64, Try.ntmps64
  go_wp2_with fail
  refine HOC.out.mono ?_
  rintro e w1 ⟨rfl, hb1⟩
  by_cases hc0 : code = 0
  · subst hc0
    have HA1 := Lib.hid (HA0.out.below hb1)
    have HO1 := Lib.hid (HA1.out.op HBX.out HTW.out).1
    clear hb1 HOC
    obtain ⟨rfl, hj⟩ := HP.out.car (by omega) (by omega) (by omega)
    have HJ := Lib.hid hj
    have hd := HP.out.dir (by omega) (by omega) (by omega) (by omega)
    have ha0 := HP.out.f0
    have ha1 := HP.out.f1
    have hw2 := HS.out.w2
    have hr1 := HS.out.r1
    have hr2 := HS.out.r2
    have hfb := HF.out (by omega)
    have hn3 := doCode_n HC.out.symm (by omega)
    have o0 := HO1.out.c0
    have o1 := HO1.out.c1
    have o2 := HO1.out.c2
    have o3 := HO1.out.c3
    have o4 := HO1.out.c4
    have o5 := HO1.out.c5
    have o6 := HO1.out.c6
    have o7 := HO1.out.c7
    rw [Nat.zero_add] at o1 o2 o3 o4 o5 o6 o7
    have HST : Hid (s9 = { setN (more s) fb fa 1 with cat := newAt s d (placeI fb fa s.rk) j }) := Lib.hid (by rw [HS9.out, doSt_1])
    obtain ⟨nf, hnf⟩ : ∃ n, n = lstN s fb fa := ⟨_, rfl⟩
    have hf4 : nf ≤ 4 := by rw [hnf]; exact lstN_le HS.out ha0 ha1
    have hlf := HA1.out.m.lst (b := fb) ha0 ha1
    rw [← hnf] at hlf
    obtain ⟨Af, cf, hvf⟩ := hlf.form
    have HVF := Lib.hid hvf
    rw [hvf] at hlf
    have HLF1 := Lib.hid hlf
    have HTF : Hid (∀ q, (Value.slice Af nf cf).ownBlock = some q → tg q = tagOf fb fa) := Lib.hid (by rw [← hvf]; exact HA1.out.m.lstTag ha0 ha1)
    have HGT3 : Hid (∀ b, tg (bedG a b) = 2 ∨ tg (bedG a b) = 3) := Lib.hid fun b => by unfold bedG; split; exact .inl HA1.out.m.tf; exact .inr HA1.out.m.tk
    clear hlf hvf hnf
    go_wp2_with (first
      | (go_at_call 97; refine (makesLoop_any _ _ (by omega) (by omega)).mono ?_; rintro e w' ⟨rfl, rfl⟩)
      | (go_at_call 93; (with_reducible refine (on_any fb fa HA1.out.m hfb ha0 ha1).mono ?_); rintro e w2 ⟨rfl, hb2⟩; have HA2 := Lib.hid (HA1.out.below hb2); have HO2 := Lib.hid (HA2.out.op HBX.out HTW.out).1; have kc := HA2.out.m.cellN (b := fb) ha0 ha1; rw [HVF.out] at kc; have HLF2 := Lib.hid (HLF1.out.blk fun q hq => hb2.block q (HLF1.out.lt q hq)); have x2 := HO2.out.c2; have x3 := HO2.out.c3; clear hb2 o0 o1 o2 o3 o4 o5 o6 o7)
      | (go_at_call 93; (with_reducible refine (on_any fb fa HA2.out.m hfb ha0 ha1).mono ?_); rintro e w3 ⟨rfl, hb3⟩; have HA3 := Lib.hid (HA2.out.below hb3); have HLF3 := Lib.hid (HLF2.out.blk fun q hq => hb3.block q (HLF2.out.lt q hq)); have k3 := HA3.out.m.cellN (b := fb) ha0 ha1; rw [HVF.out] at k3; have f3 := HA3.out.m.frzN (b := fb) ha0 ha1; have HA4 := Lib.hid (HA3.out.putX (b := fb) ha0 ha1 (LOwn.nil w3) (fun q hq => by cases hq) (fun q hq => by cases hq)); have HO4 := Lib.hid (HA4.out.op HBX.out HTW.out).1; have HLF4 : Hid (LOwn (w3.setCell ⟨bedG a fb, fa.toNat, none⟩ (.slice none 0 0)) (.slice Af nf cf) nf) := Lib.hid (HLF3.out.blk fun q hq => set_keep _ _ _ _ (by intro e; have h1 := HTF.out q hq; rw [show q = bedG a fb from e] at h1; have h2 := HGT3.out fb; have := tagOf_ge fb fa; omega)); have y0 := HO4.out.c0; have y1 := HO4.out.c1; have y2 := HO4.out.c2; have y3 := HO4.out.c3; have y4 := HO4.out.c4; have y5 := HO4.out.c5; have y6 := HO4.out.c6; have y7 := HO4.out.c7; rw [Nat.zero_add] at y1 y2 y3 y4 y5 y6 y7; clear hb3 kc x2 x3)
      | (go_at_call 94; have hlp := loop_any 1 d fb fa tb ta ((j : Int) + 1) r (.slice Af nf cf) nf HA4.out.m (setN_ok HS.out _ _ (Nat.zero_le _)) hfb ha0 (by rw [setN_W]; exact ha1) (by rw [setN_n]; exact hn3) HLF4.out (by omega) (fun q hq => ⟨by rw [retag_id rfl, HTF.out q hq]; exact tagOf_ge _ _, by rw [putA_at]; exact fun e => by cases e⟩); rw [putA_g] at hlp; refine hlp.mono ?_; rintro e w5 ⟨rfl, hm5⟩; clear hlp; rw [lstN_put, setN_again] at hm5; obtain ⟨tg5, a5, hat5, _, _⟩ := HA4.out.next hm5; have HA5 : Hid (At _ tg a.g (setN (more s) fb fa 1) w5 tg5 a5) := Lib.hid hat5; have HO5 := Lib.hid (HA5.out.op HBX.out HTW.out).1; have p0 := HO5.out.c0; have HCE : Hid ((setN (more s) fb fa 1).cat = s.cat) := Lib.hid (setN_catE _ _ _ _); clear hm5 hat5 y0 y1 y2 y3 y4 y5 y6 y7 k3 f3))
    rcases hd with rfl | rfl
    · have t4 := (show _ = some (Value.slice (some ⟨a5.gc, 0, none⟩) 4 a5.cc) from HA5.out.m.m.cell 4)
      have t1 := (show _ = some (Value.int .i64 (setN (more s) fb fa 1).rk) from HA5.out.m.m.cell 1)
      rw [HA5.out.g] at t4 t1
      rw [show (setN (more s) fb fa 1).rk = s.rk from setN_rk _ _ _ _] at t1
      have u1 := HO5.out.c1
      have u2 := HO5.out.c2
      have u3 := HO5.out.c3
      have u6 := HO5.out.c6
      rw [Nat.zero_add] at u1 u2 u3 u6
      have hwj : IntKind.i64.wrap (j : Int) = j := by rw [IntKind.wrap_i64]; omega
      have hj0 : (0 : Int) ≤ j := by omega
      have hj4 : (j : Int) < 4 := by omega
      obtain ⟨x, hx⟩ : ∃ x, x = placeI fb fa s.rk := ⟨_, rfl⟩
      have hxb := placeI_bd (b := fb) ha0 (show fa ≤ 23 by omega) hr1 hr2
      rw [← hx] at hxb
      have HX := Lib.hid hx
      clear hx
      have hwx : IntKind.i64.wrap (x + 1) = x + 1 := by rw [IntKind.wrap_i64]; omega
      have hwy : IntKind.i64.wrap x = x := by rw [IntKind.wrap_i64]; omega
      have hv2 : IntKind.i64.wrap ((IntKind.i64.wrap 2).tdiv 2) = 1 := by decide
      have hv0 : IntKind.i64.wrap ((IntKind.i64.wrap 0).tdiv 2) = 0 := by decide
      have hq1 : ∀ (W : World) (x : Nat) (v : Value) (q : Nat), (W.setCell ⟨a5.gc, x, none⟩ v).cell? ⟨a.g, q, none⟩ = W.cell? ⟨a.g, q, none⟩ := fun W x v q => World.cell?_setCell_other W _ _ v (by intro e; injection e with e1 e2; have h1 := HA5.out.m.tc; have h2 := HA5.out.m.tm; rw [HA5.out.g] at h2; rw [e1] at h1; omega)
      have hq2 : ∀ (W : World) (x : Nat) (v : Value) (q : Nat), (W.setCell ⟨a5.gc, x, none⟩ v).cell? ⟨w.heap.size, q, none⟩ = W.cell? ⟨w.heap.size, q, none⟩ := fun W x v q => World.cell?_setCell_other W _ _ v (by intro e; injection e with e1 e2; have h1 := HA5.out.m.tc; have h2 := (HA5.out.op HBX.out HTW.out).2; rw [e1] at h1; omega)
      have LG := Lib.hid (World.block_lt_of_cell? w5 _ t4)
      have LO := Lib.hid (World.block_lt_of_cell? w5 _ u1)
      have KS := Lib.hid (And.intro t4 (And.intro t1 (And.intro u1 (And.intro u2 (And.intro u3 u6)))))
      go_region_held3 (fun w' => w'.cell? ⟨a.g, 4, none⟩ = some (.slice (some ⟨a5.gc, 0, none⟩) 4 a5.cc) ∧ w'.cell? ⟨a.g, 1, none⟩ = some (.int .i64 s.rk) ∧ w'.cell? ⟨w.heap.size, 1, none⟩ = some (.int .i64 (1)) ∧ w'.cell? ⟨w.heap.size, 2, none⟩ = some (.int .i64 fb) ∧ w'.cell? ⟨w.heap.size, 2 + 1, none⟩ = some (.int .i64 fa) ∧ w'.cell? ⟨w.heap.size, 6, none⟩ = some (.int .i64 ((j : Int) + 1))) (go_keep)
        ((go_at_call 98; refine (place_any fb fa s.rk _ ha0 (by omega) hr1 hr2).mono ?_; rintro e w7 ⟨he, hb7⟩; obtain rfl : e = .returned (.int .i64 x) := he.trans (by rw [HX.out]); have HB7 : Hid (Below w5.heap.size w5 w7) := Lib.hid (((Below.refl w5.heap.size w5).drew).trans hb7); have y4 := ((bcell HB7.out).1 a.g 4 LG.out).trans KS.out.1; have y1 := ((bcell HB7.out).1 a.g 1 LG.out).trans KS.out.2.1; have z1 := ((bcell HB7.out).1 w.heap.size 1 LO.out).trans KS.out.2.2.1; have z2 := ((bcell HB7.out).1 w.heap.size 2 LO.out).trans KS.out.2.2.2.1; have z3 := ((bcell HB7.out).1 w.heap.size (2 + 1) LO.out).trans KS.out.2.2.2.2.1; have z6 := ((bcell HB7.out).1 w.heap.size 6 LO.out).trans KS.out.2.2.2.2.2; have cc := (HA5.out.below HB7.out).m.car HJ.out; have cc1 := cc.2.1; have cc2 := cc.2.2.2; clear cc hb7 he))
      rename_i hHeld
      have HA8 := Lib.hid ((HA5.out.below HB7.out).setAt HJ.out (x + 1))
      clear hHeld y4 y1 z1 z2 z3 z6 cc1 cc2 hq1 hq2 hwx hwy hv2 hv0 hwj
      go_wp2_with fail
      go_ret
      exact ⟨rfl, fun h => absurd rfl h, fun _ => Moved.of_below HG.out (by rw [HST.out, ← HX.out]; have h8 := HA8.out.moved; rw [HCE.out] at h8; exact h8)⟩
    · have t4 := (show _ = some (Value.slice (some ⟨a5.gc, 0, none⟩) 4 a5.cc) from HA5.out.m.m.cell 4)
      have t1 := (show _ = some (Value.int .i64 (setN (more s) fb fa 1).rk) from HA5.out.m.m.cell 1)
      rw [HA5.out.g] at t4 t1
      rw [show (setN (more s) fb fa 1).rk = s.rk from setN_rk _ _ _ _] at t1
      have u1 := HO5.out.c1
      have u2 := HO5.out.c2
      have u3 := HO5.out.c3
      have u6 := HO5.out.c6
      rw [Nat.zero_add] at u1 u2 u3 u6
      have hwj : IntKind.i64.wrap (j : Int) = j := by rw [IntKind.wrap_i64]; omega
      have hj0 : (0 : Int) ≤ j := by omega
      have hj4 : (j : Int) < 4 := by omega
      obtain ⟨x, hx⟩ : ∃ x, x = placeI fb fa s.rk := ⟨_, rfl⟩
      have hxb := placeI_bd (b := fb) ha0 (show fa ≤ 23 by omega) hr1 hr2
      rw [← hx] at hxb
      have HX := Lib.hid hx
      clear hx
      have hwx : IntKind.i64.wrap (x + 1) = x + 1 := by rw [IntKind.wrap_i64]; omega
      have hwy : IntKind.i64.wrap x = x := by rw [IntKind.wrap_i64]; omega
      have hv2 : IntKind.i64.wrap ((IntKind.i64.wrap 2).tdiv 2) = 1 := by decide
      have hv0 : IntKind.i64.wrap ((IntKind.i64.wrap 0).tdiv 2) = 0 := by decide
      have hq1 : ∀ (W : World) (x : Nat) (v : Value) (q : Nat), (W.setCell ⟨a5.gc, x, none⟩ v).cell? ⟨a.g, q, none⟩ = W.cell? ⟨a.g, q, none⟩ := fun W x v q => World.cell?_setCell_other W _ _ v (by intro e; injection e with e1 e2; have h1 := HA5.out.m.tc; have h2 := HA5.out.m.tm; rw [HA5.out.g] at h2; rw [e1] at h1; omega)
      have hq2 : ∀ (W : World) (x : Nat) (v : Value) (q : Nat), (W.setCell ⟨a5.gc, x, none⟩ v).cell? ⟨w.heap.size, q, none⟩ = W.cell? ⟨w.heap.size, q, none⟩ := fun W x v q => World.cell?_setCell_other W _ _ v (by intro e; injection e with e1 e2; have h1 := HA5.out.m.tc; have h2 := (HA5.out.op HBX.out HTW.out).2; rw [e1] at h1; omega)
      have LG := Lib.hid (World.block_lt_of_cell? w5 _ t4)
      have LO := Lib.hid (World.block_lt_of_cell? w5 _ u1)
      have KS := Lib.hid (And.intro t4 (And.intro t1 (And.intro u1 (And.intro u2 (And.intro u3 u6)))))
      go_region_held3 (fun w' => w'.cell? ⟨a.g, 4, none⟩ = some (.slice (some ⟨a5.gc, 0, none⟩) 4 a5.cc) ∧ w'.cell? ⟨a.g, 1, none⟩ = some (.int .i64 s.rk) ∧ w'.cell? ⟨w.heap.size, 1, none⟩ = some (.int .i64 (-1)) ∧ w'.cell? ⟨w.heap.size, 2, none⟩ = some (.int .i64 fb) ∧ w'.cell? ⟨w.heap.size, 2 + 1, none⟩ = some (.int .i64 fa) ∧ w'.cell? ⟨w.heap.size, 6, none⟩ = some (.int .i64 ((j : Int) + 1))) (go_keep)
        ((go_at_call 98; refine (place_any fb fa s.rk _ ha0 (by omega) hr1 hr2).mono ?_; rintro e w7 ⟨he, hb7⟩; obtain rfl : e = .returned (.int .i64 x) := he.trans (by rw [HX.out]); have HB7 : Hid (Below w5.heap.size w5 w7) := Lib.hid (((Below.refl w5.heap.size w5).drew).trans hb7); have y4 := ((bcell HB7.out).1 a.g 4 LG.out).trans KS.out.1; have y1 := ((bcell HB7.out).1 a.g 1 LG.out).trans KS.out.2.1; have z1 := ((bcell HB7.out).1 w.heap.size 1 LO.out).trans KS.out.2.2.1; have z2 := ((bcell HB7.out).1 w.heap.size 2 LO.out).trans KS.out.2.2.2.1; have z3 := ((bcell HB7.out).1 w.heap.size (2 + 1) LO.out).trans KS.out.2.2.2.2.1; have z6 := ((bcell HB7.out).1 w.heap.size 6 LO.out).trans KS.out.2.2.2.2.2; have cc := (HA5.out.below HB7.out).m.car HJ.out; have cc1 := cc.2.1; have cc2 := cc.2.2.2; clear cc hb7 he))
      rename_i hHeld
      have HA8 := Lib.hid ((HA5.out.below HB7.out).setAt HJ.out (x))
      clear hHeld y4 y1 z1 z2 z3 z6 cc1 cc2 hq1 hq2 hwx hwy hv2 hv0 hwj
      go_wp2_with fail
      go_ret
      exact ⟨rfl, fun h => absurd rfl h, fun _ => Moved.of_below HG.out (by rw [HST.out, ← HX.out]; have h8 := HA8.out.moved; rw [HCE.out] at h8; exact h8)⟩
  · have hc1 : (code == 0) = false := by simpa using hc0
    have HC0 := Lib.hid hc0
    have HB1 := Lib.hid (HG.out.trans (hb1.mono HG.out.size))
    clear hb1 hc0
    go_wp2_with fail
    go_ret
    exact ⟨rfl, fun _ => HB1.out, fun h => absurd h HC0.out⟩
end
end Go.Proofs.Ytpmfkpehmckgmaa
