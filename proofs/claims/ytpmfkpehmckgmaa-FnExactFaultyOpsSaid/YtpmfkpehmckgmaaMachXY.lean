/- Walks: an operation is executed, by the program. No condition but the machine's bounds and the operation's. (Printed by wip/exgen.py.) Walks: a knit is executed, by the program. No condition but the machine's bounds and the operation's. (Printed by wip/exgen.py.) Walks: a split is executed, by the program. No condition but the machine's bounds and the operation's. (Printed by wip/exgen.py.) Walks: a drop is executed, by the program. No condition but the machine's bounds and the operation's. (Printed by wip/exgen.py.) -/
import Derived.Test.YtpmfkpehmckgmaaMachXp
namespace Go.Proofs.Ytpmfkpehmckgmaa
open Go.RowKit
set_option maxRecDepth 20000

section
variable {tg : Nat → Nat} {a : MAdr} {s : Mst} {D : Nat} {w : World}
set_option maxHeartbeats 4000000 in
theorem execute_7 {d fb fa tb ta c r : Int} {j : Nat} (H : Mem tg a s w) (hs : MOk s D) (_hD : D ≤ 1000000) (hp : OpOk s.W 7 d fb fa tb ta c r j) (hb : OpBeds 7 fb tb) (hf : BedOk 7 fb) : Calls Try.prog 64 #[.pointer (some ⟨a.g, 0, none⟩), .agg #[.int .i64 7, .int .i64 d, .int .i64 fb, .int .i64 fa, .int .i64 tb, .int .i64 ta, .int .i64 c, .int .i64 r]] w (ExP w tg a.g (doCode s 7 d fb fa tb ta j) (doSt s 7 d fb fa tb ta r j)) := by
  have hg : Below w.heap.size w (w.alloc (.cells #[.int .i64 7, .int .i64 d, .int .i64 fb, .int .i64 fa, .int .i64 tb, .int .i64 ta, .int .i64 c, .int .i64 r] 58)) := (Below.refl _ _).alloc (Nat.le_refl _) _
  have HG := Lib.hid hg
  have HA0 := Lib.hid (At.start (H.below hg))
  have hbox := box_ce w 7 d fb fa tb ta c r
  have HBX := Lib.hid hbox
  have HTW : Hid (tg w.heap.size = 0) := Lib.hid (Decidable.byContradiction fun hn => Nat.lt_irrefl _ (H.lt _ hn))
  have hoc := opCode_any (H.below hg) hs hp hb hf
  obtain ⟨code, hcode⟩ : ∃ z, z = doCode s 7 d fb fa tb ta j := ⟨_, rfl⟩
  rw [← hcode] at hoc ⊢
  obtain ⟨s9, hs9⟩ : ∃ z, z = doSt s 7 d fb fa tb ta r j := ⟨_, rfl⟩
  rw [← hs9]
  have HC := Lib.hid hcode
  have HS9 := Lib.hid hs9
  have HOC := Lib.hid hoc
  have HS := Lib.hid hs
  have HP := Lib.hid hp
  have HB := Lib.hid hb
  have HF := Lib.hid hf
  have hlA : ∃ AL cL, a.L = .slice AL s.n cL := HA0.out.L
  have HLA := Lib.hid hlA
  clear H hs hp hb hf hg hoc hcode hs9 hbox hlA
  go_enter Try.func64, Try.ntmps64
  go_wp2_with fail
  refine HOC.out.mono ?_
  rintro e w1 ⟨rfl, hb1⟩
  by_cases hc0 : code = 0
  · subst hc0
    have HA1 := Lib.hid (HA0.out.below hb1)
    have HO1 := Lib.hid (HA1.out.op HBX.out HTW.out).1
    clear hb1 HOC
    have o0 := HO1.out.c0
    have o7 := HO1.out.c7
    have m1 := (show w1.cell? ⟨a.g, 1, none⟩ = some (Value.int .i64 s.rk) from HA1.out.m.m.cell 1)
    have f1 := HA1.out.m.m.frozen 1
    have HA2 := Lib.hid (HA1.out.setRack r)
    have HO2 := Lib.hid (HA2.out.op HBX.out HTW.out).1
    have p0 := HO2.out.c0
    have HST : Hid (s9 = { s with rk := r }) := Lib.hid (by rw [HS9.out]; simp [doSt])
    go_wp2_with (go_at_call 97; refine (makesLoop_any _ _ (by omega) (by omega)).mono ?_; rintro e w' ⟨rfl, rfl⟩)
    go_ret
    exact ⟨rfl, fun h => absurd rfl h, fun _ => Moved.of_below HG.out (by rw [HST.out]; exact HA2.out.moved)⟩
  · exact absurd (HC.out.trans (by simp [doCode])) hc0
set_option maxHeartbeats 4000000 in
theorem execute_4 {d fb fa tb ta c r : Int} {j : Nat} (H : Mem tg a s w) (hs : MOk s D) (_hD : D ≤ 1000000) (hp : OpOk s.W 4 d fb fa tb ta c r j) (hb : OpBeds 4 fb tb) (hf : BedOk 4 fb) : Calls Try.prog 64 #[.pointer (some ⟨a.g, 0, none⟩), .agg #[.int .i64 4, .int .i64 d, .int .i64 fb, .int .i64 fa, .int .i64 tb, .int .i64 ta, .int .i64 c, .int .i64 r]] w (ExP w tg a.g (doCode s 4 d fb fa tb ta j) (doSt s 4 d fb fa tb ta r j)) := by
  have hg : Below w.heap.size w (w.alloc (.cells #[.int .i64 4, .int .i64 d, .int .i64 fb, .int .i64 fa, .int .i64 tb, .int .i64 ta, .int .i64 c, .int .i64 r] 58)) := (Below.refl _ _).alloc (Nat.le_refl _) _
  have HG := Lib.hid hg
  have HA0 := Lib.hid (At.start (H.below hg))
  have hbox := box_ce w 4 d fb fa tb ta c r
  have HBX := Lib.hid hbox
  have HTW : Hid (tg w.heap.size = 0) := Lib.hid (Decidable.byContradiction fun hn => Nat.lt_irrefl _ (H.lt _ hn))
  have hoc := opCode_any (H.below hg) hs hp hb hf
  obtain ⟨code, hcode⟩ : ∃ z, z = doCode s 4 d fb fa tb ta j := ⟨_, rfl⟩
  rw [← hcode] at hoc ⊢
  obtain ⟨s9, hs9⟩ : ∃ z, z = doSt s 4 d fb fa tb ta r j := ⟨_, rfl⟩
  rw [← hs9]
  have HC := Lib.hid hcode
  have HS9 := Lib.hid hs9
  have HOC := Lib.hid hoc
  have HS := Lib.hid hs
  have HP := Lib.hid hp
  have HB := Lib.hid hb
  have HF := Lib.hid hf
  have hlA : ∃ AL cL, a.L = .slice AL s.n cL := HA0.out.L
  have HLA := Lib.hid hlA
  clear H hs hp hb hf hg hoc hcode hs9 hbox hlA
  go_enter Try.func64, Try.ntmps64
  go_wp2_with fail
  refine HOC.out.mono ?_
  rintro e w1 ⟨rfl, hb1⟩
  by_cases hc0 : code = 0
  · subst hc0
    have HA1 := Lib.hid (HA0.out.below hb1)
    have HO1 := Lib.hid (HA1.out.op HBX.out HTW.out).1
    clear hb1 HOC
    have hbb := HB.out (.inl rfl)
    have hnz : lstN s fb fa ≠ 0 := by
      have h := HC.out
      unfold doCode at h
      rw [if_neg (by omega), if_neg (by omega), if_pos rfl] at h
      unfold moveCode at h
      intro h0
      rw [if_pos h0] at h
      split at h <;> omega
    have htr := transfer_any fb fa tb ta HA1.out.m HS.out hbb HP.out.f0 HP.out.f1 HP.out.t0 HP.out.t1 hnz
    have HTR := Lib.hid htr
    have o0 := HO1.out.c0
    have o2 := HO1.out.c2
    have o3 := HO1.out.c3
    have o4 := HO1.out.c4
    have o5 := HO1.out.c5
    have HST : Hid (s9 = moveSt s fb fa tb ta) := Lib.hid (by rw [HS9.out]; simp [doSt])
    clear htr hbb hnz
    go_wp2_with (first
      | (go_at_call 97; refine (makesLoop_any _ _ (by omega) (by omega)).mono ?_; rintro e w' ⟨rfl, rfl⟩)
      | (go_at_call 95; refine HTR.out.mono ?_; rintro e w2 ⟨v, tg2, a2, rfl, hat2, _, _, _⟩; have HA2 := Lib.hid (HA1.out.comp hat2); have HO2 := Lib.hid (HA2.out.op HBX.out HTW.out).1; have p0 := HO2.out.c0; clear hat2))
    go_ret
    exact ⟨rfl, fun h => absurd rfl h, fun _ => Moved.of_below HG.out (by rw [HST.out]; exact HA2.out.moved)⟩
  · have hc1 : (code == 0) = false := by simpa using hc0
    have HC0 := Lib.hid hc0
    have HB1 := Lib.hid (HG.out.trans (hb1.mono HG.out.size))
    clear hb1 hc0
    go_wp2_with fail
    go_ret
    exact ⟨rfl, fun _ => HB1.out, fun h => absurd h HC0.out⟩
set_option maxHeartbeats 4000000 in
theorem execute_9 {d fb fa tb ta c r : Int} {j : Nat} (H : Mem tg a s w) (hs : MOk s D) (_hD : D ≤ 1000000) (hp : OpOk s.W 9 d fb fa tb ta c r j) (hb : OpBeds 9 fb tb) (hf : BedOk 9 fb) : Calls Try.prog 64 #[.pointer (some ⟨a.g, 0, none⟩), .agg #[.int .i64 9, .int .i64 d, .int .i64 fb, .int .i64 fa, .int .i64 tb, .int .i64 ta, .int .i64 c, .int .i64 r]] w (ExP w tg a.g (doCode s 9 d fb fa tb ta j) (doSt s 9 d fb fa tb ta r j)) := by
  have hg : Below w.heap.size w (w.alloc (.cells #[.int .i64 9, .int .i64 d, .int .i64 fb, .int .i64 fa, .int .i64 tb, .int .i64 ta, .int .i64 c, .int .i64 r] 58)) := (Below.refl _ _).alloc (Nat.le_refl _) _
  have HG := Lib.hid hg
  have HA0 := Lib.hid (At.start (H.below hg))
  have hbox := box_ce w 9 d fb fa tb ta c r
  have HBX := Lib.hid hbox
  have HTW : Hid (tg w.heap.size = 0) := Lib.hid (Decidable.byContradiction fun hn => Nat.lt_irrefl _ (H.lt _ hn))
  have hoc := opCode_any (H.below hg) hs hp hb hf
  obtain ⟨code, hcode⟩ : ∃ z, z = doCode s 9 d fb fa tb ta j := ⟨_, rfl⟩
  rw [← hcode] at hoc ⊢
  obtain ⟨s9, hs9⟩ : ∃ z, z = doSt s 9 d fb fa tb ta r j := ⟨_, rfl⟩
  rw [← hs9]
  have HC := Lib.hid hcode
  have HS9 := Lib.hid hs9
  have HOC := Lib.hid hoc
  have HS := Lib.hid hs
  have HP := Lib.hid hp
  have HB := Lib.hid hb
  have HF := Lib.hid hf
  have hlA : ∃ AL cL, a.L = .slice AL s.n cL := HA0.out.L
  have HLA := Lib.hid hlA
  clear H hs hp hb hf hg hoc hcode hs9 hbox hlA
  go_enter Try.func64, Try.ntmps64
  go_wp2_with fail
  refine HOC.out.mono ?_
  rintro e w1 ⟨rfl, hb1⟩
  by_cases hc0 : code = 0
  · subst hc0
    have HA1 := Lib.hid (HA0.out.below hb1)
    have HO1 := Lib.hid (HA1.out.op HBX.out HTW.out).1
    clear hb1 HOC
    obtain ⟨rfl, hj⟩ := HP.out.car (by omega) (by omega) (by omega)
    have HJ := Lib.hid hj
    have m4 := (show w1.cell? ⟨a.g, 4, none⟩ = some (Value.slice (some ⟨a.gc, 0, none⟩) 4 a.cc) from HA1.out.m.m.cell 4)
    obtain ⟨k0, k1, f0, f1⟩ := HA1.out.m.car hj
    have o0 := HO1.out.c0
    have o6 := HO1.out.c6
    have HST : Hid (s9 = { s with cin := fun q => if q = j then false else s.cin q, cat := fun q => if q = j then 0 else s.cat q }) := Lib.hid (by
      rw [HS9.out]
      simp [doSt, inSt])
    have HA2 := Lib.hid ((HA1.out.setIn hj false).setAt hj 0)
    have HO2 := Lib.hid (HA2.out.op HBX.out HTW.out).1
    have p0 := HO2.out.c0
    go_wp2_with fail
    go_region
    all_goals
      go_wp2_with (go_at_call 97; refine (makesLoop_any _ _ (by omega) (by omega)).mono ?_; rintro e w' ⟨rfl, rfl⟩)
      go_ret
      exact ⟨rfl, fun h => absurd rfl h, fun _ => Moved.of_below HG.out (by rw [HST.out]; first | exact HA2.out.moved | exact (HA2.out.below ((Below.refl _ _).drew)).moved | exact (HA2.out.below (((Below.refl _ _).drew).drew)).moved)⟩
  · have hc1 : (code == 0) = false := by simpa using hc0
    have HC0 := Lib.hid hc0
    have HB1 := Lib.hid (HG.out.trans (hb1.mono HG.out.size))
    clear hb1 hc0
    go_wp2_with fail
    go_ret
    exact ⟨rfl, fun _ => HB1.out, fun h => absurd h HC0.out⟩
set_option maxHeartbeats 4000000 in
theorem execute_8 {d fb fa tb ta c r : Int} {j : Nat} (H : Mem tg a s w) (hs : MOk s D) (_hD : D ≤ 1000000) (hp : OpOk s.W 8 d fb fa tb ta c r j) (hb : OpBeds 8 fb tb) (hf : BedOk 8 fb) : Calls Try.prog 64 #[.pointer (some ⟨a.g, 0, none⟩), .agg #[.int .i64 8, .int .i64 d, .int .i64 fb, .int .i64 fa, .int .i64 tb, .int .i64 ta, .int .i64 c, .int .i64 r]] w (ExP w tg a.g (doCode s 8 d fb fa tb ta j) (doSt s 8 d fb fa tb ta r j)) := by
  have hg : Below w.heap.size w (w.alloc (.cells #[.int .i64 8, .int .i64 d, .int .i64 fb, .int .i64 fa, .int .i64 tb, .int .i64 ta, .int .i64 c, .int .i64 r] 58)) := (Below.refl _ _).alloc (Nat.le_refl _) _
  have HG := Lib.hid hg
  have HA0 := Lib.hid (At.start (H.below hg))
  have hbox := box_ce w 8 d fb fa tb ta c r
  have HBX := Lib.hid hbox
  have HTW : Hid (tg w.heap.size = 0) := Lib.hid (Decidable.byContradiction fun hn => Nat.lt_irrefl _ (H.lt _ hn))
  have hoc := opCode_any (H.below hg) hs hp hb hf
  obtain ⟨code, hcode⟩ : ∃ z, z = doCode s 8 d fb fa tb ta j := ⟨_, rfl⟩
  rw [← hcode] at hoc ⊢
  obtain ⟨s9, hs9⟩ : ∃ z, z = doSt s 8 d fb fa tb ta r j := ⟨_, rfl⟩
  rw [← hs9]
  have HC := Lib.hid hcode
  have HS9 := Lib.hid hs9
  have HOC := Lib.hid hoc
  have HS := Lib.hid hs
  have HP := Lib.hid hp
  have HB := Lib.hid hb
  have HF := Lib.hid hf
  have hlA : ∃ AL cL, a.L = .slice AL s.n cL := HA0.out.L
  have HLA := Lib.hid hlA
  clear H hs hp hb hf hg hoc hcode hs9 hbox hlA
  go_enter Try.func64, Try.ntmps64
  go_wp2_with fail
  refine HOC.out.mono ?_
  rintro e w1 ⟨rfl, hb1⟩
  by_cases hc0 : code = 0
  · subst hc0
    have HA1 := Lib.hid (HA0.out.below hb1)
    have HO1 := Lib.hid (HA1.out.op HBX.out HTW.out).1
    clear hb1 HOC
    obtain ⟨rfl, hj⟩ := HP.out.car (by omega) (by omega) (by omega)
    have HJ := Lib.hid hj
    have m4 := (show w1.cell? ⟨a.g, 4, none⟩ = some (Value.slice (some ⟨a.gc, 0, none⟩) 4 a.cc) from HA1.out.m.m.cell 4)
    obtain ⟨k0, k1, f0, f1⟩ := HA1.out.m.car hj
    have hd := HP.out.dir (by omega) (by omega) (by omega) (by omega)
    have o0 := HO1.out.c0
    have o1 := HO1.out.c1
    have o6 := HO1.out.c6
    have hw2 := HS.out.w2
    have HA2 := Lib.hid ((HA1.out.setIn hj true).setAt hj (-3))
    have HO2 := Lib.hid (HA2.out.op HBX.out HTW.out).1
    have p0 := HO2.out.c0
    have p1 := HO2.out.c1
    have p6 := HO2.out.c6
    rcases hd with rfl | rfl
    · have HST : Hid (s9 = { s with cin := fun q => if q = j then true else s.cin q, cat := fun q => if q = j then -3 else s.cat q }) := Lib.hid (by
        rw [HS9.out]
        simp [doSt, inSt])
      go_wp2_with fail
      go_region
      all_goals
        go_wp2_with (go_at_call 97; refine (makesLoop_any _ _ (by omega) (by omega)).mono ?_; rintro e w' ⟨rfl, rfl⟩)
        go_ret
        exact ⟨rfl, fun h => absurd rfl h, fun _ => Moved.of_below HG.out (by rw [HST.out]; first | exact HA2.out.moved | exact (HA2.out.below ((Below.refl _ _).drew)).moved | exact (HA2.out.below (((Below.refl _ _).drew).drew)).moved)⟩
    · have HST : Hid (s9 = { s with cin := fun q => if q = j then true else s.cin q, cat := fun q => if q = j then (s.W : Int) + 3 else (if q = j then -3 else s.cat q) }) := Lib.hid (by
        rw [HS9.out]
        simp [doSt, inSt]
        funext q
        by_cases h : q = j <;> simp [h])
      have HA3 := Lib.hid (HA2.out.setAt hj ((s.W : Int) + 3))
      have HO3 := Lib.hid (HA3.out.op HBX.out HTW.out).1
      have x0 := HO3.out.c0
      have n0 := HA2.out.m.m.cell 0
      have n4 := (show _ = some (Value.slice (some ⟨a.gc, 0, none⟩) 4 a.cc) from HA2.out.m.m.cell 4)
      replace n0 := (show _ = some (Value.int .i64 s.W) from n0)
      obtain ⟨kk0, kk1, ff0, ff1⟩ := HA2.out.m.car hj
      go_wp2_with fail
      go_region
      all_goals
        go_wp2_with fail
        go_region
        all_goals
          go_wp2_with (go_at_call 97; refine (makesLoop_any _ _ (by omega) (by omega)).mono ?_; rintro e w' ⟨rfl, rfl⟩)
          go_ret
          exact ⟨rfl, fun h => absurd rfl h, fun _ => Moved.of_below HG.out (by rw [HST.out]; first | exact HA3.out.moved | exact (HA3.out.below ((Below.refl _ _).drew)).moved | exact (HA3.out.below (((Below.refl _ _).drew).drew)).moved)⟩
  · have hc1 : (code == 0) = false := by simpa using hc0
    have HC0 := Lib.hid hc0
    have HB1 := Lib.hid (HG.out.trans (hb1.mono HG.out.size))
    clear hb1 hc0
    go_wp2_with fail
    go_ret
    exact ⟨rfl, fun _ => HB1.out, fun h => absurd h HC0.out⟩
set_option maxHeartbeats 4000000 in
theorem execute_3 {d fb fa tb ta c r : Int} {j : Nat} (H : Mem tg a s w) (hs : MOk s D) (_hD : D ≤ 1000000) (hp : OpOk s.W 3 d fb fa tb ta c r j) (hb : OpBeds 3 fb tb) (hf : BedOk 3 fb) : Calls Try.prog 64 #[.pointer (some ⟨a.g, 0, none⟩), .agg #[.int .i64 3, .int .i64 d, .int .i64 fb, .int .i64 fa, .int .i64 tb, .int .i64 ta, .int .i64 c, .int .i64 r]] w (ExP w tg a.g (doCode s 3 d fb fa tb ta j) (doSt s 3 d fb fa tb ta r j)) := by
  have hg : Below w.heap.size w (w.alloc (.cells #[.int .i64 3, .int .i64 d, .int .i64 fb, .int .i64 fa, .int .i64 tb, .int .i64 ta, .int .i64 c, .int .i64 r] 58)) := (Below.refl _ _).alloc (Nat.le_refl _) _
  have HG := Lib.hid hg
  have HA0 := Lib.hid (At.start (H.below hg))
  have hbox := box_ce w 3 d fb fa tb ta c r
  have HBX := Lib.hid hbox
  have HTW : Hid (tg w.heap.size = 0) := Lib.hid (Decidable.byContradiction fun hn => Nat.lt_irrefl _ (H.lt _ hn))
  have hoc := opCode_any (H.below hg) hs hp hb hf
  obtain ⟨code, hcode⟩ : ∃ z, z = doCode s 3 d fb fa tb ta j := ⟨_, rfl⟩
  rw [← hcode] at hoc ⊢
  obtain ⟨s9, hs9⟩ : ∃ z, z = doSt s 3 d fb fa tb ta r j := ⟨_, rfl⟩
  rw [← hs9]
  have HC := Lib.hid hcode
  have HS9 := Lib.hid hs9
  have HOC := Lib.hid hoc
  have HS := Lib.hid hs
  have HP := Lib.hid hp
  have HB := Lib.hid hb
  have HF := Lib.hid hf
  have hlA : ∃ AL cL, a.L = .slice AL s.n cL := HA0.out.L
  have HLA := Lib.hid hlA
  clear H hs hp hb hf hg hoc hcode hs9 hbox hlA
  go_enter Try.func64, Try.ntmps64
  go_wp2_with fail
  refine HOC.out.mono ?_
  rintro e w1 ⟨rfl, hb1⟩
  by_cases hc0 : code = 0
  · subst hc0
    have HA1 := Lib.hid (HA0.out.below hb1)
    have HO1 := Lib.hid (HA1.out.op HBX.out HTW.out).1
    clear hb1 HOC
    obtain ⟨rfl, hj⟩ := HP.out.car (by omega) (by omega) (by omega)
    have HJ := Lib.hid hj
    have hd := HP.out.dir (by omega) (by omega) (by omega) (by omega)
    have ha0 := HP.out.f0
    have ha1 := HP.out.f1
    have hw2 := HS.out.w2
    have hr1 := HS.out.r1
    have hr2 := HS.out.r2
    have o0 := HO1.out.c0
    have HST : Hid (s9 = { s with cat := fun q => if q = j then (if d = 1 then placeI fb fa s.rk + 1 else placeI fb fa s.rk) else s.cat q }) := Lib.hid (by
      rw [HS9.out]
      simp [doSt, carrySt])
    go_wp2_with (go_at_call 97; refine (makesLoop_any _ _ (by omega) (by omega)).mono ?_; rintro e w' ⟨rfl, rfl⟩)
    rcases hd with rfl | rfl
    · have t4 := (show _ = some (Value.slice (some ⟨a.gc, 0, none⟩) 4 a.cc) from HA1.out.m.m.cell 4)
      have t1 := (show _ = some (Value.int .i64 (s).rk) from HA1.out.m.m.cell 1)
      rw [HA1.out.g] at t4 t1
      rw [show s.rk = s.rk from rfl] at t1
      have u1 := HO1.out.c1
      have u2 := HO1.out.c2
      have u3 := HO1.out.c3
      have u6 := HO1.out.c6
      rw [Nat.zero_add] at u1 u2 u3 u6
      have hwj : IntKind.i64.wrap (j : Int) = j := by rw [IntKind.wrap_i64]; omega
      have hj0 : (0 : Int) ≤ j := by omega
      have hj4 : (j : Int) < 4 := by omega
      obtain ⟨x, hx⟩ : ∃ x, x = placeI fb fa s.rk := ⟨_, rfl⟩
      have hxb := placeI_bd (b := fb) ha0 (show fa ≤ 23 by omega) hr1 hr2
      rw [← hx] at hxb
      have HX := Lib.hid hx
      clear hx
      have hwx : IntKind.i64.wrap (x + 1) = x + 1 := by rw [IntKind.wrap_i64]; omega
      have hwy : IntKind.i64.wrap x = x := by rw [IntKind.wrap_i64]; omega
      have hv2 : IntKind.i64.wrap ((IntKind.i64.wrap 2).tdiv 2) = 1 := by decide
      have hv0 : IntKind.i64.wrap ((IntKind.i64.wrap 0).tdiv 2) = 0 := by decide
      have hq1 : ∀ (W : World) (x : Nat) (v : Value) (q : Nat), (W.setCell ⟨a.gc, x, none⟩ v).cell? ⟨a.g, q, none⟩ = W.cell? ⟨a.g, q, none⟩ := fun W x v q => World.cell?_setCell_other W _ _ v (by intro e; injection e with e1 e2; have h1 := HA1.out.m.tc; have h2 := HA1.out.m.tm; rw [HA1.out.g] at h2; rw [e1] at h1; omega)
      have hq2 : ∀ (W : World) (x : Nat) (v : Value) (q : Nat), (W.setCell ⟨a.gc, x, none⟩ v).cell? ⟨w.heap.size, q, none⟩ = W.cell? ⟨w.heap.size, q, none⟩ := fun W x v q => World.cell?_setCell_other W _ _ v (by intro e; injection e with e1 e2; have h1 := HA1.out.m.tc; have h2 := (HA1.out.op HBX.out HTW.out).2; rw [e1] at h1; omega)
      have LG := Lib.hid (World.block_lt_of_cell? w1 _ t4)
      have LO := Lib.hid (World.block_lt_of_cell? w1 _ u1)
      have KS := Lib.hid (And.intro t4 (And.intro t1 (And.intro u1 (And.intro u2 (And.intro u3 u6)))))
      go_region_held3 (fun w' => w'.cell? ⟨a.g, 4, none⟩ = some (.slice (some ⟨a.gc, 0, none⟩) 4 a.cc) ∧ w'.cell? ⟨a.g, 1, none⟩ = some (.int .i64 s.rk) ∧ w'.cell? ⟨w.heap.size, 1, none⟩ = some (.int .i64 (1)) ∧ w'.cell? ⟨w.heap.size, 2, none⟩ = some (.int .i64 fb) ∧ w'.cell? ⟨w.heap.size, 2 + 1, none⟩ = some (.int .i64 fa) ∧ w'.cell? ⟨w.heap.size, 6, none⟩ = some (.int .i64 ((j : Int) + 1))) (go_keep)
        ((go_at_call 98; refine (place_any fb fa s.rk _ ha0 (by omega) hr1 hr2).mono ?_; rintro e w7 ⟨he, hb7⟩; obtain rfl : e = .returned (.int .i64 x) := he.trans (by rw [HX.out]); have HB7 : Hid (Below w1.heap.size w1 w7) := Lib.hid (((Below.refl w1.heap.size w1).drew).trans hb7); have y4 := ((bcell HB7.out).1 a.g 4 LG.out).trans KS.out.1; have y1 := ((bcell HB7.out).1 a.g 1 LG.out).trans KS.out.2.1; have z1 := ((bcell HB7.out).1 w.heap.size 1 LO.out).trans KS.out.2.2.1; have z2 := ((bcell HB7.out).1 w.heap.size 2 LO.out).trans KS.out.2.2.2.1; have z3 := ((bcell HB7.out).1 w.heap.size (2 + 1) LO.out).trans KS.out.2.2.2.2.1; have z6 := ((bcell HB7.out).1 w.heap.size 6 LO.out).trans KS.out.2.2.2.2.2; have cc := (HA1.out.below HB7.out).m.car HJ.out; have cc1 := cc.2.1; have cc2 := cc.2.2.2; clear cc hb7 he))
      rename_i hHeld
      have HA8 := Lib.hid ((HA1.out.below HB7.out).setAt HJ.out (x + 1))
      clear hHeld y4 y1 z1 z2 z3 z6 cc1 cc2 hq1 hq2 hwx hwy hv2 hv0 hwj
      go_wp2_with fail
      go_ret
      exact ⟨rfl, fun h => absurd rfl h, fun _ => Moved.of_below HG.out (by rw [HST.out, ← HX.out]; exact HA8.out.moved)⟩
    · have t4 := (show _ = some (Value.slice (some ⟨a.gc, 0, none⟩) 4 a.cc) from HA1.out.m.m.cell 4)
      have t1 := (show _ = some (Value.int .i64 (s).rk) from HA1.out.m.m.cell 1)
      rw [HA1.out.g] at t4 t1
      rw [show s.rk = s.rk from rfl] at t1
      have u1 := HO1.out.c1
      have u2 := HO1.out.c2
      have u3 := HO1.out.c3
      have u6 := HO1.out.c6
      rw [Nat.zero_add] at u1 u2 u3 u6
      have hwj : IntKind.i64.wrap (j : Int) = j := by rw [IntKind.wrap_i64]; omega
      have hj0 : (0 : Int) ≤ j := by omega
      have hj4 : (j : Int) < 4 := by omega
      obtain ⟨x, hx⟩ : ∃ x, x = placeI fb fa s.rk := ⟨_, rfl⟩
      have hxb := placeI_bd (b := fb) ha0 (show fa ≤ 23 by omega) hr1 hr2
      rw [← hx] at hxb
      have HX := Lib.hid hx
      clear hx
      have hwx : IntKind.i64.wrap (x + 1) = x + 1 := by rw [IntKind.wrap_i64]; omega
      have hwy : IntKind.i64.wrap x = x := by rw [IntKind.wrap_i64]; omega
      have hv2 : IntKind.i64.wrap ((IntKind.i64.wrap 2).tdiv 2) = 1 := by decide
      have hv0 : IntKind.i64.wrap ((IntKind.i64.wrap 0).tdiv 2) = 0 := by decide
      have hq1 : ∀ (W : World) (x : Nat) (v : Value) (q : Nat), (W.setCell ⟨a.gc, x, none⟩ v).cell? ⟨a.g, q, none⟩ = W.cell? ⟨a.g, q, none⟩ := fun W x v q => World.cell?_setCell_other W _ _ v (by intro e; injection e with e1 e2; have h1 := HA1.out.m.tc; have h2 := HA1.out.m.tm; rw [HA1.out.g] at h2; rw [e1] at h1; omega)
      have hq2 : ∀ (W : World) (x : Nat) (v : Value) (q : Nat), (W.setCell ⟨a.gc, x, none⟩ v).cell? ⟨w.heap.size, q, none⟩ = W.cell? ⟨w.heap.size, q, none⟩ := fun W x v q => World.cell?_setCell_other W _ _ v (by intro e; injection e with e1 e2; have h1 := HA1.out.m.tc; have h2 := (HA1.out.op HBX.out HTW.out).2; rw [e1] at h1; omega)
      have LG := Lib.hid (World.block_lt_of_cell? w1 _ t4)
      have LO := Lib.hid (World.block_lt_of_cell? w1 _ u1)
      have KS := Lib.hid (And.intro t4 (And.intro t1 (And.intro u1 (And.intro u2 (And.intro u3 u6)))))
      go_region_held3 (fun w' => w'.cell? ⟨a.g, 4, none⟩ = some (.slice (some ⟨a.gc, 0, none⟩) 4 a.cc) ∧ w'.cell? ⟨a.g, 1, none⟩ = some (.int .i64 s.rk) ∧ w'.cell? ⟨w.heap.size, 1, none⟩ = some (.int .i64 (-1)) ∧ w'.cell? ⟨w.heap.size, 2, none⟩ = some (.int .i64 fb) ∧ w'.cell? ⟨w.heap.size, 2 + 1, none⟩ = some (.int .i64 fa) ∧ w'.cell? ⟨w.heap.size, 6, none⟩ = some (.int .i64 ((j : Int) + 1))) (go_keep)
        ((go_at_call 98; refine (place_any fb fa s.rk _ ha0 (by omega) hr1 hr2).mono ?_; rintro e w7 ⟨he, hb7⟩; obtain rfl : e = .returned (.int .i64 x) := he.trans (by rw [HX.out]); have HB7 : Hid (Below w1.heap.size w1 w7) := Lib.hid (((Below.refl w1.heap.size w1).drew).trans hb7); have y4 := ((bcell HB7.out).1 a.g 4 LG.out).trans KS.out.1; have y1 := ((bcell HB7.out).1 a.g 1 LG.out).trans KS.out.2.1; have z1 := ((bcell HB7.out).1 w.heap.size 1 LO.out).trans KS.out.2.2.1; have z2 := ((bcell HB7.out).1 w.heap.size 2 LO.out).trans KS.out.2.2.2.1; have z3 := ((bcell HB7.out).1 w.heap.size (2 + 1) LO.out).trans KS.out.2.2.2.2.1; have z6 := ((bcell HB7.out).1 w.heap.size 6 LO.out).trans KS.out.2.2.2.2.2; have cc := (HA1.out.below HB7.out).m.car HJ.out; have cc1 := cc.2.1; have cc2 := cc.2.2.2; clear cc hb7 he))
      rename_i hHeld
      have HA8 := Lib.hid ((HA1.out.below HB7.out).setAt HJ.out (x))
      clear hHeld y4 y1 z1 z2 z3 z6 cc1 cc2 hq1 hq2 hwx hwy hv2 hv0 hwj
      go_wp2_with fail
      go_ret
      exact ⟨rfl, fun h => absurd rfl h, fun _ => Moved.of_below HG.out (by rw [HST.out, ← HX.out]; exact HA8.out.moved)⟩
  · have hc1 : (code == 0) = false := by simpa using hc0
    have HC0 := Lib.hid hc0
    have HB1 := Lib.hid (HG.out.trans (hb1.mono HG.out.size))
    clear hb1 hc0
    go_wp2_with fail
    go_ret
    exact ⟨rfl, fun _ => HB1.out, fun h => absurd h HC0.out⟩
set_option maxHeartbeats 4000000 in
theorem execute_2 {d fb fa tb ta c r : Int} {j : Nat} (H : Mem tg a s w) (hs : MOk s D) (_hD : D ≤ 1000000) (hp : OpOk s.W 2 d fb fa tb ta c r j) (hb : OpBeds 2 fb tb) (hf : BedOk 2 fb) : Calls Try.prog 64 #[.pointer (some ⟨a.g, 0, none⟩), .agg #[.int .i64 2, .int .i64 d, .int .i64 fb, .int .i64 fa, .int .i64 tb, .int .i64 ta, .int .i64 c, .int .i64 r]] w (ExP w tg a.g (doCode s 2 d fb fa tb ta j) (doSt s 2 d fb fa tb ta r j)) := by
  have hg : Below w.heap.size w (w.alloc (.cells #[.int .i64 2, .int .i64 d, .int .i64 fb, .int .i64 fa, .int .i64 tb, .int .i64 ta, .int .i64 c, .int .i64 r] 58)) := (Below.refl _ _).alloc (Nat.le_refl _) _
  have HG := Lib.hid hg
  have HA0 := Lib.hid (At.start (H.below hg))
  have hbox := box_ce w 2 d fb fa tb ta c r
  have HBX := Lib.hid hbox
  have HTW : Hid (tg w.heap.size = 0) := Lib.hid (Decidable.byContradiction fun hn => Nat.lt_irrefl _ (H.lt _ hn))
  have hoc := opCode_any (H.below hg) hs hp hb hf
  obtain ⟨code, hcode⟩ : ∃ z, z = doCode s 2 d fb fa tb ta j := ⟨_, rfl⟩
  rw [← hcode] at hoc ⊢
  obtain ⟨s9, hs9⟩ : ∃ z, z = doSt s 2 d fb fa tb ta r j := ⟨_, rfl⟩
  rw [← hs9]
  have HC := Lib.hid hcode
  have HS9 := Lib.hid hs9
  have HOC := Lib.hid hoc
  have HS := Lib.hid hs
  have HP := Lib.hid hp
  have HB := Lib.hid hb
  have HF := Lib.hid hf
  have hlA : ∃ AL cL, a.L = .slice AL s.n cL := HA0.out.L
  have HLA := Lib.hid hlA
  clear H hs hp hb hf hg hoc hcode hs9 hbox hlA
  go_enter Try.func64, Try.ntmps64
  go_wp2_with fail
  refine HOC.out.mono ?_
  rintro e w1 ⟨rfl, hb1⟩
  by_cases hc0 : code = 0
  · subst hc0
    have HA1 := Lib.hid (HA0.out.below hb1)
    have HO1 := Lib.hid (HA1.out.op HBX.out HTW.out).1
    clear hb1 HOC
    obtain ⟨rfl, hj⟩ := HP.out.car (by omega) (by omega) (by omega)
    have HJ := Lib.hid hj
    have hd := HP.out.dir (by omega) (by omega) (by omega) (by omega)
    have ha0 := HP.out.f0
    have ha1 := HP.out.f1
    have hw2 := HS.out.w2
    have hr1 := HS.out.r1
    have hr2 := HS.out.r2
    have hfb := HF.out (by omega)
    have hn3 := doCode_n HC.out.symm (by omega)
    have o0 := HO1.out.c0
    have o1 := HO1.out.c1
    have o2 := HO1.out.c2
    have o3 := HO1.out.c3
    have o4 := HO1.out.c4
    have o5 := HO1.out.c5
    have o6 := HO1.out.c6
    have o7 := HO1.out.c7
    rw [Nat.zero_add] at o1 o2 o3 o4 o5 o6 o7
    have HST : Hid (s9 = { setN (more s) fb fa (lstN s fb fa + 1) with cat := newAt s d (placeI fb fa s.rk) j }) := Lib.hid (by rw [HS9.out, doSt_2])
    have hlp := loop_any 2 d fb fa tb ta ((j : Int) + 1) r (.slice none 0 0) 0 HA1.out.m HS.out hfb ha0 ha1 hn3 (LOwn.nil w1) (by omega) (fun q hq => by cases hq)
    have HLP := Lib.hid hlp
    clear hlp hfb
    go_wp2_with (first
      | (go_at_call 97; refine (makesLoop_any _ _ (by omega) (by omega)).mono ?_; rintro e w' ⟨rfl, rfl⟩)
      | (go_at_call 94; refine HLP.out.mono ?_; rintro e w2 ⟨rfl, hm2⟩; obtain ⟨tg2, a2, hat2, _, _⟩ := HA1.out.next hm2; have HA2 := Lib.hid hat2; have HO2 := Lib.hid (HA2.out.op HBX.out HTW.out).1; have p0 := HO2.out.c0; have HCE : Hid ((setN (more s) fb fa (lstN s fb fa + 1)).cat = s.cat) := Lib.hid (setN_catE _ _ _ _); clear hm2 hat2 o0 o1 o2 o3 o4 o5 o6 o7))
    rcases hd with rfl | rfl
    · have t4 := (show _ = some (Value.slice (some ⟨a2.gc, 0, none⟩) 4 a2.cc) from HA2.out.m.m.cell 4)
      have t1 := (show _ = some (Value.int .i64 (setN (more s) fb fa (lstN s fb fa + 1)).rk) from HA2.out.m.m.cell 1)
      rw [HA2.out.g] at t4 t1
      rw [show (setN (more s) fb fa (lstN s fb fa + 1)).rk = s.rk from setN_rk _ _ _ _] at t1
      have u1 := HO2.out.c1
      have u2 := HO2.out.c2
      have u3 := HO2.out.c3
      have u6 := HO2.out.c6
      rw [Nat.zero_add] at u1 u2 u3 u6
      have hwj : IntKind.i64.wrap (j : Int) = j := by rw [IntKind.wrap_i64]; omega
      have hj0 : (0 : Int) ≤ j := by omega
      have hj4 : (j : Int) < 4 := by omega
      obtain ⟨x, hx⟩ : ∃ x, x = placeI fb fa s.rk := ⟨_, rfl⟩
      have hxb := placeI_bd (b := fb) ha0 (show fa ≤ 23 by omega) hr1 hr2
      rw [← hx] at hxb
      have HX := Lib.hid hx
      clear hx
      have hwx : IntKind.i64.wrap (x + 1) = x + 1 := by rw [IntKind.wrap_i64]; omega
      have hwy : IntKind.i64.wrap x = x := by rw [IntKind.wrap_i64]; omega
      have hv2 : IntKind.i64.wrap ((IntKind.i64.wrap 2).tdiv 2) = 1 := by decide
      have hv0 : IntKind.i64.wrap ((IntKind.i64.wrap 0).tdiv 2) = 0 := by decide
      have hq1 : ∀ (W : World) (x : Nat) (v : Value) (q : Nat), (W.setCell ⟨a2.gc, x, none⟩ v).cell? ⟨a.g, q, none⟩ = W.cell? ⟨a.g, q, none⟩ := fun W x v q => World.cell?_setCell_other W _ _ v (by intro e; injection e with e1 e2; have h1 := HA2.out.m.tc; have h2 := HA2.out.m.tm; rw [HA2.out.g] at h2; rw [e1] at h1; omega)
      have hq2 : ∀ (W : World) (x : Nat) (v : Value) (q : Nat), (W.setCell ⟨a2.gc, x, none⟩ v).cell? ⟨w.heap.size, q, none⟩ = W.cell? ⟨w.heap.size, q, none⟩ := fun W x v q => World.cell?_setCell_other W _ _ v (by intro e; injection e with e1 e2; have h1 := HA2.out.m.tc; have h2 := (HA2.out.op HBX.out HTW.out).2; rw [e1] at h1; omega)
      have LG := Lib.hid (World.block_lt_of_cell? w2 _ t4)
      have LO := Lib.hid (World.block_lt_of_cell? w2 _ u1)
      have KS := Lib.hid (And.intro t4 (And.intro t1 (And.intro u1 (And.intro u2 (And.intro u3 u6)))))
      go_region_held3 (fun w' => w'.cell? ⟨a.g, 4, none⟩ = some (.slice (some ⟨a2.gc, 0, none⟩) 4 a2.cc) ∧ w'.cell? ⟨a.g, 1, none⟩ = some (.int .i64 s.rk) ∧ w'.cell? ⟨w.heap.size, 1, none⟩ = some (.int .i64 (1)) ∧ w'.cell? ⟨w.heap.size, 2, none⟩ = some (.int .i64 fb) ∧ w'.cell? ⟨w.heap.size, 2 + 1, none⟩ = some (.int .i64 fa) ∧ w'.cell? ⟨w.heap.size, 6, none⟩ = some (.int .i64 ((j : Int) + 1))) (go_keep)
        ((go_at_call 98; refine (place_any fb fa s.rk _ ha0 (by omega) hr1 hr2).mono ?_; rintro e w7 ⟨he, hb7⟩; obtain rfl : e = .returned (.int .i64 x) := he.trans (by rw [HX.out]); have HB7 : Hid (Below w2.heap.size w2 w7) := Lib.hid (((Below.refl w2.heap.size w2).drew).trans hb7); have y4 := ((bcell HB7.out).1 a.g 4 LG.out).trans KS.out.1; have y1 := ((bcell HB7.out).1 a.g 1 LG.out).trans KS.out.2.1; have z1 := ((bcell HB7.out).1 w.heap.size 1 LO.out).trans KS.out.2.2.1; have z2 := ((bcell HB7.out).1 w.heap.size 2 LO.out).trans KS.out.2.2.2.1; have z3 := ((bcell HB7.out).1 w.heap.size (2 + 1) LO.out).trans KS.out.2.2.2.2.1; have z6 := ((bcell HB7.out).1 w.heap.size 6 LO.out).trans KS.out.2.2.2.2.2; have cc := (HA2.out.below HB7.out).m.car HJ.out; have cc1 := cc.2.1; have cc2 := cc.2.2.2; clear cc hb7 he))
      rename_i hHeld
      have HA8 := Lib.hid ((HA2.out.below HB7.out).setAt HJ.out (x + 1))
      clear hHeld y4 y1 z1 z2 z3 z6 cc1 cc2 hq1 hq2 hwx hwy hv2 hv0 hwj
      go_wp2_with fail
      go_ret
      exact ⟨rfl, fun h => absurd rfl h, fun _ => Moved.of_below HG.out (by rw [HST.out, ← HX.out]; have h8 := HA8.out.moved; rw [HCE.out] at h8; exact h8)⟩
    · have t4 := (show _ = some (Value.slice (some ⟨a2.gc, 0, none⟩) 4 a2.cc) from HA2.out.m.m.cell 4)
      have t1 := (show _ = some (Value.int .i64 (setN (more s) fb fa (lstN s fb fa + 1)).rk) from HA2.out.m.m.cell 1)
      rw [HA2.out.g] at t4 t1
      rw [show (setN (more s) fb fa (lstN s fb fa + 1)).rk = s.rk from setN_rk _ _ _ _] at t1
      have u1 := HO2.out.c1
      have u2 := HO2.out.c2
      have u3 := HO2.out.c3
      have u6 := HO2.out.c6
      rw [Nat.zero_add] at u1 u2 u3 u6
      have hwj : IntKind.i64.wrap (j : Int) = j := by rw [IntKind.wrap_i64]; omega
      have hj0 : (0 : Int) ≤ j := by omega
      have hj4 : (j : Int) < 4 := by omega
      obtain ⟨x, hx⟩ : ∃ x, x = placeI fb fa s.rk := ⟨_, rfl⟩
      have hxb := placeI_bd (b := fb) ha0 (show fa ≤ 23 by omega) hr1 hr2
      rw [← hx] at hxb
      have HX := Lib.hid hx
      clear hx
      have hwx : IntKind.i64.wrap (x + 1) = x + 1 := by rw [IntKind.wrap_i64]; omega
      have hwy : IntKind.i64.wrap x = x := by rw [IntKind.wrap_i64]; omega
      have hv2 : IntKind.i64.wrap ((IntKind.i64.wrap 2).tdiv 2) = 1 := by decide
      have hv0 : IntKind.i64.wrap ((IntKind.i64.wrap 0).tdiv 2) = 0 := by decide
      have hq1 : ∀ (W : World) (x : Nat) (v : Value) (q : Nat), (W.setCell ⟨a2.gc, x, none⟩ v).cell? ⟨a.g, q, none⟩ = W.cell? ⟨a.g, q, none⟩ := fun W x v q => World.cell?_setCell_other W _ _ v (by intro e; injection e with e1 e2; have h1 := HA2.out.m.tc; have h2 := HA2.out.m.tm; rw [HA2.out.g] at h2; rw [e1] at h1; omega)
      have hq2 : ∀ (W : World) (x : Nat) (v : Value) (q : Nat), (W.setCell ⟨a2.gc, x, none⟩ v).cell? ⟨w.heap.size, q, none⟩ = W.cell? ⟨w.heap.size, q, none⟩ := fun W x v q => World.cell?_setCell_other W _ _ v (by intro e; injection e with e1 e2; have h1 := HA2.out.m.tc; have h2 := (HA2.out.op HBX.out HTW.out).2; rw [e1] at h1; omega)
      have LG := Lib.hid (World.block_lt_of_cell? w2 _ t4)
      have LO := Lib.hid (World.block_lt_of_cell? w2 _ u1)
      have KS := Lib.hid (And.intro t4 (And.intro t1 (And.intro u1 (And.intro u2 (And.intro u3 u6)))))
      go_region_held3 (fun w' => w'.cell? ⟨a.g, 4, none⟩ = some (.slice (some ⟨a2.gc, 0, none⟩) 4 a2.cc) ∧ w'.cell? ⟨a.g, 1, none⟩ = some (.int .i64 s.rk) ∧ w'.cell? ⟨w.heap.size, 1, none⟩ = some (.int .i64 (-1)) ∧ w'.cell? ⟨w.heap.size, 2, none⟩ = some (.int .i64 fb) ∧ w'.cell? ⟨w.heap.size, 2 + 1, none⟩ = some (.int .i64 fa) ∧ w'.cell? ⟨w.heap.size, 6, none⟩ = some (.int .i64 ((j : Int) + 1))) (go_keep)
        ((go_at_call 98; refine (place_any fb fa s.rk _ ha0 (by omega) hr1 hr2).mono ?_; rintro e w7 ⟨he, hb7⟩; obtain rfl : e = .returned (.int .i64 x) := he.trans (by rw [HX.out]); have HB7 : Hid (Below w2.heap.size w2 w7) := Lib.hid (((Below.refl w2.heap.size w2).drew).trans hb7); have y4 := ((bcell HB7.out).1 a.g 4 LG.out).trans KS.out.1; have y1 := ((bcell HB7.out).1 a.g 1 LG.out).trans KS.out.2.1; have z1 := ((bcell HB7.out).1 w.heap.size 1 LO.out).trans KS.out.2.2.1; have z2 := ((bcell HB7.out).1 w.heap.size 2 LO.out).trans KS.out.2.2.2.1; have z3 := ((bcell HB7.out).1 w.heap.size (2 + 1) LO.out).trans KS.out.2.2.2.2.1; have z6 := ((bcell HB7.out).1 w.heap.size 6 LO.out).trans KS.out.2.2.2.2.2; have cc := (HA2.out.below HB7.out).m.car HJ.out; have cc1 := cc.2.1; have cc2 := cc.2.2.2; clear cc hb7 he))
      rename_i hHeld
      have HA8 := Lib.hid ((HA2.out.below HB7.out).setAt HJ.out (x))
      clear hHeld y4 y1 z1 z2 z3 z6 cc1 cc2 hq1 hq2 hwx hwy hv2 hv0 hwj
      go_wp2_with fail
      go_ret
      exact ⟨rfl, fun h => absurd rfl h, fun _ => Moved.of_below HG.out (by rw [HST.out, ← HX.out]; have h8 := HA8.out.moved; rw [HCE.out] at h8; exact h8)⟩
  · have hc1 : (code == 0) = false := by simpa using hc0
    have HC0 := Lib.hid hc0
    have HB1 := Lib.hid (HG.out.trans (hb1.mono HG.out.size))
    clear hb1 hc0
    go_wp2_with fail
    go_ret
    exact ⟨rfl, fun _ => HB1.out, fun h => absurd h HC0.out⟩
end
end Go.Proofs.Ytpmfkpehmckgmaa

namespace Go.Proofs.Ytpmfkpehmckgmaa
open Go.RowKit
set_option maxRecDepth 20000

section
variable {tg : Nat → Nat} {a : MAdr} {s : Mst} {D : Nat} {w : World}
set_option maxHeartbeats 4000000 in
theorem execute_1 {d fb fa tb ta c r : Int} {j : Nat} (H : Mem tg a s w) (hs : MOk s D) (_hD : D ≤ 1000000) (hp : OpOk s.W 1 d fb fa tb ta c r j) (hb : OpBeds 1 fb tb) (hf : BedOk 1 fb) : Calls Try.prog 64 #[.pointer (some ⟨a.g, 0, none⟩), .agg #[.int .i64 1, .int .i64 d, .int .i64 fb, .int .i64 fa, .int .i64 tb, .int .i64 ta, .int .i64 c, .int .i64 r]] w (ExP w tg a.g (doCode s 1 d fb fa tb ta j) (doSt s 1 d fb fa tb ta r j)) := by
  have hg : Below w.heap.size w (w.alloc (.cells #[.int .i64 1, .int .i64 d, .int .i64 fb, .int .i64 fa, .int .i64 tb, .int .i64 ta, .int .i64 c, .int .i64 r] 58)) := (Below.refl _ _).alloc (Nat.le_refl _) _
  have HG := Lib.hid hg
  have HA0 := Lib.hid (At.start (H.below hg))
  have hbox := box_ce w 1 d fb fa tb ta c r
  have HBX := Lib.hid hbox
  have HTW : Hid (tg w.heap.size = 0) := Lib.hid (Decidable.byContradiction fun hn => Nat.lt_irrefl _ (H.lt _ hn))
  have hoc := opCode_any (H.below hg) hs hp hb hf
  obtain ⟨code, hcode⟩ : ∃ z, z = doCode s 1 d fb fa tb ta j := ⟨_, rfl⟩
  rw [← hcode] at hoc ⊢
  obtain ⟨s9, hs9⟩ : ∃ z, z = doSt s 1 d fb fa tb ta r j := ⟨_, rfl⟩
  rw [← hs9]
  have HC := Lib.hid hcode
  have HS9 := Lib.hid hs9
  have HOC := Lib.hid hoc
  have HS := Lib.hid hs
  have HP := Lib.hid hp
  have HB := Lib.hid hb
  have HF := Lib.hid hf
  have hlA : ∃ AL cL, a.L = .slice AL s.n cL := HA0.out.L
  have HLA := Lib.hid hlA
  clear H hs hp hb hf hg hoc hcode hs9 hbox hlA
  go_enter Try.func64, Try.ntmps64
  go_wp2_with fail
  refine HOC.out.mono ?_
  rintro e w1 ⟨rfl, hb1⟩
  by_cases hc0 : code = 0
  · subst hc0
    have HA1 := Lib.hid (HA0.out.below hb1)
    have HO1 := Lib.hid (HA1.out.op HBX.out HTW.out).1
    clear hb1 HOC
    obtain ⟨rfl, hj⟩ := HP.out.car (by omega) (by omega) (by omega)
    have HJ := Lib.hid hj
    have hd := HP.out.dir (by omega) (by omega) (by omega) (by omega)
    have ha0 := HP.out.f0
    have ha1 := HP.out.f1
    have hw2 := HS.out.w2
    have hr1 := HS.out.r1
    have hr2 := HS.out.r2
    have hfb := HF.out (by omega)
    have hn3 := doCode_n HC.out.symm (by omega)
    have o0 := HO1.out.c0
    have o1 := HO1.out.c1
    have o2 := HO1.out.c2
    have o3 := HO1.out.c3
    have o4 := HO1.out.c4
    have o5 := HO1.out.c5
    have o6 := HO1.out.c6
    have o7 := HO1.out.c7
    rw [Nat.zero_add] at o1 o2 o3 o4 o5 o6 o7
    have HST : Hid (s9 = { setN (more s) fb fa 1 with cat := newAt s d (placeI fb fa s.rk) j }) := Lib.hid (by rw [HS9.out, doSt_1])
    obtain ⟨nf, hnf⟩ : ∃ n, n = lstN s fb fa := ⟨_, rfl⟩
    have hf4 : nf ≤ 4 := by rw [hnf]; exact lstN_le HS.out ha0 ha1
    have hlf := HA1.out.m.lst (b := fb) ha0 ha1
    rw [← hnf] at hlf
    obtain ⟨Af, cf, hvf⟩ := hlf.form
    have HVF := Lib.hid hvf
    rw [hvf] at hlf
    have HLF1 := Lib.hid hlf
    have HTF : Hid (∀ q, (Value.slice Af nf cf).ownBlock = some q → tg q = tagOf fb fa) := Lib.hid (by rw [← hvf]; exact HA1.out.m.lstTag ha0 ha1)
    have HGT3 : Hid (∀ b, tg (bedG a b) = 2 ∨ tg (bedG a b) = 3) := Lib.hid fun b => by unfold bedG; split; exact .inl HA1.out.m.tf; exact .inr HA1.out.m.tk
    clear hlf hvf hnf
    go_wp2_with (first
      | (go_at_call 97; refine (makesLoop_any _ _ (by omega) (by omega)).mono ?_; rintro e w' ⟨rfl, rfl⟩)
      | (go_at_call 93; (with_reducible refine (on_any fb fa HA1.out.m hfb ha0 ha1).mono ?_); rintro e w2 ⟨rfl, hb2⟩; have HA2 := Lib.hid (HA1.out.below hb2); have HO2 := Lib.hid (HA2.out.op HBX.out HTW.out).1; have kc := HA2.out.m.cellN (b := fb) ha0 ha1; rw [HVF.out] at kc; have HLF2 := Lib.hid (HLF1.out.blk fun q hq => hb2.block q (HLF1.out.lt q hq)); have x2 := HO2.out.c2; have x3 := HO2.out.c3; clear hb2 o0 o1 o2 o3 o4 o5 o6 o7)
      | (go_at_call 93; (with_reducible refine (on_any fb fa HA2.out.m hfb ha0 ha1).mono ?_); rintro e w3 ⟨rfl, hb3⟩; have HA3 := Lib.hid (HA2.out.below hb3); have HLF3 := Lib.hid (HLF2.out.blk fun q hq => hb3.block q (HLF2.out.lt q hq)); have k3 := HA3.out.m.cellN (b := fb) ha0 ha1; rw [HVF.out] at k3; have f3 := HA3.out.m.frzN (b := fb) ha0 ha1; have HA4 := Lib.hid (HA3.out.putX (b := fb) ha0 ha1 (LOwn.nil w3) (fun q hq => by cases hq) (fun q hq => by cases hq)); have HO4 := Lib.hid (HA4.out.op HBX.out HTW.out).1; have HLF4 : Hid (LOwn (w3.setCell ⟨bedG a fb, fa.toNat, none⟩ (.slice none 0 0)) (.slice Af nf cf) nf) := Lib.hid (HLF3.out.blk fun q hq => set_keep _ _ _ _ (by intro e; have h1 := HTF.out q hq; rw [show q = bedG a fb from e] at h1; have h2 := HGT3.out fb; have := tagOf_ge fb fa; omega)); have y0 := HO4.out.c0; have y1 := HO4.out.c1; have y2 := HO4.out.c2; have y3 := HO4.out.c3; have y4 := HO4.out.c4; have y5 := HO4.out.c5; have y6 := HO4.out.c6; have y7 := HO4.out.c7; rw [Nat.zero_add] at y1 y2 y3 y4 y5 y6 y7; clear hb3 kc x2 x3)
      | (go_at_call 94; have hlp := loop_any 1 d fb fa tb ta ((j : Int) + 1) r (.slice Af nf cf) nf HA4.out.m (setN_ok HS.out _ _ (Nat.zero_le _)) hfb ha0 (by rw [setN_W]; exact ha1) (by rw [setN_n]; exact hn3) HLF4.out (by omega) (fun q hq => ⟨by rw [retag_id rfl, HTF.out q hq]; exact tagOf_ge _ _, by rw [putA_at]; exact fun e => by cases e⟩); rw [putA_g] at hlp; refine hlp.mono ?_; rintro e w5 ⟨rfl, hm5⟩; clear hlp; rw [lstN_put, setN_again] at hm5; obtain ⟨tg5, a5, hat5, _, _⟩ := HA4.out.next hm5; have HA5 : Hid (At _ tg a.g (setN (more s) fb fa 1) w5 tg5 a5) := Lib.hid hat5; have HO5 := Lib.hid (HA5.out.op HBX.out HTW.out).1; have p0 := HO5.out.c0; have HCE : Hid ((setN (more s) fb fa 1).cat = s.cat) := Lib.hid (setN_catE _ _ _ _); clear hm5 hat5 y0 y1 y2 y3 y4 y5 y6 y7 k3 f3))
    rcases hd with rfl | rfl
    · have t4 := (show _ = some (Value.slice (some ⟨a5.gc, 0, none⟩) 4 a5.cc) from HA5.out.m.m.cell 4)
      have t1 := (show _ = some (Value.int .i64 (setN (more s) fb fa 1).rk) from HA5.out.m.m.cell 1)
      rw [HA5.out.g] at t4 t1
      rw [show (setN (more s) fb fa 1).rk = s.rk from setN_rk _ _ _ _] at t1
      have u1 := HO5.out.c1
      have u2 := HO5.out.c2
      have u3 := HO5.out.c3
      have u6 := HO5.out.c6
      rw [Nat.zero_add] at u1 u2 u3 u6
      have hwj : IntKind.i64.wrap (j : Int) = j := by rw [IntKind.wrap_i64]; omega
      have hj0 : (0 : Int) ≤ j := by omega
      have hj4 : (j : Int) < 4 := by omega
      obtain ⟨x, hx⟩ : ∃ x, x = placeI fb fa s.rk := ⟨_, rfl⟩
      have hxb := placeI_bd (b := fb) ha0 (show fa ≤ 23 by omega) hr1 hr2
      rw [← hx] at hxb
      have HX := Lib.hid hx
      clear hx
      have hwx : IntKind.i64.wrap (x + 1) = x + 1 := by rw [IntKind.wrap_i64]; omega
      have hwy : IntKind.i64.wrap x = x := by rw [IntKind.wrap_i64]; omega
      have hv2 : IntKind.i64.wrap ((IntKind.i64.wrap 2).tdiv 2) = 1 := by decide
      have hv0 : IntKind.i64.wrap ((IntKind.i64.wrap 0).tdiv 2) = 0 := by decide
      have hq1 : ∀ (W : World) (x : Nat) (v : Value) (q : Nat), (W.setCell ⟨a5.gc, x, none⟩ v).cell? ⟨a.g, q, none⟩ = W.cell? ⟨a.g, q, none⟩ := fun W x v q => World.cell?_setCell_other W _ _ v (by intro e; injection e with e1 e2; have h1 := HA5.out.m.tc; have h2 := HA5.out.m.tm; rw [HA5.out.g] at h2; rw [e1] at h1; omega)
      have hq2 : ∀ (W : World) (x : Nat) (v : Value) (q : Nat), (W.setCell ⟨a5.gc, x, none⟩ v).cell? ⟨w.heap.size, q, none⟩ = W.cell? ⟨w.heap.size, q, none⟩ := fun W x v q => World.cell?_setCell_other W _ _ v (by intro e; injection e with e1 e2; have h1 := HA5.out.m.tc; have h2 := (HA5.out.op HBX.out HTW.out).2; rw [e1] at h1; omega)
      have LG := Lib.hid (World.block_lt_of_cell? w5 _ t4)
      have LO := Lib.hid (World.block_lt_of_cell? w5 _ u1)
      have KS := Lib.hid (And.intro t4 (And.intro t1 (And.intro u1 (And.intro u2 (And.intro u3 u6)))))
      go_region_held3 (fun w' => w'.cell? ⟨a.g, 4, none⟩ = some (.slice (some ⟨a5.gc, 0, none⟩) 4 a5.cc) ∧ w'.cell? ⟨a.g, 1, none⟩ = some (.int .i64 s.rk) ∧ w'.cell? ⟨w.heap.size, 1, none⟩ = some (.int .i64 (1)) ∧ w'.cell? ⟨w.heap.size, 2, none⟩ = some (.int .i64 fb) ∧ w'.cell? ⟨w.heap.size, 2 + 1, none⟩ = some (.int .i64 fa) ∧ w'.cell? ⟨w.heap.size, 6, none⟩ = some (.int .i64 ((j : Int) + 1))) (go_keep)
        ((go_at_call 98; refine (place_any fb fa s.rk _ ha0 (by omega) hr1 hr2).mono ?_; rintro e w7 ⟨he, hb7⟩; obtain rfl : e = .returned (.int .i64 x) := he.trans (by rw [HX.out]); have HB7 : Hid (Below w5.heap.size w5 w7) := Lib.hid (((Below.refl w5.heap.size w5).drew).trans hb7); have y4 := ((bcell HB7.out).1 a.g 4 LG.out).trans KS.out.1; have y1 := ((bcell HB7.out).1 a.g 1 LG.out).trans KS.out.2.1; have z1 := ((bcell HB7.out).1 w.heap.size 1 LO.out).trans KS.out.2.2.1; have z2 := ((bcell HB7.out).1 w.heap.size 2 LO.out).trans KS.out.2.2.2.1; have z3 := ((bcell HB7.out).1 w.heap.size (2 + 1) LO.out).trans KS.out.2.2.2.2.1; have z6 := ((bcell HB7.out).1 w.heap.size 6 LO.out).trans KS.out.2.2.2.2.2; have cc := (HA5.out.below HB7.out).m.car HJ.out; have cc1 := cc.2.1; have cc2 := cc.2.2.2; clear cc hb7 he))
      rename_i hHeld
      have HA8 := Lib.hid ((HA5.out.below HB7.out).setAt HJ.out (x + 1))
      clear hHeld y4 y1 z1 z2 z3 z6 cc1 cc2 hq1 hq2 hwx hwy hv2 hv0 hwj
      go_wp2_with fail
      go_ret
      exact ⟨rfl, fun h => absurd rfl h, fun _ => Moved.of_below HG.out (by rw [HST.out, ← HX.out]; have h8 := HA8.out.moved; rw [HCE.out] at h8; exact h8)⟩
    · have t4 := (show _ = some (Value.slice (some ⟨a5.gc, 0, none⟩) 4 a5.cc) from HA5.out.m.m.cell 4)
      have t1 := (show _ = some (Value.int .i64 (setN (more s) fb fa 1).rk) from HA5.out.m.m.cell 1)
      rw [HA5.out.g] at t4 t1
      rw [show (setN (more s) fb fa 1).rk = s.rk from setN_rk _ _ _ _] at t1
      have u1 := HO5.out.c1
      have u2 := HO5.out.c2
      have u3 := HO5.out.c3
      have u6 := HO5.out.c6
      rw [Nat.zero_add] at u1 u2 u3 u6
      have hwj : IntKind.i64.wrap (j : Int) = j := by rw [IntKind.wrap_i64]; omega
      have hj0 : (0 : Int) ≤ j := by omega
      have hj4 : (j : Int) < 4 := by omega
      obtain ⟨x, hx⟩ : ∃ x, x = placeI fb fa s.rk := ⟨_, rfl⟩
      have hxb := placeI_bd (b := fb) ha0 (show fa ≤ 23 by omega) hr1 hr2
      rw [← hx] at hxb
      have HX := Lib.hid hx
      clear hx
      have hwx : IntKind.i64.wrap (x + 1) = x + 1 := by rw [IntKind.wrap_i64]; omega
      have hwy : IntKind.i64.wrap x = x := by rw [IntKind.wrap_i64]; omega
      have hv2 : IntKind.i64.wrap ((IntKind.i64.wrap 2).tdiv 2) = 1 := by decide
      have hv0 : IntKind.i64.wrap ((IntKind.i64.wrap 0).tdiv 2) = 0 := by decide
      have hq1 : ∀ (W : World) (x : Nat) (v : Value) (q : Nat), (W.setCell ⟨a5.gc, x, none⟩ v).cell? ⟨a.g, q, none⟩ = W.cell? ⟨a.g, q, none⟩ := fun W x v q => World.cell?_setCell_other W _ _ v (by intro e; injection e with e1 e2; have h1 := HA5.out.m.tc; have h2 := HA5.out.m.tm; rw [HA5.out.g] at h2; rw [e1] at h1; omega)
      have hq2 : ∀ (W : World) (x : Nat) (v : Value) (q : Nat), (W.setCell ⟨a5.gc, x, none⟩ v).cell? ⟨w.heap.size, q, none⟩ = W.cell? ⟨w.heap.size, q, none⟩ := fun W x v q => World.cell?_setCell_other W _ _ v (by intro e; injection e with e1 e2; have h1 := HA5.out.m.tc; have h2 := (HA5.out.op HBX.out HTW.out).2; rw [e1] at h1; omega)
      have LG := Lib.hid (World.block_lt_of_cell? w5 _ t4)
      have LO := Lib.hid (World.block_lt_of_cell? w5 _ u1)
      have KS := Lib.hid (And.intro t4 (And.intro t1 (And.intro u1 (And.intro u2 (And.intro u3 u6)))))
      go_region_held3 (fun w' => w'.cell? ⟨a.g, 4, none⟩ = some (.slice (some ⟨a5.gc, 0, none⟩) 4 a5.cc) ∧ w'.cell? ⟨a.g, 1, none⟩ = some (.int .i64 s.rk) ∧ w'.cell? ⟨w.heap.size, 1, none⟩ = some (.int .i64 (-1)) ∧ w'.cell? ⟨w.heap.size, 2, none⟩ = some (.int .i64 fb) ∧ w'.cell? ⟨w.heap.size, 2 + 1, none⟩ = some (.int .i64 fa) ∧ w'.cell? ⟨w.heap.size, 6, none⟩ = some (.int .i64 ((j : Int) + 1))) (go_keep)
        ((go_at_call 98; refine (place_any fb fa s.rk _ ha0 (by omega) hr1 hr2).mono ?_; rintro e w7 ⟨he, hb7⟩; obtain rfl : e = .returned (.int .i64 x) := he.trans (by rw [HX.out]); have HB7 : Hid (Below w5.heap.size w5 w7) := Lib.hid (((Below.refl w5.heap.size w5).drew).trans hb7); have y4 := ((bcell HB7.out).1 a.g 4 LG.out).trans KS.out.1; have y1 := ((bcell HB7.out).1 a.g 1 LG.out).trans KS.out.2.1; have z1 := ((bcell HB7.out).1 w.heap.size 1 LO.out).trans KS.out.2.2.1; have z2 := ((bcell HB7.out).1 w.heap.size 2 LO.out).trans KS.out.2.2.2.1; have z3 := ((bcell HB7.out).1 w.heap.size (2 + 1) LO.out).trans KS.out.2.2.2.2.1; have z6 := ((bcell HB7.out).1 w.heap.size 6 LO.out).trans KS.out.2.2.2.2.2; have cc := (HA5.out.below HB7.out).m.car HJ.out; have cc1 := cc.2.1; have cc2 := cc.2.2.2; clear cc hb7 he))
      rename_i hHeld
      have HA8 := Lib.hid ((HA5.out.below HB7.out).setAt HJ.out (x))
      clear hHeld y4 y1 z1 z2 z3 z6 cc1 cc2 hq1 hq2 hwx hwy hv2 hv0 hwj
      go_wp2_with fail
      go_ret
      exact ⟨rfl, fun h => absurd rfl h, fun _ => Moved.of_below HG.out (by rw [HST.out, ← HX.out]; have h8 := HA8.out.moved; rw [HCE.out] at h8; exact h8)⟩
  · have hc1 : (code == 0) = false := by simpa using hc0
    have HC0 := Lib.hid hc0
    have HB1 := Lib.hid (HG.out.trans (hb1.mono HG.out.size))
    clear hb1 hc0
    go_wp2_with fail
    go_ret
    exact ⟨rfl, fun _ => HB1.out, fun h => absurd h HC0.out⟩
end
end Go.Proofs.Ytpmfkpehmckgmaa

namespace Go.Proofs.Ytpmfkpehmckgmaa
open Go.RowKit
set_option maxRecDepth 20000

section
variable {tg : Nat → Nat} {a : MAdr} {s : Mst} {D : Nat} {w : World}
set_option maxHeartbeats 4000000 in
theorem execute_5 {d fb fa tb ta c r : Int} {j : Nat} (H : Mem tg a s w) (hs : MOk s D) (_hD : D ≤ 1000000) (hp : OpOk s.W 5 d fb fa tb ta c r j) (hb : OpBeds 5 fb tb) (hf : BedOk 5 fb) : Calls Try.prog 64 #[.pointer (some ⟨a.g, 0, none⟩), .agg #[.int .i64 5, .int .i64 d, .int .i64 fb, .int .i64 fa, .int .i64 tb, .int .i64 ta, .int .i64 c, .int .i64 r]] w (ExP w tg a.g (doCode s 5 d fb fa tb ta j) (doSt s 5 d fb fa tb ta r j)) := by
  have hg : Below w.heap.size w (w.alloc (.cells #[.int .i64 5, .int .i64 d, .int .i64 fb, .int .i64 fa, .int .i64 tb, .int .i64 ta, .int .i64 c, .int .i64 r] 58)) := (Below.refl _ _).alloc (Nat.le_refl _) _
  have HG := Lib.hid hg
  have HA0 := Lib.hid (At.start (H.below hg))
  have hbox := box_ce w 5 d fb fa tb ta c r
  have HBX := Lib.hid hbox
  have HTW : Hid (tg w.heap.size = 0) := Lib.hid (Decidable.byContradiction fun hn => Nat.lt_irrefl _ (H.lt _ hn))
  have hoc := opCode_any (H.below hg) hs hp hb hf
  obtain ⟨code, hcode⟩ : ∃ z, z = doCode s 5 d fb fa tb ta j := ⟨_, rfl⟩
  rw [← hcode] at hoc ⊢
  obtain ⟨s9, hs9⟩ : ∃ z, z = doSt s 5 d fb fa tb ta r j := ⟨_, rfl⟩
  rw [← hs9]
  have HC := Lib.hid hcode
  have HS9 := Lib.hid hs9
  have HOC := Lib.hid hoc
  have HS := Lib.hid hs
  have HP := Lib.hid hp
  have HB := Lib.hid hb
  have HF := Lib.hid hf
  have hlA : ∃ AL cL, a.L = .slice AL s.n cL := HA0.out.L
  have HLA := Lib.hid hlA
  clear H hs hp hb hf hg hoc hcode hs9 hbox hlA
  go_enter Try.func64, Try.ntmps64
  go_wp2_with fail
  refine HOC.out.mono ?_
  rintro e w1 ⟨rfl, hb1⟩
  by_cases hc0 : code = 0
  · subst hc0
    have HA1 := Lib.hid (HA0.out.below hb1)
    have HO1 := Lib.hid (HA1.out.op HBX.out HTW.out).1
    clear hb1 HOC
    obtain ⟨rfl, hj⟩ := HP.out.car (by omega) (by omega) (by omega)
    have HJ := Lib.hid hj
    have hd := HP.out.dir (by omega) (by omega) (by omega) (by omega)
    have ha0 := HP.out.f0
    have ha1 := HP.out.f1
    have hw2 := HS.out.w2
    have hr1 := HS.out.r1
    have hr2 := HS.out.r2
    have hfb := HF.out (by omega)
    have hbb := HB.out (.inr rfl)
    have hn3 := doCode_n HC.out.symm (by omega)
    have hta0 := HP.out.t0
    have hta1 := HP.out.t1
    have hmc : moveCode s fb fa tb ta = 0 := by
      have h := HC.out
      unfold doCode at h
      rw [if_pos (by omega)] at h
      unfold formCode at h
      split at h
      · rw [if_neg (by omega), if_neg (by omega), if_neg (by omega)] at h
        exact h.symm
      · omega
    have hnz : lstN s fb fa ≠ 0 := by
      have h := hmc
      unfold moveCode at h
      intro h0
      rw [if_pos h0] at h
      split at h <;> omega
    have h4f := lstN_le (b := fb) HS.out ha0 ha1
    have HMS : Hid (MOk (moveSt s fb fa tb ta) D) := Lib.hid (by
      have h := hmc
      unfold moveCode at h
      unfold moveSt
      refine setN_ok (setN_ok HS.out _ _ ?_) _ _ (Nat.zero_le _)
      by_cases hpl : placeI fb fa s.rk = placeI tb ta s.rk
      · rw [if_pos hpl, if_neg hnz] at h
        by_cases hov : 4 < lstN s fb fa + lstN s tb ta
        · rw [if_pos hov] at h; omega
        · omega
      · rw [if_neg hpl] at h; omega)
    have htr := transfer_any fb fa tb ta (HA1.out.below ((Below.refl w1.heap.size w1).drew)).m HS.out hbb ha0 ha1 hta0 hta1 hnz
    have HTR := Lib.hid htr
    clear htr hbb hnz hmc
    have o0 := HO1.out.c0
    have o1 := HO1.out.c1
    have o2 := HO1.out.c2
    have o3 := HO1.out.c3
    have o4 := HO1.out.c4
    have o5 := HO1.out.c5
    have o6 := HO1.out.c6
    have o7 := HO1.out.c7
    rw [Nat.zero_add] at o1 o2 o3 o4 o5 o6 o7
    have HST : Hid (s9 = { setN (more (moveSt s fb fa tb ta)) fb fa 1 with cat := newAt s d (placeI fb fa s.rk) j }) := Lib.hid (by rw [HS9.out, doSt_5])
    have x3 : w1.cell? ⟨w.heap.size, 3, none⟩ = some (.int .i64 fa) := o3
    have x5 : w1.cell? ⟨w.heap.size, 5, none⟩ = some (.int .i64 ta) := o5
    have LO := Lib.hid (World.block_lt_of_cell? w1 _ o0)
    have KS := Lib.hid (And.intro o0 (And.intro o1 (And.intro o2 (And.intro x3 (And.intro o4 (And.intro x5 (And.intro o6 o7)))))))
    clear x3 x5
    go_wp2_with fail
    go_region_held3 (fun w' => w'.cell? ⟨w.heap.size, 0, none⟩ = some (.int .i64 (5)) ∧ w'.cell? ⟨w.heap.size, 1, none⟩ = some (.int .i64 (d)) ∧ w'.cell? ⟨w.heap.size, 2, none⟩ = some (.int .i64 (fb)) ∧ w'.cell? ⟨w.heap.size, 3, none⟩ = some (.int .i64 (fa)) ∧ w'.cell? ⟨w.heap.size, 4, none⟩ = some (.int .i64 (tb)) ∧ w'.cell? ⟨w.heap.size, 5, none⟩ = some (.int .i64 (ta)) ∧ w'.cell? ⟨w.heap.size, 6, none⟩ = some (.int .i64 ((j : Int) + 1)) ∧ w'.cell? ⟨w.heap.size, 7, none⟩ = some (.int .i64 (r))) (go_keep)
      (first
        | (go_at_call 95; refine HTR.out.mono ?_; rintro e w2 ⟨v, tg2, a2, rfl, hat2, hlv, hnil, h8⟩; obtain ⟨Av, cv, rfl⟩ := hlv.form; have HA2 := Lib.hid ((HA1.out.below ((Below.refl w1.heap.size w1).drew)).comp hat2); have HLV := Lib.hid hlv; have HNIL := Lib.hid hnil; have H8 := Lib.hid h8; have HO2 := Lib.hid (HA2.out.op HBX.out HTW.out).1; have y0 := HO2.out.c0; have y1 := HO2.out.c1; have y2 := HO2.out.c2; have y3 : w2.cell? ⟨w.heap.size, 3, none⟩ = some (.int .i64 fa) := HO2.out.c3; have y4 := HO2.out.c4; have y5 : w2.cell? ⟨w.heap.size, 5, none⟩ = some (.int .i64 ta) := HO2.out.c5; have y6 := HO2.out.c6; have y7 := HO2.out.c7; rw [Nat.zero_add] at y1 y2 y4 y6 y7; clear hat2 hlv hnil h8 o0 o1 o2 o3 o4 o5 o6 o7)
        | (go_at_call 94; have hlp := loop_any 5 d fb fa tb ta ((j : Int) + 1) r (.slice Av (lstN s fb fa) cv) (lstN s fb fa) HA2.out.m HMS.out hfb ha0 (by rw [moveSt_W]; exact ha1) (by rw [moveSt_n]; exact hn3) HLV.out (by omega) (fun q hq => ⟨H8.out q hq, by rw [HNIL.out]; exact fun e => by cases e⟩); rw [HA2.out.g] at hlp; refine hlp.mono ?_; rintro e w5 ⟨rfl, hm5⟩; clear hlp; rw [show lstN (moveSt s fb fa tb ta) fb fa = 0 from lstN_put _ _ _ _] at hm5; obtain ⟨tg5, a5, hat5, _, _⟩ := HA2.out.next hm5; have HA5 : Hid (At _ tg a.g (setN (more (moveSt s fb fa tb ta)) fb fa 1) w5 tg5 a5) := Lib.hid hat5; have HO5 := Lib.hid (HA5.out.op HBX.out HTW.out).1; have p0 := HO5.out.c0; have p1 := HO5.out.c1; have p2 := HO5.out.c2; have p3 : w5.cell? ⟨w.heap.size, 3, none⟩ = some (.int .i64 fa) := HO5.out.c3; have p4 := HO5.out.c4; have p5 : w5.cell? ⟨w.heap.size, 5, none⟩ = some (.int .i64 ta) := HO5.out.c5; have p6 := HO5.out.c6; have p7 := HO5.out.c7; rw [Nat.zero_add] at p1 p2 p4 p6 p7; have HCE : Hid ((setN (more (moveSt s fb fa tb ta)) fb fa 1).cat = s.cat) := Lib.hid (by rw [setN_catE]; show (moveSt s fb fa tb ta).cat = _; unfold moveSt; rw [setN_catE, setN_catE]); clear hm5 hat5 y0 y1 y2 y3 y4 y5 y6 y7))
    rename_i hHeld
    clear hHeld p1 p2 p3 p4 p5 p6 p7 KS LO
    go_wp2_with (go_at_call 97; refine (makesLoop_any _ _ (by omega) (by omega)).mono ?_; rintro e w' ⟨rfl, rfl⟩)
    rcases hd with rfl | rfl
    · have t4 := (show _ = some (Value.slice (some ⟨a5.gc, 0, none⟩) 4 a5.cc) from HA5.out.m.m.cell 4)
      have t1 := (show _ = some (Value.int .i64 (setN (more (moveSt s fb fa tb ta)) fb fa 1).rk) from HA5.out.m.m.cell 1)
      rw [HA5.out.g] at t4 t1
      rw [show (setN (more (moveSt s fb fa tb ta)) fb fa 1).rk = s.rk by (rw [setN_rk]; show (moveSt s fb fa tb ta).rk = _; unfold moveSt; rw [setN_rk, setN_rk])] at t1
      have u1 := HO5.out.c1
      have u2 := HO5.out.c2
      have u3 := HO5.out.c3
      have u6 := HO5.out.c6
      rw [Nat.zero_add] at u1 u2 u3 u6
      have hwj : IntKind.i64.wrap (j : Int) = j := by rw [IntKind.wrap_i64]; omega
      have hj0 : (0 : Int) ≤ j := by omega
      have hj4 : (j : Int) < 4 := by omega
      obtain ⟨x, hx⟩ : ∃ x, x = placeI fb fa s.rk := ⟨_, rfl⟩
      have hxb := placeI_bd (b := fb) ha0 (show fa ≤ 23 by omega) hr1 hr2
      rw [← hx] at hxb
      have HX := Lib.hid hx
      clear hx
      have hwx : IntKind.i64.wrap (x + 1) = x + 1 := by rw [IntKind.wrap_i64]; omega
      have hwy : IntKind.i64.wrap x = x := by rw [IntKind.wrap_i64]; omega
      have hv2 : IntKind.i64.wrap ((IntKind.i64.wrap 2).tdiv 2) = 1 := by decide
      have hv0 : IntKind.i64.wrap ((IntKind.i64.wrap 0).tdiv 2) = 0 := by decide
      have hq1 : ∀ (W : World) (x : Nat) (v : Value) (q : Nat), (W.setCell ⟨a5.gc, x, none⟩ v).cell? ⟨a.g, q, none⟩ = W.cell? ⟨a.g, q, none⟩ := fun W x v q => World.cell?_setCell_other W _ _ v (by intro e; injection e with e1 e2; have h1 := HA5.out.m.tc; have h2 := HA5.out.m.tm; rw [HA5.out.g] at h2; rw [e1] at h1; omega)
      have hq2 : ∀ (W : World) (x : Nat) (v : Value) (q : Nat), (W.setCell ⟨a5.gc, x, none⟩ v).cell? ⟨w.heap.size, q, none⟩ = W.cell? ⟨w.heap.size, q, none⟩ := fun W x v q => World.cell?_setCell_other W _ _ v (by intro e; injection e with e1 e2; have h1 := HA5.out.m.tc; have h2 := (HA5.out.op HBX.out HTW.out).2; rw [e1] at h1; omega)
      have LG := Lib.hid (World.block_lt_of_cell? w5 _ t4)
      have LO := Lib.hid (World.block_lt_of_cell? w5 _ u1)
      have KS := Lib.hid (And.intro t4 (And.intro t1 (And.intro u1 (And.intro u2 (And.intro u3 u6)))))
      go_region_held3 (fun w' => w'.cell? ⟨a.g, 4, none⟩ = some (.slice (some ⟨a5.gc, 0, none⟩) 4 a5.cc) ∧ w'.cell? ⟨a.g, 1, none⟩ = some (.int .i64 s.rk) ∧ w'.cell? ⟨w.heap.size, 1, none⟩ = some (.int .i64 (1)) ∧ w'.cell? ⟨w.heap.size, 2, none⟩ = some (.int .i64 fb) ∧ w'.cell? ⟨w.heap.size, 2 + 1, none⟩ = some (.int .i64 fa) ∧ w'.cell? ⟨w.heap.size, 6, none⟩ = some (.int .i64 ((j : Int) + 1))) (go_keep)
        ((go_at_call 98; refine (place_any fb fa s.rk _ ha0 (by omega) hr1 hr2).mono ?_; rintro e w7 ⟨he, hb7⟩; obtain rfl : e = .returned (.int .i64 x) := he.trans (by rw [HX.out]); have HB7 : Hid (Below w5.heap.size w5 w7) := Lib.hid (((Below.refl w5.heap.size w5).drew).trans hb7); have y4 := ((bcell HB7.out).1 a.g 4 LG.out).trans KS.out.1; have y1 := ((bcell HB7.out).1 a.g 1 LG.out).trans KS.out.2.1; have z1 := ((bcell HB7.out).1 w.heap.size 1 LO.out).trans KS.out.2.2.1; have z2 := ((bcell HB7.out).1 w.heap.size 2 LO.out).trans KS.out.2.2.2.1; have z3 := ((bcell HB7.out).1 w.heap.size (2 + 1) LO.out).trans KS.out.2.2.2.2.1; have z6 := ((bcell HB7.out).1 w.heap.size 6 LO.out).trans KS.out.2.2.2.2.2; have cc := (HA5.out.below HB7.out).m.car HJ.out; have cc1 := cc.2.1; have cc2 := cc.2.2.2; clear cc hb7 he))
      rename_i hHeld
      have HA8 := Lib.hid ((HA5.out.below HB7.out).setAt HJ.out (x + 1))
      clear hHeld y4 y1 z1 z2 z3 z6 cc1 cc2 hq1 hq2 hwx hwy hv2 hv0 hwj
      go_wp2_with fail
      go_ret
      exact ⟨rfl, fun h => absurd rfl h, fun _ => Moved.of_below HG.out (by rw [HST.out, ← HX.out]; have h8 := HA8.out.moved; rw [HCE.out] at h8; exact h8)⟩
    · have t4 := (show _ = some (Value.slice (some ⟨a5.gc, 0, none⟩) 4 a5.cc) from HA5.out.m.m.cell 4)
      have t1 := (show _ = some (Value.int .i64 (setN (more (moveSt s fb fa tb ta)) fb fa 1).rk) from HA5.out.m.m.cell 1)
      rw [HA5.out.g] at t4 t1
      rw [show (setN (more (moveSt s fb fa tb ta)) fb fa 1).rk = s.rk by (rw [setN_rk]; show (moveSt s fb fa tb ta).rk = _; unfold moveSt; rw [setN_rk, setN_rk])] at t1
      have u1 := HO5.out.c1
      have u2 := HO5.out.c2
      have u3 := HO5.out.c3
      have u6 := HO5.out.c6
      rw [Nat.zero_add] at u1 u2 u3 u6
      have hwj : IntKind.i64.wrap (j : Int) = j := by rw [IntKind.wrap_i64]; omega
      have hj0 : (0 : Int) ≤ j := by omega
      have hj4 : (j : Int) < 4 := by omega
      obtain ⟨x, hx⟩ : ∃ x, x = placeI fb fa s.rk := ⟨_, rfl⟩
      have hxb := placeI_bd (b := fb) ha0 (show fa ≤ 23 by omega) hr1 hr2
      rw [← hx] at hxb
      have HX := Lib.hid hx
      clear hx
      have hwx : IntKind.i64.wrap (x + 1) = x + 1 := by rw [IntKind.wrap_i64]; omega
      have hwy : IntKind.i64.wrap x = x := by rw [IntKind.wrap_i64]; omega
      have hv2 : IntKind.i64.wrap ((IntKind.i64.wrap 2).tdiv 2) = 1 := by decide
      have hv0 : IntKind.i64.wrap ((IntKind.i64.wrap 0).tdiv 2) = 0 := by decide
      have hq1 : ∀ (W : World) (x : Nat) (v : Value) (q : Nat), (W.setCell ⟨a5.gc, x, none⟩ v).cell? ⟨a.g, q, none⟩ = W.cell? ⟨a.g, q, none⟩ := fun W x v q => World.cell?_setCell_other W _ _ v (by intro e; injection e with e1 e2; have h1 := HA5.out.m.tc; have h2 := HA5.out.m.tm; rw [HA5.out.g] at h2; rw [e1] at h1; omega)
      have hq2 : ∀ (W : World) (x : Nat) (v : Value) (q : Nat), (W.setCell ⟨a5.gc, x, none⟩ v).cell? ⟨w.heap.size, q, none⟩ = W.cell? ⟨w.heap.size, q, none⟩ := fun W x v q => World.cell?_setCell_other W _ _ v (by intro e; injection e with e1 e2; have h1 := HA5.out.m.tc; have h2 := (HA5.out.op HBX.out HTW.out).2; rw [e1] at h1; omega)
      have LG := Lib.hid (World.block_lt_of_cell? w5 _ t4)
      have LO := Lib.hid (World.block_lt_of_cell? w5 _ u1)
      have KS := Lib.hid (And.intro t4 (And.intro t1 (And.intro u1 (And.intro u2 (And.intro u3 u6)))))
      go_region_held3 (fun w' => w'.cell? ⟨a.g, 4, none⟩ = some (.slice (some ⟨a5.gc, 0, none⟩) 4 a5.cc) ∧ w'.cell? ⟨a.g, 1, none⟩ = some (.int .i64 s.rk) ∧ w'.cell? ⟨w.heap.size, 1, none⟩ = some (.int .i64 (-1)) ∧ w'.cell? ⟨w.heap.size, 2, none⟩ = some (.int .i64 fb) ∧ w'.cell? ⟨w.heap.size, 2 + 1, none⟩ = some (.int .i64 fa) ∧ w'.cell? ⟨w.heap.size, 6, none⟩ = some (.int .i64 ((j : Int) + 1))) (go_keep)
        ((go_at_call 98; refine (place_any fb fa s.rk _ ha0 (by omega) hr1 hr2).mono ?_; rintro e w7 ⟨he, hb7⟩; obtain rfl : e = .returned (.int .i64 x) := he.trans (by rw [HX.out]); have HB7 : Hid (Below w5.heap.size w5 w7) := Lib.hid (((Below.refl w5.heap.size w5).drew).trans hb7); have y4 := ((bcell HB7.out).1 a.g 4 LG.out).trans KS.out.1; have y1 := ((bcell HB7.out).1 a.g 1 LG.out).trans KS.out.2.1; have z1 := ((bcell HB7.out).1 w.heap.size 1 LO.out).trans KS.out.2.2.1; have z2 := ((bcell HB7.out).1 w.heap.size 2 LO.out).trans KS.out.2.2.2.1; have z3 := ((bcell HB7.out).1 w.heap.size (2 + 1) LO.out).trans KS.out.2.2.2.2.1; have z6 := ((bcell HB7.out).1 w.heap.size 6 LO.out).trans KS.out.2.2.2.2.2; have cc := (HA5.out.below HB7.out).m.car HJ.out; have cc1 := cc.2.1; have cc2 := cc.2.2.2; clear cc hb7 he))
      rename_i hHeld
      have HA8 := Lib.hid ((HA5.out.below HB7.out).setAt HJ.out (x))
      clear hHeld y4 y1 z1 z2 z3 z6 cc1 cc2 hq1 hq2 hwx hwy hv2 hv0 hwj
      go_wp2_with fail
      go_ret
      exact ⟨rfl, fun h => absurd rfl h, fun _ => Moved.of_below HG.out (by rw [HST.out, ← HX.out]; have h8 := HA8.out.moved; rw [HCE.out] at h8; exact h8)⟩
  · have hc1 : (code == 0) = false := by simpa using hc0
    have HC0 := Lib.hid hc0
    have HB1 := Lib.hid (HG.out.trans (hb1.mono HG.out.size))
    clear hb1 hc0
    go_wp2_with fail
    go_ret
    exact ⟨rfl, fun _ => HB1.out, fun h => absurd h HC0.out⟩
end
end Go.Proofs.Ytpmfkpehmckgmaa

namespace Go.Proofs.Ytpmfkpehmckgmaa
open Go.RowKit
set_option maxRecDepth 20000

/-- 'append(out, x...)' at a step of a region that draws its order: x reads as known cells; where the new value lies. -/
theorem step_appRa {P : Program} {o : Oper} {cond : Bool} {a : Act} {K : Act → World → Prop} {Q : Exit → Act → World → Prop} {E : Prop} (W : World) (hcond : cond = true) (s x : Operand) (t : TypeId)
    (ho : o.op = .call { callee := .builtin .append, args := #[s, x], argTypes := #[t, t] })
    (base : Nat) (e : TypeId) (i : TypeInfo) (z : Value) (size bytes : Nat) (ht : P.underlying t = some (.slice e)) (hi : P.info? e = some i) (hz : i.zero = some z)
    (hsize : i.size = size) (hby : i.bytes = bytes) (hzs : z.cells.size = size) (hsz : 0 < size)
    (v : Value) (n : Nat) (xs : List Value) (hs : a.eval s = v) (hown : W.ownsRow base e size v n xs)
    (g2 o2 m c : Nat) (f : Nat → Value) (hx : a.eval x = .slice (some ⟨g2, o2, none⟩) m c) (hrd : RowR W g2 o2 (m * size) f) (h1 : ∀ j, (f j).oneCell' = true)
    (h63 : n + m ≤ maxLen) (hbytes : (n + m) * bytes ≤ 140737488355328) (hbase : base ≤ W.heap.size)
    (h : ∀ v' w', w'.ownsRow base e size v' (n + m) (xs ++ (List.range (m * size)).map f) → Fr W w' (fun b => v.ownBlock = some b) → (v'.ownBlock = v.ownBlock ∨ v'.ownBlock = some W.heap.size) → K (a.put o.dst v') w') :
    if cond = true then Oper.wp P o a W K Q else E := by
  rw [if_pos hcond]
  obtain ⟨v', w', hr, h2, h3, _, h5⟩ := run_append_own_at (P := P) W base t o.type e i z size bytes ht hi hz hsize hby hzs hsz v n xs hown ⟨g2, o2, none⟩ m c ((List.range (m * size)).map f) (by simp) (by
    intro j u hu
    obtain ⟨hj, rfl⟩ : j < m * size ∧ f j = u := by
      by_cases hj : j < m * size
      · simp [hj] at hu; exact ⟨hj, hu⟩
      · rw [List.getElem?_eq_none (by simpa using hj)] at hu; cases hu
    rw [Addr.add_lit]
    exact hrd j hj) (fun u hu => by obtain ⟨j, _, rfl⟩ := List.mem_map.1 hu; exact h1 j) h63 hbytes hbase
  unfold Oper.wp execOp
  simp only [ho, resolve, invoke, builtin, Sem.run_bind, Sem.run_pure, Result.andThen_ok, List.map_toArray, List.map_cons, List.map_nil, hs, hx, hr]
  exact h v' w' h2 ⟨h3.os, h3.tape, h3.output, h3.size, fun b hb hne => h3.block b hb (fun e => hne e.symm)⟩ h5
theorem At.setDR {tg : Nat → Nat} {a : MAdr} {s : Mst} {w w0 wb : World} {tgb : Nat → Nat} {g : Nat} (h : At wb tgb g s w0 tg a) (r0 : MRest tg a s 6 w) (hfr : Fr w0 w (OwnB tg)) {v : Value} {m : Nat} (hv : DOwn w v m) (hf : Free tg v 6) (hnew : ∀ q, v.ownBlock = some q → tgb q ≠ 0 ∨ wb.heap.size ≤ q) :
    At wb tgb g { s with d := m } (w.setCell ⟨a.g, 6, none⟩ v) (retag tg v 6) { a with D := v } :=
  ⟨h.g, h.m.setD r0 hfr.size hv hf, h.fr (hfr.set (p := ⟨a.g, 6, none⟩) (by unfold OwnB; rw [h.m.tm]; omega) v), fun q hq => by
    unfold retag at hq
    split at hq
    · exact hnew q ‹_›
    · exact h.t q hq⟩
/-- The dropped loops' own block was written. -/
theorem At.reD {tg : Nat → Nat} {a : MAdr} {s : Mst} {w w0 wb : World} {tgb : Nat → Nat} {g : Nat} (h : At wb tgb g s w0 tg a) (hf : Fr w0 w (fun b => a.D.ownBlock = some b)) (hd : DOwn w a.D s.d) : At wb tgb g s w tg a := by
  have r := h.m.rest (w' := w) 6 fun b hb h6 => hf.block b (h.m.lt b hb) fun e => h6 (h.m.tD b e)
  exact ⟨h.g, ⟨r.m (by omega), (r.f (by omega)).1, (r.f (by omega)).2, (r.k (by omega)).1, (r.k (by omega)).2, (r.cr (by omega)).1, (r.cr (by omega)).2, fun i hi => r.lf i hi (by omega), fun i hi => r.lk i hi (by omega), r.l (by omega) (by omega), hd, h.m.tm, h.m.tf, h.m.tk, h.m.tc, h.m.tL, h.m.tD, h.m.tF, h.m.tK, fun b hb => Nat.lt_of_lt_of_le (h.m.lt b hb) hf.size⟩,
    h.fr (hf.mono fun b hb => by unfold OwnB; rw [h.m.tD b hb]; omega), h.t⟩
section
variable {tg : Nat → Nat} {a : MAdr} {s : Mst} {D : Nat} {w : World}
set_option maxHeartbeats 4000000 in
theorem execute_6 {d fb fa tb ta c r : Int} {j : Nat} (H : Mem tg a s w) (hs : MOk s D) (hD : D ≤ 1000000) (hp : OpOk s.W 6 d fb fa tb ta c r j) (hb : OpBeds 6 fb tb) (hf : BedOk 6 fb) : Calls Try.prog 64 #[.pointer (some ⟨a.g, 0, none⟩), .agg #[.int .i64 6, .int .i64 d, .int .i64 fb, .int .i64 fa, .int .i64 tb, .int .i64 ta, .int .i64 c, .int .i64 r]] w (ExP w tg a.g (doCode s 6 d fb fa tb ta j) (doSt s 6 d fb fa tb ta r j)) := by
  have hg : Below w.heap.size w (w.alloc (.cells #[.int .i64 6, .int .i64 d, .int .i64 fb, .int .i64 fa, .int .i64 tb, .int .i64 ta, .int .i64 c, .int .i64 r] 58)) := (Below.refl _ _).alloc (Nat.le_refl _) _
  have HG := Lib.hid hg
  have HA0 := Lib.hid (At.start (H.below hg))
  have hbox := box_ce w 6 d fb fa tb ta c r
  have HBX := Lib.hid hbox
  have HTW : Hid (tg w.heap.size = 0) := Lib.hid (Decidable.byContradiction fun hn => Nat.lt_irrefl _ (H.lt _ hn))
  have hoc := opCode_any (H.below hg) hs hp hb hf
  obtain ⟨code, hcode⟩ : ∃ z, z = doCode s 6 d fb fa tb ta j := ⟨_, rfl⟩
  rw [← hcode] at hoc ⊢
  obtain ⟨s9, hs9⟩ : ∃ z, z = doSt s 6 d fb fa tb ta r j := ⟨_, rfl⟩
  rw [← hs9]
  have HC := Lib.hid hcode
  have HS9 := Lib.hid hs9
  have HOC := Lib.hid hoc
  have HS := Lib.hid hs
  have HP := Lib.hid hp
  have HB := Lib.hid hb
  have HF := Lib.hid hf
  have hlA : ∃ AL cL, a.L = .slice AL s.n cL := HA0.out.L
  have HLA := Lib.hid hlA
  clear H hs hp hb hf hg hoc hcode hs9 hbox hlA
  go_enter Try.func64, Try.ntmps64
  go_wp2_with fail
  refine HOC.out.mono ?_
  rintro e w1 ⟨rfl, hb1⟩
  by_cases hc0 : code = 0
  · subst hc0
    have HA1 := Lib.hid (HA0.out.below hb1)
    have HO1 := Lib.hid (HA1.out.op HBX.out HTW.out).1
    clear hb1 HOC
    obtain ⟨i0, hi, iz, is, ib⟩ := info_parts infoN
    have hfb := HF.out (by omega)
    have ha0 := HP.out.f0
    have ha1 := HP.out.f1
    have hdb := HS.out.db
    have o0 := HO1.out.c0
    have o2 := HO1.out.c2
    have o3 := HO1.out.c3
    have HST : Hid (s9 = setN { s with d := s.d + lstN s fb fa } fb fa 0) := Lib.hid (by rw [HS9.out]; rfl)
    obtain ⟨nf, hnf⟩ : ∃ n, n = lstN s fb fa := ⟨_, rfl⟩
    have hf4 : nf ≤ 4 := by rw [hnf]; exact lstN_le HS.out ha0 ha1
    have hnz : nf ≠ 0 := by
      have h := HC.out
      unfold doCode at h
      rw [if_neg (by omega), if_neg (by omega), if_neg (by omega), if_pos rfl, ← hnf] at h
      intro h0
      rw [if_pos h0] at h
      omega
    have hlf := HA1.out.m.lst (b := fb) ha0 ha1
    rw [← hnf] at hlf
    obtain ⟨Af, cf, hvf⟩ := hlf.form
    have HVF := Lib.hid hvf
    have HNF := Lib.hid hnf
    rw [hvf] at hlf
    obtain ⟨FF, hrf⟩ := hlf.rdf
    obtain ⟨gl, ol, rfl, hgl, hrr⟩ := hrf (by omega)
    have HRR := Lib.hid hrr
    have HGL := Lib.hid hgl
    obtain ⟨qd, hqd, hlD⟩ := HA1.out.m.d
    obtain ⟨AD, cD, hAD⟩ := hlD.form
    rw [hAD] at hlD
    have HAD := Lib.hid hAD
    have HLD1 := Lib.hid hlD
    have HTD : Hid (∀ q, (Value.slice AD qd cD).ownBlock = some q → tg q = 6) := Lib.hid (by rw [← hAD]; exact HA1.out.m.tD)
    have m6 : w1.cell? ⟨a.g, 6, none⟩ = some (.slice AD qd cD) := (HA1.out.m.m.cell 6).trans (by rw [← hAD]; rfl)
    have LG := Lib.hid (World.block_lt_of_cell? w1 _ m6)
    have M6 := Lib.hid m6
    have HTM := Lib.hid HA1.out.m.tm
    clear hlf hvf hnf hrf hrr hgl hlD hAD
    go_wp2_with fail
    go_region_law (first
      | (go_simp; go_at_call 93; (with_reducible refine (on_any fb fa (HA1.out.below ((Below.refl w1.heap.size w1).drew)).m hfb ha0 ha1).mono ?_); rintro e w2 ⟨rfl, hb2⟩; have HB2 : Hid (Below w1.heap.size w1 w2) := Lib.hid (((Below.refl w1.heap.size w1).drew).trans hb2); have kc := (HA1.out.below HB2.out).m.cellN (b := fb) ha0 ha1; rw [HVF.out] at kc; have kd := ((bcell HB2.out).1 a.g 6 LG.out).trans M6.out; have HLD2 := Lib.hid (HLD1.out.blk fun q hq => HB2.out.block q (HLD1.out.lt q hq)); obtain ⟨xs, hxs⟩ := HLD2.out; have HXS := Lib.hid hxs; clear hb2 hxs)
      | (refine step_appRa w2 (by rfl) (.tmp 62) (.tmp 68) _ (by rfl) 0 2 i0 _ 1 8 Try.underlying41 hi iz is ib rfl (by omega) (.slice AD qd cD) qd (ints xs) (by rfl) HXS.out gl ol nf cf (fun j => .int .i64 (FF j)) (by rfl) (by rw [Nat.mul_one]; exact HRR.out.below HGL.out HB2.out) (fun j => rfl) (by unfold maxLen; omega) (by omega) (Nat.zero_le _) ?_; intro v5 w5 hown5 hfr5 hat5; obtain ⟨A5, c5, rfl⟩ := own_form hown5; have hn6 : ¬ (Value.slice AD qd cD).ownBlock = some a.g := (fun e => by have h1 := HTD.out _ e; have h2 := HTM.out; omega); have hlg : a.g < w2.heap.size := Nat.lt_of_lt_of_le LG.out HB2.out.size; have k6 := (hfr5.cells hlg hn6 6).trans kd; have f6 : w5.frozen? ⟨a.g, 6, none⟩ = false := (World.frozen?_of_block (w := w2) (a := ⟨a.g, 6, none⟩) (hfr5.block a.g hlg hn6)).trans ((HA1.out.below HB2.out).m.m.frozen 6); have HOWN5 := Lib.hid hown5; have HFR5 := Lib.hid hfr5; have HAT5 := Lib.hid hat5; clear hown5 hfr5 hat5 hn6 hlg))
    all_goals
      have HA2 := Lib.hid (HA1.out.below HB2.out)
      have HN5 : Hid (∀ q, (Value.slice A5 (qd + nf) c5).ownBlock = some q → tg q = 6 ∨ (tg q = 0 ∧ w2.heap.size ≤ q)) := Lib.hid fun q hq => by
        rcases HAT5.out with h | h
        · exact .inl (HTD.out q (h.symm.trans hq))
        · rw [hq] at h
          have h' : q = w2.heap.size := Option.some.inj h
          exact .inr ⟨Decidable.byContradiction fun hn => by have := HA2.out.m.lt q hn; omega, by omega⟩
      have HL5 : Hid (LOwn w5 (.slice A5 (qd + nf) c5) (qd + nf)) := Lib.hid ⟨xs ++ (List.range nf).map FF, by have h := HOWN5.out; rw [Nat.mul_one] at h; rw [ints_app]; simpa [ints, Function.comp_def] using h⟩
      have HA6 := Lib.hid (HA2.out.setDR (w := w5) (v := .slice A5 (qd + nf) c5) (m := s.d + nf) (HA2.out.m.rest 6 fun b hb h6 => HFR5.out.block b (HA2.out.m.lt b hb) fun e => h6 (HTD.out b e)) (HFR5.out.mono fun b hb => by unfold OwnB; rw [HTD.out b hb]; omega) ⟨qd + nf, by omega, HL5.out⟩ (fun q hq => by rcases HN5.out q hq with h | h; exact .inr h; exact .inl h.1) (fun q hq => by rcases HN5.out q hq with h | h; exact .inl (by omega); exact .inr (Nat.le_trans HA2.out.f.size h.2)))
      have HL6 : Hid (LOwn (w5.setCell ⟨a.g, 6, none⟩ (.slice A5 (qd + nf) c5)) (.slice A5 (qd + nf) c5) (qd + nf)) := Lib.hid (HL5.out.blk fun q hq => set_keep _ _ _ _ (by
        intro e
        have h2 := HTM.out
        have h3 := HA2.out.m.lt a.g (by omega)
        rw [← show q = a.g from e] at h2 h3
        rcases HN5.out q hq with h | h <;> omega))
      clear kc kd m6 o0 o2 o3
      go_wp2_with fail
      refine (sort_any _ (qd + nf) HL6.out (by omega)).mono ?_
      rintro e w7 ⟨rfl, hl7, hf7⟩
      have HA7 := Lib.hid (HA6.out.reD hf7 ⟨qd + nf, by show qd + nf ≤ s.d + nf; omega, hl7⟩)
      have HO7 := Lib.hid (HA7.out.op HBX.out HTW.out).1
      have z0 := HO7.out.c0
      have z2 := HO7.out.c2
      have z3 := HO7.out.c3
      clear hl7 hf7 k6 f6
      go_wp2_with fail
      have hon := on_any fb fa HA7.out.m hfb ha0 ha1
      rw [show bedG ({ a with D := .slice A5 (qd + nf) c5 } : MAdr) fb = bedG a fb from rfl] at hon
      refine hon.mono ?_
      rintro e w8 ⟨rfl, hb8⟩
      clear hon
      have HA8 := Lib.hid (HA7.out.below hb8)
      have k8 := HA8.out.m.cellN (b := fb) ha0 ha1
      replace k8 : w8.cell? ⟨bedG a fb, fa.toNat, none⟩ = some (lstV a fb fa) := k8
      rw [HVF.out] at k8
      have f8 : w8.frozen? ⟨bedG a fb, fa.toNat, none⟩ = false := HA8.out.m.frzN (b := fb) ha0 ha1
      have HA9 := Lib.hid (HA8.out.putX (b := fb) ha0 ha1 (LOwn.nil w8) (fun q hq => by cases hq) (fun q hq => by cases hq))
      have HO9 := Lib.hid (HA9.out.op HBX.out HTW.out).1
      have x0 : (w8.setCell ⟨bedG a fb, fa.toNat, none⟩ (.slice none 0 0)).cell? ⟨w.heap.size, 0, none⟩ = some (.int .i64 6) := HO9.out.c0
      clear hb8 z0 z2 z3
      go_wp2_with (go_at_call 97; refine (makesLoop_any _ _ (by omega) (by omega)).mono ?_; rintro e w' ⟨rfl, rfl⟩)
      go_ret
      exact ⟨rfl, fun h => absurd rfl h, fun _ => Moved.of_below HG.out (by rw [HST.out, ← HNF.out]; exact HA9.out.moved)⟩
  · have hc1 : (code == 0) = false := by simpa using hc0
    have HC0 := Lib.hid hc0
    have HB1 := Lib.hid (HG.out.trans (hb1.mono HG.out.size))
    clear hb1 hc0
    go_wp2_with fail
    go_ret
    exact ⟨rfl, fun _ => HB1.out, fun h => absurd h HC0.out⟩
end
end Go.Proofs.Ytpmfkpehmckgmaa
