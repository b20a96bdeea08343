/- Walks: an operation is executed, by the program. No condition but the machine's bounds and the operation's. (Printed by wip/exgen.py.) -/
import Derived.Test.YtpmfkpehmckgmaaMachXp
namespace Go.Proofs.Ytpmfkpehmckgmaa
open Go.RowKit
set_option maxRecDepth 20000

section
variable {tg : Nat → Nat} {a : MAdr} {s : Mst} {D : Nat} {w : World}
set_option maxHeartbeats 4000000 in
theorem execute_7 {d fb fa tb ta c r : Int} {j : Nat} (H : Mem tg a s w) (hs : MOk s D) (hD : D ≤ 1000000) (hp : OpOk s.W 7 d fb fa tb ta c r j) (hb : OpBeds 7 fb tb) (hf : BedOk 7 fb) : Calls Try.prog 64 #[.pointer (some ⟨a.g, 0, none⟩), .agg #[.int .i64 7, .int .i64 d, .int .i64 fb, .int .i64 fa, .int .i64 tb, .int .i64 ta, .int .i64 c, .int .i64 r]] w (ExP w tg a.g (doCode s 7 d fb fa tb ta j) (doSt s 7 d fb fa tb ta r j)) := by
  have hg : Below w.heap.size w (w.alloc (.cells #[.int .i64 7, .int .i64 d, .int .i64 fb, .int .i64 fa, .int .i64 tb, .int .i64 ta, .int .i64 c, .int .i64 r] 58)) := (Below.refl _ _).alloc (Nat.le_refl _) _
  have HG := Lib.hid hg
  have HA0 := Lib.hid (At.start (H.below hg))
  have hbox := box_ce w 7 d fb fa tb ta c r
  have HBX := Lib.hid hbox
  have HTW : Hid (tg w.heap.size = 0) := Lib.hid (Decidable.byContradiction fun hn => Nat.lt_irrefl _ (H.lt _ hn))
  have hoc := opCode_any (H.below hg) hs hp hb hf
  obtain ⟨code, hcode⟩ : ∃ z, z = doCode s 7 d fb fa tb ta j := ⟨_, rfl⟩
  rw [← hcode] at hoc ⊢
  obtain ⟨s9, hs9⟩ : ∃ z, z = doSt s 7 d fb fa tb ta r j := ⟨_, rfl⟩
  rw [← hs9]
  have HC := Lib.hid hcode
  have HS9 := Lib.hid hs9
  have HOC := Lib.hid hoc
  have HS := Lib.hid hs
  have HP := Lib.hid hp
  have HB := Lib.hid hb
  have HF := Lib.hid hf
  have hlA : ∃ AL cL, a.L = .slice AL s.n cL := HA0.out.L
  have HLA := Lib.hid hlA
  clear H hs hp hb hf hg hoc hcode hs9 hbox hlA
  go_enter Try.func64, Try.ntmps64
  go_wp2_with fail
  refine HOC.out.mono ?_
  rintro e w1 ⟨rfl, hb1⟩
  by_cases hc0 : code = 0
  · subst hc0
    have HA1 := Lib.hid (HA0.out.below hb1)
    have HO1 := Lib.hid (HA1.out.op HBX.out HTW.out).1
    clear hb1 HOC
    have o0 := HO1.out.c0
    have o7 := HO1.out.c7
    have m1 := (show w1.cell? ⟨a.g, 1, none⟩ = some (Value.int .i64 s.rk) from HA1.out.m.m.cell 1)
    have f1 := HA1.out.m.m.frozen 1
    have HA2 := Lib.hid (HA1.out.setRack r)
    have HO2 := Lib.hid (HA2.out.op HBX.out HTW.out).1
    have p0 := HO2.out.c0
    have HST : Hid (s9 = { s with rk := r }) := Lib.hid (by rw [HS9.out]; simp [doSt])
    go_wp2_with (go_at_call 97; refine (makesLoop_any _ _ (by omega) (by omega)).mono ?_; rintro e w' ⟨rfl, rfl⟩)
    go_ret
    exact ⟨rfl, fun h => absurd rfl h, fun _ => Moved.of_below HG.out (by rw [HST.out]; exact HA2.out.moved)⟩
  · exact absurd (HC.out.trans (by simp [doCode])) hc0
set_option maxHeartbeats 4000000 in
theorem execute_4 {d fb fa tb ta c r : Int} {j : Nat} (H : Mem tg a s w) (hs : MOk s D) (hD : D ≤ 1000000) (hp : OpOk s.W 4 d fb fa tb ta c r j) (hb : OpBeds 4 fb tb) (hf : BedOk 4 fb) : Calls Try.prog 64 #[.pointer (some ⟨a.g, 0, none⟩), .agg #[.int .i64 4, .int .i64 d, .int .i64 fb, .int .i64 fa, .int .i64 tb, .int .i64 ta, .int .i64 c, .int .i64 r]] w (ExP w tg a.g (doCode s 4 d fb fa tb ta j) (doSt s 4 d fb fa tb ta r j)) := by
  have hg : Below w.heap.size w (w.alloc (.cells #[.int .i64 4, .int .i64 d, .int .i64 fb, .int .i64 fa, .int .i64 tb, .int .i64 ta, .int .i64 c, .int .i64 r] 58)) := (Below.refl _ _).alloc (Nat.le_refl _) _
  have HG := Lib.hid hg
  have HA0 := Lib.hid (At.start (H.below hg))
  have hbox := box_ce w 4 d fb fa tb ta c r
  have HBX := Lib.hid hbox
  have HTW : Hid (tg w.heap.size = 0) := Lib.hid (Decidable.byContradiction fun hn => Nat.lt_irrefl _ (H.lt _ hn))
  have hoc := opCode_any (H.below hg) hs hp hb hf
  obtain ⟨code, hcode⟩ : ∃ z, z = doCode s 4 d fb fa tb ta j := ⟨_, rfl⟩
  rw [← hcode] at hoc ⊢
  obtain ⟨s9, hs9⟩ : ∃ z, z = doSt s 4 d fb fa tb ta r j := ⟨_, rfl⟩
  rw [← hs9]
  have HC := Lib.hid hcode
  have HS9 := Lib.hid hs9
  have HOC := Lib.hid hoc
  have HS := Lib.hid hs
  have HP := Lib.hid hp
  have HB := Lib.hid hb
  have HF := Lib.hid hf
  have hlA : ∃ AL cL, a.L = .slice AL s.n cL := HA0.out.L
  have HLA := Lib.hid hlA
  clear H hs hp hb hf hg hoc hcode hs9 hbox hlA
  go_enter Try.func64, Try.ntmps64
  go_wp2_with fail
  refine HOC.out.mono ?_
  rintro e w1 ⟨rfl, hb1⟩
  by_cases hc0 : code = 0
  · subst hc0
    have HA1 := Lib.hid (HA0.out.below hb1)
    have HO1 := Lib.hid (HA1.out.op HBX.out HTW.out).1
    clear hb1 HOC
    have hbb := HB.out (.inl rfl)
    have hnz : lstN s fb fa ≠ 0 := by
      have h := HC.out
      unfold doCode at h
      rw [if_neg (by omega), if_neg (by omega), if_pos rfl] at h
      unfold moveCode at h
      intro h0
      rw [if_pos h0] at h
      split at h <;> omega
    have htr := transfer_any fb fa tb ta HA1.out.m HS.out hbb HP.out.f0 HP.out.f1 HP.out.t0 HP.out.t1 hnz
    have HTR := Lib.hid htr
    have o0 := HO1.out.c0
    have o2 := HO1.out.c2
    have o3 := HO1.out.c3
    have o4 := HO1.out.c4
    have o5 := HO1.out.c5
    have HST : Hid (s9 = moveSt s fb fa tb ta) := Lib.hid (by rw [HS9.out]; simp [doSt])
    clear htr hbb hnz
    go_wp2_with (first
      | (go_at_call 97; refine (makesLoop_any _ _ (by omega) (by omega)).mono ?_; rintro e w' ⟨rfl, rfl⟩)
      | (go_at_call 95; refine HTR.out.mono ?_; rintro e w2 ⟨v, tg2, a2, rfl, hat2, _, _, _⟩; have HA2 := Lib.hid (HA1.out.comp hat2); have HO2 := Lib.hid (HA2.out.op HBX.out HTW.out).1; have p0 := HO2.out.c0; clear hat2))
    go_ret
    exact ⟨rfl, fun h => absurd rfl h, fun _ => Moved.of_below HG.out (by rw [HST.out]; exact HA2.out.moved)⟩
  · have hc1 : (code == 0) = false := by simpa using hc0
    have HC0 := Lib.hid hc0
    have HB1 := Lib.hid (HG.out.trans (hb1.mono HG.out.size))
    clear hb1 hc0
    go_wp2_with fail
    go_ret
    exact ⟨rfl, fun _ => HB1.out, fun h => absurd h HC0.out⟩
set_option maxHeartbeats 4000000 in
theorem execute_9 {d fb fa tb ta c r : Int} {j : Nat} (H : Mem tg a s w) (hs : MOk s D) (hD : D ≤ 1000000) (hp : OpOk s.W 9 d fb fa tb ta c r j) (hb : OpBeds 9 fb tb) (hf : BedOk 9 fb) : Calls Try.prog 64 #[.pointer (some ⟨a.g, 0, none⟩), .agg #[.int .i64 9, .int .i64 d, .int .i64 fb, .int .i64 fa, .int .i64 tb, .int .i64 ta, .int .i64 c, .int .i64 r]] w (ExP w tg a.g (doCode s 9 d fb fa tb ta j) (doSt s 9 d fb fa tb ta r j)) := by
  have hg : Below w.heap.size w (w.alloc (.cells #[.int .i64 9, .int .i64 d, .int .i64 fb, .int .i64 fa, .int .i64 tb, .int .i64 ta, .int .i64 c, .int .i64 r] 58)) := (Below.refl _ _).alloc (Nat.le_refl _) _
  have HG := Lib.hid hg
  have HA0 := Lib.hid (At.start (H.below hg))
  have hbox := box_ce w 9 d fb fa tb ta c r
  have HBX := Lib.hid hbox
  have HTW : Hid (tg w.heap.size = 0) := Lib.hid (Decidable.byContradiction fun hn => Nat.lt_irrefl _ (H.lt _ hn))
  have hoc := opCode_any (H.below hg) hs hp hb hf
  obtain ⟨code, hcode⟩ : ∃ z, z = doCode s 9 d fb fa tb ta j := ⟨_, rfl⟩
  rw [← hcode] at hoc ⊢
  obtain ⟨s9, hs9⟩ : ∃ z, z = doSt s 9 d fb fa tb ta r j := ⟨_, rfl⟩
  rw [← hs9]
  have HC := Lib.hid hcode
  have HS9 := Lib.hid hs9
  have HOC := Lib.hid hoc
  have HS := Lib.hid hs
  have HP := Lib.hid hp
  have HB := Lib.hid hb
  have HF := Lib.hid hf
  have hlA : ∃ AL cL, a.L = .slice AL s.n cL := HA0.out.L
  have HLA := Lib.hid hlA
  clear H hs hp hb hf hg hoc hcode hs9 hbox hlA
  go_enter Try.func64, Try.ntmps64
  go_wp2_with fail
  refine HOC.out.mono ?_
  rintro e w1 ⟨rfl, hb1⟩
  by_cases hc0 : code = 0
  · subst hc0
    have HA1 := Lib.hid (HA0.out.below hb1)
    have HO1 := Lib.hid (HA1.out.op HBX.out HTW.out).1
    clear hb1 HOC
    obtain ⟨rfl, hj⟩ := HP.out.car (by omega) (by omega) (by omega)
    have HJ := Lib.hid hj
    have m4 := (show w1.cell? ⟨a.g, 4, none⟩ = some (Value.slice (some ⟨a.gc, 0, none⟩) 4 a.cc) from HA1.out.m.m.cell 4)
    obtain ⟨k0, k1, f0, f1⟩ := HA1.out.m.car hj
    have o0 := HO1.out.c0
    have o6 := HO1.out.c6
    have HST : Hid (s9 = { s with cin := fun q => if q = j then false else s.cin q, cat := fun q => if q = j then 0 else s.cat q }) := Lib.hid (by
      rw [HS9.out]
      simp [doSt, inSt])
    have HA2 := Lib.hid ((HA1.out.setIn hj false).setAt hj 0)
    have HO2 := Lib.hid (HA2.out.op HBX.out HTW.out).1
    have p0 := HO2.out.c0
    go_wp2_with fail
    go_region
    all_goals
      go_wp2_with (go_at_call 97; refine (makesLoop_any _ _ (by omega) (by omega)).mono ?_; rintro e w' ⟨rfl, rfl⟩)
      go_ret
      exact ⟨rfl, fun h => absurd rfl h, fun _ => Moved.of_below HG.out (by rw [HST.out]; first | exact HA2.out.moved | exact (HA2.out.below ((Below.refl _ _).drew)).moved | exact (HA2.out.below (((Below.refl _ _).drew).drew)).moved)⟩
  · have hc1 : (code == 0) = false := by simpa using hc0
    have HC0 := Lib.hid hc0
    have HB1 := Lib.hid (HG.out.trans (hb1.mono HG.out.size))
    clear hb1 hc0
    go_wp2_with fail
    go_ret
    exact ⟨rfl, fun _ => HB1.out, fun h => absurd h HC0.out⟩
set_option maxHeartbeats 4000000 in
theorem execute_8 {d fb fa tb ta c r : Int} {j : Nat} (H : Mem tg a s w) (hs : MOk s D) (hD : D ≤ 1000000) (hp : OpOk s.W 8 d fb fa tb ta c r j) (hb : OpBeds 8 fb tb) (hf : BedOk 8 fb) : Calls Try.prog 64 #[.pointer (some ⟨a.g, 0, none⟩), .agg #[.int .i64 8, .int .i64 d, .int .i64 fb, .int .i64 fa, .int .i64 tb, .int .i64 ta, .int .i64 c, .int .i64 r]] w (ExP w tg a.g (doCode s 8 d fb fa tb ta j) (doSt s 8 d fb fa tb ta r j)) := by
  have hg : Below w.heap.size w (w.alloc (.cells #[.int .i64 8, .int .i64 d, .int .i64 fb, .int .i64 fa, .int .i64 tb, .int .i64 ta, .int .i64 c, .int .i64 r] 58)) := (Below.refl _ _).alloc (Nat.le_refl _) _
  have HG := Lib.hid hg
  have HA0 := Lib.hid (At.start (H.below hg))
  have hbox := box_ce w 8 d fb fa tb ta c r
  have HBX := Lib.hid hbox
  have HTW : Hid (tg w.heap.size = 0) := Lib.hid (Decidable.byContradiction fun hn => Nat.lt_irrefl _ (H.lt _ hn))
  have hoc := opCode_any (H.below hg) hs hp hb hf
  obtain ⟨code, hcode⟩ : ∃ z, z = doCode s 8 d fb fa tb ta j := ⟨_, rfl⟩
  rw [← hcode] at hoc ⊢
  obtain ⟨s9, hs9⟩ : ∃ z, z = doSt s 8 d fb fa tb ta r j := ⟨_, rfl⟩
  rw [← hs9]
  have HC := Lib.hid hcode
  have HS9 := Lib.hid hs9
  have HOC := Lib.hid hoc
  have HS := Lib.hid hs
  have HP := Lib.hid hp
  have HB := Lib.hid hb
  have HF := Lib.hid hf
  have hlA : ∃ AL cL, a.L = .slice AL s.n cL := HA0.out.L
  have HLA := Lib.hid hlA
  clear H hs hp hb hf hg hoc hcode hs9 hbox hlA
  go_enter Try.func64, Try.ntmps64
  go_wp2_with fail
  refine HOC.out.mono ?_
  rintro e w1 ⟨rfl, hb1⟩
  by_cases hc0 : code = 0
  · subst hc0
    have HA1 := Lib.hid (HA0.out.below hb1)
    have HO1 := Lib.hid (HA1.out.op HBX.out HTW.out).1
    clear hb1 HOC
    obtain ⟨rfl, hj⟩ := HP.out.car (by omega) (by omega) (by omega)
    have HJ := Lib.hid hj
    have m4 := (show w1.cell? ⟨a.g, 4, none⟩ = some (Value.slice (some ⟨a.gc, 0, none⟩) 4 a.cc) from HA1.out.m.m.cell 4)
    obtain ⟨k0, k1, f0, f1⟩ := HA1.out.m.car hj
    have hd := HP.out.dir (by omega) (by omega) (by omega) (by omega)
    have o0 := HO1.out.c0
    have o1 := HO1.out.c1
    have o6 := HO1.out.c6
    have hw2 := HS.out.w2
    have HA2 := Lib.hid ((HA1.out.setIn hj true).setAt hj (-3))
    have HO2 := Lib.hid (HA2.out.op HBX.out HTW.out).1
    have p0 := HO2.out.c0
    have p1 := HO2.out.c1
    have p6 := HO2.out.c6
    rcases hd with rfl | rfl
    · have HST : Hid (s9 = { s with cin := fun q => if q = j then true else s.cin q, cat := fun q => if q = j then -3 else s.cat q }) := Lib.hid (by
        rw [HS9.out]
        simp [doSt, inSt])
      go_wp2_with fail
      go_region
      all_goals
        go_wp2_with (go_at_call 97; refine (makesLoop_any _ _ (by omega) (by omega)).mono ?_; rintro e w' ⟨rfl, rfl⟩)
        go_ret
        exact ⟨rfl, fun h => absurd rfl h, fun _ => Moved.of_below HG.out (by rw [HST.out]; first | exact HA2.out.moved | exact (HA2.out.below ((Below.refl _ _).drew)).moved | exact (HA2.out.below (((Below.refl _ _).drew).drew)).moved)⟩
    · have HST : Hid (s9 = { s with cin := fun q => if q = j then true else s.cin q, cat := fun q => if q = j then (s.W : Int) + 3 else (if q = j then -3 else s.cat q) }) := Lib.hid (by
        rw [HS9.out]
        simp [doSt, inSt]
        funext q
        by_cases h : q = j <;> simp [h])
      have HA3 := Lib.hid (HA2.out.setAt hj ((s.W : Int) + 3))
      have HO3 := Lib.hid (HA3.out.op HBX.out HTW.out).1
      have x0 := HO3.out.c0
      have n0 := HA2.out.m.m.cell 0
      have n4 := (show _ = some (Value.slice (some ⟨a.gc, 0, none⟩) 4 a.cc) from HA2.out.m.m.cell 4)
      replace n0 := (show _ = some (Value.int .i64 s.W) from n0)
      obtain ⟨kk0, kk1, ff0, ff1⟩ := HA2.out.m.car hj
      go_wp2_with fail
      go_region
      all_goals
        go_wp2_with fail
        go_region
        all_goals
          go_wp2_with (go_at_call 97; refine (makesLoop_any _ _ (by omega) (by omega)).mono ?_; rintro e w' ⟨rfl, rfl⟩)
          go_ret
          exact ⟨rfl, fun h => absurd rfl h, fun _ => Moved.of_below HG.out (by rw [HST.out]; first | exact HA3.out.moved | exact (HA3.out.below ((Below.refl _ _).drew)).moved | exact (HA3.out.below (((Below.refl _ _).drew).drew)).moved)⟩
  · have hc1 : (code == 0) = false := by simpa using hc0
    have HC0 := Lib.hid hc0
    have HB1 := Lib.hid (HG.out.trans (hb1.mono HG.out.size))
    clear hb1 hc0
    go_wp2_with fail
    go_ret
    exact ⟨rfl, fun _ => HB1.out, fun h => absurd h HC0.out⟩
set_option maxHeartbeats 4000000 in
theorem execute_3 {d fb fa tb ta c r : Int} {j : Nat} (H : Mem tg a s w) (hs : MOk s D) (hD : D ≤ 1000000) (hp : OpOk s.W 3 d fb fa tb ta c r j) (hb : OpBeds 3 fb tb) (hf : BedOk 3 fb) : Calls Try.prog 64 #[.pointer (some ⟨a.g, 0, none⟩), .agg #[.int .i64 3, .int .i64 d, .int .i64 fb, .int .i64 fa, .int .i64 tb, .int .i64 ta, .int .i64 c, .int .i64 r]] w (ExP w tg a.g (doCode s 3 d fb fa tb ta j) (doSt s 3 d fb fa tb ta r j)) := by
  have hg : Below w.heap.size w (w.alloc (.cells #[.int .i64 3, .int .i64 d, .int .i64 fb, .int .i64 fa, .int .i64 tb, .int .i64 ta, .int .i64 c, .int .i64 r] 58)) := (Below.refl _ _).alloc (Nat.le_refl _) _
  have HG := Lib.hid hg
  have HA0 := Lib.hid (At.start (H.below hg))
  have hbox := box_ce w 3 d fb fa tb ta c r
  have HBX := Lib.hid hbox
  have HTW : Hid (tg w.heap.size = 0) := Lib.hid (Decidable.byContradiction fun hn => Nat.lt_irrefl _ (H.lt _ hn))
  have hoc := opCode_any (H.below hg) hs hp hb hf
  obtain ⟨code, hcode⟩ : ∃ z, z = doCode s 3 d fb fa tb ta j := ⟨_, rfl⟩
  rw [← hcode] at hoc ⊢
  obtain ⟨s9, hs9⟩ : ∃ z, z = doSt s 3 d fb fa tb ta r j := ⟨_, rfl⟩
  rw [← hs9]
  have HC := Lib.hid hcode
  have HS9 := Lib.hid hs9
  have HOC := Lib.hid hoc
  have HS := Lib.hid hs
  have HP := Lib.hid hp
  have HB := Lib.hid hb
  have HF := Lib.hid hf
  have hlA : ∃ AL cL, a.L = .slice AL s.n cL := HA0.out.L
  have HLA := Lib.hid hlA
  clear H hs hp hb hf hg hoc hcode hs9 hbox hlA
  go_enter Try.func64, Try.ntmps64
  go_wp2_with fail
  refine HOC.out.mono ?_
  rintro e w1 ⟨rfl, hb1⟩
  by_cases hc0 : code = 0
  · subst hc0
    have HA1 := Lib.hid (HA0.out.below hb1)
    have HO1 := Lib.hid (HA1.out.op HBX.out HTW.out).1
    clear hb1 HOC
    obtain ⟨rfl, hj⟩ := HP.out.car (by omega) (by omega) (by omega)
    have HJ := Lib.hid hj
    have hd := HP.out.dir (by omega) (by omega) (by omega) (by omega)
    have ha0 := HP.out.f0
    have ha1 := HP.out.f1
    have hw2 := HS.out.w2
    have hr1 := HS.out.r1
    have hr2 := HS.out.r2
    have o0 := HO1.out.c0
    have HST : Hid (s9 = { s with cat := fun q => if q = j then (if d = 1 then placeI fb fa s.rk + 1 else placeI fb fa s.rk) else s.cat q }) := Lib.hid (by
      rw [HS9.out]
      simp [doSt, carrySt])
    go_wp2_with (go_at_call 97; refine (makesLoop_any _ _ (by omega) (by omega)).mono ?_; rintro e w' ⟨rfl, rfl⟩)
    rcases hd with rfl | rfl
    · have t4 := (show _ = some (Value.slice (some ⟨a.gc, 0, none⟩) 4 a.cc) from HA1.out.m.m.cell 4)
      have t1 := (show _ = some (Value.int .i64 (s).rk) from HA1.out.m.m.cell 1)
      rw [HA1.out.g] at t4 t1
      rw [show s.rk = s.rk from rfl] at t1
      have u1 := HO1.out.c1
      have u2 := HO1.out.c2
      have u3 := HO1.out.c3
      have u6 := HO1.out.c6
      rw [Nat.zero_add] at u1 u2 u3 u6
      have hwj : IntKind.i64.wrap (j : Int) = j := by rw [IntKind.wrap_i64]; omega
      have hj0 : (0 : Int) ≤ j := by omega
      have hj4 : (j : Int) < 4 := by omega
      obtain ⟨x, hx⟩ : ∃ x, x = placeI fb fa s.rk := ⟨_, rfl⟩
      have hxb := placeI_bd (b := fb) ha0 (show fa ≤ 23 by omega) hr1 hr2
      rw [← hx] at hxb
      have HX := Lib.hid hx
      clear hx
      have hwx : IntKind.i64.wrap (x + 1) = x + 1 := by rw [IntKind.wrap_i64]; omega
      have hwy : IntKind.i64.wrap x = x := by rw [IntKind.wrap_i64]; omega
      have hv2 : IntKind.i64.wrap ((IntKind.i64.wrap 2).tdiv 2) = 1 := by decide
      have hv0 : IntKind.i64.wrap ((IntKind.i64.wrap 0).tdiv 2) = 0 := by decide
      have hq1 : ∀ (W : World) (x : Nat) (v : Value) (q : Nat), (W.setCell ⟨a.gc, x, none⟩ v).cell? ⟨a.g, q, none⟩ = W.cell? ⟨a.g, q, none⟩ := fun W x v q => World.cell?_setCell_other W _ _ v (by intro e; injection e with e1 e2; have h1 := HA1.out.m.tc; have h2 := HA1.out.m.tm; rw [HA1.out.g] at h2; rw [e1] at h1; omega)
      have hq2 : ∀ (W : World) (x : Nat) (v : Value) (q : Nat), (W.setCell ⟨a.gc, x, none⟩ v).cell? ⟨w.heap.size, q, none⟩ = W.cell? ⟨w.heap.size, q, none⟩ := fun W x v q => World.cell?_setCell_other W _ _ v (by intro e; injection e with e1 e2; have h1 := HA1.out.m.tc; have h2 := (HA1.out.op HBX.out HTW.out).2; rw [e1] at h1; omega)
      have LG := Lib.hid (World.block_lt_of_cell? w1 _ t4)
      have LO := Lib.hid (World.block_lt_of_cell? w1 _ u1)
      have KS := Lib.hid (And.intro t4 (And.intro t1 (And.intro u1 (And.intro u2 (And.intro u3 u6)))))
      go_region_held3 (fun w' => w'.cell? ⟨a.g, 4, none⟩ = some (.slice (some ⟨a.gc, 0, none⟩) 4 a.cc) ∧ w'.cell? ⟨a.g, 1, none⟩ = some (.int .i64 s.rk) ∧ w'.cell? ⟨w.heap.size, 1, none⟩ = some (.int .i64 (1)) ∧ w'.cell? ⟨w.heap.size, 2, none⟩ = some (.int .i64 fb) ∧ w'.cell? ⟨w.heap.size, 2 + 1, none⟩ = some (.int .i64 fa) ∧ w'.cell? ⟨w.heap.size, 6, none⟩ = some (.int .i64 ((j : Int) + 1))) (go_keep)
        ((go_at_call 98; refine (place_any fb fa s.rk _ ha0 (by omega) hr1 hr2).mono ?_; rintro e w7 ⟨he, hb7⟩; obtain rfl : e = .returned (.int .i64 x) := he.trans (by rw [HX.out]); have HB7 : Hid (Below w1.heap.size w1 w7) := Lib.hid (((Below.refl w1.heap.size w1).drew).trans hb7); have y4 := ((bcell HB7.out).1 a.g 4 LG.out).trans KS.out.1; have y1 := ((bcell HB7.out).1 a.g 1 LG.out).trans KS.out.2.1; have z1 := ((bcell HB7.out).1 w.heap.size 1 LO.out).trans KS.out.2.2.1; have z2 := ((bcell HB7.out).1 w.heap.size 2 LO.out).trans KS.out.2.2.2.1; have z3 := ((bcell HB7.out).1 w.heap.size (2 + 1) LO.out).trans KS.out.2.2.2.2.1; have z6 := ((bcell HB7.out).1 w.heap.size 6 LO.out).trans KS.out.2.2.2.2.2; have cc := (HA1.out.below HB7.out).m.car HJ.out; have cc1 := cc.2.1; have cc2 := cc.2.2.2; clear cc hb7 he))
      rename_i hHeld
      have HA8 := Lib.hid ((HA1.out.below HB7.out).setAt HJ.out (x + 1))
      clear hHeld y4 y1 z1 z2 z3 z6 cc1 cc2 hq1 hq2 hwx hwy hv2 hv0 hwj
      go_wp2_with fail
      go_ret
      exact ⟨rfl, fun h => absurd rfl h, fun _ => Moved.of_below HG.out (by rw [HST.out, ← HX.out]; exact HA8.out.moved)⟩
    · have t4 := (show _ = some (Value.slice (some ⟨a.gc, 0, none⟩) 4 a.cc) from HA1.out.m.m.cell 4)
      have t1 := (show _ = some (Value.int .i64 (s).rk) from HA1.out.m.m.cell 1)
      rw [HA1.out.g] at t4 t1
      rw [show s.rk = s.rk from rfl] at t1
      have u1 := HO1.out.c1
      have u2 := HO1.out.c2
      have u3 := HO1.out.c3
      have u6 := HO1.out.c6
      rw [Nat.zero_add] at u1 u2 u3 u6
      have hwj : IntKind.i64.wrap (j : Int) = j := by rw [IntKind.wrap_i64]; omega
      have hj0 : (0 : Int) ≤ j := by omega
      have hj4 : (j : Int) < 4 := by omega
      obtain ⟨x, hx⟩ : ∃ x, x = placeI fb fa s.rk := ⟨_, rfl⟩
      have hxb := placeI_bd (b := fb) ha0 (show fa ≤ 23 by omega) hr1 hr2
      rw [← hx] at hxb
      have HX := Lib.hid hx
      clear hx
      have hwx : IntKind.i64.wrap (x + 1) = x + 1 := by rw [IntKind.wrap_i64]; omega
      have hwy : IntKind.i64.wrap x = x := by rw [IntKind.wrap_i64]; omega
      have hv2 : IntKind.i64.wrap ((IntKind.i64.wrap 2).tdiv 2) = 1 := by decide
      have hv0 : IntKind.i64.wrap ((IntKind.i64.wrap 0).tdiv 2) = 0 := by decide
      have hq1 : ∀ (W : World) (x : Nat) (v : Value) (q : Nat), (W.setCell ⟨a.gc, x, none⟩ v).cell? ⟨a.g, q, none⟩ = W.cell? ⟨a.g, q, none⟩ := fun W x v q => World.cell?_setCell_other W _ _ v (by intro e; injection e with e1 e2; have h1 := HA1.out.m.tc; have h2 := HA1.out.m.tm; rw [HA1.out.g] at h2; rw [e1] at h1; omega)
      have hq2 : ∀ (W : World) (x : Nat) (v : Value) (q : Nat), (W.setCell ⟨a.gc, x, none⟩ v).cell? ⟨w.heap.size, q, none⟩ = W.cell? ⟨w.heap.size, q, none⟩ := fun W x v q => World.cell?_setCell_other W _ _ v (by intro e; injection e with e1 e2; have h1 := HA1.out.m.tc; have h2 := (HA1.out.op HBX.out HTW.out).2; rw [e1] at h1; omega)
      have LG := Lib.hid (World.block_lt_of_cell? w1 _ t4)
      have LO := Lib.hid (World.block_lt_of_cell? w1 _ u1)
      have KS := Lib.hid (And.intro t4 (And.intro t1 (And.intro u1 (And.intro u2 (And.intro u3 u6)))))
      go_region_held3 (fun w' => w'.cell? ⟨a.g, 4, none⟩ = some (.slice (some ⟨a.gc, 0, none⟩) 4 a.cc) ∧ w'.cell? ⟨a.g, 1, none⟩ = some (.int .i64 s.rk) ∧ w'.cell? ⟨w.heap.size, 1, none⟩ = some (.int .i64 (-1)) ∧ w'.cell? ⟨w.heap.size, 2, none⟩ = some (.int .i64 fb) ∧ w'.cell? ⟨w.heap.size, 2 + 1, none⟩ = some (.int .i64 fa) ∧ w'.cell? ⟨w.heap.size, 6, none⟩ = some (.int .i64 ((j : Int) + 1))) (go_keep)
        ((go_at_call 98; refine (place_any fb fa s.rk _ ha0 (by omega) hr1 hr2).mono ?_; rintro e w7 ⟨he, hb7⟩; obtain rfl : e = .returned (.int .i64 x) := he.trans (by rw [HX.out]); have HB7 : Hid (Below w1.heap.size w1 w7) := Lib.hid (((Below.refl w1.heap.size w1).drew).trans hb7); have y4 := ((bcell HB7.out).1 a.g 4 LG.out).trans KS.out.1; have y1 := ((bcell HB7.out).1 a.g 1 LG.out).trans KS.out.2.1; have z1 := ((bcell HB7.out).1 w.heap.size 1 LO.out).trans KS.out.2.2.1; have z2 := ((bcell HB7.out).1 w.heap.size 2 LO.out).trans KS.out.2.2.2.1; have z3 := ((bcell HB7.out).1 w.heap.size (2 + 1) LO.out).trans KS.out.2.2.2.2.1; have z6 := ((bcell HB7.out).1 w.heap.size 6 LO.out).trans KS.out.2.2.2.2.2; have cc := (HA1.out.below HB7.out).m.car HJ.out; have cc1 := cc.2.1; have cc2 := cc.2.2.2; clear cc hb7 he))
      rename_i hHeld
      have HA8 := Lib.hid ((HA1.out.below HB7.out).setAt HJ.out (x))
      clear hHeld y4 y1 z1 z2 z3 z6 cc1 cc2 hq1 hq2 hwx hwy hv2 hv0 hwj
      go_wp2_with fail
      go_ret
      exact ⟨rfl, fun h => absurd rfl h, fun _ => Moved.of_below HG.out (by rw [HST.out, ← HX.out]; exact HA8.out.moved)⟩
  · have hc1 : (code == 0) = false := by simpa using hc0
    have HC0 := Lib.hid hc0
    have HB1 := Lib.hid (HG.out.trans (hb1.mono HG.out.size))
    clear hb1 hc0
    go_wp2_with fail
    go_ret
    exact ⟨rfl, fun _ => HB1.out, fun h => absurd h HC0.out⟩
set_option maxHeartbeats 4000000 in
theorem execute_2 {d fb fa tb ta c r : Int} {j : Nat} (H : Mem tg a s w) (hs : MOk s D) (hD : D ≤ 1000000) (hp : OpOk s.W 2 d fb fa tb ta c r j) (hb : OpBeds 2 fb tb) (hf : BedOk 2 fb) : Calls Try.prog 64 #[.pointer (some ⟨a.g, 0, none⟩), .agg #[.int .i64 2, .int .i64 d, .int .i64 fb, .int .i64 fa, .int .i64 tb, .int .i64 ta, .int .i64 c, .int .i64 r]] w (ExP w tg a.g (doCode s 2 d fb fa tb ta j) (doSt s 2 d fb fa tb ta r j)) := by
  have hg : Below w.heap.size w (w.alloc (.cells #[.int .i64 2, .int .i64 d, .int .i64 fb, .int .i64 fa, .int .i64 tb, .int .i64 ta, .int .i64 c, .int .i64 r] 58)) := (Below.refl _ _).alloc (Nat.le_refl _) _
  have HG := Lib.hid hg
  have HA0 := Lib.hid (At.start (H.below hg))
  have hbox := box_ce w 2 d fb fa tb ta c r
  have HBX := Lib.hid hbox
  have HTW : Hid (tg w.heap.size = 0) := Lib.hid (Decidable.byContradiction fun hn => Nat.lt_irrefl _ (H.lt _ hn))
  have hoc := opCode_any (H.below hg) hs hp hb hf
  obtain ⟨code, hcode⟩ : ∃ z, z = doCode s 2 d fb fa tb ta j := ⟨_, rfl⟩
  rw [← hcode] at hoc ⊢
  obtain ⟨s9, hs9⟩ : ∃ z, z = doSt s 2 d fb fa tb ta r j := ⟨_, rfl⟩
  rw [← hs9]
  have HC := Lib.hid hcode
  have HS9 := Lib.hid hs9
  have HOC := Lib.hid hoc
  have HS := Lib.hid hs
  have HP := Lib.hid hp
  have HB := Lib.hid hb
  have HF := Lib.hid hf
  have hlA : ∃ AL cL, a.L = .slice AL s.n cL := HA0.out.L
  have HLA := Lib.hid hlA
  clear H hs hp hb hf hg hoc hcode hs9 hbox hlA
  go_enter Try.func64, Try.ntmps64
  go_wp2_with fail
  refine HOC.out.mono ?_
  rintro e w1 ⟨rfl, hb1⟩
  by_cases hc0 : code = 0
  · subst hc0
    have HA1 := Lib.hid (HA0.out.below hb1)
    have HO1 := Lib.hid (HA1.out.op HBX.out HTW.out).1
    clear hb1 HOC
    obtain ⟨rfl, hj⟩ := HP.out.car (by omega) (by omega) (by omega)
    have HJ := Lib.hid hj
    have hd := HP.out.dir (by omega) (by omega) (by omega) (by omega)
    have ha0 := HP.out.f0
    have ha1 := HP.out.f1
    have hw2 := HS.out.w2
    have hr1 := HS.out.r1
    have hr2 := HS.out.r2
    have hfb := HF.out (by omega)
    have hn3 := doCode_n HC.out.symm (by omega)
    have o0 := HO1.out.c0
    have o1 := HO1.out.c1
    have o2 := HO1.out.c2
    have o3 := HO1.out.c3
    have o4 := HO1.out.c4
    have o5 := HO1.out.c5
    have o6 := HO1.out.c6
    have o7 := HO1.out.c7
    rw [Nat.zero_add] at o1 o2 o3 o4 o5 o6 o7
    have HST : Hid (s9 = { setN (more s) fb fa (lstN s fb fa + 1) with cat := newAt s d (placeI fb fa s.rk) j }) := Lib.hid (by rw [HS9.out, doSt_2])
    have hlp := loop_any 2 d fb fa tb ta ((j : Int) + 1) r (.slice none 0 0) 0 HA1.out.m HS.out hfb ha0 ha1 hn3 (LOwn.nil w1) (by omega) (fun q hq => by cases hq)
    have HLP := Lib.hid hlp
    clear hlp hfb
    go_wp2_with (first
      | (go_at_call 97; refine (makesLoop_any _ _ (by omega) (by omega)).mono ?_; rintro e w' ⟨rfl, rfl⟩)
      | (go_at_call 94; refine HLP.out.mono ?_; rintro e w2 ⟨rfl, hm2⟩; obtain ⟨tg2, a2, hat2, _, _⟩ := HA1.out.next hm2; have HA2 := Lib.hid hat2; have HO2 := Lib.hid (HA2.out.op HBX.out HTW.out).1; have p0 := HO2.out.c0; have HCE : Hid ((setN (more s) fb fa (lstN s fb fa + 1)).cat = s.cat) := Lib.hid (setN_catE _ _ _ _); clear hm2 hat2 o0 o1 o2 o3 o4 o5 o6 o7))
    rcases hd with rfl | rfl
    · have t4 := (show _ = some (Value.slice (some ⟨a2.gc, 0, none⟩) 4 a2.cc) from HA2.out.m.m.cell 4)
      have t1 := (show _ = some (Value.int .i64 (setN (more s) fb fa (lstN s fb fa + 1)).rk) from HA2.out.m.m.cell 1)
      rw [HA2.out.g] at t4 t1
      rw [show (setN (more s) fb fa (lstN s fb fa + 1)).rk = s.rk from setN_rk _ _ _ _] at t1
      have u1 := HO2.out.c1
      have u2 := HO2.out.c2
      have u3 := HO2.out.c3
      have u6 := HO2.out.c6
      rw [Nat.zero_add] at u1 u2 u3 u6
      have hwj : IntKind.i64.wrap (j : Int) = j := by rw [IntKind.wrap_i64]; omega
      have hj0 : (0 : Int) ≤ j := by omega
      have hj4 : (j : Int) < 4 := by omega
      obtain ⟨x, hx⟩ : ∃ x, x = placeI fb fa s.rk := ⟨_, rfl⟩
      have hxb := placeI_bd (b := fb) ha0 (show fa ≤ 23 by omega) hr1 hr2
      rw [← hx] at hxb
      have HX := Lib.hid hx
      clear hx
      have hwx : IntKind.i64.wrap (x + 1) = x + 1 := by rw [IntKind.wrap_i64]; omega
      have hwy : IntKind.i64.wrap x = x := by rw [IntKind.wrap_i64]; omega
      have hv2 : IntKind.i64.wrap ((IntKind.i64.wrap 2).tdiv 2) = 1 := by decide
      have hv0 : IntKind.i64.wrap ((IntKind.i64.wrap 0).tdiv 2) = 0 := by decide
      have hq1 : ∀ (W : World) (x : Nat) (v : Value) (q : Nat), (W.setCell ⟨a2.gc, x, none⟩ v).cell? ⟨a.g, q, none⟩ = W.cell? ⟨a.g, q, none⟩ := fun W x v q => World.cell?_setCell_other W _ _ v (by intro e; injection e with e1 e2; have h1 := HA2.out.m.tc; have h2 := HA2.out.m.tm; rw [HA2.out.g] at h2; rw [e1] at h1; omega)
      have hq2 : ∀ (W : World) (x : Nat) (v : Value) (q : Nat), (W.setCell ⟨a2.gc, x, none⟩ v).cell? ⟨w.heap.size, q, none⟩ = W.cell? ⟨w.heap.size, q, none⟩ := fun W x v q => World.cell?_setCell_other W _ _ v (by intro e; injection e with e1 e2; have h1 := HA2.out.m.tc; have h2 := (HA2.out.op HBX.out HTW.out).2; rw [e1] at h1; omega)
      have LG := Lib.hid (World.block_lt_of_cell? w2 _ t4)
      have LO := Lib.hid (World.block_lt_of_cell? w2 _ u1)
      have KS := Lib.hid (And.intro t4 (And.intro t1 (And.intro u1 (And.intro u2 (And.intro u3 u6)))))
      go_region_held3 (fun w' => w'.cell? ⟨a.g, 4, none⟩ = some (.slice (some ⟨a2.gc, 0, none⟩) 4 a2.cc) ∧ w'.cell? ⟨a.g, 1, none⟩ = some (.int .i64 s.rk) ∧ w'.cell? ⟨w.heap.size, 1, none⟩ = some (.int .i64 (1)) ∧ w'.cell? ⟨w.heap.size, 2, none⟩ = some (.int .i64 fb) ∧ w'.cell? ⟨w.heap.size, 2 + 1, none⟩ = some (.int .i64 fa) ∧ w'.cell? ⟨w.heap.size, 6, none⟩ = some (.int .i64 ((j : Int) + 1))) (go_keep)
        ((go_at_call 98; refine (place_any fb fa s.rk _ ha0 (by omega) hr1 hr2).mono ?_; rintro e w7 ⟨he, hb7⟩; obtain rfl : e = .returned (.int .i64 x) := he.trans (by rw [HX.out]); have HB7 : Hid (Below w2.heap.size w2 w7) := Lib.hid (((Below.refl w2.heap.size w2).drew).trans hb7); have y4 := ((bcell HB7.out).1 a.g 4 LG.out).trans KS.out.1; have y1 := ((bcell HB7.out).1 a.g 1 LG.out).trans KS.out.2.1; have z1 := ((bcell HB7.out).1 w.heap.size 1 LO.out).trans KS.out.2.2.1; have z2 := ((bcell HB7.out).1 w.heap.size 2 LO.out).trans KS.out.2.2.2.1; have z3 := ((bcell HB7.out).1 w.heap.size (2 + 1) LO.out).trans KS.out.2.2.2.2.1; have z6 := ((bcell HB7.out).1 w.heap.size 6 LO.out).trans KS.out.2.2.2.2.2; have cc := (HA2.out.below HB7.out).m.car HJ.out; have cc1 := cc.2.1; have cc2 := cc.2.2.2; clear cc hb7 he))
      rename_i hHeld
      have HA8 := Lib.hid ((HA2.out.below HB7.out).setAt HJ.out (x + 1))
      clear hHeld y4 y1 z1 z2 z3 z6 cc1 cc2 hq1 hq2 hwx hwy hv2 hv0 hwj
      go_wp2_with fail
      go_ret
      exact ⟨rfl, fun h => absurd rfl h, fun _ => Moved.of_below HG.out (by rw [HST.out, ← HX.out]; have h8 := HA8.out.moved; rw [HCE.out] at h8; exact h8)⟩
    · have t4 := (show _ = some (Value.slice (some ⟨a2.gc, 0, none⟩) 4 a2.cc) from HA2.out.m.m.cell 4)
      have t1 := (show _ = some (Value.int .i64 (setN (more s) fb fa (lstN s fb fa + 1)).rk) from HA2.out.m.m.cell 1)
      rw [HA2.out.g] at t4 t1
      rw [show (setN (more s) fb fa (lstN s fb fa + 1)).rk = s.rk from setN_rk _ _ _ _] at t1
      have u1 := HO2.out.c1
      have u2 := HO2.out.c2
      have u3 := HO2.out.c3
      have u6 := HO2.out.c6
      rw [Nat.zero_add] at u1 u2 u3 u6
      have hwj : IntKind.i64.wrap (j : Int) = j := by rw [IntKind.wrap_i64]; omega
      have hj0 : (0 : Int) ≤ j := by omega
      have hj4 : (j : Int) < 4 := by omega
      obtain ⟨x, hx⟩ : ∃ x, x = placeI fb fa s.rk := ⟨_, rfl⟩
      have hxb := placeI_bd (b := fb) ha0 (show fa ≤ 23 by omega) hr1 hr2
      rw [← hx] at hxb
      have HX := Lib.hid hx
      clear hx
      have hwx : IntKind.i64.wrap (x + 1) = x + 1 := by rw [IntKind.wrap_i64]; omega
      have hwy : IntKind.i64.wrap x = x := by rw [IntKind.wrap_i64]; omega
      have hv2 : IntKind.i64.wrap ((IntKind.i64.wrap 2).tdiv 2) = 1 := by decide
      have hv0 : IntKind.i64.wrap ((IntKind.i64.wrap 0).tdiv 2) = 0 := by decide
      have hq1 : ∀ (W : World) (x : Nat) (v : Value) (q : Nat), (W.setCell ⟨a2.gc, x, none⟩ v).cell? ⟨a.g, q, none⟩ = W.cell? ⟨a.g, q, none⟩ := fun W x v q => World.cell?_setCell_other W _ _ v (by intro e; injection e with e1 e2; have h1 := HA2.out.m.tc; have h2 := HA2.out.m.tm; rw [HA2.out.g] at h2; rw [e1] at h1; omega)
      have hq2 : ∀ (W : World) (x : Nat) (v : Value) (q : Nat), (W.setCell ⟨a2.gc, x, none⟩ v).cell? ⟨w.heap.size, q, none⟩ = W.cell? ⟨w.heap.size, q, none⟩ := fun W x v q => World.cell?_setCell_other W _ _ v (by intro e; injection e with e1 e2; have h1 := HA2.out.m.tc; have h2 := (HA2.out.op HBX.out HTW.out).2; rw [e1] at h1; omega)
      have LG := Lib.hid (World.block_lt_of_cell? w2 _ t4)
      have LO := Lib.hid (World.block_lt_of_cell? w2 _ u1)
      have KS := Lib.hid (And.intro t4 (And.intro t1 (And.intro u1 (And.intro u2 (And.intro u3 u6)))))
      go_region_held3 (fun w' => w'.cell? ⟨a.g, 4, none⟩ = some (.slice (some ⟨a2.gc, 0, none⟩) 4 a2.cc) ∧ w'.cell? ⟨a.g, 1, none⟩ = some (.int .i64 s.rk) ∧ w'.cell? ⟨w.heap.size, 1, none⟩ = some (.int .i64 (-1)) ∧ w'.cell? ⟨w.heap.size, 2, none⟩ = some (.int .i64 fb) ∧ w'.cell? ⟨w.heap.size, 2 + 1, none⟩ = some (.int .i64 fa) ∧ w'.cell? ⟨w.heap.size, 6, none⟩ = some (.int .i64 ((j : Int) + 1))) (go_keep)
        ((go_at_call 98; refine (place_any fb fa s.rk _ ha0 (by omega) hr1 hr2).mono ?_; rintro e w7 ⟨he, hb7⟩; obtain rfl : e = .returned (.int .i64 x) := he.trans (by rw [HX.out]); have HB7 : Hid (Below w2.heap.size w2 w7) := Lib.hid (((Below.refl w2.heap.size w2).drew).trans hb7); have y4 := ((bcell HB7.out).1 a.g 4 LG.out).trans KS.out.1; have y1 := ((bcell HB7.out).1 a.g 1 LG.out).trans KS.out.2.1; have z1 := ((bcell HB7.out).1 w.heap.size 1 LO.out).trans KS.out.2.2.1; have z2 := ((bcell HB7.out).1 w.heap.size 2 LO.out).trans KS.out.2.2.2.1; have z3 := ((bcell HB7.out).1 w.heap.size (2 + 1) LO.out).trans KS.out.2.2.2.2.1; have z6 := ((bcell HB7.out).1 w.heap.size 6 LO.out).trans KS.out.2.2.2.2.2; have cc := (HA2.out.below HB7.out).m.car HJ.out; have cc1 := cc.2.1; have cc2 := cc.2.2.2; clear cc hb7 he))
      rename_i hHeld
      have HA8 := Lib.hid ((HA2.out.below HB7.out).setAt HJ.out (x))
      clear hHeld y4 y1 z1 z2 z3 z6 cc1 cc2 hq1 hq2 hwx hwy hv2 hv0 hwj
      go_wp2_with fail
      go_ret
      exact ⟨rfl, fun h => absurd rfl h, fun _ => Moved.of_below HG.out (by rw [HST.out, ← HX.out]; have h8 := HA8.out.moved; rw [HCE.out] at h8; exact h8)⟩
  · have hc1 : (code == 0) = false := by simpa using hc0
    have HC0 := Lib.hid hc0
    have HB1 := Lib.hid (HG.out.trans (hb1.mono HG.out.size))
    clear hb1 hc0
    go_wp2_with fail
    go_ret
    exact ⟨rfl, fun _ => HB1.out, fun h => absurd h HC0.out⟩
end
end Go.Proofs.Ytpmfkpehmckgmaa
