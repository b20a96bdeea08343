/- Walks: the code of an operation, by the program (under way). Walks: the code of a transfer, by the program. No condition but the bounds. -/
import Derived.Test.YtpmfkpehmckgmaaMachP
namespace Go.Proofs.Ytpmfkpehmckgmaa
open Go.RowKit
set_option maxRecDepth 20000

section
variable {tg : Nat → Nat} {a : MAdr} {s : Mst} {D : Nat} {w : World}
/-- The boxed operation. -/
theorem box_ce (w : World) (k d fb fa tb ta c r : Int) : OpCe w.heap.size 0 k d fb fa tb ta c r (w.alloc (.cells #[.int .i64 k, .int .i64 d, .int .i64 fb, .int .i64 fa, .int .i64 tb, .int .i64 ta, .int .i64 c, .int .i64 r] 58)) :=
  ⟨(new_at _ _ _ rfl 0).trans rfl, (new_at _ _ _ rfl _).trans rfl, (new_at _ _ _ rfl _).trans rfl, (new_at _ _ _ rfl _).trans rfl, (new_at _ _ _ rfl _).trans rfl, (new_at _ _ _ rfl _).trans rfl, (new_at _ _ _ rfl _).trans rfl, (new_at _ _ _ rfl _).trans rfl⟩
theorem Mem.cellN (H : Mem tg a s w) {b x : Int} (hx : 0 ≤ x) (hx1 : x < s.W) : w.cell? ⟨bedG a b, x.toNat, none⟩ = some (lstV a b x) := by
  unfold bedG lstV
  split
  · have h := H.f x.toNat (by omega)
    rwa [Nat.zero_add] at h
  · have h := H.k x.toNat (by omega)
    rwa [Nat.zero_add] at h
set_option maxHeartbeats 1000000 in
theorem opCode_simple {k d fb fa tb ta c r : Int} {j : Nat} (H : Mem tg a s w) (hs : MOk s D) (hp : OpOk s.W k d fb fa tb ta c r j) (hk : k = 3 ∨ k = 7 ∨ k = 8 ∨ k = 9) : Calls Try.prog 92 #[.pointer (some ⟨a.g, 0, none⟩), .agg #[.int .i64 k, .int .i64 d, .int .i64 fb, .int .i64 fa, .int .i64 tb, .int .i64 ta, .int .i64 c, .int .i64 r]] w fun e w' => e = .returned (.int .i64 (opCodeI s k d fb fa tb ta j)) ∧ Below w.heap.size w w' := by
  have hg : Below w.heap.size w (w.alloc (.cells #[.int .i64 k, .int .i64 d, .int .i64 fb, .int .i64 fa, .int .i64 tb, .int .i64 ta, .int .i64 c, .int .i64 r] 58)) := (Below.refl _ _).alloc (Nat.le_refl _) _
  have HM := Lib.hid (H.below hg)
  have HG := Lib.hid hg
  have hbox := box_ce w k d fb fa tb ta c r
  have m0 := (show _ = some (Value.int .i64 s.W) from HM.out.m.cell 0)
  have e3 := hbox.c3
  have e5 := hbox.c5
  have hf1 := hp.f1
  have ht1 := hp.t1
  have HBX := Lib.hid hbox
  have HS := Lib.hid hs
  have HP := Lib.hid hp
  obtain ⟨code, hcode⟩ : ∃ z, z = opCodeI s k d fb fa tb ta j := ⟨_, rfl⟩
  rw [← hcode]
  have HC := Lib.hid hcode
  clear H hs hp hg hbox hcode
  go_enter Try.func92, Try.ntmps92
  have d1 : decide ((s.W : Int) ≤ fa) = false := decide_eq_false (by omega)
  have d2 : decide ((s.W : Int) ≤ ta) = false := decide_eq_false (by omega)
  go_wp2_with fail
  go_quiet (fail)
  rename_i nq
  have HB0 : Hid (Below w.heap.size w ((w.alloc (.cells #[.int .i64 k, .int .i64 d, .int .i64 fb, .int .i64 fa, .int .i64 tb, .int .i64 ta, .int .i64 c, .int .i64 r] 58)).drewN nq)) := Lib.hid (Below.drewN' HG.out nq)
  have hfit := fits_any (HM.out.drewN nq) HS.out HP.out
  have HF := Lib.hid hfit
  clear hfit m0 e3 e5
  go_wp2_with fail
  refine HF.out.mono ?_
  rintro e w1 ⟨rfl, hb1⟩
  have HB1 := Lib.hid (HB0.out.trans (hb1.mono HB0.out.size))
  have HO1 : Hid (OpCe w.heap.size 0 k d fb fa tb ta c r w1) := Lib.hid ((opCe_loc _ _ _ _ _ _ _ _ _ _).1 _ _ HBX.out fun q hq => by subst hq; exact hb1.block _ (World.block_lt_of_cell? _ _ HBX.out.c0))
  clear hb1 HF
  have e0 := HO1.out.c0
  cases hfi : fitsB s k d fb fa j
  · have HZ := Lib.hid (show code = 9 by rw [HC.out]; unfold opCodeI; rw [if_pos hfi])
    clear hfi
    go_wp2_with fail
    go_ret
    exact ⟨by rw [HZ.out]; rfl, HB1.out⟩
  · have HZ := Lib.hid (show code = 0 by rw [HC.out]; unfold opCodeI; rw [hfi]; rcases hk with rfl | rfl | rfl | rfl <;> simp [makesB])
    clear hfi
    rcases hk with rfl | rfl | rfl | rfl
    all_goals
      go_wp2_with ((go_at_call 97; refine (makesLoop_any _ _ (by omega) (by omega)).mono ?_; rintro e w' ⟨rfl, rfl⟩))
      go_ret
      exact ⟨by rw [HZ.out]; rfl, HB1.out⟩
set_option maxHeartbeats 1000000 in
theorem opCode_knit {d fb fa tb ta c r : Int} {j : Nat} (H : Mem tg a s w) (hs : MOk s D) (hp : OpOk s.W 1 d fb fa tb ta c r j) : Calls Try.prog 92 #[.pointer (some ⟨a.g, 0, none⟩), .agg #[.int .i64 1, .int .i64 d, .int .i64 fb, .int .i64 fa, .int .i64 tb, .int .i64 ta, .int .i64 c, .int .i64 r]] w fun e w' => e = .returned (.int .i64 (opCodeI s 1 d fb fa tb ta j)) ∧ Below w.heap.size w w' := by
  have hg : Below w.heap.size w (w.alloc (.cells #[.int .i64 1, .int .i64 d, .int .i64 fb, .int .i64 fa, .int .i64 tb, .int .i64 ta, .int .i64 c, .int .i64 r] 58)) := (Below.refl _ _).alloc (Nat.le_refl _) _
  have HM := Lib.hid (H.below hg)
  have HG := Lib.hid hg
  have hbox := box_ce w 1 d fb fa tb ta c r
  have m0 := (show _ = some (Value.int .i64 s.W) from HM.out.m.cell 0)
  have e3 := hbox.c3
  have e5 := hbox.c5
  have hf1 := hp.f1
  have ht1 := hp.t1
  have HBX := Lib.hid hbox
  have HS := Lib.hid hs
  have HP := Lib.hid hp
  obtain ⟨code, hcode⟩ : ∃ z, z = opCodeI s 1 d fb fa tb ta j := ⟨_, rfl⟩
  rw [← hcode]
  have HC := Lib.hid hcode
  clear H hs hp hg hbox hcode
  go_enter Try.func92, Try.ntmps92
  have d1 : decide ((s.W : Int) ≤ fa) = false := decide_eq_false (by omega)
  have d2 : decide ((s.W : Int) ≤ ta) = false := decide_eq_false (by omega)
  go_wp2_with fail
  go_quiet (fail)
  rename_i nq
  have HB0 : Hid (Below w.heap.size w ((w.alloc (.cells #[.int .i64 1, .int .i64 d, .int .i64 fb, .int .i64 fa, .int .i64 tb, .int .i64 ta, .int .i64 c, .int .i64 r] 58)).drewN nq)) := Lib.hid (Below.drewN' HG.out nq)
  have hfit := fits_any (HM.out.drewN nq) HS.out HP.out
  have HF := Lib.hid hfit
  clear hfit m0 e3 e5
  go_wp2_with fail
  refine HF.out.mono ?_
  rintro e w1 ⟨rfl, hb1⟩
  have HB1 := Lib.hid (HB0.out.trans (hb1.mono HB0.out.size))
  have HO1 : Hid (OpCe w.heap.size 0 1 d fb fa tb ta c r w1) := Lib.hid ((opCe_loc _ _ _ _ _ _ _ _ _ _).1 _ _ HBX.out fun q hq => by subst hq; exact hb1.block _ (World.block_lt_of_cell? _ _ HBX.out.c0))
  have HBR := Lib.hid hb1
  clear hb1 HF
  have e0 := HO1.out.c0
  cases hfi : fitsB s 1 d fb fa j
  · have HZ := Lib.hid (show code = 9 by rw [HC.out]; unfold opCodeI; rw [if_pos hfi])
    clear hfi
    go_wp2_with fail
    go_ret
    exact ⟨by rw [HZ.out]; rfl, HB1.out⟩
  · have hm1 := HM.out.below (Below.trans (Below.drewN' (Below.refl _ _) nq) HBR.out)
    obtain ⟨xl, hxl, _⟩ := hm1.l
    obtain ⟨AL, cL, hAL⟩ := own_form hxl
    have m5 : w1.cell? ⟨a.g, 5, none⟩ = some (.slice AL s.n cL) := (hm1.m.cell 5).trans (by rw [← hAL]; rfl)
    have hnb := HS.out.nb
    clear hm1 hxl hAL HBR
    by_cases hn : s.n = 300
    · have HZ := Lib.hid (show code = 5 by rw [HC.out]; unfold opCodeI; rw [hfi]; simp [makesB, hn])
      clear hfi
      go_wp2_with ((go_at_call 97; refine (makesLoop_any _ _ (by omega) (by omega)).mono ?_; rintro e w' ⟨rfl, rfl⟩))
      go_ret
      exact ⟨by rw [HZ.out]; rfl, HB1.out⟩
    · have HZ := Lib.hid (show code = 0 by rw [HC.out]; unfold opCodeI; rw [hfi]; simp [makesB, hn])
      have hn' : ((s.n : Int) == 300) = false := by simp; omega
      clear hfi
      go_wp2_with ((go_at_call 97; refine (makesLoop_any _ _ (by omega) (by omega)).mono ?_; rintro e w' ⟨rfl, rfl⟩))
      go_ret
      exact ⟨by rw [HZ.out]; rfl, HB1.out⟩
set_option maxHeartbeats 1000000 in
theorem opCode_drop {d fb fa tb ta c r : Int} {j : Nat} (H : Mem tg a s w) (hs : MOk s D) (hfb : fb = 1 ∨ fb = 2) (hp : OpOk s.W 6 d fb fa tb ta c r j) : Calls Try.prog 92 #[.pointer (some ⟨a.g, 0, none⟩), .agg #[.int .i64 6, .int .i64 d, .int .i64 fb, .int .i64 fa, .int .i64 tb, .int .i64 ta, .int .i64 c, .int .i64 r]] w fun e w' => e = .returned (.int .i64 (opCodeI s 6 d fb fa tb ta j)) ∧ Below w.heap.size w w' := by
  have hg : Below w.heap.size w (w.alloc (.cells #[.int .i64 6, .int .i64 d, .int .i64 fb, .int .i64 fa, .int .i64 tb, .int .i64 ta, .int .i64 c, .int .i64 r] 58)) := (Below.refl _ _).alloc (Nat.le_refl _) _
  have HM := Lib.hid (H.below hg)
  have HG := Lib.hid hg
  have hbox := box_ce w 6 d fb fa tb ta c r
  have m0 := (show _ = some (Value.int .i64 s.W) from HM.out.m.cell 0)
  have e3 := hbox.c3
  have e5 := hbox.c5
  have hf1 := hp.f1
  have ht1 := hp.t1
  have HBX := Lib.hid hbox
  have HS := Lib.hid hs
  have HP := Lib.hid hp
  obtain ⟨code, hcode⟩ : ∃ z, z = opCodeI s 6 d fb fa tb ta j := ⟨_, rfl⟩
  rw [← hcode]
  have HC := Lib.hid hcode
  clear H hs hp hg hbox hcode
  go_enter Try.func92, Try.ntmps92
  have d1 : decide ((s.W : Int) ≤ fa) = false := decide_eq_false (by omega)
  have d2 : decide ((s.W : Int) ≤ ta) = false := decide_eq_false (by omega)
  go_wp2_with fail
  go_quiet (fail)
  rename_i nq
  have HB0 : Hid (Below w.heap.size w ((w.alloc (.cells #[.int .i64 6, .int .i64 d, .int .i64 fb, .int .i64 fa, .int .i64 tb, .int .i64 ta, .int .i64 c, .int .i64 r] 58)).drewN nq)) := Lib.hid (Below.drewN' HG.out nq)
  have hfit := fits_any (HM.out.drewN nq) HS.out HP.out
  have HF := Lib.hid hfit
  clear hfit m0 e3 e5
  go_wp2_with fail
  refine HF.out.mono ?_
  rintro e w1 ⟨rfl, hb1⟩
  have HB1 := Lib.hid (HB0.out.trans (hb1.mono HB0.out.size))
  have HO1 : Hid (OpCe w.heap.size 0 6 d fb fa tb ta c r w1) := Lib.hid ((opCe_loc _ _ _ _ _ _ _ _ _ _).1 _ _ HBX.out fun q hq => by subst hq; exact hb1.block _ (World.block_lt_of_cell? _ _ HBX.out.c0))
  have HBR := Lib.hid hb1
  clear hb1 HF
  have e0 := HO1.out.c0
  cases hfi : fitsB s 6 d fb fa j
  · have HZ := Lib.hid (show code = 9 by rw [HC.out]; unfold opCodeI; rw [if_pos hfi])
    clear hfi
    go_wp2_with fail
    go_ret
    exact ⟨by rw [HZ.out]; rfl, HB1.out⟩
  · have HM1 := Lib.hid (HM.out.below (Below.trans (Below.drewN' (Below.refl _ _) nq) HBR.out))
    have ha0 := HP.out.f0
    obtain ⟨nf, hnf⟩ : ∃ n, n = lstN s fb fa := ⟨_, rfl⟩
    obtain ⟨Af, cf, hvf⟩ := (HM1.out.lst (b := fb) ha0 hf1).form
    rw [← hnf] at hvf
    have HNF := Lib.hid hnf
    have HVF := Lib.hid hvf
    have h4 : nf ≤ 4 := by rw [hnf]; exact lstN_le HS.out ha0 hf1
    have e2 := HO1.out.c2
    have e3 := HO1.out.c3
    clear hnf hvf HBR
    by_cases hn : nf = 0
    · have HZ := Lib.hid (show code = 7 by rw [HC.out]; unfold opCodeI; rw [hfi, ← HNF.out]; simp [makesB, hn])
      clear hfi
      subst hn
      go_wp2_with (first
        | (go_at_call 97; refine (makesLoop_any _ _ (by omega) (by omega)).mono ?_; rintro e w' ⟨rfl, rfl⟩)
        | (go_at_call 93; refine (on_any fb fa HM1.out hfb ha0 hf1).mono ?_; rintro e w2 ⟨rfl, hb2⟩; have kc := (HM1.out.below hb2).cellN (b := fb) ha0 hf1; rw [HVF.out] at kc; have HB2 := Lib.hid (HB1.out.trans (hb2.mono HB1.out.size)); have e0' := ((opCe_loc _ _ _ _ _ _ _ _ _ _).1 _ _ HO1.out fun q hq => by subst hq; exact hb2.block _ (World.block_lt_of_cell? _ _ HO1.out.c0)).c0; clear hb2))
      go_ret
      exact ⟨by rw [HZ.out]; rfl, HB2.out⟩
    · have HZ := Lib.hid (show code = 0 by rw [HC.out]; unfold opCodeI; rw [hfi, ← HNF.out]; simp [makesB, hn])
      have hn' : ((nf : Int) == 0) = false := by simp; omega
      clear hfi
      go_wp2_with (first
        | (go_at_call 97; refine (makesLoop_any _ _ (by omega) (by omega)).mono ?_; rintro e w' ⟨rfl, rfl⟩)
        | (go_at_call 93; refine (on_any fb fa HM1.out hfb ha0 hf1).mono ?_; rintro e w2 ⟨rfl, hb2⟩; have kc := (HM1.out.below hb2).cellN (b := fb) ha0 hf1; rw [HVF.out] at kc; have HB2 := Lib.hid (HB1.out.trans (hb2.mono HB1.out.size)); have e0' := ((opCe_loc _ _ _ _ _ _ _ _ _ _).1 _ _ HO1.out fun q hq => by subst hq; exact hb2.block _ (World.block_lt_of_cell? _ _ HO1.out.c0)).c0; clear hb2))
      go_ret
      exact ⟨by rw [HZ.out]; rfl, HB2.out⟩
set_option maxHeartbeats 1000000 in
theorem opCode_tuck {d fb fa tb ta c r : Int} {j : Nat} (H : Mem tg a s w) (hs : MOk s D) (hfb : fb = 1 ∨ fb = 2) (hp : OpOk s.W 2 d fb fa tb ta c r j) : Calls Try.prog 92 #[.pointer (some ⟨a.g, 0, none⟩), .agg #[.int .i64 2, .int .i64 d, .int .i64 fb, .int .i64 fa, .int .i64 tb, .int .i64 ta, .int .i64 c, .int .i64 r]] w fun e w' => e = .returned (.int .i64 (opCodeI s 2 d fb fa tb ta j)) ∧ Below w.heap.size w w' := by
  have hg : Below w.heap.size w (w.alloc (.cells #[.int .i64 2, .int .i64 d, .int .i64 fb, .int .i64 fa, .int .i64 tb, .int .i64 ta, .int .i64 c, .int .i64 r] 58)) := (Below.refl _ _).alloc (Nat.le_refl _) _
  have HM := Lib.hid (H.below hg)
  have HG := Lib.hid hg
  have hbox := box_ce w 2 d fb fa tb ta c r
  have m0 := (show _ = some (Value.int .i64 s.W) from HM.out.m.cell 0)
  have e3 := hbox.c3
  have e5 := hbox.c5
  have hf1 := hp.f1
  have ht1 := hp.t1
  have HBX := Lib.hid hbox
  have HS := Lib.hid hs
  have HP := Lib.hid hp
  obtain ⟨code, hcode⟩ : ∃ z, z = opCodeI s 2 d fb fa tb ta j := ⟨_, rfl⟩
  rw [← hcode]
  have HC := Lib.hid hcode
  clear H hs hp hg hbox hcode
  go_enter Try.func92, Try.ntmps92
  have d1 : decide ((s.W : Int) ≤ fa) = false := decide_eq_false (by omega)
  have d2 : decide ((s.W : Int) ≤ ta) = false := decide_eq_false (by omega)
  go_wp2_with fail
  go_quiet (fail)
  rename_i nq
  have HB0 : Hid (Below w.heap.size w ((w.alloc (.cells #[.int .i64 2, .int .i64 d, .int .i64 fb, .int .i64 fa, .int .i64 tb, .int .i64 ta, .int .i64 c, .int .i64 r] 58)).drewN nq)) := Lib.hid (Below.drewN' HG.out nq)
  have hfit := fits_any (HM.out.drewN nq) HS.out HP.out
  have HF := Lib.hid hfit
  clear hfit m0 e3 e5
  go_wp2_with fail
  refine HF.out.mono ?_
  rintro e w1 ⟨rfl, hb1⟩
  have HB1 := Lib.hid (HB0.out.trans (hb1.mono HB0.out.size))
  have HO1 : Hid (OpCe w.heap.size 0 2 d fb fa tb ta c r w1) := Lib.hid ((opCe_loc _ _ _ _ _ _ _ _ _ _).1 _ _ HBX.out fun q hq => by subst hq; exact hb1.block _ (World.block_lt_of_cell? _ _ HBX.out.c0))
  have HBR := Lib.hid hb1
  clear hb1 HF
  have e0 := HO1.out.c0
  cases hfi : fitsB s 2 d fb fa j
  · have HZ := Lib.hid (show code = 9 by rw [HC.out]; unfold opCodeI; rw [if_pos hfi])
    clear hfi
    go_wp2_with fail
    go_ret
    exact ⟨by rw [HZ.out]; rfl, HB1.out⟩
  · have HM1 := Lib.hid (HM.out.below (Below.trans (Below.drewN' (Below.refl _ _) nq) HBR.out))
    have ha0 := HP.out.f0
    obtain ⟨nf, hnf⟩ : ∃ n, n = lstN s fb fa := ⟨_, rfl⟩
    obtain ⟨Af, cf, hvf⟩ := (HM1.out.lst (b := fb) ha0 hf1).form
    rw [← hnf] at hvf
    have HNF := Lib.hid hnf
    have HVF := Lib.hid hvf
    have h4 : nf ≤ 4 := by rw [hnf]; exact lstN_le HS.out ha0 hf1
    have e2 := HO1.out.c2
    have e3 := HO1.out.c3
    clear hnf hvf HBR
    obtain ⟨xl, hxl, _⟩ := HM1.out.l
    obtain ⟨AL, cL, hAL⟩ := own_form hxl
    have m5 : w1.cell? ⟨a.g, 5, none⟩ = some (.slice AL s.n cL) := (HM1.out.m.cell 5).trans (by rw [← hAL]; rfl)
    have hnb := HS.out.nb
    clear hxl hAL
    by_cases hq : s.n = 300
    · have HZ := Lib.hid (show code = 5 by rw [HC.out]; unfold opCodeI; rw [hfi]; simp [makesB, hq])
      clear hfi
      go_wp2_with ((go_at_call 97; refine (makesLoop_any _ _ (by omega) (by omega)).mono ?_; rintro e w' ⟨rfl, rfl⟩))
      go_ret
      exact ⟨by rw [HZ.out]; rfl, HB1.out⟩
    have hq' : ((s.n : Int) == 300) = false := by simp; omega
    by_cases hn : nf = 4
    · have HZ := Lib.hid (show code = 5 by rw [HC.out]; unfold opCodeI; rw [hfi, ← HNF.out]; simp [makesB, hn, hq])
      clear hfi
      subst hn
      go_wp2_with (first
        | (go_at_call 97; refine (makesLoop_any _ _ (by omega) (by omega)).mono ?_; rintro e w' ⟨rfl, rfl⟩)
        | (go_at_call 93; refine (on_any fb fa HM1.out hfb ha0 hf1).mono ?_; rintro e w2 ⟨rfl, hb2⟩; have kc := (HM1.out.below hb2).cellN (b := fb) ha0 hf1; rw [HVF.out] at kc; have HB2 := Lib.hid (HB1.out.trans (hb2.mono HB1.out.size)); have e0' := ((opCe_loc _ _ _ _ _ _ _ _ _ _).1 _ _ HO1.out fun q hq => by subst hq; exact hb2.block _ (World.block_lt_of_cell? _ _ HO1.out.c0)).c0; clear hb2))
      go_ret
      exact ⟨by rw [HZ.out]; rfl, HB2.out⟩
    · have HZ := Lib.hid (show code = 0 by rw [HC.out]; unfold opCodeI; rw [hfi, ← HNF.out]; simp [makesB, hn, hq])
      have hn' : ((nf : Int) == 4) = false := by simp; omega
      clear hfi
      go_wp2_with (first
        | (go_at_call 97; refine (makesLoop_any _ _ (by omega) (by omega)).mono ?_; rintro e w' ⟨rfl, rfl⟩)
        | (go_at_call 93; refine (on_any fb fa HM1.out hfb ha0 hf1).mono ?_; rintro e w2 ⟨rfl, hb2⟩; have kc := (HM1.out.below hb2).cellN (b := fb) ha0 hf1; rw [HVF.out] at kc; have HB2 := Lib.hid (HB1.out.trans (hb2.mono HB1.out.size)); have e0' := ((opCe_loc _ _ _ _ _ _ _ _ _ _).1 _ _ HO1.out fun q hq => by subst hq; exact hb2.block _ (World.block_lt_of_cell? _ _ HO1.out.c0)).c0; clear hb2))
      go_ret
      exact ⟨by rw [HZ.out]; rfl, HB2.out⟩
end
end Go.Proofs.Ytpmfkpehmckgmaa

namespace Go.Proofs.Ytpmfkpehmckgmaa
open Go.RowKit
set_option maxRecDepth 20000

section
variable {tg : Nat → Nat} {a : MAdr} {s : Mst} {D : Nat} {w : World}
set_option maxHeartbeats 1000000 in
theorem opCode_move {k d fb fa tb ta c r : Int} {j : Nat} (H : Mem tg a s w) (hs : MOk s D) (hk : k = 4 ∨ k = 5) (hfb : fb = 1 ∧ tb = 2 ∨ fb = 2 ∧ tb = 1) (hp : OpOk s.W k d fb fa tb ta c r j) : Calls Try.prog 92 #[.pointer (some ⟨a.g, 0, none⟩), .agg #[.int .i64 k, .int .i64 d, .int .i64 fb, .int .i64 fa, .int .i64 tb, .int .i64 ta, .int .i64 c, .int .i64 r]] w fun e w' => e = .returned (.int .i64 (opCodeI s k d fb fa tb ta j)) ∧ Below w.heap.size w w' := by
  have hg : Below w.heap.size w (w.alloc (.cells #[.int .i64 k, .int .i64 d, .int .i64 fb, .int .i64 fa, .int .i64 tb, .int .i64 ta, .int .i64 c, .int .i64 r] 58)) := (Below.refl _ _).alloc (Nat.le_refl _) _
  have HM := Lib.hid (H.below hg)
  have HG := Lib.hid hg
  have hbox := box_ce w k d fb fa tb ta c r
  have m0 := (show _ = some (Value.int .i64 s.W) from HM.out.m.cell 0)
  have e3 := hbox.c3
  have e5 := hbox.c5
  have hf1 := hp.f1
  have ht1 := hp.t1
  have hfb1 : fb = 1 ∨ fb = 2 := by omega
  have htb1 : tb = 1 ∨ tb = 2 := by omega
  have HFB := Lib.hid hfb
  have hfa0 := hp.f0
  have hta0 := hp.t0
  have hw2 := hs.w2
  have hr1 := hs.r1
  have hr2 := hs.r2
  clear hfb
  have HBX := Lib.hid hbox
  have HS := Lib.hid hs
  have HP := Lib.hid hp
  obtain ⟨code, hcode⟩ : ∃ z, z = opCodeI s k d fb fa tb ta j := ⟨_, rfl⟩
  rw [← hcode]
  have HC := Lib.hid hcode
  clear H hs hp hg hbox hcode
  go_enter Try.func92, Try.ntmps92
  have d1 : decide ((s.W : Int) ≤ fa) = false := decide_eq_false (by omega)
  have d2 : decide ((s.W : Int) ≤ ta) = false := decide_eq_false (by omega)
  go_wp2_with fail
  go_quiet (fail)
  rename_i nq
  have HB0 : Hid (Below w.heap.size w ((w.alloc (.cells #[.int .i64 k, .int .i64 d, .int .i64 fb, .int .i64 fa, .int .i64 tb, .int .i64 ta, .int .i64 c, .int .i64 r] 58)).drewN nq)) := Lib.hid (Below.drewN' HG.out nq)
  have hfit := fits_any (HM.out.drewN nq) HS.out HP.out
  have HF := Lib.hid hfit
  clear hfit m0 e3 e5
  go_wp2_with fail
  refine HF.out.mono ?_
  rintro e w1 ⟨rfl, hb1⟩
  have HB1 := Lib.hid (HB0.out.trans (hb1.mono HB0.out.size))
  have HO1 : Hid (OpCe w.heap.size 0 k d fb fa tb ta c r w1) := Lib.hid ((opCe_loc _ _ _ _ _ _ _ _ _ _).1 _ _ HBX.out fun q hq => by subst hq; exact hb1.block _ (World.block_lt_of_cell? _ _ HBX.out.c0))
  have HBR := Lib.hid hb1
  clear hb1 HF
  have e0 := HO1.out.c0
  cases hfi : fitsB s k d fb fa j
  · have HZ := Lib.hid (show code = 9 by rw [HC.out]; unfold opCodeI; rw [if_pos hfi])
    clear hfi
    go_wp2_with fail
    go_ret
    exact ⟨by rw [HZ.out]; rfl, HB1.out⟩
  · have HM1 := Lib.hid (HM.out.below (Below.trans (Below.drewN' (Below.refl _ _) nq) HBR.out))
    have ha0 := HP.out.f0
    obtain ⟨nf, hnf⟩ : ∃ n, n = lstN s fb fa := ⟨_, rfl⟩
    obtain ⟨Af, cf, hvf⟩ := (HM1.out.lst (b := fb) ha0 hf1).form
    rw [← hnf] at hvf
    have HNF := Lib.hid hnf
    have HVF := Lib.hid hvf
    have h4 : nf ≤ 4 := by rw [hnf]; exact lstN_le HS.out ha0 hf1
    obtain ⟨nt, hnt⟩ : ∃ n, n = lstN s tb ta := ⟨_, rfl⟩
    obtain ⟨At, ct, hvt⟩ := (HM1.out.lst (b := tb) hta0 ht1).form
    rw [← hnt] at hvt
    have HNT := Lib.hid hnt
    have HVT := Lib.hid hvt
    have h4t : nt ≤ 4 := by rw [hnt]; exact lstN_le HS.out hta0 ht1
    have e2 := HO1.out.c2
    have e3 := HO1.out.c3
    have e4 := HO1.out.c4
    have e5 := HO1.out.c5
    clear hnf hvf hnt hvt HBR
    obtain ⟨xl, hxl, _⟩ := HM1.out.l
    obtain ⟨AL, cL, hAL⟩ := own_form hxl
    have m5 : w1.cell? ⟨a.g, 5, none⟩ = some (.slice AL s.n cL) := (HM1.out.m.cell 5).trans (by rw [← hAL]; rfl)
    have hnb := HS.out.nb
    clear hxl hAL
    have HPRE : Hid (code = if makesB k = true ∧ s.n = 300 then 5 else if ¬ (inB (faceI fb fa s.rk) 0 ((s.W : Int) - 1) = true ∧ 3 - fb = tb ∧ faceI fb fa s.rk = ta) then 8 else if nf = 0 then 7 else if 4 < nf + nt then 5 else 0) := Lib.hid (by
      rw [HC.out, HNF.out, HNT.out]
      unfold opCodeI
      rw [hfi]
      rcases hk with rfl | rfl <;> simp)
    clear hfi
    by_cases hq : makesB k = true ∧ s.n = 300
    · have HZ := Lib.hid (HPRE.out.trans (if_pos hq))
      obtain ⟨hq1, hq2⟩ := hq
      rcases hk with rfl | rfl
      · simp [makesB] at hq1
      clear hq1
      go_wp2_with ((go_at_call 97; refine (makesLoop_any _ _ (by omega) (by omega)).mono ?_; rintro e w' ⟨rfl, rfl⟩))
      go_ret
      exact ⟨by rw [HZ.out]; rfl, HB1.out⟩
    have HPR1 := Lib.hid (HPRE.out.trans (if_neg hq))
    have hq' : makesB k = true → ((s.n : Int) == 300) = false := fun h => by simp; intro h'; exact hq ⟨h, by omega⟩
    clear hq HPRE
    have hfac := facing_any (D := D) fb fa HM1.out HS.out hfb1 hfa0 hf1
    obtain ⟨fx, hfx⟩ : ∃ y, y = faceI fb fa s.rk := ⟨_, rfl⟩
    obtain ⟨fok, hfok⟩ : ∃ y, y = inB fx 0 ((s.W : Int) - 1) := ⟨_, rfl⟩
    rw [← hfx, ← hfok] at hfac
    rw [hfx] at hfok
    have HFAC := Lib.hid hfac
    have HFX := Lib.hid hfx
    have HFOK := Lib.hid hfok
    clear hfac hfx hfok
    obtain rfl : tb = 3 - fb := by have := HFB.out; omega
    rcases hk with rfl | rfl
    · clear hq'
      have hmb : makesB 4 = false := rfl
      go_wp2_with ((go_at_call 97; refine (makesLoop_any _ _ (by omega) (by omega)).mono ?_; rintro e w' ⟨rfl, rfl⟩))
      refine HFAC.out.mono ?_
      rintro e w2 ⟨rfl, hb2⟩
      have hb3 := (hb2.trans (((Below.refl _ _).alloc (Nat.le_refl _) (.cells #[.int .i64 (3 - fb), .int .i64 fx] 37)).mono hb2.size))
      have HB3 := Lib.hid (HB1.out.trans (hb3.mono HB1.out.size))
      have HO3 := Lib.hid ((opCe_loc _ _ _ _ _ _ _ _ _ _).1 _ _ HO1.out fun q hq => by subst hq; exact hb3.block _ (World.block_lt_of_cell? _ _ HO1.out.c0))
      have HM3 := Lib.hid (HM1.out.below hb3)
      have g2 : (w2.alloc (.cells #[.int .i64 (3 - fb), .int .i64 fx] 37)).cell? ⟨w.heap.size, 2, none⟩ = some (.int .i64 fb) := HO3.out.c2
      have g3 : (w2.alloc (.cells #[.int .i64 (3 - fb), .int .i64 fx] 37)).cell? ⟨w.heap.size, 3, none⟩ = some (.int .i64 fa) := HO3.out.c3
      have g4 : (w2.alloc (.cells #[.int .i64 (3 - fb), .int .i64 fx] 37)).cell? ⟨w.heap.size, 4, none⟩ = some (.int .i64 (3 - fb)) := HO3.out.c4
      have g5 : (w2.alloc (.cells #[.int .i64 (3 - fb), .int .i64 fx] 37)).cell? ⟨w.heap.size, 5, none⟩ = some (.int .i64 ta) := HO3.out.c5
      clear hb2 hb3 e0 e2 e3 e4 e5 m5
      have HPR2 : Hid (code = if ¬ (fok = true ∧ fx = ta) then 8 else if nf = 0 then 7 else if 4 < nf + nt then 5 else 0) := Lib.hid (by rw [HPR1.out, HFOK.out, HFX.out]; simp)
      cases fok
      · have HZ : Hid (code = 8) := Lib.hid (HPR2.out.trans (by simp))
        go_wp2_with fail
        go_ret
        exact ⟨by rw [HZ.out]; rfl, HB3.out⟩
      by_cases hft : fx = ta
      · subst hft
        have HPR3 : Hid (code = if nf = 0 then 7 else if 4 < nf + nt then 5 else 0) := Lib.hid (HPR2.out.trans (by simp))
        by_cases hn : nf = 0
        · subst hn
          have HZ : Hid (code = 7) := Lib.hid (HPR3.out.trans (by simp))
          go_wp2_with (go_at_call 93; refine (on_any fb fa HM3.out hfb1 ha0 hf1).mono ?_; rintro e w4 ⟨rfl, hb4⟩; have kc := (HM3.out.below hb4).cellN (b := fb) ha0 hf1; rw [HVF.out] at kc; have HB4 := Lib.hid (HB3.out.trans (hb4.mono HB3.out.size)); clear hb4)
          go_ret
          exact ⟨by rw [HZ.out]; rfl, HB4.out⟩
        · have hn' : ((nf : Int) == 0) = false := by simp; omega
          go_wp2_with (go_at_call 93; refine (on_any fb fa HM3.out hfb1 ha0 hf1).mono ?_; rintro e w4 ⟨rfl, hb4⟩; have kc := (HM3.out.below hb4).cellN (b := fb) ha0 hf1; rw [HVF.out] at kc; have HB4 := Lib.hid (HB3.out.trans (hb4.mono HB3.out.size)); have HO4 := Lib.hid ((opCe_loc _ _ _ _ _ _ _ _ _ _).1 _ _ HO3.out fun q hq => by subst hq; exact hb4.block _ (World.block_lt_of_cell? _ _ HO3.out.c0)); have HM4 := Lib.hid (HM3.out.below hb4); clear hb4)
          have x2 : w4.cell? ⟨w.heap.size, 2, none⟩ = some (.int .i64 fb) := HO4.out.c2
          have x3 : w4.cell? ⟨w.heap.size, 3, none⟩ = some (.int .i64 fa) := HO4.out.c3
          have x4 : w4.cell? ⟨w.heap.size, 4, none⟩ = some (.int .i64 (3 - fb)) := HO4.out.c4
          have x5 : w4.cell? ⟨w.heap.size, 5, none⟩ = some (.int .i64 fx) := HO4.out.c5
          have kt := HM4.out.cellN (b := 3 - fb) hta0 ht1
          rw [HVT.out] at kt
          clear g2 g3 g4 g5
          have HLW := Lib.hid (World.block_lt_of_cell? w4 _ x2)
          have HLF := Lib.hid (World.block_lt_of_cell? w4 _ kc)
          have HLT := Lib.hid (World.block_lt_of_cell? w4 _ kt)
          have HK := Lib.hid (And.intro x2 (And.intro x3 (And.intro x4 (And.intro x5 (And.intro kc kt)))))
          have hws : IntKind.i64.wrap ((nf : Int) + nt) = (nf : Int) + nt := by rw [IntKind.wrap_i64]; omega
          go_region_held3 (fun w' => w'.cell? ⟨w.heap.size, 2, none⟩ = some (.int .i64 fb) ∧ w'.cell? ⟨w.heap.size, 3, none⟩ = some (.int .i64 fa) ∧ w'.cell? ⟨w.heap.size, 4, none⟩ = some (.int .i64 (3 - fb)) ∧ w'.cell? ⟨w.heap.size, 5, none⟩ = some (.int .i64 fx) ∧ w'.cell? ⟨bedG a fb, fa.toNat, none⟩ = some (.slice Af nf cf) ∧ w'.cell? ⟨bedG a (3 - fb), fx.toNat, none⟩ = some (.slice At nt ct)) (go_keep)
            (first
              | (go_at_call_of 93 fa; refine (on_any fb fa (HM4.out.below ((Below.refl w4.heap.size w4).drew)) hfb1 ha0 hf1).mono ?_; rintro e w6 ⟨rfl, hb6⟩; have HB6 : Hid (Below w4.heap.size w4 w6) := Lib.hid (((Below.refl w4.heap.size w4).drew).trans hb6); have y2 := ((bcell HB6.out).1 _ 2 HLW.out).trans HK.out.1; have y3 := ((bcell HB6.out).1 _ 3 HLW.out).trans HK.out.2.1; have y4 := ((bcell HB6.out).1 _ 4 HLW.out).trans HK.out.2.2.1; have y5 := ((bcell HB6.out).1 _ 5 HLW.out).trans HK.out.2.2.2.1; have yc := ((bcell HB6.out).1 _ _ HLF.out).trans HK.out.2.2.2.2.1; have yt := ((bcell HB6.out).1 _ _ HLT.out).trans HK.out.2.2.2.2.2; clear hb6 x2 x3 x4 x5 kc kt)
              | (go_at_call_of 93 fx; refine (on_any (3 - fb) fx (HM4.out.below HB6.out) htb1 hta0 ht1).mono ?_; rintro e w7 ⟨rfl, hb7⟩; have HB7 : Hid (Below w4.heap.size w4 w7) := Lib.hid (HB6.out.trans (hb7.mono HB6.out.size)); have z2 := ((bcell HB7.out).1 _ 2 HLW.out).trans HK.out.1; have z3 := ((bcell HB7.out).1 _ 3 HLW.out).trans HK.out.2.1; have z4 := ((bcell HB7.out).1 _ 4 HLW.out).trans HK.out.2.2.1; have z5 := ((bcell HB7.out).1 _ 5 HLW.out).trans HK.out.2.2.2.1; have zc := ((bcell HB7.out).1 _ _ HLF.out).trans HK.out.2.2.2.2.1; have zt := ((bcell HB7.out).1 _ _ HLT.out).trans HK.out.2.2.2.2.2; clear hb7 y2 y3 y4 y5 yc yt))
          rename_i hHeld
          clear hHeld z2 z3 z4 z5 zc zt hws
          have HBF := Lib.hid (HB4.out.trans (HB7.out.mono HB4.out.size))
          by_cases hov : 4 < nf + nt
          · have HZ : Hid (code = 5) := Lib.hid (HPR3.out.trans (by simp [hn, hov]))
            go_wp2_with fail
            go_ret
            exact ⟨by rw [HZ.out]; rfl, HBF.out⟩
          · have HZ : Hid (code = 0) := Lib.hid (HPR3.out.trans (by simp [hn, hov]))
            go_wp2_with fail
            go_ret
            exact ⟨by rw [HZ.out]; rfl, HBF.out⟩
      · have hft' : (fx == ta) = false := by simpa using hft
        have HZ : Hid (code = 8) := Lib.hid (HPR2.out.trans (by simp [hft]))
        go_wp2_with fail
        go_ret
        exact ⟨by rw [HZ.out]; rfl, HB3.out⟩
    · have hq5 := hq' rfl
      clear hq'
      have hmb : makesB 5 = true := rfl
      go_wp2_with ((go_at_call 97; refine (makesLoop_any _ _ (by omega) (by omega)).mono ?_; rintro e w' ⟨rfl, rfl⟩))
      refine HFAC.out.mono ?_
      rintro e w2 ⟨rfl, hb2⟩
      have hb3 := (hb2.trans (((Below.refl _ _).alloc (Nat.le_refl _) (.cells #[.int .i64 (3 - fb), .int .i64 fx] 37)).mono hb2.size))
      have HB3 := Lib.hid (HB1.out.trans (hb3.mono HB1.out.size))
      have HO3 := Lib.hid ((opCe_loc _ _ _ _ _ _ _ _ _ _).1 _ _ HO1.out fun q hq => by subst hq; exact hb3.block _ (World.block_lt_of_cell? _ _ HO1.out.c0))
      have HM3 := Lib.hid (HM1.out.below hb3)
      have g2 : (w2.alloc (.cells #[.int .i64 (3 - fb), .int .i64 fx] 37)).cell? ⟨w.heap.size, 2, none⟩ = some (.int .i64 fb) := HO3.out.c2
      have g3 : (w2.alloc (.cells #[.int .i64 (3 - fb), .int .i64 fx] 37)).cell? ⟨w.heap.size, 3, none⟩ = some (.int .i64 fa) := HO3.out.c3
      have g4 : (w2.alloc (.cells #[.int .i64 (3 - fb), .int .i64 fx] 37)).cell? ⟨w.heap.size, 4, none⟩ = some (.int .i64 (3 - fb)) := HO3.out.c4
      have g5 : (w2.alloc (.cells #[.int .i64 (3 - fb), .int .i64 fx] 37)).cell? ⟨w.heap.size, 5, none⟩ = some (.int .i64 ta) := HO3.out.c5
      clear hb2 hb3 e0 e2 e3 e4 e5 m5
      have HPR2 : Hid (code = if ¬ (fok = true ∧ fx = ta) then 8 else if nf = 0 then 7 else if 4 < nf + nt then 5 else 0) := Lib.hid (by rw [HPR1.out, HFOK.out, HFX.out]; simp)
      cases fok
      · have HZ : Hid (code = 8) := Lib.hid (HPR2.out.trans (by simp))
        go_wp2_with fail
        go_ret
        exact ⟨by rw [HZ.out]; rfl, HB3.out⟩
      by_cases hft : fx = ta
      · subst hft
        have HPR3 : Hid (code = if nf = 0 then 7 else if 4 < nf + nt then 5 else 0) := Lib.hid (HPR2.out.trans (by simp))
        by_cases hn : nf = 0
        · subst hn
          have HZ : Hid (code = 7) := Lib.hid (HPR3.out.trans (by simp))
          go_wp2_with (go_at_call 93; refine (on_any fb fa HM3.out hfb1 ha0 hf1).mono ?_; rintro e w4 ⟨rfl, hb4⟩; have kc := (HM3.out.below hb4).cellN (b := fb) ha0 hf1; rw [HVF.out] at kc; have HB4 := Lib.hid (HB3.out.trans (hb4.mono HB3.out.size)); clear hb4)
          go_ret
          exact ⟨by rw [HZ.out]; rfl, HB4.out⟩
        · have hn' : ((nf : Int) == 0) = false := by simp; omega
          go_wp2_with (go_at_call 93; refine (on_any fb fa HM3.out hfb1 ha0 hf1).mono ?_; rintro e w4 ⟨rfl, hb4⟩; have kc := (HM3.out.below hb4).cellN (b := fb) ha0 hf1; rw [HVF.out] at kc; have HB4 := Lib.hid (HB3.out.trans (hb4.mono HB3.out.size)); have HO4 := Lib.hid ((opCe_loc _ _ _ _ _ _ _ _ _ _).1 _ _ HO3.out fun q hq => by subst hq; exact hb4.block _ (World.block_lt_of_cell? _ _ HO3.out.c0)); have HM4 := Lib.hid (HM3.out.below hb4); clear hb4)
          have x2 : w4.cell? ⟨w.heap.size, 2, none⟩ = some (.int .i64 fb) := HO4.out.c2
          have x3 : w4.cell? ⟨w.heap.size, 3, none⟩ = some (.int .i64 fa) := HO4.out.c3
          have x4 : w4.cell? ⟨w.heap.size, 4, none⟩ = some (.int .i64 (3 - fb)) := HO4.out.c4
          have x5 : w4.cell? ⟨w.heap.size, 5, none⟩ = some (.int .i64 fx) := HO4.out.c5
          have kt := HM4.out.cellN (b := 3 - fb) hta0 ht1
          rw [HVT.out] at kt
          clear g2 g3 g4 g5
          have HLW := Lib.hid (World.block_lt_of_cell? w4 _ x2)
          have HLF := Lib.hid (World.block_lt_of_cell? w4 _ kc)
          have HLT := Lib.hid (World.block_lt_of_cell? w4 _ kt)
          have HK := Lib.hid (And.intro x2 (And.intro x3 (And.intro x4 (And.intro x5 (And.intro kc kt)))))
          have hws : IntKind.i64.wrap ((nf : Int) + nt) = (nf : Int) + nt := by rw [IntKind.wrap_i64]; omega
          go_region_held3 (fun w' => w'.cell? ⟨w.heap.size, 2, none⟩ = some (.int .i64 fb) ∧ w'.cell? ⟨w.heap.size, 3, none⟩ = some (.int .i64 fa) ∧ w'.cell? ⟨w.heap.size, 4, none⟩ = some (.int .i64 (3 - fb)) ∧ w'.cell? ⟨w.heap.size, 5, none⟩ = some (.int .i64 fx) ∧ w'.cell? ⟨bedG a fb, fa.toNat, none⟩ = some (.slice Af nf cf) ∧ w'.cell? ⟨bedG a (3 - fb), fx.toNat, none⟩ = some (.slice At nt ct)) (go_keep)
            (first
              | (go_at_call_of 93 fa; refine (on_any fb fa (HM4.out.below ((Below.refl w4.heap.size w4).drew)) hfb1 ha0 hf1).mono ?_; rintro e w6 ⟨rfl, hb6⟩; have HB6 : Hid (Below w4.heap.size w4 w6) := Lib.hid (((Below.refl w4.heap.size w4).drew).trans hb6); have y2 := ((bcell HB6.out).1 _ 2 HLW.out).trans HK.out.1; have y3 := ((bcell HB6.out).1 _ 3 HLW.out).trans HK.out.2.1; have y4 := ((bcell HB6.out).1 _ 4 HLW.out).trans HK.out.2.2.1; have y5 := ((bcell HB6.out).1 _ 5 HLW.out).trans HK.out.2.2.2.1; have yc := ((bcell HB6.out).1 _ _ HLF.out).trans HK.out.2.2.2.2.1; have yt := ((bcell HB6.out).1 _ _ HLT.out).trans HK.out.2.2.2.2.2; clear hb6 x2 x3 x4 x5 kc kt)
              | (go_at_call_of 93 fx; refine (on_any (3 - fb) fx (HM4.out.below HB6.out) htb1 hta0 ht1).mono ?_; rintro e w7 ⟨rfl, hb7⟩; have HB7 : Hid (Below w4.heap.size w4 w7) := Lib.hid (HB6.out.trans (hb7.mono HB6.out.size)); have z2 := ((bcell HB7.out).1 _ 2 HLW.out).trans HK.out.1; have z3 := ((bcell HB7.out).1 _ 3 HLW.out).trans HK.out.2.1; have z4 := ((bcell HB7.out).1 _ 4 HLW.out).trans HK.out.2.2.1; have z5 := ((bcell HB7.out).1 _ 5 HLW.out).trans HK.out.2.2.2.1; have zc := ((bcell HB7.out).1 _ _ HLF.out).trans HK.out.2.2.2.2.1; have zt := ((bcell HB7.out).1 _ _ HLT.out).trans HK.out.2.2.2.2.2; clear hb7 y2 y3 y4 y5 yc yt))
          rename_i hHeld
          clear hHeld z2 z3 z4 z5 zc zt hws
          have HBF := Lib.hid (HB4.out.trans (HB7.out.mono HB4.out.size))
          by_cases hov : 4 < nf + nt
          · have HZ : Hid (code = 5) := Lib.hid (HPR3.out.trans (by simp [hn, hov]))
            go_wp2_with fail
            go_ret
            exact ⟨by rw [HZ.out]; rfl, HBF.out⟩
          · have HZ : Hid (code = 0) := Lib.hid (HPR3.out.trans (by simp [hn, hov]))
            go_wp2_with fail
            go_ret
            exact ⟨by rw [HZ.out]; rfl, HBF.out⟩
      · have hft' : (fx == ta) = false := by simpa using hft
        have HZ : Hid (code = 8) := Lib.hid (HPR2.out.trans (by simp [hft]))
        go_wp2_with fail
        go_ret
        exact ⟨by rw [HZ.out]; rfl, HB3.out⟩
end
end Go.Proofs.Ytpmfkpehmckgmaa
