/- Walks: whether an event is valid, by the reference, kind by kind. (Printed by wip/evspecgen.py.) -/
import Derived.Test.YtacppheedleamaaEventsSpec
set_option linter.unusedVariables false
set_option linter.unusedSimpArgs false
namespace Go.Proofs.Ytacppheedleamaa
open Go.RowKit
set_option maxRecDepth 20000

theorem l00In_q (n lo hi : Int) (w : World) : Calls Try.prog 55 #[.int .i64 n, .int .i64 lo, .int .i64 hi] w fun e w' => e = .returned (.bool (inB n lo hi)) ∧ w' = w := (l00In_any n lo hi w).mono fun _ _ h => ⟨h.1, h.2.symm⟩
set_option maxHeartbeats 4000000 in
theorem l10Event1_any (p c b y d n : Int) (g o : Nat) (w : World) (H : Hid (EvAt w g o 1 p c b y d)) (hn : 0 ≤ n ∧ n ≤ 1000000) (hp0 : ¬ p < 0) (hpn : ¬ n < p) :
    Calls Try.prog 59 #[.pointer (some ⟨g, o, none⟩), .int .i64 n] w (EvAns (evV 1 p c b y d n) (evAfter 1 c n) w) := by
  have h0 := H.out.c0
  have h1 := H.out.c1
  have h2 := H.out.c2
  have h3 := H.out.c3
  have h4 := H.out.c4
  have h5 := H.out.c5
  have he : evV 1 p c b y d n = (decide (p ≤ n - 2) && (decide (c = 1) || decide (c = -1)) && plainB b y d) := by
    unfold evV
    rw [if_neg hp0]
    rfl
  rw [he]
  clear he
  obtain ⟨Y, hY⟩ : ∃ Y, yarnB b y d = Y := ⟨_, rfl⟩
  obtain ⟨N, hN⟩ : ∃ N, plainB b y d = N := ⟨_, rfl⟩
  simp only [hN]
  have HY := Lib.hid hY
  have HN := Lib.hid hN
  clear hY hN
  go_enter Try.func59, Try.ntmps59
  go_upto_region 1 with fail
  go_cut [6] from 9 to 27 (fun s6 wx => s6 = .bool Y ∧ wx = w)
  case first =>
    go_wp2_with (first | (go_at_call 92; refine (l01Bed_any _ _).mono ?_; rintro e w' ⟨rfl, rfl⟩) | (go_at_call 93; refine (l07Yarn_any _ _).mono ?_; rintro e w' ⟨rfl, rfl⟩) | (go_at_call 94; refine (l07Dir_any _ _).mono ?_; rintro e w' ⟨rfl, rfl⟩))
    all_goals go_meet
    all_goals exact ⟨congrArg Value.bool (by rw [← HY.out]; simp_all [yarnB]), rfl⟩
  case rest =>
    obtain ⟨rfl, rfl⟩ := hcut
    go_upto_region 2 with fail
    go_cut [7] from 28 to 46 (fun s7 wx => s7 = .bool N ∧ wx = wc)
    case first =>
      go_wp2
      all_goals go_meet
      all_goals exact ⟨congrArg Value.bool (by rw [← HN.out]; simp_all [plainB]), rfl⟩
    case rest =>
      obtain ⟨rfl, rfl⟩ := hcut
      cases N
      · go_wp2
        go_quiet (fail)
        go_wp2_with fail
        go_ret2
        exact evAns_of nq (by first | rfl | (simp; done) | (rw [Bool.eq_iff_iff]; simp; done) | (simp_all; done) | (simp_all [inB]; done) | (simp_all [inB]; omega)) (fun h => by first | rfl | cases h | (simp at h; done) | (exfalso; simp_all; done) | (exfalso; simp_all; omega))
      · by_cases hc1 : c = 1
        · subst hc1
          by_cases hl : p + 1 < n
          · have s1 : IntKind.i64.wrap (p + 1) = p + 1 := IntWalk.i64_in _ (by omega)
            go_wp2
            go_quiet (fail)
            go_wp2_with fail
            go_ret2
            exact evAns_of nq (by first | rfl | (simp; done) | (rw [Bool.eq_iff_iff]; simp; done) | (simp_all; done) | (simp_all [inB]; done) | (simp_all [inB]; omega)) (fun h => by first | rfl | cases h | (simp at h; done) | (exfalso; simp_all; done) | (exfalso; simp_all; omega))
          · have s1 : IntKind.i64.wrap (p + 1) = p + 1 := IntWalk.i64_in _ (by omega)
            go_wp2
            go_quiet (fail)
            go_wp2_with fail
            go_ret2
            exact evAns_of nq (by first | rfl | (simp; done) | (rw [Bool.eq_iff_iff]; simp; done) | (simp_all; done) | (simp_all [inB]; done) | (simp_all [inB]; omega)) (fun h => by first | rfl | cases h | (simp at h; done) | (exfalso; simp_all; done) | (exfalso; simp_all; omega))
        · have b1 : (c == 1) = false := by simpa using hc1
          by_cases hc2 : c = -1
          · subst hc2
            by_cases hl : p + 1 < n
            · have s1 : IntKind.i64.wrap (p + 1) = p + 1 := IntWalk.i64_in _ (by omega)
              go_wp2
              go_quiet (fail)
              go_wp2_with fail
              go_ret2
              exact evAns_of nq (by first | rfl | (simp; done) | (rw [Bool.eq_iff_iff]; simp; done) | (simp_all; done) | (simp_all [inB]; done) | (simp_all [inB]; omega)) (fun h => by first | rfl | cases h | (simp at h; done) | (exfalso; simp_all; done) | (exfalso; simp_all; omega))
            · have s1 : IntKind.i64.wrap (p + 1) = p + 1 := IntWalk.i64_in _ (by omega)
              go_wp2
              go_quiet (fail)
              go_wp2_with fail
              go_ret2
              exact evAns_of nq (by first | rfl | (simp; done) | (rw [Bool.eq_iff_iff]; simp; done) | (simp_all; done) | (simp_all [inB]; done) | (simp_all [inB]; omega)) (fun h => by first | rfl | cases h | (simp at h; done) | (exfalso; simp_all; done) | (exfalso; simp_all; omega))
          · have b2 : (c == -1) = false := by simpa using hc2
            go_wp2
            go_quiet (fail)
            go_wp2_with fail
            go_ret2
            exact evAns_of nq (by first | rfl | (simp; done) | (rw [Bool.eq_iff_iff]; simp; done) | (simp_all; done) | (simp_all [inB]; done) | (simp_all [inB]; omega)) (fun h => by first | rfl | cases h | (simp at h; done) | (exfalso; simp_all; done) | (exfalso; simp_all; omega))

set_option maxHeartbeats 4000000 in
theorem l10Event3_any (p c b y d n : Int) (g o : Nat) (w : World) (H : Hid (EvAt w g o 3 p c b y d)) (hn : 0 ≤ n ∧ n ≤ 1000000) (hp0 : ¬ p < 0) (hpn : ¬ n < p) :
    Calls Try.prog 59 #[.pointer (some ⟨g, o, none⟩), .int .i64 n] w (EvAns (evV 3 p c b y d n) (evAfter 3 c n) w) := by
  have h0 := H.out.c0
  have h1 := H.out.c1
  have h2 := H.out.c2
  have h3 := H.out.c3
  have h4 := H.out.c4
  have h5 := H.out.c5
  have he : evV 3 p c b y d n = (decide (c = 0) && yarnB b y d) := by
    unfold evV
    rw [if_neg hp0]
    rw [if_neg (show ¬ (3 : Int) = 1 by decide), if_neg (show ¬ (3 : Int) = 2 by decide), if_pos rfl, show decide (0 ≤ p) = true from decide_eq_true (by omega), show decide (p ≤ n) = true from decide_eq_true (by omega)]; simp
  rw [he]
  clear he
  obtain ⟨Y, hY⟩ : ∃ Y, yarnB b y d = Y := ⟨_, rfl⟩
  obtain ⟨N, hN⟩ : ∃ N, plainB b y d = N := ⟨_, rfl⟩
  simp only [hY]
  have HY := Lib.hid hY
  have HN := Lib.hid hN
  clear hY hN
  go_enter Try.func59, Try.ntmps59
  go_upto_region 1 with fail
  go_cut [6] from 9 to 27 (fun s6 wx => s6 = .bool Y ∧ wx = w)
  case first =>
    go_wp2_with (first | (go_at_call 92; refine (l01Bed_any _ _).mono ?_; rintro e w' ⟨rfl, rfl⟩) | (go_at_call 93; refine (l07Yarn_any _ _).mono ?_; rintro e w' ⟨rfl, rfl⟩) | (go_at_call 94; refine (l07Dir_any _ _).mono ?_; rintro e w' ⟨rfl, rfl⟩))
    all_goals go_meet
    all_goals exact ⟨congrArg Value.bool (by rw [← HY.out]; simp_all [yarnB]), rfl⟩
  case rest =>
    obtain ⟨rfl, rfl⟩ := hcut
    go_upto_region 2 with fail
    go_cut [7] from 28 to 46 (fun s7 wx => s7 = .bool N ∧ wx = wc)
    case first =>
      go_wp2
      all_goals go_meet
      all_goals exact ⟨congrArg Value.bool (by rw [← HN.out]; simp_all [plainB]), rfl⟩
    case rest =>
      obtain ⟨rfl, rfl⟩ := hcut
      have s1 : IntKind.i64.wrap (n + 1) = n + 1 := IntWalk.i64_in _ (by omega)
      cases Y
      · go_wp2
        go_quiet (fail)
        go_wp2_with fail
        go_ret2
        exact evAns_of nq (by first | rfl | (simp; done) | (rw [Bool.eq_iff_iff]; simp; done) | (simp_all; done) | (simp_all [inB]; done) | (simp_all [inB]; omega)) (fun h => by first | rfl | cases h | (simp at h; done) | (exfalso; simp_all; done) | (exfalso; simp_all; omega))
      · go_wp2
        go_quiet (fail)
        go_wp2_with fail
        go_ret2
        exact evAns_of nq (by first | rfl | (simp; done) | (rw [Bool.eq_iff_iff]; simp; done) | (simp_all; done) | (simp_all [inB]; done) | (simp_all [inB]; omega)) (fun h => by first | rfl | cases h | (simp at h; done) | (exfalso; simp_all; done) | (exfalso; simp_all; omega))

set_option maxHeartbeats 4000000 in
theorem l10Event4_any (p c b y d n : Int) (g o : Nat) (w : World) (H : Hid (EvAt w g o 4 p c b y d)) (hn : 0 ≤ n ∧ n ≤ 1000000) (hp0 : ¬ p < 0) (hpn : ¬ n < p) :
    Calls Try.prog 59 #[.pointer (some ⟨g, o, none⟩), .int .i64 n] w (EvAns (evV 4 p c b y d n) (evAfter 4 c n) w) := by
  have h0 := H.out.c0
  have h1 := H.out.c1
  have h2 := H.out.c2
  have h3 := H.out.c3
  have h4 := H.out.c4
  have h5 := H.out.c5
  have he : evV 4 p c b y d n = (inB c 1 4 && decide (p ≤ n - c) && plainB b y d) := by
    unfold evV
    rw [if_neg hp0]
    rfl
  rw [he]
  clear he
  obtain ⟨Y, hY⟩ : ∃ Y, yarnB b y d = Y := ⟨_, rfl⟩
  obtain ⟨N, hN⟩ : ∃ N, plainB b y d = N := ⟨_, rfl⟩
  simp only [hN]
  have HY := Lib.hid hY
  have HN := Lib.hid hN
  clear hY hN
  go_enter Try.func59, Try.ntmps59
  go_upto_region 1 with fail
  go_cut [6] from 9 to 27 (fun s6 wx => s6 = .bool Y ∧ wx = w)
  case first =>
    go_wp2_with (first | (go_at_call 92; refine (l01Bed_any _ _).mono ?_; rintro e w' ⟨rfl, rfl⟩) | (go_at_call 93; refine (l07Yarn_any _ _).mono ?_; rintro e w' ⟨rfl, rfl⟩) | (go_at_call 94; refine (l07Dir_any _ _).mono ?_; rintro e w' ⟨rfl, rfl⟩))
    all_goals go_meet
    all_goals exact ⟨congrArg Value.bool (by rw [← HY.out]; simp_all [yarnB]), rfl⟩
  case rest =>
    obtain ⟨rfl, rfl⟩ := hcut
    go_upto_region 2 with fail
    go_cut [7] from 28 to 46 (fun s7 wx => s7 = .bool N ∧ wx = wc)
    case first =>
      go_wp2
      all_goals go_meet
      all_goals exact ⟨congrArg Value.bool (by rw [← HN.out]; simp_all [plainB]), rfl⟩
    case rest =>
      obtain ⟨rfl, rfl⟩ := hcut
      cases N
      · go_wp2
        go_quiet ((go_at_call 55; exact Calls.quiet_of_same (l00In_q _ _ _ _)))
        go_wp2_with fail
        go_ret2
        exact evAns_of nq (by first | rfl | (simp; done) | (rw [Bool.eq_iff_iff]; simp; done) | (simp_all; done) | (simp_all [inB]; done) | (simp_all [inB]; omega)) (fun h => by first | rfl | cases h | (simp at h; done) | (exfalso; simp_all; done) | (exfalso; simp_all; omega))
      · cases hI : inB c 1 4
        · go_wp2
          go_quiet ((go_at_call 55; exact Calls.quiet_of_same (l00In_q _ _ _ _)))
          go_wp2_with fail
          go_ret2
          exact evAns_of nq (by first | rfl | (simp; done) | (rw [Bool.eq_iff_iff]; simp; done) | (simp_all; done) | (simp_all [inB]; done) | (simp_all [inB]; omega)) (fun h => by first | rfl | cases h | (simp at h; done) | (exfalso; simp_all; done) | (exfalso; simp_all; omega))
        · have hI2 := inB_of hI
          have s1 : IntKind.i64.wrap (n - c) = n - c := IntWalk.i64_in _ (by omega)
          have s3 : IntKind.i64.wrap (p + c) = p + c := IntWalk.i64_in _ (by omega)
          go_wp2
          go_quiet ((go_at_call 55; exact Calls.quiet_of_same (l00In_q _ _ _ _)))
          go_wp2_with fail
          go_ret2
          exact evAns_of nq (by first | rfl | (simp; done) | (rw [Bool.eq_iff_iff]; simp; done) | (simp_all; done) | (simp_all [inB]; done) | (simp_all [inB]; omega)) (fun h => by first | rfl | cases h | (simp at h; done) | (exfalso; simp_all; done) | (exfalso; simp_all; omega))

set_option maxHeartbeats 4000000 in
theorem l10Event2_any (p c b y d n : Int) (g o : Nat) (w : World) (H : Hid (EvAt w g o 2 p c b y d)) (hn : 0 ≤ n ∧ n ≤ 1000000) (hp0 : ¬ p < 0) (hpn : ¬ n < p) :
    Calls Try.prog 59 #[.pointer (some ⟨g, o, none⟩), .int .i64 n] w (EvAns (evV 2 p c b y d n) (evAfter 2 c n) w) := by
  have h0 := H.out.c0
  have h1 := H.out.c1
  have h2 := H.out.c2
  have h3 := H.out.c3
  have h4 := H.out.c4
  have h5 := H.out.c5
  have he : evV 2 p c b y d n = (inB c 0 4 && decide (p ≤ n - c) && yarnB b y d) := by
    unfold evV
    rw [if_neg hp0]
    rfl
  rw [he]
  clear he
  obtain ⟨Y, hY⟩ : ∃ Y, yarnB b y d = Y := ⟨_, rfl⟩
  obtain ⟨N, hN⟩ : ∃ N, plainB b y d = N := ⟨_, rfl⟩
  simp only [hY]
  have HY := Lib.hid hY
  have HN := Lib.hid hN
  clear hY hN
  go_enter Try.func59, Try.ntmps59
  go_upto_region 1 with fail
  go_cut [6] from 9 to 27 (fun s6 wx => s6 = .bool Y ∧ wx = w)
  case first =>
    go_wp2_with (first | (go_at_call 92; refine (l01Bed_any _ _).mono ?_; rintro e w' ⟨rfl, rfl⟩) | (go_at_call 93; refine (l07Yarn_any _ _).mono ?_; rintro e w' ⟨rfl, rfl⟩) | (go_at_call 94; refine (l07Dir_any _ _).mono ?_; rintro e w' ⟨rfl, rfl⟩))
    all_goals go_meet
    all_goals exact ⟨congrArg Value.bool (by rw [← HY.out]; simp_all [yarnB]), rfl⟩
  case rest =>
    obtain ⟨rfl, rfl⟩ := hcut
    go_upto_region 2 with fail
    go_cut [7] from 28 to 46 (fun s7 wx => s7 = .bool N ∧ wx = wc)
    case first =>
      go_wp2
      all_goals go_meet
      all_goals exact ⟨congrArg Value.bool (by rw [← HN.out]; simp_all [plainB]), rfl⟩
    case rest =>
      obtain ⟨rfl, rfl⟩ := hcut
      cases Y
      · go_wp2
        go_quiet ((go_at_call 55; exact Calls.quiet_of_same (l00In_q _ _ _ _)))
        go_wp2_with fail
        go_ret2
        exact evAns_of nq (by first | rfl | (simp; done) | (rw [Bool.eq_iff_iff]; simp; done) | (simp_all; done) | (simp_all [inB]; done) | (simp_all [inB]; omega)) (fun h => by first | rfl | cases h | (simp at h; done) | (exfalso; simp_all; done) | (exfalso; simp_all; omega))
      · cases hI : inB c 0 4
        · go_wp2
          go_quiet ((go_at_call 55; exact Calls.quiet_of_same (l00In_q _ _ _ _)))
          go_wp2_with fail
          go_ret2
          exact evAns_of nq (by first | rfl | (simp; done) | (rw [Bool.eq_iff_iff]; simp; done) | (simp_all; done) | (simp_all [inB]; done) | (simp_all [inB]; omega)) (fun h => by first | rfl | cases h | (simp at h; done) | (exfalso; simp_all; done) | (exfalso; simp_all; omega))
        · have hI2 := inB_of hI
          have s1 : IntKind.i64.wrap (n - c) = n - c := IntWalk.i64_in _ (by omega)
          have s2 : IntKind.i64.wrap (n - c + 1) = n - c + 1 := IntWalk.i64_in _ (by omega)
          have s3 : IntKind.i64.wrap (p + c) = p + c := IntWalk.i64_in _ (by omega)
          go_wp2
          go_quiet ((go_at_call 55; exact Calls.quiet_of_same (l00In_q _ _ _ _)))
          go_wp2_with fail
          go_ret2
          exact evAns_of nq (by first | rfl | (simp; done) | (rw [Bool.eq_iff_iff]; simp; done) | (simp_all; done) | (simp_all [inB]; done) | (simp_all [inB]; omega)) (fun h => by first | rfl | cases h | (simp at h; done) | (exfalso; simp_all; done) | (exfalso; simp_all; omega))

set_option maxHeartbeats 4000000 in
theorem l10Event5_any (p c b y d n : Int) (g o : Nat) (w : World) (H : Hid (EvAt w g o 5 p c b y d)) (hn : 0 ≤ n ∧ n ≤ 1000000) (hp0 : ¬ p < 0) (hpn : ¬ n < p) :
    Calls Try.prog 59 #[.pointer (some ⟨g, o, none⟩), .int .i64 n] w (EvAns (evV 5 p c b y d n) (evAfter 5 c n) w) := by
  have h0 := H.out.c0
  have h1 := H.out.c1
  have h2 := H.out.c2
  have h3 := H.out.c3
  have h4 := H.out.c4
  have h5 := H.out.c5
  have he : evV 5 p c b y d n = (inB c 1 4 && yarnB b y d && (if b = 1 then decide (p ≤ n - c) else inB p c n)) := by
    unfold evV
    rw [if_neg hp0]
    rfl
  rw [he]
  clear he
  obtain ⟨Y, hY⟩ : ∃ Y, yarnB b y d = Y := ⟨_, rfl⟩
  obtain ⟨N, hN⟩ : ∃ N, plainB b y d = N := ⟨_, rfl⟩
  simp only [hY]
  have HY := Lib.hid hY
  have HN := Lib.hid hN
  clear hY hN
  go_enter Try.func59, Try.ntmps59
  go_upto_region 1 with fail
  go_cut [6] from 9 to 27 (fun s6 wx => s6 = .bool Y ∧ wx = w)
  case first =>
    go_wp2_with (first | (go_at_call 92; refine (l01Bed_any _ _).mono ?_; rintro e w' ⟨rfl, rfl⟩) | (go_at_call 93; refine (l07Yarn_any _ _).mono ?_; rintro e w' ⟨rfl, rfl⟩) | (go_at_call 94; refine (l07Dir_any _ _).mono ?_; rintro e w' ⟨rfl, rfl⟩))
    all_goals go_meet
    all_goals exact ⟨congrArg Value.bool (by rw [← HY.out]; simp_all [yarnB]), rfl⟩
  case rest =>
    obtain ⟨rfl, rfl⟩ := hcut
    go_upto_region 2 with fail
    go_cut [7] from 28 to 46 (fun s7 wx => s7 = .bool N ∧ wx = wc)
    case first =>
      go_wp2
      all_goals go_meet
      all_goals exact ⟨congrArg Value.bool (by rw [← HN.out]; simp_all [plainB]), rfl⟩
    case rest =>
      obtain ⟨rfl, rfl⟩ := hcut
      by_cases hb : b = 1
      · subst hb
        cases Y
        · have s1 : IntKind.i64.wrap (n + 1) = n + 1 := IntWalk.i64_in _ (by omega)
          go_wp2
          go_quiet (fail)
          go_wp2_with fail
          go_ret2
          exact evAns_of nq (by first | rfl | (simp; done) | (rw [Bool.eq_iff_iff]; simp; done) | (simp_all; done) | (simp_all [inB]; done) | (simp_all [inB]; omega)) (fun h => by first | rfl | cases h | (simp at h; done) | (exfalso; simp_all; done) | (exfalso; simp_all; omega))
        · cases hI : inB c 1 4
          · have s1 : IntKind.i64.wrap (n + 1) = n + 1 := IntWalk.i64_in _ (by omega)
            go_wp2_with (go_at_call 55; refine (l00In_any _ _ _ _).mono ?_; rintro e w' ⟨rfl, rfl⟩)
            go_quiet (fail)
            go_wp2_with fail
            go_ret2
            exact evAns_of nq (by first | rfl | (simp; done) | (rw [Bool.eq_iff_iff]; simp; done) | (simp_all; done) | (simp_all [inB]; done) | (simp_all [inB]; omega)) (fun h => by first | rfl | cases h | (simp at h; done) | (exfalso; simp_all; done) | (exfalso; simp_all; omega))
          · have hI2 := inB_of hI
            have s1 : IntKind.i64.wrap (n + 1) = n + 1 := IntWalk.i64_in _ (by omega)
            have s3 : IntKind.i64.wrap (p + c) = p + c := IntWalk.i64_in _ (by omega)
            go_wp2_with (go_at_call 55; refine (l00In_any _ _ _ _).mono ?_; rintro e w' ⟨rfl, rfl⟩)
            go_quiet (fail)
            go_wp2_with fail
            go_ret2
            exact evAns_of nq (by first | rfl | (simp; done) | (rw [Bool.eq_iff_iff]; simp; done) | (simp_all; done) | (simp_all [inB]; done) | (simp_all [inB]; omega)) (fun h => by first | rfl | cases h | (simp at h; done) | (exfalso; simp_all; done) | (exfalso; simp_all; omega))
      · have bb : (b == 1) = false := by simpa using hb
        cases Y
        · have s1 : IntKind.i64.wrap (n + 1) = n + 1 := IntWalk.i64_in _ (by omega)
          go_wp2
          go_quiet (fail)
          go_wp2_with fail
          go_ret2
          exact evAns_of nq (by first | rfl | (simp; done) | (rw [Bool.eq_iff_iff]; simp; done) | (simp_all; done) | (simp_all [inB]; done) | (simp_all [inB]; omega)) (fun h => by first | rfl | cases h | (simp at h; done) | (exfalso; simp_all; done) | (exfalso; simp_all; omega))
        · cases hI : inB c 1 4
          · have s1 : IntKind.i64.wrap (n + 1) = n + 1 := IntWalk.i64_in _ (by omega)
            go_wp2_with (go_at_call 55; refine (l00In_any _ _ _ _).mono ?_; rintro e w' ⟨rfl, rfl⟩)
            go_quiet (fail)
            go_wp2_with fail
            go_ret2
            exact evAns_of nq (by first | rfl | (simp; done) | (rw [Bool.eq_iff_iff]; simp; done) | (simp_all; done) | (simp_all [inB]; done) | (simp_all [inB]; omega)) (fun h => by first | rfl | cases h | (simp at h; done) | (exfalso; simp_all; done) | (exfalso; simp_all; omega))
          · have hI2 := inB_of hI
            have s1 : IntKind.i64.wrap (n + 1) = n + 1 := IntWalk.i64_in _ (by omega)
            have s3 : IntKind.i64.wrap (p + c) = p + c := IntWalk.i64_in _ (by omega)
            go_wp2_with (go_at_call 55; refine (l00In_any _ _ _ _).mono ?_; rintro e w' ⟨rfl, rfl⟩)
            go_quiet (fail)
            go_wp2_with fail
            go_ret2
            exact evAns_of nq (by first | rfl | (simp; done) | (rw [Bool.eq_iff_iff]; simp; done) | (simp_all; done) | (simp_all [inB]; done) | (simp_all [inB]; omega)) (fun h => by first | rfl | cases h | (simp at h; done) | (exfalso; simp_all; done) | (exfalso; simp_all; omega))

set_option maxHeartbeats 4000000 in
theorem l10Event0_any (k p c b y d n : Int) (g o : Nat) (w : World) (H : Hid (EvAt w g o k p c b y d)) (hn : 0 ≤ n ∧ n ≤ 1000000) (hp0 : ¬ p < 0) (hpn : ¬ n < p) (hk : ¬ k = 1 ∧ ¬ k = 2 ∧ ¬ k = 3 ∧ ¬ k = 4 ∧ ¬ k = 5) :
    Calls Try.prog 59 #[.pointer (some ⟨g, o, none⟩), .int .i64 n] w (EvAns (evV k p c b y d n) (evAfter k c n) w) := by
  have h0 := H.out.c0
  have h1 := H.out.c1
  have h2 := H.out.c2
  have h3 := H.out.c3
  have h4 := H.out.c4
  have h5 := H.out.c5
  have he : evV k p c b y d n = false := by
    unfold evV
    rw [if_neg hp0]
    rw [if_neg hk.1, if_neg hk.2.1, if_neg hk.2.2.1, if_neg hk.2.2.2.1, if_neg hk.2.2.2.2]
  rw [he]
  clear he
  obtain ⟨Y, hY⟩ : ∃ Y, yarnB b y d = Y := ⟨_, rfl⟩
  obtain ⟨N, hN⟩ : ∃ N, plainB b y d = N := ⟨_, rfl⟩
  have HY := Lib.hid hY
  have HN := Lib.hid hN
  clear hY hN
  go_enter Try.func59, Try.ntmps59
  go_upto_region 1 with fail
  go_cut [6] from 9 to 27 (fun s6 wx => s6 = .bool Y ∧ wx = w)
  case first =>
    go_wp2_with (first | (go_at_call 92; refine (l01Bed_any _ _).mono ?_; rintro e w' ⟨rfl, rfl⟩) | (go_at_call 93; refine (l07Yarn_any _ _).mono ?_; rintro e w' ⟨rfl, rfl⟩) | (go_at_call 94; refine (l07Dir_any _ _).mono ?_; rintro e w' ⟨rfl, rfl⟩))
    all_goals go_meet
    all_goals exact ⟨congrArg Value.bool (by rw [← HY.out]; simp_all [yarnB]), rfl⟩
  case rest =>
    obtain ⟨rfl, rfl⟩ := hcut
    go_upto_region 2 with fail
    go_cut [7] from 28 to 46 (fun s7 wx => s7 = .bool N ∧ wx = wc)
    case first =>
      go_wp2
      all_goals go_meet
      all_goals exact ⟨congrArg Value.bool (by rw [← HN.out]; simp_all [plainB]), rfl⟩
    case rest =>
      obtain ⟨rfl, rfl⟩ := hcut
      obtain ⟨k1, k2, k3, k4, k5⟩ := hk
      go_wp2
      go_ret2
      exact evAns_of 0 rfl (fun h => by cases h)
end Go.Proofs.Ytacppheedleamaa
