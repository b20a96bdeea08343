/- Walks: whether an operation is valid, by the reference, kind by kind. No condition. (Printed by wip/opsokgen.py.) -/
import Derived.Test.YtpmfkpehmckgmaaOpsOkSH
namespace Go.Proofs.Ytpmfkpehmckgmaa
open Go.RowKit Go.Sort
set_option maxRecDepth 20000

set_option maxHeartbeats 40000000 in
theorem l07Op7_any (d fb fa tb ta c r : Int) (g o : Nat) (w : World) (H : Hid (OpAt w g o 7 d fb fa tb ta c r)) :
    Calls Try.prog 80 #[.pointer (some ⟨g, o, none⟩)] w fun e w' => e = .returned (.bool (opB 7 d fb fa tb ta c r)) ∧ Below w.heap.size w w' := by
  have h0 := H.out.c0
  have hg := H.out.lt
  have hL := (Below.refl w.heap.size w).alloc (Nat.le_refl _) (.cells #[.int .i64 0, .int .i64 0] 37)
  have HL := Lib.hid hL
  have HW := Lib.hid (H.out.below hL)
  have k0 := HW.out.c0
  have k1 := HW.out.c1
  have k2 := HW.out.c2
  have k3 := HW.out.c3
  have k4 := HW.out.c4
  have k5 := HW.out.c5
  have k6 := HW.out.c6
  have k7 := HW.out.c7
  clear hL
  by_cases zd : d = 0
  · subst zd
    by_cases zfb : fb = 0
    · subst zfb
      by_cases zfa : fa = 0
      · subst zfa
        by_cases ztb : tb = 0
        · subst ztb
          by_cases zta : ta = 0
          · subst zta
            by_cases zc : c = 0
            · subst zc
              cases hRK : inB r (-3) 3
              · go_enter Try.func80, Try.ntmps80
                go_upto_region 14 with fail
                go_quiet (first | (go_at_call 104; exact Calls.quiet_of_same (l07Dir_q _ _)) | (go_at_call 48; exact Calls.quiet_of_same (l07Yarn_q _ _)) | (go_at_call 51; exact Calls.quiet_of_same (l00In_q2 _ _ _ _)))
                go_wp2_with fail
                go_ret
                exact ⟨congrArg (fun x => Ending.returned (.bool x)) (by simp_all [opB]), Below.drewN' HL.out _⟩
              · go_enter Try.func80, Try.ntmps80
                go_upto_region 14 with fail
                go_quiet (first | (go_at_call 104; exact Calls.quiet_of_same (l07Dir_q _ _)) | (go_at_call 48; exact Calls.quiet_of_same (l07Yarn_q _ _)) | (go_at_call 51; exact Calls.quiet_of_same (l00In_q2 _ _ _ _)))
                go_wp2_with fail
                go_ret
                exact ⟨congrArg (fun x => Ending.returned (.bool x)) (by simp_all [opB]), Below.drewN' HL.out _⟩
            · have yc : (c == 0) = false := by simpa using zc
              go_enter Try.func80, Try.ntmps80
              go_upto_region 14 with fail
              go_quiet (first | (go_at_call 104; exact Calls.quiet_of_same (l07Dir_q _ _)) | (go_at_call 48; exact Calls.quiet_of_same (l07Yarn_q _ _)) | (go_at_call 51; exact Calls.quiet_of_same (l00In_q2 _ _ _ _)))
              go_wp2_with fail
              go_ret
              exact ⟨congrArg (fun x => Ending.returned (.bool x)) (by simp_all [opB]), Below.drewN' HL.out _⟩
          · have yta : (ta == 0) = false := by simpa using zta
            go_enter Try.func80, Try.ntmps80
            go_upto_region 14 with fail
            go_quiet (first | (go_at_call 104; exact Calls.quiet_of_same (l07Dir_q _ _)) | (go_at_call 48; exact Calls.quiet_of_same (l07Yarn_q _ _)) | (go_at_call 51; exact Calls.quiet_of_same (l00In_q2 _ _ _ _)))
            go_wp2_with fail
            go_ret
            exact ⟨congrArg (fun x => Ending.returned (.bool x)) (by simp_all [opB]), Below.drewN' HL.out _⟩
        · have ytb : (tb == 0) = false := by simpa using ztb
          go_enter Try.func80, Try.ntmps80
          go_upto_region 14 with fail
          go_quiet (first | (go_at_call 104; exact Calls.quiet_of_same (l07Dir_q _ _)) | (go_at_call 48; exact Calls.quiet_of_same (l07Yarn_q _ _)) | (go_at_call 51; exact Calls.quiet_of_same (l00In_q2 _ _ _ _)))
          go_wp2_with fail
          go_ret
          exact ⟨congrArg (fun x => Ending.returned (.bool x)) (by simp_all [opB]), Below.drewN' HL.out _⟩
      · have yfa : (fa == 0) = false := by simpa using zfa
        go_enter Try.func80, Try.ntmps80
        go_upto_region 14 with fail
        go_quiet (first | (go_at_call 104; exact Calls.quiet_of_same (l07Dir_q _ _)) | (go_at_call 48; exact Calls.quiet_of_same (l07Yarn_q _ _)) | (go_at_call 51; exact Calls.quiet_of_same (l00In_q2 _ _ _ _)))
        go_wp2_with fail
        go_ret
        exact ⟨congrArg (fun x => Ending.returned (.bool x)) (by simp_all [opB]), Below.drewN' HL.out _⟩
    · have yfb : (fb == 0) = false := by simpa using zfb
      go_enter Try.func80, Try.ntmps80
      go_upto_region 14 with fail
      go_quiet (first | (go_at_call 104; exact Calls.quiet_of_same (l07Dir_q _ _)) | (go_at_call 48; exact Calls.quiet_of_same (l07Yarn_q _ _)) | (go_at_call 51; exact Calls.quiet_of_same (l00In_q2 _ _ _ _)))
      go_wp2_with fail
      go_ret
      exact ⟨congrArg (fun x => Ending.returned (.bool x)) (by simp_all [opB]), Below.drewN' HL.out _⟩
  · have yd : (d == 0) = false := by simpa using zd
    go_enter Try.func80, Try.ntmps80
    go_upto_region 14 with fail
    go_quiet (first | (go_at_call 104; exact Calls.quiet_of_same (l07Dir_q _ _)) | (go_at_call 48; exact Calls.quiet_of_same (l07Yarn_q _ _)) | (go_at_call 51; exact Calls.quiet_of_same (l00In_q2 _ _ _ _)))
    go_wp2_with fail
    go_ret
    exact ⟨congrArg (fun x => Ending.returned (.bool x)) (by simp_all [opB]), Below.drewN' HL.out _⟩
set_option maxHeartbeats 40000000 in
theorem l07Op8_any (d fb fa tb ta c r : Int) (g o : Nat) (w : World) (H : Hid (OpAt w g o 8 d fb fa tb ta c r)) :
    Calls Try.prog 80 #[.pointer (some ⟨g, o, none⟩)] w fun e w' => e = .returned (.bool (opB 8 d fb fa tb ta c r)) ∧ Below w.heap.size w w' := by
  have h0 := H.out.c0
  have hg := H.out.lt
  have hL := (Below.refl w.heap.size w).alloc (Nat.le_refl _) (.cells #[.int .i64 0, .int .i64 0] 37)
  have HL := Lib.hid hL
  have HW := Lib.hid (H.out.below hL)
  have k0 := HW.out.c0
  have k1 := HW.out.c1
  have k2 := HW.out.c2
  have k3 := HW.out.c3
  have k4 := HW.out.c4
  have k5 := HW.out.c5
  have k6 := HW.out.c6
  have k7 := HW.out.c7
  clear hL
  by_cases zfb : fb = 0
  · subst zfb
    by_cases zfa : fa = 0
    · subst zfa
      by_cases ztb : tb = 0
      · subst ztb
        by_cases zta : ta = 0
        · subst zta
          by_cases zr : r = 0
          · subst zr
            cases hD : dirB d
            · go_enter Try.func80, Try.ntmps80
              go_upto_region 16 with fail
              go_quiet (first | (go_at_call 104; exact Calls.quiet_of_same (l07Dir_q _ _)) | (go_at_call 48; exact Calls.quiet_of_same (l07Yarn_q _ _)) | (go_at_call 51; exact Calls.quiet_of_same (l00In_q2 _ _ _ _)))
              go_wp2_with fail
              go_ret
              exact ⟨congrArg (fun x => Ending.returned (.bool x)) (by simp_all [opB]), Below.drewN' HL.out _⟩
            · cases hY : inB c 1 4
              · go_enter Try.func80, Try.ntmps80
                go_upto_region 16 with fail
                go_quiet (first | (go_at_call 104; exact Calls.quiet_of_same (l07Dir_q _ _)) | (go_at_call 48; exact Calls.quiet_of_same (l07Yarn_q _ _)) | (go_at_call 51; exact Calls.quiet_of_same (l00In_q2 _ _ _ _)))
                go_wp2_with fail
                go_ret
                exact ⟨congrArg (fun x => Ending.returned (.bool x)) (by simp_all [opB]), Below.drewN' HL.out _⟩
              · go_enter Try.func80, Try.ntmps80
                go_upto_region 16 with fail
                go_quiet (first | (go_at_call 104; exact Calls.quiet_of_same (l07Dir_q _ _)) | (go_at_call 48; exact Calls.quiet_of_same (l07Yarn_q _ _)) | (go_at_call 51; exact Calls.quiet_of_same (l00In_q2 _ _ _ _)))
                go_wp2_with fail
                go_ret
                exact ⟨congrArg (fun x => Ending.returned (.bool x)) (by simp_all [opB]), Below.drewN' HL.out _⟩
          · have yr : (r == 0) = false := by simpa using zr
            go_enter Try.func80, Try.ntmps80
            go_upto_region 16 with fail
            go_quiet (first | (go_at_call 104; exact Calls.quiet_of_same (l07Dir_q _ _)) | (go_at_call 48; exact Calls.quiet_of_same (l07Yarn_q _ _)) | (go_at_call 51; exact Calls.quiet_of_same (l00In_q2 _ _ _ _)))
            go_wp2_with fail
            go_ret
            exact ⟨congrArg (fun x => Ending.returned (.bool x)) (by simp_all [opB]), Below.drewN' HL.out _⟩
        · have yta : (ta == 0) = false := by simpa using zta
          go_enter Try.func80, Try.ntmps80
          go_upto_region 16 with fail
          go_quiet (first | (go_at_call 104; exact Calls.quiet_of_same (l07Dir_q _ _)) | (go_at_call 48; exact Calls.quiet_of_same (l07Yarn_q _ _)) | (go_at_call 51; exact Calls.quiet_of_same (l00In_q2 _ _ _ _)))
          go_wp2_with fail
          go_ret
          exact ⟨congrArg (fun x => Ending.returned (.bool x)) (by simp_all [opB]), Below.drewN' HL.out _⟩
      · have ytb : (tb == 0) = false := by simpa using ztb
        go_enter Try.func80, Try.ntmps80
        go_upto_region 16 with fail
        go_quiet (first | (go_at_call 104; exact Calls.quiet_of_same (l07Dir_q _ _)) | (go_at_call 48; exact Calls.quiet_of_same (l07Yarn_q _ _)) | (go_at_call 51; exact Calls.quiet_of_same (l00In_q2 _ _ _ _)))
        go_wp2_with fail
        go_ret
        exact ⟨congrArg (fun x => Ending.returned (.bool x)) (by simp_all [opB]), Below.drewN' HL.out _⟩
    · have yfa : (fa == 0) = false := by simpa using zfa
      go_enter Try.func80, Try.ntmps80
      go_upto_region 16 with fail
      go_quiet (first | (go_at_call 104; exact Calls.quiet_of_same (l07Dir_q _ _)) | (go_at_call 48; exact Calls.quiet_of_same (l07Yarn_q _ _)) | (go_at_call 51; exact Calls.quiet_of_same (l00In_q2 _ _ _ _)))
      go_wp2_with fail
      go_ret
      exact ⟨congrArg (fun x => Ending.returned (.bool x)) (by simp_all [opB]), Below.drewN' HL.out _⟩
  · have yfb : (fb == 0) = false := by simpa using zfb
    go_enter Try.func80, Try.ntmps80
    go_upto_region 16 with fail
    go_quiet (first | (go_at_call 104; exact Calls.quiet_of_same (l07Dir_q _ _)) | (go_at_call 48; exact Calls.quiet_of_same (l07Yarn_q _ _)) | (go_at_call 51; exact Calls.quiet_of_same (l00In_q2 _ _ _ _)))
    go_wp2_with fail
    go_ret
    exact ⟨congrArg (fun x => Ending.returned (.bool x)) (by simp_all [opB]), Below.drewN' HL.out _⟩
set_option maxHeartbeats 40000000 in
theorem l07Op9_any (d fb fa tb ta c r : Int) (g o : Nat) (w : World) (H : Hid (OpAt w g o 9 d fb fa tb ta c r)) :
    Calls Try.prog 80 #[.pointer (some ⟨g, o, none⟩)] w fun e w' => e = .returned (.bool (opB 9 d fb fa tb ta c r)) ∧ Below w.heap.size w w' := by
  have h0 := H.out.c0
  have hg := H.out.lt
  have hL := (Below.refl w.heap.size w).alloc (Nat.le_refl _) (.cells #[.int .i64 0, .int .i64 0] 37)
  have HL := Lib.hid hL
  have HW := Lib.hid (H.out.below hL)
  have k0 := HW.out.c0
  have k1 := HW.out.c1
  have k2 := HW.out.c2
  have k3 := HW.out.c3
  have k4 := HW.out.c4
  have k5 := HW.out.c5
  have k6 := HW.out.c6
  have k7 := HW.out.c7
  clear hL
  by_cases zd : d = 0
  · subst zd
    by_cases zfb : fb = 0
    · subst zfb
      by_cases zfa : fa = 0
      · subst zfa
        by_cases ztb : tb = 0
        · subst ztb
          by_cases zta : ta = 0
          · subst zta
            by_cases zr : r = 0
            · subst zr
              cases hY : inB c 1 4
              · go_enter Try.func80, Try.ntmps80
                go_upto_region 18 with fail
                go_quiet (first | (go_at_call 104; exact Calls.quiet_of_same (l07Dir_q _ _)) | (go_at_call 48; exact Calls.quiet_of_same (l07Yarn_q _ _)) | (go_at_call 51; exact Calls.quiet_of_same (l00In_q2 _ _ _ _)))
                go_wp2_with fail
                go_ret
                exact ⟨congrArg (fun x => Ending.returned (.bool x)) (by simp_all [opB]), Below.drewN' HL.out _⟩
              · go_enter Try.func80, Try.ntmps80
                go_upto_region 18 with fail
                go_quiet (first | (go_at_call 104; exact Calls.quiet_of_same (l07Dir_q _ _)) | (go_at_call 48; exact Calls.quiet_of_same (l07Yarn_q _ _)) | (go_at_call 51; exact Calls.quiet_of_same (l00In_q2 _ _ _ _)))
                go_wp2_with fail
                go_ret
                exact ⟨congrArg (fun x => Ending.returned (.bool x)) (by simp_all [opB]), Below.drewN' HL.out _⟩
            · have yr : (r == 0) = false := by simpa using zr
              go_enter Try.func80, Try.ntmps80
              go_upto_region 18 with fail
              go_quiet (first | (go_at_call 104; exact Calls.quiet_of_same (l07Dir_q _ _)) | (go_at_call 48; exact Calls.quiet_of_same (l07Yarn_q _ _)) | (go_at_call 51; exact Calls.quiet_of_same (l00In_q2 _ _ _ _)))
              go_wp2_with fail
              go_ret
              exact ⟨congrArg (fun x => Ending.returned (.bool x)) (by simp_all [opB]), Below.drewN' HL.out _⟩
          · have yta : (ta == 0) = false := by simpa using zta
            go_enter Try.func80, Try.ntmps80
            go_upto_region 18 with fail
            go_quiet (first | (go_at_call 104; exact Calls.quiet_of_same (l07Dir_q _ _)) | (go_at_call 48; exact Calls.quiet_of_same (l07Yarn_q _ _)) | (go_at_call 51; exact Calls.quiet_of_same (l00In_q2 _ _ _ _)))
            go_wp2_with fail
            go_ret
            exact ⟨congrArg (fun x => Ending.returned (.bool x)) (by simp_all [opB]), Below.drewN' HL.out _⟩
        · have ytb : (tb == 0) = false := by simpa using ztb
          go_enter Try.func80, Try.ntmps80
          go_upto_region 18 with fail
          go_quiet (first | (go_at_call 104; exact Calls.quiet_of_same (l07Dir_q _ _)) | (go_at_call 48; exact Calls.quiet_of_same (l07Yarn_q _ _)) | (go_at_call 51; exact Calls.quiet_of_same (l00In_q2 _ _ _ _)))
          go_wp2_with fail
          go_ret
          exact ⟨congrArg (fun x => Ending.returned (.bool x)) (by simp_all [opB]), Below.drewN' HL.out _⟩
      · have yfa : (fa == 0) = false := by simpa using zfa
        go_enter Try.func80, Try.ntmps80
        go_upto_region 18 with fail
        go_quiet (first | (go_at_call 104; exact Calls.quiet_of_same (l07Dir_q _ _)) | (go_at_call 48; exact Calls.quiet_of_same (l07Yarn_q _ _)) | (go_at_call 51; exact Calls.quiet_of_same (l00In_q2 _ _ _ _)))
        go_wp2_with fail
        go_ret
        exact ⟨congrArg (fun x => Ending.returned (.bool x)) (by simp_all [opB]), Below.drewN' HL.out _⟩
    · have yfb : (fb == 0) = false := by simpa using zfb
      go_enter Try.func80, Try.ntmps80
      go_upto_region 18 with fail
      go_quiet (first | (go_at_call 104; exact Calls.quiet_of_same (l07Dir_q _ _)) | (go_at_call 48; exact Calls.quiet_of_same (l07Yarn_q _ _)) | (go_at_call 51; exact Calls.quiet_of_same (l00In_q2 _ _ _ _)))
      go_wp2_with fail
      go_ret
      exact ⟨congrArg (fun x => Ending.returned (.bool x)) (by simp_all [opB]), Below.drewN' HL.out _⟩
  · have yd : (d == 0) = false := by simpa using zd
    go_enter Try.func80, Try.ntmps80
    go_upto_region 18 with fail
    go_quiet (first | (go_at_call 104; exact Calls.quiet_of_same (l07Dir_q _ _)) | (go_at_call 48; exact Calls.quiet_of_same (l07Yarn_q _ _)) | (go_at_call 51; exact Calls.quiet_of_same (l00In_q2 _ _ _ _)))
    go_wp2_with fail
    go_ret
    exact ⟨congrArg (fun x => Ending.returned (.bool x)) (by simp_all [opB]), Below.drewN' HL.out _⟩
end Go.Proofs.Ytpmfkpehmckgmaa
