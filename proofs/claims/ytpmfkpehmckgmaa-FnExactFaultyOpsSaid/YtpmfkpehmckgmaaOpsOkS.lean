/- Walks: whether an operation is valid, by the reference, kind by kind. No condition. (Printed by wip/opsokgen.py.) Walks: whether an operation is valid, by the reference, kind by kind. No condition. (Printed by wip/opsokgen.py.) Walks: whether an operation is valid, by the reference, kind by kind. No condition. (Printed by wip/opsokgen.py.) Walks: whether an operation is valid, by the reference, kind by kind. No condition. (Printed by wip/opsokgen.py.) Walks: whether an operation is valid, by the reference, kind by kind. No condition. (Printed by wip/opsokgen.py.) -/
import Derived.Test.YtpmfkpehmckgmaaOpsOkSH
namespace Go.Proofs.Ytpmfkpehmckgmaa
open Go.RowKit Go.Sort
set_option maxRecDepth 20000

set_option maxHeartbeats 40000000 in
theorem l07Op1_any (d fb fa tb ta c r : Int) (g o : Nat) (w : World) (H : Hid (OpAt w g o 1 d fb fa tb ta c r)) :
    Calls Try.prog 80 #[.pointer (some ⟨g, o, none⟩)] w fun e w' => e = .returned (.bool (opB 1 d fb fa tb ta c r)) ∧ Below w.heap.size w w' := by
  have hm : Try.prog.follows .mixedOrders = true := by kernel_rfl
  have h0 := H.out.c0
  have hg := H.out.lt
  have hL := (Below.refl w.heap.size w).alloc (Nat.le_refl _) (.cells #[.int .i64 0, .int .i64 0] 37)
  have HL := Lib.hid hL
  have HW := Lib.hid (H.out.below hL)
  have N0 := box_new w #[.int .i64 0, .int .i64 0] 37
  have k0 := cell_grown HW.out.lt HW.out.c0
  have k1 := cell_grown HW.out.lt HW.out.c1
  have k2 := cell_grown HW.out.lt HW.out.c2
  have k4 := cell_grown HW.out.lt HW.out.c4
  have k6 := cell_grown HW.out.lt HW.out.c6
  have k7 := cell_grown HW.out.lt HW.out.c7
  have k3 := cell_grown (a := ⟨g, o + 2 + 1, none⟩) HW.out.lt HW.out.c3
  have k5 := cell_grown (a := ⟨g, o + 4 + 1, none⟩) HW.out.lt HW.out.c5
  have k8 : ∀ n os, (grow ((w.alloc (.cells #[.int .i64 0, .int .i64 0] 37)).drewN n) os).cell? ⟨w.heap.size, 0, none⟩ = some (.int .i64 0) := cell_grown (by simp) (N0 0)
  have k9 : ∀ n os, (grow ((w.alloc (.cells #[.int .i64 0, .int .i64 0] 37)).drewN n) os).cell? ⟨w.heap.size, 1, none⟩ = some (.int .i64 0) := cell_grown (by simp) (N0 1)
  clear hL N0
  go_enter Try.func80, Try.ntmps80
  go_upto_region 6 with fail
  refine wp_region_quiet_grown hm (by kernel_rfl) ?_
  repeat (
    with_reducible refine wpQuiet_step (fun K hK => ?_)
    go_simp
    first
      | (with_reducible refine hK _ ?_; clear hK K)
      | (apply Exists.intro
         refine ⟨fun _ => ?_, hK _ ?_⟩
         (first | (go_at_call 104; exact Calls.grown_of (l07Dir_g _ _ _ _)) | (go_at_call 48; exact Calls.grown_of (l07Yarn_g _ _ _ _)) | (go_at_call 51; exact Calls.grown_of (l00In_g _ _ _ _ _ _)) | (go_at_call 105; exact Calls.grown_of (l01Needle_g _ _ _ _ _)))
         clear hK K))
  cases hD : dirB d
  · repeat (
      with_reducible refine wpQuiet_step (fun K hK => ?_)
      go_simp
      first
        | (with_reducible refine hK _ ?_; clear hK K)
        | (apply Exists.intro
           refine ⟨fun _ => ?_, hK _ ?_⟩
           (first | (go_at_call 104; exact Calls.grown_of (l07Dir_g _ _ _ _)) | (go_at_call 48; exact Calls.grown_of (l07Yarn_g _ _ _ _)) | (go_at_call 51; exact Calls.grown_of (l00In_g _ _ _ _ _ _)) | (go_at_call 105; exact Calls.grown_of (l01Needle_g _ _ _ _ _)))
           clear hK K))
    with_reducible refine wpQuiet_nil ?_
    intro _ hw'
    obtain ⟨⟨nq, osq⟩, hw''⟩ := hw'
    subst hw''
    go_wp2_with fail
    go_ret
    exact ⟨congrArg (fun x => Ending.returned (.bool x)) (by simp_all [opB]), below_grown HL.out (by simp) _ _⟩
  · repeat (
      with_reducible refine wpQuiet_step (fun K hK => ?_)
      go_simp
      first
        | (with_reducible refine hK _ ?_; clear hK K)
        | (apply Exists.intro
           refine ⟨fun _ => ?_, hK _ ?_⟩
           (first | (go_at_call 104; exact Calls.grown_of (l07Dir_g _ _ _ _)) | (go_at_call 48; exact Calls.grown_of (l07Yarn_g _ _ _ _)) | (go_at_call 51; exact Calls.grown_of (l00In_g _ _ _ _ _ _)) | (go_at_call 105; exact Calls.grown_of (l01Needle_g _ _ _ _ _)))
           clear hK K))
    cases hF : ndB fb fa
    · repeat (
        with_reducible refine wpQuiet_step (fun K hK => ?_)
        go_simp
        first
          | (with_reducible refine hK _ ?_; clear hK K)
          | (apply Exists.intro
             refine ⟨fun _ => ?_, hK _ ?_⟩
             (first | (go_at_call 104; exact Calls.grown_of (l07Dir_g _ _ _ _)) | (go_at_call 48; exact Calls.grown_of (l07Yarn_g _ _ _ _)) | (go_at_call 51; exact Calls.grown_of (l00In_g _ _ _ _ _ _)) | (go_at_call 105; exact Calls.grown_of (l01Needle_g _ _ _ _ _)))
             clear hK K))
      with_reducible refine wpQuiet_nil ?_
      intro _ hw'
      obtain ⟨⟨nq, osq⟩, hw''⟩ := hw'
      subst hw''
      go_wp2_with fail
      go_ret
      exact ⟨congrArg (fun x => Ending.returned (.bool x)) (by simp_all [opB]), below_grown HL.out (by simp) _ _⟩
    · repeat (
        with_reducible refine wpQuiet_step (fun K hK => ?_)
        go_simp
        first
          | (with_reducible refine hK _ ?_; clear hK K)
          | (apply Exists.intro
             refine ⟨fun _ => ?_, hK _ ?_⟩
             (first | (go_at_call 104; exact Calls.grown_of (l07Dir_g _ _ _ _)) | (go_at_call 48; exact Calls.grown_of (l07Yarn_g _ _ _ _)) | (go_at_call 51; exact Calls.grown_of (l00In_g _ _ _ _ _ _)) | (go_at_call 105; exact Calls.grown_of (l01Needle_g _ _ _ _ _)))
             clear hK K))
      by_cases ztb : tb = 0
      · subst ztb
        by_cases zta : ta = 0
        · subst zta
          repeat (
            with_reducible refine wpQuiet_step (fun K hK => ?_)
            go_simp
            first
              | (with_reducible refine hK _ ?_; clear hK K)
              | (apply Exists.intro
                 refine ⟨fun _ => ?_, hK _ ?_⟩
                 (first | (go_at_call 104; exact Calls.grown_of (l07Dir_g _ _ _ _)) | (go_at_call 48; exact Calls.grown_of (l07Yarn_g _ _ _ _)) | (go_at_call 51; exact Calls.grown_of (l00In_g _ _ _ _ _ _)) | (go_at_call 105; exact Calls.grown_of (l01Needle_g _ _ _ _ _)))
                 clear hK K))
          cases hY : inB c 1 4
          · repeat (
              with_reducible refine wpQuiet_step (fun K hK => ?_)
              go_simp
              first
                | (with_reducible refine hK _ ?_; clear hK K)
                | (apply Exists.intro
                   refine ⟨fun _ => ?_, hK _ ?_⟩
                   (first | (go_at_call 104; exact Calls.grown_of (l07Dir_g _ _ _ _)) | (go_at_call 48; exact Calls.grown_of (l07Yarn_g _ _ _ _)) | (go_at_call 51; exact Calls.grown_of (l00In_g _ _ _ _ _ _)) | (go_at_call 105; exact Calls.grown_of (l01Needle_g _ _ _ _ _)))
                   clear hK K))
            with_reducible refine wpQuiet_nil ?_
            intro _ hw'
            obtain ⟨⟨nq, osq⟩, hw''⟩ := hw'
            subst hw''
            go_wp2_with fail
            go_ret
            exact ⟨congrArg (fun x => Ending.returned (.bool x)) (by simp_all [opB]), below_grown HL.out (by simp) _ _⟩
          · repeat (
              with_reducible refine wpQuiet_step (fun K hK => ?_)
              go_simp
              first
                | (with_reducible refine hK _ ?_; clear hK K)
                | (apply Exists.intro
                   refine ⟨fun _ => ?_, hK _ ?_⟩
                   (first | (go_at_call 104; exact Calls.grown_of (l07Dir_g _ _ _ _)) | (go_at_call 48; exact Calls.grown_of (l07Yarn_g _ _ _ _)) | (go_at_call 51; exact Calls.grown_of (l00In_g _ _ _ _ _ _)) | (go_at_call 105; exact Calls.grown_of (l01Needle_g _ _ _ _ _)))
                   clear hK K))
            with_reducible refine wpQuiet_nil ?_
            intro _ hw'
            obtain ⟨⟨nq, osq⟩, hw''⟩ := hw'
            subst hw''
            go_wp2_with fail
            go_ret
            exact ⟨congrArg (fun x => Ending.returned (.bool x)) (by simp_all [opB]), below_grown HL.out (by simp) _ _⟩
        · have yta : (ta == 0) = false := by simpa using zta
          repeat (
            with_reducible refine wpQuiet_step (fun K hK => ?_)
            go_simp
            first
              | (with_reducible refine hK _ ?_; clear hK K)
              | (apply Exists.intro
                 refine ⟨fun _ => ?_, hK _ ?_⟩
                 (first | (go_at_call 104; exact Calls.grown_of (l07Dir_g _ _ _ _)) | (go_at_call 48; exact Calls.grown_of (l07Yarn_g _ _ _ _)) | (go_at_call 51; exact Calls.grown_of (l00In_g _ _ _ _ _ _)) | (go_at_call 105; exact Calls.grown_of (l01Needle_g _ _ _ _ _)))
                 clear hK K))
          with_reducible refine wpQuiet_nil ?_
          intro _ hw'
          obtain ⟨⟨nq, osq⟩, hw''⟩ := hw'
          subst hw''
          go_wp2_with fail
          go_ret
          exact ⟨congrArg (fun x => Ending.returned (.bool x)) (by simp_all [opB]), below_grown HL.out (by simp) _ _⟩
      · have ytb : (tb == 0) = false := by simpa using ztb
        repeat (
          with_reducible refine wpQuiet_step (fun K hK => ?_)
          go_simp
          first
            | (with_reducible refine hK _ ?_; clear hK K)
            | (apply Exists.intro
               refine ⟨fun _ => ?_, hK _ ?_⟩
               (first | (go_at_call 104; exact Calls.grown_of (l07Dir_g _ _ _ _)) | (go_at_call 48; exact Calls.grown_of (l07Yarn_g _ _ _ _)) | (go_at_call 51; exact Calls.grown_of (l00In_g _ _ _ _ _ _)) | (go_at_call 105; exact Calls.grown_of (l01Needle_g _ _ _ _ _)))
               clear hK K))
        with_reducible refine wpQuiet_nil ?_
        intro _ hw'
        obtain ⟨⟨nq, osq⟩, hw''⟩ := hw'
        subst hw''
        go_wp2_with fail
        go_ret
        exact ⟨congrArg (fun x => Ending.returned (.bool x)) (by simp_all [opB]), below_grown HL.out (by simp) _ _⟩
end Go.Proofs.Ytpmfkpehmckgmaa

namespace Go.Proofs.Ytpmfkpehmckgmaa
open Go.RowKit Go.Sort
set_option maxRecDepth 20000

set_option maxHeartbeats 40000000 in
theorem l07Op2_any (d fb fa tb ta c r : Int) (g o : Nat) (w : World) (H : Hid (OpAt w g o 2 d fb fa tb ta c r)) :
    Calls Try.prog 80 #[.pointer (some ⟨g, o, none⟩)] w fun e w' => e = .returned (.bool (opB 2 d fb fa tb ta c r)) ∧ Below w.heap.size w w' := by
  have hm : Try.prog.follows .mixedOrders = true := by kernel_rfl
  have h0 := H.out.c0
  have hg := H.out.lt
  have hL := (Below.refl w.heap.size w).alloc (Nat.le_refl _) (.cells #[.int .i64 0, .int .i64 0] 37)
  have HL := Lib.hid hL
  have HW := Lib.hid (H.out.below hL)
  have N0 := box_new w #[.int .i64 0, .int .i64 0] 37
  have k0 := cell_grown HW.out.lt HW.out.c0
  have k1 := cell_grown HW.out.lt HW.out.c1
  have k2 := cell_grown HW.out.lt HW.out.c2
  have k4 := cell_grown HW.out.lt HW.out.c4
  have k6 := cell_grown HW.out.lt HW.out.c6
  have k7 := cell_grown HW.out.lt HW.out.c7
  have k3 := cell_grown (a := ⟨g, o + 2 + 1, none⟩) HW.out.lt HW.out.c3
  have k5 := cell_grown (a := ⟨g, o + 4 + 1, none⟩) HW.out.lt HW.out.c5
  have k8 : ∀ n os, (grow ((w.alloc (.cells #[.int .i64 0, .int .i64 0] 37)).drewN n) os).cell? ⟨w.heap.size, 0, none⟩ = some (.int .i64 0) := cell_grown (by simp) (N0 0)
  have k9 : ∀ n os, (grow ((w.alloc (.cells #[.int .i64 0, .int .i64 0] 37)).drewN n) os).cell? ⟨w.heap.size, 1, none⟩ = some (.int .i64 0) := cell_grown (by simp) (N0 1)
  clear hL N0
  go_enter Try.func80, Try.ntmps80
  go_upto_region 6 with fail
  refine wp_region_quiet_grown hm (by kernel_rfl) ?_
  repeat (
    with_reducible refine wpQuiet_step (fun K hK => ?_)
    go_simp
    first
      | (with_reducible refine hK _ ?_; clear hK K)
      | (apply Exists.intro
         refine ⟨fun _ => ?_, hK _ ?_⟩
         (first | (go_at_call 104; exact Calls.grown_of (l07Dir_g _ _ _ _)) | (go_at_call 48; exact Calls.grown_of (l07Yarn_g _ _ _ _)) | (go_at_call 51; exact Calls.grown_of (l00In_g _ _ _ _ _ _)) | (go_at_call 105; exact Calls.grown_of (l01Needle_g _ _ _ _ _)))
         clear hK K))
  cases hD : dirB d
  · repeat (
      with_reducible refine wpQuiet_step (fun K hK => ?_)
      go_simp
      first
        | (with_reducible refine hK _ ?_; clear hK K)
        | (apply Exists.intro
           refine ⟨fun _ => ?_, hK _ ?_⟩
           (first | (go_at_call 104; exact Calls.grown_of (l07Dir_g _ _ _ _)) | (go_at_call 48; exact Calls.grown_of (l07Yarn_g _ _ _ _)) | (go_at_call 51; exact Calls.grown_of (l00In_g _ _ _ _ _ _)) | (go_at_call 105; exact Calls.grown_of (l01Needle_g _ _ _ _ _)))
           clear hK K))
    with_reducible refine wpQuiet_nil ?_
    intro _ hw'
    obtain ⟨⟨nq, osq⟩, hw''⟩ := hw'
    subst hw''
    go_wp2_with fail
    go_ret
    exact ⟨congrArg (fun x => Ending.returned (.bool x)) (by simp_all [opB]), below_grown HL.out (by simp) _ _⟩
  · repeat (
      with_reducible refine wpQuiet_step (fun K hK => ?_)
      go_simp
      first
        | (with_reducible refine hK _ ?_; clear hK K)
        | (apply Exists.intro
           refine ⟨fun _ => ?_, hK _ ?_⟩
           (first | (go_at_call 104; exact Calls.grown_of (l07Dir_g _ _ _ _)) | (go_at_call 48; exact Calls.grown_of (l07Yarn_g _ _ _ _)) | (go_at_call 51; exact Calls.grown_of (l00In_g _ _ _ _ _ _)) | (go_at_call 105; exact Calls.grown_of (l01Needle_g _ _ _ _ _)))
           clear hK K))
    cases hF : ndB fb fa
    · repeat (
        with_reducible refine wpQuiet_step (fun K hK => ?_)
        go_simp
        first
          | (with_reducible refine hK _ ?_; clear hK K)
          | (apply Exists.intro
             refine ⟨fun _ => ?_, hK _ ?_⟩
             (first | (go_at_call 104; exact Calls.grown_of (l07Dir_g _ _ _ _)) | (go_at_call 48; exact Calls.grown_of (l07Yarn_g _ _ _ _)) | (go_at_call 51; exact Calls.grown_of (l00In_g _ _ _ _ _ _)) | (go_at_call 105; exact Calls.grown_of (l01Needle_g _ _ _ _ _)))
             clear hK K))
      with_reducible refine wpQuiet_nil ?_
      intro _ hw'
      obtain ⟨⟨nq, osq⟩, hw''⟩ := hw'
      subst hw''
      go_wp2_with fail
      go_ret
      exact ⟨congrArg (fun x => Ending.returned (.bool x)) (by simp_all [opB]), below_grown HL.out (by simp) _ _⟩
    · repeat (
        with_reducible refine wpQuiet_step (fun K hK => ?_)
        go_simp
        first
          | (with_reducible refine hK _ ?_; clear hK K)
          | (apply Exists.intro
             refine ⟨fun _ => ?_, hK _ ?_⟩
             (first | (go_at_call 104; exact Calls.grown_of (l07Dir_g _ _ _ _)) | (go_at_call 48; exact Calls.grown_of (l07Yarn_g _ _ _ _)) | (go_at_call 51; exact Calls.grown_of (l00In_g _ _ _ _ _ _)) | (go_at_call 105; exact Calls.grown_of (l01Needle_g _ _ _ _ _)))
             clear hK K))
      by_cases ztb : tb = 0
      · subst ztb
        by_cases zta : ta = 0
        · subst zta
          repeat (
            with_reducible refine wpQuiet_step (fun K hK => ?_)
            go_simp
            first
              | (with_reducible refine hK _ ?_; clear hK K)
              | (apply Exists.intro
                 refine ⟨fun _ => ?_, hK _ ?_⟩
                 (first | (go_at_call 104; exact Calls.grown_of (l07Dir_g _ _ _ _)) | (go_at_call 48; exact Calls.grown_of (l07Yarn_g _ _ _ _)) | (go_at_call 51; exact Calls.grown_of (l00In_g _ _ _ _ _ _)) | (go_at_call 105; exact Calls.grown_of (l01Needle_g _ _ _ _ _)))
                 clear hK K))
          cases hY : inB c 1 4
          · repeat (
              with_reducible refine wpQuiet_step (fun K hK => ?_)
              go_simp
              first
                | (with_reducible refine hK _ ?_; clear hK K)
                | (apply Exists.intro
                   refine ⟨fun _ => ?_, hK _ ?_⟩
                   (first | (go_at_call 104; exact Calls.grown_of (l07Dir_g _ _ _ _)) | (go_at_call 48; exact Calls.grown_of (l07Yarn_g _ _ _ _)) | (go_at_call 51; exact Calls.grown_of (l00In_g _ _ _ _ _ _)) | (go_at_call 105; exact Calls.grown_of (l01Needle_g _ _ _ _ _)))
                   clear hK K))
            with_reducible refine wpQuiet_nil ?_
            intro _ hw'
            obtain ⟨⟨nq, osq⟩, hw''⟩ := hw'
            subst hw''
            go_wp2_with fail
            go_ret
            exact ⟨congrArg (fun x => Ending.returned (.bool x)) (by simp_all [opB]), below_grown HL.out (by simp) _ _⟩
          · repeat (
              with_reducible refine wpQuiet_step (fun K hK => ?_)
              go_simp
              first
                | (with_reducible refine hK _ ?_; clear hK K)
                | (apply Exists.intro
                   refine ⟨fun _ => ?_, hK _ ?_⟩
                   (first | (go_at_call 104; exact Calls.grown_of (l07Dir_g _ _ _ _)) | (go_at_call 48; exact Calls.grown_of (l07Yarn_g _ _ _ _)) | (go_at_call 51; exact Calls.grown_of (l00In_g _ _ _ _ _ _)) | (go_at_call 105; exact Calls.grown_of (l01Needle_g _ _ _ _ _)))
                   clear hK K))
            with_reducible refine wpQuiet_nil ?_
            intro _ hw'
            obtain ⟨⟨nq, osq⟩, hw''⟩ := hw'
            subst hw''
            go_wp2_with fail
            go_ret
            exact ⟨congrArg (fun x => Ending.returned (.bool x)) (by simp_all [opB]), below_grown HL.out (by simp) _ _⟩
        · have yta : (ta == 0) = false := by simpa using zta
          repeat (
            with_reducible refine wpQuiet_step (fun K hK => ?_)
            go_simp
            first
              | (with_reducible refine hK _ ?_; clear hK K)
              | (apply Exists.intro
                 refine ⟨fun _ => ?_, hK _ ?_⟩
                 (first | (go_at_call 104; exact Calls.grown_of (l07Dir_g _ _ _ _)) | (go_at_call 48; exact Calls.grown_of (l07Yarn_g _ _ _ _)) | (go_at_call 51; exact Calls.grown_of (l00In_g _ _ _ _ _ _)) | (go_at_call 105; exact Calls.grown_of (l01Needle_g _ _ _ _ _)))
                 clear hK K))
          with_reducible refine wpQuiet_nil ?_
          intro _ hw'
          obtain ⟨⟨nq, osq⟩, hw''⟩ := hw'
          subst hw''
          go_wp2_with fail
          go_ret
          exact ⟨congrArg (fun x => Ending.returned (.bool x)) (by simp_all [opB]), below_grown HL.out (by simp) _ _⟩
      · have ytb : (tb == 0) = false := by simpa using ztb
        repeat (
          with_reducible refine wpQuiet_step (fun K hK => ?_)
          go_simp
          first
            | (with_reducible refine hK _ ?_; clear hK K)
            | (apply Exists.intro
               refine ⟨fun _ => ?_, hK _ ?_⟩
               (first | (go_at_call 104; exact Calls.grown_of (l07Dir_g _ _ _ _)) | (go_at_call 48; exact Calls.grown_of (l07Yarn_g _ _ _ _)) | (go_at_call 51; exact Calls.grown_of (l00In_g _ _ _ _ _ _)) | (go_at_call 105; exact Calls.grown_of (l01Needle_g _ _ _ _ _)))
               clear hK K))
        with_reducible refine wpQuiet_nil ?_
        intro _ hw'
        obtain ⟨⟨nq, osq⟩, hw''⟩ := hw'
        subst hw''
        go_wp2_with fail
        go_ret
        exact ⟨congrArg (fun x => Ending.returned (.bool x)) (by simp_all [opB]), below_grown HL.out (by simp) _ _⟩
set_option maxHeartbeats 40000000 in
theorem l07Op3_any (d fb fa tb ta c r : Int) (g o : Nat) (w : World) (H : Hid (OpAt w g o 3 d fb fa tb ta c r)) :
    Calls Try.prog 80 #[.pointer (some ⟨g, o, none⟩)] w fun e w' => e = .returned (.bool (opB 3 d fb fa tb ta c r)) ∧ Below w.heap.size w w' := by
  have hm : Try.prog.follows .mixedOrders = true := by kernel_rfl
  have h0 := H.out.c0
  have hg := H.out.lt
  have hL := (Below.refl w.heap.size w).alloc (Nat.le_refl _) (.cells #[.int .i64 0, .int .i64 0] 37)
  have HL := Lib.hid hL
  have HW := Lib.hid (H.out.below hL)
  have N0 := box_new w #[.int .i64 0, .int .i64 0] 37
  have k0 := cell_grown HW.out.lt HW.out.c0
  have k1 := cell_grown HW.out.lt HW.out.c1
  have k2 := cell_grown HW.out.lt HW.out.c2
  have k4 := cell_grown HW.out.lt HW.out.c4
  have k6 := cell_grown HW.out.lt HW.out.c6
  have k7 := cell_grown HW.out.lt HW.out.c7
  have k3 := cell_grown (a := ⟨g, o + 2 + 1, none⟩) HW.out.lt HW.out.c3
  have k5 := cell_grown (a := ⟨g, o + 4 + 1, none⟩) HW.out.lt HW.out.c5
  have k8 : ∀ n os, (grow ((w.alloc (.cells #[.int .i64 0, .int .i64 0] 37)).drewN n) os).cell? ⟨w.heap.size, 0, none⟩ = some (.int .i64 0) := cell_grown (by simp) (N0 0)
  have k9 : ∀ n os, (grow ((w.alloc (.cells #[.int .i64 0, .int .i64 0] 37)).drewN n) os).cell? ⟨w.heap.size, 1, none⟩ = some (.int .i64 0) := cell_grown (by simp) (N0 1)
  clear hL N0
  go_enter Try.func80, Try.ntmps80
  go_upto_region 6 with fail
  refine wp_region_quiet_grown hm (by kernel_rfl) ?_
  repeat (
    with_reducible refine wpQuiet_step (fun K hK => ?_)
    go_simp
    first
      | (with_reducible refine hK _ ?_; clear hK K)
      | (apply Exists.intro
         refine ⟨fun _ => ?_, hK _ ?_⟩
         (first | (go_at_call 104; exact Calls.grown_of (l07Dir_g _ _ _ _)) | (go_at_call 48; exact Calls.grown_of (l07Yarn_g _ _ _ _)) | (go_at_call 51; exact Calls.grown_of (l00In_g _ _ _ _ _ _)) | (go_at_call 105; exact Calls.grown_of (l01Needle_g _ _ _ _ _)))
         clear hK K))
  cases hD : dirB d
  · repeat (
      with_reducible refine wpQuiet_step (fun K hK => ?_)
      go_simp
      first
        | (with_reducible refine hK _ ?_; clear hK K)
        | (apply Exists.intro
           refine ⟨fun _ => ?_, hK _ ?_⟩
           (first | (go_at_call 104; exact Calls.grown_of (l07Dir_g _ _ _ _)) | (go_at_call 48; exact Calls.grown_of (l07Yarn_g _ _ _ _)) | (go_at_call 51; exact Calls.grown_of (l00In_g _ _ _ _ _ _)) | (go_at_call 105; exact Calls.grown_of (l01Needle_g _ _ _ _ _)))
           clear hK K))
    with_reducible refine wpQuiet_nil ?_
    intro _ hw'
    obtain ⟨⟨nq, osq⟩, hw''⟩ := hw'
    subst hw''
    go_wp2_with fail
    go_ret
    exact ⟨congrArg (fun x => Ending.returned (.bool x)) (by simp_all [opB]), below_grown HL.out (by simp) _ _⟩
  · repeat (
      with_reducible refine wpQuiet_step (fun K hK => ?_)
      go_simp
      first
        | (with_reducible refine hK _ ?_; clear hK K)
        | (apply Exists.intro
           refine ⟨fun _ => ?_, hK _ ?_⟩
           (first | (go_at_call 104; exact Calls.grown_of (l07Dir_g _ _ _ _)) | (go_at_call 48; exact Calls.grown_of (l07Yarn_g _ _ _ _)) | (go_at_call 51; exact Calls.grown_of (l00In_g _ _ _ _ _ _)) | (go_at_call 105; exact Calls.grown_of (l01Needle_g _ _ _ _ _)))
           clear hK K))
    cases hF : ndB fb fa
    · repeat (
        with_reducible refine wpQuiet_step (fun K hK => ?_)
        go_simp
        first
          | (with_reducible refine hK _ ?_; clear hK K)
          | (apply Exists.intro
             refine ⟨fun _ => ?_, hK _ ?_⟩
             (first | (go_at_call 104; exact Calls.grown_of (l07Dir_g _ _ _ _)) | (go_at_call 48; exact Calls.grown_of (l07Yarn_g _ _ _ _)) | (go_at_call 51; exact Calls.grown_of (l00In_g _ _ _ _ _ _)) | (go_at_call 105; exact Calls.grown_of (l01Needle_g _ _ _ _ _)))
             clear hK K))
      with_reducible refine wpQuiet_nil ?_
      intro _ hw'
      obtain ⟨⟨nq, osq⟩, hw''⟩ := hw'
      subst hw''
      go_wp2_with fail
      go_ret
      exact ⟨congrArg (fun x => Ending.returned (.bool x)) (by simp_all [opB]), below_grown HL.out (by simp) _ _⟩
    · repeat (
        with_reducible refine wpQuiet_step (fun K hK => ?_)
        go_simp
        first
          | (with_reducible refine hK _ ?_; clear hK K)
          | (apply Exists.intro
             refine ⟨fun _ => ?_, hK _ ?_⟩
             (first | (go_at_call 104; exact Calls.grown_of (l07Dir_g _ _ _ _)) | (go_at_call 48; exact Calls.grown_of (l07Yarn_g _ _ _ _)) | (go_at_call 51; exact Calls.grown_of (l00In_g _ _ _ _ _ _)) | (go_at_call 105; exact Calls.grown_of (l01Needle_g _ _ _ _ _)))
             clear hK K))
      by_cases ztb : tb = 0
      · subst ztb
        by_cases zta : ta = 0
        · subst zta
          repeat (
            with_reducible refine wpQuiet_step (fun K hK => ?_)
            go_simp
            first
              | (with_reducible refine hK _ ?_; clear hK K)
              | (apply Exists.intro
                 refine ⟨fun _ => ?_, hK _ ?_⟩
                 (first | (go_at_call 104; exact Calls.grown_of (l07Dir_g _ _ _ _)) | (go_at_call 48; exact Calls.grown_of (l07Yarn_g _ _ _ _)) | (go_at_call 51; exact Calls.grown_of (l00In_g _ _ _ _ _ _)) | (go_at_call 105; exact Calls.grown_of (l01Needle_g _ _ _ _ _)))
                 clear hK K))
          cases hY : inB c 1 4
          · repeat (
              with_reducible refine wpQuiet_step (fun K hK => ?_)
              go_simp
              first
                | (with_reducible refine hK _ ?_; clear hK K)
                | (apply Exists.intro
                   refine ⟨fun _ => ?_, hK _ ?_⟩
                   (first | (go_at_call 104; exact Calls.grown_of (l07Dir_g _ _ _ _)) | (go_at_call 48; exact Calls.grown_of (l07Yarn_g _ _ _ _)) | (go_at_call 51; exact Calls.grown_of (l00In_g _ _ _ _ _ _)) | (go_at_call 105; exact Calls.grown_of (l01Needle_g _ _ _ _ _)))
                   clear hK K))
            with_reducible refine wpQuiet_nil ?_
            intro _ hw'
            obtain ⟨⟨nq, osq⟩, hw''⟩ := hw'
            subst hw''
            go_wp2_with fail
            go_ret
            exact ⟨congrArg (fun x => Ending.returned (.bool x)) (by simp_all [opB]), below_grown HL.out (by simp) _ _⟩
          · repeat (
              with_reducible refine wpQuiet_step (fun K hK => ?_)
              go_simp
              first
                | (with_reducible refine hK _ ?_; clear hK K)
                | (apply Exists.intro
                   refine ⟨fun _ => ?_, hK _ ?_⟩
                   (first | (go_at_call 104; exact Calls.grown_of (l07Dir_g _ _ _ _)) | (go_at_call 48; exact Calls.grown_of (l07Yarn_g _ _ _ _)) | (go_at_call 51; exact Calls.grown_of (l00In_g _ _ _ _ _ _)) | (go_at_call 105; exact Calls.grown_of (l01Needle_g _ _ _ _ _)))
                   clear hK K))
            with_reducible refine wpQuiet_nil ?_
            intro _ hw'
            obtain ⟨⟨nq, osq⟩, hw''⟩ := hw'
            subst hw''
            go_wp2_with fail
            go_ret
            exact ⟨congrArg (fun x => Ending.returned (.bool x)) (by simp_all [opB]), below_grown HL.out (by simp) _ _⟩
        · have yta : (ta == 0) = false := by simpa using zta
          repeat (
            with_reducible refine wpQuiet_step (fun K hK => ?_)
            go_simp
            first
              | (with_reducible refine hK _ ?_; clear hK K)
              | (apply Exists.intro
                 refine ⟨fun _ => ?_, hK _ ?_⟩
                 (first | (go_at_call 104; exact Calls.grown_of (l07Dir_g _ _ _ _)) | (go_at_call 48; exact Calls.grown_of (l07Yarn_g _ _ _ _)) | (go_at_call 51; exact Calls.grown_of (l00In_g _ _ _ _ _ _)) | (go_at_call 105; exact Calls.grown_of (l01Needle_g _ _ _ _ _)))
                 clear hK K))
          with_reducible refine wpQuiet_nil ?_
          intro _ hw'
          obtain ⟨⟨nq, osq⟩, hw''⟩ := hw'
          subst hw''
          go_wp2_with fail
          go_ret
          exact ⟨congrArg (fun x => Ending.returned (.bool x)) (by simp_all [opB]), below_grown HL.out (by simp) _ _⟩
      · have ytb : (tb == 0) = false := by simpa using ztb
        repeat (
          with_reducible refine wpQuiet_step (fun K hK => ?_)
          go_simp
          first
            | (with_reducible refine hK _ ?_; clear hK K)
            | (apply Exists.intro
               refine ⟨fun _ => ?_, hK _ ?_⟩
               (first | (go_at_call 104; exact Calls.grown_of (l07Dir_g _ _ _ _)) | (go_at_call 48; exact Calls.grown_of (l07Yarn_g _ _ _ _)) | (go_at_call 51; exact Calls.grown_of (l00In_g _ _ _ _ _ _)) | (go_at_call 105; exact Calls.grown_of (l01Needle_g _ _ _ _ _)))
               clear hK K))
        with_reducible refine wpQuiet_nil ?_
        intro _ hw'
        obtain ⟨⟨nq, osq⟩, hw''⟩ := hw'
        subst hw''
        go_wp2_with fail
        go_ret
        exact ⟨congrArg (fun x => Ending.returned (.bool x)) (by simp_all [opB]), below_grown HL.out (by simp) _ _⟩
end Go.Proofs.Ytpmfkpehmckgmaa

namespace Go.Proofs.Ytpmfkpehmckgmaa
open Go.RowKit Go.Sort
set_option maxRecDepth 20000

set_option maxHeartbeats 40000000 in
theorem l07Op4_any (d fb fa tb ta c r : Int) (g o : Nat) (w : World) (H : Hid (OpAt w g o 4 d fb fa tb ta c r)) :
    Calls Try.prog 80 #[.pointer (some ⟨g, o, none⟩)] w fun e w' => e = .returned (.bool (opB 4 d fb fa tb ta c r)) ∧ Below w.heap.size w w' := by
  have hm : Try.prog.follows .mixedOrders = true := by kernel_rfl
  have h0 := H.out.c0
  have hg := H.out.lt
  have hL := (Below.refl w.heap.size w).alloc (Nat.le_refl _) (.cells #[.int .i64 0, .int .i64 0] 37)
  have HL := Lib.hid hL
  have HW := Lib.hid (H.out.below hL)
  have N0 := box_new w #[.int .i64 0, .int .i64 0] 37
  have k0 := cell_grown HW.out.lt HW.out.c0
  have k1 := cell_grown HW.out.lt HW.out.c1
  have k2 := cell_grown HW.out.lt HW.out.c2
  have k4 := cell_grown HW.out.lt HW.out.c4
  have k6 := cell_grown HW.out.lt HW.out.c6
  have k7 := cell_grown HW.out.lt HW.out.c7
  have k3 := cell_grown (a := ⟨g, o + 2 + 1, none⟩) HW.out.lt HW.out.c3
  have k5 := cell_grown (a := ⟨g, o + 4 + 1, none⟩) HW.out.lt HW.out.c5
  have k8 : ∀ n os, (grow ((w.alloc (.cells #[.int .i64 0, .int .i64 0] 37)).drewN n) os).cell? ⟨w.heap.size, 0, none⟩ = some (.int .i64 0) := cell_grown (by simp) (N0 0)
  have k9 : ∀ n os, (grow ((w.alloc (.cells #[.int .i64 0, .int .i64 0] 37)).drewN n) os).cell? ⟨w.heap.size, 1, none⟩ = some (.int .i64 0) := cell_grown (by simp) (N0 1)
  clear hL N0
  go_enter Try.func80, Try.ntmps80
  go_upto_region 8 with fail
  refine wp_region_quiet_grown hm (by kernel_rfl) ?_
  repeat (
    with_reducible refine wpQuiet_step (fun K hK => ?_)
    go_simp
    first
      | (with_reducible refine hK _ ?_; clear hK K)
      | (apply Exists.intro
         refine ⟨fun _ => ?_, hK _ ?_⟩
         (first | (go_at_call 104; exact Calls.grown_of (l07Dir_g _ _ _ _)) | (go_at_call 48; exact Calls.grown_of (l07Yarn_g _ _ _ _)) | (go_at_call 51; exact Calls.grown_of (l00In_g _ _ _ _ _ _)) | (go_at_call 105; exact Calls.grown_of (l01Needle_g _ _ _ _ _)))
         clear hK K))
  by_cases zd : d = 0
  · subst zd
    repeat (
      with_reducible refine wpQuiet_step (fun K hK => ?_)
      go_simp
      first
        | (with_reducible refine hK _ ?_; clear hK K)
        | (apply Exists.intro
           refine ⟨fun _ => ?_, hK _ ?_⟩
           (first | (go_at_call 104; exact Calls.grown_of (l07Dir_g _ _ _ _)) | (go_at_call 48; exact Calls.grown_of (l07Yarn_g _ _ _ _)) | (go_at_call 51; exact Calls.grown_of (l00In_g _ _ _ _ _ _)) | (go_at_call 105; exact Calls.grown_of (l01Needle_g _ _ _ _ _)))
           clear hK K))
    cases hF : ndB fb fa
    · repeat (
        with_reducible refine wpQuiet_step (fun K hK => ?_)
        go_simp
        first
          | (with_reducible refine hK _ ?_; clear hK K)
          | (apply Exists.intro
             refine ⟨fun _ => ?_, hK _ ?_⟩
             (first | (go_at_call 104; exact Calls.grown_of (l07Dir_g _ _ _ _)) | (go_at_call 48; exact Calls.grown_of (l07Yarn_g _ _ _ _)) | (go_at_call 51; exact Calls.grown_of (l00In_g _ _ _ _ _ _)) | (go_at_call 105; exact Calls.grown_of (l01Needle_g _ _ _ _ _)))
             clear hK K))
      with_reducible refine wpQuiet_nil ?_
      intro _ hw'
      obtain ⟨⟨nq, osq⟩, hw''⟩ := hw'
      subst hw''
      go_wp2_with fail
      go_ret
      exact ⟨congrArg (fun x => Ending.returned (.bool x)) (by simp_all [opB]), below_grown HL.out (by simp) _ _⟩
    · repeat (
        with_reducible refine wpQuiet_step (fun K hK => ?_)
        go_simp
        first
          | (with_reducible refine hK _ ?_; clear hK K)
          | (apply Exists.intro
             refine ⟨fun _ => ?_, hK _ ?_⟩
             (first | (go_at_call 104; exact Calls.grown_of (l07Dir_g _ _ _ _)) | (go_at_call 48; exact Calls.grown_of (l07Yarn_g _ _ _ _)) | (go_at_call 51; exact Calls.grown_of (l00In_g _ _ _ _ _ _)) | (go_at_call 105; exact Calls.grown_of (l01Needle_g _ _ _ _ _)))
             clear hK K))
      cases hT : ndB tb ta
      · repeat (
          with_reducible refine wpQuiet_step (fun K hK => ?_)
          go_simp
          first
            | (with_reducible refine hK _ ?_; clear hK K)
            | (apply Exists.intro
               refine ⟨fun _ => ?_, hK _ ?_⟩
               (first | (go_at_call 104; exact Calls.grown_of (l07Dir_g _ _ _ _)) | (go_at_call 48; exact Calls.grown_of (l07Yarn_g _ _ _ _)) | (go_at_call 51; exact Calls.grown_of (l00In_g _ _ _ _ _ _)) | (go_at_call 105; exact Calls.grown_of (l01Needle_g _ _ _ _ _)))
               clear hK K))
        with_reducible refine wpQuiet_nil ?_
        intro _ hw'
        obtain ⟨⟨nq, osq⟩, hw''⟩ := hw'
        subst hw''
        go_wp2_with fail
        go_ret
        exact ⟨congrArg (fun x => Ending.returned (.bool x)) (by simp_all [opB]), below_grown HL.out (by simp) _ _⟩
      · repeat (
          with_reducible refine wpQuiet_step (fun K hK => ?_)
          go_simp
          first
            | (with_reducible refine hK _ ?_; clear hK K)
            | (apply Exists.intro
               refine ⟨fun _ => ?_, hK _ ?_⟩
               (first | (go_at_call 104; exact Calls.grown_of (l07Dir_g _ _ _ _)) | (go_at_call 48; exact Calls.grown_of (l07Yarn_g _ _ _ _)) | (go_at_call 51; exact Calls.grown_of (l00In_g _ _ _ _ _ _)) | (go_at_call 105; exact Calls.grown_of (l01Needle_g _ _ _ _ _)))
               clear hK K))
        by_cases hBN : fb = tb
        · subst hBN
          repeat (
            with_reducible refine wpQuiet_step (fun K hK => ?_)
            go_simp
            first
              | (with_reducible refine hK _ ?_; clear hK K)
              | (apply Exists.intro
                 refine ⟨fun _ => ?_, hK _ ?_⟩
                 (first | (go_at_call 104; exact Calls.grown_of (l07Dir_g _ _ _ _)) | (go_at_call 48; exact Calls.grown_of (l07Yarn_g _ _ _ _)) | (go_at_call 51; exact Calls.grown_of (l00In_g _ _ _ _ _ _)) | (go_at_call 105; exact Calls.grown_of (l01Needle_g _ _ _ _ _)))
                 clear hK K))
          with_reducible refine wpQuiet_nil ?_
          intro _ hw'
          obtain ⟨⟨nq, osq⟩, hw''⟩ := hw'
          subst hw''
          go_wp2_with fail
          go_ret
          exact ⟨congrArg (fun x => Ending.returned (.bool x)) (by simp_all [opB]), below_grown HL.out (by simp) _ _⟩
        · repeat (
            with_reducible refine wpQuiet_step (fun K hK => ?_)
            go_simp
            first
              | (with_reducible refine hK _ ?_; clear hK K)
              | (apply Exists.intro
                 refine ⟨fun _ => ?_, hK _ ?_⟩
                 (first | (go_at_call 104; exact Calls.grown_of (l07Dir_g _ _ _ _)) | (go_at_call 48; exact Calls.grown_of (l07Yarn_g _ _ _ _)) | (go_at_call 51; exact Calls.grown_of (l00In_g _ _ _ _ _ _)) | (go_at_call 105; exact Calls.grown_of (l01Needle_g _ _ _ _ _)))
                 clear hK K))
          by_cases zc : c = 0
          · subst zc
            repeat (
              with_reducible refine wpQuiet_step (fun K hK => ?_)
              go_simp
              first
                | (with_reducible refine hK _ ?_; clear hK K)
                | (apply Exists.intro
                   refine ⟨fun _ => ?_, hK _ ?_⟩
                   (first | (go_at_call 104; exact Calls.grown_of (l07Dir_g _ _ _ _)) | (go_at_call 48; exact Calls.grown_of (l07Yarn_g _ _ _ _)) | (go_at_call 51; exact Calls.grown_of (l00In_g _ _ _ _ _ _)) | (go_at_call 105; exact Calls.grown_of (l01Needle_g _ _ _ _ _)))
                   clear hK K))
            with_reducible refine wpQuiet_nil ?_
            intro _ hw'
            obtain ⟨⟨nq, osq⟩, hw''⟩ := hw'
            subst hw''
            go_wp2_with fail
            go_ret
            exact ⟨congrArg (fun x => Ending.returned (.bool x)) (by simp_all [opB]), below_grown HL.out (by simp) _ _⟩
          · have yc : (c == 0) = false := by simpa using zc
            repeat (
              with_reducible refine wpQuiet_step (fun K hK => ?_)
              go_simp
              first
                | (with_reducible refine hK _ ?_; clear hK K)
                | (apply Exists.intro
                   refine ⟨fun _ => ?_, hK _ ?_⟩
                   (first | (go_at_call 104; exact Calls.grown_of (l07Dir_g _ _ _ _)) | (go_at_call 48; exact Calls.grown_of (l07Yarn_g _ _ _ _)) | (go_at_call 51; exact Calls.grown_of (l00In_g _ _ _ _ _ _)) | (go_at_call 105; exact Calls.grown_of (l01Needle_g _ _ _ _ _)))
                   clear hK K))
            with_reducible refine wpQuiet_nil ?_
            intro _ hw'
            obtain ⟨⟨nq, osq⟩, hw''⟩ := hw'
            subst hw''
            go_wp2_with fail
            go_ret
            exact ⟨congrArg (fun x => Ending.returned (.bool x)) (by simp_all [opB]), below_grown HL.out (by simp) _ _⟩
  · have yd : (d == 0) = false := by simpa using zd
    repeat (
      with_reducible refine wpQuiet_step (fun K hK => ?_)
      go_simp
      first
        | (with_reducible refine hK _ ?_; clear hK K)
        | (apply Exists.intro
           refine ⟨fun _ => ?_, hK _ ?_⟩
           (first | (go_at_call 104; exact Calls.grown_of (l07Dir_g _ _ _ _)) | (go_at_call 48; exact Calls.grown_of (l07Yarn_g _ _ _ _)) | (go_at_call 51; exact Calls.grown_of (l00In_g _ _ _ _ _ _)) | (go_at_call 105; exact Calls.grown_of (l01Needle_g _ _ _ _ _)))
           clear hK K))
    with_reducible refine wpQuiet_nil ?_
    intro _ hw'
    obtain ⟨⟨nq, osq⟩, hw''⟩ := hw'
    subst hw''
    go_wp2_with fail
    go_ret
    exact ⟨congrArg (fun x => Ending.returned (.bool x)) (by simp_all [opB]), below_grown HL.out (by simp) _ _⟩
end Go.Proofs.Ytpmfkpehmckgmaa

namespace Go.Proofs.Ytpmfkpehmckgmaa
open Go.RowKit Go.Sort
set_option maxRecDepth 20000

set_option maxHeartbeats 40000000 in
theorem l07Op5_any (d fb fa tb ta c r : Int) (g o : Nat) (w : World) (H : Hid (OpAt w g o 5 d fb fa tb ta c r)) :
    Calls Try.prog 80 #[.pointer (some ⟨g, o, none⟩)] w fun e w' => e = .returned (.bool (opB 5 d fb fa tb ta c r)) ∧ Below w.heap.size w w' := by
  have hm : Try.prog.follows .mixedOrders = true := by kernel_rfl
  have h0 := H.out.c0
  have hg := H.out.lt
  have hL := (Below.refl w.heap.size w).alloc (Nat.le_refl _) (.cells #[.int .i64 0, .int .i64 0] 37)
  have HL := Lib.hid hL
  have HW := Lib.hid (H.out.below hL)
  have N0 := box_new w #[.int .i64 0, .int .i64 0] 37
  have k0 := cell_grown HW.out.lt HW.out.c0
  have k1 := cell_grown HW.out.lt HW.out.c1
  have k2 := cell_grown HW.out.lt HW.out.c2
  have k4 := cell_grown HW.out.lt HW.out.c4
  have k6 := cell_grown HW.out.lt HW.out.c6
  have k7 := cell_grown HW.out.lt HW.out.c7
  have k3 := cell_grown (a := ⟨g, o + 2 + 1, none⟩) HW.out.lt HW.out.c3
  have k5 := cell_grown (a := ⟨g, o + 4 + 1, none⟩) HW.out.lt HW.out.c5
  have k8 : ∀ n os, (grow ((w.alloc (.cells #[.int .i64 0, .int .i64 0] 37)).drewN n) os).cell? ⟨w.heap.size, 0, none⟩ = some (.int .i64 0) := cell_grown (by simp) (N0 0)
  have k9 : ∀ n os, (grow ((w.alloc (.cells #[.int .i64 0, .int .i64 0] 37)).drewN n) os).cell? ⟨w.heap.size, 1, none⟩ = some (.int .i64 0) := cell_grown (by simp) (N0 1)
  clear hL N0
  go_enter Try.func80, Try.ntmps80
  go_upto_region 10 with fail
  refine wp_region_quiet_grown hm (by kernel_rfl) ?_
  repeat (
    with_reducible refine wpQuiet_step (fun K hK => ?_)
    go_simp
    first
      | (with_reducible refine hK _ ?_; clear hK K)
      | (apply Exists.intro
         refine ⟨fun _ => ?_, hK _ ?_⟩
         (first | (go_at_call 104; exact Calls.grown_of (l07Dir_g _ _ _ _)) | (go_at_call 48; exact Calls.grown_of (l07Yarn_g _ _ _ _)) | (go_at_call 51; exact Calls.grown_of (l00In_g _ _ _ _ _ _)) | (go_at_call 105; exact Calls.grown_of (l01Needle_g _ _ _ _ _)))
         clear hK K))
  cases hD : dirB d
  · repeat (
      with_reducible refine wpQuiet_step (fun K hK => ?_)
      go_simp
      first
        | (with_reducible refine hK _ ?_; clear hK K)
        | (apply Exists.intro
           refine ⟨fun _ => ?_, hK _ ?_⟩
           (first | (go_at_call 104; exact Calls.grown_of (l07Dir_g _ _ _ _)) | (go_at_call 48; exact Calls.grown_of (l07Yarn_g _ _ _ _)) | (go_at_call 51; exact Calls.grown_of (l00In_g _ _ _ _ _ _)) | (go_at_call 105; exact Calls.grown_of (l01Needle_g _ _ _ _ _)))
           clear hK K))
    with_reducible refine wpQuiet_nil ?_
    intro _ hw'
    obtain ⟨⟨nq, osq⟩, hw''⟩ := hw'
    subst hw''
    go_wp2_with fail
    go_ret
    exact ⟨congrArg (fun x => Ending.returned (.bool x)) (by simp_all [opB]), below_grown HL.out (by simp) _ _⟩
  · repeat (
      with_reducible refine wpQuiet_step (fun K hK => ?_)
      go_simp
      first
        | (with_reducible refine hK _ ?_; clear hK K)
        | (apply Exists.intro
           refine ⟨fun _ => ?_, hK _ ?_⟩
           (first | (go_at_call 104; exact Calls.grown_of (l07Dir_g _ _ _ _)) | (go_at_call 48; exact Calls.grown_of (l07Yarn_g _ _ _ _)) | (go_at_call 51; exact Calls.grown_of (l00In_g _ _ _ _ _ _)) | (go_at_call 105; exact Calls.grown_of (l01Needle_g _ _ _ _ _)))
           clear hK K))
    cases hF : ndB fb fa
    · repeat (
        with_reducible refine wpQuiet_step (fun K hK => ?_)
        go_simp
        first
          | (with_reducible refine hK _ ?_; clear hK K)
          | (apply Exists.intro
             refine ⟨fun _ => ?_, hK _ ?_⟩
             (first | (go_at_call 104; exact Calls.grown_of (l07Dir_g _ _ _ _)) | (go_at_call 48; exact Calls.grown_of (l07Yarn_g _ _ _ _)) | (go_at_call 51; exact Calls.grown_of (l00In_g _ _ _ _ _ _)) | (go_at_call 105; exact Calls.grown_of (l01Needle_g _ _ _ _ _)))
             clear hK K))
      with_reducible refine wpQuiet_nil ?_
      intro _ hw'
      obtain ⟨⟨nq, osq⟩, hw''⟩ := hw'
      subst hw''
      go_wp2_with fail
      go_ret
      exact ⟨congrArg (fun x => Ending.returned (.bool x)) (by simp_all [opB]), below_grown HL.out (by simp) _ _⟩
    · repeat (
        with_reducible refine wpQuiet_step (fun K hK => ?_)
        go_simp
        first
          | (with_reducible refine hK _ ?_; clear hK K)
          | (apply Exists.intro
             refine ⟨fun _ => ?_, hK _ ?_⟩
             (first | (go_at_call 104; exact Calls.grown_of (l07Dir_g _ _ _ _)) | (go_at_call 48; exact Calls.grown_of (l07Yarn_g _ _ _ _)) | (go_at_call 51; exact Calls.grown_of (l00In_g _ _ _ _ _ _)) | (go_at_call 105; exact Calls.grown_of (l01Needle_g _ _ _ _ _)))
             clear hK K))
      cases hT : ndB tb ta
      · repeat (
          with_reducible refine wpQuiet_step (fun K hK => ?_)
          go_simp
          first
            | (with_reducible refine hK _ ?_; clear hK K)
            | (apply Exists.intro
               refine ⟨fun _ => ?_, hK _ ?_⟩
               (first | (go_at_call 104; exact Calls.grown_of (l07Dir_g _ _ _ _)) | (go_at_call 48; exact Calls.grown_of (l07Yarn_g _ _ _ _)) | (go_at_call 51; exact Calls.grown_of (l00In_g _ _ _ _ _ _)) | (go_at_call 105; exact Calls.grown_of (l01Needle_g _ _ _ _ _)))
               clear hK K))
        with_reducible refine wpQuiet_nil ?_
        intro _ hw'
        obtain ⟨⟨nq, osq⟩, hw''⟩ := hw'
        subst hw''
        go_wp2_with fail
        go_ret
        exact ⟨congrArg (fun x => Ending.returned (.bool x)) (by simp_all [opB]), below_grown HL.out (by simp) _ _⟩
      · repeat (
          with_reducible refine wpQuiet_step (fun K hK => ?_)
          go_simp
          first
            | (with_reducible refine hK _ ?_; clear hK K)
            | (apply Exists.intro
               refine ⟨fun _ => ?_, hK _ ?_⟩
               (first | (go_at_call 104; exact Calls.grown_of (l07Dir_g _ _ _ _)) | (go_at_call 48; exact Calls.grown_of (l07Yarn_g _ _ _ _)) | (go_at_call 51; exact Calls.grown_of (l00In_g _ _ _ _ _ _)) | (go_at_call 105; exact Calls.grown_of (l01Needle_g _ _ _ _ _)))
               clear hK K))
        by_cases hBN : fb = tb
        · subst hBN
          repeat (
            with_reducible refine wpQuiet_step (fun K hK => ?_)
            go_simp
            first
              | (with_reducible refine hK _ ?_; clear hK K)
              | (apply Exists.intro
                 refine ⟨fun _ => ?_, hK _ ?_⟩
                 (first | (go_at_call 104; exact Calls.grown_of (l07Dir_g _ _ _ _)) | (go_at_call 48; exact Calls.grown_of (l07Yarn_g _ _ _ _)) | (go_at_call 51; exact Calls.grown_of (l00In_g _ _ _ _ _ _)) | (go_at_call 105; exact Calls.grown_of (l01Needle_g _ _ _ _ _)))
                 clear hK K))
          with_reducible refine wpQuiet_nil ?_
          intro _ hw'
          obtain ⟨⟨nq, osq⟩, hw''⟩ := hw'
          subst hw''
          go_wp2_with fail
          go_ret
          exact ⟨congrArg (fun x => Ending.returned (.bool x)) (by simp_all [opB]), below_grown HL.out (by simp) _ _⟩
        · repeat (
            with_reducible refine wpQuiet_step (fun K hK => ?_)
            go_simp
            first
              | (with_reducible refine hK _ ?_; clear hK K)
              | (apply Exists.intro
                 refine ⟨fun _ => ?_, hK _ ?_⟩
                 (first | (go_at_call 104; exact Calls.grown_of (l07Dir_g _ _ _ _)) | (go_at_call 48; exact Calls.grown_of (l07Yarn_g _ _ _ _)) | (go_at_call 51; exact Calls.grown_of (l00In_g _ _ _ _ _ _)) | (go_at_call 105; exact Calls.grown_of (l01Needle_g _ _ _ _ _)))
                 clear hK K))
          cases hY : inB c 1 4
          · repeat (
              with_reducible refine wpQuiet_step (fun K hK => ?_)
              go_simp
              first
                | (with_reducible refine hK _ ?_; clear hK K)
                | (apply Exists.intro
                   refine ⟨fun _ => ?_, hK _ ?_⟩
                   (first | (go_at_call 104; exact Calls.grown_of (l07Dir_g _ _ _ _)) | (go_at_call 48; exact Calls.grown_of (l07Yarn_g _ _ _ _)) | (go_at_call 51; exact Calls.grown_of (l00In_g _ _ _ _ _ _)) | (go_at_call 105; exact Calls.grown_of (l01Needle_g _ _ _ _ _)))
                   clear hK K))
            with_reducible refine wpQuiet_nil ?_
            intro _ hw'
            obtain ⟨⟨nq, osq⟩, hw''⟩ := hw'
            subst hw''
            go_wp2_with fail
            go_ret
            exact ⟨congrArg (fun x => Ending.returned (.bool x)) (by simp_all [opB]), below_grown HL.out (by simp) _ _⟩
          · repeat (
              with_reducible refine wpQuiet_step (fun K hK => ?_)
              go_simp
              first
                | (with_reducible refine hK _ ?_; clear hK K)
                | (apply Exists.intro
                   refine ⟨fun _ => ?_, hK _ ?_⟩
                   (first | (go_at_call 104; exact Calls.grown_of (l07Dir_g _ _ _ _)) | (go_at_call 48; exact Calls.grown_of (l07Yarn_g _ _ _ _)) | (go_at_call 51; exact Calls.grown_of (l00In_g _ _ _ _ _ _)) | (go_at_call 105; exact Calls.grown_of (l01Needle_g _ _ _ _ _)))
                   clear hK K))
            with_reducible refine wpQuiet_nil ?_
            intro _ hw'
            obtain ⟨⟨nq, osq⟩, hw''⟩ := hw'
            subst hw''
            go_wp2_with fail
            go_ret
            exact ⟨congrArg (fun x => Ending.returned (.bool x)) (by simp_all [opB]), below_grown HL.out (by simp) _ _⟩
set_option maxHeartbeats 40000000 in
theorem l07Op6_any (d fb fa tb ta c r : Int) (g o : Nat) (w : World) (H : Hid (OpAt w g o 6 d fb fa tb ta c r)) :
    Calls Try.prog 80 #[.pointer (some ⟨g, o, none⟩)] w fun e w' => e = .returned (.bool (opB 6 d fb fa tb ta c r)) ∧ Below w.heap.size w w' := by
  have hm : Try.prog.follows .mixedOrders = true := by kernel_rfl
  have h0 := H.out.c0
  have hg := H.out.lt
  have hL := (Below.refl w.heap.size w).alloc (Nat.le_refl _) (.cells #[.int .i64 0, .int .i64 0] 37)
  have HL := Lib.hid hL
  have HW := Lib.hid (H.out.below hL)
  have N0 := box_new w #[.int .i64 0, .int .i64 0] 37
  have k0 := cell_grown HW.out.lt HW.out.c0
  have k1 := cell_grown HW.out.lt HW.out.c1
  have k2 := cell_grown HW.out.lt HW.out.c2
  have k4 := cell_grown HW.out.lt HW.out.c4
  have k6 := cell_grown HW.out.lt HW.out.c6
  have k7 := cell_grown HW.out.lt HW.out.c7
  have k3 := cell_grown (a := ⟨g, o + 2 + 1, none⟩) HW.out.lt HW.out.c3
  have k5 := cell_grown (a := ⟨g, o + 4 + 1, none⟩) HW.out.lt HW.out.c5
  have k8 : ∀ n os, (grow ((w.alloc (.cells #[.int .i64 0, .int .i64 0] 37)).drewN n) os).cell? ⟨w.heap.size, 0, none⟩ = some (.int .i64 0) := cell_grown (by simp) (N0 0)
  have k9 : ∀ n os, (grow ((w.alloc (.cells #[.int .i64 0, .int .i64 0] 37)).drewN n) os).cell? ⟨w.heap.size, 1, none⟩ = some (.int .i64 0) := cell_grown (by simp) (N0 1)
  clear hL N0
  go_enter Try.func80, Try.ntmps80
  go_upto_region 12 with fail
  refine wp_region_quiet_grown hm (by kernel_rfl) ?_
  repeat (
    with_reducible refine wpQuiet_step (fun K hK => ?_)
    go_simp
    first
      | (with_reducible refine hK _ ?_; clear hK K)
      | (apply Exists.intro
         refine ⟨fun _ => ?_, hK _ ?_⟩
         (first | (go_at_call 104; exact Calls.grown_of (l07Dir_g _ _ _ _)) | (go_at_call 48; exact Calls.grown_of (l07Yarn_g _ _ _ _)) | (go_at_call 51; exact Calls.grown_of (l00In_g _ _ _ _ _ _)) | (go_at_call 105; exact Calls.grown_of (l01Needle_g _ _ _ _ _)))
         clear hK K))
  by_cases zd : d = 0
  · subst zd
    repeat (
      with_reducible refine wpQuiet_step (fun K hK => ?_)
      go_simp
      first
        | (with_reducible refine hK _ ?_; clear hK K)
        | (apply Exists.intro
           refine ⟨fun _ => ?_, hK _ ?_⟩
           (first | (go_at_call 104; exact Calls.grown_of (l07Dir_g _ _ _ _)) | (go_at_call 48; exact Calls.grown_of (l07Yarn_g _ _ _ _)) | (go_at_call 51; exact Calls.grown_of (l00In_g _ _ _ _ _ _)) | (go_at_call 105; exact Calls.grown_of (l01Needle_g _ _ _ _ _)))
           clear hK K))
    cases hF : ndB fb fa
    · repeat (
        with_reducible refine wpQuiet_step (fun K hK => ?_)
        go_simp
        first
          | (with_reducible refine hK _ ?_; clear hK K)
          | (apply Exists.intro
             refine ⟨fun _ => ?_, hK _ ?_⟩
             (first | (go_at_call 104; exact Calls.grown_of (l07Dir_g _ _ _ _)) | (go_at_call 48; exact Calls.grown_of (l07Yarn_g _ _ _ _)) | (go_at_call 51; exact Calls.grown_of (l00In_g _ _ _ _ _ _)) | (go_at_call 105; exact Calls.grown_of (l01Needle_g _ _ _ _ _)))
             clear hK K))
      with_reducible refine wpQuiet_nil ?_
      intro _ hw'
      obtain ⟨⟨nq, osq⟩, hw''⟩ := hw'
      subst hw''
      go_wp2_with fail
      go_ret
      exact ⟨congrArg (fun x => Ending.returned (.bool x)) (by simp_all [opB]), below_grown HL.out (by simp) _ _⟩
    · repeat (
        with_reducible refine wpQuiet_step (fun K hK => ?_)
        go_simp
        first
          | (with_reducible refine hK _ ?_; clear hK K)
          | (apply Exists.intro
             refine ⟨fun _ => ?_, hK _ ?_⟩
             (first | (go_at_call 104; exact Calls.grown_of (l07Dir_g _ _ _ _)) | (go_at_call 48; exact Calls.grown_of (l07Yarn_g _ _ _ _)) | (go_at_call 51; exact Calls.grown_of (l00In_g _ _ _ _ _ _)) | (go_at_call 105; exact Calls.grown_of (l01Needle_g _ _ _ _ _)))
             clear hK K))
      by_cases ztb : tb = 0
      · subst ztb
        by_cases zta : ta = 0
        · subst zta
          repeat (
            with_reducible refine wpQuiet_step (fun K hK => ?_)
            go_simp
            first
              | (with_reducible refine hK _ ?_; clear hK K)
              | (apply Exists.intro
                 refine ⟨fun _ => ?_, hK _ ?_⟩
                 (first | (go_at_call 104; exact Calls.grown_of (l07Dir_g _ _ _ _)) | (go_at_call 48; exact Calls.grown_of (l07Yarn_g _ _ _ _)) | (go_at_call 51; exact Calls.grown_of (l00In_g _ _ _ _ _ _)) | (go_at_call 105; exact Calls.grown_of (l01Needle_g _ _ _ _ _)))
                 clear hK K))
          by_cases zc : c = 0
          · subst zc
            repeat (
              with_reducible refine wpQuiet_step (fun K hK => ?_)
              go_simp
              first
                | (with_reducible refine hK _ ?_; clear hK K)
                | (apply Exists.intro
                   refine ⟨fun _ => ?_, hK _ ?_⟩
                   (first | (go_at_call 104; exact Calls.grown_of (l07Dir_g _ _ _ _)) | (go_at_call 48; exact Calls.grown_of (l07Yarn_g _ _ _ _)) | (go_at_call 51; exact Calls.grown_of (l00In_g _ _ _ _ _ _)) | (go_at_call 105; exact Calls.grown_of (l01Needle_g _ _ _ _ _)))
                   clear hK K))
            with_reducible refine wpQuiet_nil ?_
            intro _ hw'
            obtain ⟨⟨nq, osq⟩, hw''⟩ := hw'
            subst hw''
            go_wp2_with fail
            go_ret
            exact ⟨congrArg (fun x => Ending.returned (.bool x)) (by simp_all [opB]), below_grown HL.out (by simp) _ _⟩
          · have yc : (c == 0) = false := by simpa using zc
            repeat (
              with_reducible refine wpQuiet_step (fun K hK => ?_)
              go_simp
              first
                | (with_reducible refine hK _ ?_; clear hK K)
                | (apply Exists.intro
                   refine ⟨fun _ => ?_, hK _ ?_⟩
                   (first | (go_at_call 104; exact Calls.grown_of (l07Dir_g _ _ _ _)) | (go_at_call 48; exact Calls.grown_of (l07Yarn_g _ _ _ _)) | (go_at_call 51; exact Calls.grown_of (l00In_g _ _ _ _ _ _)) | (go_at_call 105; exact Calls.grown_of (l01Needle_g _ _ _ _ _)))
                   clear hK K))
            with_reducible refine wpQuiet_nil ?_
            intro _ hw'
            obtain ⟨⟨nq, osq⟩, hw''⟩ := hw'
            subst hw''
            go_wp2_with fail
            go_ret
            exact ⟨congrArg (fun x => Ending.returned (.bool x)) (by simp_all [opB]), below_grown HL.out (by simp) _ _⟩
        · have yta : (ta == 0) = false := by simpa using zta
          repeat (
            with_reducible refine wpQuiet_step (fun K hK => ?_)
            go_simp
            first
              | (with_reducible refine hK _ ?_; clear hK K)
              | (apply Exists.intro
                 refine ⟨fun _ => ?_, hK _ ?_⟩
                 (first | (go_at_call 104; exact Calls.grown_of (l07Dir_g _ _ _ _)) | (go_at_call 48; exact Calls.grown_of (l07Yarn_g _ _ _ _)) | (go_at_call 51; exact Calls.grown_of (l00In_g _ _ _ _ _ _)) | (go_at_call 105; exact Calls.grown_of (l01Needle_g _ _ _ _ _)))
                 clear hK K))
          with_reducible refine wpQuiet_nil ?_
          intro _ hw'
          obtain ⟨⟨nq, osq⟩, hw''⟩ := hw'
          subst hw''
          go_wp2_with fail
          go_ret
          exact ⟨congrArg (fun x => Ending.returned (.bool x)) (by simp_all [opB]), below_grown HL.out (by simp) _ _⟩
      · have ytb : (tb == 0) = false := by simpa using ztb
        repeat (
          with_reducible refine wpQuiet_step (fun K hK => ?_)
          go_simp
          first
            | (with_reducible refine hK _ ?_; clear hK K)
            | (apply Exists.intro
               refine ⟨fun _ => ?_, hK _ ?_⟩
               (first | (go_at_call 104; exact Calls.grown_of (l07Dir_g _ _ _ _)) | (go_at_call 48; exact Calls.grown_of (l07Yarn_g _ _ _ _)) | (go_at_call 51; exact Calls.grown_of (l00In_g _ _ _ _ _ _)) | (go_at_call 105; exact Calls.grown_of (l01Needle_g _ _ _ _ _)))
               clear hK K))
        with_reducible refine wpQuiet_nil ?_
        intro _ hw'
        obtain ⟨⟨nq, osq⟩, hw''⟩ := hw'
        subst hw''
        go_wp2_with fail
        go_ret
        exact ⟨congrArg (fun x => Ending.returned (.bool x)) (by simp_all [opB]), below_grown HL.out (by simp) _ _⟩
  · have yd : (d == 0) = false := by simpa using zd
    repeat (
      with_reducible refine wpQuiet_step (fun K hK => ?_)
      go_simp
      first
        | (with_reducible refine hK _ ?_; clear hK K)
        | (apply Exists.intro
           refine ⟨fun _ => ?_, hK _ ?_⟩
           (first | (go_at_call 104; exact Calls.grown_of (l07Dir_g _ _ _ _)) | (go_at_call 48; exact Calls.grown_of (l07Yarn_g _ _ _ _)) | (go_at_call 51; exact Calls.grown_of (l00In_g _ _ _ _ _ _)) | (go_at_call 105; exact Calls.grown_of (l01Needle_g _ _ _ _ _)))
           clear hK K))
    with_reducible refine wpQuiet_nil ?_
    intro _ hw'
    obtain ⟨⟨nq, osq⟩, hw''⟩ := hw'
    subst hw''
    go_wp2_with fail
    go_ret
    exact ⟨congrArg (fun x => Ending.returned (.bool x)) (by simp_all [opB]), below_grown HL.out (by simp) _ _⟩
end Go.Proofs.Ytpmfkpehmckgmaa

namespace Go.Proofs.Ytpmfkpehmckgmaa
open Go.RowKit Go.Sort
set_option maxRecDepth 20000

set_option maxHeartbeats 40000000 in
theorem l07Op7_any (d fb fa tb ta c r : Int) (g o : Nat) (w : World) (H : Hid (OpAt w g o 7 d fb fa tb ta c r)) :
    Calls Try.prog 80 #[.pointer (some ⟨g, o, none⟩)] w fun e w' => e = .returned (.bool (opB 7 d fb fa tb ta c r)) ∧ Below w.heap.size w w' := by
  have h0 := H.out.c0
  have hg := H.out.lt
  have hL := (Below.refl w.heap.size w).alloc (Nat.le_refl _) (.cells #[.int .i64 0, .int .i64 0] 37)
  have HL := Lib.hid hL
  have HW := Lib.hid (H.out.below hL)
  have k0 := HW.out.c0
  have k1 := HW.out.c1
  have k2 := HW.out.c2
  have k3 := HW.out.c3
  have k4 := HW.out.c4
  have k5 := HW.out.c5
  have k6 := HW.out.c6
  have k7 := HW.out.c7
  clear hL
  by_cases zd : d = 0
  · subst zd
    by_cases zfb : fb = 0
    · subst zfb
      by_cases zfa : fa = 0
      · subst zfa
        by_cases ztb : tb = 0
        · subst ztb
          by_cases zta : ta = 0
          · subst zta
            by_cases zc : c = 0
            · subst zc
              cases hRK : inB r (-3) 3
              · go_enter Try.func80, Try.ntmps80
                go_upto_region 14 with fail
                go_quiet (first | (go_at_call 104; exact Calls.quiet_of_same (l07Dir_q _ _)) | (go_at_call 48; exact Calls.quiet_of_same (l07Yarn_q _ _)) | (go_at_call 51; exact Calls.quiet_of_same (l00In_q2 _ _ _ _)))
                go_wp2_with fail
                go_ret
                exact ⟨congrArg (fun x => Ending.returned (.bool x)) (by simp_all [opB]), Below.drewN' HL.out _⟩
              · go_enter Try.func80, Try.ntmps80
                go_upto_region 14 with fail
                go_quiet (first | (go_at_call 104; exact Calls.quiet_of_same (l07Dir_q _ _)) | (go_at_call 48; exact Calls.quiet_of_same (l07Yarn_q _ _)) | (go_at_call 51; exact Calls.quiet_of_same (l00In_q2 _ _ _ _)))
                go_wp2_with fail
                go_ret
                exact ⟨congrArg (fun x => Ending.returned (.bool x)) (by simp_all [opB]), Below.drewN' HL.out _⟩
            · have yc : (c == 0) = false := by simpa using zc
              go_enter Try.func80, Try.ntmps80
              go_upto_region 14 with fail
              go_quiet (first | (go_at_call 104; exact Calls.quiet_of_same (l07Dir_q _ _)) | (go_at_call 48; exact Calls.quiet_of_same (l07Yarn_q _ _)) | (go_at_call 51; exact Calls.quiet_of_same (l00In_q2 _ _ _ _)))
              go_wp2_with fail
              go_ret
              exact ⟨congrArg (fun x => Ending.returned (.bool x)) (by simp_all [opB]), Below.drewN' HL.out _⟩
          · have yta : (ta == 0) = false := by simpa using zta
            go_enter Try.func80, Try.ntmps80
            go_upto_region 14 with fail
            go_quiet (first | (go_at_call 104; exact Calls.quiet_of_same (l07Dir_q _ _)) | (go_at_call 48; exact Calls.quiet_of_same (l07Yarn_q _ _)) | (go_at_call 51; exact Calls.quiet_of_same (l00In_q2 _ _ _ _)))
            go_wp2_with fail
            go_ret
            exact ⟨congrArg (fun x => Ending.returned (.bool x)) (by simp_all [opB]), Below.drewN' HL.out _⟩
        · have ytb : (tb == 0) = false := by simpa using ztb
          go_enter Try.func80, Try.ntmps80
          go_upto_region 14 with fail
          go_quiet (first | (go_at_call 104; exact Calls.quiet_of_same (l07Dir_q _ _)) | (go_at_call 48; exact Calls.quiet_of_same (l07Yarn_q _ _)) | (go_at_call 51; exact Calls.quiet_of_same (l00In_q2 _ _ _ _)))
          go_wp2_with fail
          go_ret
          exact ⟨congrArg (fun x => Ending.returned (.bool x)) (by simp_all [opB]), Below.drewN' HL.out _⟩
      · have yfa : (fa == 0) = false := by simpa using zfa
        go_enter Try.func80, Try.ntmps80
        go_upto_region 14 with fail
        go_quiet (first | (go_at_call 104; exact Calls.quiet_of_same (l07Dir_q _ _)) | (go_at_call 48; exact Calls.quiet_of_same (l07Yarn_q _ _)) | (go_at_call 51; exact Calls.quiet_of_same (l00In_q2 _ _ _ _)))
        go_wp2_with fail
        go_ret
        exact ⟨congrArg (fun x => Ending.returned (.bool x)) (by simp_all [opB]), Below.drewN' HL.out _⟩
    · have yfb : (fb == 0) = false := by simpa using zfb
      go_enter Try.func80, Try.ntmps80
      go_upto_region 14 with fail
      go_quiet (first | (go_at_call 104; exact Calls.quiet_of_same (l07Dir_q _ _)) | (go_at_call 48; exact Calls.quiet_of_same (l07Yarn_q _ _)) | (go_at_call 51; exact Calls.quiet_of_same (l00In_q2 _ _ _ _)))
      go_wp2_with fail
      go_ret
      exact ⟨congrArg (fun x => Ending.returned (.bool x)) (by simp_all [opB]), Below.drewN' HL.out _⟩
  · have yd : (d == 0) = false := by simpa using zd
    go_enter Try.func80, Try.ntmps80
    go_upto_region 14 with fail
    go_quiet (first | (go_at_call 104; exact Calls.quiet_of_same (l07Dir_q _ _)) | (go_at_call 48; exact Calls.quiet_of_same (l07Yarn_q _ _)) | (go_at_call 51; exact Calls.quiet_of_same (l00In_q2 _ _ _ _)))
    go_wp2_with fail
    go_ret
    exact ⟨congrArg (fun x => Ending.returned (.bool x)) (by simp_all [opB]), Below.drewN' HL.out _⟩
set_option maxHeartbeats 40000000 in
theorem l07Op8_any (d fb fa tb ta c r : Int) (g o : Nat) (w : World) (H : Hid (OpAt w g o 8 d fb fa tb ta c r)) :
    Calls Try.prog 80 #[.pointer (some ⟨g, o, none⟩)] w fun e w' => e = .returned (.bool (opB 8 d fb fa tb ta c r)) ∧ Below w.heap.size w w' := by
  have h0 := H.out.c0
  have hg := H.out.lt
  have hL := (Below.refl w.heap.size w).alloc (Nat.le_refl _) (.cells #[.int .i64 0, .int .i64 0] 37)
  have HL := Lib.hid hL
  have HW := Lib.hid (H.out.below hL)
  have k0 := HW.out.c0
  have k1 := HW.out.c1
  have k2 := HW.out.c2
  have k3 := HW.out.c3
  have k4 := HW.out.c4
  have k5 := HW.out.c5
  have k6 := HW.out.c6
  have k7 := HW.out.c7
  clear hL
  by_cases zfb : fb = 0
  · subst zfb
    by_cases zfa : fa = 0
    · subst zfa
      by_cases ztb : tb = 0
      · subst ztb
        by_cases zta : ta = 0
        · subst zta
          by_cases zr : r = 0
          · subst zr
            cases hD : dirB d
            · go_enter Try.func80, Try.ntmps80
              go_upto_region 16 with fail
              go_quiet (first | (go_at_call 104; exact Calls.quiet_of_same (l07Dir_q _ _)) | (go_at_call 48; exact Calls.quiet_of_same (l07Yarn_q _ _)) | (go_at_call 51; exact Calls.quiet_of_same (l00In_q2 _ _ _ _)))
              go_wp2_with fail
              go_ret
              exact ⟨congrArg (fun x => Ending.returned (.bool x)) (by simp_all [opB]), Below.drewN' HL.out _⟩
            · cases hY : inB c 1 4
              · go_enter Try.func80, Try.ntmps80
                go_upto_region 16 with fail
                go_quiet (first | (go_at_call 104; exact Calls.quiet_of_same (l07Dir_q _ _)) | (go_at_call 48; exact Calls.quiet_of_same (l07Yarn_q _ _)) | (go_at_call 51; exact Calls.quiet_of_same (l00In_q2 _ _ _ _)))
                go_wp2_with fail
                go_ret
                exact ⟨congrArg (fun x => Ending.returned (.bool x)) (by simp_all [opB]), Below.drewN' HL.out _⟩
              · go_enter Try.func80, Try.ntmps80
                go_upto_region 16 with fail
                go_quiet (first | (go_at_call 104; exact Calls.quiet_of_same (l07Dir_q _ _)) | (go_at_call 48; exact Calls.quiet_of_same (l07Yarn_q _ _)) | (go_at_call 51; exact Calls.quiet_of_same (l00In_q2 _ _ _ _)))
                go_wp2_with fail
                go_ret
                exact ⟨congrArg (fun x => Ending.returned (.bool x)) (by simp_all [opB]), Below.drewN' HL.out _⟩
          · have yr : (r == 0) = false := by simpa using zr
            go_enter Try.func80, Try.ntmps80
            go_upto_region 16 with fail
            go_quiet (first | (go_at_call 104; exact Calls.quiet_of_same (l07Dir_q _ _)) | (go_at_call 48; exact Calls.quiet_of_same (l07Yarn_q _ _)) | (go_at_call 51; exact Calls.quiet_of_same (l00In_q2 _ _ _ _)))
            go_wp2_with fail
            go_ret
            exact ⟨congrArg (fun x => Ending.returned (.bool x)) (by simp_all [opB]), Below.drewN' HL.out _⟩
        · have yta : (ta == 0) = false := by simpa using zta
          go_enter Try.func80, Try.ntmps80
          go_upto_region 16 with fail
          go_quiet (first | (go_at_call 104; exact Calls.quiet_of_same (l07Dir_q _ _)) | (go_at_call 48; exact Calls.quiet_of_same (l07Yarn_q _ _)) | (go_at_call 51; exact Calls.quiet_of_same (l00In_q2 _ _ _ _)))
          go_wp2_with fail
          go_ret
          exact ⟨congrArg (fun x => Ending.returned (.bool x)) (by simp_all [opB]), Below.drewN' HL.out _⟩
      · have ytb : (tb == 0) = false := by simpa using ztb
        go_enter Try.func80, Try.ntmps80
        go_upto_region 16 with fail
        go_quiet (first | (go_at_call 104; exact Calls.quiet_of_same (l07Dir_q _ _)) | (go_at_call 48; exact Calls.quiet_of_same (l07Yarn_q _ _)) | (go_at_call 51; exact Calls.quiet_of_same (l00In_q2 _ _ _ _)))
        go_wp2_with fail
        go_ret
        exact ⟨congrArg (fun x => Ending.returned (.bool x)) (by simp_all [opB]), Below.drewN' HL.out _⟩
    · have yfa : (fa == 0) = false := by simpa using zfa
      go_enter Try.func80, Try.ntmps80
      go_upto_region 16 with fail
      go_quiet (first | (go_at_call 104; exact Calls.quiet_of_same (l07Dir_q _ _)) | (go_at_call 48; exact Calls.quiet_of_same (l07Yarn_q _ _)) | (go_at_call 51; exact Calls.quiet_of_same (l00In_q2 _ _ _ _)))
      go_wp2_with fail
      go_ret
      exact ⟨congrArg (fun x => Ending.returned (.bool x)) (by simp_all [opB]), Below.drewN' HL.out _⟩
  · have yfb : (fb == 0) = false := by simpa using zfb
    go_enter Try.func80, Try.ntmps80
    go_upto_region 16 with fail
    go_quiet (first | (go_at_call 104; exact Calls.quiet_of_same (l07Dir_q _ _)) | (go_at_call 48; exact Calls.quiet_of_same (l07Yarn_q _ _)) | (go_at_call 51; exact Calls.quiet_of_same (l00In_q2 _ _ _ _)))
    go_wp2_with fail
    go_ret
    exact ⟨congrArg (fun x => Ending.returned (.bool x)) (by simp_all [opB]), Below.drewN' HL.out _⟩
set_option maxHeartbeats 40000000 in
theorem l07Op9_any (d fb fa tb ta c r : Int) (g o : Nat) (w : World) (H : Hid (OpAt w g o 9 d fb fa tb ta c r)) :
    Calls Try.prog 80 #[.pointer (some ⟨g, o, none⟩)] w fun e w' => e = .returned (.bool (opB 9 d fb fa tb ta c r)) ∧ Below w.heap.size w w' := by
  have h0 := H.out.c0
  have hg := H.out.lt
  have hL := (Below.refl w.heap.size w).alloc (Nat.le_refl _) (.cells #[.int .i64 0, .int .i64 0] 37)
  have HL := Lib.hid hL
  have HW := Lib.hid (H.out.below hL)
  have k0 := HW.out.c0
  have k1 := HW.out.c1
  have k2 := HW.out.c2
  have k3 := HW.out.c3
  have k4 := HW.out.c4
  have k5 := HW.out.c5
  have k6 := HW.out.c6
  have k7 := HW.out.c7
  clear hL
  by_cases zd : d = 0
  · subst zd
    by_cases zfb : fb = 0
    · subst zfb
      by_cases zfa : fa = 0
      · subst zfa
        by_cases ztb : tb = 0
        · subst ztb
          by_cases zta : ta = 0
          · subst zta
            by_cases zr : r = 0
            · subst zr
              cases hY : inB c 1 4
              · go_enter Try.func80, Try.ntmps80
                go_upto_region 18 with fail
                go_quiet (first | (go_at_call 104; exact Calls.quiet_of_same (l07Dir_q _ _)) | (go_at_call 48; exact Calls.quiet_of_same (l07Yarn_q _ _)) | (go_at_call 51; exact Calls.quiet_of_same (l00In_q2 _ _ _ _)))
                go_wp2_with fail
                go_ret
                exact ⟨congrArg (fun x => Ending.returned (.bool x)) (by simp_all [opB]), Below.drewN' HL.out _⟩
              · go_enter Try.func80, Try.ntmps80
                go_upto_region 18 with fail
                go_quiet (first | (go_at_call 104; exact Calls.quiet_of_same (l07Dir_q _ _)) | (go_at_call 48; exact Calls.quiet_of_same (l07Yarn_q _ _)) | (go_at_call 51; exact Calls.quiet_of_same (l00In_q2 _ _ _ _)))
                go_wp2_with fail
                go_ret
                exact ⟨congrArg (fun x => Ending.returned (.bool x)) (by simp_all [opB]), Below.drewN' HL.out _⟩
            · have yr : (r == 0) = false := by simpa using zr
              go_enter Try.func80, Try.ntmps80
              go_upto_region 18 with fail
              go_quiet (first | (go_at_call 104; exact Calls.quiet_of_same (l07Dir_q _ _)) | (go_at_call 48; exact Calls.quiet_of_same (l07Yarn_q _ _)) | (go_at_call 51; exact Calls.quiet_of_same (l00In_q2 _ _ _ _)))
              go_wp2_with fail
              go_ret
              exact ⟨congrArg (fun x => Ending.returned (.bool x)) (by simp_all [opB]), Below.drewN' HL.out _⟩
          · have yta : (ta == 0) = false := by simpa using zta
            go_enter Try.func80, Try.ntmps80
            go_upto_region 18 with fail
            go_quiet (first | (go_at_call 104; exact Calls.quiet_of_same (l07Dir_q _ _)) | (go_at_call 48; exact Calls.quiet_of_same (l07Yarn_q _ _)) | (go_at_call 51; exact Calls.quiet_of_same (l00In_q2 _ _ _ _)))
            go_wp2_with fail
            go_ret
            exact ⟨congrArg (fun x => Ending.returned (.bool x)) (by simp_all [opB]), Below.drewN' HL.out _⟩
        · have ytb : (tb == 0) = false := by simpa using ztb
          go_enter Try.func80, Try.ntmps80
          go_upto_region 18 with fail
          go_quiet (first | (go_at_call 104; exact Calls.quiet_of_same (l07Dir_q _ _)) | (go_at_call 48; exact Calls.quiet_of_same (l07Yarn_q _ _)) | (go_at_call 51; exact Calls.quiet_of_same (l00In_q2 _ _ _ _)))
          go_wp2_with fail
          go_ret
          exact ⟨congrArg (fun x => Ending.returned (.bool x)) (by simp_all [opB]), Below.drewN' HL.out _⟩
      · have yfa : (fa == 0) = false := by simpa using zfa
        go_enter Try.func80, Try.ntmps80
        go_upto_region 18 with fail
        go_quiet (first | (go_at_call 104; exact Calls.quiet_of_same (l07Dir_q _ _)) | (go_at_call 48; exact Calls.quiet_of_same (l07Yarn_q _ _)) | (go_at_call 51; exact Calls.quiet_of_same (l00In_q2 _ _ _ _)))
        go_wp2_with fail
        go_ret
        exact ⟨congrArg (fun x => Ending.returned (.bool x)) (by simp_all [opB]), Below.drewN' HL.out _⟩
    · have yfb : (fb == 0) = false := by simpa using zfb
      go_enter Try.func80, Try.ntmps80
      go_upto_region 18 with fail
      go_quiet (first | (go_at_call 104; exact Calls.quiet_of_same (l07Dir_q _ _)) | (go_at_call 48; exact Calls.quiet_of_same (l07Yarn_q _ _)) | (go_at_call 51; exact Calls.quiet_of_same (l00In_q2 _ _ _ _)))
      go_wp2_with fail
      go_ret
      exact ⟨congrArg (fun x => Ending.returned (.bool x)) (by simp_all [opB]), Below.drewN' HL.out _⟩
  · have yd : (d == 0) = false := by simpa using zd
    go_enter Try.func80, Try.ntmps80
    go_upto_region 18 with fail
    go_quiet (first | (go_at_call 104; exact Calls.quiet_of_same (l07Dir_q _ _)) | (go_at_call 48; exact Calls.quiet_of_same (l07Yarn_q _ _)) | (go_at_call 51; exact Calls.quiet_of_same (l00In_q2 _ _ _ _)))
    go_wp2_with fail
    go_ret
    exact ⟨congrArg (fun x => Ending.returned (.bool x)) (by simp_all [opB]), Below.drewN' HL.out _⟩
end Go.Proofs.Ytpmfkpehmckgmaa
