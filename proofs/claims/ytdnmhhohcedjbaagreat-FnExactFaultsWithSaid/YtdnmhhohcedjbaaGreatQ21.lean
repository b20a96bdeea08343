/- Walks and plain lemmas. -/
import Derived.Test.YtdnmhhohcedjbaaGreatQ12
set_option linter.unusedVariables false
set_option linter.unusedSimpArgs false
set_option maxHeartbeats 40000000
set_option maxRecDepth 20000
namespace Go.Proofs.YtdnmhhohcedjbaaGreat
open Go.RowKit Go.Sort
theorem zQ21x0 {p:Prop}(h:p:=by
 repeat(
  with_reducible refine wpQuiet_step (fun K hK=>?_)
  go_simp
  first
   |(with_reducible refine hK _ ?_;clear hK K)
   |(
    apply Exists.intro
    refine⟨fun _=>?_,hK _ ?_⟩
    (first|(go_at_call 111;exact Calls.grown_of (aN _ _ _ _))|(go_at_call 113;exact Calls.grown_of (aJ _ _ _ _))|(go_at_call 31;exact Calls.grown_of (aP _ _ _ _ _ _))|(go_at_call 112;exact Calls.grown_of (aG _ _ _ _ _)))
    clear hK K))
 with_reducible refine wpQuiet_nil ?_
 intro _ hw';obtain⟨⟨nq,osq⟩,hw''⟩:=hw';subst hw''
 go_wp2_with fail
 go_ret
 exact⟨qr (by simp_all [aW]),below_grown HL.o qj _ _⟩):p:=h
theorem zQ21x1 {p:Prop}(h:p:=by
 with_reducible refine wpQuiet_nil ?_
 intro _ hw';obtain⟨⟨nq,osq⟩,hw''⟩:=hw';subst hw''
 go_wp2_with fail
 go_ret
 exact⟨qr (by simp_all [aW]),below_grown HL.o qj _ _⟩):p:=h
theorem Dh (d fb fa tb ta c r:Int)(g o:Nat)(w:World)(H:Hq (oI w g o 5 d fb fa tb ta c r)):
 Calls Tryz.prog 81 #[.pointer (some ⟨g,o,none⟩)] w fun e w'=>e=.returned (.bool (aW 5 d fb fa tb ta c r))∧Below w.heap.size w w':=by
 have hm:Tryz.prog.follows .mixedOrders=true:=by kernel_rfl
 have h0:=H.o.c0;have hg:=H.o.lt;have hL:=(Below.refl w.heap.size w).alloc ql (.cells #[.int .i64 0,.int .i64 0] 65);have HL:=qh hL;have HW:=qh (H.o.below hL);have N0:=vJ w #[.int .i64 0,.int .i64 0] 65;have k0:=cell_grown HW.o.lt HW.o.c0;have k1:=cell_grown HW.o.lt HW.o.c1;have k2:=cell_grown HW.o.lt HW.o.c2;have k4:=cell_grown HW.o.lt HW.o.c4;have k6:=cell_grown HW.o.lt HW.o.c6;have k7:=cell_grown HW.o.lt HW.o.c7;have k3:=cell_grown (a:=⟨g,o+2+1,none⟩) HW.o.lt HW.o.c3;have k5:=cell_grown (a:=⟨g,o+4+1,none⟩) HW.o.lt HW.o.c5;have k8:∀n os,(grow ((w.alloc (.cells #[.int .i64 0,.int .i64 0] 65)).drewN n) os).cell? ⟨w.heap.size,0,none⟩=some (.int .i64 0):=cell_grown qj (N0 0);have k9:∀n os,(grow ((w.alloc (.cells #[.int .i64 0,.int .i64 0] 65)).drewN n) os).cell? ⟨w.heap.size,1,none⟩=some (.int .i64 0):=cell_grown qj (N0 1);clear hL N0
 go_enter Tryz.func81,Tryz.ntmps81
 go_upto_region 10 with fail
 refine wp_region_quiet_grown hm qk ?_
 repeat(
  with_reducible refine wpQuiet_step (fun K hK=>?_)
  go_simp
  first
   |(with_reducible refine hK _ ?_;clear hK K)
   |(
    apply Exists.intro
    refine⟨fun _=>?_,hK _ ?_⟩
    (first|(go_at_call 111;exact Calls.grown_of (aN _ _ _ _))|(go_at_call 113;exact Calls.grown_of (aJ _ _ _ _))|(go_at_call 31;exact Calls.grown_of (aP _ _ _ _ _ _))|(go_at_call 112;exact Calls.grown_of (aG _ _ _ _ _)))
    clear hK K))
 cases hD:kA d
 ·repeat(
   with_reducible refine wpQuiet_step (fun K hK=>?_)
   go_simp
   first
    |(with_reducible refine hK _ ?_;clear hK K)
    |(
     apply Exists.intro
     refine⟨fun _=>?_,hK _ ?_⟩
     (first|(go_at_call 111;exact Calls.grown_of (aN _ _ _ _))|(go_at_call 113;exact Calls.grown_of (aJ _ _ _ _))|(go_at_call 31;exact Calls.grown_of (aP _ _ _ _ _ _))|(go_at_call 112;exact Calls.grown_of (aG _ _ _ _ _)))
     clear hK K))
  exact zQ21x1
 ·repeat(
   with_reducible refine wpQuiet_step (fun K hK=>?_)
   go_simp
   first
    |(with_reducible refine hK _ ?_;clear hK K)
    |(
     apply Exists.intro
     refine⟨fun _=>?_,hK _ ?_⟩
     (first|(go_at_call 111;exact Calls.grown_of (aN _ _ _ _))|(go_at_call 113;exact Calls.grown_of (aJ _ _ _ _))|(go_at_call 31;exact Calls.grown_of (aP _ _ _ _ _ _))|(go_at_call 112;exact Calls.grown_of (aG _ _ _ _ _)))
     clear hK K))
  cases hF:kG fb fa
  ·repeat(
    with_reducible refine wpQuiet_step (fun K hK=>?_)
    go_simp
    first
     |(with_reducible refine hK _ ?_;clear hK K)
     |(
      apply Exists.intro
      refine⟨fun _=>?_,hK _ ?_⟩
      (first|(go_at_call 111;exact Calls.grown_of (aN _ _ _ _))|(go_at_call 113;exact Calls.grown_of (aJ _ _ _ _))|(go_at_call 31;exact Calls.grown_of (aP _ _ _ _ _ _))|(go_at_call 112;exact Calls.grown_of (aG _ _ _ _ _)))
      clear hK K))
   exact zQ21x1
  ·repeat(
    with_reducible refine wpQuiet_step (fun K hK=>?_)
    go_simp
    first
     |(with_reducible refine hK _ ?_;clear hK K)
     |(
      apply Exists.intro
      refine⟨fun _=>?_,hK _ ?_⟩
      (first|(go_at_call 111;exact Calls.grown_of (aN _ _ _ _))|(go_at_call 113;exact Calls.grown_of (aJ _ _ _ _))|(go_at_call 31;exact Calls.grown_of (aP _ _ _ _ _ _))|(go_at_call 112;exact Calls.grown_of (aG _ _ _ _ _)))
      clear hK K))
   cases hT:kG tb ta
   ·repeat(
     with_reducible refine wpQuiet_step (fun K hK=>?_)
     go_simp
     first
      |(with_reducible refine hK _ ?_;clear hK K)
      |(
       apply Exists.intro
       refine⟨fun _=>?_,hK _ ?_⟩
       (first|(go_at_call 111;exact Calls.grown_of (aN _ _ _ _))|(go_at_call 113;exact Calls.grown_of (aJ _ _ _ _))|(go_at_call 31;exact Calls.grown_of (aP _ _ _ _ _ _))|(go_at_call 112;exact Calls.grown_of (aG _ _ _ _ _)))
       clear hK K))
    exact zQ21x1
   ·repeat(
     with_reducible refine wpQuiet_step (fun K hK=>?_)
     go_simp
     first
      |(with_reducible refine hK _ ?_;clear hK K)
      |(
       apply Exists.intro
       refine⟨fun _=>?_,hK _ ?_⟩
       (first|(go_at_call 111;exact Calls.grown_of (aN _ _ _ _))|(go_at_call 113;exact Calls.grown_of (aJ _ _ _ _))|(go_at_call 31;exact Calls.grown_of (aP _ _ _ _ _ _))|(go_at_call 112;exact Calls.grown_of (aG _ _ _ _ _)))
       clear hK K))
    by_cases hBN:fb=tb
    ·subst hBN
     exact zQ21x0
    ·repeat(
      with_reducible refine wpQuiet_step (fun K hK=>?_)
      go_simp
      first
       |(with_reducible refine hK _ ?_;clear hK K)
       |(
        apply Exists.intro
        refine⟨fun _=>?_,hK _ ?_⟩
        (first|(go_at_call 111;exact Calls.grown_of (aN _ _ _ _))|(go_at_call 113;exact Calls.grown_of (aJ _ _ _ _))|(go_at_call 31;exact Calls.grown_of (aP _ _ _ _ _ _))|(go_at_call 112;exact Calls.grown_of (aG _ _ _ _ _)))
        clear hK K))
     cases hY:aK c 1 4
     ·repeat(
       with_reducible refine wpQuiet_step (fun K hK=>?_)
       go_simp
       first
        |(with_reducible refine hK _ ?_;clear hK K)
        |(
         apply Exists.intro
         refine⟨fun _=>?_,hK _ ?_⟩
         (first|(go_at_call 111;exact Calls.grown_of (aN _ _ _ _))|(go_at_call 113;exact Calls.grown_of (aJ _ _ _ _))|(go_at_call 31;exact Calls.grown_of (aP _ _ _ _ _ _))|(go_at_call 112;exact Calls.grown_of (aG _ _ _ _ _)))
         clear hK K))
      exact zQ21x1
     ·repeat(
       with_reducible refine wpQuiet_step (fun K hK=>?_)
       go_simp
       first
        |(with_reducible refine hK _ ?_;clear hK K)
        |(
         apply Exists.intro
         refine⟨fun _=>?_,hK _ ?_⟩
         (first|(go_at_call 111;exact Calls.grown_of (aN _ _ _ _))|(go_at_call 113;exact Calls.grown_of (aJ _ _ _ _))|(go_at_call 31;exact Calls.grown_of (aP _ _ _ _ _ _))|(go_at_call 112;exact Calls.grown_of (aG _ _ _ _ _)))
         clear hK K))
      exact zQ21x1
theorem Dg (d fb fa tb ta c r:Int)(g o:Nat)(w:World)(H:Hq (oI w g o 6 d fb fa tb ta c r)):
 Calls Tryz.prog 81 #[.pointer (some ⟨g,o,none⟩)] w fun e w'=>e=.returned (.bool (aW 6 d fb fa tb ta c r))∧Below w.heap.size w w':=by
 have hm:Tryz.prog.follows .mixedOrders=true:=by kernel_rfl
 have h0:=H.o.c0;have hg:=H.o.lt;have hL:=(Below.refl w.heap.size w).alloc ql (.cells #[.int .i64 0,.int .i64 0] 65);have HL:=qh hL;have HW:=qh (H.o.below hL);have N0:=vJ w #[.int .i64 0,.int .i64 0] 65;have k0:=cell_grown HW.o.lt HW.o.c0;have k1:=cell_grown HW.o.lt HW.o.c1;have k2:=cell_grown HW.o.lt HW.o.c2;have k4:=cell_grown HW.o.lt HW.o.c4;have k6:=cell_grown HW.o.lt HW.o.c6;have k7:=cell_grown HW.o.lt HW.o.c7;have k3:=cell_grown (a:=⟨g,o+2+1,none⟩) HW.o.lt HW.o.c3;have k5:=cell_grown (a:=⟨g,o+4+1,none⟩) HW.o.lt HW.o.c5;have k8:∀n os,(grow ((w.alloc (.cells #[.int .i64 0,.int .i64 0] 65)).drewN n) os).cell? ⟨w.heap.size,0,none⟩=some (.int .i64 0):=cell_grown qj (N0 0);have k9:∀n os,(grow ((w.alloc (.cells #[.int .i64 0,.int .i64 0] 65)).drewN n) os).cell? ⟨w.heap.size,1,none⟩=some (.int .i64 0):=cell_grown qj (N0 1);clear hL N0
 go_enter Tryz.func81,Tryz.ntmps81
 go_upto_region 12 with fail
 refine wp_region_quiet_grown hm qk ?_
 repeat(
  with_reducible refine wpQuiet_step (fun K hK=>?_)
  go_simp
  first
   |(with_reducible refine hK _ ?_;clear hK K)
   |(
    apply Exists.intro
    refine⟨fun _=>?_,hK _ ?_⟩
    (first|(go_at_call 111;exact Calls.grown_of (aN _ _ _ _))|(go_at_call 113;exact Calls.grown_of (aJ _ _ _ _))|(go_at_call 31;exact Calls.grown_of (aP _ _ _ _ _ _))|(go_at_call 112;exact Calls.grown_of (aG _ _ _ _ _)))
    clear hK K))
 by_cases zd:d=0
 ·subst zd
  repeat(
   with_reducible refine wpQuiet_step (fun K hK=>?_)
   go_simp
   first
    |(with_reducible refine hK _ ?_;clear hK K)
    |(
     apply Exists.intro
     refine⟨fun _=>?_,hK _ ?_⟩
     (first|(go_at_call 111;exact Calls.grown_of (aN _ _ _ _))|(go_at_call 113;exact Calls.grown_of (aJ _ _ _ _))|(go_at_call 31;exact Calls.grown_of (aP _ _ _ _ _ _))|(go_at_call 112;exact Calls.grown_of (aG _ _ _ _ _)))
     clear hK K))
  cases hF:kG fb fa
  ·repeat(
    with_reducible refine wpQuiet_step (fun K hK=>?_)
    go_simp
    first
     |(with_reducible refine hK _ ?_;clear hK K)
     |(
      apply Exists.intro
      refine⟨fun _=>?_,hK _ ?_⟩
      (first|(go_at_call 111;exact Calls.grown_of (aN _ _ _ _))|(go_at_call 113;exact Calls.grown_of (aJ _ _ _ _))|(go_at_call 31;exact Calls.grown_of (aP _ _ _ _ _ _))|(go_at_call 112;exact Calls.grown_of (aG _ _ _ _ _)))
      clear hK K))
   exact zQ21x1
  ·repeat(
    with_reducible refine wpQuiet_step (fun K hK=>?_)
    go_simp
    first
     |(with_reducible refine hK _ ?_;clear hK K)
     |(
      apply Exists.intro
      refine⟨fun _=>?_,hK _ ?_⟩
      (first|(go_at_call 111;exact Calls.grown_of (aN _ _ _ _))|(go_at_call 113;exact Calls.grown_of (aJ _ _ _ _))|(go_at_call 31;exact Calls.grown_of (aP _ _ _ _ _ _))|(go_at_call 112;exact Calls.grown_of (aG _ _ _ _ _)))
      clear hK K))
   by_cases rP:tb=0
   ·subst rP
    by_cases rQ:ta=0
    ·subst rQ
     repeat(
      with_reducible refine wpQuiet_step (fun K hK=>?_)
      go_simp
      first
       |(with_reducible refine hK _ ?_;clear hK K)
       |(
        apply Exists.intro
        refine⟨fun _=>?_,hK _ ?_⟩
        (first|(go_at_call 111;exact Calls.grown_of (aN _ _ _ _))|(go_at_call 113;exact Calls.grown_of (aJ _ _ _ _))|(go_at_call 31;exact Calls.grown_of (aP _ _ _ _ _ _))|(go_at_call 112;exact Calls.grown_of (aG _ _ _ _ _)))
        clear hK K))
     by_cases zc:c=0
     ·subst zc
      exact zQ21x0
     ·have yc:(c==0)=false:=by simpa using zc
      exact zQ21x0
    ·have ou:(ta==0)=false:=by simpa using rQ
     exact zQ21x0
   ·have oh:(tb==0)=false:=by simpa using rP
    exact zQ21x0
 ·have yd:(d==0)=false:=by simpa using zd
  exact zQ21x0
end Go.Proofs.YtdnmhhohcedjbaaGreat
