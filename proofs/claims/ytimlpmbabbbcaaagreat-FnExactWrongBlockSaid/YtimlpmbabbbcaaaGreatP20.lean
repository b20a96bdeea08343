/- Walks and plain lemmas. -/
import Derived.Test.YtimlpmbabbbcaaaGreatP13
set_option linter.unusedVariables false
set_option linter.unusedSimpArgs false
set_option maxHeartbeats 40000000
set_option maxRecDepth 20000
namespace Go.Proofs.YtimlpmbabbbcaaaGreat
open Go.RowKit Go.Sort
theorem zP20x0 {p:Prop}(h:p:=by
 repeat(
  with_reducible refine wpQuiet_step (fun K hK=>?_)
  go_simp
  first
   |(with_reducible refine hK _ ?_;clear hK K)
   |(
    apply Exists.intro
    refine⟨fun _=>?_,hK _ ?_⟩;exact qu;clear hK K))
 with_reducible refine wpQuiet_nil ?_
 intro _ hw';obtain⟨⟨nq,osq⟩,hw''⟩:=hw';subst hw''
 go_wp2_with fail
 go_ret
 exact⟨qr (by simp_all [bD]),below_grown HL.o qj _ _⟩):p:=h
theorem zP20x1 {p:Prop}(h:p:=by
 with_reducible refine wpQuiet_nil ?_
 intro _ hw';obtain⟨⟨nq,osq⟩,hw''⟩:=hw';subst hw''
 go_wp2_with fail
 go_ret
 exact⟨qr (by simp_all [bD]),below_grown HL.o qj _ _⟩):p:=h
theorem Cv (d fb fa tb ta c r:Int)(g o:Nat)(w:World)(H:Hq (pJ w g o 5 d fb fa tb ta c r)):
 Calls Tryz.prog 45 #[.pointer (some ⟨g,o,none⟩)] w fun e w'=>e=.returned (.bool (bD 5 d fb fa tb ta c r))∧Below w.heap.size w w':=by
 have hm:Tryz.prog.follows .mixedOrders=true:=by kernel_rfl
 have h0:=H.o.c0;have hg:=H.o.lt;have hL:=(Below.refl w.heap.size w).alloc ql (.cells #[.int .i64 0,.int .i64 0] 49);have HL:=qh hL;have HW:=qh (H.o.below hL);have N0:=kN w #[.int .i64 0,.int .i64 0] 49;have k0:=cell_grown HW.o.lt HW.o.c0;have k1:=cell_grown HW.o.lt HW.o.c1;have k2:=cell_grown HW.o.lt HW.o.c2;have k4:=cell_grown HW.o.lt HW.o.c4;have k6:=cell_grown HW.o.lt HW.o.c6;have k7:=cell_grown HW.o.lt HW.o.c7;have k3:=cell_grown (a:=⟨g,o+2+1,none⟩) HW.o.lt HW.o.c3;have k5:=cell_grown (a:=⟨g,o+4+1,none⟩) HW.o.lt HW.o.c5;have k8:∀n os,(grow ((w.alloc (.cells #[.int .i64 0,.int .i64 0] 49)).drewN n) os).cell? ⟨w.heap.size,0,none⟩=some (.int .i64 0):=cell_grown qj (N0 0);have k9:∀n os,(grow ((w.alloc (.cells #[.int .i64 0,.int .i64 0] 49)).drewN n) os).cell? ⟨w.heap.size,1,none⟩=some (.int .i64 0):=cell_grown qj (N0 1);clear hL N0
 go_enter Tryz.func45,Tryz.ntmps45
 go_upto_region 10 with fail
 refine wp_region_quiet_grown hm qk ?_
 repeat(
  with_reducible refine wpQuiet_step (fun K hK=>?_)
  go_simp
  first
   |(with_reducible refine hK _ ?_;clear hK K)
   |(
    apply Exists.intro
    refine⟨fun _=>?_,hK _ ?_⟩;exact qu;clear hK K))
 cases hD:gQ d
 ·repeat(
   with_reducible refine wpQuiet_step (fun K hK=>?_)
   go_simp
   first
    |(with_reducible refine hK _ ?_;clear hK K)
    |(
     apply Exists.intro
     refine⟨fun _=>?_,hK _ ?_⟩;exact qu;clear hK K))
  exact zP20x1
 ·repeat(
   with_reducible refine wpQuiet_step (fun K hK=>?_)
   go_simp
   first
    |(with_reducible refine hK _ ?_;clear hK K)
    |(
     apply Exists.intro
     refine⟨fun _=>?_,hK _ ?_⟩;exact qu;clear hK K))
  cases hF:nB fb fa
  ·repeat(
    with_reducible refine wpQuiet_step (fun K hK=>?_)
    go_simp
    first
     |(with_reducible refine hK _ ?_;clear hK K)
     |(
      apply Exists.intro
      refine⟨fun _=>?_,hK _ ?_⟩;exact qu;clear hK K))
   exact zP20x1
  ·repeat(
    with_reducible refine wpQuiet_step (fun K hK=>?_)
    go_simp
    first
     |(with_reducible refine hK _ ?_;clear hK K)
     |(
      apply Exists.intro
      refine⟨fun _=>?_,hK _ ?_⟩;exact qu;clear hK K))
   cases hT:nB tb ta
   ·repeat(
     with_reducible refine wpQuiet_step (fun K hK=>?_)
     go_simp
     first
      |(with_reducible refine hK _ ?_;clear hK K)
      |(
       apply Exists.intro
       refine⟨fun _=>?_,hK _ ?_⟩;exact qu;clear hK K))
    exact zP20x1
   ·repeat(
     with_reducible refine wpQuiet_step (fun K hK=>?_)
     go_simp
     first
      |(with_reducible refine hK _ ?_;clear hK K)
      |(
       apply Exists.intro
       refine⟨fun _=>?_,hK _ ?_⟩;exact qu;clear hK K))
    by_cases hBN:fb=tb
    ·subst hBN
     exact zP20x0
    ·repeat(
      with_reducible refine wpQuiet_step (fun K hK=>?_)
      go_simp
      first
       |(with_reducible refine hK _ ?_;clear hK K)
       |(
        apply Exists.intro
        refine⟨fun _=>?_,hK _ ?_⟩;exact qu;clear hK K))
     cases hY:aJ c 1 4
     ·repeat(
       with_reducible refine wpQuiet_step (fun K hK=>?_)
       go_simp
       first
        |(with_reducible refine hK _ ?_;clear hK K)
        |(
         apply Exists.intro
         refine⟨fun _=>?_,hK _ ?_⟩;exact qu;clear hK K))
      exact zP20x1
     ·repeat(
       with_reducible refine wpQuiet_step (fun K hK=>?_)
       go_simp
       first
        |(with_reducible refine hK _ ?_;clear hK K)
        |(
         apply Exists.intro
         refine⟨fun _=>?_,hK _ ?_⟩;exact qu;clear hK K))
      exact zP20x1
theorem Cu (d fb fa tb ta c r:Int)(g o:Nat)(w:World)(H:Hq (pJ w g o 6 d fb fa tb ta c r)):
 Calls Tryz.prog 45 #[.pointer (some ⟨g,o,none⟩)] w fun e w'=>e=.returned (.bool (bD 6 d fb fa tb ta c r))∧Below w.heap.size w w':=by
 have hm:Tryz.prog.follows .mixedOrders=true:=by kernel_rfl
 have h0:=H.o.c0;have hg:=H.o.lt;have hL:=(Below.refl w.heap.size w).alloc ql (.cells #[.int .i64 0,.int .i64 0] 49);have HL:=qh hL;have HW:=qh (H.o.below hL);have N0:=kN w #[.int .i64 0,.int .i64 0] 49;have k0:=cell_grown HW.o.lt HW.o.c0;have k1:=cell_grown HW.o.lt HW.o.c1;have k2:=cell_grown HW.o.lt HW.o.c2;have k4:=cell_grown HW.o.lt HW.o.c4;have k6:=cell_grown HW.o.lt HW.o.c6;have k7:=cell_grown HW.o.lt HW.o.c7;have k3:=cell_grown (a:=⟨g,o+2+1,none⟩) HW.o.lt HW.o.c3;have k5:=cell_grown (a:=⟨g,o+4+1,none⟩) HW.o.lt HW.o.c5;have k8:∀n os,(grow ((w.alloc (.cells #[.int .i64 0,.int .i64 0] 49)).drewN n) os).cell? ⟨w.heap.size,0,none⟩=some (.int .i64 0):=cell_grown qj (N0 0);have k9:∀n os,(grow ((w.alloc (.cells #[.int .i64 0,.int .i64 0] 49)).drewN n) os).cell? ⟨w.heap.size,1,none⟩=some (.int .i64 0):=cell_grown qj (N0 1);clear hL N0
 go_enter Tryz.func45,Tryz.ntmps45
 go_upto_region 12 with fail
 refine wp_region_quiet_grown hm qk ?_
 repeat(
  with_reducible refine wpQuiet_step (fun K hK=>?_)
  go_simp
  first
   |(with_reducible refine hK _ ?_;clear hK K)
   |(
    apply Exists.intro
    refine⟨fun _=>?_,hK _ ?_⟩;exact qu;clear hK K))
 by_cases zd:d=0
 ·subst zd
  repeat(
   with_reducible refine wpQuiet_step (fun K hK=>?_)
   go_simp
   first
    |(with_reducible refine hK _ ?_;clear hK K)
    |(
     apply Exists.intro
     refine⟨fun _=>?_,hK _ ?_⟩;exact qu;clear hK K))
  cases hF:nB fb fa
  ·repeat(
    with_reducible refine wpQuiet_step (fun K hK=>?_)
    go_simp
    first
     |(with_reducible refine hK _ ?_;clear hK K)
     |(
      apply Exists.intro
      refine⟨fun _=>?_,hK _ ?_⟩;exact qu;clear hK K))
   exact zP20x1
  ·repeat(
    with_reducible refine wpQuiet_step (fun K hK=>?_)
    go_simp
    first
     |(with_reducible refine hK _ ?_;clear hK K)
     |(
      apply Exists.intro
      refine⟨fun _=>?_,hK _ ?_⟩;exact qu;clear hK K))
   by_cases sM:tb=0
   ·subst sM
    by_cases sN:ta=0
    ·subst sN
     repeat(
      with_reducible refine wpQuiet_step (fun K hK=>?_)
      go_simp
      first
       |(with_reducible refine hK _ ?_;clear hK K)
       |(
        apply Exists.intro
        refine⟨fun _=>?_,hK _ ?_⟩;exact qu;clear hK K))
     by_cases zc:c=0
     ·subst zc
      exact zP20x0
     ·have yc:(c==0)=false:=by simpa using zc
      exact zP20x0
    ·have lu:(ta==0)=false:=by simpa using sN
     exact zP20x0
   ·have lq:(tb==0)=false:=by simpa using sM
    exact zP20x0
 ·have yd:(d==0)=false:=by simpa using zd
  exact zP20x0
end Go.Proofs.YtimlpmbabbbcaaaGreat
