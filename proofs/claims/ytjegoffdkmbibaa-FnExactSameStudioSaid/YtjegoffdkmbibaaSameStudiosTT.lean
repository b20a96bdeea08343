/- Walks: equality of states, by the reference and by the program. No condition but the bounds. (Printed by wip/samestudiogen.py.) -/
import Derived.Test.YtjegoffdkmbibaaSameStudios
import Derived.RegionTactic
import Derived.Deep.RegionWith
import Derived.Deep.RegionHeld3
import Derived.Deep.RegionLaw
namespace Go.Proofs.Ytjegoffdkmbibaa
open Go.RowKit
set_option maxRecDepth 100000
attribute [local go_sem ↓] Go.wp_at_zero Go.wp_at_succ


set_option maxHeartbeats 40000000 in
theorem implSameStudioTT (x1 s1 : Int) (A1 O1 B1 : Option Addr) (n1 q1 m1 p1 l1 t1 : Nat) (d1 c1 : Nat → Int) (As1 : Nat → Option Addr) (ns1 cs1 : Nat → Nat) (z1 : Nat → Nat → Int) (o1 b1 : Nat → Int) (x2 s2 : Int) (A2 O2 B2 : Option Addr) (n2 q2 m2 p2 l2 t2 : Nat) (d2 c2 : Nat → Int) (As2 : Nat → Option Addr) (ns2 cs2 : Nat → Nat) (z2 : Nat → Nat → Int) (o2 b2 : Nat → Int) (w : World) (hA1 : RdRows A1 n1 d1 c1 As1 ns1 cs1 z1 w) (hO1 : Rd w O1 (m1 * 8) (fun j => .int .i64 (o1 j))) (hB1 : Rd w B1 l1 (fun j => .int .i64 (b1 j))) (hA2 : RdRows A2 n2 d2 c2 As2 ns2 cs2 z2 w) (hO2 : Rd w O2 (m2 * 8) (fun j => .int .i64 (o2 j))) (hB2 : Rd w B2 l2 (fun j => .int .i64 (b2 j))) (hn1 : n1 ≤ 1048576) (hns1 : ∀ j, j < n1 → ns1 j ≤ 1048576) (hm1 : m1 ≤ 1048576) (hl1 : l1 ≤ 1048576) (hn2 : n2 ≤ 1048576) (hns2 : ∀ j, j < n2 → ns2 j ≤ 1048576) (hm2 : m2 ≤ 1048576) (hl2 : l2 ≤ 1048576) (hv1 : (decide (x1 = x2) && eqLR n1 d1 c1 ns1 z1 n2 d2 c2 ns2 z2) = true) (hv2 : (eqL8 m1 o1 m2 o2) = true) :
    Calls Try.prog 46 #[.agg #[.int .i64 x1, .slice A1 n1 q1, .slice O1 m1 p1, .int .i64 s1, .slice B1 l1 t1], .agg #[.int .i64 x2, .slice A2 n2 q2, .slice O2 m2 p2, .int .i64 s2, .slice B2 l2 t2]] w (SameP w ((decide (x1 = x2) && eqLR n1 d1 c1 ns1 z1 n2 d2 c2 ns2 z2) && (eqL8 m1 o1 m2 o2) && (decide (s1 = s2) && eqL l1 b1 l2 b2))) := by
  have hw0 : Below w.heap.size w ((w.alloc (.cells #[.int .i64 x1, .slice A1 n1 q1, .slice O1 m1 p1, .int .i64 s1, .slice B1 l1 t1] 41)).alloc (.cells #[.int .i64 x2, .slice A2 n2 q2, .slice O2 m2 p2, .int .i64 s2, .slice B2 l2 t2] 41)) := by (repeat' first | with_reducible exact Below.refl _ _ | with_reducible refine Below.alloc ?_ ?_ _ | with_reducible refine Below.setCell ?_ ?_ _ | with_reducible refine Below.drew ?_ | with_reducible refine Below.drewN' ?_ _ | with_reducible (refine Below.trans ?_ (Below.mono (by assumption) ?_)) | exact Nat.le_refl _ | (simp; done) | (simp; omega) | omega)
  have hx : ∀ o, ((w.alloc (.cells #[.int .i64 x1, .slice A1 n1 q1, .slice O1 m1 p1, .int .i64 s1, .slice B1 l1 t1] 41)).alloc (.cells #[.int .i64 x2, .slice A2 n2 q2, .slice O2 m2 p2, .int .i64 s2, .slice B2 l2 t2] 41)).cell? ⟨w.heap.size, o, none⟩ = (#[.int .i64 x1, .slice A1 n1 q1, .slice O1 m1 p1, .int .i64 s1, .slice B1 l1 t1] : Array Value)[o]? := fun o => ((bcell ((Below.refl _ _).alloc (Nat.le_refl _) _)).1 _ o (by simp)).trans (cell_alloc_at rfl o)
  have hy : ∀ o, ((w.alloc (.cells #[.int .i64 x1, .slice A1 n1 q1, .slice O1 m1 p1, .int .i64 s1, .slice B1 l1 t1] 41)).alloc (.cells #[.int .i64 x2, .slice A2 n2 q2, .slice O2 m2 p2, .int .i64 s2, .slice B2 l2 t2] 41)).cell? ⟨w.heap.size + 1, o, none⟩ = (#[.int .i64 x2, .slice A2 n2 q2, .slice O2 m2 p2, .int .i64 s2, .slice B2 l2 t2] : Array Value)[o]? := fun o => cell_alloc_at (by simp) o
  have HX := Lib.hid hx
  have HY := Lib.hid hy
  have LA1 := Lib.hid (rdRows_obj A1 n1 d1 c1 As1 ns1 cs1 z1)
  have LA2 := Lib.hid (rdRows_obj A2 n2 d2 c2 As2 ns2 cs2 z2)
  have HA1 := Lib.hid hA1
  have HA2 := Lib.hid hA2
  have HO1 := Lib.hid hO1
  have HO2 := Lib.hid hO2
  have HB1 := Lib.hid hB1
  have HB2 := Lib.hid hB2
  have HW := Lib.hid hw0
  have HNS1 := Lib.hid hns1
  have HNS2 := Lib.hid hns2
  have hCh : ∀ W, Below w.heap.size w W → Calls Try.prog 84 #[.agg #[.int .i64 x1, .slice A1 n1 q1], .agg #[.int .i64 x2, .slice A2 n2 q2]] W (SameP W (decide (x1 = x2) && eqLR n1 d1 c1 ns1 z1 n2 d2 c2 ns2 z2)) := fun W h => implSameChart_any x1 x2 A1 A2 n1 n2 q1 q2 d1 c1 d2 c2 As1 As2 ns1 cs1 ns2 cs2 z1 z2 W (LA1.out.below HA1.out h) (LA2.out.below HA2.out h) hn1 hn2 HNS1.out HNS2.out
  have hOp : ∀ W, Below w.heap.size w W → Calls Try.prog 86 #[.slice O1 m1 p1, .slice O2 m2 p2] W fun e w' => e = .returned (.bool (eqL8 m1 o1 m2 o2)) ∧ ∃ q, w' = W.drewN q := fun W h => eqOG_any O1 O2 m1 m2 p1 p2 o1 o2 W (HO1.out.below h) (HO2.out.below h) hm1 hm2
  have hBr : ∀ W, Below w.heap.size w W → Calls Try.prog 87 #[.agg #[.int .i64 s1, .slice B1 l1 t1], .agg #[.int .i64 s2, .slice B2 l2 t2]] W (SameP W (decide (s1 = s2) && eqL l1 b1 l2 b2)) := fun W h => implSameBraid_any s1 s2 B1 B2 l1 l2 t1 t2 b1 b2 W (HB1.out.below h) (HB2.out.below h) hl1 hl2
  have HCH := Lib.hid hCh
  have HOP := Lib.hid hOp
  have HBR := Lib.hid hBr
  clear hA1 hA2 hO1 hO2 hB1 hB2 hw0 hns1 hns2 hCh hOp hBr
  have HV1 := Lib.hid hv1
  clear hv1
  have HV2 := Lib.hid hv2
  clear hv2
  go_enter Try.func46, Try.ntmps46
  go_wp2_with fail
  go_region_with (first
    | (go_at_call_of 85 (Value.slice A1 n1 q1); refine (chart_any x1 s1 A1 O1 B1 n1 q1 m1 p1 l1 t1 _).mono ?_; rintro e w1 ⟨rfl, hb1⟩; have HC1 : Hid (Below ((w.alloc (.cells #[.int .i64 x1, .slice A1 n1 q1, .slice O1 m1 p1, .int .i64 s1, .slice B1 l1 t1] 41)).alloc (.cells #[.int .i64 x2, .slice A2 n2 q2, .slice O2 m2 p2, .int .i64 s2, .slice B2 l2 t2] 41)).heap.size ((w.alloc (.cells #[.int .i64 x1, .slice A1 n1 q1, .slice O1 m1 p1, .int .i64 s1, .slice B1 l1 t1] 41)).alloc (.cells #[.int .i64 x2, .slice A2 n2 q2, .slice O2 m2 p2, .int .i64 s2, .slice B2 l2 t2] 41)) w1) := Lib.hid (((Below.refl _ _).drew).trans (hb1.mono (by simp))); clear hb1; have kx1 : ∀ o, w1.cell? ⟨w.heap.size, o, none⟩ = (#[.int .i64 x1, .slice A1 n1 q1, .slice O1 m1 p1, .int .i64 s1, .slice B1 l1 t1] : Array Value)[o]? := (fun o => ((bcell HC1.out).1 _ o (by simp; omega)).trans (HX.out o)); have ky1 : ∀ o, w1.cell? ⟨w.heap.size + 1, o, none⟩ = (#[.int .i64 x2, .slice A2 n2 q2, .slice O2 m2 p2, .int .i64 s2, .slice B2 l2 t2] : Array Value)[o]? := (fun o => ((bcell HC1.out).1 _ o (by simp)).trans (HY.out o)))
    | (go_at_call_of 85 (Value.slice A2 n2 q2); refine (chart_any x2 s2 A2 O2 B2 n2 q2 m2 p2 l2 t2 _).mono ?_; rintro e w2 ⟨rfl, hb2⟩; have HC2 : Hid (Below ((w.alloc (.cells #[.int .i64 x1, .slice A1 n1 q1, .slice O1 m1 p1, .int .i64 s1, .slice B1 l1 t1] 41)).alloc (.cells #[.int .i64 x2, .slice A2 n2 q2, .slice O2 m2 p2, .int .i64 s2, .slice B2 l2 t2] 41)).heap.size ((w.alloc (.cells #[.int .i64 x1, .slice A1 n1 q1, .slice O1 m1 p1, .int .i64 s1, .slice B1 l1 t1] 41)).alloc (.cells #[.int .i64 x2, .slice A2 n2 q2, .slice O2 m2 p2, .int .i64 s2, .slice B2 l2 t2] 41)) w2) := Lib.hid (HC1.out.trans (hb2.mono HC1.out.size)); clear hb2; have kx2 : ∀ o, w2.cell? ⟨w.heap.size, o, none⟩ = (#[.int .i64 x1, .slice A1 n1 q1, .slice O1 m1 p1, .int .i64 s1, .slice B1 l1 t1] : Array Value)[o]? := (fun o => ((bcell HC2.out).1 _ o (by simp; omega)).trans (HX.out o)); have ky2 : ∀ o, w2.cell? ⟨w.heap.size + 1, o, none⟩ = (#[.int .i64 x2, .slice A2 n2 q2, .slice O2 m2 p2, .int .i64 s2, .slice B2 l2 t2] : Array Value)[o]? := (fun o => ((bcell HC2.out).1 _ o (by simp)).trans (HY.out o)))
    | (go_at_call 84; refine (HCH.out _ (HW.out.trans (HC2.out.mono HW.out.size))).mono ?_; rintro e w3 ⟨rfl, hb3⟩; rw [HV1.out]; have HC3 : Hid (Below ((w.alloc (.cells #[.int .i64 x1, .slice A1 n1 q1, .slice O1 m1 p1, .int .i64 s1, .slice B1 l1 t1] 41)).alloc (.cells #[.int .i64 x2, .slice A2 n2 q2, .slice O2 m2 p2, .int .i64 s2, .slice B2 l2 t2] 41)).heap.size ((w.alloc (.cells #[.int .i64 x1, .slice A1 n1 q1, .slice O1 m1 p1, .int .i64 s1, .slice B1 l1 t1] 41)).alloc (.cells #[.int .i64 x2, .slice A2 n2 q2, .slice O2 m2 p2, .int .i64 s2, .slice B2 l2 t2] 41)) w3) := Lib.hid (HC2.out.trans (hb3.mono HC2.out.size)); clear hb3; have kx3 : ∀ o, w3.cell? ⟨w.heap.size, o, none⟩ = (#[.int .i64 x1, .slice A1 n1 q1, .slice O1 m1 p1, .int .i64 s1, .slice B1 l1 t1] : Array Value)[o]? := (fun o => ((bcell HC3.out).1 _ o (by simp; omega)).trans (HX.out o)); have ky3 : ∀ o, w3.cell? ⟨w.heap.size + 1, o, none⟩ = (#[.int .i64 x2, .slice A2 n2 q2, .slice O2 m2 p2, .int .i64 s2, .slice B2 l2 t2] : Array Value)[o]? := (fun o => ((bcell HC3.out).1 _ o (by simp)).trans (HY.out o)))
    | (go_at_call 86; refine (HOP.out _ (HW.out.trans (HC3.out.mono HW.out.size))).mono ?_; rintro e w4 ⟨rfl, k, hw4⟩; rw [HV2.out]; have HC4 : Hid (Below ((w.alloc (.cells #[.int .i64 x1, .slice A1 n1 q1, .slice O1 m1 p1, .int .i64 s1, .slice B1 l1 t1] 41)).alloc (.cells #[.int .i64 x2, .slice A2 n2 q2, .slice O2 m2 p2, .int .i64 s2, .slice B2 l2 t2] 41)).heap.size ((w.alloc (.cells #[.int .i64 x1, .slice A1 n1 q1, .slice O1 m1 p1, .int .i64 s1, .slice B1 l1 t1] 41)).alloc (.cells #[.int .i64 x2, .slice A2 n2 q2, .slice O2 m2 p2, .int .i64 s2, .slice B2 l2 t2] 41)) w4) := Lib.hid (hw4 ▸ Below.drewN' HC3.out k); clear hw4; have kx4 : ∀ o, w4.cell? ⟨w.heap.size, o, none⟩ = (#[.int .i64 x1, .slice A1 n1 q1, .slice O1 m1 p1, .int .i64 s1, .slice B1 l1 t1] : Array Value)[o]? := (fun o => ((bcell HC4.out).1 _ o (by simp; omega)).trans (HX.out o)); have ky4 : ∀ o, w4.cell? ⟨w.heap.size + 1, o, none⟩ = (#[.int .i64 x2, .slice A2 n2 q2, .slice O2 m2 p2, .int .i64 s2, .slice B2 l2 t2] : Array Value)[o]? := (fun o => ((bcell HC4.out).1 _ o (by simp)).trans (HY.out o)))
    | (go_at_call 87; refine (HBR.out _ (HW.out.trans (HC4.out.mono HW.out.size))).mono ?_; rintro e w5 ⟨rfl, hb5⟩; have HC5 : Hid (Below ((w.alloc (.cells #[.int .i64 x1, .slice A1 n1 q1, .slice O1 m1 p1, .int .i64 s1, .slice B1 l1 t1] 41)).alloc (.cells #[.int .i64 x2, .slice A2 n2 q2, .slice O2 m2 p2, .int .i64 s2, .slice B2 l2 t2] 41)).heap.size ((w.alloc (.cells #[.int .i64 x1, .slice A1 n1 q1, .slice O1 m1 p1, .int .i64 s1, .slice B1 l1 t1] 41)).alloc (.cells #[.int .i64 x2, .slice A2 n2 q2, .slice O2 m2 p2, .int .i64 s2, .slice B2 l2 t2] 41)) w5) := Lib.hid (HC4.out.trans (hb5.mono HC4.out.size)); clear hb5; have kx5 : ∀ o, w5.cell? ⟨w.heap.size, o, none⟩ = (#[.int .i64 x1, .slice A1 n1 q1, .slice O1 m1 p1, .int .i64 s1, .slice B1 l1 t1] : Array Value)[o]? := (fun o => ((bcell HC5.out).1 _ o (by simp; omega)).trans (HX.out o)); have ky5 : ∀ o, w5.cell? ⟨w.heap.size + 1, o, none⟩ = (#[.int .i64 x2, .slice A2 n2 q2, .slice O2 m2 p2, .int .i64 s2, .slice B2 l2 t2] : Array Value)[o]? := (fun o => ((bcell HC5.out).1 _ o (by simp)).trans (HY.out o))))
  all_goals
    go_wp2
    go_ret
    exact ⟨by rw [HV1.out, HV2.out]; kernel_rfl, HW.out.trans (HC5.out.mono HW.out.size)⟩
end Go.Proofs.Ytjegoffdkmbibaa
