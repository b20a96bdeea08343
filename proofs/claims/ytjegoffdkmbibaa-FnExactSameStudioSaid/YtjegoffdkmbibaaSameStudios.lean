/- Walks: equality of states, by the reference and by the program. No condition but the bounds. (Printed by wip/samestudiogen.py.) -/
import Derived.Test.YtjegoffdkmbibaaSameRows
import Derived.RegionTactic
import Derived.Deep.RegionHeld3
import Derived.Deep.RegionLaw
namespace Go.Proofs.Ytjegoffdkmbibaa
open Go.RowKit
set_option maxRecDepth 100000
attribute [local go_sem ↓] Go.wp_at_zero Go.wp_at_succ

theorem l31Chart_any (g : Nat) (x : Int) (A : Option Addr) (n q : Nat) (w : World) (h0 : w.cell? ⟨g, 0, none⟩ = some (.int .i64 x)) (h1 : w.cell? ⟨g, 1, none⟩ = some (.slice A n q)) :
    Calls Try.prog 79 #[.pointer (some ⟨g, 0, none⟩)] w fun e w' => e = .returned (.agg #[.int .i64 x, .slice A n q]) ∧ Below w.heap.size w w' := by
  have hg := World.block_lt_of_cell? w _ h0
  have k0 := (World.cell?_alloc_lt w (.cells #[.int .i64 0, .slice none 0 0] 92) ⟨g, 0, none⟩ hg).trans h0
  have k1 := (World.cell?_alloc_lt w (.cells #[.int .i64 0, .slice none 0 0] 92) ⟨g, 1, none⟩ hg).trans h1
  go_enter Try.func79, Try.ntmps79
  go_wp2_with fail
  go_region
  all_goals
    go_wp2
    refine bodyPost_ret (v := .agg #[.int .i64 x, .slice A n q]) (by simp [results, Try.results79, go_sem]) rfl ⟨rfl, ?_⟩
    (repeat' first | with_reducible exact Below.refl _ _ | with_reducible refine Below.alloc ?_ ?_ _ | with_reducible refine Below.setCell ?_ ?_ _ | with_reducible refine Below.drew ?_ | with_reducible refine Below.drewN' ?_ _ | with_reducible (refine Below.trans ?_ (Below.mono (by assumption) ?_)) | exact Nat.le_refl _ | (simp; done) | (simp; omega) | omega)
theorem chart_any (x s : Int) (A O B : Option Addr) (n q m p l t : Nat) (w : World) :
    Calls Try.prog 85 #[.agg #[.int .i64 x, .slice A n q, .slice O m p, .int .i64 s, .slice B l t]] w fun e w' => e = .returned (.agg #[.int .i64 x, .slice A n q]) ∧ Below w.heap.size w w' := by
  go_enter Try.func85, Try.ntmps85
  go_wp2
  refine bodyPost_ret (v := .agg #[.int .i64 x, .slice A n q]) (by simp [results, Try.results85, go_sem]) rfl ⟨rfl, ?_⟩
  (repeat' first | with_reducible exact Below.refl _ _ | with_reducible refine Below.alloc ?_ ?_ _ | with_reducible refine Below.setCell ?_ ?_ _ | with_reducible refine Below.drew ?_ | with_reducible refine Below.drewN' ?_ _ | with_reducible (refine Below.trans ?_ (Below.mono (by assumption) ?_)) | exact Nat.le_refl _ | (simp; done) | (simp; omega) | omega)

set_option maxHeartbeats 40000000 in
theorem specSameStudio_any (x1 s1 : Int) (A1 O1 B1 : Option Addr) (n1 q1 m1 p1 l1 t1 : Nat) (d1 c1 : Nat → Int) (As1 : Nat → Option Addr) (ns1 cs1 : Nat → Nat) (z1 : Nat → Nat → Int) (o1 b1 : Nat → Int) (x2 s2 : Int) (A2 O2 B2 : Option Addr) (n2 q2 m2 p2 l2 t2 : Nat) (d2 c2 : Nat → Int) (As2 : Nat → Option Addr) (ns2 cs2 : Nat → Nat) (z2 : Nat → Nat → Int) (o2 b2 : Nat → Int) (w : World) (hA1 : RdRows A1 n1 d1 c1 As1 ns1 cs1 z1 w) (hO1 : Rd w O1 (m1 * 8) (fun j => .int .i64 (o1 j))) (hB1 : Rd w B1 l1 (fun j => .int .i64 (b1 j))) (hA2 : RdRows A2 n2 d2 c2 As2 ns2 cs2 z2 w) (hO2 : Rd w O2 (m2 * 8) (fun j => .int .i64 (o2 j))) (hB2 : Rd w B2 l2 (fun j => .int .i64 (b2 j))) (hn1 : n1 ≤ 1048576) (hns1 : ∀ j, j < n1 → ns1 j ≤ 1048576) (hm1 : m1 ≤ 1048576) (hl1 : l1 ≤ 1048576) (hn2 : n2 ≤ 1048576) (hns2 : ∀ j, j < n2 → ns2 j ≤ 1048576) (hm2 : m2 ≤ 1048576) (hl2 : l2 ≤ 1048576) :
    Calls Try.prog 44 #[.agg #[.int .i64 x1, .slice A1 n1 q1, .slice O1 m1 p1, .int .i64 s1, .slice B1 l1 t1], .agg #[.int .i64 x2, .slice A2 n2 q2, .slice O2 m2 p2, .int .i64 s2, .slice B2 l2 t2]] w (SameP w ((decide (x1 = x2) && eqLR n1 d1 c1 ns1 z1 n2 d2 c2 ns2 z2) && (eqL8 m1 o1 m2 o2) && (decide (s1 = s2) && eqL l1 b1 l2 b2))) := by
  have hw0 : Below w.heap.size w ((w.alloc (.cells #[.int .i64 x1, .slice A1 n1 q1, .slice O1 m1 p1, .int .i64 s1, .slice B1 l1 t1] 41)).alloc (.cells #[.int .i64 x2, .slice A2 n2 q2, .slice O2 m2 p2, .int .i64 s2, .slice B2 l2 t2] 41)) := by (repeat' first | with_reducible exact Below.refl _ _ | with_reducible refine Below.alloc ?_ ?_ _ | with_reducible refine Below.setCell ?_ ?_ _ | with_reducible refine Below.drew ?_ | with_reducible refine Below.drewN' ?_ _ | with_reducible (refine Below.trans ?_ (Below.mono (by assumption) ?_)) | exact Nat.le_refl _ | (simp; done) | (simp; omega) | omega)
  have hx : ∀ o, ((w.alloc (.cells #[.int .i64 x1, .slice A1 n1 q1, .slice O1 m1 p1, .int .i64 s1, .slice B1 l1 t1] 41)).alloc (.cells #[.int .i64 x2, .slice A2 n2 q2, .slice O2 m2 p2, .int .i64 s2, .slice B2 l2 t2] 41)).cell? ⟨w.heap.size, o, none⟩ = (#[.int .i64 x1, .slice A1 n1 q1, .slice O1 m1 p1, .int .i64 s1, .slice B1 l1 t1] : Array Value)[o]? := fun o => ((bcell ((Below.refl _ _).alloc (Nat.le_refl _) _)).1 _ o (by simp)).trans (cell_alloc_at rfl o)
  have hy : ∀ o, ((w.alloc (.cells #[.int .i64 x1, .slice A1 n1 q1, .slice O1 m1 p1, .int .i64 s1, .slice B1 l1 t1] 41)).alloc (.cells #[.int .i64 x2, .slice A2 n2 q2, .slice O2 m2 p2, .int .i64 s2, .slice B2 l2 t2] 41)).cell? ⟨w.heap.size + 1, o, none⟩ = (#[.int .i64 x2, .slice A2 n2 q2, .slice O2 m2 p2, .int .i64 s2, .slice B2 l2 t2] : Array Value)[o]? := fun o => cell_alloc_at (by simp) o
  have HX := Lib.hid hx
  have HY := Lib.hid hy
  have LA1 := Lib.hid (rdRows_obj A1 n1 d1 c1 As1 ns1 cs1 z1)
  have LA2 := Lib.hid (rdRows_obj A2 n2 d2 c2 As2 ns2 cs2 z2)
  have HA1 := Lib.hid hA1
  have HA2 := Lib.hid hA2
  have HO1 := Lib.hid hO1
  have HO2 := Lib.hid hO2
  have HB1 := Lib.hid hB1
  have HB2 := Lib.hid hB2
  have HW := Lib.hid hw0
  have HNS1 := Lib.hid hns1
  have HNS2 := Lib.hid hns2
  have hCh : ∀ W, Below w.heap.size w W → Calls Try.prog 78 #[.agg #[.int .i64 x1, .slice A1 n1 q1], .agg #[.int .i64 x2, .slice A2 n2 q2]] W (SameP W (decide (x1 = x2) && eqLR n1 d1 c1 ns1 z1 n2 d2 c2 ns2 z2)) := fun W h => specSameChart_any x1 x2 A1 A2 n1 n2 q1 q2 d1 c1 d2 c2 As1 As2 ns1 cs1 ns2 cs2 z1 z2 W (LA1.out.below HA1.out h) (LA2.out.below HA2.out h) hn1 hn2 HNS1.out HNS2.out
  have hOp : ∀ W, Below w.heap.size w W → Calls Try.prog 80 #[.slice O1 m1 p1, .slice O2 m2 p2] W fun e w' => e = .returned (.bool (eqL8 m1 o1 m2 o2)) ∧ ∃ q, w' = W.drewN q := fun W h => eqOS_any O1 O2 m1 m2 p1 p2 o1 o2 W (HO1.out.below h) (HO2.out.below h) hm1 hm2
  have hBr : ∀ W, Below w.heap.size w W → Calls Try.prog 81 #[.agg #[.int .i64 s1, .slice B1 l1 t1], .agg #[.int .i64 s2, .slice B2 l2 t2]] W (SameP W (decide (s1 = s2) && eqL l1 b1 l2 b2)) := fun W h => specSameBraid_any s1 s2 B1 B2 l1 l2 t1 t2 b1 b2 W (HB1.out.below h) (HB2.out.below h) hl1 hl2
  have HCH := Lib.hid hCh
  have HOP := Lib.hid hOp
  have HBR := Lib.hid hBr
  clear hA1 hA2 hO1 hO2 hB1 hB2 hw0 hns1 hns2 hCh hOp hBr
  obtain ⟨v1, hv1⟩ : ∃ v, v = (decide (x1 = x2) && eqLR n1 d1 c1 ns1 z1 n2 d2 c2 ns2 z2) := ⟨_, rfl⟩
  obtain ⟨v2, hv2⟩ : ∃ v, v = (eqL8 m1 o1 m2 o2) := ⟨_, rfl⟩
  obtain ⟨v3, hv3⟩ : ∃ v, v = (decide (s1 = s2) && eqL l1 b1 l2 b2) := ⟨_, rfl⟩
  have HV1 := Lib.hid hv1
  have HV2 := Lib.hid hv2
  have HV3 := Lib.hid hv3
  clear hv1 hv2 hv3
  go_enter Try.func44, Try.ntmps44
  go_wp2_with fail
  refine (l31Chart_any w.heap.size x1 A1 n1 q1 _ (hx 0) (hx 1)).mono ?_
  rintro e w1 ⟨rfl, hb1⟩
  have HB1' := Lib.hid (HW.out.trans (hb1.mono HW.out.size))
  have hy1 : ∀ o, w1.cell? ⟨w.heap.size + 1, o, none⟩ = (#[.int .i64 x2, .slice A2 n2 q2, .slice O2 m2 p2, .int .i64 s2, .slice B2 l2 t2] : Array Value)[o]? := fun o => ((bcell hb1).1 _ o (by simp)).trans (HY.out o)
  have HX1 : Hid (∀ o, w1.cell? ⟨w.heap.size, o, none⟩ = (#[.int .i64 x1, .slice A1 n1 q1, .slice O1 m1 p1, .int .i64 s1, .slice B1 l1 t1] : Array Value)[o]?) := fun o => ((bcell hb1).1 _ o (by simp; omega)).trans (HX.out o)
  have hz1 : w.heap.size + 1 < w1.heap.size := blt hb1 (by simp)
  clear hb1 hx hy
  go_wp2_with fail
  refine (l31Chart_any (w.heap.size + 1) x2 A2 n2 q2 _ (hy1 0) (hy1 1)).mono ?_
  rintro e w2 ⟨rfl, hb2⟩
  have HB2' := Lib.hid (HB1'.out.trans (hb2.mono HB1'.out.size))
  have HY2 : Hid (∀ o, w2.cell? ⟨w.heap.size + 1, o, none⟩ = (#[.int .i64 x2, .slice A2 n2 q2, .slice O2 m2 p2, .int .i64 s2, .slice B2 l2 t2] : Array Value)[o]?) := fun o => ((bcell hb2).1 _ o (by omega)).trans (hy1 o)
  have HX2 : Hid (∀ o, w2.cell? ⟨w.heap.size, o, none⟩ = (#[.int .i64 x1, .slice A1 n1 q1, .slice O1 m1 p1, .int .i64 s1, .slice B1 l1 t1] : Array Value)[o]?) := fun o => ((bcell hb2).1 _ o (by omega)).trans (HX1.out o)
  have hz2 : w.heap.size + 1 < w2.heap.size := blt hb2 hz1
  clear hb2 hy1
  go_wp2_with fail
  refine (HCH.out _ HB2'.out).mono ?_
  rintro e w3 ⟨rfl, hb3⟩
  rw [← HV1.out]
  have HB3' := Lib.hid (HB2'.out.trans (hb3.mono HB2'.out.size))
  have hx3 : ∀ o, w3.cell? ⟨w.heap.size, o, none⟩ = (#[.int .i64 x1, .slice A1 n1 q1, .slice O1 m1 p1, .int .i64 s1, .slice B1 l1 t1] : Array Value)[o]? := fun o => ((bcell hb3).1 _ o (by omega)).trans (HX2.out o)
  have hy3 : ∀ o, w3.cell? ⟨w.heap.size + 1, o, none⟩ = (#[.int .i64 x2, .slice A2 n2 q2, .slice O2 m2 p2, .int .i64 s2, .slice B2 l2 t2] : Array Value)[o]? := fun o => ((bcell hb3).1 _ o (by omega)).trans (HY2.out o)
  clear hb3
  cases v1
  · go_wp2
    go_ret
    exact ⟨by rw [← HV1.out]; rfl, HB3'.out⟩
  · go_wp2_with fail
    refine (HOP.out _ HB3'.out).mono ?_
    rintro e w4 ⟨rfl, k, rfl⟩
    rw [← HV2.out]
    cases v2
    · go_wp2
      go_ret
      exact ⟨by rw [← HV1.out, ← HV2.out]; rfl, Below.drewN' HB3'.out k⟩
    · go_wp2_with fail
      refine (HBR.out _ (Below.drewN' HB3'.out k)).mono ?_
      rintro e w5 ⟨rfl, hb5⟩
      have HB5 := Lib.hid ((Below.drewN' HB3'.out k).trans (hb5.mono HB3'.out.size))
      clear hb5
      go_wp2
      go_ret
      exact ⟨by rw [← HV1.out, ← HV2.out]; rfl, HB5.out⟩
end Go.Proofs.Ytjegoffdkmbibaa
