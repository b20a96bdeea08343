/- The walk of the law over SameStudio, from the contracts: it returns true. No condition. (Printed by wip/law2.py.) -/
import Derived.Test.YtjegoffdkmbibaaSameStudiosI
import Derived.Test.YtjegoffdkmbibaaStudioLaw
import Derived.Test.YtjegoffdkmbibaaObj2
import Derived.Deep.RegionHeld3
import Derived.Deep.RegionWith
namespace Go.Proofs.Ytjegoffdkmbibaa
open Go.RowKit
set_option maxRecDepth 20000

set_option maxHeartbeats 2000000 in
theorem lawSameStudio_walk (x1 s1 : Int) (A1 O1 B1 : Option Addr) (n1 q1 m1 p1 l1 t1 : Nat) (d1 c1 : Nat → Int) (As1 : Nat → Option Addr) (ns1 cs1 : Nat → Nat) (z1 : Nat → Nat → Int) (o1 b1 : Nat → Int) (x2 s2 : Int) (A2 O2 B2 : Option Addr) (n2 q2 m2 p2 l2 t2 : Nat) (d2 c2 : Nat → Int) (As2 : Nat → Option Addr) (ns2 cs2 : Nat → Nat) (z2 : Nat → Nat → Int) (o2 b2 : Nat → Int) (w : World) (ha : RdStudio A1 O1 B1 n1 m1 l1 d1 c1 As1 ns1 cs1 z1 o1 b1 w) (hb : RdStudio A2 O2 B2 n2 m2 l2 d2 c2 As2 ns2 cs2 z2 o2 b2 w) (hn1 : n1 ≤ maxLen) (hns1 : ∀ j, j < n1 → ns1 j ≤ maxLen) (hm1 : m1 ≤ maxLen) (hl1 : l1 ≤ maxLen) (hn2 : n2 ≤ maxLen) (hns2 : ∀ j, j < n2 → ns2 j ≤ maxLen) (hm2 : m2 ≤ maxLen) (hl2 : l2 ≤ maxLen) :
    Calls Try.prog 10 #[.agg #[.int .i64 x1, .slice A1 n1 q1, .slice O1 m1 p1, .int .i64 s1, .slice B1 l1 t1], .agg #[.int .i64 x2, .slice A2 n2 q2, .slice O2 m2 p2, .int .i64 s2, .slice B2 l2 t2]] w fun e w' => e = .returned (.bool true) ∧ Below w.heap.size w w' := by
  have HB := Lib.hid (Below.refl w.heap.size w)
  obtain ⟨V, hV⟩ : ∃ V, V = ((decide (x1 = x2) && eqLR n1 d1 c1 ns1 z1 n2 d2 c2 ns2 z2) && (eqL8 m1 o1 m2 o2) && (decide (s1 = s2) && eqL l1 b1 l2 b2)) := ⟨_, rfl⟩
  have HV := Lib.hid hV
  clear hV
  have HS1 := Lib.hid hns1
  clear hns1
  have HS2 := Lib.hid hns2
  clear hns2
  have R_a := Lib.hid ha
  have LR_a := Lib.hid (rdStudio_obj A1 O1 B1 n1 m1 l1 d1 c1 As1 ns1 cs1 z1 o1 b1)
  have HI_a := Lib.hid (LR_a.out.2 w · R_a.out)
  clear ha
  have R_b := Lib.hid hb
  have LR_b := Lib.hid (rdStudio_obj A2 O2 B2 n2 m2 l2 d2 c2 As2 ns2 cs2 z2 o2 b2)
  have HI_b := Lib.hid (LR_b.out.2 w · R_b.out)
  clear hb
  go_enter Try.func10, Try.ntmps10
  have hba : Below w.heap.size w (w.alloc (.cells #[.int .i64 x1, .slice A1 n1 q1, .slice O1 m1 p1, .int .i64 s1, .slice B1 l1 t1] 59)) := (Below.refl _ _).alloc (Nat.le_refl _) _
  replace R_a := Lib.hid (LR_a.out.below R_a.out hba)
  replace R_b := Lib.hid (LR_b.out.below R_b.out hba)
  replace HB := Lib.hid (HB.out.trans (hba.mono HB.out.size))
  have LB_a0 := Lib.hid (box_loc (w.heap.size) #[.int .i64 x1, .slice A1 n1 q1, .slice O1 m1 p1, .int .i64 s1, .slice B1 l1 t1] (by simp))
  have BX_a0 := Lib.hid (show BoxAt (w.heap.size) #[.int .i64 x1, .slice A1 n1 q1, .slice O1 m1 p1, .int .i64 s1, .slice B1 l1 t1] (w.alloc (.cells #[.int .i64 x1, .slice A1 n1 q1, .slice O1 m1 p1, .int .i64 s1, .slice B1 l1 t1] 59)) from fun oo => cell_alloc_at (by simp) oo)
  clear hba
  have hba : Below (w.alloc (.cells #[.int .i64 x1, .slice A1 n1 q1, .slice O1 m1 p1, .int .i64 s1, .slice B1 l1 t1] 59)).heap.size (w.alloc (.cells #[.int .i64 x1, .slice A1 n1 q1, .slice O1 m1 p1, .int .i64 s1, .slice B1 l1 t1] 59)) ((w.alloc (.cells #[.int .i64 x1, .slice A1 n1 q1, .slice O1 m1 p1, .int .i64 s1, .slice B1 l1 t1] 59)).alloc (.cells #[.int .i64 x2, .slice A2 n2 q2, .slice O2 m2 p2, .int .i64 s2, .slice B2 l2 t2] 59)) := (Below.refl _ _).alloc (Nat.le_refl _) _
  replace BX_a0 := Lib.hid (LB_a0.out.below BX_a0.out hba)
  replace R_a := Lib.hid (LR_a.out.below R_a.out hba)
  replace R_b := Lib.hid (LR_b.out.below R_b.out hba)
  replace HB := Lib.hid (HB.out.trans (hba.mono HB.out.size))
  have LB_a1 := Lib.hid (box_loc (w.heap.size + 1) #[.int .i64 x2, .slice A2 n2 q2, .slice O2 m2 p2, .int .i64 s2, .slice B2 l2 t2] (by simp))
  have BX_a1 := Lib.hid (show BoxAt (w.heap.size + 1) #[.int .i64 x2, .slice A2 n2 q2, .slice O2 m2 p2, .int .i64 s2, .slice B2 l2 t2] ((w.alloc (.cells #[.int .i64 x1, .slice A1 n1 q1, .slice O1 m1 p1, .int .i64 s1, .slice B1 l1 t1] 59)).alloc (.cells #[.int .i64 x2, .slice A2 n2 q2, .slice O2 m2 p2, .int .i64 s2, .slice B2 l2 t2] 59)) from fun oo => cell_alloc_at (by simp) oo)
  clear hba
  have hx_a0 : ∀ oo, ((w.alloc (.cells #[.int .i64 x1, .slice A1 n1 q1, .slice O1 m1 p1, .int .i64 s1, .slice B1 l1 t1] 59)).alloc (.cells #[.int .i64 x2, .slice A2 n2 q2, .slice O2 m2 p2, .int .i64 s2, .slice B2 l2 t2] 59)).cell? ⟨w.heap.size, oo, none⟩ = (#[.int .i64 x1, .slice A1 n1 q1, .slice O1 m1 p1, .int .i64 s1, .slice B1 l1 t1] : Array Value)[oo]? := BX_a0.out
  have hx_a1 : ∀ oo, ((w.alloc (.cells #[.int .i64 x1, .slice A1 n1 q1, .slice O1 m1 p1, .int .i64 s1, .slice B1 l1 t1] 59)).alloc (.cells #[.int .i64 x2, .slice A2 n2 q2, .slice O2 m2 p2, .int .i64 s2, .slice B2 l2 t2] 59)).cell? ⟨w.heap.size + 1, oo, none⟩ = (#[.int .i64 x2, .slice A2 n2 q2, .slice O2 m2 p2, .int .i64 s2, .slice B2 l2 t2] : Array Value)[oo]? := BX_a1.out
  go_wp2_with fail
  refine (szStudio_any x1 s1 A1 O1 B1 n1 q1 m1 p1 l1 t1 1048576 d1 c1 As1 ns1 cs1 z1 _ (R_a.out).1 hn1 HS1.out hm1 hl1 (by omega)).mono ?_
  rintro e w1 ⟨r1, hr, rfl, hb⟩
  clear hx_a0 hx_a1
  have SZ_1 := Lib.hid (show w.heap.size + 2 ≤ w1.heap.size from (by have := hb.size; first | omega | (simp at this; omega)))
  replace BX_a0 := Lib.hid (LB_a0.out.below BX_a0.out hb)
  replace BX_a1 := Lib.hid (LB_a1.out.below BX_a1.out hb)
  replace R_a := Lib.hid (LR_a.out.below R_a.out hb)
  replace R_b := Lib.hid (LR_b.out.below R_b.out hb)
  replace HB := Lib.hid (HB.out.trans (hb.mono HB.out.size))
  clear hb
  by_cases hr0 : r1 < 0
  · go_wp2_with fail
    go_ret
    exact ⟨rfl, HB.out⟩
  have hsm := hr.resolve_left hr0
  clear hr
  obtain ⟨gn1, gs1, gm1, gl1, gr1⟩ := hsm
  have GS1 := Lib.hid gs1
  clear gs1
  obtain ⟨L1, hL1⟩ : ∃ L1 : Nat, r1 = L1 := ⟨r1.toNat, by omega⟩
  subst hL1
  have hx_a0 : ∀ oo, w1.cell? ⟨w.heap.size, oo, none⟩ = (#[.int .i64 x1, .slice A1 n1 q1, .slice O1 m1 p1, .int .i64 s1, .slice B1 l1 t1] : Array Value)[oo]? := BX_a0.out
  have hx_a1 : ∀ oo, w1.cell? ⟨w.heap.size + 1, oo, none⟩ = (#[.int .i64 x2, .slice A2 n2 q2, .slice O2 m2 p2, .int .i64 s2, .slice B2 l2 t2] : Array Value)[oo]? := BX_a1.out
  go_wp2_with fail
  refine (szStudio_any x2 s2 A2 O2 B2 n2 q2 m2 p2 l2 t2 L1 d2 c2 As2 ns2 cs2 z2 _ (R_b.out).1 hn2 HS2.out hm2 hl2 (by omega)).mono ?_
  rintro e w2 ⟨r2, hr, rfl, hb⟩
  clear hx_a0 hx_a1
  have SZ_2 := Lib.hid (show w1.heap.size ≤ w2.heap.size from (by have := hb.size; first | omega | (simp at this; omega)))
  replace BX_a0 := Lib.hid (LB_a0.out.below BX_a0.out hb)
  replace BX_a1 := Lib.hid (LB_a1.out.below BX_a1.out hb)
  replace R_a := Lib.hid (LR_a.out.below R_a.out hb)
  replace R_b := Lib.hid (LR_b.out.below R_b.out hb)
  replace HB := Lib.hid (HB.out.trans (hb.mono HB.out.size))
  clear hb
  by_cases hr0 : r2 < 0
  · go_wp2_with fail
    go_ret
    exact ⟨rfl, HB.out⟩
  have hsm := hr.resolve_left hr0
  clear hr
  obtain ⟨gn2, gs2, gm2, gl2, gr2⟩ := hsm
  have GS2 := Lib.hid gs2
  clear gs2
  have G1 : ∀ j, j < n1 → ns1 j ≤ 1048576 := fun j hj => by have := GS1.out j hj; omega
  have G2 : ∀ j, j < n2 → ns2 j ≤ 1048576 := fun j hj => by have := GS2.out j hj; omega
  have HG1 := Lib.hid G1
  have HG2 := Lib.hid G2
  clear G1 G2 GS1 GS2
  have hx_a0 : ∀ oo, w2.cell? ⟨w.heap.size, oo, none⟩ = (#[.int .i64 x1, .slice A1 n1 q1, .slice O1 m1 p1, .int .i64 s1, .slice B1 l1 t1] : Array Value)[oo]? := BX_a0.out
  have hx_a1 : ∀ oo, w2.cell? ⟨w.heap.size + 1, oo, none⟩ = (#[.int .i64 x2, .slice A2 n2 q2, .slice O2 m2 p2, .int .i64 s2, .slice B2 l2 t2] : Array Value)[oo]? := BX_a1.out
  go_wp2_with fail
  go_region_held3 (fun w' => (∀ oo, w'.cell? ⟨w.heap.size, oo, none⟩ = (#[.int .i64 x1, .slice A1 n1 q1, .slice O1 m1 p1, .int .i64 s1, .slice B1 l1 t1] : Array Value)[oo]?) ∧ (∀ oo, w'.cell? ⟨w.heap.size + 1, oo, none⟩ = (#[.int .i64 x2, .slice A2 n2 q2, .slice O2 m2 p2, .int .i64 s2, .slice B2 l2 t2] : Array Value)[oo]?)) (go_keep)
    (first
      | (go_at_call_of 45 (Value.slice A1 n1 q1); refine (toStudio_any x1 s1 A1 O1 B1 n1 q1 m1 p1 l1 t1 d1 c1 As1 ns1 cs1 z1 o1 b1 _ (LR_a.out.drewN R_a.out 1) (by omega) HG1.out (by omega) (by omega)).mono ?_; rintro e w3 ⟨A_S1, q_S1, O_S1, p_S1, B_S1, t_S1, As_S1, cs_S1, rfl, HP3⟩; have kx3_a0 : ∀ oo, w3.cell? ⟨w.heap.size, oo, none⟩ = (#[.int .i64 x1, .slice A1 n1 q1, .slice O1 m1 p1, .int .i64 s1, .slice B1 l1 t1] : Array Value)[oo]? := LB_a0.out.below (LB_a0.out.drewN BX_a0.out 1) HP3.bl; have kx3_a1 : ∀ oo, w3.cell? ⟨w.heap.size + 1, oo, none⟩ = (#[.int .i64 x2, .slice A2 n2 q2, .slice O2 m2 p2, .int .i64 s2, .slice B2 l2 t2] : Array Value)[oo]? := LB_a1.out.below (LB_a1.out.drewN BX_a1.out 1) HP3.bl)
      | (go_at_call_of 45 (Value.slice A2 n2 q2); refine (toStudio_any x2 s2 A2 O2 B2 n2 q2 m2 p2 l2 t2 d2 c2 As2 ns2 cs2 z2 o2 b2 _ (LR_b.out.below (LR_b.out.drewN R_b.out 1) HP3.bl) (by omega) HG2.out (by omega) (by omega)).mono ?_; rintro e w4 ⟨A_S2, q_S2, O_S2, p_S2, B_S2, t_S2, As_S2, cs_S2, rfl, HP4⟩; have kx4_a0 : ∀ oo, w4.cell? ⟨w.heap.size, oo, none⟩ = (#[.int .i64 x1, .slice A1 n1 q1, .slice O1 m1 p1, .int .i64 s1, .slice B1 l1 t1] : Array Value)[oo]? := LB_a0.out.below (LB_a0.out.below (LB_a0.out.drewN BX_a0.out 1) HP3.bl) HP4.bl; have kx4_a1 : ∀ oo, w4.cell? ⟨w.heap.size + 1, oo, none⟩ = (#[.int .i64 x2, .slice A2 n2 q2, .slice O2 m2 p2, .int .i64 s2, .slice B2 l2 t2] : Array Value)[oo]? := LB_a1.out.below (LB_a1.out.below (LB_a1.out.drewN BX_a1.out 1) HP3.bl) HP4.bl)
      | (go_at_call 44; refine (specSameStudio_any x1 s1 A_S1 O_S1 B_S1 n1 q_S1 m1 p_S1 l1 t_S1 d1 c1 As_S1 ns1 cs_S1 z1 o1 b1 x2 s2 A_S2 O_S2 B_S2 n2 q_S2 m2 p_S2 l2 t_S2 d2 c2 As_S2 ns2 cs_S2 z2 o2 b2 _ (HP3.or.below HP3.r HP4.bl).1 (HP3.or.below HP3.r HP4.bl).2.1 (HP3.or.below HP3.r HP4.bl).2.2 HP4.r.1 HP4.r.2.1 HP4.r.2.2 (by omega) HG1.out (by omega) (by omega) (by omega) HG2.out (by omega) (by omega)).mono ?_; rintro e w5 ⟨rfl, HP5⟩; rw [← HV.out]; have kx5_a0 : ∀ oo, w5.cell? ⟨w.heap.size, oo, none⟩ = (#[.int .i64 x1, .slice A1 n1 q1, .slice O1 m1 p1, .int .i64 s1, .slice B1 l1 t1] : Array Value)[oo]? := LB_a0.out.below (LB_a0.out.below (LB_a0.out.below (LB_a0.out.drewN BX_a0.out 1) HP3.bl) HP4.bl) HP5; have kx5_a1 : ∀ oo, w5.cell? ⟨w.heap.size + 1, oo, none⟩ = (#[.int .i64 x2, .slice A2 n2 q2, .slice O2 m2 p2, .int .i64 s2, .slice B2 l2 t2] : Array Value)[oo]? := LB_a1.out.below (LB_a1.out.below (LB_a1.out.below (LB_a1.out.drewN BX_a1.out 1) HP3.bl) HP4.bl) HP5))
  rename_i hHeld
  clear hHeld
  clear hx_a0 hx_a1
  replace BX_a0 := Lib.hid (LB_a0.out.drewN BX_a0.out 1)
  replace BX_a1 := Lib.hid (LB_a1.out.drewN BX_a1.out 1)
  replace R_a := Lib.hid (LR_a.out.drewN R_a.out 1)
  replace R_b := Lib.hid (LR_b.out.drewN R_b.out 1)
  replace HB := Lib.hid (Below.drewN' HB.out 1)
  have SZ_3 := Lib.hid (show w2.heap.size ≤ w3.heap.size from (by have := HP3.bl.size; first | omega | (simp at this; omega)))
  replace BX_a0 := Lib.hid (LB_a0.out.below BX_a0.out HP3.bl)
  replace BX_a1 := Lib.hid (LB_a1.out.below BX_a1.out HP3.bl)
  replace R_a := Lib.hid (LR_a.out.below R_a.out HP3.bl)
  replace R_b := Lib.hid (LR_b.out.below R_b.out HP3.bl)
  replace HB := Lib.hid (HB.out.trans (HP3.bl.mono HB.out.size))
  have R_S1 := Lib.hid HP3.r
  have W_S1 := Lib.hid HP3.w
  have LR_S1 := Lib.hid HP3.or
  have LW_S1 := Lib.hid HP3.ow
  have LO_S1 := Lib.hid (HP3.lo (k := w2.heap.size) (by first | exact Nat.le_refl _ | simp))
  have HI_S1 := Lib.hid HP3.hi
  clear HP3
  clear kx3_a0
  clear kx3_a1
  have SZ_4 := Lib.hid (show w3.heap.size ≤ w4.heap.size from (by have := HP4.bl.size; first | omega | (simp at this; omega)))
  replace BX_a0 := Lib.hid (LB_a0.out.below BX_a0.out HP4.bl)
  replace BX_a1 := Lib.hid (LB_a1.out.below BX_a1.out HP4.bl)
  replace R_a := Lib.hid (LR_a.out.below R_a.out HP4.bl)
  replace R_b := Lib.hid (LR_b.out.below R_b.out HP4.bl)
  replace R_S1 := Lib.hid (LR_S1.out.below R_S1.out HP4.bl)
  replace W_S1 := Lib.hid (LW_S1.out.below W_S1.out HP4.bl)
  replace HB := Lib.hid (HB.out.trans (HP4.bl.mono HB.out.size))
  have R_S2 := Lib.hid HP4.r
  have W_S2 := Lib.hid HP4.w
  have LR_S2 := Lib.hid HP4.or
  have LW_S2 := Lib.hid HP4.ow
  have LO_S2 := Lib.hid (HP4.lo (k := w3.heap.size) (by first | exact Nat.le_refl _ | simp))
  have HI_S2 := Lib.hid HP4.hi
  clear HP4
  clear kx4_a0
  clear kx4_a1
  have SZ_5 := Lib.hid (show w4.heap.size ≤ w5.heap.size from (by have := HP5.size; first | omega | (simp at this; omega)))
  replace BX_a0 := Lib.hid (LB_a0.out.below BX_a0.out HP5)
  replace BX_a1 := Lib.hid (LB_a1.out.below BX_a1.out HP5)
  replace R_a := Lib.hid (LR_a.out.below R_a.out HP5)
  replace R_b := Lib.hid (LR_b.out.below R_b.out HP5)
  replace R_S1 := Lib.hid (LR_S1.out.below R_S1.out HP5)
  replace W_S1 := Lib.hid (LW_S1.out.below W_S1.out HP5)
  replace R_S2 := Lib.hid (LR_S2.out.below R_S2.out HP5)
  replace W_S2 := Lib.hid (LW_S2.out.below W_S2.out HP5)
  replace HB := Lib.hid (HB.out.trans (HP5.mono HB.out.size))
  clear HP5
  clear kx5_a0
  clear kx5_a1
  have hx_a0 : ∀ oo, w5.cell? ⟨w.heap.size, oo, none⟩ = (#[.int .i64 x1, .slice A1 n1 q1, .slice O1 m1 p1, .int .i64 s1, .slice B1 l1 t1] : Array Value)[oo]? := BX_a0.out
  have hx_a1 : ∀ oo, w5.cell? ⟨w.heap.size + 1, oo, none⟩ = (#[.int .i64 x2, .slice A2 n2 q2, .slice O2 m2 p2, .int .i64 s2, .slice B2 l2 t2] : Array Value)[oo]? := BX_a1.out
  go_wp2_with fail
  refine (toStudio_any x1 s1 A1 O1 B1 n1 q1 m1 p1 l1 t1 d1 c1 As1 ns1 cs1 z1 o1 b1 _ (R_a.out) (by omega) HG1.out (by omega) (by omega)).mono ?_
  rintro e w6 ⟨A_x, q_x, O_x, p_x, B_x, t_x, As_x, cs_x, rfl, hp⟩
  clear hx_a0 hx_a1
  have SZ_6 := Lib.hid (show w5.heap.size ≤ w6.heap.size from (by have := hp.bl.size; first | omega | (simp at this; omega)))
  replace BX_a0 := Lib.hid (LB_a0.out.below BX_a0.out hp.bl)
  replace BX_a1 := Lib.hid (LB_a1.out.below BX_a1.out hp.bl)
  replace R_a := Lib.hid (LR_a.out.below R_a.out hp.bl)
  replace R_b := Lib.hid (LR_b.out.below R_b.out hp.bl)
  replace HB := Lib.hid (HB.out.trans (hp.bl.mono HB.out.size))
  have R_x := Lib.hid hp.r
  have W_x := Lib.hid hp.w
  have LR_x := Lib.hid hp.or
  have LW_x := Lib.hid hp.ow
  have LO_x := Lib.hid (hp.lo (k := w5.heap.size) (by first | exact Nat.le_refl _ | simp))
  have HI_x := Lib.hid hp.hi
  clear hp
  have hba : Below w6.heap.size w6 (w6.alloc (.cells #[.int .i64 x1, .slice A_x n1 q_x, .slice O_x m1 p_x, .int .i64 s1, .slice B_x l1 t_x] 41)) := (Below.refl _ _).alloc (Nat.le_refl _) _
  replace BX_a0 := Lib.hid (LB_a0.out.below BX_a0.out hba)
  replace BX_a1 := Lib.hid (LB_a1.out.below BX_a1.out hba)
  replace R_a := Lib.hid (LR_a.out.below R_a.out hba)
  replace R_b := Lib.hid (LR_b.out.below R_b.out hba)
  replace R_x := Lib.hid (LR_x.out.below R_x.out hba)
  replace W_x := Lib.hid (LW_x.out.below W_x.out hba)
  replace HB := Lib.hid (HB.out.trans (hba.mono HB.out.size))
  have LB_x := Lib.hid (box_loc (w6.heap.size) #[.int .i64 x1, .slice A_x n1 q_x, .slice O_x m1 p_x, .int .i64 s1, .slice B_x l1 t_x] (by simp))
  have BX_x := Lib.hid (show BoxAt (w6.heap.size) #[.int .i64 x1, .slice A_x n1 q_x, .slice O_x m1 p_x, .int .i64 s1, .slice B_x l1 t_x] (w6.alloc (.cells #[.int .i64 x1, .slice A_x n1 q_x, .slice O_x m1 p_x, .int .i64 s1, .slice B_x l1 t_x] 41)) from fun oo => cell_alloc_at (by simp) oo)
  clear hba
  have hx_a0 : ∀ oo, (w6.alloc (.cells #[.int .i64 x1, .slice A_x n1 q_x, .slice O_x m1 p_x, .int .i64 s1, .slice B_x l1 t_x] 41)).cell? ⟨w.heap.size, oo, none⟩ = (#[.int .i64 x1, .slice A1 n1 q1, .slice O1 m1 p1, .int .i64 s1, .slice B1 l1 t1] : Array Value)[oo]? := BX_a0.out
  have hx_a1 : ∀ oo, (w6.alloc (.cells #[.int .i64 x1, .slice A_x n1 q_x, .slice O_x m1 p_x, .int .i64 s1, .slice B_x l1 t_x] 41)).cell? ⟨w.heap.size + 1, oo, none⟩ = (#[.int .i64 x2, .slice A2 n2 q2, .slice O2 m2 p2, .int .i64 s2, .slice B2 l2 t2] : Array Value)[oo]? := BX_a1.out
  have hx_x : ∀ oo, (w6.alloc (.cells #[.int .i64 x1, .slice A_x n1 q_x, .slice O_x m1 p_x, .int .i64 s1, .slice B_x l1 t_x] 41)).cell? ⟨w6.heap.size, oo, none⟩ = (#[.int .i64 x1, .slice A_x n1 q_x, .slice O_x m1 p_x, .int .i64 s1, .slice B_x l1 t_x] : Array Value)[oo]? := BX_x.out
  go_wp2_with fail
  refine (toStudio_any x2 s2 A2 O2 B2 n2 q2 m2 p2 l2 t2 d2 c2 As2 ns2 cs2 z2 o2 b2 _ (R_b.out) (by omega) HG2.out (by omega) (by omega)).mono ?_
  rintro e w7 ⟨A_y, q_y, O_y, p_y, B_y, t_y, As_y, cs_y, rfl, hp⟩
  clear hx_a0 hx_a1 hx_x
  have SZ_7 := Lib.hid (show w6.heap.size + 1 ≤ w7.heap.size from (by have := hp.bl.size; first | omega | (simp at this; omega)))
  replace BX_a0 := Lib.hid (LB_a0.out.below BX_a0.out hp.bl)
  replace BX_a1 := Lib.hid (LB_a1.out.below BX_a1.out hp.bl)
  replace BX_x := Lib.hid (LB_x.out.below BX_x.out hp.bl)
  replace R_a := Lib.hid (LR_a.out.below R_a.out hp.bl)
  replace R_b := Lib.hid (LR_b.out.below R_b.out hp.bl)
  replace R_x := Lib.hid (LR_x.out.below R_x.out hp.bl)
  replace W_x := Lib.hid (LW_x.out.below W_x.out hp.bl)
  replace HB := Lib.hid (HB.out.trans (hp.bl.mono HB.out.size))
  have R_y := Lib.hid hp.r
  have W_y := Lib.hid hp.w
  have LR_y := Lib.hid hp.or
  have LW_y := Lib.hid hp.ow
  have LO_y := Lib.hid (hp.lo (k := w6.heap.size + 1) (by first | exact Nat.le_refl _ | simp))
  have HI_y := Lib.hid hp.hi
  clear hp
  have hba : Below w7.heap.size w7 (w7.alloc (.cells #[.int .i64 x2, .slice A_y n2 q_y, .slice O_y m2 p_y, .int .i64 s2, .slice B_y l2 t_y] 41)) := (Below.refl _ _).alloc (Nat.le_refl _) _
  replace BX_a0 := Lib.hid (LB_a0.out.below BX_a0.out hba)
  replace BX_a1 := Lib.hid (LB_a1.out.below BX_a1.out hba)
  replace BX_x := Lib.hid (LB_x.out.below BX_x.out hba)
  replace R_a := Lib.hid (LR_a.out.below R_a.out hba)
  replace R_b := Lib.hid (LR_b.out.below R_b.out hba)
  replace R_x := Lib.hid (LR_x.out.below R_x.out hba)
  replace W_x := Lib.hid (LW_x.out.below W_x.out hba)
  replace R_y := Lib.hid (LR_y.out.below R_y.out hba)
  replace W_y := Lib.hid (LW_y.out.below W_y.out hba)
  replace HB := Lib.hid (HB.out.trans (hba.mono HB.out.size))
  have LB_y := Lib.hid (box_loc (w7.heap.size) #[.int .i64 x2, .slice A_y n2 q_y, .slice O_y m2 p_y, .int .i64 s2, .slice B_y l2 t_y] (by simp))
  have BX_y := Lib.hid (show BoxAt (w7.heap.size) #[.int .i64 x2, .slice A_y n2 q_y, .slice O_y m2 p_y, .int .i64 s2, .slice B_y l2 t_y] (w7.alloc (.cells #[.int .i64 x2, .slice A_y n2 q_y, .slice O_y m2 p_y, .int .i64 s2, .slice B_y l2 t_y] 41)) from fun oo => cell_alloc_at (by simp) oo)
  clear hba
  have hx_a0 : ∀ oo, (w7.alloc (.cells #[.int .i64 x2, .slice A_y n2 q_y, .slice O_y m2 p_y, .int .i64 s2, .slice B_y l2 t_y] 41)).cell? ⟨w.heap.size, oo, none⟩ = (#[.int .i64 x1, .slice A1 n1 q1, .slice O1 m1 p1, .int .i64 s1, .slice B1 l1 t1] : Array Value)[oo]? := BX_a0.out
  have hx_a1 : ∀ oo, (w7.alloc (.cells #[.int .i64 x2, .slice A_y n2 q_y, .slice O_y m2 p_y, .int .i64 s2, .slice B_y l2 t_y] 41)).cell? ⟨w.heap.size + 1, oo, none⟩ = (#[.int .i64 x2, .slice A2 n2 q2, .slice O2 m2 p2, .int .i64 s2, .slice B2 l2 t2] : Array Value)[oo]? := BX_a1.out
  have hx_x : ∀ oo, (w7.alloc (.cells #[.int .i64 x2, .slice A_y n2 q_y, .slice O_y m2 p_y, .int .i64 s2, .slice B_y l2 t_y] 41)).cell? ⟨w6.heap.size, oo, none⟩ = (#[.int .i64 x1, .slice A_x n1 q_x, .slice O_x m1 p_x, .int .i64 s1, .slice B_x l1 t_x] : Array Value)[oo]? := BX_x.out
  have hx_y : ∀ oo, (w7.alloc (.cells #[.int .i64 x2, .slice A_y n2 q_y, .slice O_y m2 p_y, .int .i64 s2, .slice B_y l2 t_y] 41)).cell? ⟨w7.heap.size, oo, none⟩ = (#[.int .i64 x2, .slice A_y n2 q_y, .slice O_y m2 p_y, .int .i64 s2, .slice B_y l2 t_y] : Array Value)[oo]? := BX_y.out
  go_wp2_with fail
  refine (implSameStudio_any x1 s1 A_x O_x B_x n1 q_x m1 p_x l1 t_x d1 c1 As_x ns1 cs_x z1 o1 b1 x2 s2 A_y O_y B_y n2 q_y m2 p_y l2 t_y d2 c2 As_y ns2 cs_y z2 o2 b2 _ (R_x.out).1 (R_x.out).2.1 (R_x.out).2.2 (R_y.out).1 (R_y.out).2.1 (R_y.out).2.2 (by omega) HG1.out (by omega) (by omega) (by omega) HG2.out (by omega) (by omega)).mono ?_
  rintro e w8 ⟨he, hb⟩
  clear hx_a0 hx_a1 hx_x hx_y
  have SZ_8 := Lib.hid (show w7.heap.size + 1 ≤ w8.heap.size from (by have := hb.size; first | omega | (simp at this; omega)))
  replace BX_a0 := Lib.hid (LB_a0.out.below BX_a0.out hb)
  replace BX_a1 := Lib.hid (LB_a1.out.below BX_a1.out hb)
  replace BX_x := Lib.hid (LB_x.out.below BX_x.out hb)
  replace BX_y := Lib.hid (LB_y.out.below BX_y.out hb)
  replace R_a := Lib.hid (LR_a.out.below R_a.out hb)
  replace R_b := Lib.hid (LR_b.out.below R_b.out hb)
  replace R_x := Lib.hid (LR_x.out.below R_x.out hb)
  replace W_x := Lib.hid (LW_x.out.below W_x.out hb)
  replace R_y := Lib.hid (LR_y.out.below R_y.out hb)
  replace W_y := Lib.hid (LW_y.out.below W_y.out hb)
  replace HB := Lib.hid (HB.out.trans (hb.mono HB.out.size))
  clear hb
  obtain rfl : e = .returned (.bool V) := he.trans (by rw [HV.out])
  have hx_a0 : ∀ oo, w8.cell? ⟨w.heap.size, oo, none⟩ = (#[.int .i64 x1, .slice A1 n1 q1, .slice O1 m1 p1, .int .i64 s1, .slice B1 l1 t1] : Array Value)[oo]? := BX_a0.out
  have hx_a1 : ∀ oo, w8.cell? ⟨w.heap.size + 1, oo, none⟩ = (#[.int .i64 x2, .slice A2 n2 q2, .slice O2 m2 p2, .int .i64 s2, .slice B2 l2 t2] : Array Value)[oo]? := BX_a1.out
  have hx_x : ∀ oo, w8.cell? ⟨w6.heap.size, oo, none⟩ = (#[.int .i64 x1, .slice A_x n1 q_x, .slice O_x m1 p_x, .int .i64 s1, .slice B_x l1 t_x] : Array Value)[oo]? := BX_x.out
  have hx_y : ∀ oo, w8.cell? ⟨w7.heap.size, oo, none⟩ = (#[.int .i64 x2, .slice A_y n2 q_y, .slice O_y m2 p_y, .int .i64 s2, .slice B_y l2 t_y] : Array Value)[oo]? := BX_y.out
  go_wp2_with fail
  go_region_held3 (fun w' => (∀ oo, w'.cell? ⟨w.heap.size, oo, none⟩ = (#[.int .i64 x1, .slice A1 n1 q1, .slice O1 m1 p1, .int .i64 s1, .slice B1 l1 t1] : Array Value)[oo]?) ∧ (∀ oo, w'.cell? ⟨w6.heap.size, oo, none⟩ = (#[.int .i64 x1, .slice A_x n1 q_x, .slice O_x m1 p_x, .int .i64 s1, .slice B_x l1 t_x] : Array Value)[oo]?)) (go_keep)
    (first
      | (go_at_call 45; refine (toStudio_any x1 s1 A1 O1 B1 n1 q1 m1 p1 l1 t1 d1 c1 As1 ns1 cs1 z1 o1 b1 _ (LR_a.out.drewN R_a.out 1) (by omega) HG1.out (by omega) (by omega)).mono ?_; rintro e w9 ⟨A_T1, q_T1, O_T1, p_T1, B_T1, t_T1, As_T1, cs_T1, rfl, HP9⟩; have kx9_a0 : ∀ oo, w9.cell? ⟨w.heap.size, oo, none⟩ = (#[.int .i64 x1, .slice A1 n1 q1, .slice O1 m1 p1, .int .i64 s1, .slice B1 l1 t1] : Array Value)[oo]? := LB_a0.out.below (LB_a0.out.drewN BX_a0.out 1) HP9.bl; have kx9_x : ∀ oo, w9.cell? ⟨w6.heap.size, oo, none⟩ = (#[.int .i64 x1, .slice A_x n1 q_x, .slice O_x m1 p_x, .int .i64 s1, .slice B_x l1 t_x] : Array Value)[oo]? := LB_x.out.below (LB_x.out.drewN BX_x.out 1) HP9.bl)
      | (go_at_call 31; refine (eqStudio_any x1 s1 A_x O_x B_x A_T1 O_T1 B_T1 n1 m1 l1 q_x p_x t_x q_T1 p_T1 t_T1 d1 c1 As_x As_T1 ns1 cs_x cs_T1 z1 o1 b1 _ (LR_x.out.below (LR_x.out.drewN R_x.out 1) HP9.bl) HP9.r (by omega) (fun j hj => by have := HG1.out j hj; omega) (by omega) (by omega)).mono ?_; rintro e w10 ⟨rfl, HP10⟩; have kx10_a0 : ∀ oo, w10.cell? ⟨w.heap.size, oo, none⟩ = (#[.int .i64 x1, .slice A1 n1 q1, .slice O1 m1 p1, .int .i64 s1, .slice B1 l1 t1] : Array Value)[oo]? := LB_a0.out.below (LB_a0.out.below (LB_a0.out.drewN BX_a0.out 1) HP9.bl) HP10; have kx10_x : ∀ oo, w10.cell? ⟨w6.heap.size, oo, none⟩ = (#[.int .i64 x1, .slice A_x n1 q_x, .slice O_x m1 p_x, .int .i64 s1, .slice B_x l1 t_x] : Array Value)[oo]? := LB_x.out.below (LB_x.out.below (LB_x.out.drewN BX_x.out 1) HP9.bl) HP10))
  rename_i hHeld
  clear hHeld
  clear hx_a0 hx_a1 hx_x hx_y
  replace BX_a0 := Lib.hid (LB_a0.out.drewN BX_a0.out 1)
  replace BX_a1 := Lib.hid (LB_a1.out.drewN BX_a1.out 1)
  replace BX_x := Lib.hid (LB_x.out.drewN BX_x.out 1)
  replace BX_y := Lib.hid (LB_y.out.drewN BX_y.out 1)
  replace R_a := Lib.hid (LR_a.out.drewN R_a.out 1)
  replace R_b := Lib.hid (LR_b.out.drewN R_b.out 1)
  replace R_x := Lib.hid (LR_x.out.drewN R_x.out 1)
  replace W_x := Lib.hid (LW_x.out.drewN W_x.out 1)
  replace R_y := Lib.hid (LR_y.out.drewN R_y.out 1)
  replace W_y := Lib.hid (LW_y.out.drewN W_y.out 1)
  replace HB := Lib.hid (Below.drewN' HB.out 1)
  have SZ_9 := Lib.hid (show w8.heap.size ≤ w9.heap.size from (by have := HP9.bl.size; first | omega | (simp at this; omega)))
  replace BX_a0 := Lib.hid (LB_a0.out.below BX_a0.out HP9.bl)
  replace BX_a1 := Lib.hid (LB_a1.out.below BX_a1.out HP9.bl)
  replace BX_x := Lib.hid (LB_x.out.below BX_x.out HP9.bl)
  replace BX_y := Lib.hid (LB_y.out.below BX_y.out HP9.bl)
  replace R_a := Lib.hid (LR_a.out.below R_a.out HP9.bl)
  replace R_b := Lib.hid (LR_b.out.below R_b.out HP9.bl)
  replace R_x := Lib.hid (LR_x.out.below R_x.out HP9.bl)
  replace W_x := Lib.hid (LW_x.out.below W_x.out HP9.bl)
  replace R_y := Lib.hid (LR_y.out.below R_y.out HP9.bl)
  replace W_y := Lib.hid (LW_y.out.below W_y.out HP9.bl)
  replace HB := Lib.hid (HB.out.trans (HP9.bl.mono HB.out.size))
  have R_T1 := Lib.hid HP9.r
  have W_T1 := Lib.hid HP9.w
  have LR_T1 := Lib.hid HP9.or
  have LW_T1 := Lib.hid HP9.ow
  have LO_T1 := Lib.hid (HP9.lo (k := w8.heap.size) (by first | exact Nat.le_refl _ | simp))
  have HI_T1 := Lib.hid HP9.hi
  clear HP9
  clear kx9_a0
  clear kx9_x
  have SZ_10 := Lib.hid (show w9.heap.size ≤ w10.heap.size from (by have := HP10.size; first | omega | (simp at this; omega)))
  replace BX_a0 := Lib.hid (LB_a0.out.below BX_a0.out HP10)
  replace BX_a1 := Lib.hid (LB_a1.out.below BX_a1.out HP10)
  replace BX_x := Lib.hid (LB_x.out.below BX_x.out HP10)
  replace BX_y := Lib.hid (LB_y.out.below BX_y.out HP10)
  replace R_a := Lib.hid (LR_a.out.below R_a.out HP10)
  replace R_b := Lib.hid (LR_b.out.below R_b.out HP10)
  replace R_x := Lib.hid (LR_x.out.below R_x.out HP10)
  replace W_x := Lib.hid (LW_x.out.below W_x.out HP10)
  replace R_y := Lib.hid (LR_y.out.below R_y.out HP10)
  replace W_y := Lib.hid (LW_y.out.below W_y.out HP10)
  replace R_T1 := Lib.hid (LR_T1.out.below R_T1.out HP10)
  replace W_T1 := Lib.hid (LW_T1.out.below W_T1.out HP10)
  replace HB := Lib.hid (HB.out.trans (HP10.mono HB.out.size))
  clear HP10
  clear kx10_a0
  clear kx10_x
  have hx_a0 : ∀ oo, w10.cell? ⟨w.heap.size, oo, none⟩ = (#[.int .i64 x1, .slice A1 n1 q1, .slice O1 m1 p1, .int .i64 s1, .slice B1 l1 t1] : Array Value)[oo]? := BX_a0.out
  have hx_a1 : ∀ oo, w10.cell? ⟨w.heap.size + 1, oo, none⟩ = (#[.int .i64 x2, .slice A2 n2 q2, .slice O2 m2 p2, .int .i64 s2, .slice B2 l2 t2] : Array Value)[oo]? := BX_a1.out
  have hx_x : ∀ oo, w10.cell? ⟨w6.heap.size, oo, none⟩ = (#[.int .i64 x1, .slice A_x n1 q_x, .slice O_x m1 p_x, .int .i64 s1, .slice B_x l1 t_x] : Array Value)[oo]? := BX_x.out
  have hx_y : ∀ oo, w10.cell? ⟨w7.heap.size, oo, none⟩ = (#[.int .i64 x2, .slice A_y n2 q_y, .slice O_y m2 p_y, .int .i64 s2, .slice B_y l2 t_y] : Array Value)[oo]? := BX_y.out
  go_wp2_with fail
  go_region_held3 (fun w' => (∀ oo, w'.cell? ⟨w.heap.size + 1, oo, none⟩ = (#[.int .i64 x2, .slice A2 n2 q2, .slice O2 m2 p2, .int .i64 s2, .slice B2 l2 t2] : Array Value)[oo]?) ∧ (∀ oo, w'.cell? ⟨w7.heap.size, oo, none⟩ = (#[.int .i64 x2, .slice A_y n2 q_y, .slice O_y m2 p_y, .int .i64 s2, .slice B_y l2 t_y] : Array Value)[oo]?)) (go_keep)
    (first
      | (go_at_call 45; refine (toStudio_any x2 s2 A2 O2 B2 n2 q2 m2 p2 l2 t2 d2 c2 As2 ns2 cs2 z2 o2 b2 _ (LR_b.out.drewN R_b.out 1) (by omega) HG2.out (by omega) (by omega)).mono ?_; rintro e w11 ⟨A_T2, q_T2, O_T2, p_T2, B_T2, t_T2, As_T2, cs_T2, rfl, HP11⟩; have kx11_a1 : ∀ oo, w11.cell? ⟨w.heap.size + 1, oo, none⟩ = (#[.int .i64 x2, .slice A2 n2 q2, .slice O2 m2 p2, .int .i64 s2, .slice B2 l2 t2] : Array Value)[oo]? := LB_a1.out.below (LB_a1.out.drewN BX_a1.out 1) HP11.bl; have kx11_y : ∀ oo, w11.cell? ⟨w7.heap.size, oo, none⟩ = (#[.int .i64 x2, .slice A_y n2 q_y, .slice O_y m2 p_y, .int .i64 s2, .slice B_y l2 t_y] : Array Value)[oo]? := LB_y.out.below (LB_y.out.drewN BX_y.out 1) HP11.bl)
      | (go_at_call 31; refine (eqStudio_any x2 s2 A_y O_y B_y A_T2 O_T2 B_T2 n2 m2 l2 q_y p_y t_y q_T2 p_T2 t_T2 d2 c2 As_y As_T2 ns2 cs_y cs_T2 z2 o2 b2 _ (LR_y.out.below (LR_y.out.drewN R_y.out 1) HP11.bl) HP11.r (by omega) (fun j hj => by have := HG2.out j hj; omega) (by omega) (by omega)).mono ?_; rintro e w12 ⟨rfl, HP12⟩; have kx12_a1 : ∀ oo, w12.cell? ⟨w.heap.size + 1, oo, none⟩ = (#[.int .i64 x2, .slice A2 n2 q2, .slice O2 m2 p2, .int .i64 s2, .slice B2 l2 t2] : Array Value)[oo]? := LB_a1.out.below (LB_a1.out.below (LB_a1.out.drewN BX_a1.out 1) HP11.bl) HP12; have kx12_y : ∀ oo, w12.cell? ⟨w7.heap.size, oo, none⟩ = (#[.int .i64 x2, .slice A_y n2 q_y, .slice O_y m2 p_y, .int .i64 s2, .slice B_y l2 t_y] : Array Value)[oo]? := LB_y.out.below (LB_y.out.below (LB_y.out.drewN BX_y.out 1) HP11.bl) HP12))
  rename_i hHeld
  clear hHeld
  clear hx_a0 hx_a1 hx_x hx_y
  replace BX_a0 := Lib.hid (LB_a0.out.drewN BX_a0.out 1)
  replace BX_a1 := Lib.hid (LB_a1.out.drewN BX_a1.out 1)
  replace BX_x := Lib.hid (LB_x.out.drewN BX_x.out 1)
  replace BX_y := Lib.hid (LB_y.out.drewN BX_y.out 1)
  replace R_a := Lib.hid (LR_a.out.drewN R_a.out 1)
  replace R_b := Lib.hid (LR_b.out.drewN R_b.out 1)
  replace R_x := Lib.hid (LR_x.out.drewN R_x.out 1)
  replace W_x := Lib.hid (LW_x.out.drewN W_x.out 1)
  replace R_y := Lib.hid (LR_y.out.drewN R_y.out 1)
  replace W_y := Lib.hid (LW_y.out.drewN W_y.out 1)
  replace HB := Lib.hid (Below.drewN' HB.out 1)
  have SZ_11 := Lib.hid (show w10.heap.size ≤ w11.heap.size from (by have := HP11.bl.size; first | omega | (simp at this; omega)))
  replace BX_a0 := Lib.hid (LB_a0.out.below BX_a0.out HP11.bl)
  replace BX_a1 := Lib.hid (LB_a1.out.below BX_a1.out HP11.bl)
  replace BX_x := Lib.hid (LB_x.out.below BX_x.out HP11.bl)
  replace BX_y := Lib.hid (LB_y.out.below BX_y.out HP11.bl)
  replace R_a := Lib.hid (LR_a.out.below R_a.out HP11.bl)
  replace R_b := Lib.hid (LR_b.out.below R_b.out HP11.bl)
  replace R_x := Lib.hid (LR_x.out.below R_x.out HP11.bl)
  replace W_x := Lib.hid (LW_x.out.below W_x.out HP11.bl)
  replace R_y := Lib.hid (LR_y.out.below R_y.out HP11.bl)
  replace W_y := Lib.hid (LW_y.out.below W_y.out HP11.bl)
  replace HB := Lib.hid (HB.out.trans (HP11.bl.mono HB.out.size))
  have R_T2 := Lib.hid HP11.r
  have W_T2 := Lib.hid HP11.w
  have LR_T2 := Lib.hid HP11.or
  have LW_T2 := Lib.hid HP11.ow
  have LO_T2 := Lib.hid (HP11.lo (k := w10.heap.size) (by first | exact Nat.le_refl _ | simp))
  have HI_T2 := Lib.hid HP11.hi
  clear HP11
  clear kx11_a1
  clear kx11_y
  have SZ_12 := Lib.hid (show w11.heap.size ≤ w12.heap.size from (by have := HP12.size; first | omega | (simp at this; omega)))
  replace BX_a0 := Lib.hid (LB_a0.out.below BX_a0.out HP12)
  replace BX_a1 := Lib.hid (LB_a1.out.below BX_a1.out HP12)
  replace BX_x := Lib.hid (LB_x.out.below BX_x.out HP12)
  replace BX_y := Lib.hid (LB_y.out.below BX_y.out HP12)
  replace R_a := Lib.hid (LR_a.out.below R_a.out HP12)
  replace R_b := Lib.hid (LR_b.out.below R_b.out HP12)
  replace R_x := Lib.hid (LR_x.out.below R_x.out HP12)
  replace W_x := Lib.hid (LW_x.out.below W_x.out HP12)
  replace R_y := Lib.hid (LR_y.out.below R_y.out HP12)
  replace W_y := Lib.hid (LW_y.out.below W_y.out HP12)
  replace R_T2 := Lib.hid (LR_T2.out.below R_T2.out HP12)
  replace W_T2 := Lib.hid (LW_T2.out.below W_T2.out HP12)
  replace HB := Lib.hid (HB.out.trans (HP12.mono HB.out.size))
  clear HP12
  clear kx12_a1
  clear kx12_y
  have hx_a0 : ∀ oo, w12.cell? ⟨w.heap.size, oo, none⟩ = (#[.int .i64 x1, .slice A1 n1 q1, .slice O1 m1 p1, .int .i64 s1, .slice B1 l1 t1] : Array Value)[oo]? := BX_a0.out
  have hx_a1 : ∀ oo, w12.cell? ⟨w.heap.size + 1, oo, none⟩ = (#[.int .i64 x2, .slice A2 n2 q2, .slice O2 m2 p2, .int .i64 s2, .slice B2 l2 t2] : Array Value)[oo]? := BX_a1.out
  have hx_x : ∀ oo, w12.cell? ⟨w6.heap.size, oo, none⟩ = (#[.int .i64 x1, .slice A_x n1 q_x, .slice O_x m1 p_x, .int .i64 s1, .slice B_x l1 t_x] : Array Value)[oo]? := BX_x.out
  have hx_y : ∀ oo, w12.cell? ⟨w7.heap.size, oo, none⟩ = (#[.int .i64 x2, .slice A_y n2 q_y, .slice O_y m2 p_y, .int .i64 s2, .slice B_y l2 t_y] : Array Value)[oo]? := BX_y.out
  go_wp2_with fail
  go_ret
  exact ⟨rfl, HB.out⟩
end Go.Proofs.Ytjegoffdkmbibaa
