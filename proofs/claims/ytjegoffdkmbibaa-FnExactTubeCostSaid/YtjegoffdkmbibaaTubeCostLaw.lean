/- The walk of the law over TubeCost, from the contracts: it returns true. No condition. (Printed by wip/lawgen.py.) -/
import Derived.Test.YtjegoffdkmbibaaTubeCosts
import Derived.Test.YtjegoffdkmbibaaIntFlat
namespace Go.Proofs.Ytjegoffdkmbibaa
open Go.RowKit

set_option maxHeartbeats 1000000 in
theorem lawTubeCost_walk (n r c : Int) (b t : Bool) (w : World)  :
    Calls Try.prog 5 #[.agg #[.int .i64 n, .int .i64 r, .int .i64 c, .bool b, .bool t]] w fun e w' => e = .returned (.bool true) ∧ Below w.heap.size w w' := by
  have hsm := lCostN_le n r c
  go_enter Try.func5, Try.ntmps5
  have HB0 := Lib.hid (Below.refl w.heap.size w)
  go_wp2_with fail
  have hbl : Below w.heap.size w (w.alloc (.cells #[.int .i64 n, .int .i64 r, .int .i64 c, .bool b, .bool t] 23)) := by (repeat' first | with_reducible exact Below.refl _ _ | with_reducible refine Below.alloc ?_ ?_ _ | with_reducible refine Below.setCell ?_ ?_ _ | with_reducible refine Below.drew ?_ | with_reducible refine Below.drewN' ?_ _ | with_reducible (refine Below.trans ?_ (Below.mono (by assumption) ?_)) | exact Nat.le_refl _ | (simp; done) | (simp; omega) | omega)
  have LB_0 := Lib.hid (box_loc w.heap.size #[.int .i64 n, .int .i64 r, .int .i64 c, .bool b, .bool t] (by simp))
  have BX_0_0 := Lib.hid (box_new w #[.int .i64 n, .int .i64 r, .int .i64 c, .bool b, .bool t] 23)
  refine (toTube_any n r c b t _).mono ?_
  rintro e w1 ⟨he, hb⟩
  obtain rfl : e = .returned (.agg #[.int .i64 n, .int .i64 r, .int .i64 c, .bool b, .bool t]) := he
  have BX_0_1 := Lib.hid (LB_0.out.below BX_0_0.out hb)
  have hb1 : Below w.heap.size w w1 := hbl.trans (hb.mono (by simp))
  have HB1 := Lib.hid (HB0.out.trans (hb1.mono HB0.out.size))
  have HS1 := Lib.hid (hb1.size)
  clear hb1 hbl
  clear hb
  have hx0 : ∀ o, w1.cell? ⟨w.heap.size, o, none⟩ = (#[.int .i64 n, .int .i64 r, .int .i64 c, .bool b, .bool t] : Array Value)[o]? := BX_0_1.out
  go_wp2_with fail
  refine (specTubeCost_any n r c b t _).mono ?_
  rintro e w2 ⟨A_S, c_S, rfl, hp0⟩
  clear hx0
  have hp := hp0.obj
  have NEW_S := Lib.hid hp
  have BX_0_2 := Lib.hid (LB_0.out.below BX_0_1.out hp.bl)
  have HB2 := Lib.hid (HB1.out.trans (hp.bl.mono HB1.out.size))
  have HS2 := Lib.hid (hp.bl.size)
  have R_S_2 := Lib.hid hp.r
  have W_S_2 := Lib.hid hp.w
  have LR_S := Lib.hid hp.or
  clear hp hp0
  have hx0 : ∀ o, w2.cell? ⟨w.heap.size, o, none⟩ = (#[.int .i64 n, .int .i64 r, .int .i64 c, .bool b, .bool t] : Array Value)[o]? := BX_0_2.out
  go_wp2_with fail
  refine (toTube_any n r c b t _).mono ?_
  rintro e w3 ⟨he, hb⟩
  clear hx0
  obtain rfl : e = .returned (.agg #[.int .i64 n, .int .i64 r, .int .i64 c, .bool b, .bool t]) := he
  have BX_0_3 := Lib.hid (LB_0.out.below BX_0_2.out hb)
  have R_S_3 := Lib.hid (LR_S.out.below R_S_2.out hb)
  have W_S_3 := Lib.hid (NEW_S.out.ow.below W_S_2.out hb)
  have HB3 := Lib.hid (HB2.out.trans (hb.mono HB2.out.size))
  have HS3 := Lib.hid (hb.size)
  clear hb
  have hx0 : ∀ o, w3.cell? ⟨w.heap.size, o, none⟩ = (#[.int .i64 n, .int .i64 r, .int .i64 c, .bool b, .bool t] : Array Value)[o]? := BX_0_3.out
  go_wp2_with fail
  refine (implTubeCost_any n r c b t _).mono ?_
  rintro e w4 ⟨A_G, c_G, rfl, hp0⟩
  clear hx0
  have hp := hp0.obj
  have NEW_G := Lib.hid hp
  have BX_0_4 := Lib.hid (LB_0.out.below BX_0_3.out hp.bl)
  have R_S_4 := Lib.hid (LR_S.out.below R_S_3.out hp.bl)
  have W_S_4 := Lib.hid (NEW_S.out.ow.below W_S_3.out hp.bl)
  have HB4 := Lib.hid (HB3.out.trans (hp.bl.mono HB3.out.size))
  have HS4 := Lib.hid (hp.bl.size)
  have R_G_4 := Lib.hid hp.r
  have W_G_4 := Lib.hid hp.w
  have LR_G := Lib.hid hp.or
  clear hp hp0
  have hx0 : ∀ o, w4.cell? ⟨w.heap.size, o, none⟩ = (#[.int .i64 n, .int .i64 r, .int .i64 c, .bool b, .bool t] : Array Value)[o]? := BX_0_4.out
  go_wp2_with fail
  refine (eqInt64S_any A_G A_S (lCostN n r c) c_G c_S (lCostZ n r c b t) _ (R_G_4.out) (R_S_4.out) (by omega)).mono ?_
  rintro e w5 ⟨he, hb⟩
  clear hx0
  obtain rfl : e = .returned (.bool true) := he
  have BX_0_5 := Lib.hid (LB_0.out.below BX_0_4.out hb)
  have R_S_5 := Lib.hid (LR_S.out.below R_S_4.out hb)
  have W_S_5 := Lib.hid (NEW_S.out.ow.below W_S_4.out hb)
  have R_G_5 := Lib.hid (LR_G.out.below R_G_4.out hb)
  have W_G_5 := Lib.hid (NEW_G.out.ow.below W_G_4.out hb)
  have HB5 := Lib.hid (HB4.out.trans (hb.mono HB4.out.size))
  have HS5 := Lib.hid (hb.size)
  clear hb
  have hx0 : ∀ o, w5.cell? ⟨w.heap.size, o, none⟩ = (#[.int .i64 n, .int .i64 r, .int .i64 c, .bool b, .bool t] : Array Value)[o]? := BX_0_5.out
  go_wp2_with fail
  refine (markInt64S_any A_G (lCostN n r c) c_G 1 _ (W_G_5.out) (by omega) (by omega) (by omega)).mono ?_
  rintro e w6 hm0
  clear hx0
  have hm := hm0.obj W_G_5.out
  obtain rfl : e = .returned (.int .i64 (1 + (lCostN n r c : Nat) * 1)) := hm.ret
  have BX_0_6 := Lib.hid (LB_0.out.kept BX_0_5.out LB_0.out BX_0_3.out NEW_G.out (Nat.le_refl _) hm.fr)
  have R_S_6 := Lib.hid (LR_S.out.kept R_S_5.out LR_S.out R_S_2.out NEW_G.out (by have := HS3.out; omega) hm.fr)
  have W_S_6 := Lib.hid (NEW_S.out.ow.kept W_S_5.out LR_S.out R_S_2.out NEW_G.out (by have := HS3.out; omega) hm.fr)
  have R_G_6 := Lib.hid hm.m
  have LM_G := Lib.hid hm.om
  have HB6 := Lib.hid (HB5.out.trans (hm.fr.below HB5.out.size fun b hb => Nat.le_trans HB3.out.size (NEW_G.out.ab b hb)))
  have HS6 := Lib.hid hm.fr.size
  clear hm hm0
  have hx0 : ∀ o, w6.cell? ⟨w.heap.size, o, none⟩ = (#[.int .i64 n, .int .i64 r, .int .i64 c, .bool b, .bool t] : Array Value)[o]? := BX_0_6.out
  go_wp2_with fail
  refine (heldInt64S_any A_G (lCostN n r c) c_G 1 _ (R_G_6.out) (by omega) (by omega) (by omega)).mono ?_
  rintro e w7 ⟨he, hb⟩
  clear hx0
  obtain rfl : e = .returned (.int .i64 (1 + (lCostN n r c : Nat) * 1)) := he
  have BX_0_7 := Lib.hid (LB_0.out.below BX_0_6.out hb)
  have R_S_7 := Lib.hid (LR_S.out.below R_S_6.out hb)
  have W_S_7 := Lib.hid (NEW_S.out.ow.below W_S_6.out hb)
  have R_G_7 := Lib.hid (LM_G.out.below R_G_6.out hb)
  have HB7 := Lib.hid (HB6.out.trans (hb.mono HB6.out.size))
  have HS7 := Lib.hid (hb.size)
  clear hb
  have hx0 : ∀ o, w7.cell? ⟨w.heap.size, o, none⟩ = (#[.int .i64 n, .int .i64 r, .int .i64 c, .bool b, .bool t] : Array Value)[o]? := BX_0_7.out
  go_wp2_with fail
  refine (toTube_any n r c b t _).mono ?_
  rintro e w8 ⟨he, hb⟩
  clear hx0
  obtain rfl : e = .returned (.agg #[.int .i64 n, .int .i64 r, .int .i64 c, .bool b, .bool t]) := he
  have BX_0_8 := Lib.hid (LB_0.out.below BX_0_7.out hb)
  have R_S_8 := Lib.hid (LR_S.out.below R_S_7.out hb)
  have W_S_8 := Lib.hid (NEW_S.out.ow.below W_S_7.out hb)
  have R_G_8 := Lib.hid (LM_G.out.below R_G_7.out hb)
  have HB8 := Lib.hid (HB7.out.trans (hb.mono HB7.out.size))
  have HS8 := Lib.hid (hb.size)
  clear hb
  have hx0 : ∀ o, w8.cell? ⟨w.heap.size, o, none⟩ = (#[.int .i64 n, .int .i64 r, .int .i64 c, .bool b, .bool t] : Array Value)[o]? := BX_0_8.out
  go_wp2_with fail
  refine (implTubeCost_any n r c b t _).mono ?_
  rintro e w9 ⟨A_Z, c_Z, rfl, hp0⟩
  clear hx0
  have hp := hp0.obj
  have NEW_Z := Lib.hid hp
  have BX_0_9 := Lib.hid (LB_0.out.below BX_0_8.out hp.bl)
  have R_S_9 := Lib.hid (LR_S.out.below R_S_8.out hp.bl)
  have W_S_9 := Lib.hid (NEW_S.out.ow.below W_S_8.out hp.bl)
  have R_G_9 := Lib.hid (LM_G.out.below R_G_8.out hp.bl)
  have HB9 := Lib.hid (HB8.out.trans (hp.bl.mono HB8.out.size))
  have HS9 := Lib.hid (hp.bl.size)
  have R_Z_9 := Lib.hid hp.r
  have W_Z_9 := Lib.hid hp.w
  have LR_Z := Lib.hid hp.or
  clear hp hp0
  have hx0 : ∀ o, w9.cell? ⟨w.heap.size, o, none⟩ = (#[.int .i64 n, .int .i64 r, .int .i64 c, .bool b, .bool t] : Array Value)[o]? := BX_0_9.out
  go_wp2_with fail
  refine (eqInt64S_any A_Z A_S (lCostN n r c) c_Z c_S (lCostZ n r c b t) _ (R_Z_9.out) (R_S_9.out) (by omega)).mono ?_
  rintro e w10 ⟨he, hb⟩
  clear hx0
  obtain rfl : e = .returned (.bool true) := he
  have BX_0_10 := Lib.hid (LB_0.out.below BX_0_9.out hb)
  have R_S_10 := Lib.hid (LR_S.out.below R_S_9.out hb)
  have W_S_10 := Lib.hid (NEW_S.out.ow.below W_S_9.out hb)
  have R_G_10 := Lib.hid (LM_G.out.below R_G_9.out hb)
  have R_Z_10 := Lib.hid (LR_Z.out.below R_Z_9.out hb)
  have W_Z_10 := Lib.hid (NEW_Z.out.ow.below W_Z_9.out hb)
  have HB10 := Lib.hid (HB9.out.trans (hb.mono HB9.out.size))
  have HS10 := Lib.hid (hb.size)
  clear hb
  have hx0 : ∀ o, w10.cell? ⟨w.heap.size, o, none⟩ = (#[.int .i64 n, .int .i64 r, .int .i64 c, .bool b, .bool t] : Array Value)[o]? := BX_0_10.out
  go_wp2_with fail
  refine (heldInt64S_any A_G (lCostN n r c) c_G 1 _ (R_G_10.out) (by omega) (by omega) (by omega)).mono ?_
  rintro e w11 ⟨he, hb⟩
  clear hx0
  obtain rfl : e = .returned (.int .i64 (1 + (lCostN n r c : Nat) * 1)) := he
  have BX_0_11 := Lib.hid (LB_0.out.below BX_0_10.out hb)
  have R_S_11 := Lib.hid (LR_S.out.below R_S_10.out hb)
  have W_S_11 := Lib.hid (NEW_S.out.ow.below W_S_10.out hb)
  have R_G_11 := Lib.hid (LM_G.out.below R_G_10.out hb)
  have R_Z_11 := Lib.hid (LR_Z.out.below R_Z_10.out hb)
  have W_Z_11 := Lib.hid (NEW_Z.out.ow.below W_Z_10.out hb)
  have HB11 := Lib.hid (HB10.out.trans (hb.mono HB10.out.size))
  have HS11 := Lib.hid (hb.size)
  clear hb
  have hx0 : ∀ o, w11.cell? ⟨w.heap.size, o, none⟩ = (#[.int .i64 n, .int .i64 r, .int .i64 c, .bool b, .bool t] : Array Value)[o]? := BX_0_11.out
  go_wp2_with fail
  go_ret
  exact ⟨rfl, HB11.out⟩
end Go.Proofs.Ytjegoffdkmbibaa
