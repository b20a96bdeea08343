/- The walk of the law over HandCastOn, from the contracts: it returns true. No condition. (Printed by wip/lawgen.py.) -/
import Derived.Test.YtmlimefpmldlbaaCastOn
import Derived.Test.YtmlimefpmldlbaaEventLaw
namespace Go.Proofs.Ytmlimefpmldlbaa
open Go.RowKit

set_option maxHeartbeats 1000000 in
theorem lawHandCastOn_walk (n c : Int) (w : World)  :
    Calls Try.prog 6 #[.int .i64 n, .int .i64 c] w fun e w' => e = .returned (.bool true) ∧ Below w.heap.size w w' := by
  have hsm := castN_le n c
  go_enter Try.func6, Try.ntmps6
  have HB0 := Lib.hid (Below.refl w.heap.size w)
  go_wp2_with fail
  refine (specHandCastOn_any n c _).mono ?_
  rintro e w1 ⟨A_S, c_S, rfl, hp0⟩
  have hp := hp0.obj
  have NEW_S := Lib.hid hp
  have HB1 := Lib.hid (HB0.out.trans (hp.bl.mono HB0.out.size))
  have HS1 := Lib.hid (hp.bl.size)
  have R_S_1 := Lib.hid hp.r
  have W_S_1 := Lib.hid hp.w
  have LR_S := Lib.hid hp.or
  clear hp hp0
  go_wp2_with fail
  refine (implHandCastOn_any n c _).mono ?_
  rintro e w2 ⟨A_G, c_G, rfl, hp0⟩
  have hp := hp0.obj
  have NEW_G := Lib.hid hp
  have R_S_2 := Lib.hid (LR_S.out.below R_S_1.out hp.bl)
  have W_S_2 := Lib.hid (NEW_S.out.ow.below W_S_1.out hp.bl)
  have HB2 := Lib.hid (HB1.out.trans (hp.bl.mono HB1.out.size))
  have HS2 := Lib.hid (hp.bl.size)
  have R_G_2 := Lib.hid hp.r
  have W_G_2 := Lib.hid hp.w
  have LR_G := Lib.hid hp.or
  clear hp hp0
  go_wp2_with fail
  refine (eqEventS_any A_G A_S (castN n c) c_G c_S (castZ c) _ (R_G_2.out) (R_S_2.out) (by omega)).mono ?_
  rintro e w3 ⟨he, hb⟩
  obtain rfl : e = .returned (.bool true) := he
  have R_S_3 := Lib.hid (LR_S.out.below R_S_2.out hb)
  have W_S_3 := Lib.hid (NEW_S.out.ow.below W_S_2.out hb)
  have R_G_3 := Lib.hid (LR_G.out.below R_G_2.out hb)
  have W_G_3 := Lib.hid (NEW_G.out.ow.below W_G_2.out hb)
  have HB3 := Lib.hid (HB2.out.trans (hb.mono HB2.out.size))
  have HS3 := Lib.hid (hb.size)
  clear hb
  go_wp2_with fail
  refine (markEventS_any A_G (castN n c) c_G 1 _ (W_G_3.out) (by omega) (by omega) (by omega)).mono ?_
  rintro e w4 hm0
  have hm := hm0.obj W_G_3.out
  obtain rfl : e = .returned (.int .i64 (1 + (castN n c : Nat) * 6)) := hm.ret
  have R_S_4 := Lib.hid (LR_S.out.kept R_S_3.out LR_S.out R_S_1.out NEW_G.out (Nat.le_refl _) hm.fr)
  have W_S_4 := Lib.hid (NEW_S.out.ow.kept W_S_3.out LR_S.out R_S_1.out NEW_G.out (Nat.le_refl _) hm.fr)
  have R_G_4 := Lib.hid hm.m
  have LM_G := Lib.hid hm.om
  have HB4 := Lib.hid (HB3.out.trans (hm.fr.below HB3.out.size fun b hb => Nat.le_trans HB1.out.size (NEW_G.out.ab b hb)))
  have HS4 := Lib.hid hm.fr.size
  clear hm hm0
  go_wp2_with fail
  refine (heldEventS_any A_G (castN n c) c_G 1 _ (R_G_4.out) (by omega) (by omega) (by omega)).mono ?_
  rintro e w5 ⟨he, hb⟩
  obtain rfl : e = .returned (.int .i64 (1 + (castN n c : Nat) * 6)) := he
  have R_S_5 := Lib.hid (LR_S.out.below R_S_4.out hb)
  have W_S_5 := Lib.hid (NEW_S.out.ow.below W_S_4.out hb)
  have R_G_5 := Lib.hid (LM_G.out.below R_G_4.out hb)
  have HB5 := Lib.hid (HB4.out.trans (hb.mono HB4.out.size))
  have HS5 := Lib.hid (hb.size)
  clear hb
  go_wp2_with fail
  refine (implHandCastOn_any n c _).mono ?_
  rintro e w6 ⟨A_Z, c_Z, rfl, hp0⟩
  have hp := hp0.obj
  have NEW_Z := Lib.hid hp
  have R_S_6 := Lib.hid (LR_S.out.below R_S_5.out hp.bl)
  have W_S_6 := Lib.hid (NEW_S.out.ow.below W_S_5.out hp.bl)
  have R_G_6 := Lib.hid (LM_G.out.below R_G_5.out hp.bl)
  have HB6 := Lib.hid (HB5.out.trans (hp.bl.mono HB5.out.size))
  have HS6 := Lib.hid (hp.bl.size)
  have R_Z_6 := Lib.hid hp.r
  have W_Z_6 := Lib.hid hp.w
  have LR_Z := Lib.hid hp.or
  clear hp hp0
  go_wp2_with fail
  refine (eqEventS_any A_Z A_S (castN n c) c_Z c_S (castZ c) _ (R_Z_6.out) (R_S_6.out) (by omega)).mono ?_
  rintro e w7 ⟨he, hb⟩
  obtain rfl : e = .returned (.bool true) := he
  have R_S_7 := Lib.hid (LR_S.out.below R_S_6.out hb)
  have W_S_7 := Lib.hid (NEW_S.out.ow.below W_S_6.out hb)
  have R_G_7 := Lib.hid (LM_G.out.below R_G_6.out hb)
  have R_Z_7 := Lib.hid (LR_Z.out.below R_Z_6.out hb)
  have W_Z_7 := Lib.hid (NEW_Z.out.ow.below W_Z_6.out hb)
  have HB7 := Lib.hid (HB6.out.trans (hb.mono HB6.out.size))
  have HS7 := Lib.hid (hb.size)
  clear hb
  go_wp2_with fail
  refine (heldEventS_any A_G (castN n c) c_G 1 _ (R_G_7.out) (by omega) (by omega) (by omega)).mono ?_
  rintro e w8 ⟨he, hb⟩
  obtain rfl : e = .returned (.int .i64 (1 + (castN n c : Nat) * 6)) := he
  have R_S_8 := Lib.hid (LR_S.out.below R_S_7.out hb)
  have W_S_8 := Lib.hid (NEW_S.out.ow.below W_S_7.out hb)
  have R_G_8 := Lib.hid (LM_G.out.below R_G_7.out hb)
  have R_Z_8 := Lib.hid (LR_Z.out.below R_Z_7.out hb)
  have W_Z_8 := Lib.hid (NEW_Z.out.ow.below W_Z_7.out hb)
  have HB8 := Lib.hid (HB7.out.trans (hb.mono HB7.out.size))
  have HS8 := Lib.hid (hb.size)
  clear hb
  go_wp2_with fail
  go_ret
  exact ⟨rfl, HB8.out⟩
end Go.Proofs.Ytmlimefpmldlbaa
