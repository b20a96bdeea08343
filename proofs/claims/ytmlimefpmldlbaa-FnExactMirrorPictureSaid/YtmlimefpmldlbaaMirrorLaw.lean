/- The walk of the law over MirrorPicture, from the contracts: it returns true. No condition. (Printed by wip/lawgen.py.) -/
import Derived.Test.YtmlimefpmldlbaaMirror
import Derived.Test.YtmlimefpmldlbaaObjs
namespace Go.Proofs.Ytmlimefpmldlbaa
open Go.RowKit

set_option maxHeartbeats 1000000 in
theorem lawMirrorPicture_walk (A : Option Addr) (n c : Nat) (s : Nat → ByteArray) (hn0 : n ≤ maxLen) (hs0 : ∀ j, j < n → (s j).size ≤ maxLen) (w : World) (ha : Rd w A n (fun j => .string (s j))) :
    Calls Try.prog 5 #[.slice A n c] w fun e w' => e = .returned (.bool true) ∧ Below w.heap.size w w' := by
  have RA := Lib.hid ha
  have LRA := Lib.hid (rd_obj A n (fun j => .string (s j)))
  have HS0 := Lib.hid hs0
  clear ha hs0
  go_enter Try.func5, Try.ntmps5
  have HB0 := Lib.hid (Below.refl w.heap.size w)
  go_wp2_with fail
  refine (szStringS_any A n c s _ RA.out hn0 HS0.out).mono ?_
  rintro e w0 ⟨r, hr, rfl, rfl⟩
  by_cases hr0 : r < 0
  · go_wp2_with fail
    go_ret
    exact ⟨rfl, Below.refl _ _⟩
  obtain ⟨hn, hs⟩ : n ≤ 1048576 ∧ ∀ j, j < n → (s j).size ≤ 1048576 := hr.resolve_left hr0
  have HSZ := Lib.hid hs
  clear hr hs
  go_wp2_with fail
  refine (toStringS_any A n c s _ (RA.out) hn).mono ?_
  rintro e w1 ⟨A_t1, c_t1, rfl, hp0⟩
  have hp := hp0.obj
  have NEW_t1 := Lib.hid hp
  have R_a_1 := Lib.hid (LRA.out.below RA.out hp.bl)
  have HB1 := Lib.hid (HB0.out.trans (hp.bl.mono HB0.out.size))
  have HS1 := Lib.hid (hp.bl.size)
  have R_t1_1 := Lib.hid hp.r
  have W_t1_1 := Lib.hid hp.w
  have LR_t1 := Lib.hid hp.or
  clear hp hp0
  go_wp2_with fail
  refine (specMirrorPicture_any A_t1 n c_t1 s _ (R_t1_1.out) hn HSZ.out).mono ?_
  rintro e w2 ⟨A_S, c_S, rfl, hp0⟩
  have hp := hp0.obj
  have NEW_S := Lib.hid hp
  have R_a_2 := Lib.hid (LRA.out.below R_a_1.out hp.bl)
  have R_t1_2 := Lib.hid (LR_t1.out.below R_t1_1.out hp.bl)
  have W_t1_2 := Lib.hid (NEW_t1.out.ow.below W_t1_1.out hp.bl)
  have HB2 := Lib.hid (HB1.out.trans (hp.bl.mono HB1.out.size))
  have HS2 := Lib.hid (hp.bl.size)
  have R_S_2 := Lib.hid hp.r
  have W_S_2 := Lib.hid hp.w
  have LR_S := Lib.hid hp.or
  clear hp hp0
  go_wp2_with fail
  refine (toStringS_any A n c s _ (R_a_2.out) hn).mono ?_
  rintro e w3 ⟨A_x, c_x, rfl, hp0⟩
  have hp := hp0.obj
  have NEW_x := Lib.hid hp
  have R_a_3 := Lib.hid (LRA.out.below R_a_2.out hp.bl)
  have R_S_3 := Lib.hid (LR_S.out.below R_S_2.out hp.bl)
  have W_S_3 := Lib.hid (NEW_S.out.ow.below W_S_2.out hp.bl)
  have HB3 := Lib.hid (HB2.out.trans (hp.bl.mono HB2.out.size))
  have HS3 := Lib.hid (hp.bl.size)
  have R_x_3 := Lib.hid hp.r
  have W_x_3 := Lib.hid hp.w
  have LR_x := Lib.hid hp.or
  clear hp hp0
  go_wp2_with fail
  refine (implMirrorPicture_any A_x n c_x s _ (R_x_3.out) hn HSZ.out).mono ?_
  rintro e w4 ⟨A_G, c_G, rfl, hp0⟩
  have hp := hp0.obj
  have NEW_G := Lib.hid hp
  have R_a_4 := Lib.hid (LRA.out.below R_a_3.out hp.bl)
  have R_S_4 := Lib.hid (LR_S.out.below R_S_3.out hp.bl)
  have W_S_4 := Lib.hid (NEW_S.out.ow.below W_S_3.out hp.bl)
  have R_x_4 := Lib.hid (LR_x.out.below R_x_3.out hp.bl)
  have W_x_4 := Lib.hid (NEW_x.out.ow.below W_x_3.out hp.bl)
  have HB4 := Lib.hid (HB3.out.trans (hp.bl.mono HB3.out.size))
  have HS4 := Lib.hid (hp.bl.size)
  have R_G_4 := Lib.hid hp.r
  have W_G_4 := Lib.hid hp.w
  have LR_G := Lib.hid hp.or
  clear hp hp0
  go_wp2_with fail
  refine (eqStringS_any A_G A_S n c_G c_S (fun j => strF (s j).size (revB (s j))) _ (R_G_4.out) (R_S_4.out) (by omega)).mono ?_
  rintro e w5 ⟨he, hb⟩
  obtain rfl : e = .returned (.bool true) := he
  have R_a_5 := Lib.hid (LRA.out.below R_a_4.out hb)
  have R_S_5 := Lib.hid (LR_S.out.below R_S_4.out hb)
  have W_S_5 := Lib.hid (NEW_S.out.ow.below W_S_4.out hb)
  have R_x_5 := Lib.hid (LR_x.out.below R_x_4.out hb)
  have W_x_5 := Lib.hid (NEW_x.out.ow.below W_x_4.out hb)
  have R_G_5 := Lib.hid (LR_G.out.below R_G_4.out hb)
  have W_G_5 := Lib.hid (NEW_G.out.ow.below W_G_4.out hb)
  have HB5 := Lib.hid (HB4.out.trans (hb.mono HB4.out.size))
  have HS5 := Lib.hid (hb.size)
  clear hb
  go_wp2_with fail
  refine (toStringS_any A n c s _ (R_a_5.out) hn).mono ?_
  rintro e w6 ⟨A_t2, c_t2, rfl, hp0⟩
  have hp := hp0.obj
  have NEW_t2 := Lib.hid hp
  have R_a_6 := Lib.hid (LRA.out.below R_a_5.out hp.bl)
  have R_S_6 := Lib.hid (LR_S.out.below R_S_5.out hp.bl)
  have W_S_6 := Lib.hid (NEW_S.out.ow.below W_S_5.out hp.bl)
  have R_x_6 := Lib.hid (LR_x.out.below R_x_5.out hp.bl)
  have W_x_6 := Lib.hid (NEW_x.out.ow.below W_x_5.out hp.bl)
  have R_G_6 := Lib.hid (LR_G.out.below R_G_5.out hp.bl)
  have W_G_6 := Lib.hid (NEW_G.out.ow.below W_G_5.out hp.bl)
  have HB6 := Lib.hid (HB5.out.trans (hp.bl.mono HB5.out.size))
  have HS6 := Lib.hid (hp.bl.size)
  have R_t2_6 := Lib.hid hp.r
  have W_t2_6 := Lib.hid hp.w
  have LR_t2 := Lib.hid hp.or
  clear hp hp0
  go_wp2_with fail
  refine (eqStringS_any A_x A_t2 n c_x c_t2 s _ (R_x_6.out) (R_t2_6.out) (by omega)).mono ?_
  rintro e w7 ⟨he, hb⟩
  obtain rfl : e = .returned (.bool true) := he
  have R_a_7 := Lib.hid (LRA.out.below R_a_6.out hb)
  have R_S_7 := Lib.hid (LR_S.out.below R_S_6.out hb)
  have W_S_7 := Lib.hid (NEW_S.out.ow.below W_S_6.out hb)
  have R_x_7 := Lib.hid (LR_x.out.below R_x_6.out hb)
  have W_x_7 := Lib.hid (NEW_x.out.ow.below W_x_6.out hb)
  have R_G_7 := Lib.hid (LR_G.out.below R_G_6.out hb)
  have W_G_7 := Lib.hid (NEW_G.out.ow.below W_G_6.out hb)
  have R_t2_7 := Lib.hid (LR_t2.out.below R_t2_6.out hb)
  have W_t2_7 := Lib.hid (NEW_t2.out.ow.below W_t2_6.out hb)
  have HB7 := Lib.hid (HB6.out.trans (hb.mono HB6.out.size))
  have HS7 := Lib.hid (hb.size)
  clear hb
  go_wp2_with fail
  refine (markStringS_any A_x n c_x 1 _ (W_x_7.out) (by omega) (by omega) (by omega)).mono ?_
  rintro e w8 hm0
  have hm := hm0.obj W_x_7.out
  obtain rfl : e = .returned (.int .i64 (1 + n)) := hm.ret
  have R_a_8 := Lib.hid (LRA.out.kept R_a_7.out LRA.out RA.out NEW_x.out (by have := HS1.out; have := HS2.out; omega) hm.fr)
  have R_S_8 := Lib.hid (LR_S.out.kept R_S_7.out LR_S.out R_S_2.out NEW_x.out (Nat.le_refl _) hm.fr)
  have W_S_8 := Lib.hid (NEW_S.out.ow.kept W_S_7.out LR_S.out R_S_2.out NEW_x.out (Nat.le_refl _) hm.fr)
  have R_G_8 := Lib.hid (LR_G.out.later R_G_7.out NEW_G.out LR_x.out R_x_3.out (Nat.le_refl _) hm.fr)
  have W_G_8 := Lib.hid (NEW_G.out.ow.later W_G_7.out NEW_G.out LR_x.out R_x_3.out (Nat.le_refl _) hm.fr)
  have R_x_8 := Lib.hid hm.m
  have LM_x := Lib.hid hm.om
  have HB8 := Lib.hid (HB7.out.trans (hm.fr.below HB7.out.size fun b hb => Nat.le_trans HB2.out.size (NEW_x.out.ab b hb)))
  have HS8 := Lib.hid hm.fr.size
  clear hm hm0
  go_wp2_with fail
  refine (eqStringS_any A_G A_S n c_G c_S (fun j => strF (s j).size (revB (s j))) _ (R_G_8.out) (R_S_8.out) (by omega)).mono ?_
  rintro e w9 ⟨he, hb⟩
  obtain rfl : e = .returned (.bool true) := he
  have R_a_9 := Lib.hid (LRA.out.below R_a_8.out hb)
  have R_S_9 := Lib.hid (LR_S.out.below R_S_8.out hb)
  have W_S_9 := Lib.hid (NEW_S.out.ow.below W_S_8.out hb)
  have R_G_9 := Lib.hid (LR_G.out.below R_G_8.out hb)
  have W_G_9 := Lib.hid (NEW_G.out.ow.below W_G_8.out hb)
  have HB9 := Lib.hid (HB8.out.trans (hb.mono HB8.out.size))
  have HS9 := Lib.hid (hb.size)
  clear hb
  go_wp2_with fail
  refine (markStringS_any A_G n c_G 1 _ (W_G_9.out) (by omega) (by omega) (by omega)).mono ?_
  rintro e w10 hm0
  have hm := hm0.obj W_G_9.out
  obtain rfl : e = .returned (.int .i64 (1 + n)) := hm.ret
  have R_a_10 := Lib.hid (LRA.out.kept R_a_9.out LRA.out RA.out NEW_G.out (by have := HS1.out; have := HS2.out; have := HS3.out; omega) hm.fr)
  have R_S_10 := Lib.hid (LR_S.out.kept R_S_9.out LR_S.out R_S_2.out NEW_G.out (by have := HS3.out; omega) hm.fr)
  have W_S_10 := Lib.hid (NEW_S.out.ow.kept W_S_9.out LR_S.out R_S_2.out NEW_G.out (by have := HS3.out; omega) hm.fr)
  have R_G_10 := Lib.hid hm.m
  have LM_G := Lib.hid hm.om
  have HB10 := Lib.hid (HB9.out.trans (hm.fr.below HB9.out.size fun b hb => Nat.le_trans HB3.out.size (NEW_G.out.ab b hb)))
  have HS10 := Lib.hid hm.fr.size
  clear hm hm0
  go_wp2_with fail
  refine (heldStringS_any A_G n c_G 1 _ (R_G_10.out) (by omega) (by omega) (by omega)).mono ?_
  rintro e w11 ⟨he, hb⟩
  obtain rfl : e = .returned (.int .i64 (1 + n)) := he
  have R_a_11 := Lib.hid (LRA.out.below R_a_10.out hb)
  have R_S_11 := Lib.hid (LR_S.out.below R_S_10.out hb)
  have W_S_11 := Lib.hid (NEW_S.out.ow.below W_S_10.out hb)
  have R_G_11 := Lib.hid (LM_G.out.below R_G_10.out hb)
  have HB11 := Lib.hid (HB10.out.trans (hb.mono HB10.out.size))
  have HS11 := Lib.hid (hb.size)
  clear hb
  go_wp2_with fail
  refine (toStringS_any A n c s _ (R_a_11.out) hn).mono ?_
  rintro e w12 ⟨A_t3, c_t3, rfl, hp0⟩
  have hp := hp0.obj
  have NEW_t3 := Lib.hid hp
  have R_a_12 := Lib.hid (LRA.out.below R_a_11.out hp.bl)
  have R_S_12 := Lib.hid (LR_S.out.below R_S_11.out hp.bl)
  have W_S_12 := Lib.hid (NEW_S.out.ow.below W_S_11.out hp.bl)
  have R_G_12 := Lib.hid (LM_G.out.below R_G_11.out hp.bl)
  have HB12 := Lib.hid (HB11.out.trans (hp.bl.mono HB11.out.size))
  have HS12 := Lib.hid (hp.bl.size)
  have R_t3_12 := Lib.hid hp.r
  have W_t3_12 := Lib.hid hp.w
  have LR_t3 := Lib.hid hp.or
  clear hp hp0
  go_wp2_with fail
  refine (implMirrorPicture_any A_t3 n c_t3 s _ (R_t3_12.out) hn HSZ.out).mono ?_
  rintro e w13 ⟨A_Z, c_Z, rfl, hp0⟩
  have hp := hp0.obj
  have NEW_Z := Lib.hid hp
  have R_a_13 := Lib.hid (LRA.out.below R_a_12.out hp.bl)
  have R_S_13 := Lib.hid (LR_S.out.below R_S_12.out hp.bl)
  have W_S_13 := Lib.hid (NEW_S.out.ow.below W_S_12.out hp.bl)
  have R_G_13 := Lib.hid (LM_G.out.below R_G_12.out hp.bl)
  have R_t3_13 := Lib.hid (LR_t3.out.below R_t3_12.out hp.bl)
  have W_t3_13 := Lib.hid (NEW_t3.out.ow.below W_t3_12.out hp.bl)
  have HB13 := Lib.hid (HB12.out.trans (hp.bl.mono HB12.out.size))
  have HS13 := Lib.hid (hp.bl.size)
  have R_Z_13 := Lib.hid hp.r
  have W_Z_13 := Lib.hid hp.w
  have LR_Z := Lib.hid hp.or
  clear hp hp0
  go_wp2_with fail
  refine (eqStringS_any A_Z A_S n c_Z c_S (fun j => strF (s j).size (revB (s j))) _ (R_Z_13.out) (R_S_13.out) (by omega)).mono ?_
  rintro e w14 ⟨he, hb⟩
  obtain rfl : e = .returned (.bool true) := he
  have R_a_14 := Lib.hid (LRA.out.below R_a_13.out hb)
  have R_S_14 := Lib.hid (LR_S.out.below R_S_13.out hb)
  have W_S_14 := Lib.hid (NEW_S.out.ow.below W_S_13.out hb)
  have R_G_14 := Lib.hid (LM_G.out.below R_G_13.out hb)
  have R_Z_14 := Lib.hid (LR_Z.out.below R_Z_13.out hb)
  have W_Z_14 := Lib.hid (NEW_Z.out.ow.below W_Z_13.out hb)
  have HB14 := Lib.hid (HB13.out.trans (hb.mono HB13.out.size))
  have HS14 := Lib.hid (hb.size)
  clear hb
  go_wp2_with fail
  refine (heldStringS_any A_G n c_G 1 _ (R_G_14.out) (by omega) (by omega) (by omega)).mono ?_
  rintro e w15 ⟨he, hb⟩
  obtain rfl : e = .returned (.int .i64 (1 + n)) := he
  have R_a_15 := Lib.hid (LRA.out.below R_a_14.out hb)
  have R_S_15 := Lib.hid (LR_S.out.below R_S_14.out hb)
  have W_S_15 := Lib.hid (NEW_S.out.ow.below W_S_14.out hb)
  have R_G_15 := Lib.hid (LM_G.out.below R_G_14.out hb)
  have R_Z_15 := Lib.hid (LR_Z.out.below R_Z_14.out hb)
  have W_Z_15 := Lib.hid (NEW_Z.out.ow.below W_Z_14.out hb)
  have HB15 := Lib.hid (HB14.out.trans (hb.mono HB14.out.size))
  have HS15 := Lib.hid (hb.size)
  clear hb
  go_wp2_with fail
  go_ret
  exact ⟨rfl, HB15.out⟩
end Go.Proofs.Ytmlimefpmldlbaa
