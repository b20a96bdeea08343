/- The walk of the law over HandCastOn, from the contracts: it returns true. No condition. (Printed by wip/lawgen.py.) -/
import Derived.Test.YtmlimefpmldlbaaCastOn
import Derived.Test.YtmlimefpmldlbaaEventLaw
namespace Go.Proofs.Ytmlimefpmldlbaa
open Go.RowKit

set_option maxHeartbeats 1000000 in
theorem lawHandCastOn_walk (n c : Int) (w : World) :
    Calls Try.prog 6 #[.int .i64 n, .int .i64 c] w fun e w' => e = .returned (.bool true) ∧ Below w.heap.size w w' := by
  have hsm := castN_le n c
  go_enter Try.func6, Try.ntmps6
  have HB0 := Lib.hid (Below.refl w.heap.size w)
  go_wp2_with fail
  refine (specHandCastOn_any n c _).mono ?_
  rintro e w1 ⟨A_S, c_S, rfl, hp⟩
  have HN_S := Lib.hid hp
  have HB1 := Lib.hid (HB0.out.trans (hp.bl.mono HB0.out.size))
  have HS1 := Lib.hid (hp.bl.size)
  have RD_S_1 := Lib.hid hp.rd
  have WR_S_1 := Lib.hid hp.wr
  clear hp
  go_wp2_with fail
  refine (implHandCastOn_any n c _).mono ?_
  rintro e w2 ⟨A_G, c_G, rfl, hp⟩
  have HN_G := Lib.hid hp
  have RD_S_2 := Lib.hid (RD_S_1.out.below hp.bl)
  have WR_S_2 := Lib.hid (WR_S_1.out.below hp.bl)
  have HB2 := Lib.hid (HB1.out.trans (hp.bl.mono HB1.out.size))
  have HS2 := Lib.hid (hp.bl.size)
  have RD_G_2 := Lib.hid hp.rd
  have WR_G_2 := Lib.hid hp.wr
  clear hp
  go_wp2_with fail
  refine (eqEventS_any A_G A_S (castN n c) c_G c_S (castZ c) _ RD_G_2.out RD_S_2.out (by omega)).mono ?_
  rintro e w3 ⟨he, hb⟩
  obtain rfl : e = .returned (.bool true) := he
  have RD_S_3 := Lib.hid (RD_S_2.out.below hb)
  have WR_S_3 := Lib.hid (WR_S_2.out.below hb)
  have RD_G_3 := Lib.hid (RD_G_2.out.below hb)
  have WR_G_3 := Lib.hid (WR_G_2.out.below hb)
  have HB3 := Lib.hid (HB2.out.trans (hb.mono HB2.out.size))
  have HS3 := Lib.hid (hb.size)
  clear hb
  go_wp2_with fail
  refine (markEventS_any A_G (castN n c) c_G 1 _ WR_G_3.out (by omega) (by omega) (by omega)).mono ?_
  rintro e w4 hm
  obtain rfl : e = .returned (.int .i64 (1 + (castN n c : Nat) * 6)) := hm.1
  have RD_S_4 := Lib.hid (RD_S_3.out.kept RD_S_1.out HN_G.out.ab (Nat.le_refl _) hm WR_G_3.out)
  have RD_G_4 := Lib.hid (hm.rd WR_G_3.out)
  have HB4 := Lib.hid (HB3.out.trans (hm.below (HN_G.out.ab.mono HB1.out.size) WR_G_3.out))
  have HS4 := Lib.hid hm.2.1
  clear hm
  go_wp2_with fail
  refine (heldEventS_any A_G (castN n c) c_G 1 _ RD_G_4.out (by omega) (by omega) (by omega)).mono ?_
  rintro e w5 ⟨he, hb⟩
  obtain rfl : e = .returned (.int .i64 (1 + (castN n c : Nat) * 6)) := he
  have RD_S_5 := Lib.hid (RD_S_4.out.below hb)
  have RD_G_5 := Lib.hid (RD_G_4.out.below hb)
  have HB5 := Lib.hid (HB4.out.trans (hb.mono HB4.out.size))
  have HS5 := Lib.hid (hb.size)
  clear hb
  go_wp2_with fail
  refine (implHandCastOn_any n c _).mono ?_
  rintro e w6 ⟨A_Z, c_Z, rfl, hp⟩
  have HN_Z := Lib.hid hp
  have RD_S_6 := Lib.hid (RD_S_5.out.below hp.bl)
  have RD_G_6 := Lib.hid (RD_G_5.out.below hp.bl)
  have HB6 := Lib.hid (HB5.out.trans (hp.bl.mono HB5.out.size))
  have HS6 := Lib.hid (hp.bl.size)
  have RD_Z_6 := Lib.hid hp.rd
  have WR_Z_6 := Lib.hid hp.wr
  clear hp
  go_wp2_with fail
  refine (eqEventS_any A_Z A_S (castN n c) c_Z c_S (castZ c) _ RD_Z_6.out RD_S_6.out (by omega)).mono ?_
  rintro e w7 ⟨he, hb⟩
  obtain rfl : e = .returned (.bool true) := he
  have RD_S_7 := Lib.hid (RD_S_6.out.below hb)
  have RD_G_7 := Lib.hid (RD_G_6.out.below hb)
  have RD_Z_7 := Lib.hid (RD_Z_6.out.below hb)
  have WR_Z_7 := Lib.hid (WR_Z_6.out.below hb)
  have HB7 := Lib.hid (HB6.out.trans (hb.mono HB6.out.size))
  have HS7 := Lib.hid (hb.size)
  clear hb
  go_wp2_with fail
  refine (heldEventS_any A_G (castN n c) c_G 1 _ RD_G_7.out (by omega) (by omega) (by omega)).mono ?_
  rintro e w8 ⟨he, hb⟩
  obtain rfl : e = .returned (.int .i64 (1 + (castN n c : Nat) * 6)) := he
  have RD_S_8 := Lib.hid (RD_S_7.out.below hb)
  have RD_G_8 := Lib.hid (RD_G_7.out.below hb)
  have RD_Z_8 := Lib.hid (RD_Z_7.out.below hb)
  have WR_Z_8 := Lib.hid (WR_Z_7.out.below hb)
  have HB8 := Lib.hid (HB7.out.trans (hb.mono HB7.out.size))
  have HS8 := Lib.hid (hb.size)
  clear hb
  go_wp2_with fail
  go_ret
  exact ⟨rfl, HB8.out⟩
end Go.Proofs.Ytmlimefpmldlbaa
