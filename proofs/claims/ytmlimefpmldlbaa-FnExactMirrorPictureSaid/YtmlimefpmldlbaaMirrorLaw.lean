/- The walk of the law over MirrorPicture, from the contracts: it returns true. No condition. (Printed by wip/lawgen.py.) -/
import Derived.Test.YtmlimefpmldlbaaMirror
namespace Go.Proofs.Ytmlimefpmldlbaa
open Go.RowKit

set_option maxHeartbeats 1000000 in
theorem lawMirrorPicture_walk (A : Option Addr) (n c : Nat) (s : Nat → ByteArray) (hn0 : n ≤ maxLen) (hs0 : ∀ j, j < n → (s j).size ≤ maxLen) (w : World) (ha : Rd w A n (fun j => .string (s j))) :
    Calls Try.prog 5 #[.slice A n c] w fun e w' => e = .returned (.bool true) ∧ Below w.heap.size w w' := by
  have RA := Lib.hid ha
  have HS0 := Lib.hid hs0
  clear ha hs0
  go_enter Try.func5, Try.ntmps5
  have HB0 := Lib.hid (Below.refl w.heap.size w)
  go_wp2_with fail
  refine (szStringS_any A n c s _ RA.out hn0 HS0.out).mono ?_
  rintro e w0 ⟨r, hr, rfl, rfl⟩
  by_cases hr0 : r < 0
  · go_wp2_with fail
    go_ret
    exact ⟨rfl, Below.refl _ _⟩
  obtain ⟨hn, hs⟩ : n ≤ 1048576 ∧ ∀ j, j < n → (s j).size ≤ 1048576 := hr.resolve_left hr0
  have HSZ := Lib.hid hs
  clear hr hs
  go_wp2_with fail
  refine (toStringS_any A n c s _ RA.out hn).mono ?_
  rintro e w1 ⟨A_t1, c_t1, rfl, hp⟩
  have HN_t1 := Lib.hid hp
  have RD_a_1 := Lib.hid (RA.out.below hp.bl)
  have HB1 := Lib.hid (HB0.out.trans (hp.bl.mono HB0.out.size))
  have HS1 := Lib.hid (hp.bl.size)
  have RD_t1_1 := Lib.hid hp.rd
  have WR_t1_1 := Lib.hid hp.wr
  clear hp
  go_wp2_with fail
  refine (specMirrorPicture_any A_t1 n c_t1 s _ RD_t1_1.out hn HSZ.out).mono ?_
  rintro e w2 ⟨A_S, c_S, rfl, hp⟩
  have HN_S := Lib.hid hp
  have RD_a_2 := Lib.hid (RD_a_1.out.below hp.bl)
  have RD_t1_2 := Lib.hid (RD_t1_1.out.below hp.bl)
  have WR_t1_2 := Lib.hid (WR_t1_1.out.below hp.bl)
  have HB2 := Lib.hid (HB1.out.trans (hp.bl.mono HB1.out.size))
  have HS2 := Lib.hid (hp.bl.size)
  have RD_S_2 := Lib.hid hp.rd
  have WR_S_2 := Lib.hid hp.wr
  clear hp
  go_wp2_with fail
  refine (toStringS_any A n c s _ RD_a_2.out hn).mono ?_
  rintro e w3 ⟨A_x, c_x, rfl, hp⟩
  have HN_x := Lib.hid hp
  have RD_a_3 := Lib.hid (RD_a_2.out.below hp.bl)
  have RD_S_3 := Lib.hid (RD_S_2.out.below hp.bl)
  have WR_S_3 := Lib.hid (WR_S_2.out.below hp.bl)
  have HB3 := Lib.hid (HB2.out.trans (hp.bl.mono HB2.out.size))
  have HS3 := Lib.hid (hp.bl.size)
  have RD_x_3 := Lib.hid hp.rd
  have WR_x_3 := Lib.hid hp.wr
  clear hp
  go_wp2_with fail
  refine (implMirrorPicture_any A_x n c_x s _ RD_x_3.out hn HSZ.out).mono ?_
  rintro e w4 ⟨A_G, c_G, rfl, hp⟩
  have HN_G := Lib.hid hp
  have RD_a_4 := Lib.hid (RD_a_3.out.below hp.bl)
  have RD_S_4 := Lib.hid (RD_S_3.out.below hp.bl)
  have WR_S_4 := Lib.hid (WR_S_3.out.below hp.bl)
  have RD_x_4 := Lib.hid (RD_x_3.out.below hp.bl)
  have WR_x_4 := Lib.hid (WR_x_3.out.below hp.bl)
  have HB4 := Lib.hid (HB3.out.trans (hp.bl.mono HB3.out.size))
  have HS4 := Lib.hid (hp.bl.size)
  have RD_G_4 := Lib.hid hp.rd
  have WR_G_4 := Lib.hid hp.wr
  clear hp
  go_wp2_with fail
  refine (eqStringS_any A_G A_S n c_G c_S (fun j => strF (s j).size (revB (s j))) _ RD_G_4.out RD_S_4.out (by omega)).mono ?_
  rintro e w5 ⟨he, hb⟩
  obtain rfl : e = .returned (.bool true) := he
  have RD_a_5 := Lib.hid (RD_a_4.out.below hb)
  have RD_S_5 := Lib.hid (RD_S_4.out.below hb)
  have WR_S_5 := Lib.hid (WR_S_4.out.below hb)
  have RD_x_5 := Lib.hid (RD_x_4.out.below hb)
  have WR_x_5 := Lib.hid (WR_x_4.out.below hb)
  have RD_G_5 := Lib.hid (RD_G_4.out.below hb)
  have WR_G_5 := Lib.hid (WR_G_4.out.below hb)
  have HB5 := Lib.hid (HB4.out.trans (hb.mono HB4.out.size))
  have HS5 := Lib.hid (hb.size)
  clear hb
  go_wp2_with fail
  refine (toStringS_any A n c s _ RD_a_5.out hn).mono ?_
  rintro e w6 ⟨A_t2, c_t2, rfl, hp⟩
  have HN_t2 := Lib.hid hp
  have RD_a_6 := Lib.hid (RD_a_5.out.below hp.bl)
  have RD_S_6 := Lib.hid (RD_S_5.out.below hp.bl)
  have WR_S_6 := Lib.hid (WR_S_5.out.below hp.bl)
  have RD_x_6 := Lib.hid (RD_x_5.out.below hp.bl)
  have WR_x_6 := Lib.hid (WR_x_5.out.below hp.bl)
  have RD_G_6 := Lib.hid (RD_G_5.out.below hp.bl)
  have WR_G_6 := Lib.hid (WR_G_5.out.below hp.bl)
  have HB6 := Lib.hid (HB5.out.trans (hp.bl.mono HB5.out.size))
  have HS6 := Lib.hid (hp.bl.size)
  have RD_t2_6 := Lib.hid hp.rd
  have WR_t2_6 := Lib.hid hp.wr
  clear hp
  go_wp2_with fail
  refine (eqStringS_any A_x A_t2 n c_x c_t2 s _ RD_x_6.out RD_t2_6.out (by omega)).mono ?_
  rintro e w7 ⟨he, hb⟩
  obtain rfl : e = .returned (.bool true) := he
  have RD_a_7 := Lib.hid (RD_a_6.out.below hb)
  have RD_S_7 := Lib.hid (RD_S_6.out.below hb)
  have WR_S_7 := Lib.hid (WR_S_6.out.below hb)
  have RD_x_7 := Lib.hid (RD_x_6.out.below hb)
  have WR_x_7 := Lib.hid (WR_x_6.out.below hb)
  have RD_G_7 := Lib.hid (RD_G_6.out.below hb)
  have WR_G_7 := Lib.hid (WR_G_6.out.below hb)
  have RD_t2_7 := Lib.hid (RD_t2_6.out.below hb)
  have WR_t2_7 := Lib.hid (WR_t2_6.out.below hb)
  have HB7 := Lib.hid (HB6.out.trans (hb.mono HB6.out.size))
  have HS7 := Lib.hid (hb.size)
  clear hb
  go_wp2_with fail
  refine (markStringS_any A_x n c_x 1 _ WR_x_7.out (by omega) (by omega) (by omega)).mono ?_
  rintro e w8 hm
  obtain rfl : e = .returned (.int .i64 (1 + n)) := hm.1
  have RD_a_8 := Lib.hid (RD_a_7.out.kept RA.out HN_x.out.ab (by have := HS1.out; have := HS2.out; omega) hm WR_x_7.out)
  have RD_S_8 := Lib.hid (RD_S_7.out.kept RD_S_2.out HN_x.out.ab (Nat.le_refl _) hm WR_x_7.out)
  have RD_G_8 := Lib.hid (RD_G_7.out.later HN_G.out.ab RD_x_3.out (Nat.le_refl _) hm WR_x_7.out)
  have WR_G_8 := Lib.hid (WR_G_7.out.later HN_G.out.ab RD_x_3.out (Nat.le_refl _) hm WR_x_7.out)
  have RD_x_8 := Lib.hid (hm.rd WR_x_7.out)
  have HB8 := Lib.hid (HB7.out.trans (hm.below (HN_x.out.ab.mono HB2.out.size) WR_x_7.out))
  have HS8 := Lib.hid hm.2.1
  clear hm
  go_wp2_with fail
  refine (eqStringS_any A_G A_S n c_G c_S (fun j => strF (s j).size (revB (s j))) _ RD_G_8.out RD_S_8.out (by omega)).mono ?_
  rintro e w9 ⟨he, hb⟩
  obtain rfl : e = .returned (.bool true) := he
  have RD_a_9 := Lib.hid (RD_a_8.out.below hb)
  have RD_S_9 := Lib.hid (RD_S_8.out.below hb)
  have RD_G_9 := Lib.hid (RD_G_8.out.below hb)
  have WR_G_9 := Lib.hid (WR_G_8.out.below hb)
  have HB9 := Lib.hid (HB8.out.trans (hb.mono HB8.out.size))
  have HS9 := Lib.hid (hb.size)
  clear hb
  go_wp2_with fail
  refine (markStringS_any A_G n c_G 1 _ WR_G_9.out (by omega) (by omega) (by omega)).mono ?_
  rintro e w10 hm
  obtain rfl : e = .returned (.int .i64 (1 + n)) := hm.1
  have RD_a_10 := Lib.hid (RD_a_9.out.kept RA.out HN_G.out.ab (by have := HS1.out; have := HS2.out; have := HS3.out; omega) hm WR_G_9.out)
  have RD_S_10 := Lib.hid (RD_S_9.out.kept RD_S_2.out HN_G.out.ab (by have := HS3.out; omega) hm WR_G_9.out)
  have RD_G_10 := Lib.hid (hm.rd WR_G_9.out)
  have HB10 := Lib.hid (HB9.out.trans (hm.below (HN_G.out.ab.mono HB3.out.size) WR_G_9.out))
  have HS10 := Lib.hid hm.2.1
  clear hm
  go_wp2_with fail
  refine (heldStringS_any A_G n c_G 1 _ RD_G_10.out (by omega) (by omega) (by omega)).mono ?_
  rintro e w11 ⟨he, hb⟩
  obtain rfl : e = .returned (.int .i64 (1 + n)) := he
  have RD_a_11 := Lib.hid (RD_a_10.out.below hb)
  have RD_S_11 := Lib.hid (RD_S_10.out.below hb)
  have RD_G_11 := Lib.hid (RD_G_10.out.below hb)
  have HB11 := Lib.hid (HB10.out.trans (hb.mono HB10.out.size))
  have HS11 := Lib.hid (hb.size)
  clear hb
  go_wp2_with fail
  refine (toStringS_any A n c s _ RD_a_11.out hn).mono ?_
  rintro e w12 ⟨A_t3, c_t3, rfl, hp⟩
  have HN_t3 := Lib.hid hp
  have RD_a_12 := Lib.hid (RD_a_11.out.below hp.bl)
  have RD_S_12 := Lib.hid (RD_S_11.out.below hp.bl)
  have RD_G_12 := Lib.hid (RD_G_11.out.below hp.bl)
  have HB12 := Lib.hid (HB11.out.trans (hp.bl.mono HB11.out.size))
  have HS12 := Lib.hid (hp.bl.size)
  have RD_t3_12 := Lib.hid hp.rd
  have WR_t3_12 := Lib.hid hp.wr
  clear hp
  go_wp2_with fail
  refine (implMirrorPicture_any A_t3 n c_t3 s _ RD_t3_12.out hn HSZ.out).mono ?_
  rintro e w13 ⟨A_Z, c_Z, rfl, hp⟩
  have HN_Z := Lib.hid hp
  have RD_a_13 := Lib.hid (RD_a_12.out.below hp.bl)
  have RD_S_13 := Lib.hid (RD_S_12.out.below hp.bl)
  have RD_G_13 := Lib.hid (RD_G_12.out.below hp.bl)
  have RD_t3_13 := Lib.hid (RD_t3_12.out.below hp.bl)
  have WR_t3_13 := Lib.hid (WR_t3_12.out.below hp.bl)
  have HB13 := Lib.hid (HB12.out.trans (hp.bl.mono HB12.out.size))
  have HS13 := Lib.hid (hp.bl.size)
  have RD_Z_13 := Lib.hid hp.rd
  have WR_Z_13 := Lib.hid hp.wr
  clear hp
  go_wp2_with fail
  refine (eqStringS_any A_Z A_S n c_Z c_S (fun j => strF (s j).size (revB (s j))) _ RD_Z_13.out RD_S_13.out (by omega)).mono ?_
  rintro e w14 ⟨he, hb⟩
  obtain rfl : e = .returned (.bool true) := he
  have RD_a_14 := Lib.hid (RD_a_13.out.below hb)
  have RD_S_14 := Lib.hid (RD_S_13.out.below hb)
  have RD_G_14 := Lib.hid (RD_G_13.out.below hb)
  have RD_Z_14 := Lib.hid (RD_Z_13.out.below hb)
  have WR_Z_14 := Lib.hid (WR_Z_13.out.below hb)
  have HB14 := Lib.hid (HB13.out.trans (hb.mono HB13.out.size))
  have HS14 := Lib.hid (hb.size)
  clear hb
  go_wp2_with fail
  refine (heldStringS_any A_G n c_G 1 _ RD_G_14.out (by omega) (by omega) (by omega)).mono ?_
  rintro e w15 ⟨he, hb⟩
  obtain rfl : e = .returned (.int .i64 (1 + n)) := he
  have RD_a_15 := Lib.hid (RD_a_14.out.below hb)
  have RD_S_15 := Lib.hid (RD_S_14.out.below hb)
  have RD_G_15 := Lib.hid (RD_G_14.out.below hb)
  have RD_Z_15 := Lib.hid (RD_Z_14.out.below hb)
  have WR_Z_15 := Lib.hid (WR_Z_14.out.below hb)
  have HB15 := Lib.hid (HB14.out.trans (hb.mono HB14.out.size))
  have HS15 := Lib.hid (hb.size)
  clear hb
  go_wp2_with fail
  go_ret
  exact ⟨rfl, HB15.out⟩
end Go.Proofs.Ytmlimefpmldlbaa
