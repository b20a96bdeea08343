/- The walk of the law over YarnNeed, from the contracts: it returns true. No condition. (Printed by wip/law2.py.) -/
import Derived.Test.YtpmfkpehmckgmaaMachYd
import Derived.Test.YtpmfkpehmckgmaaOpCopy
import Derived.Test.YtpmfkpehmckgmaaOpLaw
import Derived.Test.YtpmfkpehmckgmaaObj2
import Derived.Deep.RegionHeld3
import Derived.Deep.RegionWith
namespace Go.Proofs.Ytpmfkpehmckgmaa
open Go.RowKit
set_option maxRecDepth 20000

theorem szOpL_any (A : Option Addr) (n c : Nat) (w : World) (hn : n ≤ maxLen) :
    Calls Try.prog 10 #[.slice A n c, .int .i64 1048576] w fun e w' => ∃ r : Int, (r < 0 ∨ n ≤ 1048576) ∧ e = .returned (.int .i64 r) ∧ Below w.heap.size w w' :=
  (szOpS_any A n c 1048576 w hn (by omega)).mono fun _ _ ⟨r, h, he, hw⟩ => ⟨r, h.imp_right (·.1), he, hw ▸ Below.refl _ _⟩
set_option maxHeartbeats 2000000 in
theorem lawYarnNeed_walk (W : Int) (A : Option Addr) (n c : Nat) (z : Nat → Int) (car : Int) (w : World) (ha : Rd w A (n * 8) (fun j => .int .i64 (z j))) (hn0 : n ≤ maxLen) :
    Calls Try.prog 8 #[.int .i64 W, .slice A n c, .int .i64 car] w fun e w' => e = .returned (.bool true) ∧ Below w.heap.size w w' := by
  obtain ⟨ry, hry⟩ : ∃ x, x = (ynR W z n car).1 := ⟨_, rfl⟩
  obtain ⟨rc, hrc⟩ : ∃ x, x = (ynR W z n car).2 := ⟨_, rfl⟩
  have HRY := Lib.hid hry
  have HRC := Lib.hid hrc
  clear hry hrc
  have HB := Lib.hid (Below.refl w.heap.size w)
  have R_a := Lib.hid ha
  have LR_a := Lib.hid (rd_obj A (n * 8) (fun j => .int .i64 (z j)))
  have HI_a := Lib.hid (LR_a.out.2 w · R_a.out)
  clear ha
  go_enter Try.func8, Try.ntmps8
  go_wp2_with fail
  refine (szOpL_any A n c _ hn0).mono ?_
  rintro e w1 ⟨r1, hr, rfl, hb⟩
  have SZ_1 := Lib.hid (show w.heap.size ≤ w1.heap.size from (by have := hb.size; first | omega | (simp at this; omega)))
  replace R_a := Lib.hid (LR_a.out.below R_a.out hb)
  replace HB := Lib.hid (HB.out.trans (hb.mono HB.out.size))
  clear hb
  by_cases hr0 : r1 < 0
  · go_wp2_with fail
    go_ret
    exact ⟨rfl, HB.out⟩
  have hsm := hr.resolve_left hr0
  clear hr
  have hn : n ≤ 1048576 := by omega
  go_wp2_with fail
  refine (toOpS_any A n c z _ (R_a.out) hn).mono ?_
  rintro e w2 ⟨A_t1, c_t1, rfl, hp0⟩
  have hp := hp0.obj
  clear hp0
  have SZ_2 := Lib.hid (show w1.heap.size ≤ w2.heap.size from (by have := hp.bl.size; first | omega | (simp at this; omega)))
  replace R_a := Lib.hid (LR_a.out.below R_a.out hp.bl)
  replace HB := Lib.hid (HB.out.trans (hp.bl.mono HB.out.size))
  have R_t1 := Lib.hid hp.r
  have W_t1 := Lib.hid hp.w
  have LR_t1 := Lib.hid hp.or
  have LW_t1 := Lib.hid hp.ow
  have LO_t1 := Lib.hid (hp.lo (k := w1.heap.size) (by first | exact Nat.le_refl _ | simp))
  have HI_t1 := Lib.hid hp.hi
  clear hp
  go_wp2_with fail
  refine (specYarnNeed_any W A_t1 n c_t1 z car _ (R_t1.out) hn).mono ?_
  rintro e w3 ⟨he, hb⟩
  have SZ_3 := Lib.hid (show w2.heap.size ≤ w3.heap.size from (by have := hb.size; first | omega | (simp at this; omega)))
  replace R_a := Lib.hid (LR_a.out.below R_a.out hb)
  replace R_t1 := Lib.hid (LR_t1.out.below R_t1.out hb)
  replace W_t1 := Lib.hid (LW_t1.out.below W_t1.out hb)
  replace HB := Lib.hid (HB.out.trans (hb.mono HB.out.size))
  clear hb
  obtain rfl : e = .returned (.tuple #[.int .i64 ry, .int .i64 rc]) := he.trans (by rw [HRY.out, HRC.out])
  go_wp2_with fail
  refine (toOpS_any A n c z _ (R_a.out) hn).mono ?_
  rintro e w4 ⟨A_x, c_x, rfl, hp0⟩
  have hp := hp0.obj
  clear hp0
  have SZ_4 := Lib.hid (show w3.heap.size ≤ w4.heap.size from (by have := hp.bl.size; first | omega | (simp at this; omega)))
  replace R_a := Lib.hid (LR_a.out.below R_a.out hp.bl)
  replace HB := Lib.hid (HB.out.trans (hp.bl.mono HB.out.size))
  have R_x := Lib.hid hp.r
  have W_x := Lib.hid hp.w
  have LR_x := Lib.hid hp.or
  have LW_x := Lib.hid hp.ow
  have LO_x := Lib.hid (hp.lo (k := w3.heap.size) (by first | exact Nat.le_refl _ | simp))
  have HI_x := Lib.hid hp.hi
  clear hp
  go_wp2_with fail
  refine (implYarnNeed_any W A_x n c_x z car _ (R_x.out) hn).mono ?_
  rintro e w5 ⟨he, hb⟩
  have SZ_5 := Lib.hid (show w4.heap.size ≤ w5.heap.size from (by have := hb.size; first | omega | (simp at this; omega)))
  replace R_a := Lib.hid (LR_a.out.below R_a.out hb)
  replace R_x := Lib.hid (LR_x.out.below R_x.out hb)
  replace W_x := Lib.hid (LW_x.out.below W_x.out hb)
  replace HB := Lib.hid (HB.out.trans (hb.mono HB.out.size))
  clear hb
  obtain rfl : e = .returned (.tuple #[.int .i64 ry, .int .i64 rc]) := he.trans (by rw [HRY.out, HRC.out])
  go_wp2_with fail
  refine (toOpS_any A n c z _ (R_a.out) hn).mono ?_
  rintro e w6 ⟨A_t2, c_t2, rfl, hp0⟩
  have hp := hp0.obj
  clear hp0
  have SZ_6 := Lib.hid (show w5.heap.size ≤ w6.heap.size from (by have := hp.bl.size; first | omega | (simp at this; omega)))
  replace R_a := Lib.hid (LR_a.out.below R_a.out hp.bl)
  replace R_x := Lib.hid (LR_x.out.below R_x.out hp.bl)
  replace W_x := Lib.hid (LW_x.out.below W_x.out hp.bl)
  replace HB := Lib.hid (HB.out.trans (hp.bl.mono HB.out.size))
  have R_t2 := Lib.hid hp.r
  have W_t2 := Lib.hid hp.w
  have LR_t2 := Lib.hid hp.or
  have LW_t2 := Lib.hid hp.ow
  have LO_t2 := Lib.hid (hp.lo (k := w5.heap.size) (by first | exact Nat.le_refl _ | simp))
  have HI_t2 := Lib.hid hp.hi
  clear hp
  go_wp2_with fail
  refine (eqOpS_any A_x A_t2 n c_x c_t2 z _ (R_x.out) (R_t2.out) (by omega)).mono ?_
  rintro e w7 ⟨he, hb⟩
  obtain rfl : e = .returned (.bool true) := he
  have SZ_7 := Lib.hid (show w6.heap.size ≤ w7.heap.size from (by have := hb.size; first | omega | (simp at this; omega)))
  replace R_a := Lib.hid (LR_a.out.below R_a.out hb)
  replace R_x := Lib.hid (LR_x.out.below R_x.out hb)
  replace W_x := Lib.hid (LW_x.out.below W_x.out hb)
  replace R_t2 := Lib.hid (LR_t2.out.below R_t2.out hb)
  replace W_t2 := Lib.hid (LW_t2.out.below W_t2.out hb)
  replace HB := Lib.hid (HB.out.trans (hb.mono HB.out.size))
  clear hb
  go_wp2_with fail
  go_ret
  exact ⟨rfl, HB.out⟩
end Go.Proofs.Ytpmfkpehmckgmaa
