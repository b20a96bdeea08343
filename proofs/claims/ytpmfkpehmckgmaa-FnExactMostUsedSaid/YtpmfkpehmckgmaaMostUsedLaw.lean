/- The walk of the law over MostUsed, from the contracts: it returns true. No condition. (Printed by wip/law2.py.) -/
import Derived.Test.YtpmfkpehmckgmaaMachMu
import Derived.Test.YtpmfkpehmckgmaaOpCopy
import Derived.Test.YtpmfkpehmckgmaaOpLaw
import Derived.Test.YtpmfkpehmckgmaaObj2
import Derived.Deep.RegionHeld3
import Derived.Deep.RegionWith
namespace Go.Proofs.Ytpmfkpehmckgmaa
open Go.RowKit
set_option maxRecDepth 20000

theorem szOpL_any (A : Option Addr) (n c : Nat) (w : World) (hn : n ≤ maxLen) :
    Calls Try.prog 10 #[.slice A n c, .int .i64 1048576] w fun e w' => ∃ r : Int, (r < 0 ∨ n ≤ 1048576) ∧ e = .returned (.int .i64 r) ∧ Below w.heap.size w w' :=
  (szOpS_any A n c 1048576 w hn (by omega)).mono fun _ _ ⟨r, h, he, hw⟩ => ⟨r, h.imp_right (·.1), he, hw ▸ Below.refl _ _⟩
set_option maxHeartbeats 2000000 in
theorem lawMostUsed_walk (W : Int) (A : Option Addr) (n c : Nat) (z : Nat → Int) (w : World) (ha : Rd w A (n * 8) (fun j => .int .i64 (z j))) (hn0 : n ≤ maxLen) :
    Calls Try.prog 6 #[.int .i64 W, .slice A n c] w fun e w' => e = .returned (.bool true) ∧ Below w.heap.size w w' := by
  obtain ⟨rb, hrb⟩ : ∃ x, x = (muR W z n).1 := ⟨_, rfl⟩
  obtain ⟨rx, hrx⟩ : ∃ x, x = (muR W z n).2.1 := ⟨_, rfl⟩
  obtain ⟨rn, hrn⟩ : ∃ x, x = (muR W z n).2.2.1 := ⟨_, rfl⟩
  obtain ⟨rc, hrc⟩ : ∃ x, x = (muR W z n).2.2.2 := ⟨_, rfl⟩
  have HRB := Lib.hid hrb
  have HRX := Lib.hid hrx
  have HRN := Lib.hid hrn
  have HRC := Lib.hid hrc
  clear hrb hrx hrn hrc
  have HB := Lib.hid (Below.refl w.heap.size w)
  have R_a := Lib.hid ha
  have LR_a := Lib.hid (rd_obj A (n * 8) (fun j => .int .i64 (z j)))
  have HI_a := Lib.hid (LR_a.out.2 w · R_a.out)
  clear ha
  go_enter Try.func6, Try.ntmps6
  go_wp2_with fail
  refine (szOpL_any A n c _ hn0).mono ?_
  rintro e w1 ⟨r1, hr, rfl, hb⟩
  have SZ_1 := Lib.hid (show w.heap.size ≤ w1.heap.size from (by have := hb.size; first | omega | (simp at this; omega)))
  replace R_a := Lib.hid (LR_a.out.below R_a.out hb)
  replace HB := Lib.hid (HB.out.trans (hb.mono HB.out.size))
  clear hb
  by_cases hr0 : r1 < 0
  · go_wp2_with fail
    go_ret
    exact ⟨rfl, HB.out⟩
  have hsm := hr.resolve_left hr0
  clear hr
  have hn : n ≤ 1048576 := by omega
  go_wp2_with fail
  refine (toOpS_any A n c z _ (R_a.out) hn).mono ?_
  rintro e w2 ⟨A_t1, c_t1, rfl, hp0⟩
  have hp := hp0.obj
  clear hp0
  have SZ_2 := Lib.hid (show w1.heap.size ≤ w2.heap.size from (by have := hp.bl.size; first | omega | (simp at this; omega)))
  replace R_a := Lib.hid (LR_a.out.below R_a.out hp.bl)
  replace HB := Lib.hid (HB.out.trans (hp.bl.mono HB.out.size))
  have R_t1 := Lib.hid hp.r
  have W_t1 := Lib.hid hp.w
  have LR_t1 := Lib.hid hp.or
  have LW_t1 := Lib.hid hp.ow
  have LO_t1 := Lib.hid (hp.lo (k := w1.heap.size) (by first | exact Nat.le_refl _ | simp))
  have HI_t1 := Lib.hid hp.hi
  clear hp
  go_wp2_with fail
  refine (specMostUsed_any W A_t1 n c_t1 z _ (R_t1.out) hn).mono ?_
  rintro e w3 ⟨he, hb⟩
  have SZ_3 := Lib.hid (show w2.heap.size ≤ w3.heap.size from (by have := hb.size; first | omega | (simp at this; omega)))
  replace R_a := Lib.hid (LR_a.out.below R_a.out hb)
  replace R_t1 := Lib.hid (LR_t1.out.below R_t1.out hb)
  replace W_t1 := Lib.hid (LW_t1.out.below W_t1.out hb)
  replace HB := Lib.hid (HB.out.trans (hb.mono HB.out.size))
  clear hb
  obtain rfl : e = .returned (.tuple #[.agg #[.int .i64 rb, .int .i64 rx], .int .i64 rn, .int .i64 rc]) := he.trans (by rw [HRB.out, HRX.out, HRN.out, HRC.out])
  have hba : Below w3.heap.size w3 (w3.alloc (.cells #[.int .i64 rb, .int .i64 rx] 37)) := (Below.refl _ _).alloc (Nat.le_refl _) _
  replace R_a := Lib.hid (LR_a.out.below R_a.out hba)
  replace HB := Lib.hid (HB.out.trans (hba.mono HB.out.size))
  have LB_S := Lib.hid (box_loc (w3.heap.size) #[.int .i64 rb, .int .i64 rx] (by simp))
  have BX_S := Lib.hid (show BoxAt (w3.heap.size) #[.int .i64 rb, .int .i64 rx] (w3.alloc (.cells #[.int .i64 rb, .int .i64 rx] 37)) from fun oo => cell_alloc_at (by simp) oo)
  clear hba
  have hx_S : ∀ oo, (w3.alloc (.cells #[.int .i64 rb, .int .i64 rx] 37)).cell? ⟨w3.heap.size, oo, none⟩ = (#[.int .i64 rb, .int .i64 rx] : Array Value)[oo]? := BX_S.out
  go_wp2_with fail
  refine (toOpS_any A n c z _ (R_a.out) hn).mono ?_
  rintro e w4 ⟨A_x, c_x, rfl, hp0⟩
  clear hx_S
  have hp := hp0.obj
  clear hp0
  have SZ_4 := Lib.hid (show w3.heap.size + 1 ≤ w4.heap.size from (by have := hp.bl.size; first | omega | (simp at this; omega)))
  replace BX_S := Lib.hid (LB_S.out.below BX_S.out hp.bl)
  replace R_a := Lib.hid (LR_a.out.below R_a.out hp.bl)
  replace HB := Lib.hid (HB.out.trans (hp.bl.mono HB.out.size))
  have R_x := Lib.hid hp.r
  have W_x := Lib.hid hp.w
  have LR_x := Lib.hid hp.or
  have LW_x := Lib.hid hp.ow
  have LO_x := Lib.hid (hp.lo (k := w3.heap.size + 1) (by first | exact Nat.le_refl _ | simp))
  have HI_x := Lib.hid hp.hi
  clear hp
  have hx_S : ∀ oo, w4.cell? ⟨w3.heap.size, oo, none⟩ = (#[.int .i64 rb, .int .i64 rx] : Array Value)[oo]? := BX_S.out
  go_wp2_with fail
  refine (implMostUsed_any W A_x n c_x z _ (R_x.out) hn).mono ?_
  rintro e w5 ⟨he, hb⟩
  clear hx_S
  have SZ_5 := Lib.hid (show w4.heap.size ≤ w5.heap.size from (by have := hb.size; first | omega | (simp at this; omega)))
  replace BX_S := Lib.hid (LB_S.out.below BX_S.out hb)
  replace R_a := Lib.hid (LR_a.out.below R_a.out hb)
  replace R_x := Lib.hid (LR_x.out.below R_x.out hb)
  replace W_x := Lib.hid (LW_x.out.below W_x.out hb)
  replace HB := Lib.hid (HB.out.trans (hb.mono HB.out.size))
  clear hb
  obtain rfl : e = .returned (.tuple #[.agg #[.int .i64 rb, .int .i64 rx], .int .i64 rn, .int .i64 rc]) := he.trans (by rw [HRB.out, HRX.out, HRN.out, HRC.out])
  have hba : Below w5.heap.size w5 (w5.alloc (.cells #[.int .i64 rb, .int .i64 rx] 37)) := (Below.refl _ _).alloc (Nat.le_refl _) _
  replace BX_S := Lib.hid (LB_S.out.below BX_S.out hba)
  replace R_a := Lib.hid (LR_a.out.below R_a.out hba)
  replace R_x := Lib.hid (LR_x.out.below R_x.out hba)
  replace W_x := Lib.hid (LW_x.out.below W_x.out hba)
  replace HB := Lib.hid (HB.out.trans (hba.mono HB.out.size))
  have LB_G := Lib.hid (box_loc (w5.heap.size) #[.int .i64 rb, .int .i64 rx] (by simp))
  have BX_G := Lib.hid (show BoxAt (w5.heap.size) #[.int .i64 rb, .int .i64 rx] (w5.alloc (.cells #[.int .i64 rb, .int .i64 rx] 37)) from fun oo => cell_alloc_at (by simp) oo)
  clear hba
  have hx_S : ∀ oo, (w5.alloc (.cells #[.int .i64 rb, .int .i64 rx] 37)).cell? ⟨w3.heap.size, oo, none⟩ = (#[.int .i64 rb, .int .i64 rx] : Array Value)[oo]? := BX_S.out
  have hx_G : ∀ oo, (w5.alloc (.cells #[.int .i64 rb, .int .i64 rx] 37)).cell? ⟨w5.heap.size, oo, none⟩ = (#[.int .i64 rb, .int .i64 rx] : Array Value)[oo]? := BX_G.out
  go_wp2_with fail
  refine (eqNeedle_one rb rx _).mono ?_
  rintro e w6 ⟨he, hb⟩
  clear hx_S hx_G
  obtain rfl : e = .returned (.bool true) := he
  have SZ_6 := Lib.hid (show w5.heap.size + 1 ≤ w6.heap.size from (by have := hb.size; first | omega | (simp at this; omega)))
  replace BX_S := Lib.hid (LB_S.out.below BX_S.out hb)
  replace BX_G := Lib.hid (LB_G.out.below BX_G.out hb)
  replace R_a := Lib.hid (LR_a.out.below R_a.out hb)
  replace R_x := Lib.hid (LR_x.out.below R_x.out hb)
  replace W_x := Lib.hid (LW_x.out.below W_x.out hb)
  replace HB := Lib.hid (HB.out.trans (hb.mono HB.out.size))
  clear hb
  have hx_S : ∀ oo, w6.cell? ⟨w3.heap.size, oo, none⟩ = (#[.int .i64 rb, .int .i64 rx] : Array Value)[oo]? := BX_S.out
  have hx_G : ∀ oo, w6.cell? ⟨w5.heap.size, oo, none⟩ = (#[.int .i64 rb, .int .i64 rx] : Array Value)[oo]? := BX_G.out
  go_wp2_with fail
  refine (toOpS_any A n c z _ (R_a.out) hn).mono ?_
  rintro e w7 ⟨A_t2, c_t2, rfl, hp0⟩
  clear hx_S hx_G
  have hp := hp0.obj
  clear hp0
  have SZ_7 := Lib.hid (show w6.heap.size ≤ w7.heap.size from (by have := hp.bl.size; first | omega | (simp at this; omega)))
  replace BX_S := Lib.hid (LB_S.out.below BX_S.out hp.bl)
  replace BX_G := Lib.hid (LB_G.out.below BX_G.out hp.bl)
  replace R_a := Lib.hid (LR_a.out.below R_a.out hp.bl)
  replace R_x := Lib.hid (LR_x.out.below R_x.out hp.bl)
  replace W_x := Lib.hid (LW_x.out.below W_x.out hp.bl)
  replace HB := Lib.hid (HB.out.trans (hp.bl.mono HB.out.size))
  have R_t2 := Lib.hid hp.r
  have W_t2 := Lib.hid hp.w
  have LR_t2 := Lib.hid hp.or
  have LW_t2 := Lib.hid hp.ow
  have LO_t2 := Lib.hid (hp.lo (k := w6.heap.size) (by first | exact Nat.le_refl _ | simp))
  have HI_t2 := Lib.hid hp.hi
  clear hp
  have hx_S : ∀ oo, w7.cell? ⟨w3.heap.size, oo, none⟩ = (#[.int .i64 rb, .int .i64 rx] : Array Value)[oo]? := BX_S.out
  have hx_G : ∀ oo, w7.cell? ⟨w5.heap.size, oo, none⟩ = (#[.int .i64 rb, .int .i64 rx] : Array Value)[oo]? := BX_G.out
  go_wp2_with fail
  refine (eqOpS_any A_x A_t2 n c_x c_t2 z _ (R_x.out) (R_t2.out) (by omega)).mono ?_
  rintro e w8 ⟨he, hb⟩
  clear hx_S hx_G
  obtain rfl : e = .returned (.bool true) := he
  have SZ_8 := Lib.hid (show w7.heap.size ≤ w8.heap.size from (by have := hb.size; first | omega | (simp at this; omega)))
  replace BX_S := Lib.hid (LB_S.out.below BX_S.out hb)
  replace BX_G := Lib.hid (LB_G.out.below BX_G.out hb)
  replace R_a := Lib.hid (LR_a.out.below R_a.out hb)
  replace R_x := Lib.hid (LR_x.out.below R_x.out hb)
  replace W_x := Lib.hid (LW_x.out.below W_x.out hb)
  replace R_t2 := Lib.hid (LR_t2.out.below R_t2.out hb)
  replace W_t2 := Lib.hid (LW_t2.out.below W_t2.out hb)
  replace HB := Lib.hid (HB.out.trans (hb.mono HB.out.size))
  clear hb
  have hx_S : ∀ oo, w8.cell? ⟨w3.heap.size, oo, none⟩ = (#[.int .i64 rb, .int .i64 rx] : Array Value)[oo]? := BX_S.out
  have hx_G : ∀ oo, w8.cell? ⟨w5.heap.size, oo, none⟩ = (#[.int .i64 rb, .int .i64 rx] : Array Value)[oo]? := BX_G.out
  go_wp2_with fail
  go_ret
  exact ⟨rfl, HB.out⟩
end Go.Proofs.Ytpmfkpehmckgmaa
