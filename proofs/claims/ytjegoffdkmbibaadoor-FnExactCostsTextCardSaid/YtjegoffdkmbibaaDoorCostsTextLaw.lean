/- The walk of the law over CostsText, from the contracts: it returns true. No condition but strconv's table. (Printed by wip/law2.py.) -/
import Derived.Test.YtjegoffdkmbibaaDoorCostTexts
import Derived.Test.YtjegoffdkmbibaaDoorCosts
import Derived.Test.YtjegoffdkmbibaaDoorObj2
import Derived.Deep.RegionHeld3
import Derived.Deep.RegionWith
namespace Go.Proofs.YtjegoffdkmbibaaDoor
open Go.RowKit
set_option maxRecDepth 20000

set_option maxHeartbeats 2000000 in
theorem lawCostsText_walk (o p r k t : Int) (A : Option Addr) (n c : Nat) (z : Nat → Int) (w : World) (ha : Rd w A n (fun j => .int .i64 (z j))) (hn0 : n ≤ maxLen) (ho : i64B o) (hp : i64B p) (hr : i64B r) (hk : i64B k) (ht : i64B t) (hz : ∀ j, j < n → i64B (z j)) (htab : Tab w) :
    Calls Tryd.prog 5 #[.agg #[.int .i64 o, .int .i64 p, .int .i64 r, .int .i64 k, .int .i64 t, .slice A n c]] w fun e w' => e = .returned (.bool true) ∧ Below w.heap.size w w' := by
  have HB := Lib.hid (Below.refl w.heap.size w)
  have Hho := Lib.hid ho
  clear ho
  have Hhp := Lib.hid hp
  clear hp
  have Hhr := Lib.hid hr
  clear hr
  have Hhk := Lib.hid hk
  clear hk
  have Hht := Lib.hid ht
  clear ht
  have Hhz := Lib.hid hz
  clear hz
  have R_a := Lib.hid ha
  have LR_a := Lib.hid (rd_obj A n (fun j => .int .i64 (z j)))
  have HI_a := Lib.hid (LR_a.out.2 w · R_a.out)
  clear ha
  have R_T := Lib.hid htab
  have LR_T := Lib.hid (tab_loc)
  have HI_T := Lib.hid (LR_T.out.2 w · R_T.out)
  clear htab
  go_enter Tryd.func5, Tryd.ntmps5
  have hba : Below w.heap.size w (w.alloc (.cells #[.int .i64 o, .int .i64 p, .int .i64 r, .int .i64 k, .int .i64 t, .slice A n c] 36)) := (Below.refl _ _).alloc (Nat.le_refl _) _
  replace R_a := Lib.hid (LR_a.out.below R_a.out hba)
  replace R_T := Lib.hid (LR_T.out.below R_T.out hba)
  replace HB := Lib.hid (HB.out.trans (hba.mono HB.out.size))
  have LB_a0 := Lib.hid (box_loc (w.heap.size) #[.int .i64 o, .int .i64 p, .int .i64 r, .int .i64 k, .int .i64 t, .slice A n c] (by simp))
  have BX_a0 := Lib.hid (show BoxAt (w.heap.size) #[.int .i64 o, .int .i64 p, .int .i64 r, .int .i64 k, .int .i64 t, .slice A n c] (w.alloc (.cells #[.int .i64 o, .int .i64 p, .int .i64 r, .int .i64 k, .int .i64 t, .slice A n c] 36)) from fun oo => cell_alloc_at (by simp) oo)
  clear hba
  have hx_a0 : ∀ oo, (w.alloc (.cells #[.int .i64 o, .int .i64 p, .int .i64 r, .int .i64 k, .int .i64 t, .slice A n c] 36)).cell? ⟨w.heap.size, oo, none⟩ = (#[.int .i64 o, .int .i64 p, .int .i64 r, .int .i64 k, .int .i64 t, .slice A n c] : Array Value)[oo]? := BX_a0.out
  go_wp2_with fail
  refine (szCosts_any o p r k t A n c 1048576 _ hn0 (by omega)).mono ?_
  rintro e w1 ⟨r1, hr, rfl, hb⟩
  clear hx_a0
  have SZ_1 := Lib.hid (show w.heap.size + 1 ≤ w1.heap.size from (by have := hb.size; first | omega | (simp at this; omega)))
  replace BX_a0 := Lib.hid (LB_a0.out.below BX_a0.out hb)
  replace R_a := Lib.hid (LR_a.out.below R_a.out hb)
  replace R_T := Lib.hid (LR_T.out.below R_T.out hb)
  replace HB := Lib.hid (HB.out.trans (hb.mono HB.out.size))
  clear hb
  by_cases hr0 : r1 < 0
  · go_wp2_with fail
    go_ret
    exact ⟨rfl, HB.out⟩
  have hsm := hr.resolve_left hr0
  clear hr
  have hn : n ≤ 1048576 := by omega
  have hx_a0 : ∀ oo, w1.cell? ⟨w.heap.size, oo, none⟩ = (#[.int .i64 o, .int .i64 p, .int .i64 r, .int .i64 k, .int .i64 t, .slice A n c] : Array Value)[oo]? := BX_a0.out
  go_wp2_with fail
  refine (toCosts_any o p r k t A n c z _ (R_a.out) hn).mono ?_
  rintro e w2 ⟨A_t1, c_t1, rfl, hp0⟩
  clear hx_a0
  have hp := hp0.obj
  clear hp0
  have SZ_2 := Lib.hid (show w1.heap.size ≤ w2.heap.size from (by have := hp.bl.size; first | omega | (simp at this; omega)))
  replace BX_a0 := Lib.hid (LB_a0.out.below BX_a0.out hp.bl)
  replace R_a := Lib.hid (LR_a.out.below R_a.out hp.bl)
  replace R_T := Lib.hid (LR_T.out.below R_T.out hp.bl)
  replace HB := Lib.hid (HB.out.trans (hp.bl.mono HB.out.size))
  have R_t1 := Lib.hid hp.r
  have W_t1 := Lib.hid hp.w
  have LR_t1 := Lib.hid hp.or
  have LW_t1 := Lib.hid hp.ow
  have LO_t1 := Lib.hid (hp.lo (k := w1.heap.size) (by first | exact Nat.le_refl _ | simp))
  have HI_t1 := Lib.hid hp.hi
  clear hp
  have hx_a0 : ∀ oo, w2.cell? ⟨w.heap.size, oo, none⟩ = (#[.int .i64 o, .int .i64 p, .int .i64 r, .int .i64 k, .int .i64 t, .slice A n c] : Array Value)[oo]? := BX_a0.out
  go_wp2_with fail
  refine (specCostsText_any o p r k t A_t1 n c_t1 z _ (R_t1.out) hn Hho.out Hhp.out Hhr.out Hhk.out Hht.out Hhz.out).mono ?_
  rintro e w3 ⟨he, hb⟩
  clear hx_a0
  obtain rfl : e = .returned (.string (costTo o p r k t z n)) := he
  have SZ_3 := Lib.hid (show w2.heap.size ≤ w3.heap.size from (by have := hb.size; first | omega | (simp at this; omega)))
  replace BX_a0 := Lib.hid (LB_a0.out.below BX_a0.out hb)
  replace R_a := Lib.hid (LR_a.out.below R_a.out hb)
  replace R_T := Lib.hid (LR_T.out.below R_T.out hb)
  replace R_t1 := Lib.hid (LR_t1.out.below R_t1.out hb)
  replace W_t1 := Lib.hid (LW_t1.out.below W_t1.out hb)
  replace HB := Lib.hid (HB.out.trans (hb.mono HB.out.size))
  clear hb
  have hx_a0 : ∀ oo, w3.cell? ⟨w.heap.size, oo, none⟩ = (#[.int .i64 o, .int .i64 p, .int .i64 r, .int .i64 k, .int .i64 t, .slice A n c] : Array Value)[oo]? := BX_a0.out
  go_wp2_with fail
  refine (toCosts_any o p r k t A n c z _ (R_a.out) hn).mono ?_
  rintro e w4 ⟨A_x, c_x, rfl, hp0⟩
  clear hx_a0
  have hp := hp0.obj
  clear hp0
  have SZ_4 := Lib.hid (show w3.heap.size ≤ w4.heap.size from (by have := hp.bl.size; first | omega | (simp at this; omega)))
  replace BX_a0 := Lib.hid (LB_a0.out.below BX_a0.out hp.bl)
  replace R_a := Lib.hid (LR_a.out.below R_a.out hp.bl)
  replace R_T := Lib.hid (LR_T.out.below R_T.out hp.bl)
  replace HB := Lib.hid (HB.out.trans (hp.bl.mono HB.out.size))
  have R_x := Lib.hid hp.r
  have W_x := Lib.hid hp.w
  have LR_x := Lib.hid hp.or
  have LW_x := Lib.hid hp.ow
  have LO_x := Lib.hid (hp.lo (k := w3.heap.size) (by first | exact Nat.le_refl _ | simp))
  have HI_x := Lib.hid hp.hi
  clear hp
  have hba : Below w4.heap.size w4 (w4.alloc (.cells #[.int .i64 o, .int .i64 p, .int .i64 r, .int .i64 k, .int .i64 t, .slice A_x n c_x] 39)) := (Below.refl _ _).alloc (Nat.le_refl _) _
  replace BX_a0 := Lib.hid (LB_a0.out.below BX_a0.out hba)
  replace R_a := Lib.hid (LR_a.out.below R_a.out hba)
  replace R_T := Lib.hid (LR_T.out.below R_T.out hba)
  replace R_x := Lib.hid (LR_x.out.below R_x.out hba)
  replace W_x := Lib.hid (LW_x.out.below W_x.out hba)
  replace HB := Lib.hid (HB.out.trans (hba.mono HB.out.size))
  have LB_x := Lib.hid (box_loc (w4.heap.size) #[.int .i64 o, .int .i64 p, .int .i64 r, .int .i64 k, .int .i64 t, .slice A_x n c_x] (by simp))
  have BX_x := Lib.hid (show BoxAt (w4.heap.size) #[.int .i64 o, .int .i64 p, .int .i64 r, .int .i64 k, .int .i64 t, .slice A_x n c_x] (w4.alloc (.cells #[.int .i64 o, .int .i64 p, .int .i64 r, .int .i64 k, .int .i64 t, .slice A_x n c_x] 39)) from fun oo => cell_alloc_at (by simp) oo)
  clear hba
  have hx_a0 : ∀ oo, (w4.alloc (.cells #[.int .i64 o, .int .i64 p, .int .i64 r, .int .i64 k, .int .i64 t, .slice A_x n c_x] 39)).cell? ⟨w.heap.size, oo, none⟩ = (#[.int .i64 o, .int .i64 p, .int .i64 r, .int .i64 k, .int .i64 t, .slice A n c] : Array Value)[oo]? := BX_a0.out
  have hx_x : ∀ oo, (w4.alloc (.cells #[.int .i64 o, .int .i64 p, .int .i64 r, .int .i64 k, .int .i64 t, .slice A_x n c_x] 39)).cell? ⟨w4.heap.size, oo, none⟩ = (#[.int .i64 o, .int .i64 p, .int .i64 r, .int .i64 k, .int .i64 t, .slice A_x n c_x] : Array Value)[oo]? := BX_x.out
  go_wp2_with fail
  refine (implCostsText_any o p r k t A_x n c_x z _ (R_x.out) hn Hho.out Hhp.out Hhr.out Hhk.out Hht.out Hhz.out (R_T.out)).mono ?_
  rintro e w5 ⟨he, hb⟩
  clear hx_a0 hx_x
  obtain rfl : e = .returned (.string (costTo o p r k t z n)) := he
  have SZ_5 := Lib.hid (show w4.heap.size + 1 ≤ w5.heap.size from (by have := hb.size; first | omega | (simp at this; omega)))
  replace BX_a0 := Lib.hid (LB_a0.out.below BX_a0.out hb)
  replace BX_x := Lib.hid (LB_x.out.below BX_x.out hb)
  replace R_a := Lib.hid (LR_a.out.below R_a.out hb)
  replace R_T := Lib.hid (LR_T.out.below R_T.out hb)
  replace R_x := Lib.hid (LR_x.out.below R_x.out hb)
  replace W_x := Lib.hid (LW_x.out.below W_x.out hb)
  replace HB := Lib.hid (HB.out.trans (hb.mono HB.out.size))
  clear hb
  have hx_a0 : ∀ oo, w5.cell? ⟨w.heap.size, oo, none⟩ = (#[.int .i64 o, .int .i64 p, .int .i64 r, .int .i64 k, .int .i64 t, .slice A n c] : Array Value)[oo]? := BX_a0.out
  have hx_x : ∀ oo, w5.cell? ⟨w4.heap.size, oo, none⟩ = (#[.int .i64 o, .int .i64 p, .int .i64 r, .int .i64 k, .int .i64 t, .slice A_x n c_x] : Array Value)[oo]? := BX_x.out
  go_wp2_with fail
  go_region_held3 (fun w' => (∀ oo, w'.cell? ⟨w.heap.size, oo, none⟩ = (#[.int .i64 o, .int .i64 p, .int .i64 r, .int .i64 k, .int .i64 t, .slice A n c] : Array Value)[oo]?) ∧ (∀ oo, w'.cell? ⟨w4.heap.size, oo, none⟩ = (#[.int .i64 o, .int .i64 p, .int .i64 r, .int .i64 k, .int .i64 t, .slice A_x n c_x] : Array Value)[oo]?)) (go_keep)
    (first
      | (go_at_call 14; refine (toCosts_any o p r k t A n c z _ (LR_a.out.drewN R_a.out 1) hn).mono ?_; rintro e w6 ⟨A_t2, c_t2, rfl, HQ6⟩; have HP6 := HQ6.obj; have kx6_a0 : ∀ oo, w6.cell? ⟨w.heap.size, oo, none⟩ = (#[.int .i64 o, .int .i64 p, .int .i64 r, .int .i64 k, .int .i64 t, .slice A n c] : Array Value)[oo]? := LB_a0.out.below (LB_a0.out.drewN BX_a0.out 1) HP6.bl; have kx6_x : ∀ oo, w6.cell? ⟨w4.heap.size, oo, none⟩ = (#[.int .i64 o, .int .i64 p, .int .i64 r, .int .i64 k, .int .i64 t, .slice A_x n c_x] : Array Value)[oo]? := LB_x.out.below (LB_x.out.drewN BX_x.out 1) HP6.bl)
      | (go_at_call 16; refine (eqCosts_any o p r k t A_x A_t2 n c_x c_t2 z _ (LR_x.out.below (LR_x.out.drewN R_x.out 1) HP6.bl) HP6.r (by omega)).mono ?_; rintro e w7 ⟨rfl, HP7⟩; have kx7_a0 : ∀ oo, w7.cell? ⟨w.heap.size, oo, none⟩ = (#[.int .i64 o, .int .i64 p, .int .i64 r, .int .i64 k, .int .i64 t, .slice A n c] : Array Value)[oo]? := LB_a0.out.below (LB_a0.out.below (LB_a0.out.drewN BX_a0.out 1) HP6.bl) HP7; have kx7_x : ∀ oo, w7.cell? ⟨w4.heap.size, oo, none⟩ = (#[.int .i64 o, .int .i64 p, .int .i64 r, .int .i64 k, .int .i64 t, .slice A_x n c_x] : Array Value)[oo]? := LB_x.out.below (LB_x.out.below (LB_x.out.drewN BX_x.out 1) HP6.bl) HP7))
  rename_i hHeld
  clear hHeld
  clear hx_a0 hx_x
  replace BX_a0 := Lib.hid (LB_a0.out.drewN BX_a0.out 1)
  replace BX_x := Lib.hid (LB_x.out.drewN BX_x.out 1)
  replace R_a := Lib.hid (LR_a.out.drewN R_a.out 1)
  replace R_T := Lib.hid (LR_T.out.drewN R_T.out 1)
  replace R_x := Lib.hid (LR_x.out.drewN R_x.out 1)
  replace W_x := Lib.hid (LW_x.out.drewN W_x.out 1)
  replace HB := Lib.hid (Below.drewN' HB.out 1)
  have SZ_6 := Lib.hid (show w5.heap.size ≤ w6.heap.size from (by have := HP6.bl.size; first | omega | (simp at this; omega)))
  replace BX_a0 := Lib.hid (LB_a0.out.below BX_a0.out HP6.bl)
  replace BX_x := Lib.hid (LB_x.out.below BX_x.out HP6.bl)
  replace R_a := Lib.hid (LR_a.out.below R_a.out HP6.bl)
  replace R_T := Lib.hid (LR_T.out.below R_T.out HP6.bl)
  replace R_x := Lib.hid (LR_x.out.below R_x.out HP6.bl)
  replace W_x := Lib.hid (LW_x.out.below W_x.out HP6.bl)
  replace HB := Lib.hid (HB.out.trans (HP6.bl.mono HB.out.size))
  have R_t2 := Lib.hid HP6.r
  have W_t2 := Lib.hid HP6.w
  have LR_t2 := Lib.hid HP6.or
  have LW_t2 := Lib.hid HP6.ow
  have LO_t2 := Lib.hid (HP6.lo (k := w5.heap.size) (by first | exact Nat.le_refl _ | simp))
  have HI_t2 := Lib.hid HP6.hi
  clear HP6 HQ6
  clear kx6_a0
  clear kx6_x
  have SZ_7 := Lib.hid (show w6.heap.size ≤ w7.heap.size from (by have := HP7.size; first | omega | (simp at this; omega)))
  replace BX_a0 := Lib.hid (LB_a0.out.below BX_a0.out HP7)
  replace BX_x := Lib.hid (LB_x.out.below BX_x.out HP7)
  replace R_a := Lib.hid (LR_a.out.below R_a.out HP7)
  replace R_T := Lib.hid (LR_T.out.below R_T.out HP7)
  replace R_x := Lib.hid (LR_x.out.below R_x.out HP7)
  replace W_x := Lib.hid (LW_x.out.below W_x.out HP7)
  replace R_t2 := Lib.hid (LR_t2.out.below R_t2.out HP7)
  replace W_t2 := Lib.hid (LW_t2.out.below W_t2.out HP7)
  replace HB := Lib.hid (HB.out.trans (HP7.mono HB.out.size))
  clear HP7
  clear kx7_a0
  clear kx7_x
  have hx_a0 : ∀ oo, w7.cell? ⟨w.heap.size, oo, none⟩ = (#[.int .i64 o, .int .i64 p, .int .i64 r, .int .i64 k, .int .i64 t, .slice A n c] : Array Value)[oo]? := BX_a0.out
  have hx_x : ∀ oo, w7.cell? ⟨w4.heap.size, oo, none⟩ = (#[.int .i64 o, .int .i64 p, .int .i64 r, .int .i64 k, .int .i64 t, .slice A_x n c_x] : Array Value)[oo]? := BX_x.out
  go_wp2_with fail
  go_ret
  exact ⟨rfl, HB.out⟩
end Go.Proofs.YtjegoffdkmbibaaDoor
