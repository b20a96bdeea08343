/- The walk of the law over HandKnit, from the contracts: it returns true. No condition. (Printed by wip/law2.py.) -/
import Derived.Test.YtfncdogbpmiomaaHkX2
import Derived.Test.YtfncdogbpmiomaaChartLaw
import Derived.Test.YtfncdogbpmiomaaEventLaw
import Derived.Test.YtfncdogbpmiomaaObj2
import Derived.Deep.RegionHeld3
import Derived.Deep.RegionWith
namespace Go.Proofs.Ytfncdogbpmiomaa
open Go.RowKit
set_option maxRecDepth 20000

theorem hkN_le (cols : Int) (n : Nat) (d c : Nat → Int) (ns : Nat → Nat) (z : Nat → Nat → Int) : hkN cols n d c ns z ≤ 50000 := by
  unfold hkN
  split
  · rename_i h
    simp only [chartB, Bool.and_eq_true, decide_eq_true_eq] at h
    have h1 := inB_of h.1.1
    have h2 := hkE_length (d := d) (c := c) (cols := cols.toNat) (by omega) h.2 (Nat.le_refl n)
    omega
  · omega
set_option maxHeartbeats 2000000 in
theorem lawHandKnit_walk (cols : Int) (A : Option Addr) (n q : Nat) (d c : Nat → Int) (As : Nat → Option Addr) (ns cs : Nat → Nat) (z : Nat → Nat → Int) (w : World) (ha : RdRows A n d c As ns cs z w) (hn0 : n ≤ maxLen) (hns0 : ∀ j, j < n → ns j ≤ maxLen) :
    Calls Try.prog 3 #[.agg #[.int .i64 cols, .slice A n q]] w fun e w' => e = .returned (.bool true) ∧ Below w.heap.size w w' := by
  have hpn := hkN_le cols n d c ns z
  have HB := Lib.hid (Below.refl w.heap.size w)
  have HNS0 := Lib.hid hns0
  clear hns0
  have R_a := Lib.hid ha
  have LR_a := Lib.hid (rdRows_obj A n d c As ns cs z)
  have HI_a := Lib.hid (LR_a.out.2 w · R_a.out)
  clear ha
  go_enter Try.func3, Try.ntmps3
  have hba : Below w.heap.size w (w.alloc (.cells #[.int .i64 cols, .slice A n q] 24)) := (Below.refl _ _).alloc (Nat.le_refl _) _
  replace R_a := Lib.hid (LR_a.out.below R_a.out hba)
  replace HB := Lib.hid (HB.out.trans (hba.mono HB.out.size))
  have LB_a0 := Lib.hid (box_loc (w.heap.size) #[.int .i64 cols, .slice A n q] (by simp))
  have BX_a0 := Lib.hid (show BoxAt (w.heap.size) #[.int .i64 cols, .slice A n q] (w.alloc (.cells #[.int .i64 cols, .slice A n q] 24)) from fun oo => cell_alloc_at (by simp) oo)
  clear hba
  have hx_a0 : ∀ oo, (w.alloc (.cells #[.int .i64 cols, .slice A n q] 24)).cell? ⟨w.heap.size, oo, none⟩ = (#[.int .i64 cols, .slice A n q] : Array Value)[oo]? := BX_a0.out
  go_wp2_with fail
  refine (szChart_any cols A n q 1048576 d c As ns cs z _ (R_a.out) hn0 HNS0.out (by omega)).mono ?_
  rintro e w1 ⟨r1, hr, rfl, hb⟩
  clear hx_a0
  have SZ_1 := Lib.hid (show w.heap.size + 1 ≤ w1.heap.size from (by have := hb.size; first | omega | (simp at this; omega)))
  replace BX_a0 := Lib.hid (LB_a0.out.below BX_a0.out hb)
  replace R_a := Lib.hid (LR_a.out.below R_a.out hb)
  replace HB := Lib.hid (HB.out.trans (hb.mono HB.out.size))
  clear hb
  by_cases hr0 : r1 < 0
  · go_wp2_with fail
    go_ret
    exact ⟨rfl, HB.out⟩
  have hsm := hr.resolve_left hr0
  clear hr
  obtain ⟨hs1, hs2⟩ := hsm
  have hn : n ≤ 1048576 := by omega
  have hsum : sumN ns n ≤ 1048576 := by omega
  have HNS := Lib.hid (show ∀ j, j < n → ns j ≤ 1048576 from fun j hj => by have := sumN_one ns hj; omega)
  clear HNS0 hs2
  have hx_a0 : ∀ oo, w1.cell? ⟨w.heap.size, oo, none⟩ = (#[.int .i64 cols, .slice A n q] : Array Value)[oo]? := BX_a0.out
  go_wp2_with fail
  refine (toChart_any cols A n q d c As ns cs z _ (R_a.out) hn HNS.out).mono ?_
  rintro e w2 ⟨A_t1, c_t1, As_t1, cs_t1, rfl, hp⟩
  clear hx_a0
  have SZ_2 := Lib.hid (show w1.heap.size ≤ w2.heap.size from (by have := hp.bl.size; first | omega | (simp at this; omega)))
  replace BX_a0 := Lib.hid (LB_a0.out.below BX_a0.out hp.bl)
  replace R_a := Lib.hid (LR_a.out.below R_a.out hp.bl)
  replace HB := Lib.hid (HB.out.trans (hp.bl.mono HB.out.size))
  have R_t1 := Lib.hid hp.r
  have W_t1 := Lib.hid hp.w
  have LR_t1 := Lib.hid hp.or
  have LW_t1 := Lib.hid hp.ow
  have LO_t1 := Lib.hid (hp.lo (k := w1.heap.size) (by first | exact Nat.le_refl _ | simp))
  have HI_t1 := Lib.hid hp.hi
  clear hp
  have hx_a0 : ∀ oo, w2.cell? ⟨w.heap.size, oo, none⟩ = (#[.int .i64 cols, .slice A n q] : Array Value)[oo]? := BX_a0.out
  go_wp2_with fail
  refine (specHandKnit_any cols A_t1 n c_t1 d c As_t1 ns cs_t1 z _ (R_t1.out) hn HNS.out).mono ?_
  rintro e w3 ⟨A_S, c_S, rfl, hp0⟩
  clear hx_a0
  have hp := hp0.obj
  clear hp0
  have SZ_3 := Lib.hid (show w2.heap.size ≤ w3.heap.size from (by have := hp.bl.size; first | omega | (simp at this; omega)))
  replace BX_a0 := Lib.hid (LB_a0.out.below BX_a0.out hp.bl)
  replace R_a := Lib.hid (LR_a.out.below R_a.out hp.bl)
  replace R_t1 := Lib.hid (LR_t1.out.below R_t1.out hp.bl)
  replace W_t1 := Lib.hid (LW_t1.out.below W_t1.out hp.bl)
  replace HB := Lib.hid (HB.out.trans (hp.bl.mono HB.out.size))
  have R_S := Lib.hid hp.r
  have W_S := Lib.hid hp.w
  have LR_S := Lib.hid hp.or
  have LW_S := Lib.hid hp.ow
  have LO_S := Lib.hid (hp.lo (k := w2.heap.size) (by first | exact Nat.le_refl _ | simp))
  have HI_S := Lib.hid hp.hi
  clear hp
  have hx_a0 : ∀ oo, w3.cell? ⟨w.heap.size, oo, none⟩ = (#[.int .i64 cols, .slice A n q] : Array Value)[oo]? := BX_a0.out
  go_wp2_with fail
  refine (toChart_any cols A n q d c As ns cs z _ (R_a.out) hn HNS.out).mono ?_
  rintro e w4 ⟨A_x, c_x, As_x, cs_x, rfl, hp⟩
  clear hx_a0
  have SZ_4 := Lib.hid (show w3.heap.size ≤ w4.heap.size from (by have := hp.bl.size; first | omega | (simp at this; omega)))
  replace BX_a0 := Lib.hid (LB_a0.out.below BX_a0.out hp.bl)
  replace R_a := Lib.hid (LR_a.out.below R_a.out hp.bl)
  replace R_S := Lib.hid (LR_S.out.below R_S.out hp.bl)
  replace W_S := Lib.hid (LW_S.out.below W_S.out hp.bl)
  replace HB := Lib.hid (HB.out.trans (hp.bl.mono HB.out.size))
  have R_x := Lib.hid hp.r
  have W_x := Lib.hid hp.w
  have LR_x := Lib.hid hp.or
  have LW_x := Lib.hid hp.ow
  have LO_x := Lib.hid (hp.lo (k := w3.heap.size) (by first | exact Nat.le_refl _ | simp))
  have HI_x := Lib.hid hp.hi
  clear hp
  have hba : Below w4.heap.size w4 (w4.alloc (.cells #[.int .i64 cols, .slice A_x n c_x] 31)) := (Below.refl _ _).alloc (Nat.le_refl _) _
  replace BX_a0 := Lib.hid (LB_a0.out.below BX_a0.out hba)
  replace R_a := Lib.hid (LR_a.out.below R_a.out hba)
  replace R_S := Lib.hid (LR_S.out.below R_S.out hba)
  replace W_S := Lib.hid (LW_S.out.below W_S.out hba)
  replace R_x := Lib.hid (LR_x.out.below R_x.out hba)
  replace W_x := Lib.hid (LW_x.out.below W_x.out hba)
  replace HB := Lib.hid (HB.out.trans (hba.mono HB.out.size))
  have LB_x := Lib.hid (box_loc (w4.heap.size) #[.int .i64 cols, .slice A_x n c_x] (by simp))
  have BX_x := Lib.hid (show BoxAt (w4.heap.size) #[.int .i64 cols, .slice A_x n c_x] (w4.alloc (.cells #[.int .i64 cols, .slice A_x n c_x] 31)) from fun oo => cell_alloc_at (by simp) oo)
  clear hba
  have hx_a0 : ∀ oo, (w4.alloc (.cells #[.int .i64 cols, .slice A_x n c_x] 31)).cell? ⟨w.heap.size, oo, none⟩ = (#[.int .i64 cols, .slice A n q] : Array Value)[oo]? := BX_a0.out
  have hx_x : ∀ oo, (w4.alloc (.cells #[.int .i64 cols, .slice A_x n c_x] 31)).cell? ⟨w4.heap.size, oo, none⟩ = (#[.int .i64 cols, .slice A_x n c_x] : Array Value)[oo]? := BX_x.out
  go_wp2_with fail
  refine (implHandKnit_any cols A_x n c_x d c As_x ns cs_x z _ (R_x.out) hn HNS.out).mono ?_
  rintro e w5 ⟨A_G, c_G, rfl, hp0⟩
  clear hx_a0 hx_x
  have hp := hp0.obj
  clear hp0
  have SZ_5 := Lib.hid (show w4.heap.size + 1 ≤ w5.heap.size from (by have := hp.bl.size; first | omega | (simp at this; omega)))
  replace BX_a0 := Lib.hid (LB_a0.out.below BX_a0.out hp.bl)
  replace BX_x := Lib.hid (LB_x.out.below BX_x.out hp.bl)
  replace R_a := Lib.hid (LR_a.out.below R_a.out hp.bl)
  replace R_S := Lib.hid (LR_S.out.below R_S.out hp.bl)
  replace W_S := Lib.hid (LW_S.out.below W_S.out hp.bl)
  replace R_x := Lib.hid (LR_x.out.below R_x.out hp.bl)
  replace W_x := Lib.hid (LW_x.out.below W_x.out hp.bl)
  replace HB := Lib.hid (HB.out.trans (hp.bl.mono HB.out.size))
  have R_G := Lib.hid hp.r
  have W_G := Lib.hid hp.w
  have LR_G := Lib.hid hp.or
  have LW_G := Lib.hid hp.ow
  have LO_G := Lib.hid (hp.lo (k := w4.heap.size + 1) (by first | exact Nat.le_refl _ | simp))
  have HI_G := Lib.hid hp.hi
  clear hp
  have hx_a0 : ∀ oo, w5.cell? ⟨w.heap.size, oo, none⟩ = (#[.int .i64 cols, .slice A n q] : Array Value)[oo]? := BX_a0.out
  have hx_x : ∀ oo, w5.cell? ⟨w4.heap.size, oo, none⟩ = (#[.int .i64 cols, .slice A_x n c_x] : Array Value)[oo]? := BX_x.out
  go_wp2_with fail
  refine (eqEventS_any A_G A_S (hkN cols n d c ns z) c_G c_S (fun j => (hkE cols.toNat d c ns z n).getD j 0) _ (R_G.out) (R_S.out) (by omega)).mono ?_
  rintro e w6 ⟨he, hb⟩
  clear hx_a0 hx_x
  obtain rfl : e = .returned (.bool true) := he
  have SZ_6 := Lib.hid (show w5.heap.size ≤ w6.heap.size from (by have := hb.size; first | omega | (simp at this; omega)))
  replace BX_a0 := Lib.hid (LB_a0.out.below BX_a0.out hb)
  replace BX_x := Lib.hid (LB_x.out.below BX_x.out hb)
  replace R_a := Lib.hid (LR_a.out.below R_a.out hb)
  replace R_S := Lib.hid (LR_S.out.below R_S.out hb)
  replace W_S := Lib.hid (LW_S.out.below W_S.out hb)
  replace R_x := Lib.hid (LR_x.out.below R_x.out hb)
  replace W_x := Lib.hid (LW_x.out.below W_x.out hb)
  replace R_G := Lib.hid (LR_G.out.below R_G.out hb)
  replace W_G := Lib.hid (LW_G.out.below W_G.out hb)
  replace HB := Lib.hid (HB.out.trans (hb.mono HB.out.size))
  clear hb
  have hx_a0 : ∀ oo, w6.cell? ⟨w.heap.size, oo, none⟩ = (#[.int .i64 cols, .slice A n q] : Array Value)[oo]? := BX_a0.out
  have hx_x : ∀ oo, w6.cell? ⟨w4.heap.size, oo, none⟩ = (#[.int .i64 cols, .slice A_x n c_x] : Array Value)[oo]? := BX_x.out
  go_wp2_with fail
  go_region_held3 (fun w' => (∀ oo, w'.cell? ⟨w.heap.size, oo, none⟩ = (#[.int .i64 cols, .slice A n q] : Array Value)[oo]?) ∧ (∀ oo, w'.cell? ⟨w4.heap.size, oo, none⟩ = (#[.int .i64 cols, .slice A_x n c_x] : Array Value)[oo]?)) (go_keep)
    (first
      | (go_at_call 9; refine (toChart_any cols A n q d c As ns cs z _ (LR_a.out.drewN R_a.out 1) hn HNS.out).mono ?_; rintro e w7 ⟨A_t2, c_t2, As_t2, cs_t2, rfl, HP7⟩; have kx7_a0 : ∀ oo, w7.cell? ⟨w.heap.size, oo, none⟩ = (#[.int .i64 cols, .slice A n q] : Array Value)[oo]? := LB_a0.out.below (LB_a0.out.drewN BX_a0.out 1) HP7.bl; have kx7_x : ∀ oo, w7.cell? ⟨w4.heap.size, oo, none⟩ = (#[.int .i64 cols, .slice A_x n c_x] : Array Value)[oo]? := LB_x.out.below (LB_x.out.drewN BX_x.out 1) HP7.bl)
      | (go_at_call 12; refine (eqChart_any cols A_x A_t2 n c_x c_t2 d c As_x As_t2 ns cs_x cs_t2 z _ (LR_x.out.below (LR_x.out.drewN R_x.out 1) HP7.bl) HP7.r (by omega) (fun j hj => by have := HNS.out j hj; omega)).mono ?_; rintro e w8 ⟨rfl, HP8⟩; have kx8_a0 : ∀ oo, w8.cell? ⟨w.heap.size, oo, none⟩ = (#[.int .i64 cols, .slice A n q] : Array Value)[oo]? := LB_a0.out.below (LB_a0.out.below (LB_a0.out.drewN BX_a0.out 1) HP7.bl) HP8; have kx8_x : ∀ oo, w8.cell? ⟨w4.heap.size, oo, none⟩ = (#[.int .i64 cols, .slice A_x n c_x] : Array Value)[oo]? := LB_x.out.below (LB_x.out.below (LB_x.out.drewN BX_x.out 1) HP7.bl) HP8))
  rename_i hHeld
  clear hHeld
  clear hx_a0 hx_x
  replace BX_a0 := Lib.hid (LB_a0.out.drewN BX_a0.out 1)
  replace BX_x := Lib.hid (LB_x.out.drewN BX_x.out 1)
  replace R_a := Lib.hid (LR_a.out.drewN R_a.out 1)
  replace R_S := Lib.hid (LR_S.out.drewN R_S.out 1)
  replace W_S := Lib.hid (LW_S.out.drewN W_S.out 1)
  replace R_x := Lib.hid (LR_x.out.drewN R_x.out 1)
  replace W_x := Lib.hid (LW_x.out.drewN W_x.out 1)
  replace R_G := Lib.hid (LR_G.out.drewN R_G.out 1)
  replace W_G := Lib.hid (LW_G.out.drewN W_G.out 1)
  replace HB := Lib.hid (Below.drewN' HB.out 1)
  have SZ_7 := Lib.hid (show w6.heap.size ≤ w7.heap.size from (by have := HP7.bl.size; first | omega | (simp at this; omega)))
  replace BX_a0 := Lib.hid (LB_a0.out.below BX_a0.out HP7.bl)
  replace BX_x := Lib.hid (LB_x.out.below BX_x.out HP7.bl)
  replace R_a := Lib.hid (LR_a.out.below R_a.out HP7.bl)
  replace R_S := Lib.hid (LR_S.out.below R_S.out HP7.bl)
  replace W_S := Lib.hid (LW_S.out.below W_S.out HP7.bl)
  replace R_x := Lib.hid (LR_x.out.below R_x.out HP7.bl)
  replace W_x := Lib.hid (LW_x.out.below W_x.out HP7.bl)
  replace R_G := Lib.hid (LR_G.out.below R_G.out HP7.bl)
  replace W_G := Lib.hid (LW_G.out.below W_G.out HP7.bl)
  replace HB := Lib.hid (HB.out.trans (HP7.bl.mono HB.out.size))
  have R_t2 := Lib.hid HP7.r
  have W_t2 := Lib.hid HP7.w
  have LR_t2 := Lib.hid HP7.or
  have LW_t2 := Lib.hid HP7.ow
  have LO_t2 := Lib.hid (HP7.lo (k := w6.heap.size) (by first | exact Nat.le_refl _ | simp))
  have HI_t2 := Lib.hid HP7.hi
  clear HP7
  clear kx7_a0
  clear kx7_x
  have SZ_8 := Lib.hid (show w7.heap.size ≤ w8.heap.size from (by have := HP8.size; first | omega | (simp at this; omega)))
  replace BX_a0 := Lib.hid (LB_a0.out.below BX_a0.out HP8)
  replace BX_x := Lib.hid (LB_x.out.below BX_x.out HP8)
  replace R_a := Lib.hid (LR_a.out.below R_a.out HP8)
  replace R_S := Lib.hid (LR_S.out.below R_S.out HP8)
  replace W_S := Lib.hid (LW_S.out.below W_S.out HP8)
  replace R_x := Lib.hid (LR_x.out.below R_x.out HP8)
  replace W_x := Lib.hid (LW_x.out.below W_x.out HP8)
  replace R_G := Lib.hid (LR_G.out.below R_G.out HP8)
  replace W_G := Lib.hid (LW_G.out.below W_G.out HP8)
  replace R_t2 := Lib.hid (LR_t2.out.below R_t2.out HP8)
  replace W_t2 := Lib.hid (LW_t2.out.below W_t2.out HP8)
  replace HB := Lib.hid (HB.out.trans (HP8.mono HB.out.size))
  clear HP8
  clear kx8_a0
  clear kx8_x
  have hx_a0 : ∀ oo, w8.cell? ⟨w.heap.size, oo, none⟩ = (#[.int .i64 cols, .slice A n q] : Array Value)[oo]? := BX_a0.out
  have hx_x : ∀ oo, w8.cell? ⟨w4.heap.size, oo, none⟩ = (#[.int .i64 cols, .slice A_x n c_x] : Array Value)[oo]? := BX_x.out
  go_wp2_with fail
  refine (markChart_any cols A_x n c_x As_x ns cs_x 1 _ (W_x.out) hn hsum (by omega) (by omega)).mono ?_
  intro e w9 hm
  clear hx_a0 hx_x
  obtain rfl : e = .returned (.int .i64 (1 + 2 * n + sumN ns n)) := hm.ret
  have SZ_9 := Lib.hid (show w8.heap.size ≤ w9.heap.size from (by have := hm.fr.size; first | omega | (simp at this; omega)))
  replace BX_a0 := Lib.hid (LB_a0.out.fr BX_a0.out hm.fr (fun b h1 h2 => by have h3 : b = w.heap.size := h1; have := LO_x.out b h2; have := HI_x.out b h2; have := SZ_1.out; have := SZ_2.out; have := SZ_3.out; have := SZ_4.out; have := SZ_5.out; have := SZ_6.out; have := SZ_7.out; have := SZ_8.out; have := SZ_9.out; omega))
  replace BX_x := Lib.hid (LB_x.out.fr BX_x.out hm.fr (fun b h1 h2 => by have h3 : b = w4.heap.size := h1; have := LO_x.out b h2; have := HI_x.out b h2; have := SZ_1.out; have := SZ_2.out; have := SZ_3.out; have := SZ_4.out; have := SZ_5.out; have := SZ_6.out; have := SZ_7.out; have := SZ_8.out; have := SZ_9.out; omega))
  replace R_a := Lib.hid (LR_a.out.fr R_a.out hm.fr (fun b h1 h2 => by have := LO_x.out b h2; have := HI_x.out b h2; have := HI_a.out b h1; have := SZ_1.out; have := SZ_2.out; have := SZ_3.out; have := SZ_4.out; have := SZ_5.out; have := SZ_6.out; have := SZ_7.out; have := SZ_8.out; have := SZ_9.out; omega))
  replace R_S := Lib.hid (LR_S.out.fr R_S.out hm.fr (fun b h1 h2 => by have := LO_x.out b h2; have := HI_x.out b h2; have := HI_S.out b h1; have := LO_S.out b h1; have := SZ_1.out; have := SZ_2.out; have := SZ_3.out; have := SZ_4.out; have := SZ_5.out; have := SZ_6.out; have := SZ_7.out; have := SZ_8.out; have := SZ_9.out; omega))
  replace W_S := Lib.hid (LW_S.out.fr W_S.out hm.fr (fun b h1 h2 => by have := LO_x.out b h2; have := HI_x.out b h2; have := HI_S.out b h1; have := LO_S.out b h1; have := SZ_1.out; have := SZ_2.out; have := SZ_3.out; have := SZ_4.out; have := SZ_5.out; have := SZ_6.out; have := SZ_7.out; have := SZ_8.out; have := SZ_9.out; omega))
  replace R_G := Lib.hid (LR_G.out.fr R_G.out hm.fr (fun b h1 h2 => by have := LO_x.out b h2; have := HI_x.out b h2; have := HI_G.out b h1; have := LO_G.out b h1; have := SZ_1.out; have := SZ_2.out; have := SZ_3.out; have := SZ_4.out; have := SZ_5.out; have := SZ_6.out; have := SZ_7.out; have := SZ_8.out; have := SZ_9.out; omega))
  replace W_G := Lib.hid (LW_G.out.fr W_G.out hm.fr (fun b h1 h2 => by have := LO_x.out b h2; have := HI_x.out b h2; have := HI_G.out b h1; have := LO_G.out b h1; have := SZ_1.out; have := SZ_2.out; have := SZ_3.out; have := SZ_4.out; have := SZ_5.out; have := SZ_6.out; have := SZ_7.out; have := SZ_8.out; have := SZ_9.out; omega))
  replace HB := Lib.hid (HB.out.trans (hm.fr.below HB.out.size fun b h2 => by have := LO_x.out b h2; have := SZ_1.out; have := SZ_2.out; have := SZ_3.out; have := SZ_4.out; have := SZ_5.out; have := SZ_6.out; have := SZ_7.out; have := SZ_8.out; have := SZ_9.out; omega))
  replace R_x := Lib.hid hm.m
  replace LR_x := Lib.hid hm.om
  clear W_x LW_x hm
  have hx_a0 : ∀ oo, w9.cell? ⟨w.heap.size, oo, none⟩ = (#[.int .i64 cols, .slice A n q] : Array Value)[oo]? := BX_a0.out
  have hx_x : ∀ oo, w9.cell? ⟨w4.heap.size, oo, none⟩ = (#[.int .i64 cols, .slice A_x n c_x] : Array Value)[oo]? := BX_x.out
  go_wp2_with fail
  refine (eqEventS_any A_G A_S (hkN cols n d c ns z) c_G c_S (fun j => (hkE cols.toNat d c ns z n).getD j 0) _ (R_G.out) (R_S.out) (by omega)).mono ?_
  rintro e w10 ⟨he, hb⟩
  clear hx_a0 hx_x
  obtain rfl : e = .returned (.bool true) := he
  have SZ_10 := Lib.hid (show w9.heap.size ≤ w10.heap.size from (by have := hb.size; first | omega | (simp at this; omega)))
  replace BX_a0 := Lib.hid (LB_a0.out.below BX_a0.out hb)
  replace BX_x := Lib.hid (LB_x.out.below BX_x.out hb)
  replace R_a := Lib.hid (LR_a.out.below R_a.out hb)
  replace R_S := Lib.hid (LR_S.out.below R_S.out hb)
  replace W_S := Lib.hid (LW_S.out.below W_S.out hb)
  replace R_G := Lib.hid (LR_G.out.below R_G.out hb)
  replace W_G := Lib.hid (LW_G.out.below W_G.out hb)
  replace HB := Lib.hid (HB.out.trans (hb.mono HB.out.size))
  clear hb
  have hx_a0 : ∀ oo, w10.cell? ⟨w.heap.size, oo, none⟩ = (#[.int .i64 cols, .slice A n q] : Array Value)[oo]? := BX_a0.out
  have hx_x : ∀ oo, w10.cell? ⟨w4.heap.size, oo, none⟩ = (#[.int .i64 cols, .slice A_x n c_x] : Array Value)[oo]? := BX_x.out
  go_wp2_with fail
  refine (markEventS_any A_G (hkN cols n d c ns z) c_G 1 _ (W_G.out) (by omega) (by omega) (by omega)).mono ?_
  intro e w11 hm0
  clear hx_a0 hx_x
  have hm := hm0.obj W_G.out
  clear hm0
  obtain rfl : e = .returned (.int .i64 (1 + ((hkN cols n d c ns z) : Int) * 6)) := hm.ret
  have SZ_11 := Lib.hid (show w10.heap.size ≤ w11.heap.size from (by have := hm.fr.size; first | omega | (simp at this; omega)))
  replace BX_a0 := Lib.hid (LB_a0.out.fr BX_a0.out hm.fr (fun b h1 h2 => by have h3 : b = w.heap.size := h1; have := LO_G.out b h2; have := HI_G.out b h2; have := SZ_1.out; have := SZ_2.out; have := SZ_3.out; have := SZ_4.out; have := SZ_5.out; have := SZ_6.out; have := SZ_7.out; have := SZ_8.out; have := SZ_9.out; have := SZ_10.out; have := SZ_11.out; omega))
  replace BX_x := Lib.hid (LB_x.out.fr BX_x.out hm.fr (fun b h1 h2 => by have h3 : b = w4.heap.size := h1; have := LO_G.out b h2; have := HI_G.out b h2; have := SZ_1.out; have := SZ_2.out; have := SZ_3.out; have := SZ_4.out; have := SZ_5.out; have := SZ_6.out; have := SZ_7.out; have := SZ_8.out; have := SZ_9.out; have := SZ_10.out; have := SZ_11.out; omega))
  replace R_a := Lib.hid (LR_a.out.fr R_a.out hm.fr (fun b h1 h2 => by have := LO_G.out b h2; have := HI_G.out b h2; have := HI_a.out b h1; have := SZ_1.out; have := SZ_2.out; have := SZ_3.out; have := SZ_4.out; have := SZ_5.out; have := SZ_6.out; have := SZ_7.out; have := SZ_8.out; have := SZ_9.out; have := SZ_10.out; have := SZ_11.out; omega))
  replace R_S := Lib.hid (LR_S.out.fr R_S.out hm.fr (fun b h1 h2 => by have := LO_G.out b h2; have := HI_G.out b h2; have := HI_S.out b h1; have := LO_S.out b h1; have := SZ_1.out; have := SZ_2.out; have := SZ_3.out; have := SZ_4.out; have := SZ_5.out; have := SZ_6.out; have := SZ_7.out; have := SZ_8.out; have := SZ_9.out; have := SZ_10.out; have := SZ_11.out; omega))
  replace W_S := Lib.hid (LW_S.out.fr W_S.out hm.fr (fun b h1 h2 => by have := LO_G.out b h2; have := HI_G.out b h2; have := HI_S.out b h1; have := LO_S.out b h1; have := SZ_1.out; have := SZ_2.out; have := SZ_3.out; have := SZ_4.out; have := SZ_5.out; have := SZ_6.out; have := SZ_7.out; have := SZ_8.out; have := SZ_9.out; have := SZ_10.out; have := SZ_11.out; omega))
  replace HB := Lib.hid (HB.out.trans (hm.fr.below HB.out.size fun b h2 => by have := LO_G.out b h2; have := SZ_1.out; have := SZ_2.out; have := SZ_3.out; have := SZ_4.out; have := SZ_5.out; have := SZ_6.out; have := SZ_7.out; have := SZ_8.out; have := SZ_9.out; have := SZ_10.out; have := SZ_11.out; omega))
  replace R_G := Lib.hid hm.m
  replace LR_G := Lib.hid hm.om
  clear W_G LW_G hm
  have hx_a0 : ∀ oo, w11.cell? ⟨w.heap.size, oo, none⟩ = (#[.int .i64 cols, .slice A n q] : Array Value)[oo]? := BX_a0.out
  have hx_x : ∀ oo, w11.cell? ⟨w4.heap.size, oo, none⟩ = (#[.int .i64 cols, .slice A_x n c_x] : Array Value)[oo]? := BX_x.out
  go_wp2_with fail
  refine (heldEventS_any A_G (hkN cols n d c ns z) c_G 1 _ (R_G.out) (by omega) (by omega) (by omega)).mono ?_
  rintro e w12 ⟨he, hb⟩
  clear hx_a0 hx_x
  obtain rfl : e = .returned (.int .i64 (1 + ((hkN cols n d c ns z) : Int) * 6)) := he
  have SZ_12 := Lib.hid (show w11.heap.size ≤ w12.heap.size from (by have := hb.size; first | omega | (simp at this; omega)))
  replace BX_a0 := Lib.hid (LB_a0.out.below BX_a0.out hb)
  replace BX_x := Lib.hid (LB_x.out.below BX_x.out hb)
  replace R_a := Lib.hid (LR_a.out.below R_a.out hb)
  replace R_S := Lib.hid (LR_S.out.below R_S.out hb)
  replace W_S := Lib.hid (LW_S.out.below W_S.out hb)
  replace R_G := Lib.hid (LR_G.out.below R_G.out hb)
  replace HB := Lib.hid (HB.out.trans (hb.mono HB.out.size))
  clear hb
  have hx_a0 : ∀ oo, w12.cell? ⟨w.heap.size, oo, none⟩ = (#[.int .i64 cols, .slice A n q] : Array Value)[oo]? := BX_a0.out
  have hx_x : ∀ oo, w12.cell? ⟨w4.heap.size, oo, none⟩ = (#[.int .i64 cols, .slice A_x n c_x] : Array Value)[oo]? := BX_x.out
  go_wp2_with fail
  refine (toChart_any cols A n q d c As ns cs z _ (R_a.out) hn HNS.out).mono ?_
  rintro e w13 ⟨A_t3, c_t3, As_t3, cs_t3, rfl, hp⟩
  clear hx_a0 hx_x
  have SZ_13 := Lib.hid (show w12.heap.size ≤ w13.heap.size from (by have := hp.bl.size; first | omega | (simp at this; omega)))
  replace BX_a0 := Lib.hid (LB_a0.out.below BX_a0.out hp.bl)
  replace BX_x := Lib.hid (LB_x.out.below BX_x.out hp.bl)
  replace R_a := Lib.hid (LR_a.out.below R_a.out hp.bl)
  replace R_S := Lib.hid (LR_S.out.below R_S.out hp.bl)
  replace W_S := Lib.hid (LW_S.out.below W_S.out hp.bl)
  replace R_G := Lib.hid (LR_G.out.below R_G.out hp.bl)
  replace HB := Lib.hid (HB.out.trans (hp.bl.mono HB.out.size))
  have R_t3 := Lib.hid hp.r
  have W_t3 := Lib.hid hp.w
  have LR_t3 := Lib.hid hp.or
  have LW_t3 := Lib.hid hp.ow
  have LO_t3 := Lib.hid (hp.lo (k := w12.heap.size) (by first | exact Nat.le_refl _ | simp))
  have HI_t3 := Lib.hid hp.hi
  clear hp
  have hx_a0 : ∀ oo, w13.cell? ⟨w.heap.size, oo, none⟩ = (#[.int .i64 cols, .slice A n q] : Array Value)[oo]? := BX_a0.out
  have hx_x : ∀ oo, w13.cell? ⟨w4.heap.size, oo, none⟩ = (#[.int .i64 cols, .slice A_x n c_x] : Array Value)[oo]? := BX_x.out
  go_wp2_with fail
  refine (implHandKnit_any cols A_t3 n c_t3 d c As_t3 ns cs_t3 z _ (R_t3.out) hn HNS.out).mono ?_
  rintro e w14 ⟨A_Z, c_Z, rfl, hp0⟩
  clear hx_a0 hx_x
  have hp := hp0.obj
  clear hp0
  have SZ_14 := Lib.hid (show w13.heap.size ≤ w14.heap.size from (by have := hp.bl.size; first | omega | (simp at this; omega)))
  replace BX_a0 := Lib.hid (LB_a0.out.below BX_a0.out hp.bl)
  replace BX_x := Lib.hid (LB_x.out.below BX_x.out hp.bl)
  replace R_a := Lib.hid (LR_a.out.below R_a.out hp.bl)
  replace R_S := Lib.hid (LR_S.out.below R_S.out hp.bl)
  replace W_S := Lib.hid (LW_S.out.below W_S.out hp.bl)
  replace R_G := Lib.hid (LR_G.out.below R_G.out hp.bl)
  replace R_t3 := Lib.hid (LR_t3.out.below R_t3.out hp.bl)
  replace W_t3 := Lib.hid (LW_t3.out.below W_t3.out hp.bl)
  replace HB := Lib.hid (HB.out.trans (hp.bl.mono HB.out.size))
  have R_Z := Lib.hid hp.r
  have W_Z := Lib.hid hp.w
  have LR_Z := Lib.hid hp.or
  have LW_Z := Lib.hid hp.ow
  have LO_Z := Lib.hid (hp.lo (k := w13.heap.size) (by first | exact Nat.le_refl _ | simp))
  have HI_Z := Lib.hid hp.hi
  clear hp
  have hx_a0 : ∀ oo, w14.cell? ⟨w.heap.size, oo, none⟩ = (#[.int .i64 cols, .slice A n q] : Array Value)[oo]? := BX_a0.out
  have hx_x : ∀ oo, w14.cell? ⟨w4.heap.size, oo, none⟩ = (#[.int .i64 cols, .slice A_x n c_x] : Array Value)[oo]? := BX_x.out
  go_wp2_with fail
  refine (eqEventS_any A_Z A_S (hkN cols n d c ns z) c_Z c_S (fun j => (hkE cols.toNat d c ns z n).getD j 0) _ (R_Z.out) (R_S.out) (by omega)).mono ?_
  rintro e w15 ⟨he, hb⟩
  clear hx_a0 hx_x
  obtain rfl : e = .returned (.bool true) := he
  have SZ_15 := Lib.hid (show w14.heap.size ≤ w15.heap.size from (by have := hb.size; first | omega | (simp at this; omega)))
  replace BX_a0 := Lib.hid (LB_a0.out.below BX_a0.out hb)
  replace BX_x := Lib.hid (LB_x.out.below BX_x.out hb)
  replace R_a := Lib.hid (LR_a.out.below R_a.out hb)
  replace R_S := Lib.hid (LR_S.out.below R_S.out hb)
  replace W_S := Lib.hid (LW_S.out.below W_S.out hb)
  replace R_G := Lib.hid (LR_G.out.below R_G.out hb)
  replace R_Z := Lib.hid (LR_Z.out.below R_Z.out hb)
  replace W_Z := Lib.hid (LW_Z.out.below W_Z.out hb)
  replace HB := Lib.hid (HB.out.trans (hb.mono HB.out.size))
  clear hb
  have hx_a0 : ∀ oo, w15.cell? ⟨w.heap.size, oo, none⟩ = (#[.int .i64 cols, .slice A n q] : Array Value)[oo]? := BX_a0.out
  have hx_x : ∀ oo, w15.cell? ⟨w4.heap.size, oo, none⟩ = (#[.int .i64 cols, .slice A_x n c_x] : Array Value)[oo]? := BX_x.out
  go_wp2_with fail
  refine (heldEventS_any A_G (hkN cols n d c ns z) c_G 1 _ (R_G.out) (by omega) (by omega) (by omega)).mono ?_
  rintro e w16 ⟨he, hb⟩
  clear hx_a0 hx_x
  obtain rfl : e = .returned (.int .i64 (1 + ((hkN cols n d c ns z) : Int) * 6)) := he
  have SZ_16 := Lib.hid (show w15.heap.size ≤ w16.heap.size from (by have := hb.size; first | omega | (simp at this; omega)))
  replace BX_a0 := Lib.hid (LB_a0.out.below BX_a0.out hb)
  replace BX_x := Lib.hid (LB_x.out.below BX_x.out hb)
  replace R_a := Lib.hid (LR_a.out.below R_a.out hb)
  replace R_S := Lib.hid (LR_S.out.below R_S.out hb)
  replace W_S := Lib.hid (LW_S.out.below W_S.out hb)
  replace R_G := Lib.hid (LR_G.out.below R_G.out hb)
  replace R_Z := Lib.hid (LR_Z.out.below R_Z.out hb)
  replace W_Z := Lib.hid (LW_Z.out.below W_Z.out hb)
  replace HB := Lib.hid (HB.out.trans (hb.mono HB.out.size))
  clear hb
  have hx_a0 : ∀ oo, w16.cell? ⟨w.heap.size, oo, none⟩ = (#[.int .i64 cols, .slice A n q] : Array Value)[oo]? := BX_a0.out
  have hx_x : ∀ oo, w16.cell? ⟨w4.heap.size, oo, none⟩ = (#[.int .i64 cols, .slice A_x n c_x] : Array Value)[oo]? := BX_x.out
  go_wp2_with fail
  go_ret
  exact ⟨rfl, HB.out⟩
end Go.Proofs.Ytfncdogbpmiomaa
