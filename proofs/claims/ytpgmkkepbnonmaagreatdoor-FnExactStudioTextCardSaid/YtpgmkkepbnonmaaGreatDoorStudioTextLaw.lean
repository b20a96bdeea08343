/- The walk of the law over StudioText, from the contracts: it returns true. No condition but strconv's table. (Printed by wip/law2.py.) -/
import Derived.Test.YtpgmkkepbnonmaaGreatDoorStudioTexts
import Derived.Test.YtpgmkkepbnonmaaGreatDoorStudioLaw
import Derived.Test.YtpgmkkepbnonmaaGreatDoorObj2
import Derived.Deep.RegionHeld3
import Derived.Deep.RegionWith
namespace Go.Proofs.YtpgmkkepbnonmaaGreatDoor
open Go.RowKit
set_option maxRecDepth 20000

set_option maxHeartbeats 2000000 in
theorem lawStudioText_walk (x s : Int) (A O B : Option Addr) (n q m p l t : Nat) (d c : Nat → Int) (As : Nat → Option Addr) (ns cs : Nat → Nat) (z : Nat → Nat → Int) (o b : Nat → Int) (w : World) (ha : RdStudio A O B n m l d c As ns cs z o b w) (hn0 : n ≤ maxLen) (hns0 : ∀ j, j < n → ns j ≤ maxLen) (hm0 : m ≤ maxLen) (hl0 : l ≤ maxLen) (htab : Tab w) :
    Calls Tryz.prog 3 #[.agg #[.int .i64 x, .slice A n q, .slice O m p, .int .i64 s, .slice B l t]] w fun e w' => e = .returned (.bool true) ∧ Below w.heap.size w w' := by
  have HB := Lib.hid (Below.refl w.heap.size w)
  obtain ⟨V, hV⟩ : ∃ V, V = studioS x n d c ns z m o s l b := ⟨_, rfl⟩
  have HV := Lib.hid hV
  clear hV
  have HS := Lib.hid hns0
  clear hns0
  have R_a := Lib.hid ha
  have LR_a := Lib.hid (rdStudio_obj A O B n m l d c As ns cs z o b)
  have HI_a := Lib.hid (LR_a.out.2 w · R_a.out)
  clear ha
  have R_Tb := Lib.hid htab
  have LR_Tb := Lib.hid (tab_loc)
  have HI_Tb := Lib.hid (LR_Tb.out.2 w · R_Tb.out)
  clear htab
  go_enter Tryz.func3, Tryz.ntmps3
  have hba : Below w.heap.size w (w.alloc (.cells #[.int .i64 x, .slice A n q, .slice O m p, .int .i64 s, .slice B l t] 28)) := (Below.refl _ _).alloc (Nat.le_refl _) _
  replace R_a := Lib.hid (LR_a.out.below R_a.out hba)
  replace R_Tb := Lib.hid (LR_Tb.out.below R_Tb.out hba)
  replace HB := Lib.hid (HB.out.trans (hba.mono HB.out.size))
  have LB_a0 := Lib.hid (box_loc (w.heap.size) #[.int .i64 x, .slice A n q, .slice O m p, .int .i64 s, .slice B l t] (by simp))
  have BX_a0 := Lib.hid (show BoxAt (w.heap.size) #[.int .i64 x, .slice A n q, .slice O m p, .int .i64 s, .slice B l t] (w.alloc (.cells #[.int .i64 x, .slice A n q, .slice O m p, .int .i64 s, .slice B l t] 28)) from fun oo => cell_alloc_at (by simp) oo)
  clear hba
  have hx_a0 : ∀ oo, (w.alloc (.cells #[.int .i64 x, .slice A n q, .slice O m p, .int .i64 s, .slice B l t] 28)).cell? ⟨w.heap.size, oo, none⟩ = (#[.int .i64 x, .slice A n q, .slice O m p, .int .i64 s, .slice B l t] : Array Value)[oo]? := BX_a0.out
  go_wp2_with fail
  refine (szStudio_any x s A O B n q m p l t 1048576 d c As ns cs z _ (R_a.out).1 hn0 HS.out hm0 hl0 (by omega)).mono ?_
  rintro e w1 ⟨r1, hr, rfl, hb⟩
  clear hx_a0
  have SZ_1 := Lib.hid (show w.heap.size + 1 ≤ w1.heap.size from (by have := hb.size; first | omega | (simp at this; omega)))
  replace BX_a0 := Lib.hid (LB_a0.out.below BX_a0.out hb)
  replace R_a := Lib.hid (LR_a.out.below R_a.out hb)
  replace R_Tb := Lib.hid (LR_Tb.out.below R_Tb.out hb)
  replace HB := Lib.hid (HB.out.trans (hb.mono HB.out.size))
  clear hb
  by_cases hr0 : r1 < 0
  · go_wp2_with fail
    go_ret
    exact ⟨rfl, HB.out⟩
  have hsm := hr.resolve_left hr0
  clear hr
  obtain ⟨gn, gs, gm, gl, gr⟩ := hsm
  have HG := Lib.hid (show ∀ j, j < n → ns j ≤ 1048576 from fun j hj => by have := gs j hj; omega)
  clear gs HS
  have hx_a0 : ∀ oo, w1.cell? ⟨w.heap.size, oo, none⟩ = (#[.int .i64 x, .slice A n q, .slice O m p, .int .i64 s, .slice B l t] : Array Value)[oo]? := BX_a0.out
  go_wp2_with fail
  refine (toStudio_any x s A O B n q m p l t d c As ns cs z o b _ (R_a.out) (by omega) HG.out (by omega) (by omega)).mono ?_
  rintro e w2 ⟨A_S, q_S, O_S, p_S, B_S, t_S, As_S, cs_S, rfl, hp⟩
  clear hx_a0
  have SZ_2 := Lib.hid (show w1.heap.size ≤ w2.heap.size from (by have := hp.bl.size; first | omega | (simp at this; omega)))
  replace BX_a0 := Lib.hid (LB_a0.out.below BX_a0.out hp.bl)
  replace R_a := Lib.hid (LR_a.out.below R_a.out hp.bl)
  replace R_Tb := Lib.hid (LR_Tb.out.below R_Tb.out hp.bl)
  replace HB := Lib.hid (HB.out.trans (hp.bl.mono HB.out.size))
  have R_S := Lib.hid hp.r
  have W_S := Lib.hid hp.w
  have LR_S := Lib.hid hp.or
  have LW_S := Lib.hid hp.ow
  have LO_S := Lib.hid (hp.lo (k := w1.heap.size) (by first | exact Nat.le_refl _ | simp))
  have HI_S := Lib.hid hp.hi
  clear hp
  have hx_a0 : ∀ oo, w2.cell? ⟨w.heap.size, oo, none⟩ = (#[.int .i64 x, .slice A n q, .slice O m p, .int .i64 s, .slice B l t] : Array Value)[oo]? := BX_a0.out
  go_wp2_with fail
  refine (specStudioText_any x s A_S O_S B_S n q_S m p_S l t_S d c As_S ns cs_S z o b _ (R_S.out) (by omega) HG.out (by omega) (by omega)).mono ?_
  rintro e w3 ⟨he, hb⟩
  clear hx_a0
  have SZ_3 := Lib.hid (show w2.heap.size ≤ w3.heap.size from (by have := hb.size; first | omega | (simp at this; omega)))
  replace BX_a0 := Lib.hid (LB_a0.out.below BX_a0.out hb)
  replace R_a := Lib.hid (LR_a.out.below R_a.out hb)
  replace R_Tb := Lib.hid (LR_Tb.out.below R_Tb.out hb)
  replace R_S := Lib.hid (LR_S.out.below R_S.out hb)
  replace W_S := Lib.hid (LW_S.out.below W_S.out hb)
  replace HB := Lib.hid (HB.out.trans (hb.mono HB.out.size))
  clear hb
  obtain rfl : e = .returned (.string V) := he.trans (by rw [HV.out])
  have hx_a0 : ∀ oo, w3.cell? ⟨w.heap.size, oo, none⟩ = (#[.int .i64 x, .slice A n q, .slice O m p, .int .i64 s, .slice B l t] : Array Value)[oo]? := BX_a0.out
  go_wp2_with fail
  refine (toStudio_any x s A O B n q m p l t d c As ns cs z o b _ (R_a.out) (by omega) HG.out (by omega) (by omega)).mono ?_
  rintro e w4 ⟨A_x, q_x, O_x, p_x, B_x, t_x, As_x, cs_x, rfl, hp⟩
  clear hx_a0
  have SZ_4 := Lib.hid (show w3.heap.size ≤ w4.heap.size from (by have := hp.bl.size; first | omega | (simp at this; omega)))
  replace BX_a0 := Lib.hid (LB_a0.out.below BX_a0.out hp.bl)
  replace R_a := Lib.hid (LR_a.out.below R_a.out hp.bl)
  replace R_Tb := Lib.hid (LR_Tb.out.below R_Tb.out hp.bl)
  replace HB := Lib.hid (HB.out.trans (hp.bl.mono HB.out.size))
  have R_x := Lib.hid hp.r
  have W_x := Lib.hid hp.w
  have LR_x := Lib.hid hp.or
  have LW_x := Lib.hid hp.ow
  have LO_x := Lib.hid (hp.lo (k := w3.heap.size) (by first | exact Nat.le_refl _ | simp))
  have HI_x := Lib.hid hp.hi
  clear hp
  have hba : Below w4.heap.size w4 (w4.alloc (.cells #[.int .i64 x, .slice A_x n q_x, .slice O_x m p_x, .int .i64 s, .slice B_x l t_x] 35)) := (Below.refl _ _).alloc (Nat.le_refl _) _
  replace BX_a0 := Lib.hid (LB_a0.out.below BX_a0.out hba)
  replace R_a := Lib.hid (LR_a.out.below R_a.out hba)
  replace R_Tb := Lib.hid (LR_Tb.out.below R_Tb.out hba)
  replace R_x := Lib.hid (LR_x.out.below R_x.out hba)
  replace W_x := Lib.hid (LW_x.out.below W_x.out hba)
  replace HB := Lib.hid (HB.out.trans (hba.mono HB.out.size))
  have LB_x := Lib.hid (box_loc (w4.heap.size) #[.int .i64 x, .slice A_x n q_x, .slice O_x m p_x, .int .i64 s, .slice B_x l t_x] (by simp))
  have BX_x := Lib.hid (show BoxAt (w4.heap.size) #[.int .i64 x, .slice A_x n q_x, .slice O_x m p_x, .int .i64 s, .slice B_x l t_x] (w4.alloc (.cells #[.int .i64 x, .slice A_x n q_x, .slice O_x m p_x, .int .i64 s, .slice B_x l t_x] 35)) from fun oo => cell_alloc_at (by simp) oo)
  clear hba
  have hx_a0 : ∀ oo, (w4.alloc (.cells #[.int .i64 x, .slice A_x n q_x, .slice O_x m p_x, .int .i64 s, .slice B_x l t_x] 35)).cell? ⟨w.heap.size, oo, none⟩ = (#[.int .i64 x, .slice A n q, .slice O m p, .int .i64 s, .slice B l t] : Array Value)[oo]? := BX_a0.out
  have hx_x : ∀ oo, (w4.alloc (.cells #[.int .i64 x, .slice A_x n q_x, .slice O_x m p_x, .int .i64 s, .slice B_x l t_x] 35)).cell? ⟨w4.heap.size, oo, none⟩ = (#[.int .i64 x, .slice A_x n q_x, .slice O_x m p_x, .int .i64 s, .slice B_x l t_x] : Array Value)[oo]? := BX_x.out
  go_wp2_with fail
  refine (implStudioText_any x s A_x O_x B_x n q_x m p_x l t_x d c As_x ns cs_x z o b _ (R_x.out) (by omega) HG.out (by omega) (by omega) (R_Tb.out)).mono ?_
  rintro e w5 ⟨he, hb⟩
  clear hx_a0 hx_x
  have SZ_5 := Lib.hid (show w4.heap.size + 1 ≤ w5.heap.size from (by have := hb.size; first | omega | (simp at this; omega)))
  replace BX_a0 := Lib.hid (LB_a0.out.below BX_a0.out hb)
  replace BX_x := Lib.hid (LB_x.out.below BX_x.out hb)
  replace R_a := Lib.hid (LR_a.out.below R_a.out hb)
  replace R_Tb := Lib.hid (LR_Tb.out.below R_Tb.out hb)
  replace R_x := Lib.hid (LR_x.out.below R_x.out hb)
  replace W_x := Lib.hid (LW_x.out.below W_x.out hb)
  replace HB := Lib.hid (HB.out.trans (hb.mono HB.out.size))
  clear hb
  obtain rfl : e = .returned (.string V) := he.trans (by rw [HV.out])
  have hx_a0 : ∀ oo, w5.cell? ⟨w.heap.size, oo, none⟩ = (#[.int .i64 x, .slice A n q, .slice O m p, .int .i64 s, .slice B l t] : Array Value)[oo]? := BX_a0.out
  have hx_x : ∀ oo, w5.cell? ⟨w4.heap.size, oo, none⟩ = (#[.int .i64 x, .slice A_x n q_x, .slice O_x m p_x, .int .i64 s, .slice B_x l t_x] : Array Value)[oo]? := BX_x.out
  go_wp2_with fail
  go_region_held3 (fun w' => (∀ oo, w'.cell? ⟨w.heap.size, oo, none⟩ = (#[.int .i64 x, .slice A n q, .slice O m p, .int .i64 s, .slice B l t] : Array Value)[oo]?) ∧ (∀ oo, w'.cell? ⟨w4.heap.size, oo, none⟩ = (#[.int .i64 x, .slice A_x n q_x, .slice O_x m p_x, .int .i64 s, .slice B_x l t_x] : Array Value)[oo]?)) (go_keep)
    (first
      | (go_at_call 6; refine (toStudio_any x s A O B n q m p l t d c As ns cs z o b _ (LR_a.out.drewN R_a.out 1) (by omega) HG.out (by omega) (by omega)).mono ?_; rintro e w6 ⟨A_T, q_T, O_T, p_T, B_T, t_T, As_T, cs_T, rfl, HP6⟩; have kx6_a0 : ∀ oo, w6.cell? ⟨w.heap.size, oo, none⟩ = (#[.int .i64 x, .slice A n q, .slice O m p, .int .i64 s, .slice B l t] : Array Value)[oo]? := LB_a0.out.below (LB_a0.out.drewN BX_a0.out 1) HP6.bl; have kx6_x : ∀ oo, w6.cell? ⟨w4.heap.size, oo, none⟩ = (#[.int .i64 x, .slice A_x n q_x, .slice O_x m p_x, .int .i64 s, .slice B_x l t_x] : Array Value)[oo]? := LB_x.out.below (LB_x.out.drewN BX_x.out 1) HP6.bl)
      | (go_at_call 8; refine (eqStudio_any x s A_x O_x B_x A_T O_T B_T n m l q_x p_x t_x q_T p_T t_T d c As_x As_T ns cs_x cs_T z o b _ (LR_x.out.below (LR_x.out.drewN R_x.out 1) HP6.bl) HP6.r (by omega) (fun j hj => by have := HG.out j hj; omega) (by omega) (by omega)).mono ?_; rintro e w7 ⟨rfl, HP7⟩; have kx7_a0 : ∀ oo, w7.cell? ⟨w.heap.size, oo, none⟩ = (#[.int .i64 x, .slice A n q, .slice O m p, .int .i64 s, .slice B l t] : Array Value)[oo]? := LB_a0.out.below (LB_a0.out.below (LB_a0.out.drewN BX_a0.out 1) HP6.bl) HP7; have kx7_x : ∀ oo, w7.cell? ⟨w4.heap.size, oo, none⟩ = (#[.int .i64 x, .slice A_x n q_x, .slice O_x m p_x, .int .i64 s, .slice B_x l t_x] : Array Value)[oo]? := LB_x.out.below (LB_x.out.below (LB_x.out.drewN BX_x.out 1) HP6.bl) HP7))
  rename_i hHeld
  clear hHeld
  clear hx_a0 hx_x
  replace BX_a0 := Lib.hid (LB_a0.out.drewN BX_a0.out 1)
  replace BX_x := Lib.hid (LB_x.out.drewN BX_x.out 1)
  replace R_a := Lib.hid (LR_a.out.drewN R_a.out 1)
  replace R_Tb := Lib.hid (LR_Tb.out.drewN R_Tb.out 1)
  replace R_x := Lib.hid (LR_x.out.drewN R_x.out 1)
  replace W_x := Lib.hid (LW_x.out.drewN W_x.out 1)
  replace HB := Lib.hid (Below.drewN' HB.out 1)
  have SZ_6 := Lib.hid (show w5.heap.size ≤ w6.heap.size from (by have := HP6.bl.size; first | omega | (simp at this; omega)))
  replace BX_a0 := Lib.hid (LB_a0.out.below BX_a0.out HP6.bl)
  replace BX_x := Lib.hid (LB_x.out.below BX_x.out HP6.bl)
  replace R_a := Lib.hid (LR_a.out.below R_a.out HP6.bl)
  replace R_Tb := Lib.hid (LR_Tb.out.below R_Tb.out HP6.bl)
  replace R_x := Lib.hid (LR_x.out.below R_x.out HP6.bl)
  replace W_x := Lib.hid (LW_x.out.below W_x.out HP6.bl)
  replace HB := Lib.hid (HB.out.trans (HP6.bl.mono HB.out.size))
  have R_T := Lib.hid HP6.r
  have W_T := Lib.hid HP6.w
  have LR_T := Lib.hid HP6.or
  have LW_T := Lib.hid HP6.ow
  have LO_T := Lib.hid (HP6.lo (k := w5.heap.size) (by first | exact Nat.le_refl _ | simp))
  have HI_T := Lib.hid HP6.hi
  clear HP6
  clear kx6_a0
  clear kx6_x
  have SZ_7 := Lib.hid (show w6.heap.size ≤ w7.heap.size from (by have := HP7.size; first | omega | (simp at this; omega)))
  replace BX_a0 := Lib.hid (LB_a0.out.below BX_a0.out HP7)
  replace BX_x := Lib.hid (LB_x.out.below BX_x.out HP7)
  replace R_a := Lib.hid (LR_a.out.below R_a.out HP7)
  replace R_Tb := Lib.hid (LR_Tb.out.below R_Tb.out HP7)
  replace R_x := Lib.hid (LR_x.out.below R_x.out HP7)
  replace W_x := Lib.hid (LW_x.out.below W_x.out HP7)
  replace R_T := Lib.hid (LR_T.out.below R_T.out HP7)
  replace W_T := Lib.hid (LW_T.out.below W_T.out HP7)
  replace HB := Lib.hid (HB.out.trans (HP7.mono HB.out.size))
  clear HP7
  clear kx7_a0
  clear kx7_x
  have hx_a0 : ∀ oo, w7.cell? ⟨w.heap.size, oo, none⟩ = (#[.int .i64 x, .slice A n q, .slice O m p, .int .i64 s, .slice B l t] : Array Value)[oo]? := BX_a0.out
  have hx_x : ∀ oo, w7.cell? ⟨w4.heap.size, oo, none⟩ = (#[.int .i64 x, .slice A_x n q_x, .slice O_x m p_x, .int .i64 s, .slice B_x l t_x] : Array Value)[oo]? := BX_x.out
  go_wp2_with fail
  go_ret
  exact ⟨rfl, HB.out⟩
end Go.Proofs.YtpgmkkepbnonmaaGreatDoor
