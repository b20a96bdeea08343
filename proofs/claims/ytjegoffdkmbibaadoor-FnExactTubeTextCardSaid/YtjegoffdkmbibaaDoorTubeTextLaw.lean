/- The walk of the law over TubeText, from the contracts: it returns true. No condition but strconv's table. (Printed by wip/law2.py.) -/
import Derived.Test.YtjegoffdkmbibaaDoorTubeTexts
import Derived.Test.YtjegoffdkmbibaaDoorObj2
import Derived.Deep.RegionHeld3
import Derived.Deep.RegionWith
namespace Go.Proofs.YtjegoffdkmbibaaDoor
open Go.RowKit
set_option maxRecDepth 20000

set_option maxHeartbeats 2000000 in
theorem lawTubeText_walk (n r c : Int) (b t : Bool) (w : World) (ht : Tab w) :
    Calls Tryd.prog 3 #[.agg #[.int .i64 n, .int .i64 r, .int .i64 c, .bool b, .bool t]] w fun e w' => e = .returned (.bool true) ∧ Below w.heap.size w w' := by
  have HB := Lib.hid (Below.refl w.heap.size w)
  have R_T := Lib.hid ht
  have LR_T := Lib.hid (tab_loc)
  have HI_T := Lib.hid (LR_T.out.2 w · R_T.out)
  clear ht
  go_enter Tryd.func3, Tryd.ntmps3
  have hba : Below w.heap.size w (w.alloc (.cells #[.int .i64 n, .int .i64 r, .int .i64 c, .bool b, .bool t] 23)) := (Below.refl _ _).alloc (Nat.le_refl _) _
  replace R_T := Lib.hid (LR_T.out.below R_T.out hba)
  replace HB := Lib.hid (HB.out.trans (hba.mono HB.out.size))
  have LB_a0 := Lib.hid (box_loc (w.heap.size) #[.int .i64 n, .int .i64 r, .int .i64 c, .bool b, .bool t] (by simp))
  have BX_a0 := Lib.hid (show BoxAt (w.heap.size) #[.int .i64 n, .int .i64 r, .int .i64 c, .bool b, .bool t] (w.alloc (.cells #[.int .i64 n, .int .i64 r, .int .i64 c, .bool b, .bool t] 23)) from fun oo => cell_alloc_at (by simp) oo)
  clear hba
  have hx_a0 : ∀ oo, (w.alloc (.cells #[.int .i64 n, .int .i64 r, .int .i64 c, .bool b, .bool t] 23)).cell? ⟨w.heap.size, oo, none⟩ = (#[.int .i64 n, .int .i64 r, .int .i64 c, .bool b, .bool t] : Array Value)[oo]? := BX_a0.out
  go_wp2_with fail
  refine (toTube_any n r c b t _).mono ?_
  rintro e w1 ⟨he, hb⟩
  clear hx_a0
  obtain rfl : e = .returned (.agg #[.int .i64 n, .int .i64 r, .int .i64 c, .bool b, .bool t]) := he
  have SZ_1 := Lib.hid (show w.heap.size + 1 ≤ w1.heap.size from (by have := hb.size; first | omega | (simp at this; omega)))
  replace BX_a0 := Lib.hid (LB_a0.out.below BX_a0.out hb)
  replace R_T := Lib.hid (LR_T.out.below R_T.out hb)
  replace HB := Lib.hid (HB.out.trans (hb.mono HB.out.size))
  clear hb
  have hx_a0 : ∀ oo, w1.cell? ⟨w.heap.size, oo, none⟩ = (#[.int .i64 n, .int .i64 r, .int .i64 c, .bool b, .bool t] : Array Value)[oo]? := BX_a0.out
  go_wp2_with fail
  refine (specTubeText_any n r c b t _).mono ?_
  rintro e w2 ⟨he, hb⟩
  clear hx_a0
  obtain rfl : e = .returned (.string (tubeS n r c b t)) := he
  have SZ_2 := Lib.hid (show w1.heap.size ≤ w2.heap.size from (by have := hb.size; first | omega | (simp at this; omega)))
  replace BX_a0 := Lib.hid (LB_a0.out.below BX_a0.out hb)
  replace R_T := Lib.hid (LR_T.out.below R_T.out hb)
  replace HB := Lib.hid (HB.out.trans (hb.mono HB.out.size))
  clear hb
  have hx_a0 : ∀ oo, w2.cell? ⟨w.heap.size, oo, none⟩ = (#[.int .i64 n, .int .i64 r, .int .i64 c, .bool b, .bool t] : Array Value)[oo]? := BX_a0.out
  go_wp2_with fail
  refine (toTube_any n r c b t _).mono ?_
  rintro e w3 ⟨he, hb⟩
  clear hx_a0
  obtain rfl : e = .returned (.agg #[.int .i64 n, .int .i64 r, .int .i64 c, .bool b, .bool t]) := he
  have SZ_3 := Lib.hid (show w2.heap.size ≤ w3.heap.size from (by have := hb.size; first | omega | (simp at this; omega)))
  replace BX_a0 := Lib.hid (LB_a0.out.below BX_a0.out hb)
  replace R_T := Lib.hid (LR_T.out.below R_T.out hb)
  replace HB := Lib.hid (HB.out.trans (hb.mono HB.out.size))
  clear hb
  have hx_a0 : ∀ oo, w3.cell? ⟨w.heap.size, oo, none⟩ = (#[.int .i64 n, .int .i64 r, .int .i64 c, .bool b, .bool t] : Array Value)[oo]? := BX_a0.out
  go_wp2_with fail
  refine (implTubeText_any n r c b t _ (R_T.out)).mono ?_
  rintro e w4 ⟨he, hb⟩
  clear hx_a0
  obtain rfl : e = .returned (.string (tubeS n r c b t)) := he
  have SZ_4 := Lib.hid (show w3.heap.size ≤ w4.heap.size from (by have := hb.size; first | omega | (simp at this; omega)))
  replace BX_a0 := Lib.hid (LB_a0.out.below BX_a0.out hb)
  replace R_T := Lib.hid (LR_T.out.below R_T.out hb)
  replace HB := Lib.hid (HB.out.trans (hb.mono HB.out.size))
  clear hb
  have hx_a0 : ∀ oo, w4.cell? ⟨w.heap.size, oo, none⟩ = (#[.int .i64 n, .int .i64 r, .int .i64 c, .bool b, .bool t] : Array Value)[oo]? := BX_a0.out
  go_wp2_with fail
  go_ret
  exact ⟨rfl, HB.out⟩
end Go.Proofs.YtjegoffdkmbibaaDoor
