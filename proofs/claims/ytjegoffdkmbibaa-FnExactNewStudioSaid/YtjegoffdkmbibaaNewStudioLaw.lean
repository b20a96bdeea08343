/- The walk of the law over NewStudio, from the contracts: it returns true. No condition. (Printed by wip/lawgen.py.) -/
import Derived.Test.YtjegoffdkmbibaaNewStudios
import Derived.Test.YtjegoffdkmbibaaObjs
namespace Go.Proofs.Ytjegoffdkmbibaa
open Go.RowKit

set_option maxHeartbeats 1000000 in
theorem lawNewStudio_walk  (w : World)  :
    Calls Try.prog 8 #[] w fun e w' => e = .returned (.bool true) ∧ Below w.heap.size w w' := by
  go_enter Try.func8, Try.ntmps8
  have HB0 := Lib.hid (Below.refl w.heap.size w)
  go_wp2_with fail
  refine (specNewStudio_any _).mono ?_
  rintro e w1 ⟨he, hb⟩
  obtain rfl : e = .returned (studio0) := he
  have HB1 := Lib.hid (HB0.out.trans (hb.mono HB0.out.size))
  have HS1 := Lib.hid (hb.size)
  clear hb
  unfold studio0
  go_wp2_with fail
  refine (implNewStudio_any _).mono ?_
  rintro e w2 ⟨he, hb⟩
  obtain rfl : e = .returned (studio0) := he
  have LB_0 := Lib.hid (box_loc w1.heap.size #[.int .i64 2, .slice none 0 0, .slice none 0 0, .int .i64 0, .slice none 0 0] (by simp))
  have BX_0_2 := Lib.hid (LB_0.out.below (box_new w1 #[.int .i64 2, .slice none 0 0, .slice none 0 0, .int .i64 0, .slice none 0 0] 41) hb)
  have hbq : Below w1.heap.size w1 w2 := ((Below.refl _ _).alloc (Nat.le_refl _) (.cells #[.int .i64 2, .slice none 0 0, .slice none 0 0, .int .i64 0, .slice none 0 0] 41)).trans (hb.mono (by simp))
  have HB2 := Lib.hid (HB1.out.trans (hbq.mono HB1.out.size))
  have HS2 := Lib.hid (hbq.size)
  clear hbq
  clear hb
  have hx0 : ∀ o, (w2.alloc (.cells #[.int .i64 2, .slice none 0 0, .slice none 0 0, .int .i64 0, .slice none 0 0] 41)).cell? ⟨w1.heap.size, o, none⟩ = (#[.int .i64 2, .slice none 0 0, .slice none 0 0, .int .i64 0, .slice none 0 0] : Array Value)[o]? := fun o => (World.cell?_alloc_lt w2 _ ⟨w1.heap.size, o, none⟩ (LB_0.out.2 _ _ BX_0_2.out rfl)).trans (BX_0_2.out o)
  unfold studio0
  go_wp2_with fail
  refine (eqStudio_new _).mono ?_
  rintro e w3 ⟨he, hb⟩
  clear hx0
  obtain rfl : e = .returned (.bool true) := he
  have LB_1 := Lib.hid (box_loc w2.heap.size #[.int .i64 2, .slice none 0 0, .slice none 0 0, .int .i64 0, .slice none 0 0] (by simp))
  have BX_1_3 := Lib.hid (LB_1.out.below (box_new w2 #[.int .i64 2, .slice none 0 0, .slice none 0 0, .int .i64 0, .slice none 0 0] 41) hb)
  have hbq : Below w2.heap.size w2 w3 := ((Below.refl _ _).alloc (Nat.le_refl _) (.cells #[.int .i64 2, .slice none 0 0, .slice none 0 0, .int .i64 0, .slice none 0 0] 41)).trans (hb.mono (by simp))
  have BX_0_3 := Lib.hid (LB_0.out.below BX_0_2.out hbq)
  have HB3 := Lib.hid (HB2.out.trans (hbq.mono HB2.out.size))
  have HS3 := Lib.hid (hbq.size)
  clear hbq
  clear hb
  have hx0 : ∀ o, w3.cell? ⟨w1.heap.size, o, none⟩ = (#[.int .i64 2, .slice none 0 0, .slice none 0 0, .int .i64 0, .slice none 0 0] : Array Value)[o]? := BX_0_3.out
  have hx1 : ∀ o, w3.cell? ⟨w2.heap.size, o, none⟩ = (#[.int .i64 2, .slice none 0 0, .slice none 0 0, .int .i64 0, .slice none 0 0] : Array Value)[o]? := BX_1_3.out
  go_wp2_with fail
  refine (markStudio_new _).mono ?_
  rintro e w4 ⟨he, hb⟩
  clear hx0
  clear hx1
  obtain rfl : e = .returned (.int .i64 1) := he
  have BX_0_4 := Lib.hid (LB_0.out.below BX_0_3.out hb)
  have BX_1_4 := Lib.hid (LB_1.out.below BX_1_3.out hb)
  have HB4 := Lib.hid (HB3.out.trans (hb.mono HB3.out.size))
  have HS4 := Lib.hid (hb.size)
  clear hb
  have hx0 : ∀ o, w4.cell? ⟨w1.heap.size, o, none⟩ = (#[.int .i64 2, .slice none 0 0, .slice none 0 0, .int .i64 0, .slice none 0 0] : Array Value)[o]? := BX_0_4.out
  have hx1 : ∀ o, w4.cell? ⟨w2.heap.size, o, none⟩ = (#[.int .i64 2, .slice none 0 0, .slice none 0 0, .int .i64 0, .slice none 0 0] : Array Value)[o]? := BX_1_4.out
  go_wp2_with fail
  refine (heldStudio_new _).mono ?_
  rintro e w5 ⟨he, hb⟩
  clear hx0
  clear hx1
  obtain rfl : e = .returned (.int .i64 1) := he
  have BX_0_5 := Lib.hid (LB_0.out.below BX_0_4.out hb)
  have BX_1_5 := Lib.hid (LB_1.out.below BX_1_4.out hb)
  have HB5 := Lib.hid (HB4.out.trans (hb.mono HB4.out.size))
  have HS5 := Lib.hid (hb.size)
  clear hb
  have hx0 : ∀ o, w5.cell? ⟨w1.heap.size, o, none⟩ = (#[.int .i64 2, .slice none 0 0, .slice none 0 0, .int .i64 0, .slice none 0 0] : Array Value)[o]? := BX_0_5.out
  have hx1 : ∀ o, w5.cell? ⟨w2.heap.size, o, none⟩ = (#[.int .i64 2, .slice none 0 0, .slice none 0 0, .int .i64 0, .slice none 0 0] : Array Value)[o]? := BX_1_5.out
  go_wp2_with fail
  refine (implNewStudio_any _).mono ?_
  rintro e w6 ⟨he, hb⟩
  clear hx0
  clear hx1
  obtain rfl : e = .returned (studio0) := he
  have BX_0_6 := Lib.hid (LB_0.out.below BX_0_5.out hb)
  have BX_1_6 := Lib.hid (LB_1.out.below BX_1_5.out hb)
  have HB6 := Lib.hid (HB5.out.trans (hb.mono HB5.out.size))
  have HS6 := Lib.hid (hb.size)
  clear hb
  have hx0 : ∀ o, (w6.alloc (.cells #[.int .i64 2, .slice none 0 0, .slice none 0 0, .int .i64 0, .slice none 0 0] 41)).cell? ⟨w1.heap.size, o, none⟩ = (#[.int .i64 2, .slice none 0 0, .slice none 0 0, .int .i64 0, .slice none 0 0] : Array Value)[o]? := fun o => (World.cell?_alloc_lt w6 _ ⟨w1.heap.size, o, none⟩ (LB_0.out.2 _ _ BX_0_6.out rfl)).trans (BX_0_6.out o)
  have hx1 : ∀ o, (w6.alloc (.cells #[.int .i64 2, .slice none 0 0, .slice none 0 0, .int .i64 0, .slice none 0 0] 41)).cell? ⟨w2.heap.size, o, none⟩ = (#[.int .i64 2, .slice none 0 0, .slice none 0 0, .int .i64 0, .slice none 0 0] : Array Value)[o]? := fun o => (World.cell?_alloc_lt w6 _ ⟨w2.heap.size, o, none⟩ (LB_1.out.2 _ _ BX_1_6.out rfl)).trans (BX_1_6.out o)
  unfold studio0
  go_wp2_with fail
  refine (eqStudio_new _).mono ?_
  rintro e w7 ⟨he, hb⟩
  clear hx0
  clear hx1
  obtain rfl : e = .returned (.bool true) := he
  have LB_2 := Lib.hid (box_loc w6.heap.size #[.int .i64 2, .slice none 0 0, .slice none 0 0, .int .i64 0, .slice none 0 0] (by simp))
  have BX_2_7 := Lib.hid (LB_2.out.below (box_new w6 #[.int .i64 2, .slice none 0 0, .slice none 0 0, .int .i64 0, .slice none 0 0] 41) hb)
  have hbq : Below w6.heap.size w6 w7 := ((Below.refl _ _).alloc (Nat.le_refl _) (.cells #[.int .i64 2, .slice none 0 0, .slice none 0 0, .int .i64 0, .slice none 0 0] 41)).trans (hb.mono (by simp))
  have BX_0_7 := Lib.hid (LB_0.out.below BX_0_6.out hbq)
  have BX_1_7 := Lib.hid (LB_1.out.below BX_1_6.out hbq)
  have HB7 := Lib.hid (HB6.out.trans (hbq.mono HB6.out.size))
  have HS7 := Lib.hid (hbq.size)
  clear hbq
  clear hb
  have hx0 : ∀ o, w7.cell? ⟨w1.heap.size, o, none⟩ = (#[.int .i64 2, .slice none 0 0, .slice none 0 0, .int .i64 0, .slice none 0 0] : Array Value)[o]? := BX_0_7.out
  have hx1 : ∀ o, w7.cell? ⟨w2.heap.size, o, none⟩ = (#[.int .i64 2, .slice none 0 0, .slice none 0 0, .int .i64 0, .slice none 0 0] : Array Value)[o]? := BX_1_7.out
  have hx2 : ∀ o, w7.cell? ⟨w6.heap.size, o, none⟩ = (#[.int .i64 2, .slice none 0 0, .slice none 0 0, .int .i64 0, .slice none 0 0] : Array Value)[o]? := BX_2_7.out
  go_wp2_with fail
  refine (heldStudio_new _).mono ?_
  rintro e w8 ⟨he, hb⟩
  clear hx0
  clear hx1
  clear hx2
  obtain rfl : e = .returned (.int .i64 1) := he
  have BX_0_8 := Lib.hid (LB_0.out.below BX_0_7.out hb)
  have BX_1_8 := Lib.hid (LB_1.out.below BX_1_7.out hb)
  have BX_2_8 := Lib.hid (LB_2.out.below BX_2_7.out hb)
  have HB8 := Lib.hid (HB7.out.trans (hb.mono HB7.out.size))
  have HS8 := Lib.hid (hb.size)
  clear hb
  have hx0 : ∀ o, w8.cell? ⟨w1.heap.size, o, none⟩ = (#[.int .i64 2, .slice none 0 0, .slice none 0 0, .int .i64 0, .slice none 0 0] : Array Value)[o]? := BX_0_8.out
  have hx1 : ∀ o, w8.cell? ⟨w2.heap.size, o, none⟩ = (#[.int .i64 2, .slice none 0 0, .slice none 0 0, .int .i64 0, .slice none 0 0] : Array Value)[o]? := BX_1_8.out
  have hx2 : ∀ o, w8.cell? ⟨w6.heap.size, o, none⟩ = (#[.int .i64 2, .slice none 0 0, .slice none 0 0, .int .i64 0, .slice none 0 0] : Array Value)[o]? := BX_2_8.out
  go_wp2_with fail
  go_ret
  exact ⟨rfl, HB8.out⟩
end Go.Proofs.Ytjegoffdkmbibaa
