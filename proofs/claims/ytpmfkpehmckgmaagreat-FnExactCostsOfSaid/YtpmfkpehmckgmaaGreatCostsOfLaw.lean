/- The walk of the law over CostsOf, from the contracts: it returns true. No condition. (Printed by wip/law2.py.) -/
import Derived.Test.YtpmfkpehmckgmaaGreatMachCd
import Derived.Test.YtpmfkpehmckgmaaGreatOpCopy
import Derived.Test.YtpmfkpehmckgmaaGreatOpLaw
import Derived.Test.YtpmfkpehmckgmaaGreatCosts
import Derived.Test.YtpmfkpehmckgmaaGreatObj2
import Derived.Deep.RegionHeld3
import Derived.Deep.RegionWith
namespace Go.Proofs.YtpmfkpehmckgmaaGreat
open Go.RowKit
set_option maxRecDepth 20000

theorem szOpL_any (A : Option Addr) (n c : Nat) (w : World) (hn : n ≤ maxLen) :
    Calls Tryz.prog 4 #[.slice A n c, .int .i64 1048576] w fun e w' => ∃ r : Int, (r < 0 ∨ n ≤ 1048576) ∧ e = .returned (.int .i64 r) ∧ Below w.heap.size w w' :=
  (szOpS_any A n c 1048576 w hn (by omega)).mono fun _ _ ⟨r, h, he, hw⟩ => ⟨r, h.imp_right (·.1), he, hw ▸ Below.refl _ _⟩
set_option maxHeartbeats 400000 in
theorem markCosts_any (o p r k5 t : Int) (A : Option Addr) (n c : Nat) (k : Int) (w : World) (h0 : Wr w A n) (hn : n ≤ 1000000000) (hk0 : 0 ≤ k) (hk : k ≤ 2000000000) :
    Calls Tryz.prog 11 #[.agg #[.int .i64 o, .int .i64 p, .int .i64 r, .int .i64 k5, .int .i64 t, .slice A n c], .int .i64 k] w fun e w' => MarkO w (Fb A n) (k + n) (fun w => Rd w A n (fun j => .int .i64 (k + j))) e w' := by
  have h : Wr w A (n * 1) := by simpa only [Nat.mul_one] using h0
  have H := Lib.hid h
  clear h h0
  go_enter Tryz.func11, Tryz.ntmps11
  go_wp2_with fail
  have hbl : Below w.heap.size w (w.alloc (.cells #[.int .i64 o, .int .i64 p, .int .i64 r, .int .i64 k5, .int .i64 t, .slice A n c] 26)) := by (repeat' first | with_reducible exact Below.refl _ _ | with_reducible refine Below.alloc ?_ ?_ _ | with_reducible refine Below.setCell ?_ ?_ _ | with_reducible refine Below.drew ?_ | with_reducible refine Below.drewN' ?_ _ | with_reducible (refine Below.trans ?_ (Below.mono (by assumption) ?_)) | exact Nat.le_refl _ | (simp; done) | (simp; omega) | omega)
  have hw := H.out.below hbl
  refine (markInt64S_any A n c k _ hw hn hk0 hk).mono ?_
  intro e w1 hm0
  have hm := hm0.obj hw
  simp only [Nat.mul_one, Int.mul_one] at hm
  obtain rfl : e = .returned (.int .i64 (k + n)) := hm.ret
  have HM := Lib.hid hm
  have HF := Lib.hid ((Fr.of_below hbl (Fb A n)).trans hm.fr)
  clear hm hm0 hw hbl
  go_wp2
  go_ret
  exact ⟨rfl, HF.out, HM.out.m, HM.out.om⟩
set_option maxHeartbeats 400000 in
theorem heldCosts_any (o p r k5 t : Int) (A : Option Addr) (n c : Nat) (k : Int) (w : World) (h0 : Rd w A n (fun j => .int .i64 (k + j))) (hn : n ≤ 1000000000) (hk0 : 0 ≤ k) (hk : k ≤ 2000000000) :
    Calls Tryz.prog 12 #[.agg #[.int .i64 o, .int .i64 p, .int .i64 r, .int .i64 k5, .int .i64 t, .slice A n c], .int .i64 k] w fun e w' => e = .returned (.int .i64 (k + n)) ∧ Below w.heap.size w w' := by
  have h : Rd w A (n * 1) (fun j => .int .i64 (k + j)) := by simpa only [Nat.mul_one] using h0
  have H := Lib.hid h
  clear h h0
  go_enter Tryz.func12, Tryz.ntmps12
  go_wp2_with fail
  have hbl : Below w.heap.size w (w.alloc (.cells #[.int .i64 o, .int .i64 p, .int .i64 r, .int .i64 k5, .int .i64 t, .slice A n c] 26)) := by (repeat' first | with_reducible exact Below.refl _ _ | with_reducible refine Below.alloc ?_ ?_ _ | with_reducible refine Below.setCell ?_ ?_ _ | with_reducible refine Below.drew ?_ | with_reducible refine Below.drewN' ?_ _ | with_reducible (refine Below.trans ?_ (Below.mono (by assumption) ?_)) | exact Nat.le_refl _ | (simp; done) | (simp; omega) | omega)
  refine (heldInt64S_any A n c k _ (H.out.below hbl) hn hk0 hk).mono ?_
  rintro e w1 ⟨rfl, hb1⟩
  have HBL := Lib.hid (hbl.trans (hb1.mono hbl.size))
  clear hb1 hbl
  have hpos : ¬ k + (n : Int) * 1 < 0 := by omega
  go_wp2
  go_ret
  exact ⟨rfl, HBL.out⟩
theorem callC {w : World} {f : FuncId} {args : Array Value} {X0 X1 X2 X3 X4 C Y0 Y1 Y2 Y3 Y4 D : Int} {N M : Nat} {F G : Nat → Int} (h0 : X0 = Y0) (h1 : X1 = Y1) (h2 : X2 = Y2) (h3 : X3 = Y3) (h4 : X4 = Y4) (hN : N = M) (hC : C = D) (hF : F = G) (h : Calls Tryz.prog f args w (CsQ w Y0 Y1 Y2 Y3 Y4 M D G)) : Calls Tryz.prog f args w (CsQ w X0 X1 X2 X3 X4 N C F) := by
  subst h0 h1 h2 h3 h4 hN hC hF
  exact h
set_option maxHeartbeats 2000000 in
theorem lawCostsOf_walk (W : Int) (A : Option Addr) (n c : Nat) (z : Nat → Int) (w : World) (ha : Rd w A (n * 8) (fun j => .int .i64 (z j))) (hn0 : n ≤ maxLen) :
    Calls Tryz.prog 3 #[.int .i64 W, .slice A n c] w fun e w' => e = .returned (.bool true) ∧ Below w.heap.size w w' := by
  have hpn := csL_le W z n
  obtain ⟨X0, hx0⟩ : ∃ x, x = csN W z n 0 := ⟨_, rfl⟩
  have HX0 := Lib.hid hx0
  obtain ⟨X1, hx1⟩ : ∃ x, x = csN W z n 1 := ⟨_, rfl⟩
  have HX1 := Lib.hid hx1
  obtain ⟨X2, hx2⟩ : ∃ x, x = csN W z n 2 := ⟨_, rfl⟩
  have HX2 := Lib.hid hx2
  obtain ⟨X3, hx3⟩ : ∃ x, x = csN W z n 3 := ⟨_, rfl⟩
  have HX3 := Lib.hid hx3
  obtain ⟨X4, hx4⟩ : ∃ x, x = csN W z n 4 := ⟨_, rfl⟩
  have HX4 := Lib.hid hx4
  obtain ⟨N, hN⟩ : ∃ x, x = csL W z n := ⟨_, rfl⟩
  obtain ⟨C, hC⟩ : ∃ x, x = codeOf W z n := ⟨_, rfl⟩
  obtain ⟨F, hF⟩ : ∃ x, x = yAt W.toNat z n := ⟨_, rfl⟩
  rw [← hN] at hpn
  have HN := Lib.hid hN
  have HC := Lib.hid hC
  have HF := Lib.hid hF
  clear hN hC hF hx0 hx1 hx2 hx3 hx4
  have HB := Lib.hid (Below.refl w.heap.size w)
  have R_a := Lib.hid ha
  have LR_a := Lib.hid (rd_obj A (n * 8) (fun j => .int .i64 (z j)))
  have HI_a := Lib.hid (LR_a.out.2 w · R_a.out)
  clear ha
  go_enter Tryz.func3, Tryz.ntmps3
  go_wp2_with fail
  refine (szOpL_any A n c _ hn0).mono ?_
  rintro e w1 ⟨r1, hr, rfl, hb⟩
  have SZ_1 := Lib.hid (show w.heap.size ≤ w1.heap.size from (by have := hb.size; first | omega | (simp at this; omega)))
  replace R_a := Lib.hid (LR_a.out.below R_a.out hb)
  replace HB := Lib.hid (HB.out.trans (hb.mono HB.out.size))
  clear hb
  by_cases hr0 : r1 < 0
  · go_wp2_with fail
    go_ret
    exact ⟨rfl, HB.out⟩
  have hsm := hr.resolve_left hr0
  clear hr
  have hn : n ≤ 1048576 := by omega
  go_wp2_with fail
  refine (toOpS_any A n c z _ (R_a.out) hn).mono ?_
  rintro e w2 ⟨A_t1, c_t1, rfl, hp0⟩
  have hp := hp0.obj
  clear hp0
  have SZ_2 := Lib.hid (show w1.heap.size ≤ w2.heap.size from (by have := hp.bl.size; first | omega | (simp at this; omega)))
  replace R_a := Lib.hid (LR_a.out.below R_a.out hp.bl)
  replace HB := Lib.hid (HB.out.trans (hp.bl.mono HB.out.size))
  have R_t1 := Lib.hid hp.r
  have W_t1 := Lib.hid hp.w
  have LR_t1 := Lib.hid hp.or
  have LW_t1 := Lib.hid hp.ow
  have LO_t1 := Lib.hid (hp.lo (k := w1.heap.size) (by first | exact Nat.le_refl _ | simp))
  have HI_t1 := Lib.hid hp.hi
  clear hp
  go_wp2_with fail
  refine (callC HX0.out HX1.out HX2.out HX3.out HX4.out HN.out HC.out HF.out (specCostsOf_any W A_t1 n c_t1 z _ (R_t1.out) hn)).mono ?_
  rintro e w3 ⟨A_S, c_S, rfl, hp0⟩
  have hp := hp0.obj
  clear hp0
  have SZ_3 := Lib.hid (show w2.heap.size ≤ w3.heap.size from (by have := hp.bl.size; first | omega | (simp at this; omega)))
  replace R_a := Lib.hid (LR_a.out.below R_a.out hp.bl)
  replace R_t1 := Lib.hid (LR_t1.out.below R_t1.out hp.bl)
  replace W_t1 := Lib.hid (LW_t1.out.below W_t1.out hp.bl)
  replace HB := Lib.hid (HB.out.trans (hp.bl.mono HB.out.size))
  have R_S := Lib.hid hp.r
  have W_S := Lib.hid hp.w
  have LR_S := Lib.hid hp.or
  have LW_S := Lib.hid hp.ow
  have LO_S := Lib.hid (hp.lo (k := w2.heap.size) (by first | exact Nat.le_refl _ | simp))
  have HI_S := Lib.hid hp.hi
  clear hp
  have hba : Below w3.heap.size w3 (w3.alloc (.cells #[.int .i64 X0, .int .i64 X1, .int .i64 X2, .int .i64 X3, .int .i64 X4, .slice A_S N c_S] 26)) := (Below.refl _ _).alloc (Nat.le_refl _) _
  replace R_a := Lib.hid (LR_a.out.below R_a.out hba)
  replace R_S := Lib.hid (LR_S.out.below R_S.out hba)
  replace W_S := Lib.hid (LW_S.out.below W_S.out hba)
  replace HB := Lib.hid (HB.out.trans (hba.mono HB.out.size))
  have LB_S := Lib.hid (box_loc (w3.heap.size) #[.int .i64 X0, .int .i64 X1, .int .i64 X2, .int .i64 X3, .int .i64 X4, .slice A_S N c_S] (by simp))
  have BX_S := Lib.hid (show BoxAt (w3.heap.size) #[.int .i64 X0, .int .i64 X1, .int .i64 X2, .int .i64 X3, .int .i64 X4, .slice A_S N c_S] (w3.alloc (.cells #[.int .i64 X0, .int .i64 X1, .int .i64 X2, .int .i64 X3, .int .i64 X4, .slice A_S N c_S] 26)) from fun oo => cell_alloc_at (by simp) oo)
  clear hba
  have hx_S : ∀ oo, (w3.alloc (.cells #[.int .i64 X0, .int .i64 X1, .int .i64 X2, .int .i64 X3, .int .i64 X4, .slice A_S N c_S] 26)).cell? ⟨w3.heap.size, oo, none⟩ = (#[.int .i64 X0, .int .i64 X1, .int .i64 X2, .int .i64 X3, .int .i64 X4, .slice A_S N c_S] : Array Value)[oo]? := BX_S.out
  go_wp2_with fail
  refine (toOpS_any A n c z _ (R_a.out) hn).mono ?_
  rintro e w4 ⟨A_x, c_x, rfl, hp0⟩
  clear hx_S
  have hp := hp0.obj
  clear hp0
  have SZ_4 := Lib.hid (show w3.heap.size + 1 ≤ w4.heap.size from (by have := hp.bl.size; first | omega | (simp at this; omega)))
  replace BX_S := Lib.hid (LB_S.out.below BX_S.out hp.bl)
  replace R_a := Lib.hid (LR_a.out.below R_a.out hp.bl)
  replace R_S := Lib.hid (LR_S.out.below R_S.out hp.bl)
  replace W_S := Lib.hid (LW_S.out.below W_S.out hp.bl)
  replace HB := Lib.hid (HB.out.trans (hp.bl.mono HB.out.size))
  have R_x := Lib.hid hp.r
  have W_x := Lib.hid hp.w
  have LR_x := Lib.hid hp.or
  have LW_x := Lib.hid hp.ow
  have LO_x := Lib.hid (hp.lo (k := w3.heap.size + 1) (by first | exact Nat.le_refl _ | simp))
  have HI_x := Lib.hid hp.hi
  clear hp
  have hx_S : ∀ oo, w4.cell? ⟨w3.heap.size, oo, none⟩ = (#[.int .i64 X0, .int .i64 X1, .int .i64 X2, .int .i64 X3, .int .i64 X4, .slice A_S N c_S] : Array Value)[oo]? := BX_S.out
  go_wp2_with fail
  refine (callC HX0.out HX1.out HX2.out HX3.out HX4.out HN.out HC.out HF.out (implCostsOf_any W A_x n c_x z _ (R_x.out) hn)).mono ?_
  rintro e w5 ⟨A_G, c_G, rfl, hp0⟩
  clear hx_S
  have hp := hp0.obj
  clear hp0
  have SZ_5 := Lib.hid (show w4.heap.size ≤ w5.heap.size from (by have := hp.bl.size; first | omega | (simp at this; omega)))
  replace BX_S := Lib.hid (LB_S.out.below BX_S.out hp.bl)
  replace R_a := Lib.hid (LR_a.out.below R_a.out hp.bl)
  replace R_S := Lib.hid (LR_S.out.below R_S.out hp.bl)
  replace W_S := Lib.hid (LW_S.out.below W_S.out hp.bl)
  replace R_x := Lib.hid (LR_x.out.below R_x.out hp.bl)
  replace W_x := Lib.hid (LW_x.out.below W_x.out hp.bl)
  replace HB := Lib.hid (HB.out.trans (hp.bl.mono HB.out.size))
  have R_G := Lib.hid hp.r
  have W_G := Lib.hid hp.w
  have LR_G := Lib.hid hp.or
  have LW_G := Lib.hid hp.ow
  have LO_G := Lib.hid (hp.lo (k := w4.heap.size) (by first | exact Nat.le_refl _ | simp))
  have HI_G := Lib.hid hp.hi
  clear hp
  have hba : Below w5.heap.size w5 (w5.alloc (.cells #[.int .i64 X0, .int .i64 X1, .int .i64 X2, .int .i64 X3, .int .i64 X4, .slice A_G N c_G] 26)) := (Below.refl _ _).alloc (Nat.le_refl _) _
  replace BX_S := Lib.hid (LB_S.out.below BX_S.out hba)
  replace R_a := Lib.hid (LR_a.out.below R_a.out hba)
  replace R_S := Lib.hid (LR_S.out.below R_S.out hba)
  replace W_S := Lib.hid (LW_S.out.below W_S.out hba)
  replace R_x := Lib.hid (LR_x.out.below R_x.out hba)
  replace W_x := Lib.hid (LW_x.out.below W_x.out hba)
  replace R_G := Lib.hid (LR_G.out.below R_G.out hba)
  replace W_G := Lib.hid (LW_G.out.below W_G.out hba)
  replace HB := Lib.hid (HB.out.trans (hba.mono HB.out.size))
  have LB_G := Lib.hid (box_loc (w5.heap.size) #[.int .i64 X0, .int .i64 X1, .int .i64 X2, .int .i64 X3, .int .i64 X4, .slice A_G N c_G] (by simp))
  have BX_G := Lib.hid (show BoxAt (w5.heap.size) #[.int .i64 X0, .int .i64 X1, .int .i64 X2, .int .i64 X3, .int .i64 X4, .slice A_G N c_G] (w5.alloc (.cells #[.int .i64 X0, .int .i64 X1, .int .i64 X2, .int .i64 X3, .int .i64 X4, .slice A_G N c_G] 26)) from fun oo => cell_alloc_at (by simp) oo)
  clear hba
  have hx_S : ∀ oo, (w5.alloc (.cells #[.int .i64 X0, .int .i64 X1, .int .i64 X2, .int .i64 X3, .int .i64 X4, .slice A_G N c_G] 26)).cell? ⟨w3.heap.size, oo, none⟩ = (#[.int .i64 X0, .int .i64 X1, .int .i64 X2, .int .i64 X3, .int .i64 X4, .slice A_S N c_S] : Array Value)[oo]? := BX_S.out
  have hx_G : ∀ oo, (w5.alloc (.cells #[.int .i64 X0, .int .i64 X1, .int .i64 X2, .int .i64 X3, .int .i64 X4, .slice A_G N c_G] 26)).cell? ⟨w5.heap.size, oo, none⟩ = (#[.int .i64 X0, .int .i64 X1, .int .i64 X2, .int .i64 X3, .int .i64 X4, .slice A_G N c_G] : Array Value)[oo]? := BX_G.out
  go_wp2_with fail
  refine (eqCosts_any X0 X1 X2 X3 X4 A_G A_S N c_G c_S F _ (R_G.out) (R_S.out) (by omega)).mono ?_
  rintro e w6 ⟨he, hb⟩
  clear hx_S hx_G
  obtain rfl : e = .returned (.bool true) := he
  have SZ_6 := Lib.hid (show w5.heap.size + 1 ≤ w6.heap.size from (by have := hb.size; first | omega | (simp at this; omega)))
  replace BX_S := Lib.hid (LB_S.out.below BX_S.out hb)
  replace BX_G := Lib.hid (LB_G.out.below BX_G.out hb)
  replace R_a := Lib.hid (LR_a.out.below R_a.out hb)
  replace R_S := Lib.hid (LR_S.out.below R_S.out hb)
  replace W_S := Lib.hid (LW_S.out.below W_S.out hb)
  replace R_x := Lib.hid (LR_x.out.below R_x.out hb)
  replace W_x := Lib.hid (LW_x.out.below W_x.out hb)
  replace R_G := Lib.hid (LR_G.out.below R_G.out hb)
  replace W_G := Lib.hid (LW_G.out.below W_G.out hb)
  replace HB := Lib.hid (HB.out.trans (hb.mono HB.out.size))
  clear hb
  have hx_S : ∀ oo, w6.cell? ⟨w3.heap.size, oo, none⟩ = (#[.int .i64 X0, .int .i64 X1, .int .i64 X2, .int .i64 X3, .int .i64 X4, .slice A_S N c_S] : Array Value)[oo]? := BX_S.out
  have hx_G : ∀ oo, w6.cell? ⟨w5.heap.size, oo, none⟩ = (#[.int .i64 X0, .int .i64 X1, .int .i64 X2, .int .i64 X3, .int .i64 X4, .slice A_G N c_G] : Array Value)[oo]? := BX_G.out
  go_wp2_with fail
  refine (toOpS_any A n c z _ (R_a.out) hn).mono ?_
  rintro e w7 ⟨A_t2, c_t2, rfl, hp0⟩
  clear hx_S hx_G
  have hp := hp0.obj
  clear hp0
  have SZ_7 := Lib.hid (show w6.heap.size ≤ w7.heap.size from (by have := hp.bl.size; first | omega | (simp at this; omega)))
  replace BX_S := Lib.hid (LB_S.out.below BX_S.out hp.bl)
  replace BX_G := Lib.hid (LB_G.out.below BX_G.out hp.bl)
  replace R_a := Lib.hid (LR_a.out.below R_a.out hp.bl)
  replace R_S := Lib.hid (LR_S.out.below R_S.out hp.bl)
  replace W_S := Lib.hid (LW_S.out.below W_S.out hp.bl)
  replace R_x := Lib.hid (LR_x.out.below R_x.out hp.bl)
  replace W_x := Lib.hid (LW_x.out.below W_x.out hp.bl)
  replace R_G := Lib.hid (LR_G.out.below R_G.out hp.bl)
  replace W_G := Lib.hid (LW_G.out.below W_G.out hp.bl)
  replace HB := Lib.hid (HB.out.trans (hp.bl.mono HB.out.size))
  have R_t2 := Lib.hid hp.r
  have W_t2 := Lib.hid hp.w
  have LR_t2 := Lib.hid hp.or
  have LW_t2 := Lib.hid hp.ow
  have LO_t2 := Lib.hid (hp.lo (k := w6.heap.size) (by first | exact Nat.le_refl _ | simp))
  have HI_t2 := Lib.hid hp.hi
  clear hp
  have hx_S : ∀ oo, w7.cell? ⟨w3.heap.size, oo, none⟩ = (#[.int .i64 X0, .int .i64 X1, .int .i64 X2, .int .i64 X3, .int .i64 X4, .slice A_S N c_S] : Array Value)[oo]? := BX_S.out
  have hx_G : ∀ oo, w7.cell? ⟨w5.heap.size, oo, none⟩ = (#[.int .i64 X0, .int .i64 X1, .int .i64 X2, .int .i64 X3, .int .i64 X4, .slice A_G N c_G] : Array Value)[oo]? := BX_G.out
  go_wp2_with fail
  refine (eqOpS_any A_x A_t2 n c_x c_t2 z _ (R_x.out) (R_t2.out) (by omega)).mono ?_
  rintro e w8 ⟨he, hb⟩
  clear hx_S hx_G
  obtain rfl : e = .returned (.bool true) := he
  have SZ_8 := Lib.hid (show w7.heap.size ≤ w8.heap.size from (by have := hb.size; first | omega | (simp at this; omega)))
  replace BX_S := Lib.hid (LB_S.out.below BX_S.out hb)
  replace BX_G := Lib.hid (LB_G.out.below BX_G.out hb)
  replace R_a := Lib.hid (LR_a.out.below R_a.out hb)
  replace R_S := Lib.hid (LR_S.out.below R_S.out hb)
  replace W_S := Lib.hid (LW_S.out.below W_S.out hb)
  replace R_x := Lib.hid (LR_x.out.below R_x.out hb)
  replace W_x := Lib.hid (LW_x.out.below W_x.out hb)
  replace R_G := Lib.hid (LR_G.out.below R_G.out hb)
  replace W_G := Lib.hid (LW_G.out.below W_G.out hb)
  replace R_t2 := Lib.hid (LR_t2.out.below R_t2.out hb)
  replace W_t2 := Lib.hid (LW_t2.out.below W_t2.out hb)
  replace HB := Lib.hid (HB.out.trans (hb.mono HB.out.size))
  clear hb
  have hx_S : ∀ oo, w8.cell? ⟨w3.heap.size, oo, none⟩ = (#[.int .i64 X0, .int .i64 X1, .int .i64 X2, .int .i64 X3, .int .i64 X4, .slice A_S N c_S] : Array Value)[oo]? := BX_S.out
  have hx_G : ∀ oo, w8.cell? ⟨w5.heap.size, oo, none⟩ = (#[.int .i64 X0, .int .i64 X1, .int .i64 X2, .int .i64 X3, .int .i64 X4, .slice A_G N c_G] : Array Value)[oo]? := BX_G.out
  go_wp2_with fail
  refine (markOpS_any A_x n c_x 1 _ (W_x.out) (by omega) (by omega) (by omega)).mono ?_
  intro e w9 hm0
  clear hx_S hx_G
  have hm := hm0.obj W_x.out
  clear hm0
  obtain rfl : e = .returned (.int .i64 (1 + (n : Int) * 8)) := hm.ret
  have SZ_9 := Lib.hid (show w8.heap.size ≤ w9.heap.size from (by have := hm.fr.size; first | omega | (simp at this; omega)))
  replace BX_S := Lib.hid (LB_S.out.fr BX_S.out hm.fr (fun b h1 h2 => by have h3 : b = w3.heap.size := h1; have := LO_x.out b h2; have := HI_x.out b h2; have := SZ_1.out; have := SZ_2.out; have := SZ_3.out; have := SZ_4.out; have := SZ_5.out; have := SZ_6.out; have := SZ_7.out; have := SZ_8.out; have := SZ_9.out; omega))
  replace BX_G := Lib.hid (LB_G.out.fr BX_G.out hm.fr (fun b h1 h2 => by have h3 : b = w5.heap.size := h1; have := LO_x.out b h2; have := HI_x.out b h2; have := SZ_1.out; have := SZ_2.out; have := SZ_3.out; have := SZ_4.out; have := SZ_5.out; have := SZ_6.out; have := SZ_7.out; have := SZ_8.out; have := SZ_9.out; omega))
  replace R_a := Lib.hid (LR_a.out.fr R_a.out hm.fr (fun b h1 h2 => by have := LO_x.out b h2; have := HI_x.out b h2; have := HI_a.out b h1; have := SZ_1.out; have := SZ_2.out; have := SZ_3.out; have := SZ_4.out; have := SZ_5.out; have := SZ_6.out; have := SZ_7.out; have := SZ_8.out; have := SZ_9.out; omega))
  replace R_S := Lib.hid (LR_S.out.fr R_S.out hm.fr (fun b h1 h2 => by have := LO_x.out b h2; have := HI_x.out b h2; have := HI_S.out b h1; have := LO_S.out b h1; have := SZ_1.out; have := SZ_2.out; have := SZ_3.out; have := SZ_4.out; have := SZ_5.out; have := SZ_6.out; have := SZ_7.out; have := SZ_8.out; have := SZ_9.out; omega))
  replace W_S := Lib.hid (LW_S.out.fr W_S.out hm.fr (fun b h1 h2 => by have := LO_x.out b h2; have := HI_x.out b h2; have := HI_S.out b h1; have := LO_S.out b h1; have := SZ_1.out; have := SZ_2.out; have := SZ_3.out; have := SZ_4.out; have := SZ_5.out; have := SZ_6.out; have := SZ_7.out; have := SZ_8.out; have := SZ_9.out; omega))
  replace R_G := Lib.hid (LR_G.out.fr R_G.out hm.fr (fun b h1 h2 => by have := LO_x.out b h2; have := HI_x.out b h2; have := HI_G.out b h1; have := LO_G.out b h1; have := SZ_1.out; have := SZ_2.out; have := SZ_3.out; have := SZ_4.out; have := SZ_5.out; have := SZ_6.out; have := SZ_7.out; have := SZ_8.out; have := SZ_9.out; omega))
  replace W_G := Lib.hid (LW_G.out.fr W_G.out hm.fr (fun b h1 h2 => by have := LO_x.out b h2; have := HI_x.out b h2; have := HI_G.out b h1; have := LO_G.out b h1; have := SZ_1.out; have := SZ_2.out; have := SZ_3.out; have := SZ_4.out; have := SZ_5.out; have := SZ_6.out; have := SZ_7.out; have := SZ_8.out; have := SZ_9.out; omega))
  replace HB := Lib.hid (HB.out.trans (hm.fr.below HB.out.size fun b h2 => by have := LO_x.out b h2; have := SZ_1.out; have := SZ_2.out; have := SZ_3.out; have := SZ_4.out; have := SZ_5.out; have := SZ_6.out; have := SZ_7.out; have := SZ_8.out; have := SZ_9.out; omega))
  replace R_x := Lib.hid hm.m
  replace LR_x := Lib.hid hm.om
  clear W_x LW_x hm
  have hx_S : ∀ oo, w9.cell? ⟨w3.heap.size, oo, none⟩ = (#[.int .i64 X0, .int .i64 X1, .int .i64 X2, .int .i64 X3, .int .i64 X4, .slice A_S N c_S] : Array Value)[oo]? := BX_S.out
  have hx_G : ∀ oo, w9.cell? ⟨w5.heap.size, oo, none⟩ = (#[.int .i64 X0, .int .i64 X1, .int .i64 X2, .int .i64 X3, .int .i64 X4, .slice A_G N c_G] : Array Value)[oo]? := BX_G.out
  go_wp2_with fail
  refine (eqCosts_any X0 X1 X2 X3 X4 A_G A_S N c_G c_S F _ (R_G.out) (R_S.out) (by omega)).mono ?_
  rintro e w10 ⟨he, hb⟩
  clear hx_S hx_G
  obtain rfl : e = .returned (.bool true) := he
  have SZ_10 := Lib.hid (show w9.heap.size ≤ w10.heap.size from (by have := hb.size; first | omega | (simp at this; omega)))
  replace BX_S := Lib.hid (LB_S.out.below BX_S.out hb)
  replace BX_G := Lib.hid (LB_G.out.below BX_G.out hb)
  replace R_a := Lib.hid (LR_a.out.below R_a.out hb)
  replace R_S := Lib.hid (LR_S.out.below R_S.out hb)
  replace W_S := Lib.hid (LW_S.out.below W_S.out hb)
  replace R_G := Lib.hid (LR_G.out.below R_G.out hb)
  replace W_G := Lib.hid (LW_G.out.below W_G.out hb)
  replace HB := Lib.hid (HB.out.trans (hb.mono HB.out.size))
  clear hb
  have hx_S : ∀ oo, w10.cell? ⟨w3.heap.size, oo, none⟩ = (#[.int .i64 X0, .int .i64 X1, .int .i64 X2, .int .i64 X3, .int .i64 X4, .slice A_S N c_S] : Array Value)[oo]? := BX_S.out
  have hx_G : ∀ oo, w10.cell? ⟨w5.heap.size, oo, none⟩ = (#[.int .i64 X0, .int .i64 X1, .int .i64 X2, .int .i64 X3, .int .i64 X4, .slice A_G N c_G] : Array Value)[oo]? := BX_G.out
  go_wp2_with fail
  refine (markCosts_any X0 X1 X2 X3 X4 A_G N c_G 1 _ (W_G.out) (by omega) (by omega) (by omega)).mono ?_
  intro e w11 hm
  clear hx_S hx_G
  obtain rfl : e = .returned (.int .i64 (1 + (N : Int))) := hm.ret
  have SZ_11 := Lib.hid (show w10.heap.size ≤ w11.heap.size from (by have := hm.fr.size; first | omega | (simp at this; omega)))
  replace BX_S := Lib.hid (LB_S.out.fr BX_S.out hm.fr (fun b h1 h2 => by have h3 : b = w3.heap.size := h1; have := LO_G.out b h2; have := HI_G.out b h2; have := SZ_1.out; have := SZ_2.out; have := SZ_3.out; have := SZ_4.out; have := SZ_5.out; have := SZ_6.out; have := SZ_7.out; have := SZ_8.out; have := SZ_9.out; have := SZ_10.out; have := SZ_11.out; omega))
  replace BX_G := Lib.hid (LB_G.out.fr BX_G.out hm.fr (fun b h1 h2 => by have h3 : b = w5.heap.size := h1; have := LO_G.out b h2; have := HI_G.out b h2; have := SZ_1.out; have := SZ_2.out; have := SZ_3.out; have := SZ_4.out; have := SZ_5.out; have := SZ_6.out; have := SZ_7.out; have := SZ_8.out; have := SZ_9.out; have := SZ_10.out; have := SZ_11.out; omega))
  replace R_a := Lib.hid (LR_a.out.fr R_a.out hm.fr (fun b h1 h2 => by have := LO_G.out b h2; have := HI_G.out b h2; have := HI_a.out b h1; have := SZ_1.out; have := SZ_2.out; have := SZ_3.out; have := SZ_4.out; have := SZ_5.out; have := SZ_6.out; have := SZ_7.out; have := SZ_8.out; have := SZ_9.out; have := SZ_10.out; have := SZ_11.out; omega))
  replace R_S := Lib.hid (LR_S.out.fr R_S.out hm.fr (fun b h1 h2 => by have := LO_G.out b h2; have := HI_G.out b h2; have := HI_S.out b h1; have := LO_S.out b h1; have := SZ_1.out; have := SZ_2.out; have := SZ_3.out; have := SZ_4.out; have := SZ_5.out; have := SZ_6.out; have := SZ_7.out; have := SZ_8.out; have := SZ_9.out; have := SZ_10.out; have := SZ_11.out; omega))
  replace W_S := Lib.hid (LW_S.out.fr W_S.out hm.fr (fun b h1 h2 => by have := LO_G.out b h2; have := HI_G.out b h2; have := HI_S.out b h1; have := LO_S.out b h1; have := SZ_1.out; have := SZ_2.out; have := SZ_3.out; have := SZ_4.out; have := SZ_5.out; have := SZ_6.out; have := SZ_7.out; have := SZ_8.out; have := SZ_9.out; have := SZ_10.out; have := SZ_11.out; omega))
  replace HB := Lib.hid (HB.out.trans (hm.fr.below HB.out.size fun b h2 => by have := LO_G.out b h2; have := SZ_1.out; have := SZ_2.out; have := SZ_3.out; have := SZ_4.out; have := SZ_5.out; have := SZ_6.out; have := SZ_7.out; have := SZ_8.out; have := SZ_9.out; have := SZ_10.out; have := SZ_11.out; omega))
  replace R_G := Lib.hid hm.m
  replace LR_G := Lib.hid hm.om
  clear W_G LW_G hm
  have hx_S : ∀ oo, w11.cell? ⟨w3.heap.size, oo, none⟩ = (#[.int .i64 X0, .int .i64 X1, .int .i64 X2, .int .i64 X3, .int .i64 X4, .slice A_S N c_S] : Array Value)[oo]? := BX_S.out
  have hx_G : ∀ oo, w11.cell? ⟨w5.heap.size, oo, none⟩ = (#[.int .i64 X0, .int .i64 X1, .int .i64 X2, .int .i64 X3, .int .i64 X4, .slice A_G N c_G] : Array Value)[oo]? := BX_G.out
  go_wp2_with fail
  refine (heldCosts_any X0 X1 X2 X3 X4 A_G N c_G 1 _ (R_G.out) (by omega) (by omega) (by omega)).mono ?_
  rintro e w12 ⟨he, hb⟩
  clear hx_S hx_G
  obtain rfl : e = .returned (.int .i64 (1 + (N : Int))) := he
  have SZ_12 := Lib.hid (show w11.heap.size ≤ w12.heap.size from (by have := hb.size; first | omega | (simp at this; omega)))
  replace BX_S := Lib.hid (LB_S.out.below BX_S.out hb)
  replace BX_G := Lib.hid (LB_G.out.below BX_G.out hb)
  replace R_a := Lib.hid (LR_a.out.below R_a.out hb)
  replace R_S := Lib.hid (LR_S.out.below R_S.out hb)
  replace W_S := Lib.hid (LW_S.out.below W_S.out hb)
  replace R_G := Lib.hid (LR_G.out.below R_G.out hb)
  replace HB := Lib.hid (HB.out.trans (hb.mono HB.out.size))
  clear hb
  have hx_S : ∀ oo, w12.cell? ⟨w3.heap.size, oo, none⟩ = (#[.int .i64 X0, .int .i64 X1, .int .i64 X2, .int .i64 X3, .int .i64 X4, .slice A_S N c_S] : Array Value)[oo]? := BX_S.out
  have hx_G : ∀ oo, w12.cell? ⟨w5.heap.size, oo, none⟩ = (#[.int .i64 X0, .int .i64 X1, .int .i64 X2, .int .i64 X3, .int .i64 X4, .slice A_G N c_G] : Array Value)[oo]? := BX_G.out
  go_wp2_with fail
  refine (toOpS_any A n c z _ (R_a.out) hn).mono ?_
  rintro e w13 ⟨A_t3, c_t3, rfl, hp0⟩
  clear hx_S hx_G
  have hp := hp0.obj
  clear hp0
  have SZ_13 := Lib.hid (show w12.heap.size ≤ w13.heap.size from (by have := hp.bl.size; first | omega | (simp at this; omega)))
  replace BX_S := Lib.hid (LB_S.out.below BX_S.out hp.bl)
  replace BX_G := Lib.hid (LB_G.out.below BX_G.out hp.bl)
  replace R_a := Lib.hid (LR_a.out.below R_a.out hp.bl)
  replace R_S := Lib.hid (LR_S.out.below R_S.out hp.bl)
  replace W_S := Lib.hid (LW_S.out.below W_S.out hp.bl)
  replace R_G := Lib.hid (LR_G.out.below R_G.out hp.bl)
  replace HB := Lib.hid (HB.out.trans (hp.bl.mono HB.out.size))
  have R_t3 := Lib.hid hp.r
  have W_t3 := Lib.hid hp.w
  have LR_t3 := Lib.hid hp.or
  have LW_t3 := Lib.hid hp.ow
  have LO_t3 := Lib.hid (hp.lo (k := w12.heap.size) (by first | exact Nat.le_refl _ | simp))
  have HI_t3 := Lib.hid hp.hi
  clear hp
  have hx_S : ∀ oo, w13.cell? ⟨w3.heap.size, oo, none⟩ = (#[.int .i64 X0, .int .i64 X1, .int .i64 X2, .int .i64 X3, .int .i64 X4, .slice A_S N c_S] : Array Value)[oo]? := BX_S.out
  have hx_G : ∀ oo, w13.cell? ⟨w5.heap.size, oo, none⟩ = (#[.int .i64 X0, .int .i64 X1, .int .i64 X2, .int .i64 X3, .int .i64 X4, .slice A_G N c_G] : Array Value)[oo]? := BX_G.out
  go_wp2_with fail
  refine (callC HX0.out HX1.out HX2.out HX3.out HX4.out HN.out HC.out HF.out (implCostsOf_any W A_t3 n c_t3 z _ (R_t3.out) hn)).mono ?_
  rintro e w14 ⟨A_Z, c_Z, rfl, hp0⟩
  clear hx_S hx_G
  have hp := hp0.obj
  clear hp0
  have SZ_14 := Lib.hid (show w13.heap.size ≤ w14.heap.size from (by have := hp.bl.size; first | omega | (simp at this; omega)))
  replace BX_S := Lib.hid (LB_S.out.below BX_S.out hp.bl)
  replace BX_G := Lib.hid (LB_G.out.below BX_G.out hp.bl)
  replace R_a := Lib.hid (LR_a.out.below R_a.out hp.bl)
  replace R_S := Lib.hid (LR_S.out.below R_S.out hp.bl)
  replace W_S := Lib.hid (LW_S.out.below W_S.out hp.bl)
  replace R_G := Lib.hid (LR_G.out.below R_G.out hp.bl)
  replace R_t3 := Lib.hid (LR_t3.out.below R_t3.out hp.bl)
  replace W_t3 := Lib.hid (LW_t3.out.below W_t3.out hp.bl)
  replace HB := Lib.hid (HB.out.trans (hp.bl.mono HB.out.size))
  have R_Z := Lib.hid hp.r
  have W_Z := Lib.hid hp.w
  have LR_Z := Lib.hid hp.or
  have LW_Z := Lib.hid hp.ow
  have LO_Z := Lib.hid (hp.lo (k := w13.heap.size) (by first | exact Nat.le_refl _ | simp))
  have HI_Z := Lib.hid hp.hi
  clear hp
  have hba : Below w14.heap.size w14 (w14.alloc (.cells #[.int .i64 X0, .int .i64 X1, .int .i64 X2, .int .i64 X3, .int .i64 X4, .slice A_Z N c_Z] 26)) := (Below.refl _ _).alloc (Nat.le_refl _) _
  replace BX_S := Lib.hid (LB_S.out.below BX_S.out hba)
  replace BX_G := Lib.hid (LB_G.out.below BX_G.out hba)
  replace R_a := Lib.hid (LR_a.out.below R_a.out hba)
  replace R_S := Lib.hid (LR_S.out.below R_S.out hba)
  replace W_S := Lib.hid (LW_S.out.below W_S.out hba)
  replace R_G := Lib.hid (LR_G.out.below R_G.out hba)
  replace R_Z := Lib.hid (LR_Z.out.below R_Z.out hba)
  replace W_Z := Lib.hid (LW_Z.out.below W_Z.out hba)
  replace HB := Lib.hid (HB.out.trans (hba.mono HB.out.size))
  have LB_Z := Lib.hid (box_loc (w14.heap.size) #[.int .i64 X0, .int .i64 X1, .int .i64 X2, .int .i64 X3, .int .i64 X4, .slice A_Z N c_Z] (by simp))
  have BX_Z := Lib.hid (show BoxAt (w14.heap.size) #[.int .i64 X0, .int .i64 X1, .int .i64 X2, .int .i64 X3, .int .i64 X4, .slice A_Z N c_Z] (w14.alloc (.cells #[.int .i64 X0, .int .i64 X1, .int .i64 X2, .int .i64 X3, .int .i64 X4, .slice A_Z N c_Z] 26)) from fun oo => cell_alloc_at (by simp) oo)
  clear hba
  have hx_S : ∀ oo, (w14.alloc (.cells #[.int .i64 X0, .int .i64 X1, .int .i64 X2, .int .i64 X3, .int .i64 X4, .slice A_Z N c_Z] 26)).cell? ⟨w3.heap.size, oo, none⟩ = (#[.int .i64 X0, .int .i64 X1, .int .i64 X2, .int .i64 X3, .int .i64 X4, .slice A_S N c_S] : Array Value)[oo]? := BX_S.out
  have hx_G : ∀ oo, (w14.alloc (.cells #[.int .i64 X0, .int .i64 X1, .int .i64 X2, .int .i64 X3, .int .i64 X4, .slice A_Z N c_Z] 26)).cell? ⟨w5.heap.size, oo, none⟩ = (#[.int .i64 X0, .int .i64 X1, .int .i64 X2, .int .i64 X3, .int .i64 X4, .slice A_G N c_G] : Array Value)[oo]? := BX_G.out
  have hx_Z : ∀ oo, (w14.alloc (.cells #[.int .i64 X0, .int .i64 X1, .int .i64 X2, .int .i64 X3, .int .i64 X4, .slice A_Z N c_Z] 26)).cell? ⟨w14.heap.size, oo, none⟩ = (#[.int .i64 X0, .int .i64 X1, .int .i64 X2, .int .i64 X3, .int .i64 X4, .slice A_Z N c_Z] : Array Value)[oo]? := BX_Z.out
  go_wp2_with fail
  refine (eqCosts_any X0 X1 X2 X3 X4 A_Z A_S N c_Z c_S F _ (R_Z.out) (R_S.out) (by omega)).mono ?_
  rintro e w15 ⟨he, hb⟩
  clear hx_S hx_G hx_Z
  obtain rfl : e = .returned (.bool true) := he
  have SZ_15 := Lib.hid (show w14.heap.size + 1 ≤ w15.heap.size from (by have := hb.size; first | omega | (simp at this; omega)))
  replace BX_S := Lib.hid (LB_S.out.below BX_S.out hb)
  replace BX_G := Lib.hid (LB_G.out.below BX_G.out hb)
  replace BX_Z := Lib.hid (LB_Z.out.below BX_Z.out hb)
  replace R_a := Lib.hid (LR_a.out.below R_a.out hb)
  replace R_S := Lib.hid (LR_S.out.below R_S.out hb)
  replace W_S := Lib.hid (LW_S.out.below W_S.out hb)
  replace R_G := Lib.hid (LR_G.out.below R_G.out hb)
  replace R_Z := Lib.hid (LR_Z.out.below R_Z.out hb)
  replace W_Z := Lib.hid (LW_Z.out.below W_Z.out hb)
  replace HB := Lib.hid (HB.out.trans (hb.mono HB.out.size))
  clear hb
  have hx_S : ∀ oo, w15.cell? ⟨w3.heap.size, oo, none⟩ = (#[.int .i64 X0, .int .i64 X1, .int .i64 X2, .int .i64 X3, .int .i64 X4, .slice A_S N c_S] : Array Value)[oo]? := BX_S.out
  have hx_G : ∀ oo, w15.cell? ⟨w5.heap.size, oo, none⟩ = (#[.int .i64 X0, .int .i64 X1, .int .i64 X2, .int .i64 X3, .int .i64 X4, .slice A_G N c_G] : Array Value)[oo]? := BX_G.out
  have hx_Z : ∀ oo, w15.cell? ⟨w14.heap.size, oo, none⟩ = (#[.int .i64 X0, .int .i64 X1, .int .i64 X2, .int .i64 X3, .int .i64 X4, .slice A_Z N c_Z] : Array Value)[oo]? := BX_Z.out
  go_wp2_with fail
  refine (heldCosts_any X0 X1 X2 X3 X4 A_G N c_G 1 _ (R_G.out) (by omega) (by omega) (by omega)).mono ?_
  rintro e w16 ⟨he, hb⟩
  clear hx_S hx_G hx_Z
  obtain rfl : e = .returned (.int .i64 (1 + (N : Int))) := he
  have SZ_16 := Lib.hid (show w15.heap.size ≤ w16.heap.size from (by have := hb.size; first | omega | (simp at this; omega)))
  replace BX_S := Lib.hid (LB_S.out.below BX_S.out hb)
  replace BX_G := Lib.hid (LB_G.out.below BX_G.out hb)
  replace BX_Z := Lib.hid (LB_Z.out.below BX_Z.out hb)
  replace R_a := Lib.hid (LR_a.out.below R_a.out hb)
  replace R_S := Lib.hid (LR_S.out.below R_S.out hb)
  replace W_S := Lib.hid (LW_S.out.below W_S.out hb)
  replace R_G := Lib.hid (LR_G.out.below R_G.out hb)
  replace R_Z := Lib.hid (LR_Z.out.below R_Z.out hb)
  replace W_Z := Lib.hid (LW_Z.out.below W_Z.out hb)
  replace HB := Lib.hid (HB.out.trans (hb.mono HB.out.size))
  clear hb
  have hx_S : ∀ oo, w16.cell? ⟨w3.heap.size, oo, none⟩ = (#[.int .i64 X0, .int .i64 X1, .int .i64 X2, .int .i64 X3, .int .i64 X4, .slice A_S N c_S] : Array Value)[oo]? := BX_S.out
  have hx_G : ∀ oo, w16.cell? ⟨w5.heap.size, oo, none⟩ = (#[.int .i64 X0, .int .i64 X1, .int .i64 X2, .int .i64 X3, .int .i64 X4, .slice A_G N c_G] : Array Value)[oo]? := BX_G.out
  have hx_Z : ∀ oo, w16.cell? ⟨w14.heap.size, oo, none⟩ = (#[.int .i64 X0, .int .i64 X1, .int .i64 X2, .int .i64 X3, .int .i64 X4, .slice A_Z N c_Z] : Array Value)[oo]? := BX_Z.out
  go_wp2_with fail
  go_ret
  exact ⟨rfl, HB.out⟩
end Go.Proofs.YtpmfkpehmckgmaaGreat
