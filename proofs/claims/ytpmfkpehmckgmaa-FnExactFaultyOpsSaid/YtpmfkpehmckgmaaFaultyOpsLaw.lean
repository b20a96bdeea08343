/- The walk of the law over FaultyOps, from the contracts: it returns true. No condition. (Printed by wip/law2.py.) -/
import Derived.Test.YtpmfkpehmckgmaaMachFj
import Derived.Test.YtpmfkpehmckgmaaOpCopy
import Derived.Test.YtpmfkpehmckgmaaOpLaw
import Derived.Test.YtpmfkpehmckgmaaObj2
import Derived.Deep.RegionHeld3
import Derived.Deep.RegionWith
namespace Go.Proofs.Ytpmfkpehmckgmaa
open Go.RowKit
set_option maxRecDepth 20000

theorem szOpL_any (A : Option Addr) (n c : Nat) (w : World) (hn : n ≤ maxLen) :
    Calls Try.prog 10 #[.slice A n c, .int .i64 1048576] w fun e w' => ∃ r : Int, (r < 0 ∨ n ≤ 1048576) ∧ e = .returned (.int .i64 r) ∧ Below w.heap.size w w' :=
  (szOpS_any A n c 1048576 w hn (by omega)).mono fun _ _ ⟨r, h, he, hw⟩ => ⟨r, h.imp_right (·.1), he, hw ▸ Below.refl _ _⟩
theorem toFaultF_any (k a : Int) (w : World) : Calls Try.prog 34 #[.agg #[.int .i64 k, .int .i64 a]] w fun e w' => e = .returned (.agg #[.int .i64 k, .int .i64 a]) ∧ Below w.heap.size w w' := by
  go_enter Try.func34, Try.ntmps34
  go_wp2
  refine bodyPost_ret (v := .agg #[.int .i64 k, .int .i64 a]) (by simp [results, Try.results34, go_sem]) rfl ⟨rfl, ?_⟩
  (repeat' first | with_reducible exact Below.refl _ _ | with_reducible refine Below.alloc ?_ ?_ _ | with_reducible refine Below.setCell ?_ ?_ _ | with_reducible refine Below.drew ?_ | with_reducible refine Below.drewN' ?_ _ | with_reducible (refine Below.trans ?_ (Below.mono (by assumption) ?_)) | exact Nat.le_refl _ | (simp; done) | (simp; omega) | omega)
theorem callY {W : World} {f : FuncId} {args : Array Value} {N N' : Nat} {C C' : Int} {F F' : Nat → Int} (hN : N = N') (hC : C = C') (hF : F = F') (h : Calls Try.prog f args W (NewP2 W N' (N' * 8) (fun j => .int .i64 (F' j)) C')) : Calls Try.prog f args W (NewP2 W N (N * 8) (fun j => .int .i64 (F j)) C) := by
  subst hN hC hF
  exact h
set_option maxHeartbeats 2000000 in
theorem lawFaultyOps_walk (W : Int) (A : Option Addr) (n c : Nat) (z : Nat → Int) (ff fx : Int) (w : World) (ha : Rd w A (n * 8) (fun j => .int .i64 (z j))) (hn0 : n ≤ maxLen) :
    Calls Try.prog 9 #[.int .i64 W, .slice A n c, .agg #[.int .i64 ff, .int .i64 fx]] w fun e w' => e = .returned (.bool true) ∧ Below w.heap.size w w' := by
  obtain ⟨N, hN⟩ : ∃ x, x = fyN W z n ff fx := ⟨_, rfl⟩
  obtain ⟨C, hC⟩ : ∃ x, x = fyC W z n ff fx := ⟨_, rfl⟩
  obtain ⟨F, hF⟩ : ∃ x : Nat → Int, x = fun j => (fyL W z n ff fx).getD j 0 := ⟨_, rfl⟩
  have hpn := fyN_le W z n ff fx
  rw [← hN] at hpn
  have HN := Lib.hid hN
  have HC := Lib.hid hC
  have HF := Lib.hid hF
  clear hN hC hF
  have HB := Lib.hid (Below.refl w.heap.size w)
  have R_a := Lib.hid ha
  have LR_a := Lib.hid (rd_obj A (n * 8) (fun j => .int .i64 (z j)))
  have HI_a := Lib.hid (LR_a.out.2 w · R_a.out)
  clear ha
  go_enter Try.func9, Try.ntmps9
  have hba : Below w.heap.size w (w.alloc (.cells #[.int .i64 ff, .int .i64 fx] 49)) := (Below.refl _ _).alloc (Nat.le_refl _) _
  replace R_a := Lib.hid (LR_a.out.below R_a.out hba)
  replace HB := Lib.hid (HB.out.trans (hba.mono HB.out.size))
  have LB_a0 := Lib.hid (box_loc (w.heap.size) #[.int .i64 ff, .int .i64 fx] (by simp))
  have BX_a0 := Lib.hid (show BoxAt (w.heap.size) #[.int .i64 ff, .int .i64 fx] (w.alloc (.cells #[.int .i64 ff, .int .i64 fx] 49)) from fun oo => cell_alloc_at (by simp) oo)
  clear hba
  have hx_a0 : ∀ oo, (w.alloc (.cells #[.int .i64 ff, .int .i64 fx] 49)).cell? ⟨w.heap.size, oo, none⟩ = (#[.int .i64 ff, .int .i64 fx] : Array Value)[oo]? := BX_a0.out
  go_wp2_with fail
  refine (szOpL_any A n c _ hn0).mono ?_
  rintro e w1 ⟨r1, hr, rfl, hb⟩
  clear hx_a0
  have SZ_1 := Lib.hid (show w.heap.size + 1 ≤ w1.heap.size from (by have := hb.size; first | omega | (simp at this; omega)))
  replace BX_a0 := Lib.hid (LB_a0.out.below BX_a0.out hb)
  replace R_a := Lib.hid (LR_a.out.below R_a.out hb)
  replace HB := Lib.hid (HB.out.trans (hb.mono HB.out.size))
  clear hb
  by_cases hr0 : r1 < 0
  · go_wp2_with fail
    go_ret
    exact ⟨rfl, HB.out⟩
  have hsm := hr.resolve_left hr0
  clear hr
  have hn : n ≤ 1048576 := by omega
  have hx_a0 : ∀ oo, w1.cell? ⟨w.heap.size, oo, none⟩ = (#[.int .i64 ff, .int .i64 fx] : Array Value)[oo]? := BX_a0.out
  go_wp2_with fail
  go_region_held3 (fun w' => (∀ oo, w'.cell? ⟨w.heap.size, oo, none⟩ = (#[.int .i64 ff, .int .i64 fx] : Array Value)[oo]?)) (go_keep)
    (first
      | (go_at_call 12; refine (toOpSn_any A n c z _ (LR_a.out.drewN R_a.out 1) hn).mono ?_; rintro e w2 ⟨A_t1, c_t1, rfl, hcap_t1, HQ2⟩; have HP2 := HQ2.obj; have kx2_a0 : ∀ oo, w2.cell? ⟨w.heap.size, oo, none⟩ = (#[.int .i64 ff, .int .i64 fx] : Array Value)[oo]? := LB_a0.out.below (LB_a0.out.drewN BX_a0.out 1) HP2.bl)
      | (go_at_call 34; refine (toFaultF_any ff fx _).mono ?_; rintro e w3 ⟨rfl, HP3⟩; have kx3_a0 : ∀ oo, w3.cell? ⟨w.heap.size, oo, none⟩ = (#[.int .i64 ff, .int .i64 fx] : Array Value)[oo]? := LB_a0.out.below (LB_a0.out.below (LB_a0.out.drewN BX_a0.out 1) HP2.bl) HP3)
      | (go_at_call 33; refine (callY HN.out HC.out HF.out (specFaultyOps_any W A_t1 n c_t1 z ff fx _ (HP2.or.below HP2.r HP3) hn)).mono ?_; rintro e w4 ⟨A_S, c_S, rfl, HQ4⟩; have HP4 := HQ4.obj; have kx4_a0 : ∀ oo, w4.cell? ⟨w.heap.size, oo, none⟩ = (#[.int .i64 ff, .int .i64 fx] : Array Value)[oo]? := LB_a0.out.below (LB_a0.out.below (LB_a0.out.below (LB_a0.out.drewN BX_a0.out 1) HP2.bl) HP3) HP4.bl))
  rename_i hHeld
  clear hHeld
  clear hx_a0
  replace BX_a0 := Lib.hid (LB_a0.out.drewN BX_a0.out 1)
  replace R_a := Lib.hid (LR_a.out.drewN R_a.out 1)
  replace HB := Lib.hid (Below.drewN' HB.out 1)
  have SZ_2 := Lib.hid (show w1.heap.size ≤ w2.heap.size from (by have := HP2.bl.size; first | omega | (simp at this; omega)))
  replace BX_a0 := Lib.hid (LB_a0.out.below BX_a0.out HP2.bl)
  replace R_a := Lib.hid (LR_a.out.below R_a.out HP2.bl)
  replace HB := Lib.hid (HB.out.trans (HP2.bl.mono HB.out.size))
  have R_t1 := Lib.hid HP2.r
  have W_t1 := Lib.hid HP2.w
  have LR_t1 := Lib.hid HP2.or
  have LW_t1 := Lib.hid HP2.ow
  have LO_t1 := Lib.hid (HP2.lo (k := w1.heap.size) (by first | exact Nat.le_refl _ | simp))
  have HI_t1 := Lib.hid HP2.hi
  clear HP2 HQ2
  clear kx2_a0
  have SZ_3 := Lib.hid (show w2.heap.size ≤ w3.heap.size from (by have := HP3.size; first | omega | (simp at this; omega)))
  replace BX_a0 := Lib.hid (LB_a0.out.below BX_a0.out HP3)
  replace R_a := Lib.hid (LR_a.out.below R_a.out HP3)
  replace R_t1 := Lib.hid (LR_t1.out.below R_t1.out HP3)
  replace W_t1 := Lib.hid (LW_t1.out.below W_t1.out HP3)
  replace HB := Lib.hid (HB.out.trans (HP3.mono HB.out.size))
  clear HP3
  clear kx3_a0
  have SZ_4 := Lib.hid (show w3.heap.size ≤ w4.heap.size from (by have := HP4.bl.size; first | omega | (simp at this; omega)))
  replace BX_a0 := Lib.hid (LB_a0.out.below BX_a0.out HP4.bl)
  replace R_a := Lib.hid (LR_a.out.below R_a.out HP4.bl)
  replace R_t1 := Lib.hid (LR_t1.out.below R_t1.out HP4.bl)
  replace W_t1 := Lib.hid (LW_t1.out.below W_t1.out HP4.bl)
  replace HB := Lib.hid (HB.out.trans (HP4.bl.mono HB.out.size))
  have R_S := Lib.hid HP4.r
  have W_S := Lib.hid HP4.w
  have LR_S := Lib.hid HP4.or
  have LW_S := Lib.hid HP4.ow
  have LO_S := Lib.hid (HP4.lo (k := w3.heap.size) (by first | exact Nat.le_refl _ | simp))
  have HI_S := Lib.hid HP4.hi
  clear HP4 HQ4
  clear kx4_a0
  have hx_a0 : ∀ oo, w4.cell? ⟨w.heap.size, oo, none⟩ = (#[.int .i64 ff, .int .i64 fx] : Array Value)[oo]? := BX_a0.out
  go_wp2_with fail
  refine (toOpSn_any A n c z _ (R_a.out) hn).mono ?_
  rintro e w5 ⟨A_x, c_x, rfl, hcap_x, hp0⟩
  clear hx_a0
  have hp := hp0.obj
  clear hp0
  have SZ_5 := Lib.hid (show w4.heap.size ≤ w5.heap.size from (by have := hp.bl.size; first | omega | (simp at this; omega)))
  replace BX_a0 := Lib.hid (LB_a0.out.below BX_a0.out hp.bl)
  replace R_a := Lib.hid (LR_a.out.below R_a.out hp.bl)
  replace R_S := Lib.hid (LR_S.out.below R_S.out hp.bl)
  replace W_S := Lib.hid (LW_S.out.below W_S.out hp.bl)
  replace HB := Lib.hid (HB.out.trans (hp.bl.mono HB.out.size))
  have R_x := Lib.hid hp.r
  have W_x := Lib.hid hp.w
  have LR_x := Lib.hid hp.or
  have LW_x := Lib.hid hp.ow
  have LO_x := Lib.hid (hp.lo (k := w4.heap.size) (by first | exact Nat.le_refl _ | simp))
  have HI_x := Lib.hid hp.hi
  clear hp
  have hx_a0 : ∀ oo, w5.cell? ⟨w.heap.size, oo, none⟩ = (#[.int .i64 ff, .int .i64 fx] : Array Value)[oo]? := BX_a0.out
  go_wp2_with fail
  refine (toFaultF_any ff fx _).mono ?_
  rintro e w6 ⟨he, hb⟩
  clear hx_a0
  obtain rfl : e = .returned (.agg #[.int .i64 ff, .int .i64 fx]) := he
  have SZ_6 := Lib.hid (show w5.heap.size ≤ w6.heap.size from (by have := hb.size; first | omega | (simp at this; omega)))
  replace BX_a0 := Lib.hid (LB_a0.out.below BX_a0.out hb)
  replace R_a := Lib.hid (LR_a.out.below R_a.out hb)
  replace R_S := Lib.hid (LR_S.out.below R_S.out hb)
  replace W_S := Lib.hid (LW_S.out.below W_S.out hb)
  replace R_x := Lib.hid (LR_x.out.below R_x.out hb)
  replace W_x := Lib.hid (LW_x.out.below W_x.out hb)
  replace HB := Lib.hid (HB.out.trans (hb.mono HB.out.size))
  clear hb
  have hx_a0 : ∀ oo, w6.cell? ⟨w.heap.size, oo, none⟩ = (#[.int .i64 ff, .int .i64 fx] : Array Value)[oo]? := BX_a0.out
  go_wp2_with fail
  refine (callY HN.out HC.out HF.out (implFaultyOps_any W A_x n c_x z ff fx _ (R_x.out) hn hcap_x)).mono ?_
  rintro e w7 ⟨A_G, c_G, rfl, hp0⟩
  clear hx_a0
  have hp := hp0.obj
  clear hp0
  have SZ_7 := Lib.hid (show w6.heap.size ≤ w7.heap.size from (by have := hp.bl.size; first | omega | (simp at this; omega)))
  replace BX_a0 := Lib.hid (LB_a0.out.below BX_a0.out hp.bl)
  replace R_a := Lib.hid (LR_a.out.below R_a.out hp.bl)
  replace R_S := Lib.hid (LR_S.out.below R_S.out hp.bl)
  replace W_S := Lib.hid (LW_S.out.below W_S.out hp.bl)
  replace R_x := Lib.hid (LR_x.out.below R_x.out hp.bl)
  replace W_x := Lib.hid (LW_x.out.below W_x.out hp.bl)
  replace HB := Lib.hid (HB.out.trans (hp.bl.mono HB.out.size))
  have R_G := Lib.hid hp.r
  have W_G := Lib.hid hp.w
  have LR_G := Lib.hid hp.or
  have LW_G := Lib.hid hp.ow
  have LO_G := Lib.hid (hp.lo (k := w6.heap.size) (by first | exact Nat.le_refl _ | simp))
  have HI_G := Lib.hid hp.hi
  clear hp
  have hx_a0 : ∀ oo, w7.cell? ⟨w.heap.size, oo, none⟩ = (#[.int .i64 ff, .int .i64 fx] : Array Value)[oo]? := BX_a0.out
  go_wp2_with fail
  refine (eqOpS_any A_G A_S N c_G c_S F _ (R_G.out) (R_S.out) (by omega)).mono ?_
  rintro e w8 ⟨he, hb⟩
  clear hx_a0
  obtain rfl : e = .returned (.bool true) := he
  have SZ_8 := Lib.hid (show w7.heap.size ≤ w8.heap.size from (by have := hb.size; first | omega | (simp at this; omega)))
  replace BX_a0 := Lib.hid (LB_a0.out.below BX_a0.out hb)
  replace R_a := Lib.hid (LR_a.out.below R_a.out hb)
  replace R_S := Lib.hid (LR_S.out.below R_S.out hb)
  replace W_S := Lib.hid (LW_S.out.below W_S.out hb)
  replace R_x := Lib.hid (LR_x.out.below R_x.out hb)
  replace W_x := Lib.hid (LW_x.out.below W_x.out hb)
  replace R_G := Lib.hid (LR_G.out.below R_G.out hb)
  replace W_G := Lib.hid (LW_G.out.below W_G.out hb)
  replace HB := Lib.hid (HB.out.trans (hb.mono HB.out.size))
  clear hb
  have hx_a0 : ∀ oo, w8.cell? ⟨w.heap.size, oo, none⟩ = (#[.int .i64 ff, .int .i64 fx] : Array Value)[oo]? := BX_a0.out
  go_wp2_with fail
  refine (toOpS_any A n c z _ (R_a.out) hn).mono ?_
  rintro e w9 ⟨A_t2, c_t2, rfl, hp0⟩
  clear hx_a0
  have hp := hp0.obj
  clear hp0
  have SZ_9 := Lib.hid (show w8.heap.size ≤ w9.heap.size from (by have := hp.bl.size; first | omega | (simp at this; omega)))
  replace BX_a0 := Lib.hid (LB_a0.out.below BX_a0.out hp.bl)
  replace R_a := Lib.hid (LR_a.out.below R_a.out hp.bl)
  replace R_S := Lib.hid (LR_S.out.below R_S.out hp.bl)
  replace W_S := Lib.hid (LW_S.out.below W_S.out hp.bl)
  replace R_x := Lib.hid (LR_x.out.below R_x.out hp.bl)
  replace W_x := Lib.hid (LW_x.out.below W_x.out hp.bl)
  replace R_G := Lib.hid (LR_G.out.below R_G.out hp.bl)
  replace W_G := Lib.hid (LW_G.out.below W_G.out hp.bl)
  replace HB := Lib.hid (HB.out.trans (hp.bl.mono HB.out.size))
  have R_t2 := Lib.hid hp.r
  have W_t2 := Lib.hid hp.w
  have LR_t2 := Lib.hid hp.or
  have LW_t2 := Lib.hid hp.ow
  have LO_t2 := Lib.hid (hp.lo (k := w8.heap.size) (by first | exact Nat.le_refl _ | simp))
  have HI_t2 := Lib.hid hp.hi
  clear hp
  have hx_a0 : ∀ oo, w9.cell? ⟨w.heap.size, oo, none⟩ = (#[.int .i64 ff, .int .i64 fx] : Array Value)[oo]? := BX_a0.out
  go_wp2_with fail
  refine (eqOpS_any A_x A_t2 n c_x c_t2 z _ (R_x.out) (R_t2.out) (by omega)).mono ?_
  rintro e w10 ⟨he, hb⟩
  clear hx_a0
  obtain rfl : e = .returned (.bool true) := he
  have SZ_10 := Lib.hid (show w9.heap.size ≤ w10.heap.size from (by have := hb.size; first | omega | (simp at this; omega)))
  replace BX_a0 := Lib.hid (LB_a0.out.below BX_a0.out hb)
  replace R_a := Lib.hid (LR_a.out.below R_a.out hb)
  replace R_S := Lib.hid (LR_S.out.below R_S.out hb)
  replace W_S := Lib.hid (LW_S.out.below W_S.out hb)
  replace R_x := Lib.hid (LR_x.out.below R_x.out hb)
  replace W_x := Lib.hid (LW_x.out.below W_x.out hb)
  replace R_G := Lib.hid (LR_G.out.below R_G.out hb)
  replace W_G := Lib.hid (LW_G.out.below W_G.out hb)
  replace R_t2 := Lib.hid (LR_t2.out.below R_t2.out hb)
  replace W_t2 := Lib.hid (LW_t2.out.below W_t2.out hb)
  replace HB := Lib.hid (HB.out.trans (hb.mono HB.out.size))
  clear hb
  have hx_a0 : ∀ oo, w10.cell? ⟨w.heap.size, oo, none⟩ = (#[.int .i64 ff, .int .i64 fx] : Array Value)[oo]? := BX_a0.out
  go_wp2_with fail
  refine (markOpS_any A_x n c_x 1 _ (W_x.out) (by omega) (by omega) (by omega)).mono ?_
  intro e w11 hm0
  clear hx_a0
  have hm := hm0.obj W_x.out
  clear hm0
  obtain rfl : e = .returned (.int .i64 (1 + (n : Int) * 8)) := hm.ret
  have SZ_11 := Lib.hid (show w10.heap.size ≤ w11.heap.size from (by have := hm.fr.size; first | omega | (simp at this; omega)))
  replace BX_a0 := Lib.hid (LB_a0.out.fr BX_a0.out hm.fr (fun b h1 h2 => by have h3 : b = w.heap.size := h1; have := LO_x.out b h2; have := HI_x.out b h2; have := SZ_1.out; have := SZ_2.out; have := SZ_3.out; have := SZ_4.out; have := SZ_5.out; have := SZ_6.out; have := SZ_7.out; have := SZ_8.out; have := SZ_9.out; have := SZ_10.out; have := SZ_11.out; omega))
  replace R_a := Lib.hid (LR_a.out.fr R_a.out hm.fr (fun b h1 h2 => by have := LO_x.out b h2; have := HI_x.out b h2; have := HI_a.out b h1; have := SZ_1.out; have := SZ_2.out; have := SZ_3.out; have := SZ_4.out; have := SZ_5.out; have := SZ_6.out; have := SZ_7.out; have := SZ_8.out; have := SZ_9.out; have := SZ_10.out; have := SZ_11.out; omega))
  replace R_S := Lib.hid (LR_S.out.fr R_S.out hm.fr (fun b h1 h2 => by have := LO_x.out b h2; have := HI_x.out b h2; have := HI_S.out b h1; have := LO_S.out b h1; have := SZ_1.out; have := SZ_2.out; have := SZ_3.out; have := SZ_4.out; have := SZ_5.out; have := SZ_6.out; have := SZ_7.out; have := SZ_8.out; have := SZ_9.out; have := SZ_10.out; have := SZ_11.out; omega))
  replace W_S := Lib.hid (LW_S.out.fr W_S.out hm.fr (fun b h1 h2 => by have := LO_x.out b h2; have := HI_x.out b h2; have := HI_S.out b h1; have := LO_S.out b h1; have := SZ_1.out; have := SZ_2.out; have := SZ_3.out; have := SZ_4.out; have := SZ_5.out; have := SZ_6.out; have := SZ_7.out; have := SZ_8.out; have := SZ_9.out; have := SZ_10.out; have := SZ_11.out; omega))
  replace R_G := Lib.hid (LR_G.out.fr R_G.out hm.fr (fun b h1 h2 => by have := LO_x.out b h2; have := HI_x.out b h2; have := HI_G.out b h1; have := LO_G.out b h1; have := SZ_1.out; have := SZ_2.out; have := SZ_3.out; have := SZ_4.out; have := SZ_5.out; have := SZ_6.out; have := SZ_7.out; have := SZ_8.out; have := SZ_9.out; have := SZ_10.out; have := SZ_11.out; omega))
  replace W_G := Lib.hid (LW_G.out.fr W_G.out hm.fr (fun b h1 h2 => by have := LO_x.out b h2; have := HI_x.out b h2; have := HI_G.out b h1; have := LO_G.out b h1; have := SZ_1.out; have := SZ_2.out; have := SZ_3.out; have := SZ_4.out; have := SZ_5.out; have := SZ_6.out; have := SZ_7.out; have := SZ_8.out; have := SZ_9.out; have := SZ_10.out; have := SZ_11.out; omega))
  replace HB := Lib.hid (HB.out.trans (hm.fr.below HB.out.size fun b h2 => by have := LO_x.out b h2; have := SZ_1.out; have := SZ_2.out; have := SZ_3.out; have := SZ_4.out; have := SZ_5.out; have := SZ_6.out; have := SZ_7.out; have := SZ_8.out; have := SZ_9.out; have := SZ_10.out; have := SZ_11.out; omega))
  replace R_x := Lib.hid hm.m
  replace LR_x := Lib.hid hm.om
  clear W_x LW_x hm
  have hx_a0 : ∀ oo, w11.cell? ⟨w.heap.size, oo, none⟩ = (#[.int .i64 ff, .int .i64 fx] : Array Value)[oo]? := BX_a0.out
  go_wp2_with fail
  refine (eqOpS_any A_G A_S N c_G c_S F _ (R_G.out) (R_S.out) (by omega)).mono ?_
  rintro e w12 ⟨he, hb⟩
  clear hx_a0
  obtain rfl : e = .returned (.bool true) := he
  have SZ_12 := Lib.hid (show w11.heap.size ≤ w12.heap.size from (by have := hb.size; first | omega | (simp at this; omega)))
  replace BX_a0 := Lib.hid (LB_a0.out.below BX_a0.out hb)
  replace R_a := Lib.hid (LR_a.out.below R_a.out hb)
  replace R_S := Lib.hid (LR_S.out.below R_S.out hb)
  replace W_S := Lib.hid (LW_S.out.below W_S.out hb)
  replace R_G := Lib.hid (LR_G.out.below R_G.out hb)
  replace W_G := Lib.hid (LW_G.out.below W_G.out hb)
  replace HB := Lib.hid (HB.out.trans (hb.mono HB.out.size))
  clear hb
  have hx_a0 : ∀ oo, w12.cell? ⟨w.heap.size, oo, none⟩ = (#[.int .i64 ff, .int .i64 fx] : Array Value)[oo]? := BX_a0.out
  go_wp2_with fail
  refine (markOpS_any A_G N c_G 1 _ (W_G.out) (by omega) (by omega) (by omega)).mono ?_
  intro e w13 hm0
  clear hx_a0
  have hm := hm0.obj W_G.out
  clear hm0
  obtain rfl : e = .returned (.int .i64 (1 + (N : Int) * 8)) := hm.ret
  have SZ_13 := Lib.hid (show w12.heap.size ≤ w13.heap.size from (by have := hm.fr.size; first | omega | (simp at this; omega)))
  replace BX_a0 := Lib.hid (LB_a0.out.fr BX_a0.out hm.fr (fun b h1 h2 => by have h3 : b = w.heap.size := h1; have := LO_G.out b h2; have := HI_G.out b h2; have := SZ_1.out; have := SZ_2.out; have := SZ_3.out; have := SZ_4.out; have := SZ_5.out; have := SZ_6.out; have := SZ_7.out; have := SZ_8.out; have := SZ_9.out; have := SZ_10.out; have := SZ_11.out; have := SZ_12.out; have := SZ_13.out; omega))
  replace R_a := Lib.hid (LR_a.out.fr R_a.out hm.fr (fun b h1 h2 => by have := LO_G.out b h2; have := HI_G.out b h2; have := HI_a.out b h1; have := SZ_1.out; have := SZ_2.out; have := SZ_3.out; have := SZ_4.out; have := SZ_5.out; have := SZ_6.out; have := SZ_7.out; have := SZ_8.out; have := SZ_9.out; have := SZ_10.out; have := SZ_11.out; have := SZ_12.out; have := SZ_13.out; omega))
  replace R_S := Lib.hid (LR_S.out.fr R_S.out hm.fr (fun b h1 h2 => by have := LO_G.out b h2; have := HI_G.out b h2; have := HI_S.out b h1; have := LO_S.out b h1; have := SZ_1.out; have := SZ_2.out; have := SZ_3.out; have := SZ_4.out; have := SZ_5.out; have := SZ_6.out; have := SZ_7.out; have := SZ_8.out; have := SZ_9.out; have := SZ_10.out; have := SZ_11.out; have := SZ_12.out; have := SZ_13.out; omega))
  replace W_S := Lib.hid (LW_S.out.fr W_S.out hm.fr (fun b h1 h2 => by have := LO_G.out b h2; have := HI_G.out b h2; have := HI_S.out b h1; have := LO_S.out b h1; have := SZ_1.out; have := SZ_2.out; have := SZ_3.out; have := SZ_4.out; have := SZ_5.out; have := SZ_6.out; have := SZ_7.out; have := SZ_8.out; have := SZ_9.out; have := SZ_10.out; have := SZ_11.out; have := SZ_12.out; have := SZ_13.out; omega))
  replace HB := Lib.hid (HB.out.trans (hm.fr.below HB.out.size fun b h2 => by have := LO_G.out b h2; have := SZ_1.out; have := SZ_2.out; have := SZ_3.out; have := SZ_4.out; have := SZ_5.out; have := SZ_6.out; have := SZ_7.out; have := SZ_8.out; have := SZ_9.out; have := SZ_10.out; have := SZ_11.out; have := SZ_12.out; have := SZ_13.out; omega))
  replace R_G := Lib.hid hm.m
  replace LR_G := Lib.hid hm.om
  clear W_G LW_G hm
  have hx_a0 : ∀ oo, w13.cell? ⟨w.heap.size, oo, none⟩ = (#[.int .i64 ff, .int .i64 fx] : Array Value)[oo]? := BX_a0.out
  go_wp2_with fail
  refine (heldOpS_any A_G N c_G 1 _ (R_G.out) (by omega) (by omega) (by omega)).mono ?_
  rintro e w14 ⟨he, hb⟩
  clear hx_a0
  obtain rfl : e = .returned (.int .i64 (1 + (N : Int) * 8)) := he
  have SZ_14 := Lib.hid (show w13.heap.size ≤ w14.heap.size from (by have := hb.size; first | omega | (simp at this; omega)))
  replace BX_a0 := Lib.hid (LB_a0.out.below BX_a0.out hb)
  replace R_a := Lib.hid (LR_a.out.below R_a.out hb)
  replace R_S := Lib.hid (LR_S.out.below R_S.out hb)
  replace W_S := Lib.hid (LW_S.out.below W_S.out hb)
  replace R_G := Lib.hid (LR_G.out.below R_G.out hb)
  replace HB := Lib.hid (HB.out.trans (hb.mono HB.out.size))
  clear hb
  have hx_a0 : ∀ oo, w14.cell? ⟨w.heap.size, oo, none⟩ = (#[.int .i64 ff, .int .i64 fx] : Array Value)[oo]? := BX_a0.out
  go_wp2_with fail
  go_region_held3 (fun w' => (∀ oo, w'.cell? ⟨w.heap.size, oo, none⟩ = (#[.int .i64 ff, .int .i64 fx] : Array Value)[oo]?)) (go_keep)
    (first
      | (go_at_call 12; refine (toOpSn_any A n c z _ (LR_a.out.drewN R_a.out 1) hn).mono ?_; rintro e w15 ⟨A_t3, c_t3, rfl, hcap_t3, HQ15⟩; have HP15 := HQ15.obj; have kx15_a0 : ∀ oo, w15.cell? ⟨w.heap.size, oo, none⟩ = (#[.int .i64 ff, .int .i64 fx] : Array Value)[oo]? := LB_a0.out.below (LB_a0.out.drewN BX_a0.out 1) HP15.bl)
      | (go_at_call 34; refine (toFaultF_any ff fx _).mono ?_; rintro e w16 ⟨rfl, HP16⟩; have kx16_a0 : ∀ oo, w16.cell? ⟨w.heap.size, oo, none⟩ = (#[.int .i64 ff, .int .i64 fx] : Array Value)[oo]? := LB_a0.out.below (LB_a0.out.below (LB_a0.out.drewN BX_a0.out 1) HP15.bl) HP16)
      | (go_at_call 35; refine (callY HN.out HC.out HF.out (implFaultyOps_any W A_t3 n c_t3 z ff fx _ (HP15.or.below HP15.r HP16) hn hcap_t3)).mono ?_; rintro e w17 ⟨A_Z, c_Z, rfl, HQ17⟩; have HP17 := HQ17.obj; have kx17_a0 : ∀ oo, w17.cell? ⟨w.heap.size, oo, none⟩ = (#[.int .i64 ff, .int .i64 fx] : Array Value)[oo]? := LB_a0.out.below (LB_a0.out.below (LB_a0.out.below (LB_a0.out.drewN BX_a0.out 1) HP15.bl) HP16) HP17.bl))
  rename_i hHeld
  clear hHeld
  clear hx_a0
  replace BX_a0 := Lib.hid (LB_a0.out.drewN BX_a0.out 1)
  replace R_a := Lib.hid (LR_a.out.drewN R_a.out 1)
  replace R_S := Lib.hid (LR_S.out.drewN R_S.out 1)
  replace W_S := Lib.hid (LW_S.out.drewN W_S.out 1)
  replace R_G := Lib.hid (LR_G.out.drewN R_G.out 1)
  replace HB := Lib.hid (Below.drewN' HB.out 1)
  have SZ_15 := Lib.hid (show w14.heap.size ≤ w15.heap.size from (by have := HP15.bl.size; first | omega | (simp at this; omega)))
  replace BX_a0 := Lib.hid (LB_a0.out.below BX_a0.out HP15.bl)
  replace R_a := Lib.hid (LR_a.out.below R_a.out HP15.bl)
  replace R_S := Lib.hid (LR_S.out.below R_S.out HP15.bl)
  replace W_S := Lib.hid (LW_S.out.below W_S.out HP15.bl)
  replace R_G := Lib.hid (LR_G.out.below R_G.out HP15.bl)
  replace HB := Lib.hid (HB.out.trans (HP15.bl.mono HB.out.size))
  have R_t3 := Lib.hid HP15.r
  have W_t3 := Lib.hid HP15.w
  have LR_t3 := Lib.hid HP15.or
  have LW_t3 := Lib.hid HP15.ow
  have LO_t3 := Lib.hid (HP15.lo (k := w14.heap.size) (by first | exact Nat.le_refl _ | simp))
  have HI_t3 := Lib.hid HP15.hi
  clear HP15 HQ15
  clear kx15_a0
  have SZ_16 := Lib.hid (show w15.heap.size ≤ w16.heap.size from (by have := HP16.size; first | omega | (simp at this; omega)))
  replace BX_a0 := Lib.hid (LB_a0.out.below BX_a0.out HP16)
  replace R_a := Lib.hid (LR_a.out.below R_a.out HP16)
  replace R_S := Lib.hid (LR_S.out.below R_S.out HP16)
  replace W_S := Lib.hid (LW_S.out.below W_S.out HP16)
  replace R_G := Lib.hid (LR_G.out.below R_G.out HP16)
  replace R_t3 := Lib.hid (LR_t3.out.below R_t3.out HP16)
  replace W_t3 := Lib.hid (LW_t3.out.below W_t3.out HP16)
  replace HB := Lib.hid (HB.out.trans (HP16.mono HB.out.size))
  clear HP16
  clear kx16_a0
  have SZ_17 := Lib.hid (show w16.heap.size ≤ w17.heap.size from (by have := HP17.bl.size; first | omega | (simp at this; omega)))
  replace BX_a0 := Lib.hid (LB_a0.out.below BX_a0.out HP17.bl)
  replace R_a := Lib.hid (LR_a.out.below R_a.out HP17.bl)
  replace R_S := Lib.hid (LR_S.out.below R_S.out HP17.bl)
  replace W_S := Lib.hid (LW_S.out.below W_S.out HP17.bl)
  replace R_G := Lib.hid (LR_G.out.below R_G.out HP17.bl)
  replace R_t3 := Lib.hid (LR_t3.out.below R_t3.out HP17.bl)
  replace W_t3 := Lib.hid (LW_t3.out.below W_t3.out HP17.bl)
  replace HB := Lib.hid (HB.out.trans (HP17.bl.mono HB.out.size))
  have R_Z := Lib.hid HP17.r
  have W_Z := Lib.hid HP17.w
  have LR_Z := Lib.hid HP17.or
  have LW_Z := Lib.hid HP17.ow
  have LO_Z := Lib.hid (HP17.lo (k := w16.heap.size) (by first | exact Nat.le_refl _ | simp))
  have HI_Z := Lib.hid HP17.hi
  clear HP17 HQ17
  clear kx17_a0
  have hx_a0 : ∀ oo, w17.cell? ⟨w.heap.size, oo, none⟩ = (#[.int .i64 ff, .int .i64 fx] : Array Value)[oo]? := BX_a0.out
  go_wp2_with fail
  refine (eqOpS_any A_Z A_S N c_Z c_S F _ (R_Z.out) (R_S.out) (by omega)).mono ?_
  rintro e w18 ⟨he, hb⟩
  clear hx_a0
  obtain rfl : e = .returned (.bool true) := he
  have SZ_18 := Lib.hid (show w17.heap.size ≤ w18.heap.size from (by have := hb.size; first | omega | (simp at this; omega)))
  replace BX_a0 := Lib.hid (LB_a0.out.below BX_a0.out hb)
  replace R_a := Lib.hid (LR_a.out.below R_a.out hb)
  replace R_S := Lib.hid (LR_S.out.below R_S.out hb)
  replace W_S := Lib.hid (LW_S.out.below W_S.out hb)
  replace R_G := Lib.hid (LR_G.out.below R_G.out hb)
  replace R_Z := Lib.hid (LR_Z.out.below R_Z.out hb)
  replace W_Z := Lib.hid (LW_Z.out.below W_Z.out hb)
  replace HB := Lib.hid (HB.out.trans (hb.mono HB.out.size))
  clear hb
  have hx_a0 : ∀ oo, w18.cell? ⟨w.heap.size, oo, none⟩ = (#[.int .i64 ff, .int .i64 fx] : Array Value)[oo]? := BX_a0.out
  go_wp2_with fail
  refine (heldOpS_any A_G N c_G 1 _ (R_G.out) (by omega) (by omega) (by omega)).mono ?_
  rintro e w19 ⟨he, hb⟩
  clear hx_a0
  obtain rfl : e = .returned (.int .i64 (1 + (N : Int) * 8)) := he
  have SZ_19 := Lib.hid (show w18.heap.size ≤ w19.heap.size from (by have := hb.size; first | omega | (simp at this; omega)))
  replace BX_a0 := Lib.hid (LB_a0.out.below BX_a0.out hb)
  replace R_a := Lib.hid (LR_a.out.below R_a.out hb)
  replace R_S := Lib.hid (LR_S.out.below R_S.out hb)
  replace W_S := Lib.hid (LW_S.out.below W_S.out hb)
  replace R_G := Lib.hid (LR_G.out.below R_G.out hb)
  replace R_Z := Lib.hid (LR_Z.out.below R_Z.out hb)
  replace W_Z := Lib.hid (LW_Z.out.below W_Z.out hb)
  replace HB := Lib.hid (HB.out.trans (hb.mono HB.out.size))
  clear hb
  have hx_a0 : ∀ oo, w19.cell? ⟨w.heap.size, oo, none⟩ = (#[.int .i64 ff, .int .i64 fx] : Array Value)[oo]? := BX_a0.out
  go_wp2_with fail
  go_ret
  exact ⟨rfl, HB.out⟩
end Go.Proofs.Ytpmfkpehmckgmaa
