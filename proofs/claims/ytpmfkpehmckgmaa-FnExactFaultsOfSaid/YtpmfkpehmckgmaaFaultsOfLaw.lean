/- The walk of the law over FaultsOf, from the contracts: it returns true. No condition. (Printed by wip/law2.py.) -/
import Derived.Test.YtpmfkpehmckgmaaMachFp
import Derived.Test.YtpmfkpehmckgmaaOpCopy
import Derived.Test.YtpmfkpehmckgmaaOpLaw
import Derived.Test.YtpmfkpehmckgmaaFaultLaw
import Derived.Test.YtpmfkpehmckgmaaObj2
import Derived.Deep.RegionHeld3
import Derived.Deep.RegionWith
namespace Go.Proofs.Ytpmfkpehmckgmaa
open Go.RowKit
set_option maxRecDepth 20000

theorem szOpL_any (A : Option Addr) (n c : Nat) (w : World) (hn : n ≤ maxLen) :
    Calls Try.prog 10 #[.slice A n c, .int .i64 1048576] w fun e w' => ∃ r : Int, (r < 0 ∨ n ≤ 1048576) ∧ e = .returned (.int .i64 r) ∧ Below w.heap.size w w' :=
  (szOpS_any A n c 1048576 w hn (by omega)).mono fun _ _ ⟨r, h, he, hw⟩ => ⟨r, h.imp_right (·.1), he, hw ▸ Below.refl _ _⟩
theorem callF {W : World} {f : FuncId} {args : Array Value} {N N' : Nat} {C C' : Int} {F F' : Nat → Int} (hN : N = N') (hC : C = C') (hF : F = F') (h : Calls Try.prog f args W (NewP2 W N' (N' * 2) (fun j => .int .i64 (F' j)) C')) : Calls Try.prog f args W (NewP2 W N (N * 2) (fun j => .int .i64 (F j)) C) := by
  subst hN hC hF
  exact h
set_option maxHeartbeats 2000000 in
theorem lawFaultsOf_walk (W : Int) (A : Option Addr) (n c : Nat) (z : Nat → Int) (w : World) (ha : Rd w A (n * 8) (fun j => .int .i64 (z j))) (hn0 : n ≤ maxLen) :
    Calls Try.prog 5 #[.int .i64 W, .slice A n c] w fun e w' => e = .returned (.bool true) ∧ Below w.heap.size w w' := by
  obtain ⟨N, hN⟩ : ∃ x, x = foN W z n := ⟨_, rfl⟩
  obtain ⟨C, hC⟩ : ∃ x, x = codeOf W z n := ⟨_, rfl⟩
  obtain ⟨F, hF⟩ : ∃ x : Nat → Int, x = fun j => (foL W z n).getD j 0 := ⟨_, rfl⟩
  have hpn := foN_le W z n
  rw [← hN] at hpn
  have HN := Lib.hid hN
  have HC := Lib.hid hC
  have HF := Lib.hid hF
  clear hN hC hF
  have HB := Lib.hid (Below.refl w.heap.size w)
  have R_a := Lib.hid ha
  have LR_a := Lib.hid (rd_obj A (n * 8) (fun j => .int .i64 (z j)))
  have HI_a := Lib.hid (LR_a.out.2 w · R_a.out)
  clear ha
  go_enter Try.func5, Try.ntmps5
  go_wp2_with fail
  refine (szOpL_any A n c _ hn0).mono ?_
  rintro e w1 ⟨r1, hr, rfl, hb⟩
  have SZ_1 := Lib.hid (show w.heap.size ≤ w1.heap.size from (by have := hb.size; first | omega | (simp at this; omega)))
  replace R_a := Lib.hid (LR_a.out.below R_a.out hb)
  replace HB := Lib.hid (HB.out.trans (hb.mono HB.out.size))
  clear hb
  by_cases hr0 : r1 < 0
  · go_wp2_with fail
    go_ret
    exact ⟨rfl, HB.out⟩
  have hsm := hr.resolve_left hr0
  clear hr
  have hn : n ≤ 1048576 := by omega
  go_wp2_with fail
  refine (toOpS_any A n c z _ (R_a.out) hn).mono ?_
  rintro e w2 ⟨A_t1, c_t1, rfl, hp0⟩
  have hp := hp0.obj
  clear hp0
  have SZ_2 := Lib.hid (show w1.heap.size ≤ w2.heap.size from (by have := hp.bl.size; first | omega | (simp at this; omega)))
  replace R_a := Lib.hid (LR_a.out.below R_a.out hp.bl)
  replace HB := Lib.hid (HB.out.trans (hp.bl.mono HB.out.size))
  have R_t1 := Lib.hid hp.r
  have W_t1 := Lib.hid hp.w
  have LR_t1 := Lib.hid hp.or
  have LW_t1 := Lib.hid hp.ow
  have LO_t1 := Lib.hid (hp.lo (k := w1.heap.size) (by first | exact Nat.le_refl _ | simp))
  have HI_t1 := Lib.hid hp.hi
  clear hp
  go_wp2_with fail
  refine (callF HN.out HC.out HF.out (specFaultsOf_any W A_t1 n c_t1 z _ (R_t1.out) hn)).mono ?_
  rintro e w3 ⟨A_S, c_S, rfl, hp0⟩
  have hp := hp0.obj
  clear hp0
  have SZ_3 := Lib.hid (show w2.heap.size ≤ w3.heap.size from (by have := hp.bl.size; first | omega | (simp at this; omega)))
  replace R_a := Lib.hid (LR_a.out.below R_a.out hp.bl)
  replace R_t1 := Lib.hid (LR_t1.out.below R_t1.out hp.bl)
  replace W_t1 := Lib.hid (LW_t1.out.below W_t1.out hp.bl)
  replace HB := Lib.hid (HB.out.trans (hp.bl.mono HB.out.size))
  have R_S := Lib.hid hp.r
  have W_S := Lib.hid hp.w
  have LR_S := Lib.hid hp.or
  have LW_S := Lib.hid hp.ow
  have LO_S := Lib.hid (hp.lo (k := w2.heap.size) (by first | exact Nat.le_refl _ | simp))
  have HI_S := Lib.hid hp.hi
  clear hp
  go_wp2_with fail
  refine (toOpS_any A n c z _ (R_a.out) hn).mono ?_
  rintro e w4 ⟨A_x, c_x, rfl, hp0⟩
  have hp := hp0.obj
  clear hp0
  have SZ_4 := Lib.hid (show w3.heap.size ≤ w4.heap.size from (by have := hp.bl.size; first | omega | (simp at this; omega)))
  replace R_a := Lib.hid (LR_a.out.below R_a.out hp.bl)
  replace R_S := Lib.hid (LR_S.out.below R_S.out hp.bl)
  replace W_S := Lib.hid (LW_S.out.below W_S.out hp.bl)
  replace HB := Lib.hid (HB.out.trans (hp.bl.mono HB.out.size))
  have R_x := Lib.hid hp.r
  have W_x := Lib.hid hp.w
  have LR_x := Lib.hid hp.or
  have LW_x := Lib.hid hp.ow
  have LO_x := Lib.hid (hp.lo (k := w3.heap.size) (by first | exact Nat.le_refl _ | simp))
  have HI_x := Lib.hid hp.hi
  clear hp
  go_wp2_with fail
  refine (callF HN.out HC.out HF.out (implFaultsOf_any W A_x n c_x z _ (R_x.out) hn)).mono ?_
  rintro e w5 ⟨A_G, c_G, rfl, hp0⟩
  have hp := hp0.obj
  clear hp0
  have SZ_5 := Lib.hid (show w4.heap.size ≤ w5.heap.size from (by have := hp.bl.size; first | omega | (simp at this; omega)))
  replace R_a := Lib.hid (LR_a.out.below R_a.out hp.bl)
  replace R_S := Lib.hid (LR_S.out.below R_S.out hp.bl)
  replace W_S := Lib.hid (LW_S.out.below W_S.out hp.bl)
  replace R_x := Lib.hid (LR_x.out.below R_x.out hp.bl)
  replace W_x := Lib.hid (LW_x.out.below W_x.out hp.bl)
  replace HB := Lib.hid (HB.out.trans (hp.bl.mono HB.out.size))
  have R_G := Lib.hid hp.r
  have W_G := Lib.hid hp.w
  have LR_G := Lib.hid hp.or
  have LW_G := Lib.hid hp.ow
  have LO_G := Lib.hid (hp.lo (k := w4.heap.size) (by first | exact Nat.le_refl _ | simp))
  have HI_G := Lib.hid hp.hi
  clear hp
  go_wp2_with fail
  refine (eqFaultS_any A_G A_S N c_G c_S F _ (R_G.out) (R_S.out) (by omega)).mono ?_
  rintro e w6 ⟨he, hb⟩
  obtain rfl : e = .returned (.bool true) := he
  have SZ_6 := Lib.hid (show w5.heap.size ≤ w6.heap.size from (by have := hb.size; first | omega | (simp at this; omega)))
  replace R_a := Lib.hid (LR_a.out.below R_a.out hb)
  replace R_S := Lib.hid (LR_S.out.below R_S.out hb)
  replace W_S := Lib.hid (LW_S.out.below W_S.out hb)
  replace R_x := Lib.hid (LR_x.out.below R_x.out hb)
  replace W_x := Lib.hid (LW_x.out.below W_x.out hb)
  replace R_G := Lib.hid (LR_G.out.below R_G.out hb)
  replace W_G := Lib.hid (LW_G.out.below W_G.out hb)
  replace HB := Lib.hid (HB.out.trans (hb.mono HB.out.size))
  clear hb
  go_wp2_with fail
  refine (toOpS_any A n c z _ (R_a.out) hn).mono ?_
  rintro e w7 ⟨A_t2, c_t2, rfl, hp0⟩
  have hp := hp0.obj
  clear hp0
  have SZ_7 := Lib.hid (show w6.heap.size ≤ w7.heap.size from (by have := hp.bl.size; first | omega | (simp at this; omega)))
  replace R_a := Lib.hid (LR_a.out.below R_a.out hp.bl)
  replace R_S := Lib.hid (LR_S.out.below R_S.out hp.bl)
  replace W_S := Lib.hid (LW_S.out.below W_S.out hp.bl)
  replace R_x := Lib.hid (LR_x.out.below R_x.out hp.bl)
  replace W_x := Lib.hid (LW_x.out.below W_x.out hp.bl)
  replace R_G := Lib.hid (LR_G.out.below R_G.out hp.bl)
  replace W_G := Lib.hid (LW_G.out.below W_G.out hp.bl)
  replace HB := Lib.hid (HB.out.trans (hp.bl.mono HB.out.size))
  have R_t2 := Lib.hid hp.r
  have W_t2 := Lib.hid hp.w
  have LR_t2 := Lib.hid hp.or
  have LW_t2 := Lib.hid hp.ow
  have LO_t2 := Lib.hid (hp.lo (k := w6.heap.size) (by first | exact Nat.le_refl _ | simp))
  have HI_t2 := Lib.hid hp.hi
  clear hp
  go_wp2_with fail
  refine (eqOpS_any A_x A_t2 n c_x c_t2 z _ (R_x.out) (R_t2.out) (by omega)).mono ?_
  rintro e w8 ⟨he, hb⟩
  obtain rfl : e = .returned (.bool true) := he
  have SZ_8 := Lib.hid (show w7.heap.size ≤ w8.heap.size from (by have := hb.size; first | omega | (simp at this; omega)))
  replace R_a := Lib.hid (LR_a.out.below R_a.out hb)
  replace R_S := Lib.hid (LR_S.out.below R_S.out hb)
  replace W_S := Lib.hid (LW_S.out.below W_S.out hb)
  replace R_x := Lib.hid (LR_x.out.below R_x.out hb)
  replace W_x := Lib.hid (LW_x.out.below W_x.out hb)
  replace R_G := Lib.hid (LR_G.out.below R_G.out hb)
  replace W_G := Lib.hid (LW_G.out.below W_G.out hb)
  replace R_t2 := Lib.hid (LR_t2.out.below R_t2.out hb)
  replace W_t2 := Lib.hid (LW_t2.out.below W_t2.out hb)
  replace HB := Lib.hid (HB.out.trans (hb.mono HB.out.size))
  clear hb
  go_wp2_with fail
  refine (markOpS_any A_x n c_x 1 _ (W_x.out) (by omega) (by omega) (by omega)).mono ?_
  intro e w9 hm0
  have hm := hm0.obj W_x.out
  clear hm0
  obtain rfl : e = .returned (.int .i64 (1 + (n : Int) * 8)) := hm.ret
  have SZ_9 := Lib.hid (show w8.heap.size ≤ w9.heap.size from (by have := hm.fr.size; first | omega | (simp at this; omega)))
  replace R_a := Lib.hid (LR_a.out.fr R_a.out hm.fr (fun b h1 h2 => by have := LO_x.out b h2; have := HI_x.out b h2; have := HI_a.out b h1; have := SZ_1.out; have := SZ_2.out; have := SZ_3.out; have := SZ_4.out; have := SZ_5.out; have := SZ_6.out; have := SZ_7.out; have := SZ_8.out; have := SZ_9.out; omega))
  replace R_S := Lib.hid (LR_S.out.fr R_S.out hm.fr (fun b h1 h2 => by have := LO_x.out b h2; have := HI_x.out b h2; have := HI_S.out b h1; have := LO_S.out b h1; have := SZ_1.out; have := SZ_2.out; have := SZ_3.out; have := SZ_4.out; have := SZ_5.out; have := SZ_6.out; have := SZ_7.out; have := SZ_8.out; have := SZ_9.out; omega))
  replace W_S := Lib.hid (LW_S.out.fr W_S.out hm.fr (fun b h1 h2 => by have := LO_x.out b h2; have := HI_x.out b h2; have := HI_S.out b h1; have := LO_S.out b h1; have := SZ_1.out; have := SZ_2.out; have := SZ_3.out; have := SZ_4.out; have := SZ_5.out; have := SZ_6.out; have := SZ_7.out; have := SZ_8.out; have := SZ_9.out; omega))
  replace R_G := Lib.hid (LR_G.out.fr R_G.out hm.fr (fun b h1 h2 => by have := LO_x.out b h2; have := HI_x.out b h2; have := HI_G.out b h1; have := LO_G.out b h1; have := SZ_1.out; have := SZ_2.out; have := SZ_3.out; have := SZ_4.out; have := SZ_5.out; have := SZ_6.out; have := SZ_7.out; have := SZ_8.out; have := SZ_9.out; omega))
  replace W_G := Lib.hid (LW_G.out.fr W_G.out hm.fr (fun b h1 h2 => by have := LO_x.out b h2; have := HI_x.out b h2; have := HI_G.out b h1; have := LO_G.out b h1; have := SZ_1.out; have := SZ_2.out; have := SZ_3.out; have := SZ_4.out; have := SZ_5.out; have := SZ_6.out; have := SZ_7.out; have := SZ_8.out; have := SZ_9.out; omega))
  replace HB := Lib.hid (HB.out.trans (hm.fr.below HB.out.size fun b h2 => by have := LO_x.out b h2; have := SZ_1.out; have := SZ_2.out; have := SZ_3.out; have := SZ_4.out; have := SZ_5.out; have := SZ_6.out; have := SZ_7.out; have := SZ_8.out; have := SZ_9.out; omega))
  replace R_x := Lib.hid hm.m
  replace LR_x := Lib.hid hm.om
  clear W_x LW_x hm
  go_wp2_with fail
  refine (eqFaultS_any A_G A_S N c_G c_S F _ (R_G.out) (R_S.out) (by omega)).mono ?_
  rintro e w10 ⟨he, hb⟩
  obtain rfl : e = .returned (.bool true) := he
  have SZ_10 := Lib.hid (show w9.heap.size ≤ w10.heap.size from (by have := hb.size; first | omega | (simp at this; omega)))
  replace R_a := Lib.hid (LR_a.out.below R_a.out hb)
  replace R_S := Lib.hid (LR_S.out.below R_S.out hb)
  replace W_S := Lib.hid (LW_S.out.below W_S.out hb)
  replace R_G := Lib.hid (LR_G.out.below R_G.out hb)
  replace W_G := Lib.hid (LW_G.out.below W_G.out hb)
  replace HB := Lib.hid (HB.out.trans (hb.mono HB.out.size))
  clear hb
  go_wp2_with fail
  refine (markFaultS_any A_G N c_G 1 _ (W_G.out) (by omega) (by omega) (by omega)).mono ?_
  intro e w11 hm0
  have hm := hm0.obj W_G.out
  clear hm0
  obtain rfl : e = .returned (.int .i64 (1 + (N : Int) * 2)) := hm.ret
  have SZ_11 := Lib.hid (show w10.heap.size ≤ w11.heap.size from (by have := hm.fr.size; first | omega | (simp at this; omega)))
  replace R_a := Lib.hid (LR_a.out.fr R_a.out hm.fr (fun b h1 h2 => by have := LO_G.out b h2; have := HI_G.out b h2; have := HI_a.out b h1; have := SZ_1.out; have := SZ_2.out; have := SZ_3.out; have := SZ_4.out; have := SZ_5.out; have := SZ_6.out; have := SZ_7.out; have := SZ_8.out; have := SZ_9.out; have := SZ_10.out; have := SZ_11.out; omega))
  replace R_S := Lib.hid (LR_S.out.fr R_S.out hm.fr (fun b h1 h2 => by have := LO_G.out b h2; have := HI_G.out b h2; have := HI_S.out b h1; have := LO_S.out b h1; have := SZ_1.out; have := SZ_2.out; have := SZ_3.out; have := SZ_4.out; have := SZ_5.out; have := SZ_6.out; have := SZ_7.out; have := SZ_8.out; have := SZ_9.out; have := SZ_10.out; have := SZ_11.out; omega))
  replace W_S := Lib.hid (LW_S.out.fr W_S.out hm.fr (fun b h1 h2 => by have := LO_G.out b h2; have := HI_G.out b h2; have := HI_S.out b h1; have := LO_S.out b h1; have := SZ_1.out; have := SZ_2.out; have := SZ_3.out; have := SZ_4.out; have := SZ_5.out; have := SZ_6.out; have := SZ_7.out; have := SZ_8.out; have := SZ_9.out; have := SZ_10.out; have := SZ_11.out; omega))
  replace HB := Lib.hid (HB.out.trans (hm.fr.below HB.out.size fun b h2 => by have := LO_G.out b h2; have := SZ_1.out; have := SZ_2.out; have := SZ_3.out; have := SZ_4.out; have := SZ_5.out; have := SZ_6.out; have := SZ_7.out; have := SZ_8.out; have := SZ_9.out; have := SZ_10.out; have := SZ_11.out; omega))
  replace R_G := Lib.hid hm.m
  replace LR_G := Lib.hid hm.om
  clear W_G LW_G hm
  go_wp2_with fail
  refine (heldFaultS_any A_G N c_G 1 _ (R_G.out) (by omega) (by omega) (by omega)).mono ?_
  rintro e w12 ⟨he, hb⟩
  obtain rfl : e = .returned (.int .i64 (1 + (N : Int) * 2)) := he
  have SZ_12 := Lib.hid (show w11.heap.size ≤ w12.heap.size from (by have := hb.size; first | omega | (simp at this; omega)))
  replace R_a := Lib.hid (LR_a.out.below R_a.out hb)
  replace R_S := Lib.hid (LR_S.out.below R_S.out hb)
  replace W_S := Lib.hid (LW_S.out.below W_S.out hb)
  replace R_G := Lib.hid (LR_G.out.below R_G.out hb)
  replace HB := Lib.hid (HB.out.trans (hb.mono HB.out.size))
  clear hb
  go_wp2_with fail
  refine (toOpS_any A n c z _ (R_a.out) hn).mono ?_
  rintro e w13 ⟨A_t3, c_t3, rfl, hp0⟩
  have hp := hp0.obj
  clear hp0
  have SZ_13 := Lib.hid (show w12.heap.size ≤ w13.heap.size from (by have := hp.bl.size; first | omega | (simp at this; omega)))
  replace R_a := Lib.hid (LR_a.out.below R_a.out hp.bl)
  replace R_S := Lib.hid (LR_S.out.below R_S.out hp.bl)
  replace W_S := Lib.hid (LW_S.out.below W_S.out hp.bl)
  replace R_G := Lib.hid (LR_G.out.below R_G.out hp.bl)
  replace HB := Lib.hid (HB.out.trans (hp.bl.mono HB.out.size))
  have R_t3 := Lib.hid hp.r
  have W_t3 := Lib.hid hp.w
  have LR_t3 := Lib.hid hp.or
  have LW_t3 := Lib.hid hp.ow
  have LO_t3 := Lib.hid (hp.lo (k := w12.heap.size) (by first | exact Nat.le_refl _ | simp))
  have HI_t3 := Lib.hid hp.hi
  clear hp
  go_wp2_with fail
  refine (callF HN.out HC.out HF.out (implFaultsOf_any W A_t3 n c_t3 z _ (R_t3.out) hn)).mono ?_
  rintro e w14 ⟨A_Z, c_Z, rfl, hp0⟩
  have hp := hp0.obj
  clear hp0
  have SZ_14 := Lib.hid (show w13.heap.size ≤ w14.heap.size from (by have := hp.bl.size; first | omega | (simp at this; omega)))
  replace R_a := Lib.hid (LR_a.out.below R_a.out hp.bl)
  replace R_S := Lib.hid (LR_S.out.below R_S.out hp.bl)
  replace W_S := Lib.hid (LW_S.out.below W_S.out hp.bl)
  replace R_G := Lib.hid (LR_G.out.below R_G.out hp.bl)
  replace R_t3 := Lib.hid (LR_t3.out.below R_t3.out hp.bl)
  replace W_t3 := Lib.hid (LW_t3.out.below W_t3.out hp.bl)
  replace HB := Lib.hid (HB.out.trans (hp.bl.mono HB.out.size))
  have R_Z := Lib.hid hp.r
  have W_Z := Lib.hid hp.w
  have LR_Z := Lib.hid hp.or
  have LW_Z := Lib.hid hp.ow
  have LO_Z := Lib.hid (hp.lo (k := w13.heap.size) (by first | exact Nat.le_refl _ | simp))
  have HI_Z := Lib.hid hp.hi
  clear hp
  go_wp2_with fail
  refine (eqFaultS_any A_Z A_S N c_Z c_S F _ (R_Z.out) (R_S.out) (by omega)).mono ?_
  rintro e w15 ⟨he, hb⟩
  obtain rfl : e = .returned (.bool true) := he
  have SZ_15 := Lib.hid (show w14.heap.size ≤ w15.heap.size from (by have := hb.size; first | omega | (simp at this; omega)))
  replace R_a := Lib.hid (LR_a.out.below R_a.out hb)
  replace R_S := Lib.hid (LR_S.out.below R_S.out hb)
  replace W_S := Lib.hid (LW_S.out.below W_S.out hb)
  replace R_G := Lib.hid (LR_G.out.below R_G.out hb)
  replace R_Z := Lib.hid (LR_Z.out.below R_Z.out hb)
  replace W_Z := Lib.hid (LW_Z.out.below W_Z.out hb)
  replace HB := Lib.hid (HB.out.trans (hb.mono HB.out.size))
  clear hb
  go_wp2_with fail
  refine (heldFaultS_any A_G N c_G 1 _ (R_G.out) (by omega) (by omega) (by omega)).mono ?_
  rintro e w16 ⟨he, hb⟩
  obtain rfl : e = .returned (.int .i64 (1 + (N : Int) * 2)) := he
  have SZ_16 := Lib.hid (show w15.heap.size ≤ w16.heap.size from (by have := hb.size; first | omega | (simp at this; omega)))
  replace R_a := Lib.hid (LR_a.out.below R_a.out hb)
  replace R_S := Lib.hid (LR_S.out.below R_S.out hb)
  replace W_S := Lib.hid (LW_S.out.below W_S.out hb)
  replace R_G := Lib.hid (LR_G.out.below R_G.out hb)
  replace R_Z := Lib.hid (LR_Z.out.below R_Z.out hb)
  replace W_Z := Lib.hid (LW_Z.out.below W_Z.out hb)
  replace HB := Lib.hid (HB.out.trans (hb.mono HB.out.size))
  clear hb
  go_wp2_with fail
  go_ret
  exact ⟨rfl, HB.out⟩
end Go.Proofs.Ytpmfkpehmckgmaa
