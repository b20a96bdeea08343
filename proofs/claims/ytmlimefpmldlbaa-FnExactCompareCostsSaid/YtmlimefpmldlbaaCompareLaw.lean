/- The walk of the law over CompareCosts, from the contracts: it returns true. No condition. -/
import Derived.Test.YtmlimefpmldlbaaCompare
import Derived.Test.YtmlimefpmldlbaaCosts
import Derived.Deep.RegionWith
namespace Go.Proofs.Ytmlimefpmldlbaa
open Go.RowKit

set_option maxHeartbeats 2000000 in
theorem lawCompareCosts_walk (o1 p1 r1 k1 t1 o2 p2 r2 k2 t2 : Int) (A A' : Option Addr) (n m c c' : Nat) (z y : Nat → Int) (w : World) (ha : Rd w A n (fun j => .int .i64 (z j))) (hb : Rd w A' m (fun j => .int .i64 (y j))) (hn0 : n ≤ maxLen) (hm0 : m ≤ maxLen) :
    Calls Try.prog 8 #[.agg #[.int .i64 o1, .int .i64 p1, .int .i64 r1, .int .i64 k1, .int .i64 t1, .slice A n c], .agg #[.int .i64 o2, .int .i64 p2, .int .i64 r2, .int .i64 k2, .int .i64 t2, .slice A' m c']] w
      fun e w' => e = .returned (.bool true) ∧ Below w.heap.size w w' := by
  obtain ⟨rl, hrl⟩ := isCmp_some n m z y
  obtain ⟨r, hr⟩ := isOr_some 4 (quad (cmpI t1 t2) (cmpI p1 p2) (cmpI o1 o2) rl)
  have HRL := Lib.hid hrl
  have HR := Lib.hid hr
  have RA0 := Lib.hid ha
  have RB0 := Lib.hid hb
  have hL0 : Below w.heap.size w ((w.alloc (.cells #[.int .i64 o1, .int .i64 p1, .int .i64 r1, .int .i64 k1, .int .i64 t1, .slice A n c] 48)).alloc (.cells #[.int .i64 o2, .int .i64 p2, .int .i64 r2, .int .i64 k2, .int .i64 t2, .slice A' m c'] 48)) := by (repeat' first | with_reducible exact Below.refl _ _ | with_reducible refine Below.alloc ?_ ?_ _ | with_reducible refine Below.setCell ?_ ?_ _ | with_reducible refine Below.drew ?_ | with_reducible refine Below.drewN' ?_ _ | with_reducible (refine Below.trans ?_ (Below.mono (by assumption) ?_)) | exact Nat.le_refl _ | (simp; done) | (simp; omega) | omega)
  have BX0 : ∀ o, ((w.alloc (.cells #[.int .i64 o1, .int .i64 p1, .int .i64 r1, .int .i64 k1, .int .i64 t1, .slice A n c] 48)).alloc (.cells #[.int .i64 o2, .int .i64 p2, .int .i64 r2, .int .i64 k2, .int .i64 t2, .slice A' m c'] 48)).cell? ⟨w.heap.size, o, none⟩ = (#[.int .i64 o1, .int .i64 p1, .int .i64 r1, .int .i64 k1, .int .i64 t1, .slice A n c] : Array Value)[o]? := fun o =>
    ((bcell ((Below.refl _ _).alloc (Nat.le_refl _) _)).1 _ o (by simp)).trans (cell_alloc_at rfl o)
  have BY0 : ∀ o, ((w.alloc (.cells #[.int .i64 o1, .int .i64 p1, .int .i64 r1, .int .i64 k1, .int .i64 t1, .slice A n c] 48)).alloc (.cells #[.int .i64 o2, .int .i64 p2, .int .i64 r2, .int .i64 k2, .int .i64 t2, .slice A' m c'] 48)).cell? ⟨w.heap.size + 1, o, none⟩ = (#[.int .i64 o2, .int .i64 p2, .int .i64 r2, .int .i64 k2, .int .i64 t2, .slice A' m c'] : Array Value)[o]? := fun o => cell_alloc_at (by simp) o
  have HL0 := Lib.hid hL0
  have HBX0 := Lib.hid BX0
  have HBY0 := Lib.hid BY0
  clear hrl hr ha hb hL0 BX0 BY0
  go_enter Try.func8, Try.ntmps8
  go_wp2_with fail
  refine (szCosts_any o1 p1 r1 k1 t1 A n c 1048576 _ hn0 (by omega)).mono ?_
  rintro e w1 ⟨s1, hs1, rfl, hb1⟩
  have hx1 := fun o => ((bcell hb1).1 w.heap.size o (by simp; omega)).trans (HBX0.out o)
  have hy1 := fun o => ((bcell hb1).1 (w.heap.size + 1) o (by simp)).trans (HBY0.out o)
  have HX1 := Lib.hid hx1
  have HY1 := Lib.hid hy1
  have HB1 := Lib.hid (HL0.out.trans (hb1.mono HL0.out.size))
  have hz1 : w.heap.size + 1 < w1.heap.size := blt hb1 (by simp)
  clear hb1 hx1
  by_cases h1 : s1 < 0
  · go_wp2_with fail
    go_ret
    exact ⟨rfl, HB1.out⟩
  obtain ⟨hn, hs1⟩ := hs1.resolve_left h1
  obtain ⟨L, hL⟩ : ∃ L : Nat, s1 = L := ⟨1048576 - n, by omega⟩
  have hL' : L ≤ 1048576 := by omega
  subst hL
  clear hs1
  go_wp2_with fail
  refine (szCosts_any o2 p2 r2 k2 t2 A' m c' L _ hm0 hL').mono ?_
  rintro e w2 ⟨s2, hs2, rfl, hb2⟩
  have hx2 := fun o => ((bcell hb2).1 w.heap.size o (by omega)).trans (HX1.out o)
  have hy2 := fun o => ((bcell hb2).1 (w.heap.size + 1) o (by omega)).trans (HY1.out o)
  have HX2 := Lib.hid hx2
  have HY2 := Lib.hid hy2
  have HB2 := Lib.hid (HB1.out.trans (hb2.mono HB1.out.size))
  have hz2 : w.heap.size + 1 < w2.heap.size := blt hb2 hz1
  clear hb2 hx2 hy2 hy1
  by_cases h2 : s2 < 0
  · go_wp2_with fail
    go_ret
    exact ⟨rfl, HB2.out⟩
  obtain ⟨hm, _⟩ := hs2.resolve_left h2
  have hm1 : m ≤ 1048576 := by omega
  clear hs2
  have RA2 := Lib.hid (RA0.out.below HB2.out)
  have RB2 := Lib.hid (RB0.out.below HB2.out)
  go_wp2_with fail
  have hx2 := HX2.out
  have hy2 := HY2.out
  go_region_held3 (fun w' => (∀ o, w'.cell? ⟨w.heap.size, o, none⟩ = (#[.int .i64 o1, .int .i64 p1, .int .i64 r1, .int .i64 k1, .int .i64 t1, .slice A n c] : Array Value)[o]?) ∧ (∀ o, w'.cell? ⟨w.heap.size + 1, o, none⟩ = (#[.int .i64 o2, .int .i64 p2, .int .i64 r2, .int .i64 k2, .int .i64 t2, .slice A' m c'] : Array Value)[o]?)) (go_keep)
    (first
      | (go_at_call_of 33 (Value.slice A n c); refine (toCosts_any o1 p1 r1 k1 t1 A n c z _ (by first | exact RA2.out.drewN 1 | exact (RA2.out.drewN 1).below HPB.bl) hn).mono ?_; rintro e wa ⟨A1, c1, rfl, HPA⟩; have kxa := fun o => (bcell HPA.bl).1 w.heap.size o (by first | exact (by simp; omega) | omega); have kya := fun o => (bcell HPA.bl).1 (w.heap.size + 1) o (by first | exact (by simp; omega) | omega); have hza : w.heap.size + 1 < wa.heap.size := blt HPA.bl (by first | exact (by simp; omega) | omega))
      | (go_at_call_of 33 (Value.slice A' m c'); refine (toCosts_any o2 p2 r2 k2 t2 A' m c' y _ (by first | exact RB2.out.drewN 1 | exact (RB2.out.drewN 1).below HPA.bl) hm1).mono ?_; rintro e wb ⟨A2, c2, rfl, HPB⟩; have kxb := fun o => (bcell HPB.bl).1 w.heap.size o (by first | exact (by simp; omega) | omega); have kyb := fun o => (bcell HPB.bl).1 (w.heap.size + 1) o (by first | exact (by simp; omega) | omega); have hzb : w.heap.size + 1 < wb.heap.size := blt HPB.bl (by first | exact (by simp; omega) | omega))
      | (go_at_call 32; refine (specCompareCosts_any o1 p1 r1 k1 t1 o2 p2 r2 k2 t2 A1 A2 n m c1 c2 z y rl r HRL.out HR.out _ (by first | exact HPA.rd | exact HPA.rd.below HPB.bl) (by first | exact HPB.rd | exact HPB.rd.below HPA.bl) (by omega) (by omega)).mono ?_; rintro e ws ⟨rfl, HPS⟩; have kxs := fun o => (bcell HPS).1 w.heap.size o (by omega); have kys := fun o => (bcell HPS).1 (w.heap.size + 1) o (by omega); have hzs : w.heap.size + 1 < ws.heap.size := blt HPS (by omega)))
  go_goals
  have hx3 := fun o => (kxs o).trans ((kxb o).trans ((kxa o).trans (HX2.out o)))
  have hy3 := fun o => (kys o).trans ((kyb o).trans ((kya o).trans (HY2.out o)))
  have HX3 := Lib.hid hx3
  have HY3 := Lib.hid hy3
  have HB3 := Lib.hid ((((HB2.out.drew).trans (HPA.bl.mono HB2.out.size)).trans (HPB.bl.mono (by have := HB2.out.size; have := HPA.bl.size; simp at this ⊢; omega))).trans (HPS.mono (by have := HB2.out.size; have := HPA.bl.size; have := HPB.bl.size; simp at *; omega)))
  clear HPA HPB HPS kxa kya kxb kyb kxs kys hx2 hy2
  rename_i hHeld
  clear hHeld
  have RA3 := Lib.hid (RA0.out.below HB3.out)
  go_wp2_with fail
  refine (toCosts_any o1 p1 r1 k1 t1 A n c z _ RA3.out hn).mono ?_
  rintro e wc ⟨A3, c3, rfl, hpc⟩
  have hx4 := fun o => ((bcell hpc.bl).1 w.heap.size o (by omega)).trans (HX3.out o)
  have hy4 := fun o => ((bcell hpc.bl).1 (w.heap.size + 1) o (by omega)).trans (HY3.out o)
  have hz4 : w.heap.size + 1 < wc.heap.size := blt hpc.bl hzs
  have HX4 := Lib.hid hx4
  have HY4 := Lib.hid hy4
  have HB4 := Lib.hid (HB3.out.trans (hpc.bl.mono HB3.out.size))
  have NC := Lib.hid hpc
  clear hpc hx3 hy3
  go_wp2_with fail
  have hl4 : Below wc.heap.size wc (wc.alloc (.cells #[.int .i64 o1, .int .i64 p1, .int .i64 r1, .int .i64 k1, .int .i64 t1, .slice A3 n c3] 51)) := by (repeat' first | with_reducible exact Below.refl _ _ | with_reducible refine Below.alloc ?_ ?_ _ | with_reducible refine Below.setCell ?_ ?_ _ | with_reducible refine Below.drew ?_ | with_reducible refine Below.drewN' ?_ _ | with_reducible (refine Below.trans ?_ (Below.mono (by assumption) ?_)) | exact Nat.le_refl _ | (simp; done) | (simp; omega) | omega)
  have HL4 := Lib.hid hl4
  have BX4 := Lib.hid (box_new wc #[.int .i64 o1, .int .i64 p1, .int .i64 r1, .int .i64 k1, .int .i64 t1, .slice A3 n c3] 51)
  have RB4 := Lib.hid ((RB0.out.below HB4.out).below hl4)
  clear hl4
  refine (toCosts_any o2 p2 r2 k2 t2 A' m c' y _ RB4.out hm1).mono ?_
  rintro e wd ⟨A4, c4, rfl, hpd⟩
  have hx5 := fun o => ((bcell (hpd.bl)).1 w.heap.size o (by simp; omega)).trans (((bcell HL4.out).1 w.heap.size o (by omega)).trans (HX4.out o))
  have hy5 := fun o => ((bcell (hpd.bl)).1 (w.heap.size + 1) o (by simp; omega)).trans (((bcell HL4.out).1 (w.heap.size + 1) o (by omega)).trans (HY4.out o))
  have hz5 : w.heap.size + 1 < wd.heap.size := blt hpd.bl (by simp; omega)
  have hcd : wc.heap.size < wd.heap.size := blt hpd.bl (by simp)
  have HX5 := Lib.hid hx5
  have HY5 := Lib.hid hy5
  have HCD := Lib.hid (HL4.out.trans (hpd.bl.mono HL4.out.size))
  have HB5 := Lib.hid (HB4.out.trans (HCD.out.mono HB4.out.size))
  have BX5 := Lib.hid ((box_loc wc.heap.size _ (by simp)).below BX4.out hpd.bl)
  have ND := Lib.hid hpd
  clear hpd hx4 hy4 hx5 hy5
  have bx5 : ∀ o, wd.cell? ⟨wc.heap.size, o, none⟩ = (#[.int .i64 o1, .int .i64 p1, .int .i64 r1, .int .i64 k1, .int .i64 t1, .slice A3 n c3] : Array Value)[o]? := BX5.out
  go_wp2_with fail
  have hl5 : Below wd.heap.size wd (wd.alloc (.cells #[.int .i64 o2, .int .i64 p2, .int .i64 r2, .int .i64 k2, .int .i64 t2, .slice A4 m c4] 51)) := by (repeat' first | with_reducible exact Below.refl _ _ | with_reducible refine Below.alloc ?_ ?_ _ | with_reducible refine Below.setCell ?_ ?_ _ | with_reducible refine Below.drew ?_ | with_reducible refine Below.drewN' ?_ _ | with_reducible (refine Below.trans ?_ (Below.mono (by assumption) ?_)) | exact Nat.le_refl _ | (simp; done) | (simp; omega) | omega)
  have HL5 := Lib.hid hl5
  have BY5 := Lib.hid (box_new wd #[.int .i64 o2, .int .i64 p2, .int .i64 r2, .int .i64 k2, .int .i64 t2, .slice A4 m c4] 51)
  have RX5 := Lib.hid ((NC.out.rd.below HCD.out).below hl5)
  have RY5 := Lib.hid (ND.out.rd.below hl5)
  clear hl5
  refine (implCompareCosts_any o1 p1 r1 k1 t1 o2 p2 r2 k2 t2 A3 A4 n m c3 c4 z y rl r HRL.out HR.out _ RX5.out RY5.out (by omega) (by omega)).mono ?_
  rintro e wi ⟨rfl, hbi⟩
  have hx6 := fun o => ((bcell hbi).1 w.heap.size o (by simp; omega)).trans (((bcell HL5.out).1 w.heap.size o (by omega)).trans (HX5.out o))
  have hy6 := fun o => ((bcell hbi).1 (w.heap.size + 1) o (by simp; omega)).trans (((bcell HL5.out).1 (w.heap.size + 1) o (by omega)).trans (HY5.out o))
  have bx6 : ∀ o, wi.cell? ⟨wc.heap.size, o, none⟩ = (#[.int .i64 o1, .int .i64 p1, .int .i64 r1, .int .i64 k1, .int .i64 t1, .slice A3 n c3] : Array Value)[o]? := fun o => ((bcell hbi).1 wc.heap.size o (by simp; omega)).trans (((bcell HL5.out).1 wc.heap.size o (by omega)).trans (BX5.out o))
  have by6 : ∀ o, wi.cell? ⟨wd.heap.size, o, none⟩ = (#[.int .i64 o2, .int .i64 p2, .int .i64 r2, .int .i64 k2, .int .i64 t2, .slice A4 m c4] : Array Value)[o]? := (box_loc wd.heap.size _ (by simp)).below BY5.out hbi
  have hdi : wd.heap.size < wi.heap.size := blt hbi (by simp)
  have HDI := Lib.hid (HL5.out.trans (hbi.mono HL5.out.size))
  have HB6 := Lib.hid (HB5.out.trans (HDI.out.mono HB5.out.size))
  have RX6 := Lib.hid (RX5.out.below hbi)
  have RY6 := Lib.hid (RY5.out.below hbi)
  have HX6 := Lib.hid hx6
  have HY6 := Lib.hid hy6
  have HBX6 := Lib.hid bx6
  have HBY6 := Lib.hid by6
  clear hbi bx5
  have RA6 := Lib.hid (RA0.out.below HB6.out)
  have RB6 := Lib.hid (RB0.out.below HB6.out)
  go_wp2_with fail
  go_region_held3 (fun w' => (∀ o, w'.cell? ⟨wc.heap.size, o, none⟩ = (#[.int .i64 o1, .int .i64 p1, .int .i64 r1, .int .i64 k1, .int .i64 t1, .slice A3 n c3] : Array Value)[o]?) ∧ (∀ o, w'.cell? ⟨w.heap.size, o, none⟩ = (#[.int .i64 o1, .int .i64 p1, .int .i64 r1, .int .i64 k1, .int .i64 t1, .slice A n c] : Array Value)[o]?)) (go_keep)
    (first
      | (go_at_call 33; refine (toCosts_any o1 p1 r1 k1 t1 A n c z _ (RA6.out.drewN 1) hn).mono ?_; rintro e we ⟨A5, c5, rfl, HPE⟩; have kxe := fun o => (bcell HPE.bl).1 w.heap.size o (by simp; omega); have kye := fun o => (bcell HPE.bl).1 wc.heap.size o (by simp; omega); have hze : w.heap.size + 1 < we.heap.size := blt HPE.bl (by simp; omega); have hce : wc.heap.size < we.heap.size := blt HPE.bl (by simp; omega))
      | (go_at_call 35; refine (eqCosts_any o1 p1 r1 k1 t1 A3 A5 n c3 c5 z _ ((RX6.out.drewN 1).below HPE.bl) HPE.rd (by omega)).mono ?_; rintro e wf ⟨rfl, HPF⟩; have kxf := fun o => (bcell HPF).1 w.heap.size o (by omega); have kyf := fun o => (bcell HPF).1 wc.heap.size o (by omega)))
  go_goals
  have HB7 := Lib.hid (((HDI.out.drew).trans (HPE.bl.mono HDI.out.size)).trans (HPF.mono (by have := HDI.out.size; have := HPE.bl.size; simp at this ⊢; omega)))
  have hx7 := fun o => (kxf o).trans ((kxe o).trans (HX6.out o))
  have hy7 := fun o => (show wf.cell? ⟨w.heap.size + 1, o, none⟩ = wd.cell? ⟨w.heap.size + 1, o, none⟩ from (bcell HB7.out).1 _ o (by omega)).trans (HY5.out o)
  have hbx7 := fun o => (kyf o).trans ((kye o).trans (HBX6.out o))
  have hby7 : ∀ o, wf.cell? ⟨wd.heap.size, o, none⟩ = (#[.int .i64 o2, .int .i64 p2, .int .i64 r2, .int .i64 k2, .int .i64 t2, .slice A4 m c4] : Array Value)[o]? := (box_loc wd.heap.size _ (by simp)).below ((box_loc wd.heap.size _ (by simp)).below (show BoxAt wd.heap.size _ (wi.drewN 1) from HBY6.out) HPE.bl) HPF
  have HB8 := Lib.hid (HB5.out.trans (HB7.out.mono HB5.out.size))
  have RY8 := Lib.hid (((RY6.out.drewN 1).below HPE.bl).below HPF)
  have hdf : wd.heap.size < wf.heap.size := blt HPF (blt HPE.bl (by simp; omega))
  have HHY7 := Lib.hid hy7
  have HHBY7 := Lib.hid hby7
  clear HPE HPF kxe kye kxf kyf hx6 hy6 bx6 by6
  rename_i hHeld
  clear hHeld
  have RB8 := Lib.hid (RB0.out.below HB8.out)
  go_wp2_with fail
  go_region_held3 (fun w' => (∀ o, w'.cell? ⟨wd.heap.size, o, none⟩ = (#[.int .i64 o2, .int .i64 p2, .int .i64 r2, .int .i64 k2, .int .i64 t2, .slice A4 m c4] : Array Value)[o]?) ∧ (∀ o, w'.cell? ⟨w.heap.size + 1, o, none⟩ = (#[.int .i64 o2, .int .i64 p2, .int .i64 r2, .int .i64 k2, .int .i64 t2, .slice A' m c'] : Array Value)[o]?)) (go_keep)
    (first
      | (go_at_call 33; refine (toCosts_any o2 p2 r2 k2 t2 A' m c' y _ (RB8.out.drewN 1) hm1).mono ?_; rintro e wg ⟨A6, c6, rfl, HPG⟩; have kxg := fun o => (bcell HPG.bl).1 (w.heap.size + 1) o (by simp; omega); have kyg := fun o => (bcell HPG.bl).1 wd.heap.size o (by simp; omega); have hzg : w.heap.size + 1 < wg.heap.size := blt HPG.bl (by simp; omega); have hcg : wd.heap.size < wg.heap.size := blt HPG.bl (by simp; omega))
      | (go_at_call 35; refine (eqCosts_any o2 p2 r2 k2 t2 A4 A6 m c4 c6 y _ ((RY8.out.drewN 1).below HPG.bl) HPG.rd (by omega)).mono ?_; rintro e wh ⟨rfl, HPH⟩; have kxh := fun o => (bcell HPH).1 (w.heap.size + 1) o (by omega); have kyh := fun o => (bcell HPH).1 wd.heap.size o (by omega)))
  go_goals
  have HB9 := Lib.hid (((HB8.out.drew).trans (HPG.bl.mono HB8.out.size)).trans (HPH.mono (by have := HB8.out.size; have := HPG.bl.size; simp at this ⊢; omega)))
  clear HPG HPH kxg kyg kxh kyh hx7 hy7 hbx7 hby7
  rename_i hHeld
  clear hHeld
  go_wp2_with fail
  go_ret
  exact ⟨rfl, HB9.out⟩
end Go.Proofs.Ytmlimefpmldlbaa
