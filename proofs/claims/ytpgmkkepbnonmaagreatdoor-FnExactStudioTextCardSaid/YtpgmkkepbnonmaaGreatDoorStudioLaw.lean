/- Contracts of the laws' helpers over states: measured, copied, equal. -/
import Derived.Test.YtpgmkkepbnonmaaGreatDoorStudioObj
import Derived.Test.YtpgmkkepbnonmaaGreatDoorOpLaw
import Derived.Test.YtpgmkkepbnonmaaGreatDoorBraidLaw
import Derived.Deep.RegionHeld3
namespace Go.Proofs.YtpgmkkepbnonmaaGreatDoor
open Go.RowKit
set_option maxRecDepth 20000

set_option maxHeartbeats 2000000 in
theorem szStudio_any (x s : Int) (A O B : Option Addr) (n q m p l t L : Nat) (d c : Nat → Int) (As : Nat → Option Addr) (ns cs : Nat → Nat) (z : Nat → Nat → Int) (w : World) (ha : RdRows A n d c As ns cs z w) (hn : n ≤ maxLen) (hns : ∀ j, j < n → ns j ≤ maxLen) (hm : m ≤ maxLen) (hl : l ≤ maxLen) (hL : L ≤ 1048576) :
    Calls Tryz.prog 4 #[.agg #[.int .i64 x, .slice A n q, .slice O m p, .int .i64 s, .slice B l t], .int .i64 L] w fun e w' => ∃ r : Int, SzStudio L n m l ns r ∧ e = .returned (.int .i64 r) ∧ Below w.heap.size w w' := by
  have HA := Lib.hid ha
  have LA := Lib.hid (rdRows_obj A n d c As ns cs z)
  have HNS := Lib.hid hns
  clear ha hns
  go_enter Tryz.func4, Tryz.ntmps4
  go_wp2_with fail
  refine (szRowS_any A n q L d c As ns cs z _ (LA.out.below HA.out (by (repeat' first | with_reducible exact Below.refl _ _ | with_reducible refine Below.alloc ?_ ?_ _ | with_reducible refine Below.setCell ?_ ?_ _ | with_reducible refine Below.drew ?_ | with_reducible refine Below.drewN' ?_ _ | with_reducible (refine Below.trans ?_ (Below.mono (by assumption) ?_)) | exact Nat.le_refl _ | (simp; done) | (simp; omega) | omega))) hn HNS.out hL).mono ?_
  rintro e w1 ⟨r1, hr1, rfl, hb1⟩
  have HR1 := Lib.hid hr1
  have A1 := Lib.hid (Blk.below (Blk.at_ w 28 #[.int .i64 x, .slice A n q, .slice O m p, .int .i64 s, .slice B l t] rfl) hb1 (by simp))
  have hz1 : w.heap.size < w1.heap.size := blt hb1 (by simp)
  have HB1 := Lib.hid (show Below w.heap.size w w1 from by (repeat' first | with_reducible exact Below.refl _ _ | with_reducible refine Below.alloc ?_ ?_ _ | with_reducible refine Below.setCell ?_ ?_ _ | with_reducible refine Below.drew ?_ | with_reducible refine Below.drewN' ?_ _ | with_reducible (refine Below.trans ?_ (Below.mono (by assumption) ?_)) | exact Nat.le_refl _ | (simp; done) | (simp; omega) | omega))
  have x1 := fun o => A1.out.cell o
  clear hr1 hb1
  by_cases h1 : r1 < 0
  · go_wp2
    go_ret
    exact ⟨-1, .inl (by omega), rfl, HB1.out⟩
  · obtain ⟨e1, e2⟩ := HR1.out.resolve_left h1
    obtain ⟨L1, hL1⟩ : ∃ L1 : Nat, r1 = L1 := ⟨r1.toNat, by omega⟩
    subst hL1
    have E2 := Lib.hid e2
    clear e2
    go_wp2_with fail
    refine (szOpS_any O m p L1 _ hm (by have := E2.out; omega)).mono ?_
    rintro e w2 ⟨r2, hr2, rfl, rfl⟩
    have HR2 := Lib.hid hr2
    clear hr2
    by_cases h2 : r2 < 0
    · go_wp2
      go_ret
      exact ⟨-1, .inl (by omega), rfl, HB1.out⟩
    · obtain ⟨e3, e4⟩ := HR2.out.resolve_left h2
      obtain ⟨L2, hL2⟩ : ∃ L2 : Nat, r2 = L2 := ⟨r2.toNat, by omega⟩
      subst hL2
      have E4 := Lib.hid e4
      clear e4
      go_wp2_with fail
      refine (szBraid_any s B l t L2 _ hl (by have := E2.out; have := E4.out; omega)).mono ?_
      rintro e w3 ⟨r3, hr3, rfl, hb3⟩
      have HR3 := Lib.hid hr3
      have HB3 := Lib.hid (HB1.out.trans (hb3.mono HB1.out.size))
      clear hr3 hb3
      by_cases h3 : r3 < 0
      · go_wp2
        go_ret
        exact ⟨-1, .inl (by omega), rfl, HB3.out⟩
      · go_wp2
        go_ret
        refine ⟨r3, .inr ?_, rfl, HB3.out⟩
        have := HR3.out.resolve_left (by omega)
        have := E2.out
        have := E4.out
        refine ⟨by omega, fun j hj => ?_, by omega, by omega, by omega⟩
        have := sumN_one ns hj
        omega

set_option maxHeartbeats 2000000 in
theorem toStudio_any (x s : Int) (A O B : Option Addr) (n q m p l t : Nat) (d c : Nat → Int) (As : Nat → Option Addr) (ns cs : Nat → Nat) (z : Nat → Nat → Int) (o b : Nat → Int) (w : World) (ha : RdStudio A O B n m l d c As ns cs z o b w) (hn : n ≤ 1048576) (hns : ∀ j, j < n → ns j ≤ 1048576) (hm : m ≤ 1048576) (hl : l ≤ 1048576) :
    Calls Tryz.prog 6 #[.agg #[.int .i64 x, .slice A n q, .slice O m p, .int .i64 s, .slice B l t]] w (StudioP w x s n m l d c ns z o b) := by
  have HA := Lib.hid ha
  have LA := Lib.hid (rdStudio_obj A O B n m l d c As ns cs z o b)
  have HNS := Lib.hid hns
  clear ha hns
  go_enter Tryz.func6, Tryz.ntmps6
  go_wp2_with fail
  refine (toRowS_any A n q d c As ns cs z _ (LA.out.below HA.out (by (repeat' first | with_reducible exact Below.refl _ _ | with_reducible refine Below.alloc ?_ ?_ _ | with_reducible refine Below.setCell ?_ ?_ _ | with_reducible refine Below.drew ?_ | with_reducible refine Below.drewN' ?_ _ | with_reducible (refine Below.trans ?_ (Below.mono (by assumption) ?_)) | exact Nat.le_refl _ | (simp; done) | (simp; omega) | omega))).1 hn HNS.out).mono ?_
  rintro e w1 ⟨A1, q1, As1, cs1, rfl, hn1⟩
  have hb1 := hn1.bl
  have X1 := Lib.hid (Blk.below (((Blk.at_ w 28 #[.int .i64 x, .slice A n q, .slice O m p, .int .i64 s, .slice B l t] rfl).alloc _).alloc _) hb1 (by first | (simp; done) | (simp; omega) | omega))
  have Y1 := Lib.hid (Blk.below ((Blk.at_ (g' := w.heap.size + 1) _ 35 #[.int .i64 0, .slice none 0 0, .slice none 0 0, .int .i64 0, .slice none 0 0] (by simp)).alloc _) hb1 (by first | (simp; done) | (simp; omega) | omega))
  have Z1 := Lib.hid (Blk.below (Blk.at_ (g' := w.heap.size + 1 + 1) _ 35 #[.int .i64 x, .slice none 0 0, .slice none 0 0, .int .i64 0, .slice none 0 0] (by simp)) hb1 (by first | (simp; done) | (simp; omega) | omega))
  have hz1 : w.heap.size + 1 + 1 < w1.heap.size := blt hb1 (by simp)
  have HB1 := Lib.hid (show Below w.heap.size w w1 from by (repeat' first | with_reducible exact Below.refl _ _ | with_reducible refine Below.alloc ?_ ?_ _ | with_reducible refine Below.setCell ?_ ?_ _ | with_reducible refine Below.drew ?_ | with_reducible refine Below.drewN' ?_ _ | with_reducible (refine Below.trans ?_ (Below.mono (by assumption) ?_)) | exact Nat.le_refl _ | (simp; done) | (simp; omega) | omega))
  have LO1 := Lib.hid (hn1.lo (k := w.heap.size + 3) (by first | (simp; done) | (simp; omega) | omega))
  have L1 := Lib.hid hn1.or
  have R1 := Lib.hid hn1.r
  have x1 := fun o => X1.out.cell o
  have z1' := fun o => Z1.out.cell o
  have z1f := fun o => Z1.out.frozen o
  clear hn1 hb1
  go_wp2_with fail
  have HA1 : RdStudio A O B n m l d c As ns cs z o b (w1.setCell ⟨w.heap.size + 1 + 1, 1, none⟩ (.slice A1 n q1)) := LA.out.below HA.out (by have hb1 := HB1.out; (repeat' first | with_reducible exact Below.refl _ _ | with_reducible refine Below.alloc ?_ ?_ _ | with_reducible refine Below.setCell ?_ ?_ _ | with_reducible refine Below.drew ?_ | with_reducible refine Below.drewN' ?_ _ | with_reducible (refine Below.trans ?_ (Below.mono (by assumption) ?_)) | exact Nat.le_refl _ | (simp; done) | (simp; omega) | omega))
  refine (toOpS_any O m p o _ HA1.2.1 hm).mono ?_
  rintro e w2 ⟨O1, p1, rfl, hn2'⟩
  have hn2 := hn2'.obj
  have hb2 := hn2.bl
  have X2 := Lib.hid (Blk.below (X1.out.far (p := ⟨w.heap.size + 1 + 1, 1, none⟩) (by simp; omega) _) hb2 (by first | (simp; done) | (simp; omega) | omega))
  have Y2 := Lib.hid (Blk.below (Y1.out.far (p := ⟨w.heap.size + 1 + 1, 1, none⟩) (by simp) _) hb2 (by first | (simp; done) | (simp; omega) | omega))
  have Z2 := Lib.hid (Blk.below (Z1.out.set_ 1 _) hb2 (by first | (simp; done) | (simp; omega) | omega))
  have hz2 : w.heap.size + 1 + 1 < w2.heap.size := blt hb2 (by first | (simp; done) | (simp; omega) | omega)
  have HB2 := Lib.hid (show Below w.heap.size w w2 from by have hb1 := HB1.out; (repeat' first | with_reducible exact Below.refl _ _ | with_reducible refine Below.alloc ?_ ?_ _ | with_reducible refine Below.setCell ?_ ?_ _ | with_reducible refine Below.drew ?_ | with_reducible refine Below.drewN' ?_ _ | with_reducible (refine Below.trans ?_ (Below.mono (by assumption) ?_)) | exact Nat.le_refl _ | (simp; done) | (simp; omega) | omega))
  have LO2 := Lib.hid (hn2.lo (k := w.heap.size + 3) (by first | (simp; done) | (simp; omega) | omega))
  have L2 := Lib.hid hn2.or
  have R2 := Lib.hid hn2.r
  have R1' := Lib.hid (L1.out.below (L1.out.set R1.out (p := ⟨w.heap.size + 1 + 1, 1, none⟩) (fun g hg => by have := LO1.out g hg; simp; omega) _) hb2)
  have x2 := fun o => X2.out.cell o
  have z2' := fun o => Z2.out.cell o
  have z2f := fun o => Z2.out.frozen o
  clear hn2 hn2' hb2 HA1 x1 z1' z1f R1
  go_wp2_with fail
  have HA2 : RdStudio A O B n m l d c As ns cs z o b (w2.setCell ⟨w.heap.size + 1 + 1, 2, none⟩ (.slice O1 m p1)) := LA.out.below HA.out (by have hb2 := HB2.out; (repeat' first | with_reducible exact Below.refl _ _ | with_reducible refine Below.alloc ?_ ?_ _ | with_reducible refine Below.setCell ?_ ?_ _ | with_reducible refine Below.drew ?_ | with_reducible refine Below.drewN' ?_ _ | with_reducible (refine Below.trans ?_ (Below.mono (by assumption) ?_)) | exact Nat.le_refl _ | (simp; done) | (simp; omega) | omega))
  refine (toBraid_any s B l t b _ HA2.2.2 hl).mono ?_
  rintro e w3 ⟨B1, t1, rfl, hn3'⟩
  have hn3 := hn3'.obj
  have hb3 := hn3.bl
  have Y3 := Lib.hid (Blk.below (Y2.out.far (p := ⟨w.heap.size + 1 + 1, 2, none⟩) (by simp) _) hb3 (by first | (simp; done) | (simp; omega) | omega))
  have Z3 := Lib.hid (Blk.below (Z2.out.set_ 2 _) hb3 (by first | (simp; done) | (simp; omega) | omega))
  have hz3 : w.heap.size + 1 + 1 < w3.heap.size := blt hb3 (by first | (simp; done) | (simp; omega) | omega)
  have HB3 := Lib.hid (show Below w.heap.size w w3 from by have hb2 := HB2.out; (repeat' first | with_reducible exact Below.refl _ _ | with_reducible refine Below.alloc ?_ ?_ _ | with_reducible refine Below.setCell ?_ ?_ _ | with_reducible refine Below.drew ?_ | with_reducible refine Below.drewN' ?_ _ | with_reducible (refine Below.trans ?_ (Below.mono (by assumption) ?_)) | exact Nat.le_refl _ | (simp; done) | (simp; omega) | omega))
  have LO3 := Lib.hid (hn3.lo (k := w.heap.size + 3) (by first | (simp; done) | (simp; omega) | omega))
  have L3 := Lib.hid hn3.or
  have R3 := Lib.hid hn3.r
  have R1'' := Lib.hid (L1.out.below (L1.out.set R1'.out (p := ⟨w.heap.size + 1 + 1, 2, none⟩) (fun g hg => by have := LO1.out g hg; simp; omega) _) hb3)
  have R2' := Lib.hid (L2.out.below (L2.out.set R2.out (p := ⟨w.heap.size + 1 + 1, 2, none⟩) (fun g hg => by have := LO2.out g hg; simp; omega) _) hb3)
  have y3 := fun o => Y3.out.cell o
  have y3f := fun o => Y3.out.frozen o
  have z3' := fun o => Z3.out.cell o
  have z3f := fun o => Z3.out.frozen o
  clear hn3 hn3' hb3 HA2 x2 z2' z2f R1' R2
  go_wp2
  refine bodyPost_ret (v := .agg #[.int .i64 x, .slice A1 n q1, .slice O1 m p1, .int .i64 s, .slice B1 l t1]) (by simp [results, Tryz.results6, go_sem, y3]) rfl ⟨A1, q1, O1, p1, B1, t1, As1, cs1, rfl, ?_⟩
  have hR : ∀ wF, Fr w3 wF (fun g => g = w.heap.size + 1 ∨ g = w.heap.size + 1 + 1) → Below w.heap.size w wF → NewO w wF (RdStudio A1 O1 B1 n m l d c As1 ns cs1 z o b) (RdStudio A1 O1 B1 n m l d c As1 ns cs1 z o b) (FStudio A1 O1 B1 n m l As1 ns) := by
    intro wF hf hb
    have r : RdStudio A1 O1 B1 n m l d c As1 ns cs1 z o b wF := ⟨L1.out.fr R1''.out hf (fun g hg h2 => by have := LO1.out g hg; omega), L2.out.fr R2'.out hf (fun g hg h2 => by have := LO2.out g hg; omega), L3.out.fr R3.out hf (fun g hg h2 => by have := LO3.out g hg; omega)⟩
    refine ⟨hb, fun g hg => ?_, r, r, rdStudio_obj _ _ _ _ _ _ _ _ _ _ _ _ _ _, rdStudio_obj _ _ _ _ _ _ _ _ _ _ _ _ _ _⟩
    rcases hg with hg | hg | hg
    · have := LO1.out g hg; omega
    · have := LO2.out g hg; omega
    · have := LO3.out g hg; omega
  have hb3 := HB3.out
  exact hR _ (by (repeat' first | with_reducible exact Fr.refl _ _ | with_reducible refine Fr.set ?_ ?_ _ | (simp; done) | omega)) (by (repeat' first | with_reducible exact Below.refl _ _ | with_reducible refine Below.alloc ?_ ?_ _ | with_reducible refine Below.setCell ?_ ?_ _ | with_reducible refine Below.drew ?_ | with_reducible refine Below.drewN' ?_ _ | with_reducible (refine Below.trans ?_ (Below.mono (by assumption) ?_)) | exact Nat.le_refl _ | (simp; done) | (simp; omega) | omega))

set_option maxHeartbeats 2000000 in
theorem eqStudio_any (x s : Int) (A O B A' O' B' : Option Addr) (n m l q p t q' p' t' : Nat) (d c : Nat → Int) (As As' : Nat → Option Addr) (ns cs cs' : Nat → Nat) (z : Nat → Nat → Int) (o b : Nat → Int) (w : World) (ha : RdStudio A O B n m l d c As ns cs z o b w) (hb : RdStudio A' O' B' n m l d c As' ns cs' z o b w) (hn : n ≤ 1000000000) (hns : ∀ j, j < n → ns j ≤ 1000000000) (hm : m ≤ 1000000000) (hl : l ≤ 1000000000) :
    Calls Tryz.prog 8 #[.agg #[.int .i64 x, .slice A n q, .slice O m p, .int .i64 s, .slice B l t], .agg #[.int .i64 x, .slice A' n q', .slice O' m p', .int .i64 s, .slice B' l t']] w fun e w' => e = .returned (.bool true) ∧ Below w.heap.size w w' := by
  have HA := Lib.hid ha
  have HA' := Lib.hid hb
  have LA := Lib.hid (rdStudio_obj A O B n m l d c As ns cs z o b)
  have LA' := Lib.hid (rdStudio_obj A' O' B' n m l d c As' ns cs' z o b)
  have HNS := Lib.hid hns
  clear ha hb hns
  go_enter Tryz.func8, Tryz.ntmps8
  go_wp2_with fail
  refine (eqRowS_any A A' n q q' d c As As' ns cs cs' z _ (LA.out.below HA.out (by (repeat' first | with_reducible exact Below.refl _ _ | with_reducible refine Below.alloc ?_ ?_ _ | with_reducible refine Below.setCell ?_ ?_ _ | with_reducible refine Below.drew ?_ | with_reducible refine Below.drewN' ?_ _ | with_reducible (refine Below.trans ?_ (Below.mono (by assumption) ?_)) | exact Nat.le_refl _ | (simp; done) | (simp; omega) | omega))).1 (LA'.out.below HA'.out (by (repeat' first | with_reducible exact Below.refl _ _ | with_reducible refine Below.alloc ?_ ?_ _ | with_reducible refine Below.setCell ?_ ?_ _ | with_reducible refine Below.drew ?_ | with_reducible refine Below.drewN' ?_ _ | with_reducible (refine Below.trans ?_ (Below.mono (by assumption) ?_)) | exact Nat.le_refl _ | (simp; done) | (simp; omega) | omega))).1 hn HNS.out).mono ?_
  rintro e w1 ⟨rfl, hb1⟩
  have X1 := Lib.hid (Blk.below ((Blk.at_ w 35 #[.int .i64 x, .slice A n q, .slice O m p, .int .i64 s, .slice B l t] rfl).alloc _) hb1 (by first | (simp; done) | (simp; omega) | omega))
  have Y1 := Lib.hid (Blk.below (Blk.at_ (g' := w.heap.size + 1) _ 35 #[.int .i64 x, .slice A' n q', .slice O' m p', .int .i64 s, .slice B' l t'] (by simp)) hb1 (by first | (simp; done) | (simp; omega) | omega))
  have hz1 : w.heap.size + 1 < w1.heap.size := blt hb1 (by simp)
  have HB1 := Lib.hid (show Below w.heap.size w w1 from by (repeat' first | with_reducible exact Below.refl _ _ | with_reducible refine Below.alloc ?_ ?_ _ | with_reducible refine Below.setCell ?_ ?_ _ | with_reducible refine Below.drew ?_ | with_reducible refine Below.drewN' ?_ _ | with_reducible (refine Below.trans ?_ (Below.mono (by assumption) ?_)) | exact Nat.le_refl _ | (simp; done) | (simp; omega) | omega))
  have x1 := fun o => X1.out.cell o
  have y1 := fun o => Y1.out.cell o
  clear hb1
  go_wp2_with fail
  refine (eqOpS_any O O' m p p' o _ (LA.out.below HA.out HB1.out).2.1 (LA'.out.below HA'.out HB1.out).2.1 hm).mono ?_
  rintro e w2 ⟨rfl, hb2⟩
  have X2 := Lib.hid (X1.out.below hb2 (by omega))
  have Y2 := Lib.hid (Y1.out.below hb2 (by omega))
  have HB2 := Lib.hid (HB1.out.trans (hb2.mono HB1.out.size))
  have x2 := fun o => X2.out.cell o
  have y2 := fun o => Y2.out.cell o
  clear hb2 x1 y1
  go_wp2_with fail
  refine (eqBraid1_any s B B' l t t' b _ (LA.out.below HA.out HB2.out).2.2 (LA'.out.below HA'.out HB2.out).2.2 hl).mono ?_
  rintro e w3 ⟨rfl, hb3⟩
  have HB3 := Lib.hid (HB2.out.trans (hb3.mono HB2.out.size))
  clear hb3
  go_wp2_with fail
  go_ret
  exact ⟨rfl, HB3.out⟩
end Go.Proofs.YtpgmkkepbnonmaaGreatDoor
