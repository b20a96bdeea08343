/- Walks: the parts of a machine that the program reads. No condition but the machine's bounds. Walks: the needle that faces a needle, by the program. No condition but the machine's bounds. Plain law: the program's code of an operation is the reference's. -/
import Derived.Test.YtpmfkpehmckgmaaMachJ
import Derived.Handy
namespace Go.Proofs.Ytpmfkpehmckgmaa
open Go.RowKit
set_option maxRecDepth 20000

theorem place_any (b a r : Int) (w : World) (h0 : 0 ≤ a) (h1 : a ≤ 23) (h2 : -3 ≤ r) (h3 : r ≤ 3) : Calls Try.prog 98 #[.agg #[.int .i64 b, .int .i64 a], .int .i64 r] w fun e w' => e = .returned (.int .i64 (placeI b a r)) ∧ Below w.heap.size w w' := by
  by_cases hb : b = 2
  · subst hb
    go_enter Try.func98, Try.ntmps98
    go_wp2
    go_ret
    exact ⟨by simp [placeI], by (repeat' first | with_reducible exact Below.refl _ _ | with_reducible refine Below.alloc ?_ ?_ _ | with_reducible refine Below.setCell ?_ ?_ _ | with_reducible refine Below.drew ?_ | with_reducible refine Below.drewN' ?_ _ | with_reducible (refine Below.trans ?_ (Below.mono (by assumption) ?_)) | exact Nat.le_refl _ | (simp; done) | (simp; omega) | omega)⟩
  · have hb' : (b == 2) = false := by simpa using hb
    go_enter Try.func98, Try.ntmps98
    go_wp2
    go_ret
    exact ⟨by simp [placeI, hb], by (repeat' first | with_reducible exact Below.refl _ _ | with_reducible refine Below.alloc ?_ ?_ _ | with_reducible refine Below.setCell ?_ ?_ _ | with_reducible refine Below.drew ?_ | with_reducible refine Below.drewN' ?_ _ | with_reducible (refine Below.trans ?_ (Below.mono (by assumption) ?_)) | exact Nat.le_refl _ | (simp; done) | (simp; omega) | omega)⟩
def makesB (k : Int) : Bool := (k == 1) || ((k == 2) || (k == 5))
theorem makesLoop_any (k : Int) (w : World) (h1 : 1 ≤ k) (h9 : k ≤ 9) : Calls Try.prog 97 #[.int .i64 k] w fun e w' => e = .returned (.bool (makesB k)) ∧ w = w' := by
  have hk : k = 1 ∨ k = 2 ∨ k = 3 ∨ k = 4 ∨ k = 5 ∨ k = 6 ∨ k = 7 ∨ k = 8 ∨ k = 9 := by omega
  clear h1 h9
  rcases hk with rfl | rfl | rfl | rfl | rfl | rfl | rfl | rfl | rfl
  all_goals
    go_enter Try.func97, Try.ntmps97
    go_wp2
    go_ret
    exact ⟨rfl, rfl⟩
section
variable {tg : Nat → Nat} {a : MAdr} {s : Mst} {D : Nat} {w : World}
theorem on_any (b x : Int) (H : Mem tg a s w) (hb : b = 1 ∨ b = 2) (hx : 0 ≤ x) (hx1 : x < s.W) : Calls Try.prog 93 #[.pointer (some ⟨a.g, 0, none⟩), .agg #[.int .i64 b, .int .i64 x]] w fun e w' => e = .returned (.pointer (some ⟨bedG a b, x.toNat, none⟩)) ∧ Below w.heap.size w w' := by
  have hg : Below w.heap.size w (w.alloc (.cells #[.int .i64 b, .int .i64 x] 37)) := (Below.refl _ _).alloc (Nat.le_refl _) _
  have m2 : (w.alloc (.cells #[.int .i64 b, .int .i64 x] 37)).cell? ⟨a.g, 2, none⟩ = some (.slice (some ⟨a.gf, 0, none⟩) s.W a.cf) := (H.below hg).m.cell 2
  have m3 : (w.alloc (.cells #[.int .i64 b, .int .i64 x] 37)).cell? ⟨a.g, 3, none⟩ = some (.slice (some ⟨a.gk, 0, none⟩) s.W a.ck) := (H.below hg).m.cell 3
  clear H
  rcases hb with rfl | rfl
  all_goals
    go_enter Try.func93, Try.ntmps93
    go_wp2_with fail
    go_region
    go_wp2_with fail
    go_ret
    exact ⟨rfl, by (repeat' first | with_reducible exact Below.refl _ _ | with_reducible refine Below.alloc ?_ ?_ _ | with_reducible refine Below.setCell ?_ ?_ _ | with_reducible refine Below.drew ?_ | with_reducible refine Below.drewN' ?_ _ | with_reducible (refine Below.trans ?_ (Below.mono (by assumption) ?_)) | exact Nat.le_refl _ | (simp; done) | (simp; omega) | omega)⟩
def fitsB (s : Mst) (k d fb fa : Int) (j : Nat) : Bool := if k = 4 ∨ k = 6 ∨ k = 7 then true else if k = 8 then !s.cin j else if k = 9 then s.cin j else carryB s d (placeI fb fa s.rk) j
abbrev opV (k d fb fa tb ta c r : Int) : Value := .agg #[.int .i64 k, .int .i64 d, .int .i64 fb, .int .i64 fa, .int .i64 tb, .int .i64 ta, .int .i64 c, .int .i64 r]
set_option maxHeartbeats 1000000 in
theorem fits_any {k d fb fa tb ta c r : Int} {j : Nat} (H : Mem tg a s w) (hs : MOk s D) (hp : OpOk s.W k d fb fa tb ta c r j) : Calls Try.prog 112 #[.pointer (some ⟨a.g, 0, none⟩), .agg #[.int .i64 k, .int .i64 d, .int .i64 fb, .int .i64 fa, .int .i64 tb, .int .i64 ta, .int .i64 c, .int .i64 r]] w fun e w' => e = .returned (.bool (fitsB s k d fb fa j)) ∧ Below w.heap.size w w' := by
  have hk : (k = 4 ∨ k = 6 ∨ k = 7) ∨ (k = 8 ∨ k = 9) ∨ (k = 1 ∨ k = 2 ∨ k = 3 ∨ k = 5) := by have := hp.k1; have := hp.k9; omega
  have hg : Below w.heap.size w (w.alloc (.cells #[.int .i64 k, .int .i64 d, .int .i64 fb, .int .i64 fa, .int .i64 tb, .int .i64 ta, .int .i64 c, .int .i64 r] 58)) := (Below.refl _ _).alloc (Nat.le_refl _) _
  have HM := Lib.hid (H.below hg)
  have HS := Lib.hid hs
  have HP := Lib.hid hp
  clear H hs hp hg
  rcases hk with hk | hk | hk
  · have HX := Lib.hid (show fitsB s k d fb fa j = true by unfold fitsB; rw [if_pos hk])
    clear HM HS HP
    rcases hk with rfl | rfl | rfl
    all_goals
      go_enter Try.func112, Try.ntmps112
      go_wp2_with fail
      go_ret
      exact ⟨by rw [HX.out]; rfl, by (repeat' first | with_reducible exact Below.refl _ _ | with_reducible refine Below.alloc ?_ ?_ _ | with_reducible refine Below.setCell ?_ ?_ _ | with_reducible refine Below.drew ?_ | with_reducible refine Below.drewN' ?_ _ | with_reducible (refine Below.trans ?_ (Below.mono (by assumption) ?_)) | exact Nat.le_refl _ | (simp; done) | (simp; omega) | omega)⟩
  · obtain ⟨rfl, hj⟩ := HP.out.car (by omega) (by omega) (by omega)
    have m4 := (show _ = some (Value.slice (some ⟨a.gc, 0, none⟩) 4 a.cc) from HM.out.m.cell 4)
    obtain ⟨k0, _, _, _⟩ := HM.out.car hj
    obtain ⟨b, hb⟩ : ∃ b, b = s.cin j := ⟨_, rfl⟩
    rw [← hb] at k0
    rcases hk with rfl | rfl
    · have HX := Lib.hid (show fitsB s 8 d fb fa j = !b by unfold fitsB; rw [hb]; rfl)
      clear HM HS HP hb
      go_enter Try.func112, Try.ntmps112
      go_wp2_with fail
      go_region
      go_wp2_with fail
      go_ret
      exact ⟨by rw [HX.out]; rfl, by (repeat' first | with_reducible exact Below.refl _ _ | with_reducible refine Below.alloc ?_ ?_ _ | with_reducible refine Below.setCell ?_ ?_ _ | with_reducible refine Below.drew ?_ | with_reducible refine Below.drewN' ?_ _ | with_reducible (refine Below.trans ?_ (Below.mono (by assumption) ?_)) | exact Nat.le_refl _ | (simp; done) | (simp; omega) | omega)⟩
    · have HX := Lib.hid (show fitsB s 9 d fb fa j = b by unfold fitsB; rw [hb]; rfl)
      clear HM HS HP hb
      go_enter Try.func112, Try.ntmps112
      go_wp2_with fail
      go_region
      go_wp2_with fail
      go_ret
      exact ⟨by rw [HX.out]; rfl, by (repeat' first | with_reducible exact Below.refl _ _ | with_reducible refine Below.alloc ?_ ?_ _ | with_reducible refine Below.setCell ?_ ?_ _ | with_reducible refine Below.drew ?_ | with_reducible refine Below.drewN' ?_ _ | with_reducible (refine Below.trans ?_ (Below.mono (by assumption) ?_)) | exact Nat.le_refl _ | (simp; done) | (simp; omega) | omega)⟩
  · obtain ⟨rfl, hj⟩ := HP.out.car (by omega) (by omega) (by omega)
    have hd := HP.out.dir (by omega) (by omega) (by omega) (by omega)
    have ha0 := HP.out.f0
    have ha1 := HP.out.f1
    have hw2 := HS.out.w2
    have hr1 := HS.out.r1
    have hr2 := HS.out.r2
    have hxb := placeI_bd (b := fb) ha0 (show fa ≤ 23 by omega) hr1 hr2
    obtain ⟨x, hx⟩ : ∃ x, x = placeI fb fa s.rk := ⟨_, rfl⟩
    rw [← hx] at hxb
    have m4 := (show _ = some (Value.slice (some ⟨a.gc, 0, none⟩) 4 a.cc) from HM.out.m.cell 4)
    have m1 := (show _ = some (Value.int .i64 s.rk) from HM.out.m.cell 1)
    obtain ⟨k0, k1, _, _⟩ := HM.out.car hj
    have hcb := HS.out.ca j hj
    obtain ⟨b, hb⟩ : ∃ b, b = s.cin j := ⟨_, rfl⟩
    obtain ⟨ct, hct⟩ : ∃ b, b = s.cat j := ⟨_, rfl⟩
    rw [← hb] at k0
    rw [← hct] at k1 hcb
    have HX := Lib.hid (show fitsB s k d fb fa j = (b && !(decide (d = 1) && decide (x < ct)) && !(decide (d = -1) && decide (ct < x + 1))) by
      unfold fitsB carryB
      rw [if_neg (by omega), if_neg (by omega), if_neg (by omega), hb, hx, hct])
    have HXX := Lib.hid hx
    clear hb hct hx HS HP
    have hk' : (k == 4) = false ∧ (k == 6) = false ∧ (k == 7) = false ∧ (k == 8) = false ∧ (k == 9) = false := by simp; omega
    obtain ⟨h4, h6, h7, h8, h9⟩ := hk'
    go_enter Try.func112, Try.ntmps112
    have hwj : IntKind.i64.wrap (j : Int) = j := by rw [IntKind.wrap_i64]; omega
    have hj0 : (0 : Int) ≤ j := by omega
    have hj4 : (j : Int) < 4 := by omega
    have n4 := World.new_ne _ _ m4
    have n0 := World.new_ne _ _ k0
    have o6 : (w.alloc (.cells #[.int .i64 k, .int .i64 d, .int .i64 fb, .int .i64 fa, .int .i64 tb, .int .i64 ta, .int .i64 ((j : Int) + 1), .int .i64 r] 58)).cell? ⟨w.heap.size, 6, none⟩ = some (.int .i64 ((j : Int) + 1)) := by simp
    have n6 := World.new_ne _ _ o6
    go_wp2_with fail
    go_region_held3 (fun w' => w'.cell? ⟨a.g, 4, none⟩ = some (.slice (some ⟨a.gc, 0, none⟩) 4 a.cc) ∧ w'.cell? ⟨w.heap.size, 6, none⟩ = some (.int .i64 ((j : Int) + 1)) ∧ w'.cell? ⟨a.gc, j * 2, none⟩ = some (.bool b) ∧ w'.cell? ⟨a.gc, j * 2 + 1, none⟩ = some (.int .i64 ct)) (go_keep) (fail)
    rename_i hHeld
    clear hHeld n4 n0 n6 o6
    obtain ⟨W1, hW1⟩ : ∃ x, x = w.alloc (.cells #[.int .i64 k, .int .i64 d, .int .i64 fb, .int .i64 fa, .int .i64 tb, .int .i64 ta, .int .i64 ((j : Int) + 1), .int .i64 r] 58) := ⟨_, rfl⟩
    have e1 : W1.cell? ⟨w.heap.size, 1, none⟩ = some (.int .i64 d) := by rw [hW1]; simp
    have e2 : W1.cell? ⟨w.heap.size, 2, none⟩ = some (.int .i64 fb) := by rw [hW1]; simp
    have e3 : W1.cell? ⟨w.heap.size, 2 + 1, none⟩ = some (.int .i64 fa) := by rw [hW1]; simp
    have hsz : W1.heap.size = w.heap.size + 1 := by rw [hW1]; simp
    have hBW : Below w.heap.size w W1 := by rw [hW1]; exact (Below.refl _ _).alloc (Nat.le_refl _) _
    rw [← hW1] at m1 ⊢
    have HBW := Lib.hid hBW
    have hg1 := World.block_lt_of_cell? _ _ m1
    obtain ⟨W2, hW2⟩ : ∃ x, x = W1.alloc (.cells #[.bool b, .int .i64 ct] 107) := ⟨_, rfl⟩
    have hB2 : Below W1.heap.size W1 W2 := by rw [hW2]; exact (Below.refl _ _).alloc (Nat.le_refl _) _
    have g1 := ((bcell hB2).1 _ 1 (by omega)).trans e1
    have g2 := ((bcell hB2).1 _ 2 (by omega)).trans e2
    have g3 := ((bcell hB2).1 _ (2 + 1) (by omega)).trans e3
    have r1 := ((bcell hB2).1 a.g 1 hg1).trans m1
    have c0 : W2.cell? ⟨W1.heap.size, 0, none⟩ = some (.bool b) := by rw [hW2]; simp
    have c1 : W2.cell? ⟨W1.heap.size, 1, none⟩ = some (.int .i64 ct) := by rw [hW2]; simp
    have hz2 : W2.heap.size = w.heap.size + 2 := by rw [hW2]; simp [hsz]
    rw [hsz] at c0 c1
    have HB2 := Lib.hid hB2
    have HZ := Lib.hid (And.intro hsz hz2)
    have HG := Lib.hid hg1
    rw [← hW2]
    have G2 := Lib.hid g2
    have G3 := Lib.hid g3
    have R1 := Lib.hid r1
    clear k0 k1 m1 m4 e1 e2 e3 hBW hW1 HM hg1 hB2 hW2 hsz hz2 hwj hj0 hj4
    go_wp2_with fail
    go_region_held3 (fun w' => w'.cell? ⟨w.heap.size, 2, none⟩ = some (.int .i64 fb) ∧ w'.cell? ⟨w.heap.size, 2 + 1, none⟩ = some (.int .i64 fa) ∧ w'.cell? ⟨a.g, 1, none⟩ = some (.int .i64 s.rk)) (go_keep)
      ((go_at_call 98; refine (place_any fb fa s.rk _ ha0 (by omega) hr1 hr2).mono ?_; rintro e w3 ⟨he, hb3⟩; obtain rfl : e = .returned (.int .i64 x) := he.trans (by rw [HXX.out]); have HB3 : Hid (Below W2.heap.size W2 w3) := Lib.hid (((Below.refl W2.heap.size W2).drew.drew).trans hb3); have kx2 := ((bcell HB3.out).1 w.heap.size 2 (by have := HZ.out.2; omega)).trans G2.out; have kx3 := ((bcell HB3.out).1 w.heap.size (2 + 1) (by have := HZ.out.2; omega)).trans G3.out; have km1 := ((bcell HB3.out).1 a.g 1 (by have := HG.out; have := HB2.out.size; omega)).trans R1.out; clear hb3 he))
    rename_i hHeld
    have h1 := ((bcell HB3.out).1 w.heap.size 1 (by have := HZ.out.2; omega)).trans g1
    have h2 := ((bcell HB3.out).1 (w.heap.size + 1) 0 (by have := HZ.out.1; have := HZ.out.2; omega)).trans c0
    have h3 := ((bcell HB3.out).1 (w.heap.size + 1) 1 (by have := HZ.out.1; have := HZ.out.2; omega)).trans c1
    clear hHeld kx2 kx3 km1 g1 g2 g3 r1 c0 c1
    have HFIN : Hid (Below w.heap.size w w3) := Lib.hid ((HBW.out.trans (HB2.out.mono HBW.out.size)).trans (HB3.out.mono (Nat.le_trans HBW.out.size HB2.out.size)))
    cases b
    · go_wp2_with fail
      go_ret
      exact ⟨by rw [HX.out]; rfl, HFIN.out⟩
    · rcases hd with rfl | rfl
      · have HY := Lib.hid (show fitsB s k 1 fb fa j = decide (ct ≤ x) by rw [HX.out]; by_cases h : x < ct <;> simp [h] <;> omega)
        go_wp2_with fail
        all_goals
          go_ret
          refine ⟨?_, HFIN.out⟩
          rw [HY.out]
          first
            | rfl
            | exact congrArg (fun z => Ending.returned (Value.bool z)) (decide_eq_true (by assumption)).symm
            | exact congrArg (fun z => Ending.returned (Value.bool z)) (decide_eq_false (by omega)).symm
      · have HY := Lib.hid (show fitsB s k (-1) fb fa j = decide (x + 1 ≤ ct) by rw [HX.out]; by_cases h : ct < x + 1 <;> simp [h] <;> omega)
        go_wp2_with fail
        all_goals
          go_ret
          refine ⟨?_, HFIN.out⟩
          rw [HY.out]
          first
            | rfl
            | exact congrArg (fun z => Ending.returned (Value.bool z)) (decide_eq_true (by assumption)).symm
            | exact congrArg (fun z => Ending.returned (Value.bool z)) (decide_eq_false (by omega)).symm
end
end Go.Proofs.Ytpmfkpehmckgmaa

namespace Go.Proofs.Ytpmfkpehmckgmaa
open Go.RowKit
set_option maxRecDepth 20000

theorem otherBed_any (b : Int) (w : World) (hb : b = 1 ∨ b = 2) : Calls Try.prog 123 #[.int .i64 b] w fun e w' => e = .returned (.int .i64 (3 - b)) ∧ w = w' := by
  rcases hb with rfl | rfl
  all_goals
    go_enter Try.func123, Try.ntmps123
    go_wp2
    go_ret
    exact ⟨rfl, rfl⟩
theorem new_at (W : World) (cs : Array Value) (t : TypeId) {q : Nat} (hq : q = W.heap.size) (o : Nat) : (W.alloc (.cells cs t)).cell? ⟨q, o, none⟩ = cs[o]? := by
  subst hq
  simp
/-- The needle that faces one, its number. -/
def faceI (b x r : Int) : Int := if b = 2 then x + r else x - r
section
variable {tg : Nat → Nat} {a : MAdr} {s : Mst} {D : Nat} {w : World}
set_option maxHeartbeats 1000000 in
theorem facing_any (b x : Int) (H : Mem tg a s w) (hs : MOk s D) (hb : b = 1 ∨ b = 2) (hx : 0 ≤ x) (hx1 : x < s.W) : Calls Try.prog 113 #[.pointer (some ⟨a.g, 0, none⟩), .agg #[.int .i64 b, .int .i64 x]] w fun e w' => e = .returned (.tuple #[.agg #[.int .i64 (3 - b), .int .i64 (faceI b x s.rk)], .bool (inB (faceI b x s.rk) 0 ((s.W : Int) - 1))]) ∧ Below w.heap.size w w' := by
  have hw2 := hs.w2
  have hr1 := hs.r1
  have hr2 := hs.r2
  have hg : Below w.heap.size w ((w.alloc (.cells #[.int .i64 b, .int .i64 x] 37)).alloc (.cells #[.int .i64 0, .int .i64 0] 37)) := by (repeat' first | with_reducible exact Below.refl _ _ | with_reducible refine Below.alloc ?_ ?_ _ | with_reducible refine Below.setCell ?_ ?_ _ | with_reducible refine Below.drew ?_ | with_reducible refine Below.drewN' ?_ _ | with_reducible (refine Below.trans ?_ (Below.mono (by assumption) ?_)) | exact Nat.le_refl _ | (simp; done) | (simp; omega) | omega)
  have HM := Lib.hid (H.below hg)
  have m0 := (show _ = some (Value.int .i64 s.W) from HM.out.m.cell 0)
  have m1 := (show _ = some (Value.int .i64 s.rk) from HM.out.m.cell 1)
  have m0w : w.cell? ⟨a.g, 0, none⟩ = some (.int .i64 s.W) := H.m.cell 0
  have M0W := Lib.hid m0w
  clear m0w
  have hga := H.m.lt
  have hq1 : w.heap.size ≠ a.g := by omega
  have hq2 : w.heap.size + 1 ≠ a.g := by omega
  have hq3 : w.heap.size + 1 + 1 ≠ a.g := by omega
  have HGA := Lib.hid hga
  have hww : IntKind.i64.wrap ((s.W : Int) - 1) = (s.W : Int) - 1 := by rw [IntKind.wrap_i64]; omega
  clear H hs hg hga
  rcases hb with rfl | rfl
  · skip
    have e0 : ((w.alloc (.cells #[.int .i64 1, .int .i64 x] 37)).alloc (.cells #[.int .i64 0, .int .i64 0] 37)).cell? ⟨w.heap.size, 0, none⟩ = some (.int .i64 1) := by simp
    have e1 : ((w.alloc (.cells #[.int .i64 1, .int .i64 x] 37)).alloc (.cells #[.int .i64 0, .int .i64 0] 37)).cell? ⟨w.heap.size, 1, none⟩ = some (.int .i64 x) := by simp
    have n1 := World.new_ne _ _ m1
    have n0 := World.new_ne _ _ e0
    have hwr : IntKind.i64.wrap (x - s.rk) = x - s.rk := by rw [IntKind.wrap_i64]; omega
    go_enter Try.func113, Try.ntmps113
    go_wp2_with fail
    go_region_held3 (fun w' => w'.cell? ⟨w.heap.size, 0, none⟩ = some (.int .i64 1) ∧ w'.cell? ⟨w.heap.size, 1, none⟩ = some (.int .i64 x) ∧ w'.cell? ⟨a.g, 1, none⟩ = some (.int .i64 s.rk)) (go_keep)
      ((go_at_call 123; refine (otherBed_any 1 _ (by omega)).mono ?_; rintro e w' ⟨rfl, rfl⟩))
    all_goals
      rename_i hHeld
      clear hHeld
      go_wp2_with fail
      have p0 : (((w.alloc (.cells #[.int .i64 1, .int .i64 x] 37)).alloc (.cells #[.int .i64 0, .int .i64 0] 37)).alloc (.cells #[.int .i64 2, .int .i64 (x - s.rk)] 37)).cell? ⟨w.heap.size + 1 + 1, 0, none⟩ = some (.int .i64 2) := (new_at _ _ _ (by simp) 0).trans rfl
      have p1 : (((w.alloc (.cells #[.int .i64 1, .int .i64 x] 37)).alloc (.cells #[.int .i64 0, .int .i64 0] 37)).alloc (.cells #[.int .i64 2, .int .i64 (x - s.rk)] 37)).cell? ⟨w.heap.size + 1 + 1, 1, none⟩ = some (.int .i64 (x - s.rk)) := (new_at _ _ _ (by simp) 1).trans rfl
      have p2 : (((w.alloc (.cells #[.int .i64 1, .int .i64 x] 37)).alloc (.cells #[.int .i64 0, .int .i64 0] 37)).alloc (.cells #[.int .i64 2, .int .i64 (x - s.rk)] 37)).cell? ⟨a.g, 0, none⟩ = some (.int .i64 s.W) := (World.cell?_alloc_some _ _ _ (by rw [m0]; rfl)).trans m0
      have q0 : (((w.alloc (.cells #[.int .i64 1, .int .i64 x] 37)).alloc (.cells #[.int .i64 2, .int .i64 (x - s.rk)] 37)).alloc (.cells #[.int .i64 2, .int .i64 (x - s.rk)] 37)).cell? ⟨w.heap.size + 1 + 1, 0, none⟩ = some (.int .i64 2) := (new_at _ _ _ (by simp) 0).trans rfl
      have q1 : (((w.alloc (.cells #[.int .i64 1, .int .i64 x] 37)).alloc (.cells #[.int .i64 2, .int .i64 (x - s.rk)] 37)).alloc (.cells #[.int .i64 2, .int .i64 (x - s.rk)] 37)).cell? ⟨w.heap.size + 1 + 1, 1, none⟩ = some (.int .i64 (x - s.rk)) := (new_at _ _ _ (by simp) 1).trans rfl
      have q2 : (((w.alloc (.cells #[.int .i64 1, .int .i64 x] 37)).alloc (.cells #[.int .i64 2, .int .i64 (x - s.rk)] 37)).alloc (.cells #[.int .i64 2, .int .i64 (x - s.rk)] 37)).cell? ⟨a.g, 0, none⟩ = some (.int .i64 s.W) := by
        have h1 := (World.cell?_alloc_some w ⟨a.g, 0, none⟩ (.cells #[.int .i64 1, .int .i64 x] 37) (by rw [M0W.out]; rfl)).trans M0W.out
        have h2 := (World.cell?_alloc_some _ ⟨a.g, 0, none⟩ (.cells #[.int .i64 2, .int .i64 (x - s.rk)] 37) (by rw [h1]; rfl)).trans h1
        exact (World.cell?_alloc_some _ ⟨a.g, 0, none⟩ (.cells #[.int .i64 2, .int .i64 (x - s.rk)] 37) (by rw [h2]; rfl)).trans h2
      go_region_held3 (fun w' => w'.cell? ⟨w.heap.size + 1 + 1, 0, none⟩ = some (.int .i64 2) ∧ w'.cell? ⟨w.heap.size + 1 + 1, 1, none⟩ = some (.int .i64 (x - s.rk)) ∧ w'.cell? ⟨a.g, 0, none⟩ = some (.int .i64 s.W)) (go_keep)
        ((go_at_call 69; refine (within_any _ _ _ _).mono ?_; rintro e w' ⟨rfl, rfl⟩))
      all_goals
        rename_i hHeld
        clear hHeld
        go_wp2_with fail
        go_returns
        exact ⟨by simp [faceI], by (repeat' first | with_reducible exact Below.refl _ _ | with_reducible refine Below.alloc ?_ ?_ _ | with_reducible refine Below.setCell ?_ ?_ _ | with_reducible refine Below.drew ?_ | with_reducible refine Below.drewN' ?_ _ | with_reducible (refine Below.trans ?_ (Below.mono (by assumption) ?_)) | exact Nat.le_refl _ | (simp; done) | (simp; omega) | omega)⟩
  · skip
    have e0 : ((w.alloc (.cells #[.int .i64 2, .int .i64 x] 37)).alloc (.cells #[.int .i64 0, .int .i64 0] 37)).cell? ⟨w.heap.size, 0, none⟩ = some (.int .i64 2) := by simp
    have e1 : ((w.alloc (.cells #[.int .i64 2, .int .i64 x] 37)).alloc (.cells #[.int .i64 0, .int .i64 0] 37)).cell? ⟨w.heap.size, 1, none⟩ = some (.int .i64 x) := by simp
    have n1 := World.new_ne _ _ m1
    have n0 := World.new_ne _ _ e0
    have hwr : IntKind.i64.wrap (x - s.rk) = x - s.rk := by rw [IntKind.wrap_i64]; omega
    go_enter Try.func113, Try.ntmps113
    go_wp2_with fail
    go_region_held3 (fun w' => w'.cell? ⟨w.heap.size, 0, none⟩ = some (.int .i64 2) ∧ w'.cell? ⟨w.heap.size, 1, none⟩ = some (.int .i64 x) ∧ w'.cell? ⟨a.g, 1, none⟩ = some (.int .i64 s.rk)) (go_keep)
      ((go_at_call 123; refine (otherBed_any 2 _ (by omega)).mono ?_; rintro e w' ⟨rfl, rfl⟩))
    all_goals
      rename_i hHeld
      clear hHeld
      go_wp2_with fail
      have t0 : ((((w.alloc (.cells #[.int .i64 2, .int .i64 x] 37)).alloc (.cells #[.int .i64 0, .int .i64 0] 37)).alloc (.cells #[.int .i64 1, .int .i64 (x - s.rk)] 37)).cell? ⟨a.g, 1, none⟩ = some (.int .i64 s.rk)) := by simp [*, World.cell?_alloc_some]
      have hwa : IntKind.i64.wrap (x + s.rk) = x + s.rk := by rw [IntKind.wrap_i64]; omega
      go_region_held3 (fun w' => w'.cell? ⟨w.heap.size, 1, none⟩ = some (.int .i64 x) ∧ w'.cell? ⟨a.g, 1, none⟩ = some (.int .i64 s.rk)) (go_keep) (fail)
      rename_i hHeld
      clear hHeld
      go_wp2_with fail
      have p0 : (((w.alloc (.cells #[.int .i64 2, .int .i64 x] 37)).alloc (.cells #[.int .i64 0, .int .i64 0] 37)).alloc (.cells #[.int .i64 1, .int .i64 (x + s.rk)] 37)).cell? ⟨w.heap.size + 1 + 1, 0, none⟩ = some (.int .i64 1) := (new_at _ _ _ (by simp) 0).trans rfl
      have p1 : (((w.alloc (.cells #[.int .i64 2, .int .i64 x] 37)).alloc (.cells #[.int .i64 0, .int .i64 0] 37)).alloc (.cells #[.int .i64 1, .int .i64 (x + s.rk)] 37)).cell? ⟨w.heap.size + 1 + 1, 1, none⟩ = some (.int .i64 (x + s.rk)) := (new_at _ _ _ (by simp) 1).trans rfl
      have p2 : (((w.alloc (.cells #[.int .i64 2, .int .i64 x] 37)).alloc (.cells #[.int .i64 0, .int .i64 0] 37)).alloc (.cells #[.int .i64 1, .int .i64 (x + s.rk)] 37)).cell? ⟨a.g, 0, none⟩ = some (.int .i64 s.W) := (World.cell?_alloc_some _ _ _ (by rw [m0]; rfl)).trans m0
      have q0 : (((w.alloc (.cells #[.int .i64 2, .int .i64 x] 37)).alloc (.cells #[.int .i64 1, .int .i64 (x + s.rk)] 37)).alloc (.cells #[.int .i64 1, .int .i64 (x + s.rk)] 37)).cell? ⟨w.heap.size + 1 + 1, 0, none⟩ = some (.int .i64 1) := (new_at _ _ _ (by simp) 0).trans rfl
      have q1 : (((w.alloc (.cells #[.int .i64 2, .int .i64 x] 37)).alloc (.cells #[.int .i64 1, .int .i64 (x + s.rk)] 37)).alloc (.cells #[.int .i64 1, .int .i64 (x + s.rk)] 37)).cell? ⟨w.heap.size + 1 + 1, 1, none⟩ = some (.int .i64 (x + s.rk)) := (new_at _ _ _ (by simp) 1).trans rfl
      have q2 : (((w.alloc (.cells #[.int .i64 2, .int .i64 x] 37)).alloc (.cells #[.int .i64 1, .int .i64 (x + s.rk)] 37)).alloc (.cells #[.int .i64 1, .int .i64 (x + s.rk)] 37)).cell? ⟨a.g, 0, none⟩ = some (.int .i64 s.W) := by
        have h1 := (World.cell?_alloc_some w ⟨a.g, 0, none⟩ (.cells #[.int .i64 2, .int .i64 x] 37) (by rw [M0W.out]; rfl)).trans M0W.out
        have h2 := (World.cell?_alloc_some _ ⟨a.g, 0, none⟩ (.cells #[.int .i64 1, .int .i64 (x + s.rk)] 37) (by rw [h1]; rfl)).trans h1
        exact (World.cell?_alloc_some _ ⟨a.g, 0, none⟩ (.cells #[.int .i64 1, .int .i64 (x + s.rk)] 37) (by rw [h2]; rfl)).trans h2
      go_region_held3 (fun w' => w'.cell? ⟨w.heap.size + 1 + 1, 0, none⟩ = some (.int .i64 1) ∧ w'.cell? ⟨w.heap.size + 1 + 1, 1, none⟩ = some (.int .i64 (x + s.rk)) ∧ w'.cell? ⟨a.g, 0, none⟩ = some (.int .i64 s.W)) (go_keep)
        ((go_at_call 69; refine (within_any _ _ _ _).mono ?_; rintro e w' ⟨rfl, rfl⟩))
      all_goals
        rename_i hHeld
        clear hHeld
        go_wp2_with fail
        go_returns
        exact ⟨by simp [faceI], by (repeat' first | with_reducible exact Below.refl _ _ | with_reducible refine Below.alloc ?_ ?_ _ | with_reducible refine Below.setCell ?_ ?_ _ | with_reducible refine Below.drew ?_ | with_reducible refine Below.drewN' ?_ _ | with_reducible (refine Below.trans ?_ (Below.mono (by assumption) ?_)) | exact Nat.le_refl _ | (simp; done) | (simp; omega) | omega)⟩
end
end Go.Proofs.Ytpmfkpehmckgmaa

namespace Go.Proofs.Ytpmfkpehmckgmaa
open Go.RowKit

/-- The code of an operation, in the program's order. -/
def opCodeI (s : Mst) (k d fb fa tb ta : Int) (j : Nat) : Int :=
  if fitsB s k d fb fa j = false then 9
  else if makesB k = true ∧ s.n = 300 then 5
  else if k = 2 ∧ lstN s fb fa = 4 then 5
  else if k = 6 ∧ lstN s fb fa = 0 then 7
  else if k ≠ 4 ∧ k ≠ 5 then 0
  else if ¬ (inB (faceI fb fa s.rk) 0 ((s.W : Int) - 1) = true ∧ 3 - fb = tb ∧ faceI fb fa s.rk = ta) then 8
  else if lstN s fb fa = 0 then 7
  else if 4 < lstN s fb fa + lstN s tb ta then 5
  else 0
/-- Beds of a transfer. -/
def OpBeds (k fb tb : Int) : Prop := (k = 4 ∨ k = 5) → (fb = 1 ∧ tb = 2 ∨ fb = 2 ∧ tb = 1)
theorem opBeds_B {W : Nat} {k d fb fa tb ta c r : Int} (h : (opB k d fb fa tb ta c r && (decide (fa < (W : Int)) && decide (ta < (W : Int)))) = true) : OpBeds k fb tb := by
  intro hk
  unfold opB dirB ndB inB at h
  rcases hk with rfl | rfl
  · rw [if_neg (by omega), if_pos rfl] at h
    simp only [Bool.and_eq_true, decide_eq_true_eq, beq_iff_eq, bne_iff_ne] at h
    omega
  · rw [if_neg (by omega), if_neg (by omega), if_pos rfl] at h
    simp only [Bool.and_eq_true, decide_eq_true_eq, beq_iff_eq, bne_iff_ne] at h
    omega
section
variable {s : Mst} {D : Nat} {k d fb fa tb ta c r : Int} {j : Nat}
/-- The needle opposite is the one named just where the places agree. -/
theorem face_iff (hp : OpOk s.W k d fb fa tb ta c r j) (hb : fb = 1 ∧ tb = 2 ∨ fb = 2 ∧ tb = 1) : (inB (faceI fb fa s.rk) 0 ((s.W : Int) - 1) = true ∧ 3 - fb = tb ∧ faceI fb fa s.rk = ta) ↔ placeI fb fa s.rk = placeI tb ta s.rk := by
  have h0 := hp.t0
  have h1 := hp.t1
  unfold inB faceI placeI
  rcases hb with ⟨rfl, rfl⟩ | ⟨rfl, rfl⟩
  · simp
    omega
  · simp
    omega
theorem move_part (hp : OpOk s.W k d fb fa tb ta c r j) (hb : fb = 1 ∧ tb = 2 ∨ fb = 2 ∧ tb = 1) :
    (if ¬ (inB (faceI fb fa s.rk) 0 ((s.W : Int) - 1) = true ∧ 3 - fb = tb ∧ faceI fb fa s.rk = ta) then (8 : Int) else if lstN s fb fa = 0 then 7 else if 4 < lstN s fb fa + lstN s tb ta then 5 else 0) = moveCode s fb fa tb ta := by
  unfold moveCode
  by_cases h : placeI fb fa s.rk = placeI tb ta s.rk
  · rw [if_neg (fun hn => hn ((face_iff hp hb).2 h)), if_pos h]
  · rw [if_pos (fun hn => h ((face_iff hp hb).1 hn)), if_neg h]
theorem opCode_eq (hs : MOk s D) (hp : OpOk s.W k d fb fa tb ta c r j) (hb : OpBeds k fb tb) : opCodeI s k d fb fa tb ta j = doCode s k d fb fa tb ta j := by
  have hn := hs.nb
  have h4 := lstN_le (b := fb) hs hp.f0 hp.f1
  have hk : k = 1 ∨ k = 2 ∨ k = 3 ∨ k = 4 ∨ k = 5 ∨ k = 6 ∨ k = 7 ∨ k = 8 ∨ k = 9 := by have := hp.k1; have := hp.k9; omega
  have hmv : ∀ {s' : Mst}, moveCode (carrySt s d (placeI fb fa s.rk) j) fb fa tb ta = moveCode s fb fa tb ta := fun {_} => rfl
  rcases hk with rfl | rfl | rfl | rfl | rfl | rfl | rfl | rfl | rfl
  · unfold opCodeI doCode formCode fitsB makesB
    simp
    by_cases hc : carryB s d (placeI fb fa s.rk) j = true
    · simp [hc]
      by_cases h : s.n = 300
      · simp [h]
      · simp [h]; omega
    · simp [hc]
  · unfold opCodeI doCode formCode fitsB makesB
    simp
    by_cases hc : carryB s d (placeI fb fa s.rk) j = true
    · simp [hc]
      by_cases h : s.n = 300
      · simp [h]
      · have h' : ¬ 300 ≤ s.n := by omega
        by_cases h5 : lstN s fb fa = 4
        · simp [h, h', h5]
        · have h6 : ¬ 4 ≤ lstN s fb fa := by omega
          simp [h, h', h5, h6]
    · simp [hc]
  · unfold opCodeI doCode fitsB makesB
    simp
    by_cases hc : carryB s d (placeI fb fa s.rk) j = true
    · simp [hc]
    · simp [hc]
  · have := move_part hp (hb (.inl rfl))
    unfold opCodeI doCode fitsB makesB
    simp only [this]
    simp
  · have := move_part hp (hb (.inr rfl))
    unfold opCodeI doCode formCode fitsB makesB
    simp only [this]
    simp
    by_cases hc : carryB s d (placeI fb fa s.rk) j = true
    · simp [hc]
      by_cases h : s.n = 300
      · simp [h]
      · rw [if_neg h, if_neg (by omega)]
        rfl
    · simp [hc]
  · unfold opCodeI doCode fitsB makesB
    simp
  · unfold opCodeI doCode fitsB makesB
    simp
  · unfold opCodeI doCode inCode fitsB makesB
    simp
  · unfold opCodeI doCode inCode fitsB makesB
    simp
end
end Go.Proofs.Ytpmfkpehmckgmaa
