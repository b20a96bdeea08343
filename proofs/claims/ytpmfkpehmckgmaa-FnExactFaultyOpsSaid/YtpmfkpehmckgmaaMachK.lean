/- Walks: the greatest numbers of loops, by the reference. No condition but the machine's bounds. Walks: the yarn that an operation needs, by the reference. No condition but the machine's bounds. -/
import Derived.Test.YtpmfkpehmckgmaaMachJ
namespace Go.Proofs.Ytpmfkpehmckgmaa
open Go.RowKit
set_option maxRecDepth 20000

theorem l00MaxN_any (a b : Nat) (w : World) : Calls Try.prog 57 #[.int .i64 a, .int .i64 b] w fun e w' => e = .returned (.int .i64 (max a b : Nat)) ∧ w = w' := by
  by_cases h : b < a
  · have HM := Lib.hid (show max a b = a by omega)
    go_enter Try.func57, Try.ntmps57
    go_wp2
    all_goals first | omega | (go_ret; exact ⟨by rw [HM.out]; rfl, rfl⟩)
  · have HM := Lib.hid (show max a b = b by omega)
    go_enter Try.func57, Try.ntmps57
    go_wp2
    all_goals first | omega | (go_ret; exact ⟨by rw [HM.out]; rfl, rfl⟩)
/-- The greatest number of loops on one of the first needles, and their sum. -/
def pkS (s : Mst) (st : Nat) : Nat → Nat
  | 0 => st
  | i + 1 => max (pkS s st i) (max (s.f i) (s.k i))
def pkN (s : Mst) : Nat → Nat
  | 0 => 0
  | i + 1 => pkN s i + (s.f i + s.k i)
section
variable {tg : Nat → Nat} {a : MAdr} {s : Mst} {D : Nat} {w : World}
theorem pkN_le (hs : MOk s D) (i : Nat) (hi : i ≤ s.W) : pkN s i ≤ 8 * i := by
  induction i with
  | zero => exact Nat.le_refl _
  | succ i ih =>
    have h1 := hs.fb i (by omega)
    have h2 := hs.kb i (by omega)
    have h3 := ih (by omega)
    simp only [pkN]
    omega
set_option maxHeartbeats 1000000 in
theorem l27Peaks_any (st al : Nat) (H : Mem tg a s w) (hs : MOk s D) :
    Calls Try.prog 60 #[.pointer (some ⟨a.g, 0, none⟩), .int .i64 st, .int .i64 al] w fun e w' => e = .returned (.tuple #[.int .i64 (pkS s st s.W : Nat), .int .i64 (max al (pkN s s.W) : Nat)]) ∧ Below w.heap.size w w' := by
  have HH := Lib.hid H
  have HS := Lib.hid hs
  have hw2 := hs.w2
  clear H hs
  go_enter Try.func60, Try.ntmps60
  go_wp2_with fail
  go_loopw [1, 8, 9] (fun sv nv iv wr => ∃ i, i ≤ s.W ∧ iv = .int .i64 i ∧ sv = .int .i64 (pkS s st i : Nat) ∧ nv = .int .i64 (pkN s i : Nat) ∧ Below w.heap.size w wr) (fun _ _ iv _ => s.W - (intOf iv).toNat)
  case atStart => exact ⟨0, Nat.zero_le _, rfl, rfl, rfl, Below.refl _ _⟩
  case round =>
    obtain ⟨i, hi, rfl, rfl, rfl, hb⟩ := hrel
    have HM := Lib.hid (HH.out.below hb)
    have HB := Lib.hid hb
    have m0 : wr.cell? ⟨a.g, 0, none⟩ = some (.int .i64 s.W) := HM.out.m.cell 0
    have m2 : wr.cell? ⟨a.g, 2, none⟩ = some (.slice (some ⟨a.gf, 0, none⟩) s.W a.cf) := HM.out.m.cell 2
    have m3 : wr.cell? ⟨a.g, 3, none⟩ = some (.slice (some ⟨a.gk, 0, none⟩) s.W a.ck) := HM.out.m.cell 3
    have hn8 := pkN_le HS.out i hi
    obtain ⟨p, hp⟩ : ∃ p, p = pkS s st i := ⟨_, rfl⟩
    obtain ⟨q, hq⟩ : ∃ q, q = pkN s i := ⟨_, rfl⟩
    rw [← hq] at hn8 ⊢
    rw [← hp]
    have HP := Lib.hid hp
    have HQ := Lib.hid hq
    clear hp hq hb
    by_cases hlt : i < s.W
    · have f4 := HS.out.fb i hlt
      have k4 := HS.out.kb i hlt
      have hf := HM.out.f i hlt
      have hk := HM.out.k i hlt
      rw [Nat.zero_add] at hf hk
      obtain ⟨AF, cF, hAF⟩ := (HM.out.lf i hlt).form
      obtain ⟨AK, cK, hAK⟩ := (HM.out.lk i hlt).form
      rw [hAF] at hf
      rw [hAK] at hk
      obtain ⟨x, hx⟩ : ∃ x, x = s.f i := ⟨_, rfl⟩
      obtain ⟨y, hy⟩ : ∃ y, y = s.k i := ⟨_, rfl⟩
      rw [← hx] at hf f4
      rw [← hy] at hk k4
      have HX := Lib.hid hx
      have HY := Lib.hid hy
      clear hAF hAK hx hy
      go_wp2_with fail
      go_quiet ((go_at_call 57; exact Calls.quiet_of_same ((l00MaxN_any _ _ _).mono fun _ _ h => ⟨h.1, h.2.symm⟩)))
      rename_i nq
      go_wp2_with fail
      go_quiet (fail)
      rename_i nq2
      have HB2 := Lib.hid (Below.drewN' HB.out (nq2 + nq))
      go_wp2_with fail
      go_roundw
      case rel => exact ⟨i + 1, hlt, by go_num, by simp only [pkS]; rw [← HP.out, ← HX.out, ← HY.out], by simp only [pkN]; rw [← HQ.out, ← HX.out, ← HY.out]; go_num, HB2.out⟩
      case measure => simp [intOf] <;> omega
    · obtain rfl : s.W = i := by omega
      go_wp2_with fail
      refine (l00MaxN_any al q _).mono ?_
      rintro e w' ⟨rfl, rfl⟩
      go_wp2_with fail
      go_ret2
      exact ⟨by rw [← HP.out, ← HQ.out]; rfl, HB.out⟩
end
end Go.Proofs.Ytpmfkpehmckgmaa

namespace Go.Proofs.Ytpmfkpehmckgmaa
open Go.RowKit
set_option maxRecDepth 20000

def kindI (k : Int) : Int := if k = 1 ∨ k = 2 ∨ k = 3 ∨ k = 5 then 1 else if k = 4 then 2 else if k = 6 then 3 else 0
theorem l09Kind_any (bo o : Nat) (k : Int) (w : World) (h1 : 1 ≤ k) (h9 : k ≤ 9) (o0 : w.cell? ⟨bo, o, none⟩ = some (.int .i64 k)) : Calls Try.prog 106 #[.pointer (some ⟨bo, o, none⟩)] w fun e w' => e = .returned (.int .i64 (kindI k)) ∧ w = w' := by
  have hk : k = 1 ∨ k = 2 ∨ k = 3 ∨ k = 4 ∨ k = 5 ∨ k = 6 ∨ k = 7 ∨ k = 8 ∨ k = 9 := by omega
  clear h1 h9
  rcases hk with rfl | rfl | rfl | rfl | rfl | rfl | rfl | rfl | rfl
  all_goals
    go_enter Try.func106, Try.ntmps106
    go_wp2
    go_ret
    exact ⟨rfl, rfl⟩
theorem l25Yarn_any (bo o : Nat) (k : Int) (w : World) (h1 : 1 ≤ k) (h9 : k ≤ 9) (o0 : w.cell? ⟨bo, o, none⟩ = some (.int .i64 k)) : Calls Try.prog 82 #[.pointer (some ⟨bo, o, none⟩)] w fun e w' => e = .returned (.bool (kindI k == 1)) ∧ w = w' := by
  have hk := l09Kind_any bo o k w h1 h9 o0
  go_enter Try.func82, Try.ntmps82
  go_wp2_with fail
  refine hk.mono ?_
  rintro e w' ⟨rfl, rfl⟩
  go_wp2
  go_ret
  exact ⟨rfl, rfl⟩
def yarnK (k : Int) : Int := if k = 1 then 4 else if k = 2 then 2 else if k = 3 then 1 else 4
def yarnI (s : Mst) (k d fb fa : Int) (j : Nat) : Int := if kindI k = 1 then (if d = -1 then s.cat j - placeI fb fa s.rk - 1 else placeI fb fa s.rk - s.cat j) + yarnK k else 0
section
variable {tg : Nat → Nat} {a : MAdr} {s : Mst} {D : Nat} {w : World}
theorem l27Yarn_no (bo o : Nat) (k : Int) (_H : Mem tg a s w) (h1 : 1 ≤ k) (h9 : k ≤ 9) (o0 : w.cell? ⟨bo, o, none⟩ = some (.int .i64 k)) (hk : (kindI k == 1) = false) :
    Calls Try.prog 58 #[.pointer (some ⟨a.g, 0, none⟩), .pointer (some ⟨bo, o, none⟩)] w fun e w' => e = .returned (.int .i64 0) ∧ Below w.heap.size w w' := by
  have hy := l25Yarn_any bo o k w h1 h9 o0
  rw [hk] at hy
  clear o0
  go_enter Try.func58, Try.ntmps58
  go_wp2_with fail
  refine hy.mono ?_
  rintro e w' ⟨rfl, rfl⟩
  go_wp2
  go_ret
  exact ⟨rfl, Below.refl _ _⟩
set_option maxHeartbeats 1000000 in
theorem l27Yarn_yes (bo o : Nat) (k d fb fa tb ta r : Int) (j : Nat) (H : Mem tg a s w) (hs : MOk s D) (ho : OpCe bo o k d fb fa tb ta ((j : Int) + 1) r w) (hk : k = 1 ∨ k = 2 ∨ k = 3 ∨ k = 5) (hj : j < 4) (hd : d = 1 ∨ d = -1) (ha0 : 0 ≤ fa) (ha1 : fa < s.W) :
    Calls Try.prog 58 #[.pointer (some ⟨a.g, 0, none⟩), .pointer (some ⟨bo, o, none⟩)] w fun e w' => e = .returned (.int .i64 ((if d = -1 then s.cat j - placeI fb fa s.rk - 1 else placeI fb fa s.rk - s.cat j) + yarnK k)) ∧ Below w.heap.size w w' := by
  have hw2 := hs.w2
  have hr1 := hs.r1
  have hr2 := hs.r2
  have hcb := hs.ca j hj
  have hxb := placeI_bd (b := fb) ha0 (show fa ≤ 23 by omega) hr1 hr2
  obtain ⟨x, hx⟩ : ∃ x, x = placeI fb fa s.rk := ⟨_, rfl⟩
  rw [← hx] at hxb ⊢
  have hy := l25Yarn_any bo o k w (by omega) (by omega) ho.c0
  rw [show (kindI k == 1) = true by unfold kindI; rw [if_pos hk]; rfl] at hy
  have HX := Lib.hid hx
  have HH := Lib.hid H
  have HO := Lib.hid ho
  have m1 : w.cell? ⟨a.g, 1, none⟩ = some (.int .i64 s.rk) := H.m.cell 1
  have m4 : w.cell? ⟨a.g, 4, none⟩ = some (.slice (some ⟨a.gc, 0, none⟩) 4 a.cc) := H.m.cell 4
  obtain ⟨_, k1, _, _⟩ := H.car hj
  have o2 := ho.c2
  have o3 := ho.c3
  have o6 := ho.c6
  have HGO := Lib.hid (World.block_lt_of_cell? w _ o2)
  have HGM := Lib.hid (World.block_lt_of_cell? w _ m1)
  have O2 := Lib.hid o2
  have O3 := Lib.hid o3
  have M1 := Lib.hid m1
  obtain ⟨ct, hct⟩ : ∃ c, c = s.cat j := ⟨_, rfl⟩
  rw [← hct] at k1 hcb ⊢
  clear hx H ho hs hct
  go_enter Try.func58, Try.ntmps58
  go_wp2_with fail
  refine hy.mono ?_
  rintro e w' ⟨rfl, rfl⟩
  go_wp2_with fail
  go_region
  go_wp2_with fail
  go_region_held3 (fun w' => w'.cell? ⟨bo, o + 2, none⟩ = some (.int .i64 fb) ∧ w'.cell? ⟨bo, o + 2 + 1, none⟩ = some (.int .i64 fa) ∧ w'.cell? ⟨a.g, 1, none⟩ = some (.int .i64 s.rk)) (go_keep)
    ((go_at_call 83; refine (l07Place_any fb fa s.rk _ ha0 (by omega) hr1 hr2).mono ?_; rintro e w1 ⟨he, hb1⟩; obtain rfl : e = .returned (.int .i64 x) := he.trans (by rw [HX.out]); have HB1 : Hid (Below w.heap.size w w1) := Lib.hid (((Below.refl w.heap.size w).drew.drew).trans hb1); have kx2 := ((bcell HB1.out).1 bo (o + 2) HGO.out).trans O2.out; have kx3 := ((bcell HB1.out).1 bo (o + 2 + 1) HGO.out).trans O3.out; have km1 := ((bcell HB1.out).1 a.g 1 HGM.out).trans M1.out; clear hb1 he))
  rename_i hHeld
  have ko0 := ((bcell HB1.out).1 bo o HGO.out).trans HO.out.c0
  have ko1 := ((bcell HB1.out).1 bo (o + 1) HGO.out).trans HO.out.c1
  clear hHeld o2 o3 o6 m1 m4 k1 kx2 kx3 km1 hy
  rcases hk with rfl | rfl | rfl | rfl
  all_goals
    rcases hd with rfl | rfl
    all_goals
      go_wp2_with fail
      go_ret
      exact ⟨by first | rfl | exact congrArg (fun z => Ending.returned (Value.int .i64 z)) (show ct - x = ct - x - 1 + 1 by omega), HB1.out⟩
theorem l27Yarn_any (bo o : Nat) {k d fb fa tb ta c r : Int} {j : Nat} (H : Mem tg a s w) (hs : MOk s D) (ho : OpCe bo o k d fb fa tb ta c r w) (hp : OpOk s.W k d fb fa tb ta c r j) :
    Calls Try.prog 58 #[.pointer (some ⟨a.g, 0, none⟩), .pointer (some ⟨bo, o, none⟩)] w fun e w' => e = .returned (.int .i64 (yarnI s k d fb fa j)) ∧ Below w.heap.size w w' := by
  have h1 := hp.k1
  have h9 := hp.k9
  unfold yarnI
  by_cases hk : k = 1 ∨ k = 2 ∨ k = 3 ∨ k = 5
  · obtain ⟨rfl, hj⟩ := hp.car (by omega) (by omega) (by omega)
    rw [if_pos (by unfold kindI; rw [if_pos hk])]
    exact l27Yarn_yes bo o k d fb fa tb ta r j H hs ho hk hj (hp.dir (by omega) (by omega) (by omega) (by omega)) hp.f0 hp.f1
  · have hn : kindI k ≠ 1 := by unfold kindI; rw [if_neg hk]; split <;> (try split) <;> omega
    rw [if_neg hn]
    exact l27Yarn_no bo o k H h1 h9 ho.c0 (by simpa using hn)
end
end Go.Proofs.Ytpmfkpehmckgmaa
