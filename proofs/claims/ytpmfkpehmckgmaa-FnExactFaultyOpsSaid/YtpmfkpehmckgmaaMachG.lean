/- Walks: a carrier comes in or goes out, by the reference. No condition but the machine's bounds. Walks: an operation is executed, by the reference. No condition but the machine's bounds and the operation's. Walks: an operation is executed, by the reference, whatever its kind. No condition but the machine's bounds and the operation's. -/
import Derived.Test.YtpmfkpehmckgmaaMachF
namespace Go.Proofs.Ytpmfkpehmckgmaa
open Go.RowKit
set_option maxRecDepth 20000

def inCode (s : Mst) (k : Int) (j : Nat) : Int := if s.cin j = decide (k = 8) then 9 else 0
def inSt (s : Mst) (k d : Int) (j : Nat) : Mst :=
  { s with cin := fun q => if q = j then decide (k = 8) else s.cin q, cat := fun q => if q = j then (if k = 8 then (if d = -1 then (s.W : Int) + 3 else -3) else 0) else s.cat q }
section
variable {tg : Nat → Nat} {a : MAdr} {s : Mst} {D : Nat} {w : World}
theorem At.setIn {wb : World} {tgb : Nat → Nat} {g : Nat} (h : At wb tgb g s w tg a) {j : Nat} (hj : j < 4) (x : Bool) : At wb tgb g { s with cin := fun q => if q = j then x else s.cin q } (w.setCell ⟨a.gc, j * 2, none⟩ (.bool x)) tg a :=
  ⟨h.g, h.m.setIn hj x, h.fr ((Fr.refl w _).set (by unfold OwnB; rw [h.m.tc]; omega) _), h.t⟩
theorem At.setAt {wb : World} {tgb : Nat → Nat} {g : Nat} (h : At wb tgb g s w tg a) {j : Nat} (hj : j < 4) (x : Int) : At wb tgb g { s with cat := fun q => if q = j then x else s.cat q } (w.setCell ⟨a.gc, j * 2 + 1, none⟩ (.int .i64 x)) tg a :=
  ⟨h.g, h.m.setAt hj x, h.fr ((Fr.refl w _).set (by unfold OwnB; rw [h.m.tc]; omega) _), h.t⟩
theorem At.setRack {wb : World} {tgb : Nat → Nat} {g : Nat} (h : At wb tgb g s w tg a) (r : Int) : At wb tgb g { s with rk := r } (w.setCell ⟨a.g, 1, none⟩ (.int .i64 r)) tg a :=
  ⟨h.g, h.m.setRack r, h.fr ((Fr.refl w _).set (by unfold OwnB; rw [h.m.tm]; omega) _), h.t⟩
theorem At.drew2 {wb : World} {tgb : Nat → Nat} {g : Nat} (h : At wb tgb g s w tg a) : At wb tgb g s w.drew.drew tg a := h.below (((Below.refl w.heap.size w).drew).drew)
set_option maxHeartbeats 1000000 in
theorem l07In_any (bo o : Nat) (k d fb fa tb ta r : Int) (j : Nat) (H : Mem tg a s w) (hs : MOk s D) (ho : OpCe bo o k d fb fa tb ta ((j : Int) + 1) r w) (hbo : tg bo = 0) (hk : k = 8 ∧ (d = 1 ∨ d = -1) ∨ k = 9) (hj : j < 4) :
    Calls Try.prog 90 #[.pointer (some ⟨a.g, 0, none⟩), .pointer (some ⟨bo, o, none⟩)] w (CodeP w tg a.g (inCode s k j) (inSt s k d j)) := by
  have HA := Lib.hid (At.start H)
  have m0 : w.cell? ⟨a.g, 0, none⟩ = some (.int .i64 s.W) := H.m.cell 0
  have m4 : w.cell? ⟨a.g, 4, none⟩ = some (.slice (some ⟨a.gc, 0, none⟩) 4 a.cc) := H.m.cell 4
  obtain ⟨k0, k1, f0, f1⟩ := H.car hj
  have o0 := ho.c0
  have o1 := ho.c1
  have o6 := ho.c6
  have hw2 := hs.w2
  have hf1 : ∀ (W : World) (x : Nat) (v : Value) (q : Nat), (W.setCell ⟨a.gc, x, none⟩ v).cell? ⟨bo, q, none⟩ = W.cell? ⟨bo, q, none⟩ := fun W x v q => World.cell?_setCell_other W _ _ v (by intro e; injection e with e1 e2; have := H.tc; rw [e1, hbo] at this; omega)
  have hf2 : ∀ (W : World) (x : Nat) (v : Value) (q : Nat), (W.setCell ⟨a.gc, x, none⟩ v).cell? ⟨a.g, q, none⟩ = W.cell? ⟨a.g, q, none⟩ := fun W x v q => World.cell?_setCell_other W _ _ v (by intro e; injection e with e1 e2; have := H.tc; rw [e1, H.tm] at this; omega)
  clear H ho
  rcases hk with ⟨rfl, hd⟩ | rfl
  · cases hci : s.cin j
    · have HC := Lib.hid (show inCode s 8 j = 0 by unfold inCode; simp [hci])
      rw [hci] at k0
      clear hci
      rcases hd with rfl | rfl
      · have HE := Lib.hid (show inSt s 8 1 j = { s with cin := fun q => if q = j then true else (if q = j then false else s.cin q), cat := fun q => if q = j then -3 else (if q = j then 0 else s.cat q) } by
          unfold inSt
          congr 1 <;> (funext q; by_cases h : q = j <;> simp [h]))
        have HF := Lib.hid ((((HA.out.setIn hj false).setAt hj 0).setIn hj true).setAt hj (-3)).drew2
        go_enter Try.func90, Try.ntmps90
        go_wp2_with fail
        go_region
        go_wp2_with fail
        go_region
        go_wp2_with fail
        go_ret
        exact ⟨by rw [HC.out]; rfl, HF.out.f, fun _ => by rw [HE.out]; exact HF.out.moved⟩
      · have HE := Lib.hid (show inSt s 8 (-1) j = { s with cin := fun q => if q = j then true else (if q = j then false else s.cin q), cat := fun q => if q = j then (s.W : Int) + 3 else (if q = j then -3 else (if q = j then 0 else s.cat q)) } by
          unfold inSt
          congr 1 <;> (funext q; by_cases h : q = j <;> simp [h]))
        have HF := Lib.hid (((((HA.out.setIn hj false).setAt hj 0).setIn hj true).setAt hj (-3)).setAt hj ((s.W : Int) + 3)).drew2
        have k9 := ((((HA.out.setIn hj false).setAt hj 0).setIn hj true).setAt hj (-3)).m.car hj
        have k10 := k9.2.1
        have k11 := k9.2.2.2
        simp only [if_true] at k10 k11
        clear k9
        go_enter Try.func90, Try.ntmps90
        go_wp2_with fail
        go_region
        go_wp2_with fail
        go_region
        go_wp2_with fail
        go_ret
        exact ⟨by rw [HC.out]; rfl, HF.out.f, fun _ => by rw [HE.out]; exact HF.out.moved⟩
    · have HC := Lib.hid (show inCode s 8 j = 9 by unfold inCode; simp [hci])
      rw [hci] at k0
      clear hci
      go_enter Try.func90, Try.ntmps90
      go_wp2_with fail
      go_region
      go_wp2_with fail
      go_region
      go_wp2_with fail
      go_ret
      exact ⟨by rw [HC.out]; rfl, (At.start HA.out.m).drew2.f, fun h => by rw [HC.out] at h; omega⟩
  · cases hci : s.cin j
    · have HC := Lib.hid (show inCode s 9 j = 9 by unfold inCode; simp [hci])
      rw [hci] at k0
      clear hci
      go_enter Try.func90, Try.ntmps90
      go_wp2_with fail
      go_region
      go_wp2_with fail
      go_region
      go_wp2_with fail
      go_ret
      exact ⟨by rw [HC.out]; rfl, (At.start HA.out.m).drew2.f, fun h => by rw [HC.out] at h; omega⟩
    · have HC := Lib.hid (show inCode s 9 j = 0 by unfold inCode; simp [hci])
      have HE := Lib.hid (show inSt s 9 d j = { s with cin := fun q => if q = j then false else s.cin q, cat := fun q => if q = j then 0 else s.cat q } by
        unfold inSt
        congr 1)
      have HF := Lib.hid ((HA.out.setIn hj false).setAt hj 0).drew2
      rw [hci] at k0
      clear hci
      go_enter Try.func90, Try.ntmps90
      go_wp2_with fail
      go_region
      go_wp2_with fail
      go_region
      go_wp2_with fail
      go_ret
      exact ⟨by rw [HC.out]; rfl, HF.out.f, fun _ => by rw [HE.out]; exact HF.out.moved⟩
end
end Go.Proofs.Ytpmfkpehmckgmaa

namespace Go.Proofs.Ytpmfkpehmckgmaa
open Go.RowKit
set_option maxRecDepth 20000

/-- What is known of a valid operation that fits the machine. -/
structure OpOk (W : Nat) (k d fb fa tb ta c r : Int) (j : Nat) : Prop where
  k1 : 1 ≤ k
  k9 : k ≤ 9
  f0 : 0 ≤ fa
  f1 : fa < W
  t0 : 0 ≤ ta
  t1 : ta < W
  r0 : -3 ≤ r
  r1 : r ≤ 3
  car : k ≠ 4 → k ≠ 6 → k ≠ 7 → c = (j : Int) + 1 ∧ j < 4
  dir : k ≠ 4 → k ≠ 6 → k ≠ 7 → k ≠ 9 → d = 1 ∨ d = -1
def doCode (s : Mst) (k d fb fa tb ta : Int) (j : Nat) : Int :=
  if k = 1 ∨ k = 2 ∨ k = 5 then formCode s k d fb fa tb ta j
  else if k = 3 then (if carryB s d (placeI fb fa s.rk) j = true then 0 else 9)
  else if k = 4 then moveCode s fb fa tb ta
  else if k = 6 then (if lstN s fb fa = 0 then 7 else 0)
  else if k = 7 then 0
  else inCode s k j
def doSt (s : Mst) (k d fb fa tb ta r : Int) (j : Nat) : Mst :=
  if k = 1 ∨ k = 2 ∨ k = 5 then formSt s k d fb fa tb ta j
  else if k = 3 then carrySt s d (placeI fb fa s.rk) j
  else if k = 4 then moveSt s fb fa tb ta
  else if k = 6 then setN { s with d := s.d + lstN s fb fa } fb fa 0
  else if k = 7 then { s with rk := r }
  else inSt s k d j
section
variable {tg : Nat → Nat} {a : MAdr} {s : Mst} {D : Nat} {w : World}
theorem At.setD {wb : World} {tgb : Nat → Nat} {g : Nat} {v : Value} {m : Nat} (h : At wb tgb g s w tg a) (hv : DOwn w v m) (hf : ∀ q, v.ownBlock = some q → tg q = 0 ∧ wb.heap.size ≤ q) : At wb tgb g { s with d := m } (w.setCell ⟨g, 6, none⟩ v) (retag tg v 6) { a with D := v } := by
  obtain rfl := h.g
  exact ⟨rfl, h.m.setD (h.m.rest 6 fun _ _ _ => rfl) (Nat.le_refl _) hv fun q hq => .inl (hf q hq).1, h.fr ((Fr.refl w _).set (by unfold OwnB; rw [h.m.tm]; omega) _), fun q hq => by
    unfold retag at hq
    split at hq
    · exact .inr (hf q ‹_›).2
    · exact h.t q hq⟩
set_option maxHeartbeats 1000000 in
theorem l07Drop_any (bo o : Nat) (d fb fa tb ta c r : Int) (H : Mem tg a s w) (hs : MOk s D) (hD : D ≤ 1000000) (ho : OpCe bo o 6 d fb fa tb ta c r w) (hbo : tg bo = 0) (ha0 : 0 ≤ fa) (ha1 : fa < s.W) :
    Calls Try.prog 59 #[.pointer (some ⟨a.g, 0, none⟩), .pointer (some ⟨bo, o, none⟩)] w (CodeP w tg a.g (if lstN s fb fa = 0 then 7 else 0) (setN { s with d := s.d + lstN s fb fa } fb fa 0)) := by
  obtain ⟨nf, hnf⟩ : ∃ n, n = lstN s fb fa := ⟨_, rfl⟩
  have hf4 : nf ≤ 4 := by rw [hnf]; exact lstN_le hs ha0 ha1
  have hlf : LOwn w (lstV a fb fa) nf := by rw [hnf]; exact H.lst ha0 ha1
  obtain ⟨Af, cf, hvf⟩ := hlf.form
  rw [← hnf]
  obtain ⟨code, hcode⟩ : ∃ c, c = (if nf = 0 then (7 : Int) else 0) := ⟨_, rfl⟩
  rw [← hcode]
  have HC := Lib.hid hcode
  clear hcode
  have HVF := Lib.hid hvf
  have HNF := Lib.hid hnf
  have HA := Lib.hid (At.start H)
  have HO := Lib.hid ho
  have o0 := ho.c0
  have o2 := ho.c2
  have o3 := ho.c3
  have hdb := hs.db
  clear hvf hnf hlf H ho hs
  go_enter Try.func59, Try.ntmps59
  go_wp2_with fail
  refine (l07On_any fb fa w HA.out.m ha0 ha1).mono ?_
  rintro e w1 ⟨rfl, hb1⟩
  rw [HVF.out]
  have HA1 := Lib.hid (HA.out.below hb1)
  clear hb1
  have k2 := (HA1.out.op HO.out hbo).1.c2
  have k3 := (HA1.out.op HO.out hbo).1.c3
  clear o0 o2 o3
  by_cases h0 : nf = 0
  · subst h0
    go_wp2_with fail
    go_ret
    exact ⟨by rw [HC.out]; rfl, HA1.out.f, fun h => by rw [HC.out] at h; simp at h⟩
  · have h0' : ((nf : Int) == 0) = false := by simp; omega
    have HC0 := Lib.hid (show code = 0 by rw [HC.out, if_neg h0])
    clear k2 k3 HC
    go_wp2_with fail
    go_loopw [6] (fun iv wr => ∃ i tgr ar, i ≤ nf ∧ iv = .int .i64 i ∧ At w tg a.g { s with d := s.d + i } wr tgr ar ∧ ar.F = a.F ∧ ar.K = a.K) (fun iv _ => nf - (intOf iv).toNat)
    case atStart => exact ⟨0, tg, a, Nat.zero_le _, rfl, HA1.out, rfl, rfl⟩
    case round =>
      obtain ⟨i, tgr, ar, hi, rfl, hat, hF, hK⟩ := hrel
      have HAR := Lib.hid hat
      have HF := Lib.hid hF
      have HK := Lib.hid hK
      clear hat hF hK
      by_cases hlt : i < nf
      · have hl : LOwn wr (.slice Af nf cf) nf := by
          have h := HAR.out.m.lst (b := fb) ha0 ha1
          have e1 : lstV ar fb fa = lstV a fb fa := by unfold lstV; rw [HF.out, HK.out]
          have e2 : lstN ({ s with d := s.d + i } : Mst) fb fa = nf := HNF.out.symm
          rw [e1, e2, HVF.out] at h
          exact h
        obtain ⟨A9, c9, ys, he9, hrd⟩ := hl.rd
        injection he9 with e1 e2 e3
        subst e1 e3
        clear e2 hl
        obtain ⟨gl, ol, rfl, hgl, hra⟩ := hrd (by omega)
        have kl := hra i hlt
        obtain ⟨y, hy⟩ : ∃ y, y = ys.getD i 0 := ⟨_, rfl⟩
        simp only [← hy] at kl
        obtain ⟨qd, hqd, hld⟩ := HAR.out.m.d
        obtain ⟨AD, cD, hAD⟩ := hld.form
        have m6 : wr.cell? ⟨a.g, 6, none⟩ = some (.slice AD qd cD) := by
          have h := HAR.out.m.m.cell 6
          rw [HAR.out.g] at h
          exact h.trans (by rw [← hAD]; rfl)
        rw [hAD] at hld
        have HLD := Lib.hid hld
        have HQD : Hid (qd ≤ s.d + i) := Lib.hid hqd
        have hqD : qd ≤ 1048576 := by have h : qd ≤ s.d + i := hqd; omega
        clear hrd hra hy hld hqd hAD
        go_wp2_with fail
        refine wp_region_lastL (S := fun w' => w'.cell? ⟨a.g, 6, none⟩ = some (.slice AD qd cD) ∧ w'.cell? ⟨gl, ol + i, none⟩ = some (.int .i64 y)) _ (by simp) (by kernel_rfl) (by kernel_rfl) ⟨m6, kl⟩ (fun hHeld => ?_)
        simp only [List.dropLast, List.getLast_cons_cons, List.getLast_singleton, List.length_cons, List.length_nil]
        refine wpAnyH_take (i := 0) (v := ?_) rfl (by kernel_rfl) (by kernel_rfl) (by kernel_rfl) (fun _ _ _ h => h) (Or.inl ⟨by rfl, ?_⟩) hHeld ?_
        rotate_left
        · (intro w0 hSw; (try dsimp only at hSw); go_simp <;> with_reducible rfl)
        simp only [List.getElem_toArray, List.getElem_cons_zero, Act.put, List.setIfInBounds_toArray, List.set_cons_zero, List.set_cons_succ]
        refine wpAnyH_take (i := 1) (v := ?_) rfl (by kernel_rfl) (by kernel_rfl) (by kernel_rfl) (fun _ _ _ h => h) (Or.inl ⟨by rfl, ?_⟩) hHeld ?_
        rotate_left
        · (intro w0 hSw; (try dsimp only at hSw); go_simp <;> with_reducible rfl)
        simp only [List.getElem_toArray, List.getElem_cons_succ, List.getElem_cons_zero, Act.put, List.setIfInBounds_toArray, List.set_cons_zero, List.set_cons_succ]
        refine wpAnyH_take (i := 2) (v := ?_) rfl (by kernel_rfl) (by kernel_rfl) (by kernel_rfl) (fun _ _ _ h => h) (Or.inl ⟨by rfl, ?_⟩) hHeld ?_
        rotate_left
        · (intro w0 hSw; (try dsimp only at hSw); go_simp <;> with_reducible rfl)
        simp only [List.getElem_toArray, List.getElem_cons_succ, List.getElem_cons_zero, Act.put, List.setIfInBounds_toArray, List.set_cons_zero, List.set_cons_succ]
        refine wpAnyH_take (i := 3) (v := ?_) rfl (by kernel_rfl) (by kernel_rfl) (by kernel_rfl) (fun _ _ _ h => h) (Or.inl ⟨by rfl, ?_⟩) hHeld ?_
        rotate_left
        · (intro w0 hSw; (try dsimp only at hSw); go_simp <;> with_reducible rfl)
        simp only [List.getElem_toArray, List.getElem_cons_succ, List.getElem_cons_zero, Act.put, List.setIfInBounds_toArray, List.set_cons_zero, List.set_cons_succ]
        refine wpAnyH_take (i := 4) (v := ?_) rfl (by kernel_rfl) (by kernel_rfl) (by kernel_rfl) (fun _ _ _ h => h) (Or.inl ⟨by rfl, ?_⟩) hHeld ?_
        rotate_left
        · (intro w0 hSw; (try dsimp only at hSw); go_simp <;> with_reducible rfl)
        simp only [List.getElem_toArray, List.getElem_cons_succ, List.getElem_cons_zero, Act.put, List.setIfInBounds_toArray, List.set_cons_zero, List.set_cons_succ]
        refine wpAnyH_take (i := 5) (v := ?_) rfl (by kernel_rfl) (by kernel_rfl) (by kernel_rfl) (fun _ _ _ h => h) (Or.inl ⟨by rfl, ?_⟩) hHeld ?_
        rotate_left
        · (intro w0 hSw; (try dsimp only at hSw); go_simp <;> with_reducible rfl)
        simp only [List.getElem_toArray, List.getElem_cons_succ, List.getElem_cons_zero, Act.put, List.setIfInBounds_toArray, List.set_cons_zero, List.set_cons_succ]
        refine wpAnyH_take (i := 6) (v := ?_) rfl (by kernel_rfl) (by kernel_rfl) (by kernel_rfl) (fun _ _ _ h => h) (Or.inl ⟨by rfl, ?_⟩) hHeld ?_
        rotate_left
        · (intro w0 hSw; (try dsimp only at hSw); go_simp <;> with_reducible rfl)
        simp only [List.getElem_toArray, List.getElem_cons_succ, List.getElem_cons_zero, Act.put, List.setIfInBounds_toArray, List.set_cons_zero, List.set_cons_succ]
        refine wpAnyH_take (i := 7) (v := ?_) rfl (by kernel_rfl) (by kernel_rfl) (by kernel_rfl) (fun _ _ _ h => h) (Or.inl ⟨by rfl, ?_⟩) hHeld ?_
        rotate_left
        · (intro w0 hSw; (try dsimp only at hSw); go_simp <;> with_reducible rfl)
        simp only [List.getElem_toArray, List.getElem_cons_succ, List.getElem_cons_zero, Act.put, List.setIfInBounds_toArray, List.set_cons_zero, List.set_cons_succ]
        refine wpAnyH_take (i := 8) (v := ?_) rfl (by kernel_rfl) (by kernel_rfl) (by kernel_rfl) (fun _ _ _ h => h) (Or.inl ⟨by rfl, ?_⟩) hHeld ?_
        rotate_left
        · (intro w0 hSw; (try dsimp only at hSw); go_simp <;> with_reducible rfl)
        simp only [List.getElem_toArray, List.getElem_cons_succ, List.getElem_cons_zero, Act.put, List.setIfInBounds_toArray, List.set_cons_zero, List.set_cons_succ]
        refine wpAnyH_ready (rs := [9]) (by kernel_rfl) (by simp) ?_
        refine AllReadyH.cons rfl (fun K hK => ?_) AllReadyH.nil
        simp only [List.getElem_toArray, List.getElem_cons_succ, List.getElem_cons_zero]
        go_simp
        refine (l00Put_any _ qd y wr.drew (HLD.out.blk fun _ _ => rfl) hqD).mono ?_
        rintro e w2 ⟨q2, hq2, v2, rfl, hl2, hn2, hb2⟩
        obtain ⟨A2, c2, rfl⟩ := hl2.form
        have HB2 : Hid (Below wr.heap.size wr w2) := Lib.hid (((Below.refl wr.heap.size wr).drew).trans hb2)
        have k6 := ((bcell HB2.out).1 a.g 6 (World.block_lt_of_cell? wr _ m6)).trans m6
        have kl2 := ((bcell HB2.out).1 gl (ol + i) hgl).trans kl
        have HA2 := Lib.hid (HAR.out.below HB2.out)
        have f6 : w2.frozen? ⟨a.g, 6, none⟩ = false := by
          have h := HA2.out.m.m.frozen 6
          rw [HA2.out.g] at h
          exact h
        have HAS : Hid (At w tg a.g { s with d := s.d + (i + 1) } (w2.setCell ⟨a.g, 6, none⟩ (.slice A2 q2 c2)) (retag tgr (.slice A2 q2 c2) 6) { ar with D := .slice A2 q2 c2 }) := Lib.hid (by
          exact HA2.out.setD (m := s.d + (i + 1)) ⟨q2, by have h1 := HQD.out; omega, hl2⟩ (fun q hq => ⟨Decidable.byContradiction fun hn => Nat.lt_irrefl _ (Nat.lt_of_lt_of_le (HAR.out.m.lt q hn) (hn2 q hq)), Nat.le_trans HAR.out.f.size (hn2 q hq)⟩))
        clear hb2 hl2 hn2 m6 kl hgl
        refine hK.out _ _ ⟨k6, kl2⟩ (fun hHeld1 => ?_)
        clear hK K hHeld
        refine wpAnyH_take (i := 10) (v := ?_) rfl (by kernel_rfl) (by kernel_rfl) (by kernel_rfl) (fun _ _ _ h => h) (Or.inl ⟨by rfl, ?_⟩) hHeld1 ?_
        rotate_left
        · (intro w0 hSw; (try dsimp only at hSw); go_simp <;> with_reducible rfl)
        simp only [List.getElem_toArray, List.getElem_cons_succ, List.getElem_cons_zero, Act.put, List.setIfInBounds_toArray, List.set_cons_zero, List.set_cons_succ]
        refine wpAnyH_take (i := 11) (v := ?_) rfl (by kernel_rfl) (by kernel_rfl) (by kernel_rfl) (fun _ _ _ h => h) (Or.inl ⟨by rfl, ?_⟩) hHeld1 ?_
        rotate_left
        · (intro w0 hSw; (try dsimp only at hSw); go_simp <;> with_reducible rfl)
        simp only [List.getElem_toArray, List.getElem_cons_succ, List.getElem_cons_zero, Act.put, List.setIfInBounds_toArray, List.set_cons_zero, List.set_cons_succ]
        refine wpAnyH_done (by kernel_rfl) ?_ _
        refine LastPost.of ?_
        go_simp
        clear hHeld1 k6 kl2 f6
        go_wp2_with fail
        go_roundw
        case rel => exact ⟨i + 1, _, _, by omega, by go_num, HAS.out, HF.out, HK.out⟩
        case measure => simp [intOf] <;> omega
      · obtain rfl : nf = i := by omega
        have k2 := (HAR.out.op HO.out hbo).1.c2
        have k3 := (HAR.out.op HO.out hbo).1.c3
        go_wp2_with fail
        have hb9 : Below wr.heap.size wr (wr.alloc (.cells #[] 2)) := (Below.refl _ _).alloc (Nat.le_refl _) _
        have hset9 := l07Set_any fb fa (.slice (some ⟨wr.heap.size, 0, none⟩) 0 0) _ (HAR.out.below hb9).m ha0 ha1 ⟨_, _, _, rfl⟩
        rw [HAR.out.g] at hset9
        refine hset9.mono ?_
        rintro e w9 ⟨rfl, hs9⟩
        obtain ⟨tg2, a2, hat2⟩ := (HAR.out.below hb9).put (m := 0) ha0 ha1 ⟨[], World.ownsRow_made wr #[] 0 (Nat.zero_le _) (by unfold maxLen; omega) rfl⟩ (fun q hq => by
          injection hq with hq
          subst hq
          exact ⟨Decidable.byContradiction fun hn => Nat.lt_irrefl _ (HAR.out.m.lt _ hn), HAR.out.f.size⟩) hs9
        have HA2 := Lib.hid hat2
        clear hat2 hs9 hset9 hb9 k2 k3
        go_wp2_with fail
        go_ret
        exact ⟨by rw [HC0.out]; rfl, HA2.out.f, fun _ => HA2.out.moved⟩
end
end Go.Proofs.Ytpmfkpehmckgmaa

namespace Go.Proofs.Ytpmfkpehmckgmaa
open Go.RowKit
set_option maxRecDepth 20000

section
variable {tg : Nat → Nat} {a : MAdr} {s : Mst} {D : Nat} {w : World}
set_option maxHeartbeats 1000000 in
theorem l07Do_form (bo o : Nat) (k d fb fa tb ta r : Int) (j : Nat) (H : Mem tg a s w) (hs : MOk s D) (ho : OpCe bo o k d fb fa tb ta ((j : Int) + 1) r w) (hbo : tg bo = 0) (hk : k = 1 ∨ k = 2 ∨ k = 5) (hj : j < 4) (hd : d = 1 ∨ d = -1) (ha0 : 0 ≤ fa) (ha1 : fa < s.W) (hta0 : 0 ≤ ta) (hta1 : ta < s.W) :
    Calls Try.prog 59 #[.pointer (some ⟨a.g, 0, none⟩), .pointer (some ⟨bo, o, none⟩)] w (CodeP w tg a.g (formCode s k d fb fa tb ta j) (formSt s k d fb fa tb ta j)) := by
  have hform := l07Form_any bo o k d fb fa tb ta r j H hs ho hbo hk hj hd ha0 ha1 hta0 hta1
  obtain ⟨code, hcode⟩ : ∃ c, c = formCode s k d fb fa tb ta j := ⟨_, rfl⟩
  obtain ⟨s', hs'⟩ : ∃ c, c = formSt s k d fb fa tb ta j := ⟨_, rfl⟩
  rw [← hcode, ← hs'] at hform ⊢
  have HF := Lib.hid hform
  have o0 := ho.c0
  clear hform hcode hs' ho H hs
  rcases hk with rfl | rfl | rfl
  all_goals
    go_enter Try.func59, Try.ntmps59
    go_wp2_with fail
    refine HF.out.mono ?_
    rintro e w1 ⟨rfl, h1, h2⟩
    have HR := Lib.hid (And.intro h1 h2)
    clear h1 h2
    go_wp2_with fail
    go_ret
    exact ⟨rfl, HR.out.1, HR.out.2⟩
set_option maxHeartbeats 1000000 in
theorem l07Do_miss (bo o : Nat) (d fb fa tb ta r : Int) (j : Nat) (H : Mem tg a s w) (hs : MOk s D) (ho : OpCe bo o 3 d fb fa tb ta ((j : Int) + 1) r w) (hbo : tg bo = 0) (hj : j < 4) (hd : d = 1 ∨ d = -1) (ha0 : 0 ≤ fa) (ha1 : fa < s.W) :
    Calls Try.prog 59 #[.pointer (some ⟨a.g, 0, none⟩), .pointer (some ⟨bo, o, none⟩)] w (CodeP w tg a.g (if carryB s d (placeI fb fa s.rk) j = true then 0 else 9) (carrySt s d (placeI fb fa s.rk) j)) := by
  have hw2 := hs.w2
  have hcar := l07Carry_any bo o 3 d fb fa tb ta r j H hs ho hbo hj hd ha0 (by omega)
  obtain ⟨b, hb⟩ : ∃ c, c = carryB s d (placeI fb fa s.rk) j := ⟨_, rfl⟩
  obtain ⟨s', hs'⟩ : ∃ c, c = carrySt s d (placeI fb fa s.rk) j := ⟨_, rfl⟩
  rw [← hb, ← hs'] at hcar ⊢
  have HF := Lib.hid hcar
  have o0 := ho.c0
  clear hcar hb hs' ho H hs
  cases b
  · obtain ⟨code, hcode⟩ : ∃ c, c = (if false = true then (0 : Int) else 9) := ⟨_, rfl⟩
    rw [← hcode]
    have HC := Lib.hid hcode
    clear hcode
    go_enter Try.func59, Try.ntmps59
    go_wp2_with fail
    refine HF.out.mono ?_
    rintro e w1 ⟨rfl, h1, h2⟩
    have HR := Lib.hid h1
    clear h1 h2
    go_wp2_with fail
    go_ret
    exact ⟨by rw [HC.out]; rfl, HR.out, fun h => by rw [HC.out] at h; simp at h⟩
  · obtain ⟨code, hcode⟩ : ∃ c, c = (if true = true then (0 : Int) else 9) := ⟨_, rfl⟩
    rw [← hcode]
    have HC := Lib.hid hcode
    clear hcode
    go_enter Try.func59, Try.ntmps59
    go_wp2_with fail
    refine HF.out.mono ?_
    rintro e w1 ⟨rfl, h1, h2⟩
    have HR := Lib.hid (And.intro h1 (h2 rfl))
    clear h1 h2
    go_wp2_with fail
    go_ret
    exact ⟨by rw [HC.out]; rfl, HR.out.1, fun _ => HR.out.2⟩
theorem l07Do_move (bo o : Nat) (d fb fa tb ta c r : Int) (H : Mem tg a s w) (hs : MOk s D) (ho : OpCe bo o 4 d fb fa tb ta c r w) (hbo : tg bo = 0) (ha0 : 0 ≤ fa) (ha1 : fa < s.W) (hta0 : 0 ≤ ta) (hta1 : ta < s.W) :
    Calls Try.prog 59 #[.pointer (some ⟨a.g, 0, none⟩), .pointer (some ⟨bo, o, none⟩)] w (CodeP w tg a.g (moveCode s fb fa tb ta) (moveSt s fb fa tb ta)) := by
  have hform := l07Move_any bo o 4 d fb fa tb ta c r H hs ho hbo ha0 ha1 hta0 hta1
  obtain ⟨code, hcode⟩ : ∃ c, c = moveCode s fb fa tb ta := ⟨_, rfl⟩
  obtain ⟨s', hs'⟩ : ∃ c, c = moveSt s fb fa tb ta := ⟨_, rfl⟩
  rw [← hcode, ← hs'] at hform ⊢
  have HF := Lib.hid hform
  have o0 := ho.c0
  clear hform hcode hs' ho H hs
  go_enter Try.func59, Try.ntmps59
  go_wp2_with fail
  refine HF.out.mono ?_
  rintro e w1 ⟨rfl, h1, h2⟩
  have HR := Lib.hid (And.intro h1 h2)
  clear h1 h2
  go_wp2_with fail
  go_ret
  exact ⟨rfl, HR.out.1, HR.out.2⟩
theorem l07Do_in (bo o : Nat) (k d fb fa tb ta r : Int) (j : Nat) (H : Mem tg a s w) (hs : MOk s D) (ho : OpCe bo o k d fb fa tb ta ((j : Int) + 1) r w) (hbo : tg bo = 0) (hk : k = 8 ∧ (d = 1 ∨ d = -1) ∨ k = 9) (hj : j < 4) :
    Calls Try.prog 59 #[.pointer (some ⟨a.g, 0, none⟩), .pointer (some ⟨bo, o, none⟩)] w (CodeP w tg a.g (inCode s k j) (inSt s k d j)) := by
  have hform := l07In_any bo o k d fb fa tb ta r j H hs ho hbo hk hj
  obtain ⟨code, hcode⟩ : ∃ c, c = inCode s k j := ⟨_, rfl⟩
  obtain ⟨s', hs'⟩ : ∃ c, c = inSt s k d j := ⟨_, rfl⟩
  rw [← hcode, ← hs'] at hform ⊢
  have HF := Lib.hid hform
  have o0 := ho.c0
  clear hform hcode hs' ho H hs
  have hk' : k = 8 ∨ k = 9 := by omega
  clear hk
  rcases hk' with rfl | rfl
  all_goals
    go_enter Try.func59, Try.ntmps59
    go_wp2_with fail
    refine HF.out.mono ?_
    rintro e w1 ⟨rfl, h1, h2⟩
    have HR := Lib.hid (And.intro h1 h2)
    clear h1 h2
    go_wp2_with fail
    go_ret
    exact ⟨rfl, HR.out.1, HR.out.2⟩
theorem l07Do_rack (bo o : Nat) (d fb fa tb ta c r : Int) (H : Mem tg a s w) (ho : OpCe bo o 7 d fb fa tb ta c r w) :
    Calls Try.prog 59 #[.pointer (some ⟨a.g, 0, none⟩), .pointer (some ⟨bo, o, none⟩)] w (CodeP w tg a.g 0 { s with rk := r }) := by
  have HA := Lib.hid ((At.start H).setRack r)
  have m1 : w.cell? ⟨a.g, 1, none⟩ = some (.int .i64 s.rk) := H.m.cell 1
  have f1 : w.frozen? ⟨a.g, 1, none⟩ = false := H.m.frozen 1
  have o0 := ho.c0
  have o7 := ho.c7
  clear H ho
  go_enter Try.func59, Try.ntmps59
  go_wp2_with fail
  go_ret
  exact ⟨rfl, HA.out.f, fun _ => HA.out.moved⟩
theorem l07Do_any (bo o : Nat) {k d fb fa tb ta c r : Int} {j : Nat} (H : Mem tg a s w) (hs : MOk s D) (hD : D ≤ 1000000) (ho : OpCe bo o k d fb fa tb ta c r w) (hbo : tg bo = 0) (hp : OpOk s.W k d fb fa tb ta c r j) :
    Calls Try.prog 59 #[.pointer (some ⟨a.g, 0, none⟩), .pointer (some ⟨bo, o, none⟩)] w (CodeP w tg a.g (doCode s k d fb fa tb ta j) (doSt s k d fb fa tb ta r j)) := by
  have h1 := hp.k1
  have h9 := hp.k9
  unfold doCode doSt
  by_cases hk : k = 1 ∨ k = 2 ∨ k = 5
  · rw [if_pos hk, if_pos hk]
    obtain ⟨rfl, hj⟩ := hp.car (by omega) (by omega) (by omega)
    exact l07Do_form bo o k d fb fa tb ta r j H hs ho hbo hk hj (hp.dir (by omega) (by omega) (by omega) (by omega)) hp.f0 hp.f1 hp.t0 hp.t1
  · rw [if_neg hk, if_neg hk]
    by_cases h3 : k = 3
    · subst h3
      rw [if_pos rfl, if_pos rfl]
      obtain ⟨rfl, hj⟩ := hp.car (by omega) (by omega) (by omega)
      exact l07Do_miss bo o d fb fa tb ta r j H hs ho hbo hj (hp.dir (by omega) (by omega) (by omega) (by omega)) hp.f0 hp.f1
    · rw [if_neg h3, if_neg h3]
      by_cases h4 : k = 4
      · subst h4
        rw [if_pos rfl, if_pos rfl]
        exact l07Do_move bo o d fb fa tb ta c r H hs ho hbo hp.f0 hp.f1 hp.t0 hp.t1
      · rw [if_neg h4, if_neg h4]
        by_cases h6 : k = 6
        · subst h6
          rw [if_pos rfl, if_pos rfl]
          exact l07Drop_any bo o d fb fa tb ta c r H hs hD ho hbo hp.f0 hp.f1
        · rw [if_neg h6, if_neg h6]
          by_cases h7 : k = 7
          · subst h7
            rw [if_pos rfl, if_pos rfl]
            exact l07Do_rack bo o d fb fa tb ta c r H ho
          · rw [if_neg h7, if_neg h7]
            obtain ⟨rfl, hj⟩ := hp.car h4 h6 h7
            refine l07Do_in bo o k d fb fa tb ta r j H hs ho hbo ?_ hj
            by_cases h8 : k = 8
            · exact .inl ⟨h8, hp.dir h4 h6 h7 (by omega)⟩
            · exact .inr (by omega)
end
end Go.Proofs.Ytpmfkpehmckgmaa
