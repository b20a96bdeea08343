/- Walks: a fault out of its text, by the reference and by the program. No condition but the bound and strconv's variables. -/
import Derived.Test.YtpgmkkepbnonmaaDoorReadFaults
namespace Go.Proofs.YtpgmkkepbnonmaaDoor
open Go.RowKit
set_option maxRecDepth 20000

theorem Loc.set' {P : World → Prop} {F : Nat → Prop} {w : World} (h : Loc P F) (hp : P w) {p : Addr} (hne : ∀ g, F g → g ≠ p.block) (v : Value) : P (w.setCell p v) :=
  h.1 w _ hp fun g hg => Below.heap_setCell w p v g (hne g hg)
theorem two_pieces {ls : List ByteArray} (h : ls.length = 2) : ∃ p0 p1, ls = [p0, p1] := by
  match ls, h with
  | [a, b], _ => exact ⟨a, b, rfl⟩
set_option maxHeartbeats 2000000 in
theorem specReadFault_any (s : ByteArray) (w : World) (hs : s.size ≤ 1048576) : Calls Tryd.prog 5 #[.string s] w (FaultE s w) := by
  go_enter Tryd.func5, Tryd.ntmps5
  go_wp2_with fail
  refine (l01Split_any s 32 32 rfl _ hs).mono ?_
  rintro e w1 ⟨A, cp, ls, rfl, hn, hsp, hsz, hlen, _⟩
  have HB1 := Lib.hid (show Below w.heap.size w w1 from (((Below.refl w.heap.size w).alloc (Nat.le_refl _) _).trans (hn.bl.mono (by simp))))
  have BR := Lib.hid (Blk.below (Blk.at_ w 23 #[.int .i64 0, .int .i64 0] rfl) hn.bl (by simp))
  have f0 := fun i => BR.out.frozen i
  have x0 := fun i => BR.out.cell i
  by_cases h2 : ls.length = 2
  · obtain ⟨p0, p1, rfl⟩ := two_pieces h2
    obtain ⟨g, o, rfl, hg1, hg2, hr, _⟩ := new_row hn (by simp)
    have hg1' : w.heap.size + 1 ≤ g := by simpa using hg1
    have HR := Lib.hid hr
    have HSP := Lib.hid hsp
    have hz1 := hsz p1 (by simp)
    have HG2 := Lib.hid hg2
    have hw1 : w.heap.size < w1.heap.size := BR.out.lt
    clear hn hsp hsz hr h2 hg2 hlen
    go_wp2_with fail
    have hb2 : Below w1.heap.size w1 (w1.alloc (.cells #[.int .i64 0, .int .i64 0] 23)) := (Below.refl _ _).alloc (Nat.le_refl _) _
    have HB2 := Lib.hid hb2
    clear f0 x0 hb2
    refine (l29Words_any _).mono ?_
    rintro e w2 ⟨gw, rfl, hgw1, hgw2, hcw, hb3⟩
    have hgw1' : w1.heap.size + 1 ≤ gw := by simpa using hgw1
    have HCW := Lib.hid hcw
    have HB3 := Lib.hid (HB2.out.trans (hb3.mono HB2.out.size))
    have BF := Lib.hid (Blk.below (Blk.at_ w1 23 #[.int .i64 0, .int .i64 0] rfl) hb3 (by simp))
    clear hcw hb3 hgw1
    go_wp2_with fail
    go_loopw [7] (fun kv wr => ∃ k : Nat, 1 ≤ k ∧ k ≤ 5 ∧ kv = .int .i64 k ∧ Hid (Blk wr w1.heap.size 23 #[.int .i64 (kdTo p0 k : Nat), .int .i64 0]) ∧ Hid (∀ K, 1 ≤ K → K ≤ 4 → wr.cell? ⟨gw, K, none⟩ = some (.string (faultWord K))) ∧ Below w1.heap.size w1 wr) (fun kv _ => 5 - (intOf kv).toNat)
    case atStart => exact ⟨1, Nat.le_refl _, by omega, rfl, BF.out, HCW.out, HB3.out⟩
    case round =>
      obtain ⟨k, hk1, hk5, rfl, HBF, HCK, hb⟩ := hrel
      have HB := Lib.hid hb
      clear hb
      have HRP := Lib.hid (show ∀ j, j < 2 → wr.cell? ⟨g, o + j, none⟩ = some (.string ([p0, p1].getD j ByteArray.empty)) from fun j hj => ((bcell HB.out).1 g _ HG2.out).trans (HR.out j hj))
      have c0 : wr.cell? ⟨g, o, none⟩ = some (.string p0) := HRP.out 0 (by omega)
      by_cases hlt : k < 5
      · have ck := HCK.out k hk1 (by omega)
        have q1 : (0 : Int) ≤ (k : Int) := by omega
        have q2 : (k : Int) < 5 := by omega
        by_cases he : faultWord k = p0
        · have he' : ((faultWord k).toList == p0.toList) = true := by simp [he]
          have HK := Lib.hid (show kdTo p0 (k + 1) = k by unfold kdTo; rw [if_pos ⟨hk1, he⟩])
          have y0 := fun i => HBF.out.cell i
          have z0 := fun i => HBF.out.frozen i
          clear he
          go_wp2_with fail
          go_quiet (fail)
          go_wp2
          go_roundw
          case rel => exact ⟨k + 1, by omega, by omega, by go_num, by rw [HK.out]; exact (HBF.out.drewN _).set_ 0 _, fun K a b => (World.cell?_setCell_other _ _ _ _ (by intro e; injection e; omega)).trans (HCK.out K a b), (Below.drewN' HB.out _).setCell (Nat.le_refl _) _⟩
          case measure => simp [intOf] <;> omega
        · have he' := bytes_ne he
          have HK := Lib.hid (show kdTo p0 (k + 1) = kdTo p0 k by rw [kdTo, if_neg (fun h => he h.2)])
          clear he
          go_wp2_with fail
          go_quiet (fail)
          go_wp2
          go_roundw
          case rel => exact ⟨k + 1, by omega, by omega, by go_num, by rw [HK.out]; exact HBF.out.drewN _, HCK.out, Below.drewN' HB.out _⟩
          case measure => simp [intOf] <;> omega
      · obtain rfl : k = 5 := by omega
        have c1 : wr.cell? ⟨g, o + 1, none⟩ = some (.string p1) := HRP.out 1 (by omega)
        have HBR := Lib.hid (BR.out.below HB.out hw1)
        have HWS := Lib.hid (show w1.heap.size < wr.heap.size from HBF.out.lt)
        go_wp2_with fail
        refine (l01Number_any p1 _ (by omega)).mono ?_
        rintro e w3 ⟨n, b, hn, rfl, hb3⟩
        have HN := Lib.hid hn
        have HBR3 := Lib.hid (HBR.out.below hb3 HBR.out.lt)
        have HBF3 := Lib.hid (HBF.out.below hb3 HBF.out.lt)
        have HB3' := Lib.hid (HB.out.trans (hb3.mono HB.out.size))
        have y0 := fun i => HBF3.out.cell i
        have z0 := fun i => HBF3.out.frozen i
        have x0 := fun i => HBR3.out.cell i
        have f0 := fun i => HBR3.out.frozen i
        have HBF4 := Lib.hid (HBF3.out.set_ 1 (.int .i64 n))
        have HBR4 := Lib.hid (HBR3.out.far (p := ⟨w1.heap.size, 1, none⟩) (by show w.heap.size ≠ w1.heap.size; omega) (.int .i64 n))
        have HB4 := Lib.hid (HB3'.out.setCell (p := ⟨w1.heap.size, 1, none⟩) (Nat.le_refl _) (.int .i64 n))
        have HWB := Lib.hid (HB1.out.trans (HB4.out.mono HB1.out.size))
        clear hn hb3
        cases b
        · have HNO := Lib.hid (pieces_no HSP.out HN.out (.inl rfl))
          have x1 := fun i => HBR4.out.cell i
          go_wp2_with fail
          exact bodyPost_ret (v := .tuple #[.agg #[.int .i64 0, .int .i64 0], .bool false]) (by simp [results, Tryd.results5, go_sem, x0]) rfl (faultE_no HNO.out ((HWB.out.setCell (Nat.le_refl _) _).setCell (Nat.le_refl _) _))
        · go_wp2_with fail
          refine (specFaultText_any (kdTo p0 5 : Nat) n _).mono ?_
          rintro e w5 ⟨rfl, hb5⟩
          have HBR5 := Lib.hid (HBR4.out.below hb5 HBR4.out.lt)
          have HBF5 := Lib.hid (HBF4.out.below hb5 HBF4.out.lt)
          have HWB5 := Lib.hid (HWB.out.trans (hb5.mono HWB.out.size))
          clear y0 z0 x0 f0 hb5
          have y0 := fun i => HBF5.out.cell i
          have x0 := fun i => HBR5.out.cell i
          have f0 := fun i => HBR5.out.frozen i
          by_cases he : faultS (kdTo p0 5 : Nat) n = s
          · have HY := Lib.hid (pieces_yes HSP.out he)
            have he' : ((faultS (kdTo p0 5 : Nat) n).toList == s.toList) = true := by simp [he]
            clear he
            go_wp2_with fail
            exact bodyPost_ret (v := .tuple #[.agg #[.int .i64 (kdTo p0 5 : Nat), .int .i64 n], .bool true]) (by simp [results, Tryd.results5, go_sem, x0]) rfl ⟨_, _, _, HY.out, rfl, (HWB5.out.setCell (Nat.le_refl _) _).setCell (Nat.le_refl _) _⟩
          · have HNO := Lib.hid (pieces_no HSP.out HN.out (.inr he))
            have he' := bytes_ne he
            clear he
            go_wp2_with fail
            exact bodyPost_ret (v := .tuple #[.agg #[.int .i64 0, .int .i64 0], .bool false]) (by simp [results, Tryd.results5, go_sem, x0]) rfl (faultE_no HNO.out ((HWB5.out.setCell (Nat.le_refl _) _).setCell (Nat.le_refl _) _))
  · have h2' : ((ls.length : Int) == 2) = false := by simp; omega
    have HNO : Hid (∀ k' a' : Int, faultB k' a' = true → faultS k' a' ≠ s) := fun k' a' hf e => h2 (by
      have h := fault_spl hf
      rw [e, ← hsp] at h
      have := congrArg List.length h
      simpa using this)
    clear h2 hsp hsz hn
    go_wp2_with fail
    exact bodyPost_ret (v := .tuple #[.agg #[.int .i64 0, .int .i64 0], .bool false]) (by simp [results, Tryd.results5, go_sem, x0]) rfl (faultE_no HNO.out ((HB1.out.setCell (Nat.le_refl _) _).setCell (Nat.le_refl _) _))

/-- What the cut says. -/
theorem cut_no {s : ByteArray} {x y : List UInt8} {t : Bool} (hc : Lib.cut s.data.toList [32] = (x, y, t)) {n : Int} {b : Bool} (hn : NumR ⟨y.toArray⟩ n b)
    (h : b = false ∨ faultB (Lib.idxOfS (words5.take 5) ⟨x.toArray⟩) n = false ∨ faultS (Lib.idxOfS (words5.take 5) ⟨x.toArray⟩) n ≠ s) : ∀ k' a' : Int, faultB k' a' = true → faultS k' a' ≠ s := by
  intro k' a' hf e
  have hsp := fault_cut hf
  rw [e, hc] at hsp
  injection hsp with e0 e1
  injection e1 with e1 _
  obtain ⟨K, rfl, k1, k2, a1, a2⟩ := faultB_parts hf
  have q0 : (⟨x.toArray⟩ : ByteArray) = faultWord K := ba_mk e0
  have q1 : (⟨y.toArray⟩ : ByteArray) = dec a' := ba_mk e1
  have hn' : NumR ⟨y.toArray⟩ a' true := .inl ⟨rfl, q1.symm, by omega, by omega⟩
  obtain ⟨rfl, rfl⟩ := hn.same hn'
  rcases h with h | h | h
  · cases h
  · rw [q0, idx_word K k1 k2, hf] at h
    cases h
  · rw [q0, idx_word K k1 k2] at h
    exact h e
def Words5P (w : World) (e : Ending) (w' : World) : Prop := ∃ g, e = .returned (.slice (some ⟨g, 0, none⟩) 5 5) ∧ w.heap.size ≤ g ∧ g < w'.heap.size ∧ (∀ j, j < words5.length → w'.cell? ⟨g, 0 + j, none⟩ = some (.string (words5.getD j ByteArray.empty))) ∧ Below w.heap.size w w'
theorem faultWords5_any (w : World) : Calls Tryd.prog 18 #[] w (Words5P w) := by
  go_enter Tryd.func18, Tryd.ntmps18
  go_wp2
  go_ret
  refine ⟨w.heap.size, rfl, Nat.le_refl _, by simp, fun j hj => ?_, by (repeat' first | with_reducible exact Below.refl _ _ | with_reducible refine Below.alloc ?_ ?_ _ | with_reducible refine Below.setCell ?_ ?_ _ | with_reducible refine Below.drew ?_ | with_reducible refine Below.drewN' ?_ _ | with_reducible (refine Below.trans ?_ (Below.mono (by assumption) ?_)) | exact Nat.le_refl _ | (simp; done) | (simp; omega) | omega)⟩
  have hj' : j < 5 := hj
  have hK : j = 0 ∨ j = 1 ∨ j = 2 ∨ j = 3 ∨ j = 4 := by omega
  rcases hK with rfl | rfl | rfl | rfl | rfl <;> exact (cell_alloc_at rfl _).trans rfl
theorem cut_small {s : ByteArray} {x y : List UInt8} {t : Bool} (hc : Lib.cut s.data.toList [32] = (x, y, t)) : y.length ≤ s.size := by
  unfold Lib.cut at hc
  have hz : s.data.toList.length = s.size := by simp
  split at hc
  · injection hc with _ h2
    injection h2 with h2 _
    rw [← h2, List.length_drop]
    omega
  · injection hc with _ h2
    injection h2 with h2 _
    rw [← h2]
    simp
set_option maxHeartbeats 2000000 in
theorem implReadFault_any (s : ByteArray) (w : World) (hs : s.size ≤ 1048576) (hd : Door w) : Calls Tryd.prog 6 #[.string s] w (FaultE s w) := by
  have hb0 : Below w.heap.size w (w.alloc (.cells #[.int .i64 0, .int .i64 0] 23)) := (Below.refl _ _).alloc (Nat.le_refl _) _
  have HD := Lib.hid (hd.below hb0)
  have HB0 := Lib.hid hb0
  have BR := Lib.hid (Blk.at_ w 23 #[.int .i64 0, .int .i64 0] rfl)
  obtain ⟨x, y, t, hc⟩ : ∃ x y t, Lib.cut s.data.toList [32] = (x, y, t) := ⟨_, _, _, rfl⟩
  have hy := cut_small hc
  have hys : (⟨y.toArray⟩ : ByteArray).size ≤ 1048576 := by
    show y.toArray.size ≤ _
    simp; omega
  obtain ⟨X, hX⟩ : ∃ X : ByteArray, X = ⟨x.toArray⟩ := ⟨_, rfl⟩
  obtain ⟨Y, hY⟩ : ∃ Y : ByteArray, Y = ⟨y.toArray⟩ := ⟨_, rfl⟩
  obtain ⟨m, hm⟩ := HD.out.2.2.2
  have HM := Lib.hid hm
  have HC := Lib.hid hc
  have HX := Lib.hid hX
  have HY := Lib.hid hY
  rw [← hY] at hys
  clear hd hb0 hm hc hX hY
  go_enter Tryd.func6, Tryd.ntmps6
  go_wp2_with fail
  refine (Tryd.strings_Cut s ⟨#[32]⟩ m _ (by omega) HM.out).mono ?_
  rintro e w1 ⟨he, q, rfl⟩
  have he' : e = .returned (.tuple #[.string X, .string Y, .bool t]) := he.trans (by
    have e1 : (⟨#[32]⟩ : ByteArray).data.toList = [32] := rfl
    rw [e1, HC.out, HX.out, HY.out])
  subst he'
  clear he
  go_wp2_with fail
  refine (ReadDecimal_any Y _ hys (door_loc.drewN HD.out q)).mono ?_
  rintro e w2 ⟨n, b, hn, rfl, hb2⟩
  have HN := Lib.hid hn
  have HB2 := Lib.hid ((Below.drewN' HB0.out q).trans (hb2.mono (by simp)))
  have BR2 := Lib.hid ((BR.out.drewN q).below hb2 (by simp))
  have HD2 := Lib.hid ((door_loc.drewN HD.out q).below hb2)
  clear hn hb2
  go_wp2_with fail
  refine (faultWords5_any _).mono ?_
  rintro e w3 ⟨gw, rfl, hg1, hg2, hcw, hb3⟩
  have HCW := Lib.hid hcw
  have HB3 := Lib.hid (HB2.out.trans (hb3.mono HB2.out.size))
  have BR3 := Lib.hid (BR2.out.below hb3 BR2.out.lt)
  have HD3 := Lib.hid (HD2.out.below hb3)
  clear hcw hb3
  go_wp2_with fail
  refine (Tryd.slices_Index_string gw 0 5 5 words5 X _ (by decide) (by omega) HCW.out).mono ?_
  rintro e w3' ⟨rfl, rfl⟩
  obtain ⟨k, hk⟩ : ∃ k, k = Lib.idxOfS (words5.take 5) X := ⟨_, rfl⟩
  rw [← hk]
  have HK := Lib.hid hk
  clear hk
  have hbA : Below w3'.heap.size w3' (w3'.alloc (.cells #[.int .i64 k, .int .i64 n] 23)) := (Below.refl _ _).alloc (Nat.le_refl _) _
  have BRA := Lib.hid (BR3.out.below hbA BR3.out.lt)
  have BFA := Lib.hid (Blk.at_ w3' 23 #[.int .i64 k, .int .i64 n] rfl)
  have HDA := Lib.hid (HD3.out.below hbA)
  have HBA := Lib.hid (HB3.out.trans (hbA.mono HB3.out.size))
  clear hbA
  have x0 := fun i => BRA.out.cell i
  have f0 := fun i => BRA.out.frozen i
  have y0 := fun i => BFA.out.cell i
  cases b
  · have HNO := Lib.hid (cut_no HC.out (HY.out ▸ HN.out) (.inl rfl))
    go_wp2_with fail
    exact bodyPost_ret (v := .tuple #[.agg #[.int .i64 0, .int .i64 0], .bool false]) (by simp [results, Tryd.results6, go_sem, x0]) rfl (faultE_no HNO.out ((HBA.out.setCell (Nat.le_refl _) _).setCell (Nat.le_refl _) _))
  · go_wp2_with fail
    refine (isFault_any k n _).mono ?_
    rintro e w4 ⟨rfl, hb4⟩
    have BR4 := Lib.hid (BRA.out.below hb4 BRA.out.lt)
    have BF4 := Lib.hid (BFA.out.below hb4 BFA.out.lt)
    have HD4 := Lib.hid (HDA.out.below hb4)
    have HB4 := Lib.hid (HBA.out.trans (hb4.mono HBA.out.size))
    clear hb4 x0 f0 y0
    have x0 := fun i => BR4.out.cell i
    have f0 := fun i => BR4.out.frozen i
    have y0 := fun i => BF4.out.cell i
    cases hf : faultB k n
    · have HNO := Lib.hid (cut_no HC.out (HY.out ▸ HN.out) (.inr (.inl (by rw [← HX.out, ← HK.out]; exact hf))))
      clear hf
      go_wp2_with fail
      exact bodyPost_ret (v := .tuple #[.agg #[.int .i64 0, .int .i64 0], .bool false]) (by simp [results, Tryd.results6, go_sem, x0]) rfl (faultE_no HNO.out ((HB4.out.setCell (Nat.le_refl _) _).setCell (Nat.le_refl _) _))
    · have HF := Lib.hid hf
      clear hf
      go_wp2_with fail
      refine (faultText_any k n _ HF.out HD4.out.1).mono ?_
      rintro e w5 ⟨rfl, hb5⟩
      have BR5 := Lib.hid (BR4.out.below hb5 BR4.out.lt)
      have BF5 := Lib.hid (BF4.out.below hb5 BF4.out.lt)
      have HB5 := Lib.hid (HB4.out.trans (hb5.mono HB4.out.size))
      clear hb5 x0 f0 y0
      have x0 := fun i => BR5.out.cell i
      have f0 := fun i => BR5.out.frozen i
      have y0 := fun i => BF5.out.cell i
      by_cases he : faultS k n = s
      · have HYE := Lib.hid he
        have he' : ((faultS k n).toList == s.toList) = true := by simp [he]
        clear he
        go_wp2_with fail
        exact bodyPost_ret (v := .tuple #[.agg #[.int .i64 k, .int .i64 n], .bool true]) (by simp [results, Tryd.results6, go_sem, x0]) rfl ⟨_, _, _, .inl ⟨rfl, HF.out, HYE.out⟩, rfl, (HB5.out.setCell (Nat.le_refl _) _).setCell (Nat.le_refl _) _⟩
      · have HNO := Lib.hid (cut_no HC.out (HY.out ▸ HN.out) (.inr (.inr (by rw [← HX.out, ← HK.out]; exact he))))
        have he' := bytes_ne he
        clear he
        go_wp2_with fail
        exact bodyPost_ret (v := .tuple #[.agg #[.int .i64 0, .int .i64 0], .bool false]) (by simp [results, Tryd.results6, go_sem, x0]) rfl (faultE_no HNO.out ((HB5.out.setCell (Nat.le_refl _) _).setCell (Nat.le_refl _) _))
theorem eqFault_any (k a k' a' : Int) (w : World) (h1 : k = k') (h2 : a = a') : Calls Tryd.prog 7 #[.agg #[.int .i64 k, .int .i64 a], .agg #[.int .i64 k', .int .i64 a']] w fun e w' => e = .returned (.bool true) ∧ Below w.heap.size w w' := by
  subst h1 h2
  go_enter Tryd.func7, Tryd.ntmps7
  go_wp2
  go_ret
  exact ⟨rfl, by (repeat' first | with_reducible exact Below.refl _ _ | with_reducible refine Below.alloc ?_ ?_ _ | with_reducible refine Below.setCell ?_ ?_ _ | with_reducible refine Below.drew ?_ | with_reducible refine Below.drewN' ?_ _ | with_reducible (refine Below.trans ?_ (Below.mono (by assumption) ?_)) | exact Nat.le_refl _ | (simp; done) | (simp; omega) | omega)⟩
set_option maxHeartbeats 1000000 in
theorem lawReadFault_walk (s : ByteArray) (w : World) (hd : Door w) : Calls Tryd.prog 3 #[.string s] w fun e w' => e = .returned (.bool true) ∧ Below w.heap.size w w' := by
  have HD := Lib.hid hd
  clear hd
  by_cases hs : 1048576 < s.size
  · have hs' : (1048576 : Int) < (s.size : Int) := by omega
    go_enter Tryd.func3, Tryd.ntmps3
    go_wp2
    go_ret
    exact ⟨rfl, Below.refl _ _⟩
  · go_enter Tryd.func3, Tryd.ntmps3
    go_wp2_with fail
    refine (specReadFault_any s _ (by omega)).mono ?_
    rintro e w1 ⟨k, a, b, hr, rfl, hb1⟩
    have HR := Lib.hid hr
    have HB1 := Lib.hid (hb1.alloc hb1.size (.cells #[.int .i64 k, .int .i64 a] 23))
    have BK := Lib.hid (Blk.at_ w1 23 #[.int .i64 k, .int .i64 a] rfl)
    clear hr hb1
    go_wp2_with fail
    refine (implReadFault_any s _ (by omega) (HD.out.below HB1.out)).mono ?_
    rintro e w2 ⟨k', a', b', hr, rfl, hb2⟩
    obtain ⟨rfl, rfl, rfl⟩ := FaultR.same HR.out hr
    have BK2 := Lib.hid (BK.out.below hb2 BK.out.lt)
    have BK3 := Lib.hid (BK2.out.alloc (.cells #[.int .i64 k, .int .i64 a] 23))
    have x0 := fun i => BK3.out.cell i
    have HB2 := Lib.hid ((HB1.out.trans (hb2.mono HB1.out.size)).alloc (HB1.out.trans (hb2.mono HB1.out.size)).size (.cells #[.int .i64 k, .int .i64 a] 23))
    clear hr hb2
    go_wp2_with fail
    refine (eqFault_any k a k a _ rfl rfl).mono ?_
    rintro e w3 ⟨rfl, hb3⟩
    have HB3 := Lib.hid (HB2.out.trans (hb3.mono HB2.out.size))
    clear hb3 x0
    go_wp2
    go_ret
    exact ⟨rfl, HB3.out⟩
end Go.Proofs.YtpgmkkepbnonmaaDoor
