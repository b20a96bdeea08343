/- Walks: a tube out of its text, by the reference and by the program. No condition but the bound and strconv's variables. -/
import Derived.Test.YtpgmkkepbnonmaaDoorReadTubes
namespace Go.Proofs.YtpgmkkepbnonmaaDoor
open Go.RowKit
set_option maxRecDepth 20000

theorem len6_no {s : ByteArray} {ls : List ByteArray} (hsp : ls.map (·.data.toList) = spl 32 s.data.toList) (h : ¬ ls.length = 6) : ∀ (n' r' c' : Int) (b' t' : Bool), tubeB n' r' c' = true → tubeT n' r' c' b' t' ≠ s := fun n' r' c' b' t' _ e => h (by
  have h := tube_spl n' r' c' b' t'
  rw [e, ← hsp] at h
  have := congrArg List.length h
  simpa using this)
theorem closed_list (p : ByteArray) : (p.toList == [99, 108, 111, 115, 101, 100]) = closedB p := by
  unfold closedB
  by_cases h : p = ⟨#[99, 108, 111, 115, 101, 100]⟩
  · subst h
    rw [ByteArray.toList_eq]
    simp
  · rw [decide_eq_false h]
    have h' := bytes_ne h
    rwa [ByteArray.toList_eq (⟨#[99, 108, 111, 115, 101, 100]⟩ : ByteArray)] at h'
/-- Five stores behind. -/
theorem five {w w' : World} {g : Nat} (h : Below w.heap.size w w') (hg : w.heap.size ≤ g) (a b c d e : Value) : Below w.heap.size w (((((w'.setCell ⟨g, 0, none⟩ a).setCell ⟨g, 1, none⟩ b).setCell ⟨g, 2, none⟩ c).setCell ⟨g, 3, none⟩ d).setCell ⟨g, 4, none⟩ e) :=
  ((((h.setCell (p := ⟨g, 0, none⟩) hg _).setCell (p := ⟨g, 1, none⟩) hg _).setCell (p := ⟨g, 2, none⟩) hg _).setCell (p := ⟨g, 3, none⟩) hg _).setCell (p := ⟨g, 4, none⟩) hg _
set_option maxHeartbeats 4000000 in
theorem specReadTube_any (s : ByteArray) (w : World) (hs : s.size ≤ 1048576) : Calls Tryd.prog 8 #[.string s] w (TubeE s w) := by
  go_enter Tryd.func8, Tryd.ntmps8
  go_wp2_with fail
  refine (l01Split_any s 32 32 rfl _ hs).mono ?_
  rintro e w1 ⟨A, cp, ls, rfl, hn, hsp, hsz, hlen, _⟩
  have HB1 := Lib.hid (show Below w.heap.size w w1 from (((Below.refl w.heap.size w).alloc (Nat.le_refl _) _).trans (hn.bl.mono (by simp))))
  have BR := Lib.hid (Blk.below (Blk.at_ w 29 #[.int .i64 0, .int .i64 0, .int .i64 0, .bool false, .bool false] rfl) hn.bl (by simp))
  have f0 := fun i => BR.out.frozen i
  have x0 := fun i => BR.out.cell i
  by_cases h6 : ls.length = 6
  · obtain ⟨p0, p1, p2, p3, p4, p5, rfl⟩ := six_pieces h6
    obtain ⟨g, o, rfl, hg1, hg2, hr, _⟩ := new_row hn (by simp)
    have hg1' : w.heap.size + 1 ≤ g := by simpa using hg1
    have HR := Lib.hid hr
    have HSP := Lib.hid hsp
    have hz1 := hsz p1 (by simp)
    have hz2 := hsz p2 (by simp)
    have hz3 := hsz p3 (by simp)
    have HG2 := Lib.hid hg2
    have c1 : w1.cell? ⟨g, o + 1, none⟩ = some (.string p1) := hr 1 (by simp)
    clear hn hsp hsz hr h6 hg2 hlen
    go_wp2_with fail
    refine (l01Number_any p1 _ (by omega)).mono ?_
    rintro e w2 ⟨n, x, hx, rfl, hb2⟩
    have HX := Lib.hid hx
    have HB2 := Lib.hid hb2
    have c2 : w2.cell? ⟨g, o + 2, none⟩ = some (.string p2) := ((bcell hb2).1 g _ HG2.out).trans (HR.out 2 (by simp))
    clear hx hb2 c1 x0 f0
    go_wp2_with fail
    refine (l01Number_any p2 _ (by omega)).mono ?_
    rintro e w3 ⟨r, y, hy, rfl, hb3⟩
    have HY := Lib.hid hy
    have HB3 := Lib.hid (HB2.out.trans (hb3.mono HB2.out.size))
    have c3 : w3.cell? ⟨g, o + 3, none⟩ = some (.string p3) := ((bcell HB3.out).1 g _ HG2.out).trans (HR.out 3 (by simp))
    clear hy hb3 c2
    go_wp2_with fail
    refine (l01Number_any p3 _ (by omega)).mono ?_
    rintro e w4 ⟨c, z, hz, rfl, hb4⟩
    have HZ := Lib.hid hz
    have HB4 := Lib.hid (HB3.out.trans (hb4.mono HB3.out.size))
    have c4 : w4.cell? ⟨g, o + 4, none⟩ = some (.string p4) := ((bcell HB4.out).1 g _ HG2.out).trans (HR.out 4 (by simp))
    have c5 : w4.cell? ⟨g, o + 5, none⟩ = some (.string p5) := ((bcell HB4.out).1 g _ HG2.out).trans (HR.out 5 (by simp))
    have BR4 := Lib.hid (BR.out.below HB4.out BR.out.lt)
    have HW4 := Lib.hid (HB1.out.trans (HB4.out.mono HB1.out.size))
    have hg4 : g < w4.heap.size := by have := HG2.out; have := HB4.out.size; omega
    have d4 := (World.cell?_alloc_lt w4 (.cells #[.int .i64 0, .int .i64 0, .int .i64 0, .bool false, .bool false] 29) ⟨g, o + 4, none⟩ hg4).trans c4
    have d5 := (World.cell?_alloc_lt w4 (.cells #[.int .i64 0, .int .i64 0, .int .i64 0, .bool false, .bool false] 29) ⟨g, o + 5, none⟩ hg4).trans c5
    have q4 := closed_list p4
    have q5 := closed_list p5
    clear hz hb4 c3
    obtain ⟨V4, hV4⟩ : ∃ V, V = closedB p4 := ⟨_, rfl⟩
    obtain ⟨V5, hV5⟩ : ∃ V, V = closedB p5 := ⟨_, rfl⟩
    have HV4 := Lib.hid hV4
    have HV5 := Lib.hid hV5
    rw [← hV4] at q4
    rw [← hV5] at q5
    clear hV4 hV5
    have BT := Lib.hid (Blk.at_ w4 29 #[.int .i64 n, .int .i64 r, .int .i64 c, .bool V4, .bool V5] rfl)
    have hbT : Below w4.heap.size w4 (w4.alloc (.cells #[.int .i64 n, .int .i64 r, .int .i64 c, .bool V4, .bool V5] 29)) := (Below.refl _ _).alloc (Nat.le_refl _) _
    have BR5 := Lib.hid (BR4.out.below hbT BR4.out.lt)
    have HW5n := Lib.hid (HW4.out.trans (hbT.mono HW4.out.size))
    have HW5 := Lib.hid (Below.drewN' HW5n.out 1)
    clear hbT
    go_wp2_with fail
    go_region
    clear q4 q5 d4 d5 c4 c5
    have y0 := fun i => BT.out.cell i
    have x0 := fun i => BR5.out.cell i
    have f0 := fun i => BR5.out.frozen i
    by_cases hall : x = true ∧ y = true ∧ z = true
    · obtain ⟨rfl, rfl, rfl⟩ := hall
      go_wp2_with fail
      refine (specTubeText_any n r c V4 V5 _).mono ?_
      rintro e w6 ⟨rfl, hb6⟩
      have BR6 := Lib.hid (Blk.below (show Blk ((w4.alloc (.cells #[.int .i64 n, .int .i64 r, .int .i64 c, .bool V4, .bool V5] 29)).drew) _ _ _ from BR5.out) hb6 BR5.out.lt)
      have BT6 := Lib.hid (Blk.below (show Blk ((w4.alloc (.cells #[.int .i64 n, .int .i64 r, .int .i64 c, .bool V4, .bool V5] 29)).drew) _ _ _ from BT.out) hb6 BT.out.lt)
      have HW6 := Lib.hid (HW5.out.trans (hb6.mono HW5.out.size))
      clear hb6 y0 x0 f0
      have y0 := fun i => BT6.out.cell i
      have x0 := fun i => BR6.out.cell i
      have f0 := fun i => BR6.out.frozen i
      by_cases he : tubeS n r c V4 V5 = s
      · have HYE := Lib.hid (six_yes HSP.out he)
        have he' : ((tubeS n r c V4 V5).toList == s.toList) = true := by simp [he]
        clear he
        go_wp2_with fail
        exact bodyPost_ret (v := .tuple #[.agg #[.int .i64 n, .int .i64 r, .int .i64 c, .bool V4, .bool V5], .bool true]) (by simp [results, Tryd.results8, go_sem, x0]) rfl ⟨_, _, _, _, _, _, HYE.out, rfl, five HW6.out (Nat.le_refl _) _ _ _ _ _⟩
      · have HNO := Lib.hid (six_no HSP.out HX.out HY.out HZ.out (.inr (.inr (.inr (by rw [← HV4.out, ← HV5.out]; exact tubeS_ne he)))))
        have he' := bytes_ne he
        clear he
        go_wp2_with fail
        exact bodyPost_ret (v := .tuple #[.agg #[.int .i64 0, .int .i64 0, .int .i64 0, .bool false, .bool false], .bool false]) (by simp [results, Tryd.results8, go_sem, x0]) rfl (tubeE_no HNO.out (five HW6.out (Nat.le_refl _) _ _ _ _ _))
    · have HNO := Lib.hid (six_no HSP.out HX.out HY.out HZ.out (n := n) (r := r) (c := c) (by
        cases x
        · exact .inl rfl
        · cases y
          · exact .inr (.inl rfl)
          · cases z
            · exact .inr (.inr (.inl rfl))
            · exact absurd ⟨rfl, rfl, rfl⟩ hall))
      cases x <;> cases y <;> cases z
      all_goals first
        | exact absurd ⟨rfl, rfl, rfl⟩ hall
        | (clear hall; go_wp2_with fail; exact bodyPost_ret (v := .tuple #[.agg #[.int .i64 0, .int .i64 0, .int .i64 0, .bool false, .bool false], .bool false]) (by simp [results, Tryd.results8, go_sem, x0]) rfl (tubeE_no HNO.out (Below.drewN' (five HW5n.out (Nat.le_refl _) _ _ _ _ _) 1)))
  · have h6' : ((ls.length : Int) == 6) = false := by simp; omega
    have HNO := Lib.hid (len6_no hsp h6)
    clear h6 hsp hsz hn
    go_wp2_with fail
    exact bodyPost_ret (v := .tuple #[.agg #[.int .i64 0, .int .i64 0, .int .i64 0, .bool false, .bool false], .bool false]) (by simp [results, Tryd.results8, go_sem, x0]) rfl (tubeE_no HNO.out (five HB1.out (Nat.le_refl _) _ _ _ _ _))
theorem numR_ex (s : ByteArray) : ∃ n b, NumR s n b := by
  by_cases h : ∃ m : Int, -999999999 ≤ m ∧ m ≤ 999999999 ∧ dec m = s
  · obtain ⟨m, h1, h2, h3⟩ := h
    exact ⟨m, true, .inl ⟨rfl, h3, h1, h2⟩⟩
  · exact ⟨0, false, .inr ⟨rfl, rfl, fun m h1 h2 h3 => h ⟨m, h1, h2, h3⟩⟩⟩
theorem any_no {s p0 p1 p2 p3 p4 p5 : ByteArray} (hp : [p0, p1, p2, p3, p4, p5].map (·.data.toList) = spl 32 s.data.toList) {j : Nat} (hj : j < 3) (h : NumR ([p1, p2, p3].getD j ByteArray.empty) 0 false) : ∀ (n' r' c' : Int) (b' t' : Bool), tubeB n' r' c' = true → tubeT n' r' c' b' t' ≠ s := by
  obtain ⟨n, x, hn⟩ := numR_ex p1
  obtain ⟨r, y, hr⟩ := numR_ex p2
  obtain ⟨c, z, hc⟩ := numR_ex p3
  refine six_no hp hn hr hc ?_
  have hK : j = 0 ∨ j = 1 ∨ j = 2 := by omega
  rcases hK with rfl | rfl | rfl
  · exact .inl (hn.same h).2
  · exact .inr (.inl (hr.same h).2)
  · exact .inr (.inr (.inl (hc.same h).2))
set_option maxHeartbeats 4000000 in
theorem implReadTube_any (s : ByteArray) (w : World) (hs : s.size ≤ 1048576) (hd : Door w) : Calls Tryd.prog 9 #[.string s] w (TubeE s w) := by
  have hb0 : Below w.heap.size w (w.alloc (.cells #[.int .i64 0, .int .i64 0, .int .i64 0, .bool false, .bool false] 29)) := (Below.refl _ _).alloc (Nat.le_refl _) _
  have HD0 := Lib.hid (hd.below hb0)
  clear hd hb0
  go_enter Tryd.func9, Tryd.ntmps9
  go_wp2_with fail
  refine (Split_any s 32 _ hs HD0.out).mono ?_
  rintro e w1 ⟨A, cp, ls, rfl, hn, hsp, hsz, hlen, hcp1, hcp2⟩
  have HB1 := Lib.hid (show Below w.heap.size w w1 from (((Below.refl w.heap.size w).alloc (Nat.le_refl _) _).trans (hn.bl.mono (by simp))))
  have HD1 := Lib.hid (HD0.out.below hn.bl)
  have BR := Lib.hid (Blk.below (Blk.at_ w 29 #[.int .i64 0, .int .i64 0, .int .i64 0, .bool false, .bool false] rfl) hn.bl (by simp))
  have f0 := fun i => BR.out.frozen i
  have x0 := fun i => BR.out.cell i
  by_cases h6 : ls.length = 6
  · obtain ⟨p0, p1, p2, p3, p4, p5, rfl⟩ := six_pieces h6
    obtain ⟨g, o, rfl, hg1, hg2, hr, _⟩ := new_row hn (by simp)
    have hg1' : w.heap.size + 1 ≤ g := by simpa using hg1
    have HR := Lib.hid hr
    have HSP := Lib.hid hsp
    have hz1 := hsz p1 (by simp)
    have hz2 := hsz p2 (by simp)
    have hz3 := hsz p3 (by simp)
    have HG2 := Lib.hid hg2
    have hcp : 6 ≤ cp := hcp1
    have HR3 := Lib.hid (show Rd w1 (some ⟨g, o + 1, none⟩) 3 (fun j => .string ([p1, p2, p3].getD j ByteArray.empty)) from fun _ => ⟨g, o + 1, rfl, HG2.out, fun j hj => by
      have h := HR.out (1 + j) (by simp; omega)
      rw [← Nat.add_assoc] at h
      rw [h]
      have hK : j = 0 ∨ j = 1 ∨ j = 2 := by omega
      rcases hK with rfl | rfl | rfl <;> rfl⟩)
    have HL3 := Lib.hid (show ∀ j, j < 3 → ([p1, p2, p3].getD j ByteArray.empty).size ≤ 1048576 from fun j hj => by
      have hK : j = 0 ∨ j = 1 ∨ j = 2 := by omega
      rcases hK with rfl | rfl | rfl
      · exact Nat.le_trans hz1 hs
      · exact Nat.le_trans hz2 hs
      · exact Nat.le_trans hz3 hs)
    clear hn hsp hsz hr h6 hg2 hlen hcp1
    go_wp2_with fail
    refine (readDecimals_any (some ⟨g, o + 1, none⟩) 3 _ (fun j => [p1, p2, p3].getD j ByteArray.empty) _ HR3.out (by omega) HL3.out HD1.out).mono ?_
    rintro e w2 (⟨A2, c2, zs, rfl, hzl, hn2, hnum⟩ | ⟨rfl, hb2, j, hj, hnum⟩)
    · obtain ⟨n, r, c, rfl⟩ : ∃ n r c, zs = [n, r, c] := by
        match zs, hzl with
        | [a, b, c], _ => exact ⟨a, b, c, rfl⟩
      obtain ⟨g2, o2, rfl, hg3, hg4, hr2, _⟩ := new_row hn2 (by omega)
      have HN1 := Lib.hid (hnum 0 (by omega))
      have HN2 := Lib.hid (hnum 1 (by omega))
      have HN3 := Lib.hid (hnum 2 (by omega))
      have HB2 := Lib.hid hn2.bl
      have BR2 := Lib.hid (BR.out.below hn2.bl BR.out.lt)
      have HW2 := Lib.hid (HB1.out.trans (HB2.out.mono HB1.out.size))
      have HD2 := Lib.hid (HD1.out.below hn2.bl)
      have hgl : g < w2.heap.size := blt HB2.out HG2.out
      have e4 : w2.cell? ⟨g, o + 4, none⟩ = some (.string p4) := ((bcell HB2.out).1 g _ HG2.out).trans (HR.out 4 (by simp))
      have e5 : w2.cell? ⟨g, o + 5, none⟩ = some (.string p5) := ((bcell HB2.out).1 g _ HG2.out).trans (HR.out 5 (by simp))
      have n0 : w2.cell? ⟨g2, o2, none⟩ = some (.int .i64 n) := hr2 0 (by omega)
      have n1 : w2.cell? ⟨g2, o2 + 1, none⟩ = some (.int .i64 r) := hr2 1 (by omega)
      have n2 : w2.cell? ⟨g2, o2 + 2, none⟩ = some (.int .i64 c) := hr2 2 (by omega)
      have d4 := (World.cell?_alloc_lt w2 (.cells #[.int .i64 0, .int .i64 0, .int .i64 0, .bool false, .bool false] 29) ⟨g, o + 4, none⟩ hgl).trans e4
      have d5 := (World.cell?_alloc_lt w2 (.cells #[.int .i64 0, .int .i64 0, .int .i64 0, .bool false, .bool false] 29) ⟨g, o + 5, none⟩ hgl).trans e5
      have m0 := (World.cell?_alloc_lt w2 (.cells #[.int .i64 0, .int .i64 0, .int .i64 0, .bool false, .bool false] 29) ⟨g2, o2, none⟩ hg4).trans n0
      have m1 := (World.cell?_alloc_lt w2 (.cells #[.int .i64 0, .int .i64 0, .int .i64 0, .bool false, .bool false] 29) ⟨g2, o2 + 1, none⟩ hg4).trans n1
      have m2 := (World.cell?_alloc_lt w2 (.cells #[.int .i64 0, .int .i64 0, .int .i64 0, .bool false, .bool false] 29) ⟨g2, o2 + 2, none⟩ hg4).trans n2
      have q4 := closed_list p4
      have q5 := closed_list p5
      obtain ⟨V4, hV4⟩ : ∃ V, V = closedB p4 := ⟨_, rfl⟩
      obtain ⟨V5, hV5⟩ : ∃ V, V = closedB p5 := ⟨_, rfl⟩
      have HV4 := Lib.hid hV4
      have HV5 := Lib.hid hV5
      rw [← hV4] at q4
      rw [← hV5] at q5
      have BT := Lib.hid (Blk.at_ w2 29 #[.int .i64 n, .int .i64 r, .int .i64 c, .bool V4, .bool V5] rfl)
      have hbT : Below w2.heap.size w2 (w2.alloc (.cells #[.int .i64 n, .int .i64 r, .int .i64 c, .bool V4, .bool V5] 29)) := (Below.refl _ _).alloc (Nat.le_refl _) _
      have BR5 := Lib.hid (BR2.out.below hbT BR2.out.lt)
      have HW5 := Lib.hid (Below.drewN' (HW2.out.trans (hbT.mono HW2.out.size)) 1)
      have HD5 := Lib.hid (HD2.out.below hbT)
      clear hV4 hV5 hzl hnum hn2 hr2 hbT x0 f0
      go_wp2_with fail
      go_region
      clear q4 q5 d4 d5 m0 m1 m2 n0 n1 n2 e4 e5
      have y0 := fun i => BT.out.cell i
      have x0 := fun i => BR5.out.cell i
      have f0 := fun i => BR5.out.frozen i
      go_wp2_with fail
      refine (validTube_any n r c V4 V5 _).mono ?_
      rintro e w6 ⟨rfl, hb6⟩
      have BR6 := Lib.hid (Blk.below (show Blk ((w2.alloc (.cells #[.int .i64 n, .int .i64 r, .int .i64 c, .bool V4, .bool V5] 29)).drew) _ _ _ from BR5.out) hb6 BR5.out.lt)
      have BT6 := Lib.hid (Blk.below (show Blk ((w2.alloc (.cells #[.int .i64 n, .int .i64 r, .int .i64 c, .bool V4, .bool V5] 29)).drew) _ _ _ from BT.out) hb6 BT.out.lt)
      have HW6 := Lib.hid (HW5.out.trans (hb6.mono HW5.out.size))
      have HD6 := Lib.hid (Door.below (show Door ((w2.alloc (.cells #[.int .i64 n, .int .i64 r, .int .i64 c, .bool V4, .bool V5] 29)).drew) from HD5.out) hb6)
      clear hb6 y0 x0 f0
      have y0 := fun i => BT6.out.cell i
      have x0 := fun i => BR6.out.cell i
      have f0 := fun i => BR6.out.frozen i
      cases hf : tubeB n r c
      · have HNO := Lib.hid (six_no HSP.out HN1.out HN2.out HN3.out (.inr (.inr (.inr (.inl hf)))))
        clear hf
        go_wp2_with fail
        exact bodyPost_ret (v := .tuple #[.agg #[.int .i64 0, .int .i64 0, .int .i64 0, .bool false, .bool false], .bool false]) (by simp [results, Tryd.results9, go_sem, x0]) rfl (tubeE_no HNO.out (five HW6.out (Nat.le_refl _) _ _ _ _ _))
      · have HF := Lib.hid hf
        clear hf
        go_wp2_with fail
        refine (tubeText_any n r c V4 V5 _ HF.out HD6.out.1).mono ?_
        rintro e w7 ⟨rfl, hb7⟩
        have BR7 := Lib.hid (BR6.out.below hb7 BR6.out.lt)
        have BT7 := Lib.hid (BT6.out.below hb7 BT6.out.lt)
        have HW7 := Lib.hid (HW6.out.trans (hb7.mono HW6.out.size))
        clear hb7 y0 x0 f0
        have y0 := fun i => BT7.out.cell i
        have x0 := fun i => BR7.out.cell i
        have f0 := fun i => BR7.out.frozen i
        by_cases he : tubeT n r c V4 V5 = s
        · have HYE := Lib.hid he
          have he' : ((tubeT n r c V4 V5).toList == s.toList) = true := by simp [he]
          clear he
          go_wp2_with fail
          exact bodyPost_ret (v := .tuple #[.agg #[.int .i64 n, .int .i64 r, .int .i64 c, .bool V4, .bool V5], .bool true]) (by simp [results, Tryd.results9, go_sem, x0]) rfl ⟨_, _, _, _, _, _, .inl ⟨rfl, HF.out, HYE.out⟩, rfl, five HW7.out (Nat.le_refl _) _ _ _ _ _⟩
        · have HNO := Lib.hid (six_no HSP.out HN1.out HN2.out HN3.out (.inr (.inr (.inr (.inr (by rw [← HV4.out, ← HV5.out]; exact he))))))
          have he' := bytes_ne he
          clear he
          go_wp2_with fail
          exact bodyPost_ret (v := .tuple #[.agg #[.int .i64 0, .int .i64 0, .int .i64 0, .bool false, .bool false], .bool false]) (by simp [results, Tryd.results9, go_sem, x0]) rfl (tubeE_no HNO.out (five HW7.out (Nat.le_refl _) _ _ _ _ _))
    · have HNO := Lib.hid (any_no HSP.out hj hnum)
      have BR2 := Lib.hid (BR.out.below hb2 BR.out.lt)
      have HW2 := Lib.hid (HB1.out.trans (hb2.mono HB1.out.size))
      clear hb2 hnum hj x0 f0
      have x0 := fun i => BR2.out.cell i
      have f0 := fun i => BR2.out.frozen i
      go_wp2_with fail
      exact bodyPost_ret (v := .tuple #[.agg #[.int .i64 0, .int .i64 0, .int .i64 0, .bool false, .bool false], .bool false]) (by simp [results, Tryd.results9, go_sem, x0]) rfl (tubeE_no HNO.out (five HW2.out (Nat.le_refl _) _ _ _ _ _))
  · have h6' : ((ls.length : Int) == 6) = false := by simp; omega
    have HNO := Lib.hid (len6_no hsp h6)
    clear h6 hsp hsz hn
    go_wp2_with fail
    exact bodyPost_ret (v := .tuple #[.agg #[.int .i64 0, .int .i64 0, .int .i64 0, .bool false, .bool false], .bool false]) (by simp [results, Tryd.results9, go_sem, x0]) rfl (tubeE_no HNO.out (five HB1.out (Nat.le_refl _) _ _ _ _ _))
theorem eqTube_any (n r c : Int) (b t : Bool) (w : World) : Calls Tryd.prog 10 #[.agg #[.int .i64 n, .int .i64 r, .int .i64 c, .bool b, .bool t], .agg #[.int .i64 n, .int .i64 r, .int .i64 c, .bool b, .bool t]] w fun e w' => e = .returned (.bool true) ∧ Below w.heap.size w w' := by
  have hb : (b != b) = false := by simp
  have ht : (t != t) = false := by simp
  go_enter Tryd.func10, Tryd.ntmps10
  go_wp2
  go_ret
  exact ⟨rfl, by (repeat' first | with_reducible exact Below.refl _ _ | with_reducible refine Below.alloc ?_ ?_ _ | with_reducible refine Below.setCell ?_ ?_ _ | with_reducible refine Below.drew ?_ | with_reducible refine Below.drewN' ?_ _ | with_reducible (refine Below.trans ?_ (Below.mono (by assumption) ?_)) | exact Nat.le_refl _ | (simp; done) | (simp; omega) | omega)⟩
set_option maxHeartbeats 1000000 in
theorem lawReadTube_walk (s : ByteArray) (w : World) (hd : Door w) : Calls Tryd.prog 4 #[.string s] w fun e w' => e = .returned (.bool true) ∧ Below w.heap.size w w' := by
  have HD := Lib.hid hd
  clear hd
  by_cases hs : 1048576 < s.size
  · have hs' : (1048576 : Int) < (s.size : Int) := by omega
    go_enter Tryd.func4, Tryd.ntmps4
    go_wp2
    go_ret
    exact ⟨rfl, Below.refl _ _⟩
  · go_enter Tryd.func4, Tryd.ntmps4
    go_wp2_with fail
    refine (specReadTube_any s _ (by omega)).mono ?_
    rintro e w1 ⟨n, r, c, b, t, ok, hr, rfl, hb1⟩
    have HR := Lib.hid hr
    have HB1 := Lib.hid (hb1.alloc hb1.size (.cells #[.int .i64 n, .int .i64 r, .int .i64 c, .bool b, .bool t] 29))
    have BK := Lib.hid (Blk.at_ w1 29 #[.int .i64 n, .int .i64 r, .int .i64 c, .bool b, .bool t] rfl)
    clear hr hb1
    go_wp2_with fail
    refine (implReadTube_any s _ (by omega) (HD.out.below HB1.out)).mono ?_
    rintro e w2 ⟨n', r', c', b', t', ok', hr, rfl, hb2⟩
    obtain ⟨rfl, rfl, rfl, rfl, rfl, rfl⟩ := TubeR.same HR.out hr
    have BK2 := Lib.hid (BK.out.below hb2 BK.out.lt)
    have BK3 := Lib.hid (BK2.out.alloc (.cells #[.int .i64 n, .int .i64 r, .int .i64 c, .bool b, .bool t] 29))
    have x0 := fun i => BK3.out.cell i
    have HB2 := Lib.hid ((HB1.out.trans (hb2.mono HB1.out.size)).alloc (HB1.out.trans (hb2.mono HB1.out.size)).size (.cells #[.int .i64 n, .int .i64 r, .int .i64 c, .bool b, .bool t] 29))
    clear hr hb2
    have hok : (ok != ok) = false := by simp
    go_wp2_with fail
    refine (eqTube_any n r c b t _).mono ?_
    rintro e w3 ⟨rfl, hb3⟩
    have HB3 := Lib.hid (HB2.out.trans (hb3.mono HB2.out.size))
    clear hb3 x0
    go_wp2
    go_ret
    exact ⟨rfl, HB3.out⟩
end Go.Proofs.YtpgmkkepbnonmaaDoor
