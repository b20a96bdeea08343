/- Walks: copies of operations, and what is executed instead of one with a fault, by the program. No condition but the bounds. -/
import Derived.Test.YtpmfkpehmckgmaaMachFs
import Derived.Test.YtpmfkpehmckgmaaConcat
import Derived.Test.YtpmfkpehmckgmaaMachU
import Derived.Test.YtpmfkpehmckgmaaMachS
namespace Go.Proofs.Ytpmfkpehmckgmaa
open Go.RowKit
set_option maxRecDepth 20000

theorem growOp_all (n : Nat) (w : World) (hn : n ≤ 4000) :
    Calls Try.prog 103 #[.slice none 0 0, .int .i64 n] w (OwnZ w 0 []) := by
  by_cases h0 : n = 0
  · subst h0
    go_enter Try.func103, Try.ntmps103
    go_wp2_with fail
    go_ret
    exact ⟨_, rfl, World.ownsRow_nil _ _ _ _, Below.refl _ _⟩
  · exact growOp_nil n w (by omega) hn
def appR2 (l1 l2 : List Int) (k : Nat) : List Int := if k = 0 then [] else if k = 1 then l1 else l1 ++ l2
set_option maxHeartbeats 1000000 in
theorem concatOp2_any (g cp : Nat) (A1 A2 : Option Addr) (n1 n2 c1 c2 : Nat) (f1 f2 : Nat → Int) (w : World) (h0 : w.cell? ⟨g, 0, none⟩ = some (.slice A1 n1 c1)) (h1 : w.cell? ⟨g, 1, none⟩ = some (.slice A2 n2 c2))
    (o1 : Rd w A1 (n1 * 8) (fun j => .int .i64 (f1 j))) (o2 : Rd w A2 (n2 * 8) (fun j => .int .i64 (f2 j))) (hn1 : n1 ≤ 1500) (hn2 : n2 ≤ 1500) :
    Calls Try.prog 78 #[.slice (some ⟨g, 0, none⟩) 2 cp] w (InsP w ((List.range (n1 * 8)).map f1 ++ (List.range (n2 * 8)).map f2) (n1 + n2)) := by
  obtain ⟨i0, hi, iz, is, ib⟩ := info_parts infoOp
  have hg := World.block_lt_of_cell? w _ h0
  have H0 := Lib.hid h0
  have H1 := Lib.hid h1
  have O1 := Lib.hid o1
  have O2 := Lib.hid o2
  clear h0 h1 o1 o2
  go_enter Try.func78, Try.ntmps78
  go_wp2
  go_loop [3, 11] (fun s i => ∃ k : Nat, k ≤ 2 ∧ i = .int .i64 k ∧ s = .int .i64 (sumN n1 n2 k)) (fun _ i => 2 - (intOf i).toNat)
  case atStart => exact ⟨0, by omega, rfl, rfl⟩
  case round =>
    obtain ⟨k, hk, rfl, rfl⟩ := hrel
    have k0 := H0.out
    have k1 := H1.out
    rcases (show k = 0 ∨ k = 1 ∨ k = 2 by omega) with rfl | rfl | rfl
    · simp only [sumN] at *
      go_wp2
      go_round
      case rel => exact ⟨1, by omega, by go_num, by simp⟩
      case measure => simp [intOf] <;> omega
    · simp only [sumN] at *
      go_wp2
      go_round
      case rel => exact ⟨2, by omega, by go_num, by simp⟩
      case measure => simp [intOf] <;> omega
    · simp only [sumN] at *
      go_wp2_with fail
      rw [← Int.natCast_add]
      refine (growOp_all (n1 + n2) _ (by omega)).mono ?_
      rintro e w1 ⟨v1, rfl, ho1, hb1⟩
      have HO1 := Lib.hid ho1
      have HB1 := Lib.hid hb1
      clear ho1 hb1 k0 k1
      go_wp2_with fail
      go_loopw [6, 27] (fun v i wr => ∃ k : Nat, k ≤ 2 ∧ i = .int .i64 k ∧ wr.ownsRow w.heap.size 58 8 v (sumN n1 n2 k) (ints (appR2 ((List.range (n1 * 8)).map f1) ((List.range (n2 * 8)).map f2) k)) ∧ Below w.heap.size w wr) (fun _ i _ => 2 - (intOf i).toNat)
      case atStart => exact ⟨0, by omega, rfl, HO1.out, HB1.out⟩
      case round =>
        obtain ⟨k, hk, rfl, hown, hb⟩ := hrel
        have k0 := ((bcell hb).1 _ _ hg).trans H0.out
        have k1 := ((bcell hb).1 _ _ hg).trans H1.out
        have P1 := Lib.hid (O1.out.below hb)
        have P2 := Lib.hid (O2.out.below hb)
        have hgr : g < wr.heap.size := blt hb hg
        have HB := Lib.hid hb
        have HOWN := Lib.hid hown
        clear hb hown
        rcases (show k = 0 ∨ k = 1 ∨ k = 2 by omega) with rfl | rfl | rfl
        · go_wp2_with (at_builtin; go_must (refine wpList_appR _ rfl (.tmp 31) (.tmp 32) _ rfl w.heap.size 58 i0 _ 8 64 Try.underlying26 hi iz is ib rfl (by omega) u6 0 (ints []) rfl HOWN.out A1 n1 c1 (fun j => .int .i64 (f1 j)) rfl P1.out (fun j => rfl) (by unfold maxLen; omega) (by omega) HB.out.size ?_); intro v' w' hown' hfr; have HOWN' := Lib.hid hown'; have HBN := Lib.hid (HB.out.trans ((hfr.own HOWN.out HB.out.size).mono (Nat.le_refl _))); clear hown' hfr)
          go_roundw
          case rel => exact ⟨1, by omega, by go_num, by simpa [sumN, appR2, ints, Function.comp_def] using HOWN'.out, HBN.out⟩
          case measure => simp [intOf] <;> omega
        · go_wp2_with (at_builtin; go_must (refine wpList_appR _ rfl (.tmp 31) (.tmp 32) _ rfl w.heap.size 58 i0 _ 8 64 Try.underlying26 hi iz is ib rfl (by omega) u6 n1 (ints ((List.range (n1 * 8)).map f1)) rfl HOWN.out A2 n2 c2 (fun j => .int .i64 (f2 j)) rfl P2.out (fun j => rfl) (by unfold maxLen; omega) (by omega) HB.out.size ?_); intro v' w' hown' hfr; have HOWN' := Lib.hid hown'; have HBN := Lib.hid (HB.out.trans ((hfr.own HOWN.out HB.out.size).mono (Nat.le_refl _))); clear hown' hfr)
          go_roundw
          case rel => exact ⟨2, by omega, by go_num, by simpa [sumN, appR2, ints, Function.comp_def] using HOWN'.out, HBN.out⟩
          case measure => simp [intOf] <;> omega
        · go_wp2
          go_ret
          exact ⟨_, rfl, HOWN.out, HB.out⟩
theorem cloneOp_any (g o n c : Nat) (y : Nat → Int) (w : World) (h : Rd w (some ⟨g, o, none⟩) (n * 8) (fun j => .int .i64 (y j))) (hn : n ≤ 1500) : Calls Try.prog 77 #[.slice (some ⟨g, o, none⟩) n c] w (InsP w ((List.range (n * 8)).map y) n) := by
  obtain ⟨i0, hi, iz, is, ib⟩ := info_parts infoOp
  have hb0 : Below w.heap.size w (w.alloc (.cells #[] 58)) := (Below.refl _ _).alloc (Nat.le_refl _) _
  have HR := Lib.hid (h.below hb0)
  have HO := Lib.hid (World.ownsRow_made (e := 58) (size := 8) w #[] 0 (Nat.le_refl _) (by unfold maxLen; omega) rfl)
  have HB := Lib.hid hb0
  clear h hb0
  have hq : ∀ w, (binOp .eql 26 (.slice (some ⟨g, o, none⟩) n c) (.slice none 0 0)).run Try.prog w = .ok (.bool false) w := fun w => Lib.run_eql_slice_nil w _ _ (some ⟨g, o, none⟩) n c 0 0 Try.underlying26
  go_enter Try.func77, Try.ntmps77
  go_wp2_with (at_builtin; go_must (refine wpList_appR (w.alloc (.cells #[] 58)) rfl (.tmp 5) (.tmp 6) _ rfl w.heap.size 58 i0 _ 8 64 Try.underlying26 hi iz is ib rfl (by omega) _ 0 [] rfl HO.out (some ⟨g, o, none⟩) n c (fun j => .int .i64 (y j)) rfl HR.out (fun j => rfl) (by unfold maxLen; omega) (by omega) (by simp) ?_); intro v' w' hown' hfr; have HOWN' := Lib.hid hown'; have HFR := Lib.hid hfr; clear hown' hfr)
  go_ret
  have ho := HOWN'.out
  rw [Nat.zero_add, List.nil_append] at ho
  exact ⟨_, rfl, by simpa [ints, Function.comp_def] using ho, HB.out.trans (HFR.out.own HO.out (by simp))⟩
section
variable {tg : Nat → Nat} {a : MAdr} {s : Mst} {D : Nat} {w : World}
/-- The two blocks that are laid first: the operation's, the drop's. -/
structure In2 (w Wc : World) (k d fb fa tb ta c r : Int) : Prop where
  x : Blk Wc w.heap.size 58 (opC k d fb fa tb ta c r)
  y : Blk Wc (w.heap.size + 1) 58 (opC 6 0 fb fa 0 0 0 0)
  b : Below w.heap.size w Wc
theorem in2 (w : World) (k d fb fa tb ta c r : Int) : In2 w ((w.alloc (.cells (opC k d fb fa tb ta c r) 58)).alloc (.cells (opC 6 0 fb fa 0 0 0 0) 58)) k d fb fa tb ta c r :=
  ⟨(Blk.at_ _ _ _ rfl).alloc _, Blk.at_ _ _ _ (by simp), ((Below.refl _ _).alloc (Nat.le_refl _) _).alloc (by simp) _⟩
set_option maxHeartbeats 2000000 in
theorem insI1 (k d fb fa tb ta c r f : Int) (h2 : f ≠ 2) (h3 : f ≠ 3) (h4 : f ≠ 4) : Calls Try.prog 79 #[.pointer (some ⟨a.g, 0, none⟩), .agg (opC k d fb fa tb ta c r), .int .i64 f] w (InsP w [] 0) := by
  have h2' : (f == 2) = false := by simpa using h2
  have h3' : (f == 3) = false := by simpa using h3
  have h4' : (f == 4) = false := by simpa using h4
  have H2 := Lib.hid (in2 w k d fb fa tb ta c r)
  clear h2 h3 h4
  go_enter Try.func79, Try.ntmps79
  go_upto_region 2 with (fail)
  obtain ⟨Wc, hWc⟩ : ∃ x, x = (w.alloc (.cells (opC k d fb fa tb ta c r) 58)).alloc (.cells (opC 6 0 fb fa 0 0 0 0) 58) := ⟨_, rfl⟩
  rw [← hWc] at H2 ⊢
  clear hWc
  go_wp2_with fail
  go_ret
  exact ⟨_, rfl, World.ownsRow_nil _ _ _ _, H2.out.b⟩
set_option maxHeartbeats 2000000 in
theorem insI2 (k d fb fa tb ta c r : Int) : Calls Try.prog 79 #[.pointer (some ⟨a.g, 0, none⟩), .agg (opC k d fb fa tb ta c r), .int .i64 2] w (InsP w ([k, d, fb, fa, tb, ta, c, r] ++ dropL fb fa) 2) := by
  have H2 := Lib.hid (in2 w k d fb fa tb ta c r)
  go_enter Try.func79, Try.ntmps79
  go_upto_region 2 with (fail)
  obtain ⟨Wc, hWc⟩ : ∃ x, x = (w.alloc (.cells (opC k d fb fa tb ta c r) 58)).alloc (.cells (opC 6 0 fb fa 0 0 0 0) 58) := ⟨_, rfl⟩
  rw [← hWc] at H2 ⊢
  clear hWc
  have x0 := (show _ = some (Value.int .i64 k) from H2.out.x.cell 0)
  have x1 := (show _ = some (Value.int .i64 d) from H2.out.x.cell 1)
  have x2 := (show _ = some (Value.int .i64 fb) from H2.out.x.cell 2)
  have x3 := (show _ = some (Value.int .i64 fa) from H2.out.x.cell 3)
  have x4 := (show _ = some (Value.int .i64 tb) from H2.out.x.cell 4)
  have x5 := (show _ = some (Value.int .i64 ta) from H2.out.x.cell 5)
  have x6 := (show _ = some (Value.int .i64 c) from H2.out.x.cell 6)
  have x7 := (show _ = some (Value.int .i64 r) from H2.out.x.cell 7)
  have y0 := (show _ = some (Value.int .i64 6) from H2.out.y.cell 0)
  have y1 := (show _ = some (Value.int .i64 0) from H2.out.y.cell 1)
  have y2 := (show _ = some (Value.int .i64 fb) from H2.out.y.cell 2)
  have y3 := (show _ = some (Value.int .i64 fa) from H2.out.y.cell 3)
  have y4 := (show _ = some (Value.int .i64 0) from H2.out.y.cell 4)
  have y5 := (show _ = some (Value.int .i64 0) from H2.out.y.cell 5)
  have y6 := (show _ = some (Value.int .i64 0) from H2.out.y.cell 6)
  have y7 := (show _ = some (Value.int .i64 0) from H2.out.y.cell 7)
  have HO := Lib.hid (own_lit (base := w.heap.size) (e := 58) (size := 8) Wc (ints ([k, d, fb, fa, tb, ta, c, r] ++ dropL fb fa)) 2 H2.out.b.size (by unfold maxLen; omega) rfl)
  go_wp2_with fail
  go_ret
  exact ⟨_, rfl, HO.out, H2.out.b.alloc H2.out.b.size _⟩
set_option maxHeartbeats 4000000 in
theorem insI3 (H : Mem tg a s w) (k d fb fa tb ta c r : Int) (hfb : fb = 1 ∨ fb = 2) (ha0 : 0 ≤ fa) (ha1 : fa < s.W) : Calls Try.prog 79 #[.pointer (some ⟨a.g, 0, none⟩), .agg (opC k d fb fa tb ta c r), .int .i64 3] w (InsP w (if lstN s fb fa = 0 then missL d fb fa c else dropL fb fa ++ missL d fb fa c) (if lstN s fb fa = 0 then 1 else 2)) := by
  have H2 := Lib.hid (in2 w k d fb fa tb ta c r)
  have HM := Lib.hid H
  obtain ⟨Al, cl, hal⟩ := (H.lst (b := fb) ha0 ha1).form
  have HAL := Lib.hid hal
  obtain ⟨ln, hln⟩ : ∃ x, x = lstN s fb fa := ⟨_, rfl⟩
  rw [← hln] at HAL ⊢
  have HFB := Lib.hid hfb
  clear H hal hln hfb
  by_cases h0 : ln = 0
  · rw [if_pos h0, if_pos h0]
    subst h0
    go_enter Try.func79, Try.ntmps79
    go_upto_region 2 with (fail)
    obtain ⟨Wc, hWc⟩ : ∃ x, x = (w.alloc (.cells (opC k d fb fa tb ta c r) 58)).alloc (.cells (opC 6 0 fb fa 0 0 0 0) 58) := ⟨_, rfl⟩
    rw [← hWc] at H2 ⊢
    clear hWc
    have x0 := (show _ = some (Value.int .i64 k) from H2.out.x.cell 0)
    have x1 := (show _ = some (Value.int .i64 d) from H2.out.x.cell 1)
    have x2 := (show _ = some (Value.int .i64 fb) from H2.out.x.cell 2)
    have x3 := (show _ = some (Value.int .i64 fa) from H2.out.x.cell 3)
    have x4 := (show _ = some (Value.int .i64 tb) from H2.out.x.cell 4)
    have x5 := (show _ = some (Value.int .i64 ta) from H2.out.x.cell 5)
    have x6 := (show _ = some (Value.int .i64 c) from H2.out.x.cell 6)
    have x7 := (show _ = some (Value.int .i64 r) from H2.out.x.cell 7)
    have x3' : Wc.cell? ⟨w.heap.size, 2 + 1, none⟩ = some (Value.int .i64 fa) := H2.out.x.cell 3
    go_upto_region 7 with (fail)
    obtain ⟨Wd, hWd⟩ : ∃ x, x = Wc.alloc (.cells (opC 3 d fb fa 0 0 c 0) 58) := ⟨_, rfl⟩
    rw [← hWd]
    obtain ⟨gd, hgd⟩ : ∃ x, x = Wc.heap.size := ⟨_, rfl⟩
    rw [← hgd]
    have hbd : Below Wc.heap.size Wc Wd := hWd ▸ (Below.refl _ _).alloc (Nat.le_refl _) _
    have HZ : Hid (Blk Wd gd 58 (opC 3 d fb fa 0 0 c 0)) := Lib.hid (hWd ▸ Blk.at_ _ _ _ hgd)
    have HX := Lib.hid (H2.out.x.below hbd H2.out.x.lt)
    have HY := Lib.hid (H2.out.y.below hbd H2.out.y.lt)
    have HBd := Lib.hid (H2.out.b.trans (hbd.mono H2.out.b.size))
    have z2 := (show _ = some (Value.int .i64 fb) from HX.out.cell 2)
    have z3 : Wd.cell? ⟨w.heap.size, 2 + 1, none⟩ = some (Value.int .i64 fa) := HX.out.cell 3
    have hon := on_any fb fa (HM.out.below HBd.out) HFB.out ha0 ha1
    have HON := Lib.hid hon
    clear hon hWd hgd hbd x0 x1 x2 x3 x4 x5 x6 x7 x3'
    go_wp2_with fail
    refine HON.out.mono ?_
    rintro e We ⟨rfl, hbe⟩
    have hme := (HM.out.below HBd.out).below hbe
    have hcl := hme.cellN (b := fb) ha0 ha1
    rw [HAL.out] at hcl
    have HZe := Lib.hid (HZ.out.below hbe HZ.out.lt)
    have HYe := Lib.hid (HY.out.below hbe HY.out.lt)
    have HBe := Lib.hid (HBd.out.trans (hbe.mono HBd.out.size))
    have d0 := (show _ = some (Value.int .i64 3) from HZe.out.cell 0)
    have d1 := (show _ = some (Value.int .i64 d) from HZe.out.cell 1)
    have d2 := (show _ = some (Value.int .i64 fb) from HZe.out.cell 2)
    have d3 := (show _ = some (Value.int .i64 fa) from HZe.out.cell 3)
    have d4 := (show _ = some (Value.int .i64 0) from HZe.out.cell 4)
    have d5 := (show _ = some (Value.int .i64 0) from HZe.out.cell 5)
    have d6 := (show _ = some (Value.int .i64 c) from HZe.out.cell 6)
    have d7 := (show _ = some (Value.int .i64 0) from HZe.out.cell 7)
    clear hbe hme z2 z3
    have HO := Lib.hid (own_lit (base := w.heap.size) (e := 58) (size := 8) We (ints (missL d fb fa c)) 1 HBe.out.size (by unfold maxLen; omega) rfl)
    go_wp2_with fail
    go_ret
    exact ⟨_, rfl, HO.out, HBe.out.alloc HBe.out.size _⟩
  · rw [if_neg h0, if_neg h0]
    have hlp : (0 : Int) < (ln : Int) := by omega
    clear h0
    go_enter Try.func79, Try.ntmps79
    go_upto_region 2 with (fail)
    obtain ⟨Wc, hWc⟩ : ∃ x, x = (w.alloc (.cells (opC k d fb fa tb ta c r) 58)).alloc (.cells (opC 6 0 fb fa 0 0 0 0) 58) := ⟨_, rfl⟩
    rw [← hWc] at H2 ⊢
    clear hWc
    have x0 := (show _ = some (Value.int .i64 k) from H2.out.x.cell 0)
    have x1 := (show _ = some (Value.int .i64 d) from H2.out.x.cell 1)
    have x2 := (show _ = some (Value.int .i64 fb) from H2.out.x.cell 2)
    have x3 := (show _ = some (Value.int .i64 fa) from H2.out.x.cell 3)
    have x4 := (show _ = some (Value.int .i64 tb) from H2.out.x.cell 4)
    have x5 := (show _ = some (Value.int .i64 ta) from H2.out.x.cell 5)
    have x6 := (show _ = some (Value.int .i64 c) from H2.out.x.cell 6)
    have x7 := (show _ = some (Value.int .i64 r) from H2.out.x.cell 7)
    have x3' : Wc.cell? ⟨w.heap.size, 2 + 1, none⟩ = some (Value.int .i64 fa) := H2.out.x.cell 3
    go_upto_region 7 with (fail)
    obtain ⟨Wd, hWd⟩ : ∃ x, x = Wc.alloc (.cells (opC 3 d fb fa 0 0 c 0) 58) := ⟨_, rfl⟩
    rw [← hWd]
    obtain ⟨gd, hgd⟩ : ∃ x, x = Wc.heap.size := ⟨_, rfl⟩
    rw [← hgd]
    have hbd : Below Wc.heap.size Wc Wd := hWd ▸ (Below.refl _ _).alloc (Nat.le_refl _) _
    have HZ : Hid (Blk Wd gd 58 (opC 3 d fb fa 0 0 c 0)) := Lib.hid (hWd ▸ Blk.at_ _ _ _ hgd)
    have HX := Lib.hid (H2.out.x.below hbd H2.out.x.lt)
    have HY := Lib.hid (H2.out.y.below hbd H2.out.y.lt)
    have HBd := Lib.hid (H2.out.b.trans (hbd.mono H2.out.b.size))
    have z2 := (show _ = some (Value.int .i64 fb) from HX.out.cell 2)
    have z3 : Wd.cell? ⟨w.heap.size, 2 + 1, none⟩ = some (Value.int .i64 fa) := HX.out.cell 3
    have hon := on_any fb fa (HM.out.below HBd.out) HFB.out ha0 ha1
    have HON := Lib.hid hon
    clear hon hWd hgd hbd x0 x1 x2 x3 x4 x5 x6 x7 x3'
    go_wp2_with fail
    refine HON.out.mono ?_
    rintro e We ⟨rfl, hbe⟩
    have hme := (HM.out.below HBd.out).below hbe
    have hcl := hme.cellN (b := fb) ha0 ha1
    rw [HAL.out] at hcl
    have HZe := Lib.hid (HZ.out.below hbe HZ.out.lt)
    have HYe := Lib.hid (HY.out.below hbe HY.out.lt)
    have HBe := Lib.hid (HBd.out.trans (hbe.mono HBd.out.size))
    have d0 := (show _ = some (Value.int .i64 3) from HZe.out.cell 0)
    have d1 := (show _ = some (Value.int .i64 d) from HZe.out.cell 1)
    have d2 := (show _ = some (Value.int .i64 fb) from HZe.out.cell 2)
    have d3 := (show _ = some (Value.int .i64 fa) from HZe.out.cell 3)
    have d4 := (show _ = some (Value.int .i64 0) from HZe.out.cell 4)
    have d5 := (show _ = some (Value.int .i64 0) from HZe.out.cell 5)
    have d6 := (show _ = some (Value.int .i64 c) from HZe.out.cell 6)
    have d7 := (show _ = some (Value.int .i64 0) from HZe.out.cell 7)
    have y0 := (show _ = some (Value.int .i64 6) from HYe.out.cell 0)
    have y1 := (show _ = some (Value.int .i64 0) from HYe.out.cell 1)
    have y2 := (show _ = some (Value.int .i64 fb) from HYe.out.cell 2)
    have y3 := (show _ = some (Value.int .i64 fa) from HYe.out.cell 3)
    have y4 := (show _ = some (Value.int .i64 0) from HYe.out.cell 4)
    have y5 := (show _ = some (Value.int .i64 0) from HYe.out.cell 5)
    have y6 := (show _ = some (Value.int .i64 0) from HYe.out.cell 6)
    have y7 := (show _ = some (Value.int .i64 0) from HYe.out.cell 7)
    clear hbe hme z2 z3
    have HO := Lib.hid (own_lit (base := w.heap.size) (e := 58) (size := 8) We (ints (dropL fb fa ++ missL d fb fa c)) 2 HBe.out.size (by unfold maxLen; omega) rfl)
    go_wp2_with fail
    go_ret
    exact ⟨_, rfl, HO.out, HBe.out.alloc HBe.out.size _⟩
set_option maxHeartbeats 2000000 in
theorem insI4 (r : Int) (hr0 : -3 ≤ r) (hr1 : r ≤ 3) : Calls Try.prog 79 #[.pointer (some ⟨a.g, 0, none⟩), .agg (opC 7 0 0 0 0 0 0 r), .int .i64 4] w (InsP w (rackL r) 1) := by
  have H2 := Lib.hid (in2 w 7 0 0 0 0 0 0 r)
  have HR : Hid (newR r = if r < 3 then r + 1 else r - 1) := Lib.hid rfl
  by_cases h3 : r = 3
  · subst h3
    go_enter Try.func79, Try.ntmps79
    go_upto_region 2 with (fail)
    obtain ⟨Wc, hWc⟩ : ∃ x, x = (w.alloc (.cells (opC 7 0 0 0 0 0 0 3) 58)).alloc (.cells (opC 6 0 0 0 0 0 0 0) 58) := ⟨_, rfl⟩
    rw [← hWc] at H2 ⊢
    clear hWc
    have x7 := (show _ = some (Value.int .i64 3) from H2.out.x.cell 7)
    have HO := Lib.hid (own_lit (base := w.heap.size) (e := 58) (size := 8) Wc (ints (rackL 3)) 1 H2.out.b.size (by unfold maxLen; omega) rfl)
    go_wp2_with fail
    go_ret
    exact ⟨_, rfl, HO.out, H2.out.b.alloc H2.out.b.size _⟩
  · have h3' : (r == 3) = false := by simpa using h3
    have hw1 : IntKind.i64.wrap (r + 1) = r + 1 := by rw [IntKind.wrap_i64]; omega
    have HN : Hid (rackL r = [7, 0, 0, 0, 0, 0, 0, r + 1]) := Lib.hid (by unfold rackL; rw [HR.out, if_pos (by omega)])
    clear h3
    go_enter Try.func79, Try.ntmps79
    go_upto_region 2 with (fail)
    obtain ⟨Wc, hWc⟩ : ∃ x, x = (w.alloc (.cells (opC 7 0 0 0 0 0 0 r) 58)).alloc (.cells (opC 6 0 0 0 0 0 0 0) 58) := ⟨_, rfl⟩
    rw [← hWc] at H2 ⊢
    clear hWc
    have x7 := (show _ = some (Value.int .i64 r) from H2.out.x.cell 7)
    have HO := Lib.hid (own_lit (base := w.heap.size) (e := 58) (size := 8) Wc (ints [7, 0, 0, 0, 0, 0, 0, r + 1]) 1 H2.out.b.size (by unfold maxLen; omega) rfl)
    go_wp2_with fail
    go_ret
    exact ⟨_, rfl, by rw [HN.out]; exact HO.out, H2.out.b.alloc H2.out.b.size _⟩
theorem instead_any {W : Nat} {z : Nat → Int} {i : Nat} {f : Int} (H : Mem tg a s w) (hW : s.W = W) (hW1 : 1 ≤ W) (h : opW W z i = true) (hc : canB f (z (i * 8)) = true) (hfb : f = 3 → z (i * 8 + 2) = 1 ∨ z (i * 8 + 2) = 2) :
    Calls Try.prog 79 #[.pointer (some ⟨a.g, 0, none⟩), .agg (opC (z (i * 8)) (z (i * 8 + 1)) (z (i * 8 + 2)) (z (i * 8 + 3)) (z (i * 8 + 4)) (z (i * 8 + 5)) (z (i * 8 + 6)) (z (i * 8 + 7))), .int .i64 f] w (InsP w (insL s z i f) (insN s z i f)) := by
  have hp := opOk_at hW1 h
  by_cases h2 : f = 2
  · subst h2
    exact insI2 _ _ _ _ _ _ _ _
  · by_cases h3 : f = 3
    · subst h3
      exact insI3 H _ _ _ _ _ _ _ _ (hfb rfl) hp.f0 (by rw [hW]; exact hp.f1)
    · by_cases h4 : f = 4
      · subst h4
        have hk : z (i * 8) = 7 := by rw [canB4] at hc; simpa using hc
        obtain ⟨e1, e2, e3, e4, e5, e6⟩ := rack_zero h hk
        rw [hk, e1, e2, e3, e4, e5, e6]
        exact insI4 _ hp.r0 hp.r1
      · have e1 : insL s z i f = [] := by unfold insL; rw [if_neg h2, if_neg h3, if_neg h4]
        have e2 : insN s z i f = 0 := by unfold insN; rw [if_neg h2, if_neg h3, if_neg h4]
        rw [e1, e2]
        exact insI1 _ _ _ _ _ _ _ _ f h2 h3 h4
end
end Go.Proofs.Ytpmfkpehmckgmaa
