/- Walks: what is executed instead of an operation with a fault, by the reference. No condition but the bounds. -/
import Derived.Test.YtpmfkpehmckgmaaMachFy
import Derived.Test.YtpmfkpehmckgmaaTubes
namespace Go.Proofs.Ytpmfkpehmckgmaa
open Go.RowKit
set_option maxRecDepth 20000

def InsP (w : World) (L : List Int) (K : Nat) (e : Ending) (w' : World) : Prop := ∃ v, e = .returned v ∧ w'.ownsRow w.heap.size 58 8 v K (ints L) ∧ Below w.heap.size w w'
section
variable {tg : Nat → Nat} {a : MAdr} {s : Mst} {D : Nat} {w : World}
abbrev opC (k d fb fa tb ta c r : Int) : Array Value := #[.int .i64 k, .int .i64 d, .int .i64 fb, .int .i64 fa, .int .i64 tb, .int .i64 ta, .int .i64 c, .int .i64 r]
/-- The three blocks that are laid first: the operation's, the list's, the drop's. -/
structure In3 (w Wc : World) (k d fb fa tb ta c r : Int) : Prop where
  x : Blk Wc w.heap.size 58 (opC k d fb fa tb ta c r)
  o : Wc.ownsRow w.heap.size 58 8 (.slice (some ⟨w.heap.size + 1, 0, none⟩) 0 0) 0 []
  y : Blk Wc (w.heap.size + 1 + 1) 58 (opC 6 0 fb fa 0 0 0 0)
  b : Below w.heap.size w Wc
theorem in3 (w : World) (k d fb fa tb ta c r : Int) : In3 w (((w.alloc (.cells (opC k d fb fa tb ta c r) 58)).alloc (.cells #[] 58)).alloc (.cells (opC 6 0 fb fa 0 0 0 0) 58)) k d fb fa tb ta c r := by
  have h := World.ownsRow_made (e := 58) (size := 8) (w.alloc (.cells (opC k d fb fa tb ta c r) 58)) #[] 0 (Nat.le_refl _) (by unfold maxLen; omega) rfl
  rw [World.size_alloc] at h
  exact ⟨((Blk.at_ _ _ _ rfl).alloc _).alloc _, (own_base h (Nat.le_succ _)).alloc _, Blk.at_ _ _ _ (by simp), (((Below.refl _ _).alloc (Nat.le_refl _) _).alloc (by simp) _).alloc (by simp; omega) _⟩
set_option maxHeartbeats 2000000 in
theorem l29Ins1 (k d fb fa tb ta c r f : Int) (h2 : f ≠ 2) (h3 : f ≠ 3) (h4 : f ≠ 4) : Calls Try.prog 75 #[.pointer (some ⟨a.g, 0, none⟩), .agg (opC k d fb fa tb ta c r), .int .i64 f] w (InsP w [] 0) := by
  have h2' : (f == 2) = false := by simpa using h2
  have h3' : (f == 3) = false := by simpa using h3
  have h4' : (f == 4) = false := by simpa using h4
  have H3 := Lib.hid (in3 w k d fb fa tb ta c r)
  clear h2 h3 h4
  go_enter Try.func75, Try.ntmps75
  go_upto_region 3 with (fail)
  obtain ⟨Wc, hWc⟩ : ∃ x, x = ((w.alloc (.cells (opC k d fb fa tb ta c r) 58)).alloc (.cells #[] 58)).alloc (.cells (opC 6 0 fb fa 0 0 0 0) 58) := ⟨_, rfl⟩
  rw [← hWc] at H3 ⊢
  clear hWc
  go_wp2_with fail
  go_ret
  exact ⟨_, rfl, H3.out.o, H3.out.b⟩
set_option maxHeartbeats 2000000 in
theorem l29Ins2 (k d fb fa tb ta c r : Int) : Calls Try.prog 75 #[.pointer (some ⟨a.g, 0, none⟩), .agg (opC k d fb fa tb ta c r), .int .i64 2] w (InsP w ([k, d, fb, fa, tb, ta, c, r] ++ dropL fb fa) 2) := by
  obtain ⟨i0, hi, iz, is, ib⟩ := info_parts infoOp
  have H3 := Lib.hid (in3 w k d fb fa tb ta c r)
  go_enter Try.func75, Try.ntmps75
  go_upto_region 3 with (fail)
  obtain ⟨Wc, hWc⟩ : ∃ x, x = ((w.alloc (.cells (opC k d fb fa tb ta c r) 58)).alloc (.cells #[] 58)).alloc (.cells (opC 6 0 fb fa 0 0 0 0) 58) := ⟨_, rfl⟩
  rw [← hWc] at H3 ⊢
  clear hWc
  have x0 := (show _ = some (Value.int .i64 k) from H3.out.x.cell 0)
  have x1 := (show _ = some (Value.int .i64 d) from H3.out.x.cell 1)
  have x2 := (show _ = some (Value.int .i64 fb) from H3.out.x.cell 2)
  have x3 := (show _ = some (Value.int .i64 fa) from H3.out.x.cell 3)
  have x4 := (show _ = some (Value.int .i64 tb) from H3.out.x.cell 4)
  have x5 := (show _ = some (Value.int .i64 ta) from H3.out.x.cell 5)
  have x6 := (show _ = some (Value.int .i64 c) from H3.out.x.cell 6)
  have x7 := (show _ = some (Value.int .i64 r) from H3.out.x.cell 7)
  have y0 := (show _ = some (Value.int .i64 6) from H3.out.y.cell 0)
  have y1 := (show _ = some (Value.int .i64 0) from H3.out.y.cell 1)
  have y2 := (show _ = some (Value.int .i64 fb) from H3.out.y.cell 2)
  have y3 := (show _ = some (Value.int .i64 fa) from H3.out.y.cell 3)
  have y4 := (show _ = some (Value.int .i64 0) from H3.out.y.cell 4)
  have y5 := (show _ = some (Value.int .i64 0) from H3.out.y.cell 5)
  have y6 := (show _ = some (Value.int .i64 0) from H3.out.y.cell 6)
  have y7 := (show _ = some (Value.int .i64 0) from H3.out.y.cell 7)
  go_wp2_with (at_builtin; go_must (refine wpList_app Wc rfl (.tmp 16) (.tmp 19) _ rfl w.heap.size 58 i0 _ 8 64 Try.underlying26 hi iz is ib rfl (by omega) (.slice (some ⟨w.heap.size + 1, 0, none⟩) 0 0) 0 [] (by rfl) H3.out.o _ 2 2 (ints ([k, d, fb, fa, tb, ta, c, r] ++ dropL fb fa)) rfl rfl (ints_one _) (by unfold maxLen; omega) (by omega) H3.out.b.size ?_); intro v' w' hown' hb'; rw [Nat.zero_add, List.nil_append] at hown'; have HOWN := Lib.hid hown'; have HB := Lib.hid (H3.out.b.trans hb'); clear hown' hb')
  go_wp2_with fail
  go_ret
  exact ⟨_, rfl, HOWN.out, HB.out⟩
set_option maxHeartbeats 4000000 in
theorem l29Ins3 (H : Mem tg a s w) (k d fb fa tb ta c r : Int) (ha0 : 0 ≤ fa) (ha1 : fa < s.W) : Calls Try.prog 75 #[.pointer (some ⟨a.g, 0, none⟩), .agg (opC k d fb fa tb ta c r), .int .i64 3] w (InsP w (if lstN s fb fa = 0 then missL d fb fa c else dropL fb fa ++ missL d fb fa c) (if lstN s fb fa = 0 then 1 else 2)) := by
  obtain ⟨i0, hi, iz, is, ib⟩ := info_parts infoOp
  have H3 := Lib.hid (in3 w k d fb fa tb ta c r)
  have HM := Lib.hid H
  obtain ⟨Al, cl, hal⟩ := (H.lst (b := fb) ha0 ha1).form
  have HAL := Lib.hid hal
  obtain ⟨ln, hln⟩ : ∃ x, x = lstN s fb fa := ⟨_, rfl⟩
  rw [← hln] at HAL ⊢
  clear H hal hln
  by_cases h0 : ln = 0
  · rw [if_pos h0, if_pos h0]
    subst h0
    go_enter Try.func75, Try.ntmps75
    go_upto_region 3 with (fail)
    obtain ⟨Wc, hWc⟩ : ∃ x, x = ((w.alloc (.cells (opC k d fb fa tb ta c r) 58)).alloc (.cells #[] 58)).alloc (.cells (opC 6 0 fb fa 0 0 0 0) 58) := ⟨_, rfl⟩
    rw [← hWc] at H3 ⊢
    clear hWc
    have x2 := (show _ = some (Value.int .i64 fb) from H3.out.x.cell 2)
    have x3 : Wc.cell? ⟨w.heap.size, 2 + 1, none⟩ = some (Value.int .i64 fa) := H3.out.x.cell 3
    have hon := l07On_any fb fa Wc (HM.out.below H3.out.b) ha0 ha1
    rw [HAL.out] at hon
    have HON := Lib.hid hon
    clear hon
    go_wp2_with fail
    refine HON.out.mono ?_
    rintro e Wd ⟨rfl, hbd⟩
    have hx := H3.out.x.below hbd H3.out.x.lt
    have hy := H3.out.y.below hbd H3.out.y.lt
    have HX := Lib.hid hx
    have HY := Lib.hid hy
    have HO := Lib.hid (own_below H3.out.o hbd)
    have HB := Lib.hid (H3.out.b.trans (hbd.mono H3.out.b.size))
    clear hbd x2 x3
    have z1 := (show _ = some (Value.int .i64 d) from hx.cell 1)
    have z2 := (show _ = some (Value.int .i64 fb) from hx.cell 2)
    have z3 : Wd.cell? ⟨w.heap.size, 2 + 1, none⟩ = some (Value.int .i64 fa) := hx.cell 3
    have z6 := (show _ = some (Value.int .i64 c) from hx.cell 6)
    clear hx hy
    go_wp2_with (at_builtin; go_must (refine wpList_app Wd rfl (.tmp 33) (.tmp 41) _ rfl w.heap.size 58 i0 _ 8 64 Try.underlying26 hi iz is ib rfl (by omega) (.slice (some ⟨w.heap.size + 1, 0, none⟩) 0 0) 0 [] (by rfl) HO.out _ 1 1 (ints (missL d fb fa c)) rfl rfl (ints_one _) (by unfold maxLen; omega) (by omega) HB.out.size ?_); intro v' w' hown' hb'; rw [Nat.zero_add, List.nil_append] at hown'; have HOWN := Lib.hid hown'; have HB2 := Lib.hid (HB.out.trans hb'); clear hown' hb')
    go_wp2_with fail
    go_ret
    exact ⟨_, rfl, HOWN.out, HB2.out⟩
  · rw [if_neg h0, if_neg h0]
    have hlp : (0 : Int) < (ln : Int) := by omega
    clear h0
    go_enter Try.func75, Try.ntmps75
    go_upto_region 3 with (fail)
    obtain ⟨Wc, hWc⟩ : ∃ x, x = ((w.alloc (.cells (opC k d fb fa tb ta c r) 58)).alloc (.cells #[] 58)).alloc (.cells (opC 6 0 fb fa 0 0 0 0) 58) := ⟨_, rfl⟩
    rw [← hWc] at H3 ⊢
    clear hWc
    have x2 := (show _ = some (Value.int .i64 fb) from H3.out.x.cell 2)
    have x3 : Wc.cell? ⟨w.heap.size, 2 + 1, none⟩ = some (Value.int .i64 fa) := H3.out.x.cell 3
    have hon := l07On_any fb fa Wc (HM.out.below H3.out.b) ha0 ha1
    rw [HAL.out] at hon
    have HON := Lib.hid hon
    clear hon
    go_wp2_with fail
    refine HON.out.mono ?_
    rintro e Wd ⟨rfl, hbd⟩
    have hx := H3.out.x.below hbd H3.out.x.lt
    have hy := H3.out.y.below hbd H3.out.y.lt
    have HX := Lib.hid hx
    have HY := Lib.hid hy
    have HO := Lib.hid (own_below H3.out.o hbd)
    have HB := Lib.hid (H3.out.b.trans (hbd.mono H3.out.b.size))
    clear hbd x2 x3
    have y0 := (show _ = some (Value.int .i64 6) from hy.cell 0)
    have y1 := (show _ = some (Value.int .i64 0) from hy.cell 1)
    have y2 := (show _ = some (Value.int .i64 fb) from hy.cell 2)
    have y3 := (show _ = some (Value.int .i64 fa) from hy.cell 3)
    have y4 := (show _ = some (Value.int .i64 0) from hy.cell 4)
    have y5 := (show _ = some (Value.int .i64 0) from hy.cell 5)
    have y6 := (show _ = some (Value.int .i64 0) from hy.cell 6)
    have y7 := (show _ = some (Value.int .i64 0) from hy.cell 7)
    clear hx hy
    go_upto_region 9 with (at_builtin; go_must (refine wpList_appG Wd rfl (.tmp 29) (.tmp 31) _ rfl w.heap.size 58 i0 _ 8 64 Try.underlying26 hi iz is ib rfl (by omega) (.slice (some ⟨w.heap.size + 1, 0, none⟩) 0 0) 0 [] (by rfl) HO.out _ 1 1 (ints (dropL fb fa)) rfl rfl (ints_one _) (by unfold maxLen; omega) (by omega) HB.out.size ?_); intro v' w' hown' hfr'; have HX2 := Lib.hid (HX.out.fr hfr' (fun e => by have h1 : w.heap.size + 1 = w.heap.size := Option.some.inj e; omega)); have HB2 := Lib.hid (HB.out.trans (hfr'.own HO.out HB.out.size)); rw [Nat.zero_add, List.nil_append] at hown'; have HOWN := Lib.hid hown'; clear hown' hfr')
    have z1 := (show _ = some (Value.int .i64 d) from HX2.out.cell 1)
    have z2 := (show _ = some (Value.int .i64 fb) from HX2.out.cell 2)
    have z3 : w'.cell? ⟨w.heap.size, 2 + 1, none⟩ = some (Value.int .i64 fa) := HX2.out.cell 3
    have z6 := (show _ = some (Value.int .i64 c) from HX2.out.cell 6)
    clear y0 y1 y2 y3 y4 y5 y6 y7
    go_wp2_with (at_builtin; go_must (refine wpList_app w' rfl (.tmp 33) (.tmp 41) _ rfl w.heap.size 58 i0 _ 8 64 Try.underlying26 hi iz is ib rfl (by omega) v' 1 _ (by rfl) HOWN.out _ 1 1 (ints (missL d fb fa c)) rfl rfl (ints_one _) (by unfold maxLen; omega) (by omega) HB2.out.size ?_); intro v2 w2 hown2 hb2; rw [← ints_app] at hown2; have HOWN2 := Lib.hid hown2; have HB3 := Lib.hid (HB2.out.trans hb2); clear hown2 hb2)
    go_wp2_with fail
    go_ret
    exact ⟨_, rfl, HOWN2.out, HB3.out⟩
set_option maxHeartbeats 2000000 in
theorem l29Ins4 (r : Int) (hr0 : -3 ≤ r) (hr1 : r ≤ 3) : Calls Try.prog 75 #[.pointer (some ⟨a.g, 0, none⟩), .agg (opC 7 0 0 0 0 0 0 r), .int .i64 4] w (InsP w (rackL r) 1) := by
  obtain ⟨i0, hi, iz, is, ib⟩ := info_parts infoOp
  have H3 := Lib.hid (in3 w 7 0 0 0 0 0 0 r)
  obtain ⟨r', hr'⟩ : ∃ x, x = newR r := ⟨_, rfl⟩
  have HR' := Lib.hid hr'
  clear hr'
  go_enter Try.func75, Try.ntmps75
  go_upto_region 3 with (fail)
  obtain ⟨Wc, hWc⟩ : ∃ x, x = ((w.alloc (.cells (opC 7 0 0 0 0 0 0 r) 58)).alloc (.cells #[] 58)).alloc (.cells (opC 6 0 0 0 0 0 0 0) 58) := ⟨_, rfl⟩
  rw [← hWc] at H3 ⊢
  clear hWc
  have x7 := (show _ = some (Value.int .i64 r) from H3.out.x.cell 7)
  have f7 := H3.out.x.frozen 7
  by_cases h3 : r < 3
  · have hn : r' = r + 1 := HR'.out.trans (if_pos h3)
    have hw1 : IntKind.i64.wrap (r + 1) = r + 1 := by rw [IntKind.wrap_i64]; omega
    have HN := Lib.hid hn
    clear hn
    go_upto_region 14 with (fail)
    obtain ⟨Wd, hWd⟩ : ∃ x, x = Wc.setCell ⟨w.heap.size, 7, none⟩ (.int .i64 (r + 1)) := ⟨_, rfl⟩
    rw [← hWd]
    have HX : Hid (Blk Wd w.heap.size 58 (opC 7 0 0 0 0 0 0 (r + 1))) := Lib.hid (hWd ▸ H3.out.x.set_ 7 (.int .i64 (r + 1)))
    have HO : Hid (Wd.ownsRow w.heap.size 58 8 (.slice (some ⟨w.heap.size + 1, 0, none⟩) 0 0) 0 []) := Lib.hid (hWd ▸ own_blk H3.out.o fun b hb => set_keep _ _ _ _ (by intro e; have h1 : w.heap.size + 1 = b := Option.some.inj hb; rw [show b = w.heap.size from e] at h1; omega))
    have HB : Hid (Below w.heap.size w Wd) := Lib.hid (hWd ▸ H3.out.b.setCell (Nat.le_refl _) _)
    have x0 := (show _ = some (Value.int .i64 7) from HX.out.cell 0)
    have x1 := (show _ = some (Value.int .i64 0) from HX.out.cell 1)
    have x2 := (show _ = some (Value.int .i64 0) from HX.out.cell 2)
    have x3 := (show _ = some (Value.int .i64 0) from HX.out.cell 3)
    have x4 := (show _ = some (Value.int .i64 0) from HX.out.cell 4)
    have x5 := (show _ = some (Value.int .i64 0) from HX.out.cell 5)
    have x6 := (show _ = some (Value.int .i64 0) from HX.out.cell 6)
    have x7' := (show _ = some (Value.int .i64 (r + 1)) from HX.out.cell 7)
    clear hWd x7 f7
    go_wp2_with (at_builtin; go_must (refine wpList_app Wd rfl (.tmp 56) (.tmp 58) _ rfl w.heap.size 58 i0 _ 8 64 Try.underlying26 hi iz is ib rfl (by omega) (.slice (some ⟨w.heap.size + 1, 0, none⟩) 0 0) 0 [] (by rfl) HO.out _ 1 1 (ints [7, 0, 0, 0, 0, 0, 0, r + 1]) rfl rfl (ints_one _) (by unfold maxLen; omega) (by omega) HB.out.size ?_); intro v' w' hown' hb'; rw [Nat.zero_add, List.nil_append] at hown'; have HOWN := Lib.hid hown'; have HB2 := Lib.hid (HB.out.trans hb'); clear hown' hb')
    go_wp2_with fail
    go_ret
    exact ⟨_, rfl, by unfold rackL; rw [← HR'.out, HN.out]; exact HOWN.out, HB2.out⟩
  · have hn : r' = r - 1 := HR'.out.trans (if_neg h3)
    have hw1 : IntKind.i64.wrap (r - 1) = r - 1 := by rw [IntKind.wrap_i64]; omega
    have HN := Lib.hid hn
    clear hn
    go_upto_region 14 with (fail)
    obtain ⟨Wd, hWd⟩ : ∃ x, x = Wc.setCell ⟨w.heap.size, 7, none⟩ (.int .i64 (r - 1)) := ⟨_, rfl⟩
    rw [← hWd]
    have HX : Hid (Blk Wd w.heap.size 58 (opC 7 0 0 0 0 0 0 (r - 1))) := Lib.hid (hWd ▸ H3.out.x.set_ 7 (.int .i64 (r - 1)))
    have HO : Hid (Wd.ownsRow w.heap.size 58 8 (.slice (some ⟨w.heap.size + 1, 0, none⟩) 0 0) 0 []) := Lib.hid (hWd ▸ own_blk H3.out.o fun b hb => set_keep _ _ _ _ (by intro e; have h1 : w.heap.size + 1 = b := Option.some.inj hb; rw [show b = w.heap.size from e] at h1; omega))
    have HB : Hid (Below w.heap.size w Wd) := Lib.hid (hWd ▸ H3.out.b.setCell (Nat.le_refl _) _)
    have x0 := (show _ = some (Value.int .i64 7) from HX.out.cell 0)
    have x1 := (show _ = some (Value.int .i64 0) from HX.out.cell 1)
    have x2 := (show _ = some (Value.int .i64 0) from HX.out.cell 2)
    have x3 := (show _ = some (Value.int .i64 0) from HX.out.cell 3)
    have x4 := (show _ = some (Value.int .i64 0) from HX.out.cell 4)
    have x5 := (show _ = some (Value.int .i64 0) from HX.out.cell 5)
    have x6 := (show _ = some (Value.int .i64 0) from HX.out.cell 6)
    have x7' := (show _ = some (Value.int .i64 (r - 1)) from HX.out.cell 7)
    clear hWd x7 f7
    go_wp2_with (at_builtin; go_must (refine wpList_app Wd rfl (.tmp 56) (.tmp 58) _ rfl w.heap.size 58 i0 _ 8 64 Try.underlying26 hi iz is ib rfl (by omega) (.slice (some ⟨w.heap.size + 1, 0, none⟩) 0 0) 0 [] (by rfl) HO.out _ 1 1 (ints [7, 0, 0, 0, 0, 0, 0, r - 1]) rfl rfl (ints_one _) (by unfold maxLen; omega) (by omega) HB.out.size ?_); intro v' w' hown' hb'; rw [Nat.zero_add, List.nil_append] at hown'; have HOWN := Lib.hid hown'; have HB2 := Lib.hid (HB.out.trans hb'); clear hown' hb')
    go_wp2_with fail
    go_ret
    exact ⟨_, rfl, by unfold rackL; rw [← HR'.out, HN.out]; exact HOWN.out, HB2.out⟩
end
/-- What an operation of the kinds that can fail looks like. -/
theorem rack_zero {W : Nat} {z : Nat → Int} {i : Nat} (h : opW W z i = true) (hk : z (i * 8) = 7) : z (i * 8 + 1) = 0 ∧ z (i * 8 + 2) = 0 ∧ z (i * 8 + 3) = 0 ∧ z (i * 8 + 4) = 0 ∧ z (i * 8 + 5) = 0 ∧ z (i * 8 + 6) = 0 := by
  unfold opW at h
  rw [hk] at h
  generalize z (i * 8 + 2) = fb at *
  generalize z (i * 8 + 3) = fa at *
  generalize z (i * 8 + 1) = d at *
  generalize z (i * 8 + 4) = tb at *
  generalize z (i * 8 + 5) = ta at *
  generalize z (i * 8 + 6) = c at *
  generalize z (i * 8 + 7) = r at *
  simp [opB, ndB, inB, dirB] at h
  omega
section
variable {tg : Nat → Nat} {a : MAdr} {s : Mst} {D : Nat} {w : World}
theorem l29Instead_any {W : Nat} {z : Nat → Int} {i : Nat} {f : Int} (H : Mem tg a s w) (hW : s.W = W) (hW1 : 1 ≤ W) (h : opW W z i = true) (hc : canB f (z (i * 8)) = true) :
    Calls Try.prog 75 #[.pointer (some ⟨a.g, 0, none⟩), .agg (opC (z (i * 8)) (z (i * 8 + 1)) (z (i * 8 + 2)) (z (i * 8 + 3)) (z (i * 8 + 4)) (z (i * 8 + 5)) (z (i * 8 + 6)) (z (i * 8 + 7))), .int .i64 f] w (InsP w (insL s z i f) (insN s z i f)) := by
  have hp := opOk_at hW1 h
  by_cases h2 : f = 2
  · subst h2
    exact l29Ins2 _ _ _ _ _ _ _ _
  · by_cases h3 : f = 3
    · subst h3
      exact l29Ins3 H _ _ _ _ _ _ _ _ hp.f0 (by rw [hW]; exact hp.f1)
    · by_cases h4 : f = 4
      · subst h4
        have hk : z (i * 8) = 7 := by rw [canB4] at hc; simpa using hc
        obtain ⟨e1, e2, e3, e4, e5, e6⟩ := rack_zero h hk
        rw [hk, e1, e2, e3, e4, e5, e6]
        exact l29Ins4 _ hp.r0 hp.r1
      · have e1 : insL s z i f = [] := by unfold insL; rw [if_neg h2, if_neg h3, if_neg h4]
        have e2 : insN s z i f = 0 := by unfold insN; rw [if_neg h2, if_neg h3, if_neg h4]
        rw [e1, e2]
        exact l29Ins1 _ _ _ _ _ _ _ _ f h2 h3 h4
end
end Go.Proofs.Ytpmfkpehmckgmaa
