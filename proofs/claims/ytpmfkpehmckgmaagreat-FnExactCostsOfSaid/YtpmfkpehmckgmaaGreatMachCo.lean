/- Walks: the costs of a program, by the program. No condition but the bounds. -/
import Derived.Test.YtpmfkpehmckgmaaGreatMachYn
namespace Go.Proofs.YtpmfkpehmckgmaaGreat
open Go.RowKit
set_option maxRecDepth 20000

/-- How often yarn is brought in or taken out. -/
def endsN (z : Nat → Int) : Nat → Nat
  | 0 => 0
  | i + 1 => if z (i * 8) = 8 ∨ z (i * 8) = 9 then endsN z i + 1 else endsN z i
theorem endsN_le (z : Nat → Int) : ∀ i, endsN z i ≤ i
  | 0 => Nat.le_refl _
  | i + 1 => by
    have := endsN_le z i
    unfold endsN
    split <;> omega
abbrev cCells (n P R K T : Int) (gy : Nat) : Array Value := #[.int .i64 n, .int .i64 P, .int .i64 R, .int .i64 K, .int .i64 T, .slice (some ⟨gy, 0, none⟩) 4 4]
def CostP (w : World) (n P R K T : Int) (yc : Array Value) (e : Ending) (w' : World) : Prop := ∃ gy, e = .returned (.agg (cCells n P R K T gy)) ∧ w.heap.size ≤ gy ∧ Blk w' gy 2 yc ∧ Below w.heap.size w w'
def psN (z : Nat → Int) (n : Nat) : Nat := (psAt z n).L.length / 6
def rtN (z : Nat → Int) (n : Nat) : Int := (retS (psAt z n).L ((psAt z n).L.length / 6)).1
def tmN (W : Nat) (z : Nat → Int) (n : Nat) : Int := 20 * (psN z n : Nat) + 10 * rtN z n + 5 * rks W z n + 8 * (endsN z n : Nat)
theorem yCells_zero (W : Nat) (z : Nat → Int) (i : Nat) (h : yNeed (mSt W z i) z i = 0) : yCells W z i = yCells W z (i + 1) := by
  unfold yCells
  simp only [yAt, h]
  simp
set_option maxHeartbeats 8000000 in
theorem costsOf_any (W : Nat) (A : Option Addr) (n q : Nat) (z : Nat → Int) (w : World) (ha : Rd w A (n * 8) (fun j => .int .i64 (z j))) (hW1 : 1 ≤ W) (hW2 : W ≤ 24) (hn : n ≤ 1500) (hops : ∀ i, i < n → opW W z i = true) (hok : okTo W z n) :
    Calls Tryz.prog 18 #[.int .i64 W, .slice A n q] w (CostP w n (psN z n : Nat) (rtN z n) (rks W z n) (tmN W z n) (yCells W z n)) := by
  have HAW := Lib.hid ha
  have HOPS := Lib.hid hops
  have HOK := Lib.hid hok
  obtain ⟨w0, hw0⟩ : ∃ x, x = w.alloc (.cells #[.int .i64 0, .int .i64 0, .int .i64 0, .int .i64 0, .int .i64 0, .slice none 0 0] 26) := ⟨_, rfl⟩
  have HRES : Hid (Blk w0 w.heap.size 26 #[.int .i64 0, .int .i64 0, .int .i64 0, .int .i64 0, .int .i64 0, .slice none 0 0]) := Lib.hid (hw0 ▸ Blk.at_ _ _ _ rfl)
  have HB0 : Hid (Below w.heap.size w w0) := Lib.hid (hw0 ▸ (Below.refl _ _).alloc (Nat.le_refl _) _)
  have HA := Lib.hid (ha.below HB0.out)
  have HS0 : Hid (w0.heap.size = w.heap.size + 1) := Lib.hid (by rw [hw0]; simp)
  have HW0 := Lib.hid hw0
  have hmk4 : ∀ w, (Instr.makeSlice 24 (.int .i64 4) (.int .i64 4)).run Tryz.prog w = .ok (.slice (some ⟨w.heap.size, 0, none⟩) 4 4) (w.alloc (.cells #[.int .i64 0, .int .i64 0, .int .i64 0, .int .i64 0] 2)) := fun _ => by kernel_rfl
  obtain ⟨P, hP⟩ : ∃ x, x = psN z n := ⟨_, rfl⟩
  have HP := Lib.hid hP
  rw [← hP]
  have HCP : Hid (∀ w1, Below w0.heap.size w0 w1 → Calls Tryz.prog 34 #[.slice A n q] w1 fun e w' => e = .returned (.int .i64 (P : Nat)) ∧ Below w1.heap.size w1 w') := Lib.hid fun w1 hb => by
    rw [HP.out]
    exact countPasses_any W A n q z w1 (HA.out.below hb) hW1 hW2 hn HOPS.out
  clear ha hops hok hw0 hP
  go_enter Tryz.func18, Tryz.ntmps18
  go_upto_region 1 with (fail)
  rw [← HW0.out]
  go_cut [5] from 10 to 15 (fun s5 wx => ∃ g gy, s5 = .pointer (some ⟨g, 0, none⟩) ∧ Blk wx g 26 (cCells n (P : Nat) 0 0 0 gy) ∧ Blk wx gy 2 #[.int .i64 0, .int .i64 0, .int .i64 0, .int .i64 0] ∧ g ≠ gy ∧ w0.heap.size ≤ g ∧ w0.heap.size ≤ gy ∧ Below w0.heap.size w0 wx)
  case first =>
    go_region_with (first
      | (go_at_call 34; (with_reducible refine (HCP.out w0.drew (Below.refl _ _).drew).mono ?_); rintro e w2 ⟨rfl, hb2⟩; have hbc : Below w0.heap.size w0 w0.drew := (Below.refl _ _).drew; have HBW : Hid (Below w0.heap.size w0 w2) := Lib.hid (hbc.trans (hb2.mono hbc.size)); clear hbc; clear hb2)
      | (go_at_call 34; (with_reducible refine (HCP.out ((w0.alloc (.cells #[.int .i64 0, .int .i64 0, .int .i64 0, .int .i64 0] 2)).drew) (((Below.refl _ _).alloc (by simp) _).drew)).mono ?_); rintro e w2 ⟨rfl, hb2⟩; have hbc : Below w0.heap.size w0 ((w0.alloc (.cells #[.int .i64 0, .int .i64 0, .int .i64 0, .int .i64 0] 2)).drew) := (((Below.refl _ _).alloc (by simp) _).drew); have HBW : Hid (Below w0.heap.size w0 w2) := Lib.hid (hbc.trans (hb2.mono hbc.size)); clear hbc; have HY0 : Hid (Blk w2 (w0.heap.size) 2 #[.int .i64 0, .int .i64 0, .int .i64 0, .int .i64 0]) := Lib.hid (Blk.below (show Blk ((w0.alloc (.cells #[.int .i64 0, .int .i64 0, .int .i64 0, .int .i64 0] 2)).drew) (w0.heap.size) _ _ from Blk.at_ w0 _ _ rfl) hb2 (by simp <;> omega)); clear hb2)
      | (go_at_call 34; (with_reducible refine (HCP.out ((w0.alloc (.cells #[.int .i64 0, .int .i64 0, .int .i64 0, .int .i64 0, .int .i64 0, .slice none 0 0] 26)).drew) (((Below.refl _ _).alloc (by simp) _).drew)).mono ?_); rintro e w2 ⟨rfl, hb2⟩; have hbc : Below w0.heap.size w0 ((w0.alloc (.cells #[.int .i64 0, .int .i64 0, .int .i64 0, .int .i64 0, .int .i64 0, .slice none 0 0] 26)).drew) := (((Below.refl _ _).alloc (by simp) _).drew); have HBW : Hid (Below w0.heap.size w0 w2) := Lib.hid (hbc.trans (hb2.mono hbc.size)); clear hbc; have BG : Blk w2 (w0.heap.size) 26 #[.int .i64 0, .int .i64 0, .int .i64 0, .int .i64 0, .int .i64 0, .slice none 0 0] := Blk.below (show Blk ((w0.alloc (.cells #[.int .i64 0, .int .i64 0, .int .i64 0, .int .i64 0, .int .i64 0, .slice none 0 0] 26)).drew) (w0.heap.size) _ _ from Blk.at_ w0 _ _ rfl) hb2 (by simp <;> omega); have c0 := BG.cell 0; have r0 := BG.frozen 0; have c1 := BG.cell 1; have r1 := BG.frozen 1; have c2 := BG.cell 2; have r2 := BG.frozen 2; have c3 := BG.cell 3; have r3 := BG.frozen 3; have c4 := BG.cell 4; have r4 := BG.frozen 4; have c5 := BG.cell 5; have r5 := BG.frozen 5; have HBG := Lib.hid BG; have n0 : w2.heap.size ≠ w0.heap.size := Nat.ne_of_gt BG.lt; have n1 : w0.heap.size ≠ w2.heap.size := Nat.ne_of_lt BG.lt; have BY := BG.alloc (.cells #[.int .i64 0, .int .i64 0, .int .i64 0, .int .i64 0] 2); have cy0 := BY.cell 0; have ry0 := BY.frozen 0; have cy1 := BY.cell 1; have ry1 := BY.frozen 1; have cy2 := BY.cell 2; have ry2 := BY.frozen 2; have cy3 := BY.cell 3; have ry3 := BY.frozen 3; have cy4 := BY.cell 4; have ry4 := BY.frozen 4; have cy5 := BY.cell 5; have ry5 := BY.frozen 5; clear BY BG; clear hb2)
      | (go_at_call 34; (with_reducible refine (HCP.out (((w0.alloc (.cells #[.int .i64 0, .int .i64 0, .int .i64 0, .int .i64 0] 2)).alloc (.cells #[.int .i64 0, .int .i64 0, .int .i64 0, .int .i64 0, .int .i64 0, .slice none 0 0] 26)).drew) ((((Below.refl _ _).alloc (by simp) _).alloc (by simp) _).drew)).mono ?_); rintro e w2 ⟨rfl, hb2⟩; have hbc : Below w0.heap.size w0 (((w0.alloc (.cells #[.int .i64 0, .int .i64 0, .int .i64 0, .int .i64 0] 2)).alloc (.cells #[.int .i64 0, .int .i64 0, .int .i64 0, .int .i64 0, .int .i64 0, .slice none 0 0] 26)).drew) := ((((Below.refl _ _).alloc (by simp) _).alloc (by simp) _).drew); have HBW : Hid (Below w0.heap.size w0 w2) := Lib.hid (hbc.trans (hb2.mono hbc.size)); clear hbc; have HY0 : Hid (Blk w2 (w0.heap.size) 2 #[.int .i64 0, .int .i64 0, .int .i64 0, .int .i64 0]) := Lib.hid (Blk.below (show Blk (((w0.alloc (.cells #[.int .i64 0, .int .i64 0, .int .i64 0, .int .i64 0] 2)).alloc (.cells #[.int .i64 0, .int .i64 0, .int .i64 0, .int .i64 0, .int .i64 0, .slice none 0 0] 26)).drew) (w0.heap.size) _ _ from (Blk.at_ w0 _ _ rfl).alloc _) hb2 (by simp <;> omega)); have BG : Blk w2 (w0.heap.size + 1) 26 #[.int .i64 0, .int .i64 0, .int .i64 0, .int .i64 0, .int .i64 0, .slice none 0 0] := Blk.below (show Blk (((w0.alloc (.cells #[.int .i64 0, .int .i64 0, .int .i64 0, .int .i64 0] 2)).alloc (.cells #[.int .i64 0, .int .i64 0, .int .i64 0, .int .i64 0, .int .i64 0, .slice none 0 0] 26)).drew) (w0.heap.size + 1) _ _ from Blk.at_ (w0.alloc (.cells #[.int .i64 0, .int .i64 0, .int .i64 0, .int .i64 0] 2)) _ _ (by simp)) hb2 (by simp <;> omega); have c0 := BG.cell 0; have r0 := BG.frozen 0; have c1 := BG.cell 1; have r1 := BG.frozen 1; have c2 := BG.cell 2; have r2 := BG.frozen 2; have c3 := BG.cell 3; have r3 := BG.frozen 3; have c4 := BG.cell 4; have r4 := BG.frozen 4; have c5 := BG.cell 5; have r5 := BG.frozen 5; have HBG := Lib.hid BG; have n0 : w2.heap.size ≠ w0.heap.size + 1 := Nat.ne_of_gt BG.lt; have n1 : w0.heap.size + 1 ≠ w2.heap.size := Nat.ne_of_lt BG.lt; have BY := BG.alloc (.cells #[.int .i64 0, .int .i64 0, .int .i64 0, .int .i64 0] 2); have cy0 := BY.cell 0; have ry0 := BY.frozen 0; have cy1 := BY.cell 1; have ry1 := BY.frozen 1; have cy2 := BY.cell 2; have ry2 := BY.frozen 2; have cy3 := BY.cell 3; have ry3 := BY.frozen 3; have cy4 := BY.cell 4; have ry4 := BY.frozen 4; have cy5 := BY.cell 5; have ry5 := BY.frozen 5; clear BY BG; clear hb2)
      | (go_at_call 34; (with_reducible refine (HCP.out (((w0.alloc (.cells #[.int .i64 0, .int .i64 0, .int .i64 0, .int .i64 0, .int .i64 0, .slice none 0 0] 26)).alloc (.cells #[.int .i64 0, .int .i64 0, .int .i64 0, .int .i64 0] 2)).drew) ((((Below.refl _ _).alloc (by simp) _).alloc (by simp) _).drew)).mono ?_); rintro e w2 ⟨rfl, hb2⟩; have hbc : Below w0.heap.size w0 (((w0.alloc (.cells #[.int .i64 0, .int .i64 0, .int .i64 0, .int .i64 0, .int .i64 0, .slice none 0 0] 26)).alloc (.cells #[.int .i64 0, .int .i64 0, .int .i64 0, .int .i64 0] 2)).drew) := ((((Below.refl _ _).alloc (by simp) _).alloc (by simp) _).drew); have HBW : Hid (Below w0.heap.size w0 w2) := Lib.hid (hbc.trans (hb2.mono hbc.size)); clear hbc; have HY0 : Hid (Blk w2 (w0.heap.size + 1) 2 #[.int .i64 0, .int .i64 0, .int .i64 0, .int .i64 0]) := Lib.hid (Blk.below (show Blk (((w0.alloc (.cells #[.int .i64 0, .int .i64 0, .int .i64 0, .int .i64 0, .int .i64 0, .slice none 0 0] 26)).alloc (.cells #[.int .i64 0, .int .i64 0, .int .i64 0, .int .i64 0] 2)).drew) (w0.heap.size + 1) _ _ from Blk.at_ (w0.alloc (.cells #[.int .i64 0, .int .i64 0, .int .i64 0, .int .i64 0, .int .i64 0, .slice none 0 0] 26)) _ _ (by simp)) hb2 (by simp <;> omega)); have BG : Blk w2 (w0.heap.size) 26 #[.int .i64 0, .int .i64 0, .int .i64 0, .int .i64 0, .int .i64 0, .slice none 0 0] := Blk.below (show Blk (((w0.alloc (.cells #[.int .i64 0, .int .i64 0, .int .i64 0, .int .i64 0, .int .i64 0, .slice none 0 0] 26)).alloc (.cells #[.int .i64 0, .int .i64 0, .int .i64 0, .int .i64 0] 2)).drew) (w0.heap.size) _ _ from (Blk.at_ w0 _ _ rfl).alloc _) hb2 (by simp <;> omega); have c0 := BG.cell 0; have r0 := BG.frozen 0; have c1 := BG.cell 1; have r1 := BG.frozen 1; have c2 := BG.cell 2; have r2 := BG.frozen 2; have c3 := BG.cell 3; have r3 := BG.frozen 3; have c4 := BG.cell 4; have r4 := BG.frozen 4; have c5 := BG.cell 5; have r5 := BG.frozen 5; have HBG := Lib.hid BG; have n0 : w2.heap.size ≠ w0.heap.size := Nat.ne_of_gt BG.lt; have n1 : w0.heap.size ≠ w2.heap.size := Nat.ne_of_lt BG.lt; have BY := BG.alloc (.cells #[.int .i64 0, .int .i64 0, .int .i64 0, .int .i64 0] 2); have cy0 := BY.cell 0; have ry0 := BY.frozen 0; have cy1 := BY.cell 1; have ry1 := BY.frozen 1; have cy2 := BY.cell 2; have ry2 := BY.frozen 2; have cy3 := BY.cell 3; have ry3 := BY.frozen 3; have cy4 := BY.cell 4; have ry4 := BY.frozen 4; have cy5 := BY.cell 5; have ry5 := BY.frozen 5; clear BY BG; clear hb2)
      | (go_at_call 34; (with_reducible refine (HCP.out ((w0.drew).alloc (.cells #[.int .i64 0, .int .i64 0, .int .i64 0, .int .i64 0] 2)) (((Below.refl _ _).drew).alloc (by simp) _)).mono ?_); rintro e w2 ⟨rfl, hb2⟩; have hbc : Below w0.heap.size w0 ((w0.drew).alloc (.cells #[.int .i64 0, .int .i64 0, .int .i64 0, .int .i64 0] 2)) := (((Below.refl _ _).drew).alloc (by simp) _); have HBW : Hid (Below w0.heap.size w0 w2) := Lib.hid (hbc.trans (hb2.mono hbc.size)); clear hbc; have HY0 : Hid (Blk w2 (w0.heap.size) 2 #[.int .i64 0, .int .i64 0, .int .i64 0, .int .i64 0]) := Lib.hid (Blk.below (show Blk ((w0.drew).alloc (.cells #[.int .i64 0, .int .i64 0, .int .i64 0, .int .i64 0] 2)) (w0.heap.size) _ _ from Blk.at_ w0 _ _ rfl) hb2 (by simp <;> omega)); clear hb2)
      | (go_at_call 34; (with_reducible refine (HCP.out ((w0.drew).alloc (.cells #[.int .i64 0, .int .i64 0, .int .i64 0, .int .i64 0, .int .i64 0, .slice none 0 0] 26)) (((Below.refl _ _).drew).alloc (by simp) _)).mono ?_); rintro e w2 ⟨rfl, hb2⟩; have hbc : Below w0.heap.size w0 ((w0.drew).alloc (.cells #[.int .i64 0, .int .i64 0, .int .i64 0, .int .i64 0, .int .i64 0, .slice none 0 0] 26)) := (((Below.refl _ _).drew).alloc (by simp) _); have HBW : Hid (Below w0.heap.size w0 w2) := Lib.hid (hbc.trans (hb2.mono hbc.size)); clear hbc; have BG : Blk w2 (w0.heap.size) 26 #[.int .i64 0, .int .i64 0, .int .i64 0, .int .i64 0, .int .i64 0, .slice none 0 0] := Blk.below (show Blk ((w0.drew).alloc (.cells #[.int .i64 0, .int .i64 0, .int .i64 0, .int .i64 0, .int .i64 0, .slice none 0 0] 26)) (w0.heap.size) _ _ from Blk.at_ w0 _ _ rfl) hb2 (by simp <;> omega); have c0 := BG.cell 0; have r0 := BG.frozen 0; have c1 := BG.cell 1; have r1 := BG.frozen 1; have c2 := BG.cell 2; have r2 := BG.frozen 2; have c3 := BG.cell 3; have r3 := BG.frozen 3; have c4 := BG.cell 4; have r4 := BG.frozen 4; have c5 := BG.cell 5; have r5 := BG.frozen 5; have HBG := Lib.hid BG; have n0 : w2.heap.size ≠ w0.heap.size := Nat.ne_of_gt BG.lt; have n1 : w0.heap.size ≠ w2.heap.size := Nat.ne_of_lt BG.lt; have BY := BG.alloc (.cells #[.int .i64 0, .int .i64 0, .int .i64 0, .int .i64 0] 2); have cy0 := BY.cell 0; have ry0 := BY.frozen 0; have cy1 := BY.cell 1; have ry1 := BY.frozen 1; have cy2 := BY.cell 2; have ry2 := BY.frozen 2; have cy3 := BY.cell 3; have ry3 := BY.frozen 3; have cy4 := BY.cell 4; have ry4 := BY.frozen 4; have cy5 := BY.cell 5; have ry5 := BY.frozen 5; clear BY BG; clear hb2)
      | (go_at_call 34; (with_reducible refine (HCP.out (((w0.drew).alloc (.cells #[.int .i64 0, .int .i64 0, .int .i64 0, .int .i64 0] 2)).alloc (.cells #[.int .i64 0, .int .i64 0, .int .i64 0, .int .i64 0, .int .i64 0, .slice none 0 0] 26)) ((((Below.refl _ _).drew).alloc (by simp) _).alloc (by simp) _)).mono ?_); rintro e w2 ⟨rfl, hb2⟩; have hbc : Below w0.heap.size w0 (((w0.drew).alloc (.cells #[.int .i64 0, .int .i64 0, .int .i64 0, .int .i64 0] 2)).alloc (.cells #[.int .i64 0, .int .i64 0, .int .i64 0, .int .i64 0, .int .i64 0, .slice none 0 0] 26)) := ((((Below.refl _ _).drew).alloc (by simp) _).alloc (by simp) _); have HBW : Hid (Below w0.heap.size w0 w2) := Lib.hid (hbc.trans (hb2.mono hbc.size)); clear hbc; have HY0 : Hid (Blk w2 (w0.heap.size) 2 #[.int .i64 0, .int .i64 0, .int .i64 0, .int .i64 0]) := Lib.hid (Blk.below (show Blk (((w0.drew).alloc (.cells #[.int .i64 0, .int .i64 0, .int .i64 0, .int .i64 0] 2)).alloc (.cells #[.int .i64 0, .int .i64 0, .int .i64 0, .int .i64 0, .int .i64 0, .slice none 0 0] 26)) (w0.heap.size) _ _ from (Blk.at_ w0 _ _ rfl).alloc _) hb2 (by simp <;> omega)); have BG : Blk w2 (w0.heap.size + 1) 26 #[.int .i64 0, .int .i64 0, .int .i64 0, .int .i64 0, .int .i64 0, .slice none 0 0] := Blk.below (show Blk (((w0.drew).alloc (.cells #[.int .i64 0, .int .i64 0, .int .i64 0, .int .i64 0] 2)).alloc (.cells #[.int .i64 0, .int .i64 0, .int .i64 0, .int .i64 0, .int .i64 0, .slice none 0 0] 26)) (w0.heap.size + 1) _ _ from Blk.at_ (w0.alloc (.cells #[.int .i64 0, .int .i64 0, .int .i64 0, .int .i64 0] 2)) _ _ (by simp)) hb2 (by simp <;> omega); have c0 := BG.cell 0; have r0 := BG.frozen 0; have c1 := BG.cell 1; have r1 := BG.frozen 1; have c2 := BG.cell 2; have r2 := BG.frozen 2; have c3 := BG.cell 3; have r3 := BG.frozen 3; have c4 := BG.cell 4; have r4 := BG.frozen 4; have c5 := BG.cell 5; have r5 := BG.frozen 5; have HBG := Lib.hid BG; have n0 : w2.heap.size ≠ w0.heap.size + 1 := Nat.ne_of_gt BG.lt; have n1 : w0.heap.size + 1 ≠ w2.heap.size := Nat.ne_of_lt BG.lt; have BY := BG.alloc (.cells #[.int .i64 0, .int .i64 0, .int .i64 0, .int .i64 0] 2); have cy0 := BY.cell 0; have ry0 := BY.frozen 0; have cy1 := BY.cell 1; have ry1 := BY.frozen 1; have cy2 := BY.cell 2; have ry2 := BY.frozen 2; have cy3 := BY.cell 3; have ry3 := BY.frozen 3; have cy4 := BY.cell 4; have ry4 := BY.frozen 4; have cy5 := BY.cell 5; have ry5 := BY.frozen 5; clear BY BG; clear hb2)
      | (go_at_call 34; (with_reducible refine (HCP.out (((w0.drew).alloc (.cells #[.int .i64 0, .int .i64 0, .int .i64 0, .int .i64 0, .int .i64 0, .slice none 0 0] 26)).alloc (.cells #[.int .i64 0, .int .i64 0, .int .i64 0, .int .i64 0] 2)) ((((Below.refl _ _).drew).alloc (by simp) _).alloc (by simp) _)).mono ?_); rintro e w2 ⟨rfl, hb2⟩; have hbc : Below w0.heap.size w0 (((w0.drew).alloc (.cells #[.int .i64 0, .int .i64 0, .int .i64 0, .int .i64 0, .int .i64 0, .slice none 0 0] 26)).alloc (.cells #[.int .i64 0, .int .i64 0, .int .i64 0, .int .i64 0] 2)) := ((((Below.refl _ _).drew).alloc (by simp) _).alloc (by simp) _); have HBW : Hid (Below w0.heap.size w0 w2) := Lib.hid (hbc.trans (hb2.mono hbc.size)); clear hbc; have HY0 : Hid (Blk w2 (w0.heap.size + 1) 2 #[.int .i64 0, .int .i64 0, .int .i64 0, .int .i64 0]) := Lib.hid (Blk.below (show Blk (((w0.drew).alloc (.cells #[.int .i64 0, .int .i64 0, .int .i64 0, .int .i64 0, .int .i64 0, .slice none 0 0] 26)).alloc (.cells #[.int .i64 0, .int .i64 0, .int .i64 0, .int .i64 0] 2)) (w0.heap.size + 1) _ _ from Blk.at_ (w0.alloc (.cells #[.int .i64 0, .int .i64 0, .int .i64 0, .int .i64 0, .int .i64 0, .slice none 0 0] 26)) _ _ (by simp)) hb2 (by simp <;> omega)); have BG : Blk w2 (w0.heap.size) 26 #[.int .i64 0, .int .i64 0, .int .i64 0, .int .i64 0, .int .i64 0, .slice none 0 0] := Blk.below (show Blk (((w0.drew).alloc (.cells #[.int .i64 0, .int .i64 0, .int .i64 0, .int .i64 0, .int .i64 0, .slice none 0 0] 26)).alloc (.cells #[.int .i64 0, .int .i64 0, .int .i64 0, .int .i64 0] 2)) (w0.heap.size) _ _ from (Blk.at_ w0 _ _ rfl).alloc _) hb2 (by simp <;> omega); have c0 := BG.cell 0; have r0 := BG.frozen 0; have c1 := BG.cell 1; have r1 := BG.frozen 1; have c2 := BG.cell 2; have r2 := BG.frozen 2; have c3 := BG.cell 3; have r3 := BG.frozen 3; have c4 := BG.cell 4; have r4 := BG.frozen 4; have c5 := BG.cell 5; have r5 := BG.frozen 5; have HBG := Lib.hid BG; have n0 : w2.heap.size ≠ w0.heap.size := Nat.ne_of_gt BG.lt; have n1 : w0.heap.size ≠ w2.heap.size := Nat.ne_of_lt BG.lt; have BY := BG.alloc (.cells #[.int .i64 0, .int .i64 0, .int .i64 0, .int .i64 0] 2); have cy0 := BY.cell 0; have ry0 := BY.frozen 0; have cy1 := BY.cell 1; have ry1 := BY.frozen 1; have cy2 := BY.cell 2; have ry2 := BY.frozen 2; have cy3 := BY.cell 3; have ry3 := BY.frozen 3; have cy4 := BY.cell 4; have ry4 := BY.frozen 4; have cy5 := BY.cell 5; have ry5 := BY.frozen 5; clear BY BG; clear hb2))
    · go_wp2_with fail
      go_meet
      exact ⟨w2.heap.size + 1, w2.heap.size, rfl, Blk.at_ _ _ _ (by simp), (Blk.at_ _ _ _ rfl).alloc _, by omega, by have := HBW.out.size; omega, HBW.out.size, (HBW.out.alloc HBW.out.size _).alloc (by have := HBW.out.size; simp; omega) _⟩
    · go_wp2_with fail
      go_meet
      exact ⟨w2.heap.size, w2.heap.size + 1, rfl, (Blk.at_ _ _ _ rfl).alloc _, Blk.at_ _ _ _ (by simp), by omega, HBW.out.size, by have := HBW.out.size; omega, (HBW.out.alloc HBW.out.size _).alloc (by have := HBW.out.size; simp; omega) _⟩
    · go_wp2_with fail
      go_meet
      exact ⟨w2.heap.size, w0.heap.size, rfl, Blk.at_ _ _ _ rfl, HY0.out.alloc _, Nat.ne_of_gt HY0.out.lt, HBW.out.size, Nat.le_refl _, (HBW.out.alloc HBW.out.size _)⟩
    · go_wp2_with fail
      go_meet
      exact ⟨w0.heap.size + 1, w0.heap.size, rfl, ((((((HBG.out.set_ 0 _).set_ 1 _).set_ 2 _).set_ 3 _).set_ 4 _).set_ 5 _), ((((((HY0.out.far (by show w0.heap.size ≠ w0.heap.size + 1; omega) _).far (by show w0.heap.size ≠ w0.heap.size + 1; omega) _).far (by show w0.heap.size ≠ w0.heap.size + 1; omega) _).far (by show w0.heap.size ≠ w0.heap.size + 1; omega) _).far (by show w0.heap.size ≠ w0.heap.size + 1; omega) _).far (by show w0.heap.size ≠ w0.heap.size + 1; omega) _), by omega, by omega, Nat.le_refl _, ((((((HBW.out.setCell (Nat.le_succ _) _).setCell (Nat.le_succ _) _).setCell (Nat.le_succ _) _).setCell (Nat.le_succ _) _).setCell (Nat.le_succ _) _).setCell (Nat.le_succ _) _)⟩
    · go_wp2_with fail
      go_meet
      exact ⟨w0.heap.size, w2.heap.size, rfl, (((((((HBG.out.alloc _).set_ 0 _).set_ 1 _).set_ 2 _).set_ 3 _).set_ 4 _).set_ 5 _), (((((((Blk.at_ w2 _ _ rfl).far n0 _).far n0 _).far n0 _).far n0 _).far n0 _).far n0 _), n1, Nat.le_refl _, HBW.out.size, (((((((HBW.out.alloc HBW.out.size _).setCell (Nat.le_refl _) _).setCell (Nat.le_refl _) _).setCell (Nat.le_refl _) _).setCell (Nat.le_refl _) _).setCell (Nat.le_refl _) _).setCell (Nat.le_refl _) _)⟩
    · go_wp2_with fail
      go_meet
      exact ⟨w0.heap.size, w0.heap.size + 1, rfl, ((((((HBG.out.set_ 0 _).set_ 1 _).set_ 2 _).set_ 3 _).set_ 4 _).set_ 5 _), ((((((HY0.out.far (by show w0.heap.size + 1 ≠ w0.heap.size; omega) _).far (by show w0.heap.size + 1 ≠ w0.heap.size; omega) _).far (by show w0.heap.size + 1 ≠ w0.heap.size; omega) _).far (by show w0.heap.size + 1 ≠ w0.heap.size; omega) _).far (by show w0.heap.size + 1 ≠ w0.heap.size; omega) _).far (by show w0.heap.size + 1 ≠ w0.heap.size; omega) _), by omega, Nat.le_refl _, by omega, ((((((HBW.out.setCell (Nat.le_refl _) _).setCell (Nat.le_refl _) _).setCell (Nat.le_refl _) _).setCell (Nat.le_refl _) _).setCell (Nat.le_refl _) _).setCell (Nat.le_refl _) _)⟩
  case rest =>
    obtain ⟨g, gy, rfl, hbg, hby, hne, hg0, hgy0, hb1⟩ := hcut
    obtain ⟨R, hR⟩ : ∃ x, x = rtN z n := ⟨_, rfl⟩
    have HR := Lib.hid hR
    have HRET : Hid (Calls Tryz.prog 35 #[.slice A n q] wc fun e w' => e = .returned (.tuple #[.int .i64 R, .int .i64 0]) ∧ Below wc.heap.size wc w') := Lib.hid (by rw [HR.out]; exact returnsOf_any W A n q z wc (HA.out.below hb1) hW1 hW2 hn HOPS.out)
    have HBG := Lib.hid hbg
    have HBY := Lib.hid hby
    have HNE := Lib.hid hne
    have HG0 := Lib.hid hg0
    have HGY0 := Lib.hid hgy0
    have HB1 := Lib.hid hb1
    clear hR hbg hby hne hg0 hgy0 hb1 HCP
    go_wp2_with fail
    refine HRET.out.mono ?_
    rintro e w3 ⟨rfl, hb3⟩
    have BG3 := HBG.out.below hb3 HBG.out.lt
    have c2 : w3.cell? ⟨g, 2, none⟩ = some (.int .i64 0) := BG3.cell 2
    have r2 := BG3.frozen 2
    have HBG3 := Lib.hid BG3
    have HBY3 := Lib.hid (HBY.out.below hb3 HBY.out.lt)
    have HB3 := Lib.hid (HB1.out.trans (hb3.mono HB1.out.size))
    clear hb3 BG3
    go_wp2_with fail
    obtain ⟨w4, hw4⟩ : ∃ x, x = w3.setCell ⟨g, 2, none⟩ (.int .i64 R) := ⟨_, rfl⟩
    rw [← hw4]
    have HBG4 : Hid (Blk w4 g 26 (cCells n (P : Nat) R 0 0 gy)) := Lib.hid (hw4 ▸ HBG3.out.set_ 2 (.int .i64 R))
    have HBY4 : Hid (Blk w4 gy 2 (yCells W z 0)) := Lib.hid (hw4 ▸ HBY3.out.far (p := ⟨g, 2, none⟩) HNE.out.symm _)
    have HB4 : Hid (Below w0.heap.size w0 w4) := Lib.hid (hw4 ▸ HB3.out.setCell HG0.out _)
    clear hw4 c2 r2
    refine (newMachine_any W w4 hW2).mono ?_
    rintro e w5 ⟨v, rfl, ⟨tg0, ⟨g0, gf, cf, gk, ck, gc, cc, F0, K0, L0, D0⟩, rfl, hlo, hlt0, ⟨⟨AL, nL, cL, hL⟩, ⟨AD, nD, cD, hD⟩⟩, hmk⟩, hb5⟩
    obtain rfl : L0 = _ := hL
    obtain rfl : D0 = _ := hD
    have HB5 : Hid (Below w0.heap.size w0 w5) := Lib.hid (HB4.out.trans (hb5.mono HB4.out.size))
    have hs45 : w0.heap.size ≤ w4.heap.size := HB4.out.size
    have HBW5 : Hid (Below w.heap.size w w5) := Lib.hid (HB0.out.trans (HB5.out.mono HB0.out.size))
    have H0 : Hid (Runs w (onT tg0 w5.heap.size) ⟨w5.heap.size, gf, cf, gk, ck, gc, cc, F0, K0, .slice AL nL cL, .slice AD nD cD⟩ (mSt W z 0) (w5.alloc (.cells (cellsM ⟨g0, gf, cf, gk, ck, gc, cc, F0, K0, .slice AL nL cL, .slice AD nD cD⟩ (newM W)) 60))) := Lib.hid ⟨hmk _ _ (Decidable.byContradiction fun hn => Nat.lt_irrefl _ (hlt0 _ hn)) (fun b hb => Below.heap_alloc _ _ b (hlt0 b hb)) (by simp) (Blk.at_ _ _ _ rfl),
      HBW5.out.alloc HBW5.out.size _, fun q hq => by
        have := HB0.out.size
        unfold onT at hq
        split at hq
        · have := HBW5.out.size; omega
        · have := hlo q hq; omega⟩
    have HT0 : Hid (∀ b, b < w4.heap.size → onT tg0 w5.heap.size b = 0) := Lib.hid fun b hb => by
      have := hb5.size
      unfold onT
      rw [if_neg (by omega)]
      exact Decidable.byContradiction fun hn => by have := hlo b hn; omega
    have HBG5 := Lib.hid (HBG4.out.below hb5 HBG4.out.lt)
    have HBY5 := Lib.hid (HBY4.out.below hb5 HBY4.out.lt)
    have HRE5 := Lib.hid (HRES.out.below HB5.out HRES.out.lt)
    have HLG := Lib.hid HBG4.out.lt
    have HLY := Lib.hid HBY4.out.lt
    have HLR : Hid (w.heap.size < w4.heap.size) := Lib.hid (by have := HS0.out; omega)
    have HNR : Hid (w.heap.size ≠ g ∧ w.heap.size ≠ gy) := Lib.hid (by have := HS0.out; have := HG0.out; have := HGY0.out; omega)
    clear hlo hlt0 hmk hb5 hs45
    simp only [cellsM, newM] at H0 ⊢
    go_wp2_with fail
    go_loopw [7, 26] (fun yv iv wr => ∃ (i : Nat) (tg : Nat → Nat) (a : MAdr), i ≤ n ∧ iv = .int .i64 i ∧ yv = .int .i64 (endsN z i : Nat) ∧ a.g = w5.heap.size ∧ Runs w tg a (mSt W z i) wr ∧ (tg g = 0 ∧ tg gy = 0 ∧ tg w.heap.size = 0) ∧ Blk wr g 26 (cCells n (P : Nat) R (rks W z i) 0 gy) ∧ Blk wr gy 2 (yCells W z i) ∧ Blk wr w.heap.size 26 #[.int .i64 0, .int .i64 0, .int .i64 0, .int .i64 0, .int .i64 0, .slice none 0 0]) (fun _ iv _ => n - (intOf iv).toNat)
    case atStart => exact ⟨0, _, _, Nat.zero_le _, rfl, rfl, rfl, H0.out, ⟨HT0.out _ HLG.out, HT0.out _ HLY.out, HT0.out _ HLR.out⟩, HBG5.out.alloc _, HBY5.out.alloc _, HRE5.out.alloc _⟩
    case round =>
      obtain ⟨i, tg, a, hile, rfl, rfl, hg, hr, ⟨ht1, ht2, ht3⟩, hbg, hby, hre⟩ := hrel
      have HG := Lib.hid hg
      have HRU := Lib.hid hr
      have HT1 := Lib.hid ht1
      have HT2 := Lib.hid ht2
      have HT3 := Lib.hid ht3
      have HBG6 := Lib.hid hbg
      have HBY6 := Lib.hid hby
      have HRE6 := Lib.hid hre
      clear hg hr ht1 ht2 ht3 hbg hby hre
      by_cases hlt : i < n
      · obtain ⟨ga, o, rfl, hga, hra⟩ := HAW.out (by omega)
        have hce := opCe_of (hra.below hga HRU.out.b) hlt
        have hs := mSt_ok hW1 hW2 i (fun q hq => HOPS.out q (by omega)) (fun q hq => HOK.out q (by omega))
        have hp := opOk_at hW1 (HOPS.out i hlt)
        rw [← mSt_W W z i] at hp
        have hbd := opBeds_B (HOPS.out i hlt)
        have hbo := bedOk_B (HOPS.out i hlt)
        have hcb := opC_B (HOPS.out i hlt)
        have hkc := HOK.out i hlt
        have hrb := rks_bd hW1 hW2 i (fun q hq => HOPS.out q (by omega)) (fun q hq => HOK.out q (by omega))
        have hyb := yAt_bd hW1 hW2 i (fun q hq => HOPS.out q (by omega)) (fun q hq => HOK.out q (by omega))
        have hen := endsN_le z i
        have hnb := yNeed_bd hs hp
        have HREQ := Lib.hid (show rks W z (i + 1) = if z (i * 8) = 7 then rks W z i + maxI (z (i * 8 + 7) - (mSt W z i).rk) ((mSt W z i).rk - z (i * 8 + 7)) else rks W z i from rfl)
        have HENQ := Lib.hid (show endsN z (i + 1) = if z (i * 8) = 8 ∨ z (i * 8) = 9 then endsN z i + 1 else endsN z i from rfl)
        unfold carOf at hcb
        unfold kC at hkc
        generalize hx0 : z (i * 8) = k at *
        generalize hx1 : z (i * 8 + 1) = d at *
        generalize hx2 : z (i * 8 + 2) = fb at *
        generalize hx3 : z (i * 8 + 3) = fa at *
        generalize hx4 : z (i * 8 + 4) = tb at *
        generalize hx5 : z (i * 8 + 5) = ta at *
        generalize hx6 : z (i * 8 + 6) = c at *
        generalize hx7 : z (i * 8 + 7) = r at *
        have HST : Hid (doSt (mSt W z i) k d fb fa tb ta r (c - 1).toNat = mSt W z (i + 1)) := Lib.hid (by
          show _ = kS (mSt W z i) z i
          unfold kS
          rw [hx0, hx1, hx2, hx3, hx4, hx5, hx6, hx7])
        have HX6 := Lib.hid hx6
        have HS := Lib.hid hs
        have HP1 := Lib.hid hp
        have HBD := Lib.hid hbd
        have HBO := Lib.hid hbo
        have HKC := Lib.hid hkc
        have HYB := Lib.hid hyb
        have hk1 := hp.k1
        have hk9 := hp.k9
        have HYN : Hid (yNeed (mSt W z i) z i = yarnI (mSt W z i) k d fb fa (c - 1).toNat) := Lib.hid (by unfold yNeed carOf; rw [hx0, hx1, hx2, hx3, hx6])
        have o0 := hce.c0
        have o1 := hce.c1
        have o2 := hce.c2
        have o3 : wr.cell? ⟨ga, o + i * 8 + 3, none⟩ = some (.int .i64 fa) := hce.c3
        have o4 := hce.c4
        have o5 : wr.cell? ⟨ga, o + i * 8 + 5, none⟩ = some (.int .i64 ta) := hce.c5
        have o6 := hce.c6
        have o7 := hce.c7
        clear hx0 hx1 hx2 hx3 hx4 hx5 hx6 hx7 hce hs hra hga hbd hbo hkc hyb
        obtain ⟨w6, hw6⟩ : ∃ x, x = wr.alloc (.cells (opA k d fb fa tb ta c r) 45) := ⟨_, rfl⟩
        have hb6 : Below wr.heap.size wr w6 := hw6 ▸ (Below.refl _ _).alloc (Nat.le_refl _) _
        have HBX7 : Hid (Blk w6 wr.heap.size 45 (opA k d fb fa tb ta c r)) := Lib.hid (hw6 ▸ Blk.at_ _ _ _ rfl)
        have HR7 := Lib.hid (HRU.out.below hb6)
        have HBG7 := Lib.hid (HBG6.out.below hb6 HBG6.out.lt)
        have HBY7 := Lib.hid (HBY6.out.below hb6 HBY6.out.lt)
        have HRE7 := Lib.hid (HRE6.out.below hb6 HRE6.out.lt)
        have HW6 := Lib.hid hw6
        clear hw6 hb6
        obtain ⟨en, hene⟩ : ∃ x, x = endsN z i := ⟨_, rfl⟩
        rw [← hene] at hen HENQ ⊢
        clear hene
        by_cases hk7 : k = 7
        · subst hk7
          obtain rfl : c = 0 := by omega
          have HEN : Hid (endsN z (i + 1) = en) := Lib.hid (HENQ.out.trans (if_neg (by omega)))
          have HREQ7 := Lib.hid (HREQ.out.trans (if_pos rfl))
          clear hcb HREQ HENQ
          have hrk1 := HS.out.r1
          have hrk2 := HS.out.r2
          have hr0 := HP1.out.r0
          have hr1 := HP1.out.r1
          obtain ⟨rr, hrr⟩ : ∃ y, y = rks W z i := ⟨_, rfl⟩
          obtain ⟨rk, hrk⟩ : ∃ y, y = (mSt W z i).rk := ⟨_, rfl⟩
          rw [← hrr] at hrb HREQ7 HBG7
          rw [← hrk] at hrk1 hrk2 HREQ7
          have s3 := HR7.out.m.m.cell 1
          rw [HG.out] at s3
          replace s3 : w6.cell? ⟨w5.heap.size, 1, none⟩ = some (.int .i64 (mSt W z i).rk) := s3
          rw [← hrk] at s3
          clear hrr hrk
          have hwa : IntKind.i64.wrap (r - rk) = r - rk := by rw [IntKind.wrap_i64]; omega
          obtain ⟨mx, hmx⟩ : ∃ y, y = maxI (r - rk) (rk - r) := ⟨_, rfl⟩
          have hmb : 0 ≤ mx ∧ mx ≤ 6 := by rw [hmx]; unfold maxI; split <;> omega
          rw [← hmx] at HREQ7
          have HMX := Lib.hid hmx
          have hcall : ∀ w', Calls Tryz.prog 37 #[.int .i64 (r - rk)] w' fun e w'' => e = .returned (.int .i64 mx) ∧ w' = w'' := fun w' => (size_any _ w' (by omega) (by omega)).mono fun _ _ h => ⟨by rw [HMX.out, show rk - r = -(r - rk) by omega]; exact h.1, h.2⟩
          have hwc : IntKind.i64.wrap (rr + mx) = rr + mx := by rw [IntKind.wrap_i64]; omega
          have HCALL := Lib.hid hcall
          clear hcall hmx
          have s1 : w6.cell? ⟨g, 3, none⟩ = some (.int .i64 rr) := HBG7.out.cell 3
          have s2 : w6.cell? ⟨wr.heap.size, 7, none⟩ = some (.int .i64 r) := HBX7.out.cell 7
          have f3 := HBG7.out.frozen 3
          go_wp2_with fail
          rw [← HW6.out]
          clear o0 o1 o2 o3 o4 o5 o6 o7
          refine wp_region_lastL (S := fun w' => w'.cell? ⟨g, 3, none⟩ = some (.int .i64 rr) ∧ w'.cell? ⟨wr.heap.size, 7, none⟩ = some (.int .i64 r) ∧ w'.cell? ⟨w5.heap.size, 1, none⟩ = some (.int .i64 rk)) _ (by simp) (by kernel_rfl) (by kernel_rfl) ⟨s1, s2, s3⟩ (fun hHeld => ?_)
          simp only [List.dropLast, List.getLast_cons_cons, List.getLast_singleton, List.length_cons, List.length_nil]
          refine wpAnyH_take (i := 0) (v := ?_) rfl (by kernel_rfl) (by kernel_rfl) (by kernel_rfl) (fun _ _ _ h => h) (Or.inl ⟨by rfl, ?_⟩) hHeld ?_
          rotate_left
          · (intro w0 hSw; (try dsimp only at hSw); go_simp <;> with_reducible rfl)
          simp only [List.getElem_toArray, List.getElem_cons_succ, List.getElem_cons_zero, Act.put, List.setIfInBounds_toArray, List.set_cons_zero, List.set_cons_succ]
          refine wpAnyH_take (i := 1) (v := ?_) rfl (by kernel_rfl) (by kernel_rfl) (by kernel_rfl) (fun _ _ _ h => h) (Or.inl ⟨by rfl, ?_⟩) hHeld ?_
          rotate_left
          · (intro w0 hSw; (try dsimp only at hSw); go_simp <;> with_reducible rfl)
          simp only [List.getElem_toArray, List.getElem_cons_succ, List.getElem_cons_zero, Act.put, List.setIfInBounds_toArray, List.set_cons_zero, List.set_cons_succ]
          refine wpAnyH_take (i := 2) (v := ?_) rfl (by kernel_rfl) (by kernel_rfl) (by kernel_rfl) (fun _ _ _ h => h) (Or.inl ⟨by rfl, ?_⟩) hHeld ?_
          rotate_left
          · (intro w0 hSw; (try dsimp only at hSw); go_simp <;> with_reducible rfl)
          simp only [List.getElem_toArray, List.getElem_cons_succ, List.getElem_cons_zero, Act.put, List.setIfInBounds_toArray, List.set_cons_zero, List.set_cons_succ]
          refine wpAnyH_take (i := 3) (v := ?_) rfl (by kernel_rfl) (by kernel_rfl) (by kernel_rfl) (fun _ _ _ h => h) (Or.inl ⟨by rfl, ?_⟩) hHeld ?_
          rotate_left
          · (intro w0 hSw; (try dsimp only at hSw); go_simp <;> with_reducible rfl)
          simp only [List.getElem_toArray, List.getElem_cons_succ, List.getElem_cons_zero, Act.put, List.setIfInBounds_toArray, List.set_cons_zero, List.set_cons_succ]
          refine wpAnyH_take (i := 4) (v := ?_) rfl (by kernel_rfl) (by kernel_rfl) (by kernel_rfl) (fun _ _ _ h => h) (Or.inl ⟨by rfl, ?_⟩) hHeld ?_
          rotate_left
          · (intro w0 hSw; (try dsimp only at hSw); go_simp <;> with_reducible rfl)
          simp only [List.getElem_toArray, List.getElem_cons_succ, List.getElem_cons_zero, Act.put, List.setIfInBounds_toArray, List.set_cons_zero, List.set_cons_succ]
          refine wpAnyH_take (i := 5) (v := ?_) rfl (by kernel_rfl) (by kernel_rfl) (by kernel_rfl) (fun _ _ _ h => h) (Or.inl ⟨by rfl, ?_⟩) hHeld ?_
          rotate_left
          · (intro w0 hSw; (try dsimp only at hSw); go_simp <;> with_reducible rfl)
          simp only [List.getElem_toArray, List.getElem_cons_succ, List.getElem_cons_zero, Act.put, List.setIfInBounds_toArray, List.set_cons_zero, List.set_cons_succ]
          refine wpAnyH_take (i := 6) (v := ?_) rfl (by kernel_rfl) (by kernel_rfl) (by kernel_rfl) (fun _ _ _ h => h) (Or.inl ⟨by rfl, ?_⟩) hHeld ?_
          rotate_left
          · (intro w0 hSw; (try dsimp only at hSw); go_simp <;> with_reducible rfl)
          simp only [List.getElem_toArray, List.getElem_cons_succ, List.getElem_cons_zero, Act.put, List.setIfInBounds_toArray, List.set_cons_zero, List.set_cons_succ]
          refine wpAnyH_ready (rs := [7]) (by kernel_rfl) (by simp) ?_
          refine AllReadyH.cons rfl (fun K hK => ?_) AllReadyH.nil
          simp only [List.getElem_toArray, List.getElem_cons_succ, List.getElem_cons_zero]
          go_simp
          refine (HCALL.out _).mono ?_
          rintro e w7 ⟨rfl, rfl⟩
          refine hK.out _ _ ⟨s1, s2, s3⟩ (fun hHeld1 => ?_)
          clear hK K hHeld
          refine wpAnyH_take (i := 8) (v := ?_) rfl (by kernel_rfl) (by kernel_rfl) (by kernel_rfl) (fun _ _ _ h => h) (Or.inl ⟨by rfl, ?_⟩) hHeld1 ?_
          rotate_left
          · (intro w0 hSw; (try dsimp only at hSw); go_simp <;> with_reducible rfl)
          simp only [List.getElem_toArray, List.getElem_cons_succ, List.getElem_cons_zero, Act.put, List.setIfInBounds_toArray, List.set_cons_zero, List.set_cons_succ]
          refine wpAnyH_take (i := 9) (v := ?_) rfl (by kernel_rfl) (by kernel_rfl) (by kernel_rfl) (fun _ _ _ h => h) (Or.inl ⟨by rfl, ?_⟩) hHeld1 ?_
          rotate_left
          · (intro w0 hSw; (try dsimp only at hSw); go_simp <;> with_reducible rfl)
          simp only [List.getElem_toArray, List.getElem_cons_succ, List.getElem_cons_zero, Act.put, List.setIfInBounds_toArray, List.set_cons_zero, List.set_cons_succ]
          refine wpAnyH_done (by kernel_rfl) ?_ _
          refine LastPost.of ?_
          go_simp
          clear hHeld1 s1 s2 s3 f3
          obtain ⟨w8, hw8⟩ : ∃ x, x = (w6.setCell ⟨g, 3, none⟩ (.int .i64 (rr + mx))).drew := ⟨_, rfl⟩
          rw [← hw8]
          have hle : w.heap.size ≤ g := by have := HG0.out; have := HS0.out; omega
          have HR8 : Hid (Runs w tg a (mSt W z i) w8) := Lib.hid (by rw [hw8]; exact (HR7.out.set HT1.out hle 3 (.int .i64 (rr + mx))).below ((Below.refl _ _).drew))
          have HBG8 : Hid (Blk w8 g 26 (cCells n (P : Nat) R (rks W z (i + 1)) 0 gy)) := Lib.hid (by rw [hw8, HREQ7.out]; exact HBG7.out.set_ 3 (.int .i64 (rr + mx)))
          have HBY8 : Hid (Blk w8 gy 2 (yCells W z i)) := Lib.hid (by rw [hw8]; exact HBY7.out.far (p := ⟨g, 3, none⟩) HNE.out.symm (.int .i64 (rr + mx)))
          have HRE8 : Hid (Blk w8 w.heap.size 26 #[.int .i64 0, .int .i64 0, .int .i64 0, .int .i64 0, .int .i64 0, .slice none 0 0]) := Lib.hid (by rw [hw8]; exact HRE7.out.far (p := ⟨g, 3, none⟩) HNR.out.1 (.int .i64 (rr + mx)))
          have HBX8 : Hid (Blk w8 wr.heap.size 45 (opA 7 d fb fa tb ta 0 r)) := Lib.hid (by rw [hw8]; exact HBX7.out.far (p := ⟨g, 3, none⟩) (Nat.ne_of_gt HBG6.out.lt) (.int .i64 (rr + mx)))
          have HPK : Hid (∀ w0 : World, Calls Tryz.prog 38 #[.int .i64 7] w0 fun e w' => e = .returned (.int .i64 0) ∧ w0 = w') := Lib.hid fun w0 => passKind_any 7 w0 (by omega) (by omega)
          clear hw8 hwa hwc
          have b0 : w8.cell? ⟨wr.heap.size, 0, none⟩ = some (.int .i64 7) := HBX8.out.cell 0
          have b1 : w8.cell? ⟨wr.heap.size, 1, none⟩ = some (.int .i64 d) := HBX8.out.cell 1
          have b2 : w8.cell? ⟨wr.heap.size, 2, none⟩ = some (.int .i64 fb) := HBX8.out.cell 2
          have b3 : w8.cell? ⟨wr.heap.size, 3, none⟩ = some (.int .i64 fa) := HBX8.out.cell 3
          have b4 : w8.cell? ⟨wr.heap.size, 4, none⟩ = some (.int .i64 tb) := HBX8.out.cell 4
          have b5 : w8.cell? ⟨wr.heap.size, 5, none⟩ = some (.int .i64 ta) := HBX8.out.cell 5
          have b6 : w8.cell? ⟨wr.heap.size, 6, none⟩ = some (.int .i64 0) := HBX8.out.cell 6
          have b7 : w8.cell? ⟨wr.heap.size, 7, none⟩ = some (.int .i64 r) := HBX8.out.cell 7
          go_wp2_with fail
          refine (HPK.out _).mono ?_
          rintro e w7' ⟨rfl, rfl⟩
          have hex := execute_any (D := 4 * i) (k := 7) (d := d) (fb := fb) (fa := fa) (tb := tb) (ta := ta) (c := 0) (r := r) HR8.out.m HS.out (by omega) HP1.out HBD.out HBO.out
          rw [HG.out, HKC.out, HST.out] at hex
          have HEX := Lib.hid hex
          clear hex
          go_wp2_with fail
          refine HEX.out.mono ?_
          rintro e w9 ⟨rfl, _, hm9⟩
          obtain ⟨tg9, a9, hg9, hr9, hk9⟩ := HR8.out.step (by rw [HG.out]; exact hm9 rfl)
          have HR9 := Lib.hid hr9
          have HG9 := Lib.hid (hg9.trans HG.out)
          have HTT : Hid (tg9 g = 0 ∧ tg9 gy = 0 ∧ tg9 w.heap.size = 0) := Lib.hid ⟨(hk9 _ HBG8.out.lt HT1.out).1, (hk9 _ HBY8.out.lt HT2.out).1, (hk9 _ HRE8.out.lt HT3.out).1⟩
          have HBG9 : Hid (Blk w9 g 26 (cCells n (P : Nat) R (rks W z (i + 1)) 0 gy)) := Lib.hid (by exact (hk9 _ HBG8.out.lt HT1.out).2.trans HBG8.out)
          have HBY9 : Hid (Blk w9 gy 2 (yCells W z (i + 1))) := Lib.hid ((hk9 _ HBY8.out.lt HT2.out).2.trans (by rw [← yCells_keep W z i HX6.out]; exact HBY8.out))
          have HRE9 := Lib.hid ((hk9 _ HRE8.out.lt HT3.out).2.trans HRE8.out)
          clear hm9 hg9 hr9 hk9
          go_wp2_with fail
          go_roundw
          case rel => exact ⟨i + 1, tg9, a9, hlt, by go_num, by first | (rw [HEN.out]; done) | (rw [HEN.out]; go_num), HG9.out, HR9.out, HTT.out, HBG9.out, HBY9.out, HRE9.out⟩
          case measure => simp [intOf] <;> omega
        · have hk7' : (k == 7) = false := by simpa using hk7
          have HRK : Hid (rks W z (i + 1) = rks W z i) := Lib.hid (HREQ.out.trans (if_neg hk7))
          clear HREQ
          by_cases hky : k = 1 ∨ k = 2 ∨ k = 3 ∨ k = 5
          · have hdd := HP1.out.dir (by omega) (by omega) (by omega) (by omega)
            obtain ⟨j, hjc, hj⟩ : ∃ j : Nat, c = (j : Int) + 1 ∧ j < 4 := ⟨(c - 1).toNat, by omega, by omega⟩
            subst hjc
            have HEN : Hid (endsN z (i + 1) = en) := Lib.hid (HENQ.out.trans (if_neg (by omega)))
            have HPK : Hid (∀ w0 : World, Calls Tryz.prog 38 #[.int .i64 k] w0 fun e w' => e = .returned (.int .i64 1) ∧ w0 = w') := Lib.hid fun w0 => by
              have h := passKind_any k w0 hk1 hk9
              rw [show kindI k = 1 by unfold kindI; rw [if_pos hky]] at h
              exact h
            have hyv := HYB.out j
            obtain ⟨yn, hyn⟩ : ∃ x, x = yarnI (mSt W z i) k d fb fa j := ⟨_, rfl⟩
            have HYE : Hid (yNeed (mSt W z i) z i = yn) := Lib.hid (HYN.out.trans (by rw [hyn, show ((j : Int) + 1 - 1).toNat = j by omega]))
            rw [HYE.out] at hnb
            have HYS := Lib.hid (yCells_set W z i hj HX6.out)
            obtain ⟨y, hy⟩ : ∃ x, x = yAt W z i j := ⟨_, rfl⟩
            have HYC : Hid ((yCells W z i)[j]? = some (.int .i64 y)) := Lib.hid (by rw [hy]; exact yCells_at W z i hj)
            rw [HYE.out, ← hy] at HYS
            rw [← hy] at hyv
            have HCALL : Hid (∀ w', Below w6.heap.size w6 w' → Calls Tryz.prog 39 #[.pointer (some ⟨w5.heap.size, 0, none⟩), .agg #[.int .i64 k, .int .i64 d, .int .i64 fb, .int .i64 fa, .int .i64 tb, .int .i64 ta, .int .i64 ((j : Int) + 1), .int .i64 r]] w' fun e w'' => e = .returned (.int .i64 yn) ∧ Below w'.heap.size w' w'') := Lib.hid fun w' hb => by
              rw [hyn, ← HG.out]
              exact yarnFor_any (HR7.out.below hb).m HS.out hky hj hdd HP1.out.f0 HP1.out.f1
            have h8 : (k == 8) = false := by simp; omega
            have h9 : (k == 9) = false := by simp; omega
            have hwj : IntKind.i64.wrap (j : Int) = j := by rw [IntKind.wrap_i64]; omega
            have hwy : IntKind.i64.wrap (y + yn) = y + yn := by rw [IntKind.wrap_i64]; omega
            have hj0 : (0 : Int) ≤ j := by omega
            have hj4 : (j : Int) < 4 := by omega
            clear hcb HENQ hky hdd hyn hy hyv hnb
            have pg : w6.cell? ⟨g, 5, none⟩ = some (.slice (some ⟨gy, 0, none⟩) 4 4) := HBG7.out.cell 5
            have p0 : w6.cell? ⟨wr.heap.size, 0, none⟩ = some (.int .i64 k) := HBX7.out.cell 0
            have p1 : w6.cell? ⟨wr.heap.size, 1, none⟩ = some (.int .i64 d) := HBX7.out.cell 1
            have p2 : w6.cell? ⟨wr.heap.size, 2, none⟩ = some (.int .i64 fb) := HBX7.out.cell 2
            have p3 : w6.cell? ⟨wr.heap.size, 3, none⟩ = some (.int .i64 fa) := HBX7.out.cell 3
            have p4 : w6.cell? ⟨wr.heap.size, 4, none⟩ = some (.int .i64 tb) := HBX7.out.cell 4
            have p5 : w6.cell? ⟨wr.heap.size, 5, none⟩ = some (.int .i64 ta) := HBX7.out.cell 5
            have p6 : w6.cell? ⟨wr.heap.size, 6, none⟩ = some (.int .i64 ((j : Int) + 1)) := HBX7.out.cell 6
            have p7 : w6.cell? ⟨wr.heap.size, 7, none⟩ = some (.int .i64 r) := HBX7.out.cell 7
            have py : w6.cell? ⟨gy, j, none⟩ = some (.int .i64 y) := (HBY7.out.cell j).trans HYC.out
            go_wp2_with fail
            rw [← HW6.out]
            refine (HPK.out _).mono ?_
            rintro e w7' ⟨rfl, rfl⟩
            clear o0 o1 o2 o3 o4 o5 o6 o7
            go_wp2_with fail
            refine wp_region_lastL (S := fun w' => w'.cell? ⟨g, 5, none⟩ = some (.slice (some ⟨gy, 0, none⟩) 4 4) ∧ w'.cell? ⟨wr.heap.size, 0, none⟩ = some (.int .i64 k) ∧ w'.cell? ⟨wr.heap.size, 1, none⟩ = some (.int .i64 d) ∧ w'.cell? ⟨wr.heap.size, 2, none⟩ = some (.int .i64 fb) ∧ w'.cell? ⟨wr.heap.size, 3, none⟩ = some (.int .i64 fa) ∧ w'.cell? ⟨wr.heap.size, 4, none⟩ = some (.int .i64 tb) ∧ w'.cell? ⟨wr.heap.size, 5, none⟩ = some (.int .i64 ta) ∧ w'.cell? ⟨wr.heap.size, 6, none⟩ = some (.int .i64 ((j : Int) + 1)) ∧ w'.cell? ⟨wr.heap.size, 7, none⟩ = some (.int .i64 r) ∧ w'.cell? ⟨gy, j, none⟩ = some (.int .i64 y)) _ (by simp) (by kernel_rfl) (by kernel_rfl) ⟨pg, p0, p1, p2, p3, p4, p5, p6, p7, py⟩ (fun hHeld => ?_)
            simp only [List.dropLast, List.getLast_cons_cons, List.getLast_singleton, List.length_cons, List.length_nil]
            refine wpAnyH_take (i := 0) (v := ?_) rfl (by kernel_rfl) (by kernel_rfl) (by kernel_rfl) (fun _ _ _ h => h) (Or.inl ⟨by rfl, ?_⟩) hHeld ?_
            rotate_left
            · (intro w0 hSw; (try dsimp only at hSw); go_simp <;> with_reducible rfl)
            simp only [List.getElem_toArray, List.getElem_cons_succ, List.getElem_cons_zero, Act.put, List.setIfInBounds_toArray, List.set_cons_zero, List.set_cons_succ]
            refine wpAnyH_take (i := 1) (v := ?_) rfl (by kernel_rfl) (by kernel_rfl) (by kernel_rfl) (fun _ _ _ h => h) (Or.inl ⟨by rfl, ?_⟩) hHeld ?_
            rotate_left
            · (intro w0 hSw; (try dsimp only at hSw); go_simp <;> with_reducible rfl)
            simp only [List.getElem_toArray, List.getElem_cons_succ, List.getElem_cons_zero, Act.put, List.setIfInBounds_toArray, List.set_cons_zero, List.set_cons_succ]
            refine wpAnyH_take (i := 2) (v := ?_) rfl (by kernel_rfl) (by kernel_rfl) (by kernel_rfl) (fun _ _ _ h => h) (Or.inl ⟨by rfl, ?_⟩) hHeld ?_
            rotate_left
            · (intro w0 hSw; (try dsimp only at hSw); go_simp <;> with_reducible rfl)
            simp only [List.getElem_toArray, List.getElem_cons_succ, List.getElem_cons_zero, Act.put, List.setIfInBounds_toArray, List.set_cons_zero, List.set_cons_succ]
            refine wpAnyH_take (i := 3) (v := ?_) rfl (by kernel_rfl) (by kernel_rfl) (by kernel_rfl) (fun _ _ _ h => h) (Or.inl ⟨by rfl, ?_⟩) hHeld ?_
            rotate_left
            · (intro w0 hSw; (try dsimp only at hSw); go_simp <;> with_reducible rfl)
            simp only [List.getElem_toArray, List.getElem_cons_succ, List.getElem_cons_zero, Act.put, List.setIfInBounds_toArray, List.set_cons_zero, List.set_cons_succ]
            refine wpAnyH_take (i := 4) (v := ?_) rfl (by kernel_rfl) (by kernel_rfl) (by kernel_rfl) (fun _ _ _ h => h) (Or.inl ⟨by rfl, ?_⟩) hHeld ?_
            rotate_left
            · (intro w0 hSw; (try dsimp only at hSw); go_simp <;> with_reducible rfl)
            simp only [List.getElem_toArray, List.getElem_cons_succ, List.getElem_cons_zero, Act.put, List.setIfInBounds_toArray, List.set_cons_zero, List.set_cons_succ]
            refine wpAnyH_take (i := 5) (v := ?_) rfl (by kernel_rfl) (by kernel_rfl) (by kernel_rfl) (fun _ _ _ h => h) (Or.inl ⟨by rfl, ?_⟩) hHeld ?_
            rotate_left
            · (intro w0 hSw; (try dsimp only at hSw); go_simp <;> with_reducible rfl)
            simp only [List.getElem_toArray, List.getElem_cons_succ, List.getElem_cons_zero, Act.put, List.setIfInBounds_toArray, List.set_cons_zero, List.set_cons_succ]
            refine wpAnyH_take (i := 6) (v := ?_) rfl (by kernel_rfl) (by kernel_rfl) (by kernel_rfl) (fun _ _ _ h => h) (Or.inl ⟨by rfl, ?_⟩) hHeld ?_
            rotate_left
            · (intro w0 hSw; (try dsimp only at hSw); go_simp <;> with_reducible rfl)
            simp only [List.getElem_toArray, List.getElem_cons_succ, List.getElem_cons_zero, Act.put, List.setIfInBounds_toArray, List.set_cons_zero, List.set_cons_succ]
            refine wpAnyH_take (i := 7) (v := ?_) rfl (by kernel_rfl) (by kernel_rfl) (by kernel_rfl) (fun _ _ _ h => h) (Or.inl ⟨by rfl, ?_⟩) hHeld ?_
            rotate_left
            · (intro w0 hSw; (try dsimp only at hSw); go_simp <;> with_reducible rfl)
            simp only [List.getElem_toArray, List.getElem_cons_succ, List.getElem_cons_zero, Act.put, List.setIfInBounds_toArray, List.set_cons_zero, List.set_cons_succ]
            refine wpAnyH_ready (rs := [8]) (by kernel_rfl) (by simp) ?_
            refine AllReadyH.cons rfl (fun K hK => ?_) AllReadyH.nil
            simp only [List.getElem_toArray, List.getElem_cons_succ, List.getElem_cons_zero]
            go_simp
            refine (HCALL.out _ ((Below.refl _ _).drew)).mono ?_
            rintro e w7 ⟨rfl, hb7⟩
            have hbw : Below w6.heap.size w6 w7 := (Below.refl _ _).drew.trans hb7
            have HBG7' := Lib.hid (HBG7.out.below hbw HBG7.out.lt)
            have HBX7' := Lib.hid (HBX7.out.below hbw HBX7.out.lt)
            have HBY7' := Lib.hid (HBY7.out.below hbw HBY7.out.lt)
            have HRE7' := Lib.hid (HRE7.out.below hbw HRE7.out.lt)
            have HR7' := Lib.hid (HR7.out.below hbw)
            clear hbw hb7
            have sg : w7.cell? ⟨g, 5, none⟩ = some (.slice (some ⟨gy, 0, none⟩) 4 4) := HBG7'.out.cell 5
            have s0 : w7.cell? ⟨wr.heap.size, 0, none⟩ = some (.int .i64 k) := HBX7'.out.cell 0
            have s1 : w7.cell? ⟨wr.heap.size, 1, none⟩ = some (.int .i64 d) := HBX7'.out.cell 1
            have s2 : w7.cell? ⟨wr.heap.size, 2, none⟩ = some (.int .i64 fb) := HBX7'.out.cell 2
            have s3 : w7.cell? ⟨wr.heap.size, 3, none⟩ = some (.int .i64 fa) := HBX7'.out.cell 3
            have s4 : w7.cell? ⟨wr.heap.size, 4, none⟩ = some (.int .i64 tb) := HBX7'.out.cell 4
            have s5 : w7.cell? ⟨wr.heap.size, 5, none⟩ = some (.int .i64 ta) := HBX7'.out.cell 5
            have s6 : w7.cell? ⟨wr.heap.size, 6, none⟩ = some (.int .i64 ((j : Int) + 1)) := HBX7'.out.cell 6
            have s7 : w7.cell? ⟨wr.heap.size, 7, none⟩ = some (.int .i64 r) := HBX7'.out.cell 7
            have sy : w7.cell? ⟨gy, j, none⟩ = some (.int .i64 y) := (HBY7'.out.cell j).trans HYC.out
            have fy := HBY7'.out.frozen j
            refine hK.out _ _ ⟨sg, s0, s1, s2, s3, s4, s5, s6, s7, sy⟩ (fun hHeld1 => ?_)
            clear hK K hHeld pg p0 p1 p2 p3 p4 p5 p6 p7 py
            refine wpAnyH_take (i := 9) (v := ?_) rfl (by kernel_rfl) (by kernel_rfl) (by kernel_rfl) (fun _ _ _ h => h) (Or.inl ⟨by rfl, ?_⟩) hHeld1 ?_
            rotate_left
            · (intro w0 hSw; (try dsimp only at hSw); go_simp <;> with_reducible rfl)
            simp only [List.getElem_toArray, List.getElem_cons_succ, List.getElem_cons_zero, Act.put, List.setIfInBounds_toArray, List.set_cons_zero, List.set_cons_succ]
            refine wpAnyH_take (i := 10) (v := ?_) rfl (by kernel_rfl) (by kernel_rfl) (by kernel_rfl) (fun _ _ _ h => h) (Or.inl ⟨by rfl, ?_⟩) hHeld1 ?_
            rotate_left
            · (intro w0 hSw; (try dsimp only at hSw); go_simp <;> with_reducible rfl)
            simp only [List.getElem_toArray, List.getElem_cons_succ, List.getElem_cons_zero, Act.put, List.setIfInBounds_toArray, List.set_cons_zero, List.set_cons_succ]
            refine wpAnyH_done (by kernel_rfl) ?_ _
            refine LastPost.of ?_
            go_simp
            clear hHeld1 fy sg s0 s1 s2 s3 s4 s5 s6 s7 sy
            obtain ⟨w8, hw8⟩ : ∃ x, x = w7.setCell ⟨gy, j, none⟩ (.int .i64 (y + yn)) := ⟨_, rfl⟩
            rw [← hw8]
            have hle : w.heap.size ≤ gy := by have := HGY0.out; have := HS0.out; omega
            have HR8 : Hid (Runs w tg a (mSt W z i) w8) := Lib.hid (by rw [hw8]; exact HR7'.out.set HT2.out hle j (.int .i64 (y + yn)))
            have HBG8 := Lib.hid (show Blk w8 g _ _ from by rw [hw8]; exact HBG7'.out.far (p := ⟨gy, j, none⟩) HNE.out (.int .i64 (y + yn)))
            have HBY8 : Hid (Blk w8 gy 2 (yCells W z (i + 1))) := Lib.hid (by rw [hw8, ← HYS.out]; exact HBY7'.out.set_ j (.int .i64 (y + yn)))
            have HRE8 := Lib.hid (show Blk w8 w.heap.size _ _ from by rw [hw8]; exact HRE7'.out.far (p := ⟨gy, j, none⟩) HNR.out.2 (.int .i64 (y + yn)))
            have HBX8 := Lib.hid (show Blk w8 wr.heap.size _ _ from by rw [hw8]; exact HBX7'.out.far (p := ⟨gy, j, none⟩) (Nat.ne_of_gt HBY6.out.lt) (.int .i64 (y + yn)))
            clear hw8 hwy hwj
            have b0 : w8.cell? ⟨wr.heap.size, 0, none⟩ = some (.int .i64 k) := HBX8.out.cell 0
            have b1 : w8.cell? ⟨wr.heap.size, 1, none⟩ = some (.int .i64 d) := HBX8.out.cell 1
            have b2 : w8.cell? ⟨wr.heap.size, 2, none⟩ = some (.int .i64 fb) := HBX8.out.cell 2
            have b3 : w8.cell? ⟨wr.heap.size, 3, none⟩ = some (.int .i64 fa) := HBX8.out.cell 3
            have b4 : w8.cell? ⟨wr.heap.size, 4, none⟩ = some (.int .i64 tb) := HBX8.out.cell 4
            have b5 : w8.cell? ⟨wr.heap.size, 5, none⟩ = some (.int .i64 ta) := HBX8.out.cell 5
            have b6 : w8.cell? ⟨wr.heap.size, 6, none⟩ = some (.int .i64 ((j : Int) + 1)) := HBX8.out.cell 6
            have b7 : w8.cell? ⟨wr.heap.size, 7, none⟩ = some (.int .i64 r) := HBX8.out.cell 7
            have hex := execute_any (D := 4 * i) (k := k) (d := d) (fb := fb) (fa := fa) (tb := tb) (ta := ta) (c := (j : Int) + 1) (r := r) HR8.out.m HS.out (by omega) HP1.out HBD.out HBO.out
            rw [HG.out, HKC.out, HST.out] at hex
            have HEX := Lib.hid hex
            clear hex
            go_wp2_with fail
            refine HEX.out.mono ?_
            rintro e w9 ⟨rfl, _, hm9⟩
            obtain ⟨tg9, a9, hg9, hr9, hk9⟩ := HR8.out.step (by rw [HG.out]; exact hm9 rfl)
            have HR9 := Lib.hid hr9
            have HG9 := Lib.hid (hg9.trans HG.out)
            have HTT : Hid (tg9 g = 0 ∧ tg9 gy = 0 ∧ tg9 w.heap.size = 0) := Lib.hid ⟨(hk9 _ HBG8.out.lt HT1.out).1, (hk9 _ HBY8.out.lt HT2.out).1, (hk9 _ HRE8.out.lt HT3.out).1⟩
            have HBG9 : Hid (Blk w9 g 26 (cCells n (P : Nat) R (rks W z (i + 1)) 0 gy)) := Lib.hid (by rw [HRK.out]; exact (hk9 _ HBG8.out.lt HT1.out).2.trans HBG8.out)
            have HBY9 : Hid (Blk w9 gy 2 (yCells W z (i + 1))) := Lib.hid ((hk9 _ HBY8.out.lt HT2.out).2.trans HBY8.out)
            have HRE9 := Lib.hid ((hk9 _ HRE8.out.lt HT3.out).2.trans HRE8.out)
            clear hm9 hg9 hr9 hk9
            go_wp2_with fail
            go_roundw
            case rel => exact ⟨i + 1, tg9, a9, hlt, by go_num, by first | (rw [HEN.out]; done) | (rw [HEN.out]; go_num), HG9.out, HR9.out, HTT.out, HBG9.out, HBY9.out, HRE9.out⟩
            case measure => simp [intOf] <;> omega
          · have hkd : (kindI k == 1) = false := by unfold kindI; rw [if_neg hky]; split <;> (try split) <;> rfl
            have HKN : Hid (kindI k ≠ 1) := Lib.hid (by simpa using hkd)
            have hpk := fun w0 : World => passKind_any k w0 hk1 hk9
            have HPK := Lib.hid hpk
            clear hpk
            obtain ⟨kd, hkde⟩ : ∃ x, x = kindI k := ⟨_, rfl⟩
            rw [← hkde] at hkd HPK
            clear hkde
            by_cases h89 : k = 8 ∨ k = 9
            · have HEN : Hid (endsN z (i + 1) = en + 1) := Lib.hid (HENQ.out.trans (if_pos h89))
              have HY0 : Hid (yNeed (mSt W z i) z i = 0) := Lib.hid (HYN.out.trans (by unfold yarnI; rw [if_neg HKN.out]))
              clear HENQ hcb hky
              rcases h89 with rfl | rfl
              all_goals
                go_wp2_with fail
                rw [← HW6.out]
                refine (HPK.out _).mono ?_
                rintro e w7 ⟨rfl, rfl⟩
                clear o0 o1 o2 o3 o4 o5 o6 o7
                have b0 : w6.cell? ⟨wr.heap.size, 0, none⟩ = some (.int .i64 _) := HBX7.out.cell 0
                have b1 : w6.cell? ⟨wr.heap.size, 1, none⟩ = some (.int .i64 d) := HBX7.out.cell 1
                have b2 : w6.cell? ⟨wr.heap.size, 2, none⟩ = some (.int .i64 fb) := HBX7.out.cell 2
                have b3 : w6.cell? ⟨wr.heap.size, 3, none⟩ = some (.int .i64 fa) := HBX7.out.cell 3
                have b4 : w6.cell? ⟨wr.heap.size, 4, none⟩ = some (.int .i64 tb) := HBX7.out.cell 4
                have b5 : w6.cell? ⟨wr.heap.size, 5, none⟩ = some (.int .i64 ta) := HBX7.out.cell 5
                have b6 : w6.cell? ⟨wr.heap.size, 6, none⟩ = some (.int .i64 c) := HBX7.out.cell 6
                have b7 : w6.cell? ⟨wr.heap.size, 7, none⟩ = some (.int .i64 r) := HBX7.out.cell 7
                have hex := execute_any (D := 4 * i) (k := _) (d := d) (fb := fb) (fa := fa) (tb := tb) (ta := ta) (c := c) (r := r) HR7.out.m HS.out (by omega) HP1.out HBD.out HBO.out
                rw [HG.out, HKC.out, HST.out] at hex
                have HEX := Lib.hid hex
                clear hex
                go_wp2_with fail
                refine HEX.out.mono ?_
                rintro e w9 ⟨rfl, _, hm9⟩
                obtain ⟨tg9, a9, hg9, hr9, hk9⟩ := HR7.out.step (by rw [HG.out]; exact hm9 rfl)
                have HR9 := Lib.hid hr9
                have HG9 := Lib.hid (hg9.trans HG.out)
                have HTT : Hid (tg9 g = 0 ∧ tg9 gy = 0 ∧ tg9 w.heap.size = 0) := Lib.hid ⟨(hk9 _ HBG7.out.lt HT1.out).1, (hk9 _ HBY7.out.lt HT2.out).1, (hk9 _ HRE7.out.lt HT3.out).1⟩
                have HBG9 : Hid (Blk w9 g 26 (cCells n (P : Nat) R (rks W z (i + 1)) 0 gy)) := Lib.hid (by rw [HRK.out]; exact (hk9 _ HBG7.out.lt HT1.out).2.trans HBG7.out)
                have HBY9 : Hid (Blk w9 gy 2 (yCells W z (i + 1))) := Lib.hid ((hk9 _ HBY7.out.lt HT2.out).2.trans (by rw [← yCells_zero W z i HY0.out]; exact HBY7.out))
                have HRE9 := Lib.hid ((hk9 _ HRE7.out.lt HT3.out).2.trans HRE7.out)
                clear hm9 hg9 hr9 hk9
                go_wp2_with fail
                go_roundw
                case rel => exact ⟨i + 1, tg9, a9, hlt, by go_num, by first | (rw [HEN.out]; done) | (rw [HEN.out]; go_num), HG9.out, HR9.out, HTT.out, HBG9.out, HBY9.out, HRE9.out⟩
                case measure => simp [intOf] <;> omega
            · have HEN : Hid (endsN z (i + 1) = en) := Lib.hid (HENQ.out.trans (if_neg h89))
              clear HENQ
              have h46 : k = 4 ∨ k = 6 := by omega
              obtain rfl : c = 0 := by omega
              clear hcb h89 hky
              have h8 : (k == 8) = false := by simp; omega
              have h9 : (k == 9) = false := by simp; omega
              clear h46
              go_wp2_with fail
              rw [← HW6.out]
              refine (HPK.out _).mono ?_
              rintro e w7 ⟨rfl, rfl⟩
              clear o0 o1 o2 o3 o4 o5 o6 o7
              have b0 : w6.cell? ⟨wr.heap.size, 0, none⟩ = some (.int .i64 k) := HBX7.out.cell 0
              have b1 : w6.cell? ⟨wr.heap.size, 1, none⟩ = some (.int .i64 d) := HBX7.out.cell 1
              have b2 : w6.cell? ⟨wr.heap.size, 2, none⟩ = some (.int .i64 fb) := HBX7.out.cell 2
              have b3 : w6.cell? ⟨wr.heap.size, 3, none⟩ = some (.int .i64 fa) := HBX7.out.cell 3
              have b4 : w6.cell? ⟨wr.heap.size, 4, none⟩ = some (.int .i64 tb) := HBX7.out.cell 4
              have b5 : w6.cell? ⟨wr.heap.size, 5, none⟩ = some (.int .i64 ta) := HBX7.out.cell 5
              have b6 : w6.cell? ⟨wr.heap.size, 6, none⟩ = some (.int .i64 0) := HBX7.out.cell 6
              have b7 : w6.cell? ⟨wr.heap.size, 7, none⟩ = some (.int .i64 r) := HBX7.out.cell 7
              have hex := execute_any (D := 4 * i) (k := k) (d := d) (fb := fb) (fa := fa) (tb := tb) (ta := ta) (c := 0) (r := r) HR7.out.m HS.out (by omega) HP1.out HBD.out HBO.out
              rw [HG.out, HKC.out, HST.out] at hex
              have HEX := Lib.hid hex
              clear hex
              go_wp2_with fail
              refine HEX.out.mono ?_
              rintro e w9 ⟨rfl, _, hm9⟩
              obtain ⟨tg9, a9, hg9, hr9, hk9⟩ := HR7.out.step (by rw [HG.out]; exact hm9 rfl)
              have HR9 := Lib.hid hr9
              have HG9 := Lib.hid (hg9.trans HG.out)
              have HTT : Hid (tg9 g = 0 ∧ tg9 gy = 0 ∧ tg9 w.heap.size = 0) := Lib.hid ⟨(hk9 _ HBG7.out.lt HT1.out).1, (hk9 _ HBY7.out.lt HT2.out).1, (hk9 _ HRE7.out.lt HT3.out).1⟩
              have HBG9 : Hid (Blk w9 g 26 (cCells n (P : Nat) R (rks W z (i + 1)) 0 gy)) := Lib.hid (by rw [HRK.out]; exact (hk9 _ HBG7.out.lt HT1.out).2.trans HBG7.out)
              have HBY9 : Hid (Blk w9 gy 2 (yCells W z (i + 1))) := Lib.hid ((hk9 _ HBY7.out.lt HT2.out).2.trans (by rw [← yCells_keep W z i HX6.out]; exact HBY7.out))
              have HRE9 := Lib.hid ((hk9 _ HRE7.out.lt HT3.out).2.trans HRE7.out)
              clear hm9 hg9 hr9 hk9
              go_wp2_with fail
              go_roundw
              case rel => exact ⟨i + 1, tg9, a9, hlt, by go_num, by first | (rw [HEN.out]; done) | (rw [HEN.out]; go_num), HG9.out, HR9.out, HTT.out, HBG9.out, HBY9.out, HRE9.out⟩
              case measure => simp [intOf] <;> omega
      · obtain rfl : i = n := by omega
        have hPb : P ≤ 1500 := by
          rw [HP.out]
          unfold psN
          obtain ⟨m, hm⟩ := psAt_ok hW1 i (fun j hj => HOPS.out j hj)
          have := hm.len
          have := hm.le
          omega
        have hRb : 0 ≤ R ∧ R ≤ 1500 := by
          rw [HR.out]
          have h1 := retS_bd (psAt z i).L ((psAt z i).L.length / 6)
          obtain ⟨m, hm⟩ := psAt_ok hW1 i (fun j hj => HOPS.out j hj)
          have := hm.len
          have := hm.le
          show 0 ≤ (retS (psAt z i).L ((psAt z i).L.length / 6)).1 ∧ (retS (psAt z i).L ((psAt z i).L.length / 6)).1 ≤ 1500
          omega
        have hrb := rks_bd hW1 hW2 i (fun q hq => HOPS.out q (by omega)) (fun q hq => HOK.out q (by omega))
        have hen := endsN_le z i
        have HTM : Hid (tmN W z i = 20 * (P : Int) + 10 * R + 5 * rks W z i + 8 * (endsN z i : Nat)) := Lib.hid (by unfold tmN; rw [HP.out, HR.out])
        obtain ⟨rr, hrr⟩ : ∃ x, x = rks W z i := ⟨_, rfl⟩
        obtain ⟨en, hene⟩ : ∃ x, x = endsN z i := ⟨_, rfl⟩
        rw [← hrr, ← hene] at HTM
        rw [← hrr] at hrb HBG6
        rw [← hene] at hen ⊢
        have HRR := Lib.hid hrr
        clear hrr hene
        have d0 : wr.cell? ⟨g, 0, none⟩ = some (.int .i64 i) := HBG6.out.cell 0
        have d1 : wr.cell? ⟨g, 1, none⟩ = some (.int .i64 (P : Nat)) := HBG6.out.cell 1
        have d2 : wr.cell? ⟨g, 2, none⟩ = some (.int .i64 R) := HBG6.out.cell 2
        have d3 : wr.cell? ⟨g, 3, none⟩ = some (.int .i64 rr) := HBG6.out.cell 3
        have d4 : wr.cell? ⟨g, 4, none⟩ = some (.int .i64 0) := HBG6.out.cell 4
        have d5 : wr.cell? ⟨g, 5, none⟩ = some (.slice (some ⟨gy, 0, none⟩) 4 4) := HBG6.out.cell 5
        have f4 := HBG6.out.frozen 4
        have n1 := HNR.out.1
        have n2 : g ≠ w.heap.size := Ne.symm n1
        have q0 := HRE6.out.cell 0
        have f10 := HRE6.out.frozen 0
        have q1 := HRE6.out.cell 1
        have f11 := HRE6.out.frozen 1
        have q2 := HRE6.out.cell 2
        have f12 := HRE6.out.frozen 2
        have q3 := HRE6.out.cell 3
        have f13 := HRE6.out.frozen 3
        have q4 := HRE6.out.cell 4
        have f14 := HRE6.out.frozen 4
        have q5 := HRE6.out.cell 5
        have f15 := HRE6.out.frozen 5
        go_wp2_with fail
        refine bodyPost_ret (v := .agg (cCells i (P : Nat) R rr (20 * (P : Int) + 10 * R + 5 * rr + 8 * (en : Nat)) gy)) (by simp [results, Tryz.results18, go_sem, q0, q1, q2, q3, q4, q5]) rfl ?_
        have hle : w.heap.size ≤ g := by have := HG0.out; have := HS0.out; omega
        exact ⟨gy, by rw [← HR.out, ← HRR.out, HTM.out], by have := HGY0.out; have := HS0.out; omega, ((((((HBY6.out.far (p := ⟨g, 4, none⟩) HNE.out.symm _).far (p := ⟨w.heap.size, 0, none⟩) HNR.out.2.symm _).far (p := ⟨w.heap.size, 1, none⟩) HNR.out.2.symm _).far (p := ⟨w.heap.size, 2, none⟩) HNR.out.2.symm _).far (p := ⟨w.heap.size, 3, none⟩) HNR.out.2.symm _).far (p := ⟨w.heap.size, 4, none⟩) HNR.out.2.symm _).far (p := ⟨w.heap.size, 5, none⟩) HNR.out.2.symm _, ((((((HRU.out.b.setCell hle _).setCell (Nat.le_refl _) _).setCell (Nat.le_refl _) _).setCell (Nat.le_refl _) _).setCell (Nat.le_refl _) _).setCell (Nat.le_refl _) _).setCell (Nat.le_refl _) _⟩
end Go.Proofs.YtpmfkpehmckgmaaGreat
