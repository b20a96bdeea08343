/- Walks: a new machine, a clone of a list, two lists joined, by the program. No condition but the bounds. -/
import Derived.Test.YtpmfkpehmckgmaaMachM
import Derived.Test.YtpmfkpehmckgmaaConcat
import Derived.Laws.MakeOwn
import Derived.Lib.SliceRun
namespace Go.Proofs.Ytpmfkpehmckgmaa
open Go.RowKit
set_option maxRecDepth 20000

theorem makeLL (m : Nat) (hm : m ≤ 1000000) : ∃ cs : Array Value, cs.size = m ∧ (∀ j, j < m → cs[j]? = some (.slice none 0 0)) ∧ ∀ w : World, (Instr.makeSlice 65 (.int .i64 (m : Int)) (.int .i64 (m : Int))).run Try.prog w = .ok (.slice (some ⟨w.heap.size, 0, none⟩) m m) (w.alloc (.cells cs 41)) := by
  obtain ⟨i0, hi, iz, is, ib⟩ := info_parts infoLL
  refine ⟨madeCells (Value.slice none 0 0).cells m, size_madeCells _ _, fun j hj => ?_, fun w => ?_⟩
  · simp [madeCells, hj, Value.cells, Nat.mod_one]
  · have h := run_makeSlice (P := Try.prog) w 65 41 i0 (.slice none 0 0) Try.underlying65 hi iz .i64 .i64 m m (by omega) (Int.le_refl _) (by rw [is]; simp; omega) (by rw [ib]; omega) (by omega)
    rw [is] at h
    simpa using h
def tag3 (gf gk gc b : Nat) : Nat := if b = gf then 2 else if b = gk then 3 else if b = gc then 4 else 0
section
variable {gf gk gc : Nat}
theorem tag3_f : tag3 gf gk gc gf = 2 := if_pos rfl
theorem tag3_k (h1 : gf ≠ gk) : tag3 gf gk gc gk = 3 := by unfold tag3; rw [if_neg (Ne.symm h1), if_pos rfl]
theorem tag3_c (h2 : gf ≠ gc) (h3 : gk ≠ gc) : tag3 gf gk gc gc = 4 := by unfold tag3; rw [if_neg (Ne.symm h2), if_neg (Ne.symm h3), if_pos rfl]
theorem tag3_ne {b : Nat} (h : tag3 gf gk gc b ≠ 0) : b = gf ∨ b = gk ∨ b = gc := by
  unfold tag3 at h
  by_cases e1 : b = gf
  · exact .inl e1
  · by_cases e2 : b = gk
    · exact .inr (.inl e2)
    · by_cases e3 : b = gc
      · exact .inr (.inr e3)
      · rw [if_neg e1, if_neg e2, if_neg e3] at h; omega
end
theorem Blk.drew1 {w : World} {g : Nat} {t : TypeId} {cs : Array Value} (h : Blk w g t cs) : Blk w.drew g t cs := h
/-- A new machine whose parts lie in blocks of their own. -/
theorem makes_new {B W gf gk gc : Nat} {w : World} {cs : Array Value} (hcs : ∀ j, j < W → cs[j]? = some (.slice none 0 0)) (hf : Blk w gf 41 cs) (hk : Blk w gk 41 cs) (hc : Blk w gc 107 carNew) (h1 : gf ≠ gk) (h2 : gf ≠ gc) (h3 : gk ≠ gc) (b1 : B ≤ gf) (b2 : B ≤ gk) (b3 : B ≤ gc) :
    MakesM B (.agg #[.int .i64 W, .int .i64 0, .slice (some ⟨gf, 0, none⟩) W W, .slice (some ⟨gk, 0, none⟩) W W, .slice (some ⟨gc, 0, none⟩) 4 4, .slice none 0 0, .slice none 0 0]) (newM W) w := by
  have hlf := hf.lt
  have hlk := hk.lt
  have hlc := hc.lt
  have tf := tag3_f (gf := gf) (gk := gk) (gc := gc)
  have tk := tag3_k (gf := gf) (gk := gk) (gc := gc) h1
  have tc := tag3_c (gf := gf) (gk := gk) (gc := gc) h2 h3
  refine ⟨tag3 gf gk gc, ⟨0, gf, W, gk, W, gc, 4, fun _ => .slice none 0 0, fun _ => .slice none 0 0, .slice none 0 0, .slice none 0 0⟩, rfl, fun b hb => by rcases tag3_ne hb with rfl | rfl | rfl <;> assumption, fun b hb => by rcases tag3_ne hb with rfl | rfl | rfl <;> assumption, ⟨⟨_, _, _, rfl⟩, ⟨_, _, _, rfl⟩⟩, fun g w' hg hkp hz hB => ?_⟩
  have n1 : gf ≠ g := by rintro rfl; omega
  have n2 : gk ≠ g := by rintro rfl; omega
  have n3 : gc ≠ g := by rintro rfl; omega
  have kf : Blk w' gf 41 cs := (hkp gf (by omega)).trans hf
  have kk : Blk w' gk 41 cs := (hkp gk (by omega)).trans hk
  have kc : Blk w' gc 107 carNew := (hkp gc (by omega)).trans hc
  have rr : ∀ {q : Nat}, Blk w' q 41 cs → RowR w' q 0 W (fun _ => .slice none 0 0) ∧ RowW w' q 0 W := fun hq =>
    ⟨fun j hj => by rw [Nat.zero_add, hq.cell]; exact hcs j hj, fun j hj => ⟨⟨_, by rw [Nat.zero_add, hq.cell]; exact hcs j hj⟩, hq.frozen _⟩⟩
  refine ⟨hB, (rr kf).1, (rr kf).2, (rr kk).1, (rr kk).2, fun j hj => by rw [Nat.zero_add, kc.cell]; exact car_new W j hj, fun j hj => ⟨⟨_, by rw [Nat.zero_add, kc.cell]; exact car_new W j hj⟩, kc.frozen _⟩, fun _ _ => ⟨[], World.ownsRow_nil _ _ _ _⟩, fun _ _ => ⟨[], World.ownsRow_nil _ _ _ _⟩, ⟨[], World.ownsRow_nil _ _ _ _, fun i hi => absurd hi (Nat.not_lt_zero _)⟩, ⟨0, Nat.le_refl _, [], World.ownsRow_nil _ _ _ _⟩, if_pos rfl, ?_, ?_, ?_, fun b hb => (by cases hb), fun b hb => (by cases hb), fun i hi b hb => (by cases hb), fun i hi b hb => (by cases hb), fun b hb => ?_⟩
  · unfold onT; rw [if_neg n1]; exact tf
  · unfold onT; rw [if_neg n2]; exact tk
  · unfold onT; rw [if_neg n3]; exact tc
  · unfold onT at hb
    by_cases e0 : b = g
    · subst e0; exact hB.lt
    · rw [if_neg e0] at hb
      rcases tag3_ne hb with rfl | rfl | rfl <;> omega
set_option maxHeartbeats 4000000 in
theorem newMachine_any (W : Nat) (w : World) (hW2 : W ≤ 24) : Calls Try.prog 63 #[.int .i64 W] w (NewMP w (newM W)) := by
  obtain ⟨cs, hcs, hcz, hmk⟩ := makeLL W (by omega)
  have hmc := makeC
  have HZ := Lib.hid hcz
  clear hcz hcs
  go_enter Try.func63, Try.ntmps63
  go_wp2_with fail
  go_region
  · go_wp2_with fail
    exact bodyPost_ret (v := .agg #[.int .i64 W, .int .i64 0, .slice (some ⟨w.heap.size + 1, 0, none⟩) W W, .slice (some ⟨w.heap.size + 1 + 1, 0, none⟩) W W, .slice (some ⟨w.heap.size + 1 + 1 + 1, 0, none⟩) 4 4, .slice none 0 0, .slice none 0 0]) (by simp [results, Try.results63, go_sem]) rfl ⟨_, rfl, makes_new HZ.out (((Blk.at_ _ _ _ (by simp)).alloc _).alloc _).drew1 ((Blk.at_ _ _ _ (by simp)).alloc _).drew1 (Blk.at_ _ _ _ (by simp)).drew1 (by omega) (by omega) (by omega) (by omega) (by omega) (by omega), by (repeat' first | with_reducible exact Below.refl _ _ | with_reducible refine Below.alloc ?_ ?_ _ | with_reducible refine Below.setCell ?_ ?_ _ | with_reducible refine Below.drew ?_ | with_reducible refine Below.drewN' ?_ _ | with_reducible (refine Below.trans ?_ (Below.mono (by assumption) ?_)) | exact Nat.le_refl _ | (simp; done) | (simp; omega) | omega)⟩
  · go_wp2_with fail
    exact bodyPost_ret (v := .agg #[.int .i64 W, .int .i64 0, .slice (some ⟨w.heap.size + 1, 0, none⟩) W W, .slice (some ⟨w.heap.size + 1 + 1 + 1, 0, none⟩) W W, .slice (some ⟨w.heap.size + 1 + 1, 0, none⟩) 4 4, .slice none 0 0, .slice none 0 0]) (by simp [results, Try.results63, go_sem]) rfl ⟨_, rfl, makes_new HZ.out (((Blk.at_ _ _ _ (by simp)).alloc _).alloc _).drew1 (Blk.at_ _ _ _ (by simp)).drew1 ((Blk.at_ _ _ _ (by simp)).alloc _).drew1 (by omega) (by omega) (by omega) (by omega) (by omega) (by omega), by (repeat' first | with_reducible exact Below.refl _ _ | with_reducible refine Below.alloc ?_ ?_ _ | with_reducible refine Below.setCell ?_ ?_ _ | with_reducible refine Below.drew ?_ | with_reducible refine Below.drewN' ?_ _ | with_reducible (refine Below.trans ?_ (Below.mono (by assumption) ?_)) | exact Nat.le_refl _ | (simp; done) | (simp; omega) | omega)⟩
  · go_wp2_with fail
    exact bodyPost_ret (v := .agg #[.int .i64 W, .int .i64 0, .slice (some ⟨w.heap.size + 1 + 1, 0, none⟩) W W, .slice (some ⟨w.heap.size + 1, 0, none⟩) W W, .slice (some ⟨w.heap.size + 1 + 1 + 1, 0, none⟩) 4 4, .slice none 0 0, .slice none 0 0]) (by simp [results, Try.results63, go_sem]) rfl ⟨_, rfl, makes_new HZ.out ((Blk.at_ _ _ _ (by simp)).alloc _).drew1 (((Blk.at_ _ _ _ (by simp)).alloc _).alloc _).drew1 (Blk.at_ _ _ _ (by simp)).drew1 (by omega) (by omega) (by omega) (by omega) (by omega) (by omega), by (repeat' first | with_reducible exact Below.refl _ _ | with_reducible refine Below.alloc ?_ ?_ _ | with_reducible refine Below.setCell ?_ ?_ _ | with_reducible refine Below.drew ?_ | with_reducible refine Below.drewN' ?_ _ | with_reducible (refine Below.trans ?_ (Below.mono (by assumption) ?_)) | exact Nat.le_refl _ | (simp; done) | (simp; omega) | omega)⟩
  · go_wp2_with fail
    exact bodyPost_ret (v := .agg #[.int .i64 W, .int .i64 0, .slice (some ⟨w.heap.size + 1 + 1 + 1, 0, none⟩) W W, .slice (some ⟨w.heap.size + 1, 0, none⟩) W W, .slice (some ⟨w.heap.size + 1 + 1, 0, none⟩) 4 4, .slice none 0 0, .slice none 0 0]) (by simp [results, Try.results63, go_sem]) rfl ⟨_, rfl, makes_new HZ.out (Blk.at_ _ _ _ (by simp)).drew1 (((Blk.at_ _ _ _ (by simp)).alloc _).alloc _).drew1 ((Blk.at_ _ _ _ (by simp)).alloc _).drew1 (by omega) (by omega) (by omega) (by omega) (by omega) (by omega), by (repeat' first | with_reducible exact Below.refl _ _ | with_reducible refine Below.alloc ?_ ?_ _ | with_reducible refine Below.setCell ?_ ?_ _ | with_reducible refine Below.drew ?_ | with_reducible refine Below.drewN' ?_ _ | with_reducible (refine Below.trans ?_ (Below.mono (by assumption) ?_)) | exact Nat.le_refl _ | (simp; done) | (simp; omega) | omega)⟩
  · go_wp2_with fail
    exact bodyPost_ret (v := .agg #[.int .i64 W, .int .i64 0, .slice (some ⟨w.heap.size + 1 + 1, 0, none⟩) W W, .slice (some ⟨w.heap.size + 1 + 1 + 1, 0, none⟩) W W, .slice (some ⟨w.heap.size + 1, 0, none⟩) 4 4, .slice none 0 0, .slice none 0 0]) (by simp [results, Try.results63, go_sem]) rfl ⟨_, rfl, makes_new HZ.out ((Blk.at_ _ _ _ (by simp)).alloc _).drew1 (Blk.at_ _ _ _ (by simp)).drew1 (((Blk.at_ _ _ _ (by simp)).alloc _).alloc _).drew1 (by omega) (by omega) (by omega) (by omega) (by omega) (by omega), by (repeat' first | with_reducible exact Below.refl _ _ | with_reducible refine Below.alloc ?_ ?_ _ | with_reducible refine Below.setCell ?_ ?_ _ | with_reducible refine Below.drew ?_ | with_reducible refine Below.drewN' ?_ _ | with_reducible (refine Below.trans ?_ (Below.mono (by assumption) ?_)) | exact Nat.le_refl _ | (simp; done) | (simp; omega) | omega)⟩
  · go_wp2_with fail
    exact bodyPost_ret (v := .agg #[.int .i64 W, .int .i64 0, .slice (some ⟨w.heap.size + 1 + 1 + 1, 0, none⟩) W W, .slice (some ⟨w.heap.size + 1 + 1, 0, none⟩) W W, .slice (some ⟨w.heap.size + 1, 0, none⟩) 4 4, .slice none 0 0, .slice none 0 0]) (by simp [results, Try.results63, go_sem]) rfl ⟨_, rfl, makes_new HZ.out (Blk.at_ _ _ _ (by simp)).drew1 ((Blk.at_ _ _ _ (by simp)).alloc _).drew1 (((Blk.at_ _ _ _ (by simp)).alloc _).alloc _).drew1 (by omega) (by omega) (by omega) (by omega) (by omega) (by omega), by (repeat' first | with_reducible exact Below.refl _ _ | with_reducible refine Below.alloc ?_ ?_ _ | with_reducible refine Below.setCell ?_ ?_ _ | with_reducible refine Below.drew ?_ | with_reducible refine Below.drewN' ?_ _ | with_reducible (refine Below.trans ?_ (Below.mono (by assumption) ?_)) | exact Nat.le_refl _ | (simp; done) | (simp; omega) | omega)⟩
theorem clone64_any (v : Value) (n : Nat) (w : World) (hv : LOwn w v n) (hn : n ≤ 1048576) : Calls Try.prog 114 #[v] w (NewL w n) := by
  obtain ⟨i0, hi, iz, is, ib⟩ := info_parts infoN
  obtain ⟨A, c, xs, rfl, hr⟩ := hv.rd
  have hb0 : Below w.heap.size w (w.alloc (.cells #[] 2)) := (Below.refl _ _).alloc (Nat.le_refl _) _
  have HV := Lib.hid hv
  have HR := Lib.hid (hr.below hb0)
  have HO := Lib.hid (World.ownsRow_made (e := 2) (size := 1) w #[] 0 (Nat.le_refl _) (by unfold maxLen; omega) rfl)
  have HB := Lib.hid hb0
  clear hv hr hb0
  cases A with
  | none =>
    have hn0 : n = 0 ∧ c = 0 := by
      obtain ⟨xs', hx⟩ := HV.out
      rcases hx.2 with ⟨e, h0⟩ | ⟨_, _, _, e, _⟩
      · injection e with _ _ e3
        exact ⟨h0, e3⟩
      · cases e
    obtain ⟨rfl, rfl⟩ := hn0
    have hq : ∀ w, (binOp .eql 41 (.slice none 0 0) (.slice none 0 0)).run Try.prog w = .ok (.bool true) w := fun w => Lib.run_eql_slice_nil w _ _ none 0 0 0 0 Try.underlying41
    go_enter Try.func114, Try.ntmps114
    go_wp2_with fail
    go_ret
    exact ⟨_, rfl, ⟨[], World.ownsRow_nil _ _ _ _⟩, fun b hb => (by cases hb), Below.refl _ _⟩
  | some p =>
    have hq : ∀ w, (binOp .eql 41 (.slice (some p) n c) (.slice none 0 0)).run Try.prog w = .ok (.bool false) w := fun w => Lib.run_eql_slice_nil w _ _ (some p) n c 0 0 Try.underlying41
    go_enter Try.func114, Try.ntmps114
    go_wp2_with (at_builtin; go_must (refine wpList_appR (w.alloc (.cells #[] 2)) rfl (.tmp 5) (.tmp 6) _ rfl w.heap.size 2 i0 _ 1 8 Try.underlying41 hi iz is ib rfl (by omega) _ 0 [] rfl HO.out (some p) n c (fun j => .int .i64 (xs.getD j 0)) rfl (by rw [Nat.mul_one]; exact HR.out) (fun j => rfl) (by unfold maxLen; omega) (by omega) (by simp) ?_); intro v' w' hown' hfr; have HOWN' := Lib.hid hown'; have HFR := Lib.hid hfr; clear hown' hfr)
    go_ret
    have ho := HOWN'.out
    rw [Nat.zero_add, List.nil_append, Nat.mul_one, ints_range] at ho
    exact NewL.of ho (HB.out.trans (HFR.out.own HO.out (by simp)))
theorem grow64_nil (n : Nat) (w : World) (h0 : 0 < n) (hn : n ≤ 4000) :
    Calls Try.prog 68 #[.slice none 0 0, .int .i64 n] w fun e w' => ∃ v, e = .returned v ∧ w'.ownsRow w.heap.size 2 1 v 0 [] ∧ Below w.heap.size w w' := by
  obtain ⟨i0, hi, iz, is, ib⟩ := info_parts infoN
  go_enter Try.func68, Try.ntmps68
  go_wp2_with (at_builtin; go_must (refine wpList_zeros _ rfl (.tmp 20) (.tmp 21) _ _ rfl 2 i0 _ 1 8 Try.underlying41 Try.underlying3 hi iz is ib rfl (by omega) n h0 (by unfold maxLen; omega) (by omega) rfl rfl ?_); intro c w' hown hc hb hlt)
  go_ret
  exact ⟨_, rfl, hown, hb⟩
/-- The first k of two lists. -/
def sumN (n1 n2 k : Nat) : Nat := if k = 0 then 0 else if k = 1 then n1 else n1 + n2
set_option maxHeartbeats 1000000 in
theorem concat64_any (g cp : Nat) (A1 A2 : Option Addr) (n1 n2 c1 c2 : Nat) (f1 f2 : Nat → Int) (w : World) (h0 : w.cell? ⟨g, 0, none⟩ = some (.slice A1 n1 c1)) (h1 : w.cell? ⟨g, 1, none⟩ = some (.slice A2 n2 c2))
    (o1 : Rd w A1 n1 (fun j => .int .i64 (f1 j))) (o2 : Rd w A2 n2 (fun j => .int .i64 (f2 j))) (hp : 0 < n1 + n2) (hn1 : n1 ≤ 1000) (hn2 : n2 ≤ 1000) :
    Calls Try.prog 46 #[.slice (some ⟨g, 0, none⟩) 2 cp] w (NewL w (n1 + n2)) := by
  obtain ⟨i0, hi, iz, is, ib⟩ := info_parts infoN
  have hg := World.block_lt_of_cell? w _ h0
  have H0 := Lib.hid h0
  have H1 := Lib.hid h1
  have O1 := Lib.hid o1
  have O2 := Lib.hid o2
  clear h0 h1 o1 o2
  go_enter Try.func46, Try.ntmps46
  go_wp2
  go_loop [3, 11] (fun s i => ∃ k : Nat, k ≤ 2 ∧ i = .int .i64 k ∧ s = .int .i64 (sumN n1 n2 k)) (fun _ i => 2 - (intOf i).toNat)
  case atStart => exact ⟨0, by omega, rfl, rfl⟩
  case round =>
    obtain ⟨k, hk, rfl, rfl⟩ := hrel
    have k0 := H0.out
    have k1 := H1.out
    rcases (show k = 0 ∨ k = 1 ∨ k = 2 by omega) with rfl | rfl | rfl
    · simp only [sumN] at *
      go_wp2
      go_round
      case rel => exact ⟨1, by omega, by go_num, by simp⟩
      case measure => simp [intOf] <;> omega
    · simp only [sumN] at *
      go_wp2
      go_round
      case rel => exact ⟨2, by omega, by go_num, by simp⟩
      case measure => simp [intOf] <;> omega
    · simp only [sumN] at *
      go_wp2_with fail
      rw [← Int.natCast_add]
      refine (grow64_nil (n1 + n2) _ hp (by omega)).mono ?_
      rintro e w1 ⟨v1, rfl, ho1, hb1⟩
      have HO1 := Lib.hid ho1
      have HB1 := Lib.hid hb1
      clear ho1 hb1 k0 k1
      go_wp2_with fail
      go_loopw [6, 27] (fun v i wr => ∃ (k : Nat) (zs : List Int), k ≤ 2 ∧ i = .int .i64 k ∧ wr.ownsRow w.heap.size 2 1 v (sumN n1 n2 k) (ints zs) ∧ Below w.heap.size w wr) (fun _ i _ => 2 - (intOf i).toNat)
      case atStart => exact ⟨0, [], by omega, rfl, HO1.out, HB1.out⟩
      case round =>
        obtain ⟨k, zs, hk, rfl, hown, hb⟩ := hrel
        have k0 := ((bcell hb).1 _ _ hg).trans H0.out
        have k1 := ((bcell hb).1 _ _ hg).trans H1.out
        have P1 := Lib.hid (O1.out.below hb)
        have P2 := Lib.hid (O2.out.below hb)
        have hgr : g < wr.heap.size := blt hb hg
        have HB := Lib.hid hb
        have HOWN := Lib.hid hown
        clear hb hown
        rcases (show k = 0 ∨ k = 1 ∨ k = 2 by omega) with rfl | rfl | rfl
        · go_wp2_with (at_builtin; go_must (refine wpList_appR _ rfl (.tmp 31) (.tmp 32) _ rfl w.heap.size 2 i0 _ 1 8 Try.underlying41 hi iz is ib rfl (by omega) u6 0 (ints zs) rfl HOWN.out A1 n1 c1 (fun j => .int .i64 (f1 j)) rfl (by rw [Nat.mul_one]; exact P1.out) (fun j => rfl) (by unfold maxLen; omega) (by omega) HB.out.size ?_); intro v' w' hown' hfr; have HOWN' := Lib.hid hown'; have HBN := Lib.hid (HB.out.trans ((hfr.own HOWN.out HB.out.size).mono (Nat.le_refl _))); clear hown' hfr)
          go_roundw
          case rel => exact ⟨1, zs ++ (List.range (n1 * 1)).map f1, by omega, by go_num, by simpa [sumN, ints, Function.comp_def] using HOWN'.out, HBN.out⟩
          case measure => simp [intOf] <;> omega
        · go_wp2_with (at_builtin; go_must (refine wpList_appR _ rfl (.tmp 31) (.tmp 32) _ rfl w.heap.size 2 i0 _ 1 8 Try.underlying41 hi iz is ib rfl (by omega) u6 n1 (ints zs) rfl HOWN.out A2 n2 c2 (fun j => .int .i64 (f2 j)) rfl (by rw [Nat.mul_one]; exact P2.out) (fun j => rfl) (by unfold maxLen; omega) (by omega) HB.out.size ?_); intro v' w' hown' hfr; have HOWN' := Lib.hid hown'; have HBN := Lib.hid (HB.out.trans ((hfr.own HOWN.out HB.out.size).mono (Nat.le_refl _))); clear hown' hfr)
          go_roundw
          case rel => exact ⟨2, zs ++ (List.range (n2 * 1)).map f2, by omega, by go_num, by simpa [sumN, ints, Function.comp_def] using HOWN'.out, HBN.out⟩
          case measure => simp [intOf] <;> omega
        · go_wp2
          go_ret
          exact NewL.of HOWN.out HB.out
end Go.Proofs.Ytpmfkpehmckgmaa
