/- Walk: slices.Repeat of one number, at most 8192 times: a new slice. -/
import Derived.Test.YtacppheedleamaaRepeat
import Derived.Test.YtacppheedleamaaAppR
import Derived.Laws.MakeOwn
namespace Go.Proofs.Ytacppheedleamaa
open Go.RowKit
set_option maxRecDepth 20000

theorem info64 : (Try.prog.info? 2).map (fun i => (i.zero, i.size, i.bytes)) = some (some (.int .i64 0), 1, 8) := by kernel_rfl
/-- 'make([]int64, m)'. -/
theorem make64 (m : Nat) (hm : m ≤ 1000000) : ∃ cs : Array Value, cs.size = m ∧ (∀ j, j < m → cs[j]? = some (.int .i64 0)) ∧ ∀ w : World, (Instr.makeSlice 38 (.int .i64 (m : Int)) (.int .i64 (m : Int))).run Try.prog w = .ok (.slice (some ⟨w.heap.size, 0, none⟩) m m) (w.alloc (.cells cs 2)) := by
  obtain ⟨i0, hi, iz, is, ib⟩ := info_parts info64
  refine ⟨madeCells (Value.int .i64 0).cells m, size_madeCells _ _, fun j hj => ?_, fun w => ?_⟩
  · simp [madeCells, hj, Value.cells, Nat.mod_one]
  · have h := run_makeSlice (P := Try.prog) w 38 2 i0 (.int .i64 0) Try.underlying38 hi iz .i64 .i64 m m (by omega) (Int.le_refl _) (by rw [is]; simp; omega) (by rw [ib]; omega) (by omega)
    rw [is] at h
    simpa using h
/-- The first k cells of block G are x. -/
def Filled64 (w : World) (G m : Nat) (x : Int) (k : Nat) (wr : World) : Prop :=
  ∃ cur : List Value, Hid (wr.heap[G]? = some (.cells cur.toArray 2 (0, 0))) ∧ m ≤ cur.length ∧ (∀ j, j < k → cur[j]? = some (.int .i64 x)) ∧ Below w.heap.size w wr

set_option maxHeartbeats 1000000 in
theorem repeat64_any (g : Nat) (x : Int) (m : Nat) (w : World) (h0 : w.cell? ⟨g, 0, none⟩ = some (.int .i64 x)) (hpos : 0 < m) (hm : m ≤ 8192) :
    Calls Try.prog 54 #[.slice (some ⟨g, 0, none⟩) 1 1, .int .i64 m] w (NewPC w m m (fun _ => .int .i64 x)) := by
  obtain ⟨cs, hcs, _, hmk⟩ := make64 m (by omega)
  have hg := World.block_lt_of_cell? w _ h0
  have H0 := Lib.hid h0
  clear h0
  have hsz : (Try.prog.info? 2).map (·.size) = some 1 := by kernel_rfl
  have hbW : Below w.heap.size w (w.alloc (.cells cs 2)) := (Below.refl _ _).alloc (Nat.le_refl _) _
  have hGW : (w.alloc (.cells cs 2)).heap[w.heap.size]? = some (.cells cs.toList.toArray 2 (0, 0)) := by rw [Array.toArray_toList]; exact heap_alloc_new w _
  have hsrc : ∀ (j : Nat) v, [Value.int .i64 x][j]? = some v → (w.alloc (.cells cs 2)).cell? ((⟨g, 0, none⟩ : Addr).add j) = some v := fun j v hj => by
    rcases Nat.eq_zero_or_pos j with rfl | hj0
    · have h1 : (w.alloc (.cells cs 2)).cell? ⟨g, 0, none⟩ = some (.int .i64 x) := (World.cell?_alloc_lt w _ _ hg).trans H0.out
      rw [Addr.add_lit]
      simp at hj
      subst hj
      exact h1
    · rw [List.getElem?_eq_none (by simp; omega)] at hj
      cases hj
  have HSRC := Lib.hid hsrc
  have HBW := Lib.hid hbW
  have HGW := Lib.hid hGW
  have HCS := Lib.hid hcs
  clear hbW hGW hsrc hcs
  go_enter Try.func54, Try.ntmps54
  go_wp2_with (first
    | (with_reducible refine wpList_copy_splice rfl (.tmp 31) (.tmp 32) 38 38 rfl 2 Try.underlying38 hsz _ _ _ _ _ _ rfl rfl w.heap.size 0 cs.toList 2 HGW.out [.int .i64 x] (Nat.min_eq_left hpos).symm (fun _ => ⟨rfl, _, rfl, HSRC.out⟩) (by simp [HCS.out]; omega) (by simp [Value.oneCell']) w.heap.size w HBW.out (Nat.le_refl _) ?_; intro w1 hg1 hb1)
    | (go_at_call 70; refine (bitsMul_one m hm _).mono ?_; rintro e w' ⟨rfl, rfl⟩)
    | go_in
    | fail)
  go_loopw [8] (fun bp wr => ∃ k : Nat, 1 ≤ k ∧ k ≤ m ∧ bp = .int .i64 k ∧ Filled64 w w.heap.size m x k wr) (fun bp _ => m - (intOf bp).toNat)
  case atStart =>
    refine ⟨1, Nat.le_refl _, hpos, rfl, _, hg1, ?_, fun j hj => ?_, hb1⟩
    · rw [length_splice _ _ _ (by simp [HCS.out]; omega)]
      simp [HCS.out]
    · obtain rfl : j = 0 := by omega
      rw [splice_get _ _ _ _ (by simp [HCS.out]; omega)]
      simp
  case round =>
    obtain ⟨k, hk1, hk, rfl, cur, hcur, hlen, hval, hb⟩ := hrel
    have HB := Lib.hid hb
    have HV := Lib.hid hval
    clear hb hval
    by_cases hlt : k < m
    · obtain ⟨q, hq⟩ : ∃ q, q = Nat.min k (m - k) := ⟨_, rfl⟩
      have hq1 : q ≤ k := hq ▸ Nat.min_le_left _ _
      have hq2 : q ≤ m - k := hq ▸ Nat.min_le_right _ _
      have hq3 : 1 ≤ q := by rw [hq]; exact Nat.le_min.2 ⟨hk1, by omega⟩
      have HQ := Lib.hid hq
      clear hq
      have b1 : (0 : Int) ≤ (k : Int) := by omega
      have b2 : (k : Int) ≤ (m : Int) := by omega
      have hne : ¬ m = k := by omega
      have hwr : IntKind.i64.wrap ((k : Int) + (q : Int)) = (k : Int) + q := IntWalk.i64_in _ (by omega)
      have hsrc : ∀ (j : Nat) v, (List.replicate q (Value.int .i64 x))[j]? = some v → wr.drew.cell? ((⟨w.heap.size, 0, none⟩ : Addr).add j) = some v := fun j v hj => by
        have hjq : j < q := by
          rcases Nat.lt_or_ge j q with h | h
          · exact h
          · rw [List.getElem?_eq_none (by simpa using h)] at hj
            cases hj
        rw [Addr.add_lit, Nat.zero_add]
        have h1 : wr.cell? ⟨w.heap.size, j, none⟩ = cur.toArray[j]? := cell_of_row _ _ _ _ _ _ hcur.out
        refine Eq.trans (show wr.drew.cell? _ = _ from h1) ?_
        rw [List.getElem?_toArray, HV.out j (by omega)]
        rw [List.getElem?_replicate, if_pos hjq] at hj
        exact hj
      have HS := Lib.hid hsrc
      clear hsrc
      go_wp2_with fail
      go_region_held3 (fun _ => True) (trivial) (first
        | (refine step_copy_splice (w := wr.drew) rfl (.tmp 41) (.tmp 44) 38 38 rfl 2 Try.underlying38 hsz (some ⟨w.heap.size, k, none⟩) (some ⟨w.heap.size, 0, none⟩) (m - k) (m - k) k m (by go_simp) (by go_simp) w.heap.size k cur 2 hcur.out (List.replicate q (.int .i64 x)) (by rw [List.length_replicate]; exact HQ.out) (fun _ => ⟨rfl, _, rfl, HS.out⟩) (by rw [List.length_replicate]; omega) (by intro v hv; rw [List.eq_of_mem_replicate hv]; rfl) w.heap.size w HB.out.drew (Nat.le_refl _) ?_; intro w4 hg4 hb4)
        | fail)
      go_wp2
      go_roundw
      case rel =>
        refine ⟨k + q, by omega, by omega, by go_num, _, hg4, ?_, fun j hj => ?_, hb4⟩
        · rw [length_splice _ _ _ (by rw [List.length_replicate]; omega)]
          exact hlen
        · rw [splice_get _ _ _ _ (by rw [List.length_replicate]; omega), List.length_replicate]
          by_cases h1 : j < k
          · rw [if_pos h1]
            exact HV.out j h1
          · rw [if_neg h1, if_pos (by omega), List.getElem?_replicate, if_pos (by omega)]
      case measure => simp [intOf] <;> omega
    · obtain rfl : m = k := by omega
      go_wp2
      go_ret
      have hc : ∀ j, j < m → wr.cell? ⟨w.heap.size, 0 + j, none⟩ = some (.int .i64 x) := fun j hj => by
        rw [Nat.zero_add, cell_of_row _ _ _ _ _ _ hcur.out, List.getElem?_toArray]
        exact HV.out j hj
      refine ⟨_, _, rfl, ⟨Nat.le_refl _, by unfold maxLen; omega⟩, New.of_row HB.out (Nat.le_refl _) (Array.getElem?_eq_some_iff.1 hcur.out).1 (fun j hj => ⟨⟨_, hc j hj⟩, ?_⟩) hc⟩
      simp [World.frozen?, hcur.out]
end Go.Proofs.Ytacppheedleamaa
