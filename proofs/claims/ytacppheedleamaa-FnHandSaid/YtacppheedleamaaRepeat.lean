/- Walk: bytes.Repeat of one byte, at most 8192 times: a new slice. -/
import Derived.Test.YtacppheedleamaaObjs
import Derived.Test.YtacppheedleamaaMul
import Derived.Lib.MakeNoZero
import Derived.Laws.Externs
import Derived.Laws.CopyOwn
import Derived.Deep.RegionLaw
import Derived.Deep.RegionHeld3
import Derived.IntWalk
namespace Go.Proofs.Ytacppheedleamaa
open Go.RowKit
set_option maxRecDepth 20000

theorem splice_get {α : Type} (cur cs : List α) (k j : Nat) (h : k + cs.length ≤ cur.length) : (splice cur k cs)[j]? = if j < k then cur[j]? else if j < k + cs.length then cs[j - k]? else cur[j]? := by
  unfold splice
  by_cases h1 : j < k
  · rw [if_pos h1, List.getElem?_append_left (by simp; omega), List.getElem?_take_of_lt h1]
  · rw [if_neg h1, List.getElem?_append_right (by simp; omega)]
    rw [show (List.take k cur).length = k by simp; omega]
    by_cases h2 : j < k + cs.length
    · rw [if_pos h2, List.getElem?_append_left (by omega)]
    · rw [if_neg h2, List.getElem?_append_right (by omega), List.getElem?_drop]
      congr 1
      omega

theorem bitsMul_one (m : Nat) (hm : m ≤ 8192) (w : World) :
    Calls Try.prog 70 #[.int .u64 1, .int .u64 m] w fun e w' => e = .returned (.tuple #[.int .u64 0, .int .u64 m]) ∧ w = w' := by
  refine (bitsMul_any 1 m (by omega) (by omega) w).mono ?_
  rintro e w' ⟨rfl, rfl⟩
  refine ⟨?_, rfl⟩
  rw [Nat.one_mul, Nat.div_eq_of_lt (by omega), Nat.mod_eq_of_lt (by omega)]
  rfl
/-- The first k cells of block G are x. -/
def Filled (w : World) (G m : Nat) (x : Int) (k : Nat) (wr : World) : Prop :=
  ∃ cur : List Value, Hid (wr.heap[G]? = some (.cells cur.toArray 5 (0, 0))) ∧ m ≤ cur.length ∧ (∀ j, j < k → cur[j]? = some (.int .u8 x)) ∧ Below w.heap.size w wr

set_option maxHeartbeats 1000000 in
theorem repeat_any (g : Nat) (x : Int) (m : Nat) (w : World) (h0 : w.cell? ⟨g, 0, none⟩ = some (.int .u8 x)) (hm : m ≤ 8192) :
    Calls Try.prog 40 #[.slice (some ⟨g, 0, none⟩) 1 1, .int .i64 m] w (NewP w m m (fun _ => .int .u8 x)) := by
  rcases Nat.eq_zero_or_pos m with hz | hpos
  · subst hz
    go_enter Try.func40, Try.ntmps40
    go_wp2
    go_ret
    exact ⟨_, _, rfl, New.block w _ _ 0 _ fun j hj => absurd hj (by omega)⟩
  obtain ⟨cs, hrunM, hle, hmax⟩ := Lib.run_makeNoZero (P := Try.prog) w #[3] 22 5 Try.underlying22 m (by omega)
  have hcall : (callFunc 71 #[.int .i64 (m : Int)]).run Try.prog w = .ok (.value (.slice (some ⟨w.heap.size, 0, none⟩) m cs.size)) ((w.alloc (.cells cs 5)).drewN 2) := by
    rw [run_callFunc_extern Try.func71 (by kernel_rfl) (by kernel_rfl) (by kernel_rfl) (e := Extern.BytealgMakeNoZero.makeNoZero #[3] #[22]) (by kernel_rfl), hrunM]
    rfl
  clear hrunM
  have i1 : (m : Int) ≤ (cs.size : Int) := by omega
  have hg := World.block_lt_of_cell? w _ h0
  have H0 := Lib.hid h0
  clear h0
  go_enter Try.func40, Try.ntmps40
  have hsz : (Try.prog.info? 5).map (·.size) = some 1 := by kernel_rfl
  have hbW : Below w.heap.size w ((w.alloc (.cells cs 5)).drewN 2) := Below.drewN' ((Below.refl _ _).alloc (Nat.le_refl _) _) 2
  have hGW : ((w.alloc (.cells cs 5)).drewN 2).heap[w.heap.size]? = some (.cells cs.toList.toArray 5 (0, 0)) := by rw [Array.toArray_toList]; exact heap_alloc_new w _
  have hsrc : ∀ (j : Nat) v, [Value.int .u8 x][j]? = some v → ((w.alloc (.cells cs 5)).drewN 2).cell? ((⟨g, 0, none⟩ : Addr).add j) = some v := fun j v hj => by
    rcases Nat.eq_zero_or_pos j with rfl | hj0
    · have h1 : ((w.alloc (.cells cs 5)).drewN 2).cell? ⟨g, 0, none⟩ = some (.int .u8 x) := (World.cell?_alloc_lt w _ _ hg).trans H0.out
      rw [Addr.add_lit]
      simp at hj
      subst hj
      exact h1
    · rw [List.getElem?_eq_none (by simp; omega)] at hj
      cases hj
  have HSRC := Lib.hid hsrc
  have HBW := Lib.hid hbW
  have HGW := Lib.hid hGW
  clear hbW hGW hsrc
  go_wp2_with (first
    | (with_reducible refine wpList_copy_splice rfl (.tmp 58) (.tmp 59) 22 22 rfl 5 Try.underlying22 hsz _ _ _ _ _ _ rfl rfl w.heap.size 0 cs.toList 5 HGW.out [.int .u8 x] (Nat.min_eq_left hpos).symm (fun _ => ⟨rfl, _, rfl, HSRC.out⟩) (by simp; omega) (by simp [Value.oneCell']) w.heap.size w HBW.out (Nat.le_refl _) ?_; intro w1 hg1 hb1)
    | (go_at_call 70; refine (bitsMul_one m hm _).mono ?_; rintro e w' ⟨rfl, rfl⟩)
    | go_in
    | fail)
  go_loopw [10] (fun bp wr => ∃ k : Nat, 1 ≤ k ∧ k ≤ m ∧ bp = .int .i64 k ∧ Filled w w.heap.size m x k wr) (fun bp _ => m - (intOf bp).toNat)
  case atStart =>
    refine ⟨1, Nat.le_refl _, hpos, rfl, _, hg1, ?_, fun j hj => ?_, hb1⟩
    · rw [length_splice _ _ _ (by simp; omega)]
      simpa using hle
    · obtain rfl : j = 0 := by omega
      rw [splice_get _ _ _ _ (by simp; omega)]
      simp
  case round =>
    obtain ⟨k, hk1, hk, rfl, cur, hcur, hlen, hval, hb⟩ := hrel
    have HB := Lib.hid hb
    have HV := Lib.hid hval
    clear hb hval
    by_cases hlt : k < m
    · obtain ⟨q, hq⟩ : ∃ q, q = Nat.min k (m - k) := ⟨_, rfl⟩
      have hq1 : q ≤ k := hq ▸ Nat.min_le_left _ _
      have hq2 : q ≤ m - k := hq ▸ Nat.min_le_right _ _
      have hq3 : 1 ≤ q := by rw [hq]; exact Nat.le_min.2 ⟨hk1, by omega⟩
      have HQ := Lib.hid hq
      clear hq
      have b1 : (0 : Int) ≤ (k : Int) := by omega
      have b2 : (k : Int) ≤ (m : Int) := by omega
      have hne : ¬ m = k := by omega
      have hwr : IntKind.i64.wrap ((k : Int) + (q : Int)) = (k : Int) + q := IntWalk.i64_in _ (by omega)
      have hsrc : ∀ (j : Nat) v, (List.replicate q (Value.int .u8 x))[j]? = some v → wr.drew.cell? ((⟨w.heap.size, 0, none⟩ : Addr).add j) = some v := fun j v hj => by
        have hjq : j < q := by
          rcases Nat.lt_or_ge j q with h | h
          · exact h
          · rw [List.getElem?_eq_none (by simpa using h)] at hj
            cases hj
        rw [Addr.add_lit, Nat.zero_add]
        have h1 : wr.cell? ⟨w.heap.size, j, none⟩ = cur.toArray[j]? := cell_of_row _ _ _ _ _ _ hcur.out
        refine Eq.trans (show wr.drew.cell? _ = _ from h1) ?_
        rw [List.getElem?_toArray, HV.out j (by omega)]
        rw [List.getElem?_replicate, if_pos hjq] at hj
        exact hj
      have HS := Lib.hid hsrc
      clear hsrc
      go_wp2_with fail
      go_region_held3 (fun _ => True) (trivial) (first
        | (refine step_copy_splice (w := wr.drew) rfl (.tmp 70) (.tmp 73) 22 22 rfl 5 Try.underlying22 hsz (some ⟨w.heap.size, k, none⟩) (some ⟨w.heap.size, 0, none⟩) (m - k) (m - k) k m (by go_simp) (by go_simp) w.heap.size k cur 5 hcur.out (List.replicate q (.int .u8 x)) (by rw [List.length_replicate]; exact HQ.out) (fun _ => ⟨rfl, _, rfl, HS.out⟩) (by rw [List.length_replicate]; omega) (by intro v hv; rw [List.eq_of_mem_replicate hv]; rfl) w.heap.size w HB.out.drew (Nat.le_refl _) ?_; intro w4 hg4 hb4)
        | fail)
      go_wp2
      go_roundw
      case rel =>
        refine ⟨k + q, by omega, by omega, by go_num, _, hg4, ?_, fun j hj => ?_, hb4⟩
        · rw [length_splice _ _ _ (by rw [List.length_replicate]; omega)]
          exact hlen
        · rw [splice_get _ _ _ _ (by rw [List.length_replicate]; omega), List.length_replicate]
          by_cases h1 : j < k
          · rw [if_pos h1]
            exact HV.out j h1
          · rw [if_neg h1, if_pos (by omega), List.getElem?_replicate, if_pos (by omega)]
      case measure => simp [intOf] <;> omega
    · obtain rfl : m = k := by omega
      go_wp2
      go_ret
      have hc : ∀ j, j < m → wr.cell? ⟨w.heap.size, 0 + j, none⟩ = some (.int .u8 x) := fun j hj => by
        rw [Nat.zero_add, cell_of_row _ _ _ _ _ _ hcur.out, List.getElem?_toArray]
        exact HV.out j hj
      refine ⟨_, _, rfl, New.of_row HB.out (Nat.le_refl _) (Array.getElem?_eq_some_iff.1 hcur.out).1 (fun j hj => ⟨⟨_, hc j hj⟩, ?_⟩) hc⟩
      simp [World.frozen?, hcur.out]
end Go.Proofs.Ytacppheedleamaa
