/- Walks: lists of numbers, by the reference: copied, searched, compared. No condition but the bounds. -/
import Derived.Test.YtacppheedleamaaLoL
import Derived.Test.YtacppheedleamaaRepeat64
import Derived.Deep.QuietTactic
import Derived.BigQuiet
import Derived.Deep.RegionHeld3
import Derived.IntWalk
import Derived.Deep.LoopGhost
import Derived.RegionTactic
set_option linter.unusedVariables false
set_option linter.unusedSimpArgs false
namespace Go.Proofs.Ytacppheedleamaa
open Go.RowKit
set_option maxRecDepth 20000

theorem at_bel {B : Nat} {w w' : World} {g o : Nat} {v : Value} (hb : Below B w w') (hg : g < B) (h : w.cell? ⟨g, o, none⟩ = some v) : w'.cell? ⟨g, o, none⟩ = some v := ((bcell hb).1 g o hg).trans h
/-- A new list of numbers. -/
def NewI (w : World) (L : List Int) (e : Ending) (w' : World) : Prop := ∃ v, e = .returned v ∧ w'.ownsRow w.heap.size 2 1 v L.length (ints L) ∧ Below w.heap.size w w'
theorem own_rdI {B : Nat} {w : World} {A : Option Addr} {n c : Nat} {L : List Int} (ho : w.ownsRow B 2 1 (.slice A n c) n (ints L)) : RdI w A L := fun h0 => by
  have hl : L.length = n := by have := ho.1; simp [ints] at this; omega
  rcases ho.2 with ⟨_, h1⟩ | ⟨g', cap, _, hg, _⟩
  · omega
  injection hg with hA _ hc
  subst hA
  refine ⟨g', 0, rfl, (ho.lt g' rfl).2, fun j hj => ?_⟩
  rw [Nat.zero_add, ho.cellAt j (by omega)]
  simp [ints, List.getD, hj]
/-- A list that is made and filled place by place. -/
theorem made_own (w : World) (cs : Array Value) (n : Nat) (hn : n ≤ 1000000) (hcs : cs.size = n) (hcv : ∀ j, j < n → cs[j]? = some (.int .i64 0)) : (w.alloc (.cells cs 2)).ownsRow w.heap.size 2 1 (.slice (some ⟨w.heap.size, 0, none⟩) n n) n (ints (List.replicate n 0)) := by
  have h := World.ownsRow_lit (base := w.heap.size) (e := 2) (size := 1) w cs n (Nat.le_refl _) (by unfold maxLen; omega) (by omega)
  have e : cs.toList = ints (List.replicate n 0) := by
    apply List.ext_getElem?
    intro j
    by_cases hj : j < n
    · have := hcv j hj
      rw [Array.getElem?_toList, this]
      simp [ints, hj]
    · rw [List.getElem?_eq_none (by rw [Array.length_toList]; omega), List.getElem?_eq_none (by simp [ints]; omega)]
  rwa [e] at h
theorem l00OwnI_any (A : Option Addr) (c : Nat) (L : List Int) (w : World) (ha : RdI w A L) (hn : L.length ≤ 1048576) :
    Calls Try.prog 32 #[.slice A L.length c] w (NewI w L) := by
  obtain ⟨i0, hi, iz, is, ib⟩ := info_parts info64
  have hb0 : Below w.heap.size w (w.alloc (.cells #[] 2)) := (Below.refl _ _).alloc (Nat.le_refl _) _
  have HR := Lib.hid (ha.below hb0)
  have HO := Lib.hid (World.ownsRow_made (e := 2) (size := 1) w #[] 0 (Nat.le_refl _) (by unfold maxLen; omega) rfl)
  have HB := Lib.hid hb0
  clear ha hb0
  go_enter Try.func32, Try.ntmps32
  go_wp2_with (at_builtin; go_must (refine wpList_appR (w.alloc (.cells #[] 2)) rfl (.tmp 3) (.tmp 4) _ rfl w.heap.size 2 i0 _ 1 8 Try.underlying38 hi iz is ib rfl (by omega) _ 0 [] rfl HO.out A L.length c (fun j => .int .i64 (L.getD j 0)) rfl (by rw [Nat.mul_one]; exact HR.out) (fun j => rfl) (by unfold maxLen; omega) (by omega) (by simp) ?_); intro v' w' hown' hfr; have HOWN' := Lib.hid hown'; have HFR := Lib.hid hfr; clear hown' hfr)
  go_ret
  have ho := HOWN'.out
  rw [Nat.zero_add, List.nil_append, Nat.mul_one, ints_get L L.length rfl] at ho
  exact ⟨_, rfl, ho, HB.out.trans (HFR.out.own HO.out (by simp))⟩
theorem mem_take_next {L : List Int} {k : Nat} (hk : k < L.length) (x : Int) : x ∈ L.take (k + 1) ↔ x ∈ L.take k ∨ x = L.getD k 0 := by
  rw [List.take_succ_eq_append_getElem hk, List.mem_append, List.mem_singleton]
  simp [List.getD, hk]
theorem l00Same_any (A B : Option Addr) (c c' : Nat) (L M : List Int) (w : World) (ha : RdI w A L) (hb : RdI w B M) (hn : L.length ≤ 1048576) (hm : M.length ≤ 1048576) :
    Calls Try.prog 48 #[.slice A L.length c, .slice B M.length c'] w fun e w' => e = .returned (.bool (decide (L = M))) ∧ ∃ q, w' = w.drewN q := by
  have HA := Lib.hid ha
  have HB := Lib.hid hb
  clear ha hb
  by_cases hl : L.length = M.length
  case neg =>
    have HD := Lib.hid (show decide (L = M) = false from decide_eq_false fun e => hl (by rw [e]))
    have hlb : ((L.length : Int) == (M.length : Int)) = false := by rw [beq_eq_false_iff_ne]; omega
    have hlc : ¬ (L.length : Int) = (M.length : Int) := by omega
    go_enter Try.func48, Try.ntmps48
    go_wp2
    go_ret
    exact ⟨by rw [HD.out]; rfl, 0, rfl⟩
  obtain ⟨n, hnl⟩ : ∃ n, n = L.length := ⟨_, rfl⟩
  have hnm : M.length = n := by omega
  have HLN := Lib.hid hnl
  have HMN := Lib.hid hnm
  have e1 : L.length = n := hnl.symm
  rw [← hnl]
  rw [hnm]
  rw [← hnl] at hn
  clear hnl hnm hl hm
  go_enter Try.func48, Try.ntmps48
  go_wp2
  go_loopw [5] (fun i wr => ∃ k q : Nat, k ≤ n ∧ i = .int .i64 k ∧ wr = w.drewN q ∧ Hid (L.take k = M.take k)) (fun i _ => n - (intOf i).toNat)
  case atStart => exact ⟨0, 0, Nat.zero_le _, rfl, rfl, Lib.hid (by simp)⟩
  case round =>
    obtain ⟨k, q, hk, rfl, rfl, HX⟩ := hrel
    by_cases hlt : k < n
    · obtain ⟨ga, o, rfl, hg, hr⟩ := HA.out (by omega)
      obtain ⟨gb, o', rfl, hg', hr'⟩ := HB.out (by have := HMN.out; omega)
      have hc := hr k (by omega)
      have hc' := hr' k (by have := HMN.out; omega)
      have HT1 := Lib.hid (show L.take (k + 1) = L.take k ++ [L.getD k 0] by rw [List.take_succ_eq_append_getElem (by omega)]; simp [List.getD, show k < L.length by omega])
      have HT2 := Lib.hid (show M.take (k + 1) = M.take k ++ [M.getD k 0] by rw [List.take_succ_eq_append_getElem (by have := HMN.out; omega)]; simp [List.getD, show k < M.length by have := HMN.out; omega])
      obtain ⟨x, hx⟩ : ∃ x, x = L.getD k 0 := ⟨_, rfl⟩
      obtain ⟨y, hy⟩ : ∃ y, y = M.getD k 0 := ⟨_, rfl⟩
      simp only [← hx] at hc
      rw [← hx] at HT1
      simp only [← hy] at hc'
      rw [← hy] at HT2
      have HXX := Lib.hid hx
      have HYY := Lib.hid hy
      have b1 : (0 : Int) ≤ (k : Int) := by omega
      have b2 : (k : Int) < (n : Int) := by omega
      clear hr hr' hx hy
      by_cases hxy : x = y
      · subst hxy
        go_wp2_with fail
        go_quiet (fail)
        go_wp2_with fail
        go_roundw
        case rel => exact ⟨k + 1, _, by omega, by go_num, rfl, Lib.hid (by rw [HT1.out, HT2.out, HX.out])⟩
        case measure => simp [intOf] <;> omega
      · have HD := Lib.hid (show decide (L = M) = false from decide_eq_false fun e => hxy (by rw [HXX.out, HYY.out, e]))
        have hxb : (x == y) = false := by simpa using hxy
        go_wp2_with fail
        go_quiet (fail)
        go_wp2_with fail
        go_ret
        exact ⟨by rw [HD.out]; rfl, _, World.drewN_drewN _ _ _⟩
    · obtain rfl : n = k := by omega
      have HD := Lib.hid (show decide (L = M) = true from decide_eq_true (by
        have h := HX.out
        rwa [List.take_of_length_le (by omega), List.take_of_length_le (by have := HMN.out; omega)] at h))
      go_wp2
      go_ret
      exact ⟨by rw [HD.out]; rfl, q, rfl⟩
end Go.Proofs.Ytacppheedleamaa
