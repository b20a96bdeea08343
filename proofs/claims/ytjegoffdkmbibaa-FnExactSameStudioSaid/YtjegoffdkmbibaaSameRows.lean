/- Walks: equality of charts, braids and states, by the reference and by the program. No condition but the bounds. (Printed by wip/samerowsgen.py.) -/
import Derived.Test.YtjegoffdkmbibaaSame
import Derived.Test.YtjegoffdkmbibaaRowsObj
import Derived.Deep.RegionWith
import Derived.Deep.DrawnRows
import Derived.BigGuardPart
namespace Go.Proofs.Ytjegoffdkmbibaa
open Go.RowKit
set_option maxRecDepth 100000

def rowE (d c : Nat → Int) (ns : Nat → Nat) (z : Nat → Nat → Int) (d' c' : Nat → Int) (ns' : Nat → Nat) (z' : Nat → Nat → Int) (k : Nat) : Bool := decide (d k = d' k) && decide (c k = c' k) && eqL (ns k) (z k) (ns' k) (z' k)
def eqPR (d c : Nat → Int) (ns : Nat → Nat) (z : Nat → Nat → Int) (d' c' : Nat → Int) (ns' : Nat → Nat) (z' : Nat → Nat → Int) : Nat → Bool
  | 0 => true
  | k + 1 => eqPR d c ns z d' c' ns' z' k && rowE d c ns z d' c' ns' z' k
def eqLR (n : Nat) (d c : Nat → Int) (ns : Nat → Nat) (z : Nat → Nat → Int) (n' : Nat) (d' c' : Nat → Int) (ns' : Nat → Nat) (z' : Nat → Nat → Int) : Bool := decide (n = n') && eqPR d c ns z d' c' ns' z' n
section
variable {d c : Nat → Int} {ns : Nat → Nat} {z : Nat → Nat → Int} {d' c' : Nat → Int} {ns' : Nat → Nat} {z' : Nat → Nat → Int}
theorem eqPR_no : ∀ {n j : Nat}, j < n → rowE d c ns z d' c' ns' z' j = false → eqPR d c ns z d' c' ns' z' n = false
  | 0, j, hj, _ => absurd hj (by omega)
  | n + 1, j, hj, h => by
    simp only [eqPR]
    by_cases hjn : j = n
    · subst hjn; simp [h]
    · rw [eqPR_no (show j < n by omega) h]; rfl
theorem eqLR_no {n j : Nat} (hj : j < n) (h : rowE d c ns z d' c' ns' z' j = false) : eqLR n d c ns z n d' c' ns' z' = false := by
  unfold eqLR; rw [eqPR_no hj h]; simp
end
/-- What a comparison leaves. -/
def SameP (w : World) (b : Bool) (e : Ending) (w' : World) : Prop := e = .returned (.bool b) ∧ Below w.heap.size w w'

set_option maxHeartbeats 4000000 in
theorem specSameChart_any (x x' : Int) (A A' : Option Addr) (n n' q q' : Nat) (d c d' c' : Nat → Int) (As As' : Nat → Option Addr) (ns cs ns' cs' : Nat → Nat) (z z' : Nat → Nat → Int) (w : World) (ha : RdRows A n d c As ns cs z w) (hb : RdRows A' n' d' c' As' ns' cs' z' w) (hn : n ≤ 1048576) (hn' : n' ≤ 1048576) (hns : ∀ j, j < n → ns j ≤ 1048576) (hns' : ∀ j, j < n' → ns' j ≤ 1048576) :
    Calls Try.prog 78 #[.agg #[.int .i64 x, .slice A n q], .agg #[.int .i64 x', .slice A' n' q']] w (SameP w (decide (x = x') && eqLR n d c ns z n' d' c' ns' z')) := by
  by_cases hx : x = x'
  · subst hx
    by_cases hne : n = n'
    · subst hne
      have hw0 : Below w.heap.size w ((w.alloc (.cells #[.int .i64 x, .slice A n q] 92)).alloc (.cells #[.int .i64 x, .slice A' n q'] 92)) := by (repeat' first | with_reducible exact Below.refl _ _ | with_reducible refine Below.alloc ?_ ?_ _ | with_reducible refine Below.setCell ?_ ?_ _ | with_reducible refine Below.drew ?_ | with_reducible refine Below.drewN' ?_ _ | with_reducible (refine Below.trans ?_ (Below.mono (by assumption) ?_)) | exact Nat.le_refl _ | (simp; done) | (simp; omega) | omega)
      have BX0 : ∀ o, ((w.alloc (.cells #[.int .i64 x, .slice A n q] 92)).alloc (.cells #[.int .i64 x, .slice A' n q'] 92)).cell? ⟨w.heap.size, o, none⟩ = (#[.int .i64 x, .slice A n q] : Array Value)[o]? := fun o => ((bcell ((Below.refl _ _).alloc (Nat.le_refl _) _)).1 _ o (by simp)).trans (cell_alloc_at rfl o)
      have BY0 : ∀ o, ((w.alloc (.cells #[.int .i64 x, .slice A n q] 92)).alloc (.cells #[.int .i64 x, .slice A' n q'] 92)).cell? ⟨w.heap.size + 1, o, none⟩ = (#[.int .i64 x, .slice A' n q'] : Array Value)[o]? := fun o => cell_alloc_at (by simp) o
      have HX0 := Lib.hid BX0
      have HY0 := Lib.hid BY0
      have LA := Lib.hid (rdRows_obj A n d c As ns cs z)
      have LB := Lib.hid (rdRows_obj A' n d' c' As' ns' cs' z')
      have HA := Lib.hid (LA.out.below ha hw0)
      have HB := Lib.hid (LB.out.below hb hw0)
      have HW := Lib.hid hw0
      have HNS := Lib.hid hns
      have HNS' := Lib.hid hns'
      clear ha hb hw0 hns hns'
      go_enter Try.func78, Try.ntmps78
      go_wp2_with fail
      clear BX0 BY0
      go_loopw [5] (fun i wr => ∃ j : Nat, j ≤ n ∧ i = .int .i64 j ∧ Hid (eqPR d c ns z d' c' ns' z' j = true) ∧ Below ((w.alloc (.cells #[.int .i64 x, .slice A n q] 92)).alloc (.cells #[.int .i64 x, .slice A' n q'] 92)).heap.size ((w.alloc (.cells #[.int .i64 x, .slice A n q] 92)).alloc (.cells #[.int .i64 x, .slice A' n q'] 92)) wr) (fun i _ => n - (intOf i).toNat)
      case atStart => exact ⟨0, Nat.zero_le _, rfl, rfl, Below.refl _ _⟩
      case round =>
        obtain ⟨j, hj, rfl, HJ, hbl⟩ := hrel
        have HBL := Lib.hid hbl
        have hx0 : ∀ o, wr.cell? ⟨w.heap.size, o, none⟩ = (#[.int .i64 x, .slice A n q] : Array Value)[o]? := fun o => ((bcell hbl).1 _ o (by simp; omega)).trans (HX0.out o)
        have hy0 : ∀ o, wr.cell? ⟨w.heap.size + 1, o, none⟩ = (#[.int .i64 x, .slice A' n q'] : Array Value)[o]? := fun o => ((bcell hbl).1 _ o (by simp)).trans (HY0.out o)
        by_cases hlt : j < n
        · obtain ⟨g, o, rfl, hg, h0, h1, h2⟩ := (LA.out.below HA.out hbl).row hlt
          obtain ⟨g', o', rfl, hg', h0', h1', h2'⟩ := (LB.out.below HB.out hbl).row hlt
          have HRk := Lib.hid ((LA.out.below HA.out hbl).2 j hlt)
          have HRk' := Lib.hid ((LB.out.below HB.out hbl).2 j hlt)
          have hm := HNS.out j hlt
          have hm' := HNS'.out j hlt
          clear hbl
          obtain ⟨u0, hu0⟩ : ∃ u, u = d j := ⟨_, rfl⟩
          obtain ⟨u1, hu1⟩ : ∃ u, u = c j := ⟨_, rfl⟩
          obtain ⟨v0, hv0⟩ : ∃ u, u = d' j := ⟨_, rfl⟩
          obtain ⟨v1, hv1⟩ : ∃ u, u = c' j := ⟨_, rfl⟩
          simp only [← hu0] at h0
          simp only [← hu1] at h1
          simp only [← hv0] at h0'
          simp only [← hv1] at h1'
          have HU0 := Lib.hid hu0
          have HU1 := Lib.hid hu1
          have HV0 := Lib.hid hv0
          have HV1 := Lib.hid hv1
          clear hu0 hu1 hv0 hv1
          have b1 : (0 : Int) ≤ (j : Int) := by omega
          have b2 : (j : Int) < (n : Int) := by omega
          by_cases e0 : u0 = v0
          · subst e0
            by_cases e1 : u1 = v1
            · subst e1
              cases hq : eqL (ns j) (z j) (ns' j) (z' j)
              · have HNo : Hid (eqLR n d c ns z n d' c' ns' z' = false) := eqLR_no hlt (by unfold rowE; rw [hq]; simp)
                have hS : ∀ W, Rd W (As j) (ns j) (fun i => .int .i64 (z j i)) → Rd W (As' j) (ns' j) (fun i => .int .i64 (z' j i)) → Calls Try.prog 112 #[.slice (As j) (ns j) (cs j), .slice (As' j) (ns' j) (cs' j)] W fun e w' => e = .returned (.bool false) ∧ ∃ q, w' = W.drewN q := fun W h h' => (eqIS_any (As j) (As' j) (ns j) (ns' j) (cs j) (cs' j) (z j) (z' j) W h h' hm hm').mono fun _ _ h => ⟨h.1.trans (by rw [hq]), h.2⟩
                have HS := Lib.hid hS
                clear hS hq
                go_wp2_with fail
                go_quiet ((go_at_call 112; exact Calls.quiet_of (HS.out _ (HRk.out.drewN _) (HRk'.out.drewN _))))
                go_wp2
                go_ret
                exact ⟨by rw [HNo.out]; simp, HW.out.trans ((Below.drewN' HBL.out _).mono HW.out.size)⟩
              · have HN : Hid (eqPR d c ns z d' c' ns' z' (j + 1) = true) := by
                  show _ = _
                  simp only [eqPR]; rw [HJ.out]; unfold rowE; rw [hq, ← HU0.out, ← HU1.out, ← HV0.out, ← HV1.out]; simp
                have hS : ∀ W, Rd W (As j) (ns j) (fun i => .int .i64 (z j i)) → Rd W (As' j) (ns' j) (fun i => .int .i64 (z' j i)) → Calls Try.prog 112 #[.slice (As j) (ns j) (cs j), .slice (As' j) (ns' j) (cs' j)] W fun e w' => e = .returned (.bool true) ∧ ∃ q, w' = W.drewN q := fun W h h' => (eqIS_any (As j) (As' j) (ns j) (ns' j) (cs j) (cs' j) (z j) (z' j) W h h' hm hm').mono fun _ _ h => ⟨h.1.trans (by rw [hq]), h.2⟩
                have HS := Lib.hid hS
                clear hS hq
                go_wp2_with fail
                go_quiet ((go_at_call 112; exact Calls.quiet_of (HS.out _ (HRk.out.drewN _) (HRk'.out.drewN _))))
                go_wp2
                go_roundw
                case rel => exact ⟨j + 1, by omega, by go_num, HN.out, Below.drewN' HBL.out _⟩
                case measure => simp [intOf] <;> omega
            · have hne : (u1 == v1) = false := by simpa using e1
              have hne2 : (u1 != v1) = true := by simpa using e1
              have HNo : Hid (eqLR n d c ns z n d' c' ns' z' = false) := eqLR_no hlt (by unfold rowE; rw [← HU1.out, ← HV1.out, decide_eq_false e1]; simp)
              clear e1
              go_wp2_with fail
              go_quiet (fail)
              go_wp2
              go_ret
              exact ⟨by rw [HNo.out]; simp, HW.out.trans ((Below.drewN' HBL.out _).mono HW.out.size)⟩
          · have hne : (u0 == v0) = false := by simpa using e0
            have hne2 : (u0 != v0) = true := by simpa using e0
            have HNo : Hid (eqLR n d c ns z n d' c' ns' z' = false) := eqLR_no hlt (by unfold rowE; rw [← HU0.out, ← HV0.out, decide_eq_false e0]; simp)
            clear e0
            go_wp2_with fail
            go_quiet (fail)
            go_wp2
            go_ret
            exact ⟨by rw [HNo.out]; simp, HW.out.trans ((Below.drewN' HBL.out _).mono HW.out.size)⟩
        · obtain rfl : j = n := by omega
          clear hbl
          go_wp2
          go_ret
          exact ⟨by unfold eqLR; rw [HJ.out]; simp, HW.out.trans (HBL.out.mono HW.out.size)⟩
    · have hne' : ((n : Int) == (n' : Int)) = false := by simp; omega
      have HNo : Hid (eqLR n d c ns z n' d' c' ns' z' = false) := by show _ = _; unfold eqLR; simp [hne]
      go_enter Try.func78, Try.ntmps78
      go_wp2
      go_ret
      exact ⟨by rw [HNo.out]; simp, by (repeat' first | with_reducible exact Below.refl _ _ | with_reducible refine Below.alloc ?_ ?_ _ | with_reducible refine Below.setCell ?_ ?_ _ | with_reducible refine Below.drew ?_ | with_reducible refine Below.drewN' ?_ _ | with_reducible (refine Below.trans ?_ (Below.mono (by assumption) ?_)) | exact Nat.le_refl _ | (simp; done) | (simp; omega) | omega)⟩
  · have hx' : (x == x') = false := by simpa using hx
    have HNo : Hid (decide (x = x') = false) := by show _ = _; simp [hx]
    go_enter Try.func78, Try.ntmps78
    go_wp2
    go_ret
    exact ⟨by rw [HNo.out]; rfl, by (repeat' first | with_reducible exact Below.refl _ _ | with_reducible refine Below.alloc ?_ ?_ _ | with_reducible refine Below.setCell ?_ ?_ _ | with_reducible refine Below.drew ?_ | with_reducible refine Below.drewN' ?_ _ | with_reducible (refine Below.trans ?_ (Below.mono (by assumption) ?_)) | exact Nat.le_refl _ | (simp; done) | (simp; omega) | omega)⟩

set_option maxHeartbeats 1000000 in
theorem sameRow_any (d c d' c' : Int) (A A' : Option Addr) (n n' q q' : Nat) (z z' : Nat → Int) (w : World) (ha : Rd w A n (fun j => .int .i64 (z j))) (hb : Rd w A' n' (fun j => .int .i64 (z' j))) (hn : n ≤ 1048576) (hn' : n' ≤ 1048576) :
    Calls Try.prog 116 #[.agg #[.int .i64 d, .int .i64 c, .slice A n q], .agg #[.int .i64 d', .int .i64 c', .slice A' n' q']] w (SameP w (decide (d = d') && decide (c = c') && eqL n z n' z')) := by
  have hw0 : Below w.heap.size w ((w.alloc (.cells #[.int .i64 d, .int .i64 c, .slice A n q] 108)).alloc (.cells #[.int .i64 d', .int .i64 c', .slice A' n' q'] 108)) := by (repeat' first | with_reducible exact Below.refl _ _ | with_reducible refine Below.alloc ?_ ?_ _ | with_reducible refine Below.setCell ?_ ?_ _ | with_reducible refine Below.drew ?_ | with_reducible refine Below.drewN' ?_ _ | with_reducible (refine Below.trans ?_ (Below.mono (by assumption) ?_)) | exact Nat.le_refl _ | (simp; done) | (simp; omega) | omega)
  have HA := Lib.hid (ha.below hw0)
  have HB := Lib.hid (hb.below hw0)
  have HW := Lib.hid hw0
  clear ha hb hw0
  by_cases e0 : d = d'
  · subst e0
    by_cases e1 : c = c'
    · subst e1
      go_enter Try.func116, Try.ntmps116
      go_wp2_with ((go_at_call 117; refine (eqIG_any A A' n n' q q' z z' _ HA.out HB.out hn hn').mono ?_; rintro e w' ⟨rfl, k, rfl⟩))
      go_ret
      exact ⟨by simp, Below.drewN' HW.out k⟩
    · have h1 : (c == c') = false := by simpa using e1
      have h2 : (c != c') = true := by simpa using e1
      have HN := Lib.hid (decide_eq_false e1)
      clear e1
      go_enter Try.func116, Try.ntmps116
      go_wp2
      go_ret
      exact ⟨by rw [HN.out]; simp, HW.out⟩
  · have h1 : (d == d') = false := by simpa using e0
    have h2 : (d != d') = true := by simpa using e0
    have HN := Lib.hid (decide_eq_false e0)
    clear e0
    go_enter Try.func116, Try.ntmps116
    go_wp2
    go_ret
    exact ⟨by rw [HN.out]; simp, HW.out⟩
set_option maxHeartbeats 2000000 in
theorem eqFuncRows_any (A A' : Option Addr) (n n' q q' : Nat) (d c d' c' : Nat → Int) (As As' : Nat → Option Addr) (ns cs ns' cs' : Nat → Nat) (z z' : Nat → Nat → Int) (w : World) (ha : RdRows A n d c As ns cs z w) (hb : RdRows A' n' d' c' As' ns' cs' z' w) (hn : n ≤ 1048576) (hn' : n' ≤ 1048576) (hns : ∀ j, j < n → ns j ≤ 1048576) (hns' : ∀ j, j < n' → ns' j ≤ 1048576) :
    Calls Try.prog 115 #[.slice A n q, .slice A' n' q', .func (.func 116) #[] #[]] w (SameP w (eqLR n d c ns z n' d' c' ns' z')) := by
  by_cases hne : n = n'
  · subst hne
    have LA := Lib.hid (rdRows_obj A n d c As ns cs z)
    have LB := Lib.hid (rdRows_obj A' n d' c' As' ns' cs' z')
    have HA := Lib.hid ha
    have HB := Lib.hid hb
    have HNS := Lib.hid hns
    have HNS' := Lib.hid hns'
    clear ha hb hns hns'
    go_enter Try.func115, Try.ntmps115
    go_wp2_with fail
    go_loopw [17] (fun i wr => ∃ j : Nat, j ≤ n ∧ i = .int .i64 j ∧ Hid (eqPR d c ns z d' c' ns' z' j = true) ∧ Below w.heap.size w wr) (fun i _ => n - (intOf i).toNat)
    case atStart => exact ⟨0, Nat.zero_le _, rfl, rfl, Below.refl _ _⟩
    case round =>
      obtain ⟨j, hj, rfl, HJ, hbl⟩ := hrel
      have HBL := Lib.hid hbl
      by_cases hlt : j < n
      · obtain ⟨g, o, rfl, hg, h0, h1, h2⟩ := (LA.out.below HA.out hbl).row hlt
        obtain ⟨g', o', rfl, hg', h0', h1', h2'⟩ := (LB.out.below HB.out hbl).row hlt
        obtain ⟨u0, hu0⟩ : ∃ u, u = d j := ⟨_, rfl⟩
        obtain ⟨u1, hu1⟩ : ∃ u, u = c j := ⟨_, rfl⟩
        obtain ⟨v0, hv0⟩ : ∃ u, u = d' j := ⟨_, rfl⟩
        obtain ⟨v1, hv1⟩ : ∃ u, u = c' j := ⟨_, rfl⟩
        simp only [← hu0] at h0
        simp only [← hu1] at h1
        simp only [← hv0] at h0'
        simp only [← hv1] at h1'
        have hw2 : Below wr.heap.size wr ((wr.alloc (.cells #[.int .i64 u0, .int .i64 u1, .slice (As j) (ns j) (cs j)] 108)).alloc (.cells #[.int .i64 v0, .int .i64 v1, .slice (As' j) (ns' j) (cs' j)] 108)) := by (repeat' first | with_reducible exact Below.refl _ _ | with_reducible refine Below.alloc ?_ ?_ _ | with_reducible refine Below.setCell ?_ ?_ _ | with_reducible refine Below.drew ?_ | with_reducible refine Below.drewN' ?_ _ | with_reducible (refine Below.trans ?_ (Below.mono (by assumption) ?_)) | exact Nat.le_refl _ | (simp; done) | (simp; omega) | omega)
        have HRk := Lib.hid (((LA.out.below HA.out hbl).2 j hlt).below hw2)
        have HRk' := Lib.hid (((LB.out.below HB.out hbl).2 j hlt).below hw2)
        have HW2 := Lib.hid (HBL.out.trans (hw2.mono HBL.out.size))
        have hm := HNS.out j hlt
        have hm' := HNS'.out j hlt
        have k0 : (wr.alloc (.cells #[.int .i64 u0, .int .i64 u1, .slice (As j) (ns j) (cs j)] 108)).cell? ⟨g', o' + j * 3, none⟩ = some (.int .i64 v0) := (World.cell?_alloc_lt wr _ ⟨g', o' + j * 3, none⟩ hg').trans h0'
        have k1 : (wr.alloc (.cells #[.int .i64 u0, .int .i64 u1, .slice (As j) (ns j) (cs j)] 108)).cell? ⟨g', o' + j * 3 + 1, none⟩ = some (.int .i64 v1) := (World.cell?_alloc_lt wr _ ⟨g', o' + j * 3 + 1, none⟩ hg').trans h1'
        have k2 : (wr.alloc (.cells #[.int .i64 u0, .int .i64 u1, .slice (As j) (ns j) (cs j)] 108)).cell? ⟨g', o' + j * 3 + 2, none⟩ = some (.slice (As' j) (ns' j) (cs' j)) := (World.cell?_alloc_lt wr _ ⟨g', o' + j * 3 + 2, none⟩ hg').trans h2'
        have HE : Hid (rowE d c ns z d' c' ns' z' j = (decide (u0 = v0) && decide (u1 = v1) && eqL (ns j) (z j) (ns' j) (z' j))) := by show _ = _; unfold rowE; rw [hu0, hu1, hv0, hv1]
        clear hbl hw2 hu0 hu1 hv0 hv1
        cases hq : (decide (u0 = v0) && decide (u1 = v1) && eqL (ns j) (z j) (ns' j) (z' j))
        · have HNo : Hid (eqLR n d c ns z n d' c' ns' z' = false) := eqLR_no hlt (HE.out.trans hq)
          have HQ := Lib.hid hq
          clear hq
          go_wp2_with ((go_at_call 116; refine (sameRow_any u0 u1 v0 v1 (As j) (As' j) (ns j) (ns' j) (cs j) (cs' j) (z j) (z' j) _ HRk.out HRk'.out hm hm').mono ?_; rintro e w3 ⟨rfl, hb3⟩; rw [HQ.out]; have HB3 := Lib.hid (HW2.out.trans (hb3.mono HW2.out.size)); clear hb3))
          go_ret
          exact ⟨by rw [HNo.out]; rfl, HB3.out⟩
        · have HN : Hid (eqPR d c ns z d' c' ns' z' (j + 1) = true) := by
            show _ = _
            simp only [eqPR]; rw [HJ.out, HE.out, hq]; rfl
          have HQ := Lib.hid hq
          clear hq
          go_wp2_with ((go_at_call 116; refine (sameRow_any u0 u1 v0 v1 (As j) (As' j) (ns j) (ns' j) (cs j) (cs' j) (z j) (z' j) _ HRk.out HRk'.out hm hm').mono ?_; rintro e w3 ⟨rfl, hb3⟩; rw [HQ.out]; have HB3 := Lib.hid (HW2.out.trans (hb3.mono HW2.out.size)); clear hb3))
          go_roundw
          case rel => exact ⟨j + 1, by omega, by go_num, HN.out, HB3.out⟩
          case measure => simp [intOf] <;> omega
      · obtain rfl : j = n := by omega
        clear hbl
        go_wp2
        go_ret
        exact ⟨by unfold eqLR; rw [HJ.out]; simp, HBL.out⟩
  · have hne' : ((n : Int) == (n' : Int)) = false := by simp; omega
    have HNo : Hid (eqLR n d c ns z n' d' c' ns' z' = false) := by show _ = _; unfold eqLR; simp [hne]
    go_enter Try.func115, Try.ntmps115
    go_wp2
    go_ret
    exact ⟨by rw [HNo.out]; rfl, Below.refl _ _⟩

set_option maxHeartbeats 4000000 in
theorem implSameChart_any (x x' : Int) (A A' : Option Addr) (n n' q q' : Nat) (d c d' c' : Nat → Int) (As As' : Nat → Option Addr) (ns cs ns' cs' : Nat → Nat) (z z' : Nat → Nat → Int) (w : World) (ha : RdRows A n d c As ns cs z w) (hb : RdRows A' n' d' c' As' ns' cs' z' w) (hn : n ≤ 1048576) (hn' : n' ≤ 1048576) (hns : ∀ j, j < n → ns j ≤ 1048576) (hns' : ∀ j, j < n' → ns' j ≤ 1048576) :
    Calls Try.prog 84 #[.agg #[.int .i64 x, .slice A n q], .agg #[.int .i64 x', .slice A' n' q']] w (SameP w (decide (x = x') && eqLR n d c ns z n' d' c' ns' z')) := by
  have hw0 : Below w.heap.size w ((w.alloc (.cells #[.int .i64 x, .slice A n q] 92)).alloc (.cells #[.int .i64 x', .slice A' n' q'] 92)) := by (repeat' first | with_reducible exact Below.refl _ _ | with_reducible refine Below.alloc ?_ ?_ _ | with_reducible refine Below.setCell ?_ ?_ _ | with_reducible refine Below.drew ?_ | with_reducible refine Below.drewN' ?_ _ | with_reducible (refine Below.trans ?_ (Below.mono (by assumption) ?_)) | exact Nat.le_refl _ | (simp; done) | (simp; omega) | omega)
  have LA := Lib.hid (rdRows_obj A n d c As ns cs z)
  have LB := Lib.hid (rdRows_obj A' n' d' c' As' ns' cs' z')
  have HA := Lib.hid (LA.out.below ha hw0)
  have HB := Lib.hid (LB.out.below hb hw0)
  have HW := Lib.hid hw0
  have HNS := Lib.hid hns
  have HNS' := Lib.hid hns'
  clear ha hb hw0 hns hns'
  by_cases hx : x = x'
  · subst hx
    go_enter Try.func84, Try.ntmps84
    go_wp2_with ((go_at_call 115; refine (eqFuncRows_any A A' n n' q q' d c d' c' As As' ns cs ns' cs' z z' _ HA.out HB.out hn hn' HNS.out HNS'.out).mono ?_; rintro e w2 ⟨rfl, hb2⟩; have HB2 := Lib.hid (HW.out.trans (hb2.mono HW.out.size)); clear hb2))
    go_ret
    exact ⟨by simp, HB2.out⟩
  · have hx' : (x == x') = false := by simpa using hx
    have hx2 : (x != x') = true := by simpa using hx
    have HNo : Hid (decide (x = x') = false) := by show _ = _; simp [hx]
    clear hx
    go_enter Try.func84, Try.ntmps84
    go_wp2
    go_ret
    exact ⟨by rw [HNo.out]; rfl, HW.out⟩

set_option maxHeartbeats 1000000 in
theorem specSameBraid_any (s s' : Int) (A A' : Option Addr) (n n' q q' : Nat) (z z' : Nat → Int) (w : World) (ha : Rd w A n (fun j => .int .i64 (z j))) (hb : Rd w A' n' (fun j => .int .i64 (z' j))) (hn : n ≤ 1048576) (hn' : n' ≤ 1048576) :
    Calls Try.prog 81 #[.agg #[.int .i64 s, .slice A n q], .agg #[.int .i64 s', .slice A' n' q']] w (SameP w (decide (s = s') && eqL n z n' z')) := by
  have hw0 : Below w.heap.size w ((w.alloc (.cells #[.int .i64 s, .slice A n q] 39)).alloc (.cells #[.int .i64 s', .slice A' n' q'] 39)) := by (repeat' first | with_reducible exact Below.refl _ _ | with_reducible refine Below.alloc ?_ ?_ _ | with_reducible refine Below.setCell ?_ ?_ _ | with_reducible refine Below.drew ?_ | with_reducible refine Below.drewN' ?_ _ | with_reducible (refine Below.trans ?_ (Below.mono (by assumption) ?_)) | exact Nat.le_refl _ | (simp; done) | (simp; omega) | omega)
  have HA := Lib.hid (ha.below hw0)
  have HB := Lib.hid (hb.below hw0)
  have HW := Lib.hid hw0
  clear ha hb hw0
  by_cases e0 : s = s'
  · subst e0
    go_enter Try.func81, Try.ntmps81
    go_wp2_with ((go_at_call 112; refine (eqIS_any A A' n n' q q' z z' _ HA.out HB.out hn hn').mono ?_; rintro e w' ⟨rfl, k, rfl⟩))
    go_ret
    exact ⟨by simp, Below.drewN' HW.out k⟩
  · have h1 : (s == s') = false := by simpa using e0
    have h2 : (s != s') = true := by simpa using e0
    have HN := Lib.hid (decide_eq_false e0)
    clear e0
    go_enter Try.func81, Try.ntmps81
    go_wp2
    go_ret
    exact ⟨by rw [HN.out]; simp, HW.out⟩

set_option maxHeartbeats 1000000 in
theorem implSameBraid_any (s s' : Int) (A A' : Option Addr) (n n' q q' : Nat) (z z' : Nat → Int) (w : World) (ha : Rd w A n (fun j => .int .i64 (z j))) (hb : Rd w A' n' (fun j => .int .i64 (z' j))) (hn : n ≤ 1048576) (hn' : n' ≤ 1048576) :
    Calls Try.prog 87 #[.agg #[.int .i64 s, .slice A n q], .agg #[.int .i64 s', .slice A' n' q']] w (SameP w (decide (s = s') && eqL n z n' z')) := by
  have hw0 : Below w.heap.size w ((w.alloc (.cells #[.int .i64 s, .slice A n q] 39)).alloc (.cells #[.int .i64 s', .slice A' n' q'] 39)) := by (repeat' first | with_reducible exact Below.refl _ _ | with_reducible refine Below.alloc ?_ ?_ _ | with_reducible refine Below.setCell ?_ ?_ _ | with_reducible refine Below.drew ?_ | with_reducible refine Below.drewN' ?_ _ | with_reducible (refine Below.trans ?_ (Below.mono (by assumption) ?_)) | exact Nat.le_refl _ | (simp; done) | (simp; omega) | omega)
  have HA := Lib.hid (ha.below hw0)
  have HB := Lib.hid (hb.below hw0)
  have HW := Lib.hid hw0
  clear ha hb hw0
  by_cases e0 : s = s'
  · subst e0
    go_enter Try.func87, Try.ntmps87
    go_wp2_with ((go_at_call 117; refine (eqIG_any A A' n n' q q' z z' _ HA.out HB.out hn hn').mono ?_; rintro e w' ⟨rfl, k, rfl⟩))
    go_ret
    exact ⟨by simp, Below.drewN' HW.out k⟩
  · have h1 : (s == s') = false := by simpa using e0
    have h2 : (s != s') = true := by simpa using e0
    have HN := Lib.hid (decide_eq_false e0)
    clear e0
    go_enter Try.func87, Try.ntmps87
    go_wp2
    go_ret
    exact ⟨by rw [HN.out]; simp, HW.out⟩
end Go.Proofs.Ytjegoffdkmbibaa
