/- Walks: equality of charts, braids and states, by the reference and by the program. No condition but the bounds. (Printed by wip/samerowsgen.py.) -/
import Derived.Test.YtacppheedleamaaSame
import Derived.Test.YtacppheedleamaaRowsObj
import Derived.Deep.RegionWith
import Derived.Deep.DrawnRows
import Derived.BigGuardPart
namespace Go.Proofs.Ytacppheedleamaa
open Go.RowKit
set_option maxRecDepth 100000

def rowE (d c : Nat → Int) (ns : Nat → Nat) (z : Nat → Nat → Int) (d' c' : Nat → Int) (ns' : Nat → Nat) (z' : Nat → Nat → Int) (k : Nat) : Bool := decide (d k = d' k) && decide (c k = c' k) && eqL (ns k) (z k) (ns' k) (z' k)
def eqPR (d c : Nat → Int) (ns : Nat → Nat) (z : Nat → Nat → Int) (d' c' : Nat → Int) (ns' : Nat → Nat) (z' : Nat → Nat → Int) : Nat → Bool
  | 0 => true
  | k + 1 => eqPR d c ns z d' c' ns' z' k && rowE d c ns z d' c' ns' z' k
def eqLR (n : Nat) (d c : Nat → Int) (ns : Nat → Nat) (z : Nat → Nat → Int) (n' : Nat) (d' c' : Nat → Int) (ns' : Nat → Nat) (z' : Nat → Nat → Int) : Bool := decide (n = n') && eqPR d c ns z d' c' ns' z' n
section
variable {d c : Nat → Int} {ns : Nat → Nat} {z : Nat → Nat → Int} {d' c' : Nat → Int} {ns' : Nat → Nat} {z' : Nat → Nat → Int}
theorem eqPR_no : ∀ {n j : Nat}, j < n → rowE d c ns z d' c' ns' z' j = false → eqPR d c ns z d' c' ns' z' n = false
  | 0, j, hj, _ => absurd hj (by omega)
  | n + 1, j, hj, h => by
    simp only [eqPR]
    by_cases hjn : j = n
    · subst hjn; simp [h]
    · rw [eqPR_no (show j < n by omega) h]; rfl
theorem eqLR_no {n j : Nat} (hj : j < n) (h : rowE d c ns z d' c' ns' z' j = false) : eqLR n d c ns z n d' c' ns' z' = false := by
  unfold eqLR; rw [eqPR_no hj h]; simp
end
/-- What a comparison leaves. -/
def SameP (w : World) (b : Bool) (e : Ending) (w' : World) : Prop := e = .returned (.bool b) ∧ Below w.heap.size w w'

set_option maxHeartbeats 1000000 in
theorem specSameBraid_any (s s' : Int) (A A' : Option Addr) (n n' q q' : Nat) (z z' : Nat → Int) (w : World) (ha : Rd w A n (fun j => .int .i64 (z j))) (hb : Rd w A' n' (fun j => .int .i64 (z' j))) (hn : n ≤ 1048576) (hn' : n' ≤ 1048576) :
    Calls Try.prog 25 #[.agg #[.int .i64 s, .slice A n q], .agg #[.int .i64 s', .slice A' n' q']] w (SameP w (decide (s = s') && eqL n z n' z')) := by
  have hw0 : Below w.heap.size w ((w.alloc (.cells #[.int .i64 s, .slice A n q] 53)).alloc (.cells #[.int .i64 s', .slice A' n' q'] 53)) := by (repeat' first | with_reducible exact Below.refl _ _ | with_reducible refine Below.alloc ?_ ?_ _ | with_reducible refine Below.setCell ?_ ?_ _ | with_reducible refine Below.drew ?_ | with_reducible refine Below.drewN' ?_ _ | with_reducible (refine Below.trans ?_ (Below.mono (by assumption) ?_)) | exact Nat.le_refl _ | (simp; done) | (simp; omega) | omega)
  have HA := Lib.hid (ha.below hw0)
  have HB := Lib.hid (hb.below hw0)
  have HW := Lib.hid hw0
  clear ha hb hw0
  by_cases e0 : s = s'
  · subst e0
    go_enter Try.func25, Try.ntmps25
    go_wp2_with ((go_at_call 48; refine (eqIS_any A A' n n' q q' z z' _ HA.out HB.out hn hn').mono ?_; rintro e w' ⟨rfl, k, rfl⟩))
    go_ret
    exact ⟨by simp, Below.drewN' HW.out k⟩
  · have h1 : (s == s') = false := by simpa using e0
    have h2 : (s != s') = true := by simpa using e0
    have HN := Lib.hid (decide_eq_false e0)
    clear e0
    go_enter Try.func25, Try.ntmps25
    go_wp2
    go_ret
    exact ⟨by rw [HN.out]; simp, HW.out⟩

end Go.Proofs.Ytacppheedleamaa
