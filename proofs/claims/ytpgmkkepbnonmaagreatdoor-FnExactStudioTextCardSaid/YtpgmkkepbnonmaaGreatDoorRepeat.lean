/- Walk: bytes.Repeat of one byte, at most 8192 times: a new slice. -/
import Derived.Test.YtpgmkkepbnonmaaGreatDoorObjs
import Derived.Test.YtpgmkkepbnonmaaGreatDoorMul
import Derived.Lib.MakeNoZero
import Derived.Laws.Externs
import Derived.Laws.CopyOwn
import Derived.Deep.RegionLaw
import Derived.Deep.RegionHeld3
import Derived.IntWalk
namespace Go.Proofs.YtpgmkkepbnonmaaGreatDoor
open Go.RowKit
set_option maxRecDepth 20000

theorem splice_get {α : Type} (cur cs : List α) (k j : Nat) (h : k + cs.length ≤ cur.length) : (splice cur k cs)[j]? = if j < k then cur[j]? else if j < k + cs.length then cs[j - k]? else cur[j]? := by
  unfold splice
  by_cases h1 : j < k
  · rw [if_pos h1, List.getElem?_append_left (by simp; omega), List.getElem?_take_of_lt h1]
  · rw [if_neg h1, List.getElem?_append_right (by simp; omega)]
    rw [show (List.take k cur).length = k by simp; omega]
    by_cases h2 : j < k + cs.length
    · rw [if_pos h2, List.getElem?_append_left (by omega)]
    · rw [if_neg h2, List.getElem?_append_right (by omega), List.getElem?_drop]
      congr 1
      omega

theorem bitsMul_one (m : Nat) (hm : m ≤ 8192) (w : World) :
    Calls Tryz.prog 80 #[.int .u64 1, .int .u64 m] w fun e w' => e = .returned (.tuple #[.int .u64 0, .int .u64 m]) ∧ w = w' := by
  refine (bitsMul_any 1 m (by omega) (by omega) w).mono ?_
  rintro e w' ⟨rfl, rfl⟩
  refine ⟨?_, rfl⟩
  rw [Nat.one_mul, Nat.div_eq_of_lt (by omega), Nat.mod_eq_of_lt (by omega)]
  rfl
/-- The first k cells of block G are x. -/
def Filled (w : World) (G m : Nat) (x : Int) (k : Nat) (wr : World) : Prop :=
  ∃ cur : List Value, Hid (wr.heap[G]? = some (.cells cur.toArray 5 (0, 0))) ∧ m ≤ cur.length ∧ (∀ j, j < k → cur[j]? = some (.int .u8 x)) ∧ Below w.heap.size w wr

end Go.Proofs.YtpgmkkepbnonmaaGreatDoor
