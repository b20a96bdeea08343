/- Plain law: a text in pieces between blanks: strings.Cut and strings.Split at one blank; the pieces of the reference. -/
import Derived.Test.YtpgmkkepbnonmaaDoorBase
import Derived.Lib.IndexMore
import Derived.Lib.SplitLaws
import Derived.Lib.CountLaws
import Derived.Lib.CutLaws
namespace Go.Proofs.YtpgmkkepbnonmaaDoor
open Go.RowKit

/-- No byte is c. -/
def noB (c : UInt8) (l : List UInt8) : Prop := ∀ x, x ∈ l → x ≠ c
theorem index_one (c : UInt8) (y : List UInt8) : ∀ x : List UInt8, noB c x → Lib.index (x ++ c :: y) [c] = (x.length : Nat) := by
  intro x
  induction x with
  | nil => intro _; simp [Lib.index, List.isPrefixOf]
  | cons a x ih =>
    intro h
    have ha : a ≠ c := h a (List.mem_cons_self ..)
    have hi := ih fun z hz => h z (List.mem_cons_of_mem _ hz)
    have hca : (c == a) = false := by simpa using fun e => ha e.symm
    rw [List.cons_append, Lib.index]
    simp only [List.isPrefixOf, hca, Bool.false_and, if_neg (show ¬ (false = true) by decide), hi]
    rw [if_neg (by simp)]
    simp
theorem index_none (c : UInt8) : ∀ x : List UInt8, noB c x → Lib.index x [c] = -1 := by
  intro x
  induction x with
  | nil => intro _; rfl
  | cons a x ih =>
    intro h
    have ha : a ≠ c := h a (List.mem_cons_self ..)
    have hi := ih fun z hz => h z (List.mem_cons_of_mem _ hz)
    have hca : (c == a) = false := by simpa using fun e => ha e.symm
    rw [Lib.index]
    simp only [List.isPrefixOf, hca, Bool.false_and, if_neg (show ¬ (false = true) by decide), hi]
    rfl
theorem cut_one (c : UInt8) (x y : List UInt8) (h : noB c x) : Lib.cut (x ++ c :: y) [c] = (x, y, true) := by
  unfold Lib.cut
  rw [index_one c y x h, if_pos (by omega)]
  simp
/-- The pieces of a text between the bytes c. -/
def spl (c : UInt8) : List UInt8 → List (List UInt8)
  | [] => [[]]
  | a :: l => if a = c then [] :: spl c l else match spl c l with
    | [] => [[a]]
    | p :: ps => (a :: p) :: ps
theorem spl_none (c : UInt8) : ∀ x : List UInt8, noB c x → spl c x = [x] := by
  intro x
  induction x with
  | nil => intro _; rfl
  | cons a x ih =>
    intro h
    rw [spl, if_neg (h a (List.mem_cons_self ..)), ih fun z hz => h z (List.mem_cons_of_mem _ hz)]
theorem spl_cut (c : UInt8) (y : List UInt8) : ∀ x : List UInt8, noB c x → spl c (x ++ c :: y) = x :: spl c y := by
  intro x
  induction x with
  | nil => intro _; rw [List.nil_append, spl, if_pos rfl]
  | cons a x ih =>
    intro h
    rw [List.cons_append, spl, if_neg (h a (List.mem_cons_self ..)), ih fun z hz => h z (List.mem_cons_of_mem _ hz)]
theorem spl_pos (c : UInt8) : ∀ x : List UInt8, 1 ≤ (spl c x).length := by
  intro x
  induction x with
  | nil => exact Nat.le_refl _
  | cons a x ih =>
    rw [spl]
    split
    · simp
    · split <;> simp
end Go.Proofs.YtpgmkkepbnonmaaDoor
