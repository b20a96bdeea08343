/- Walks: the operations of a tube's rows, by the reference and by the program: the same numbers. No condition but the bounds. -/
import Derived.Test.YtpmfkpehmckgmaaTubeBase
import Derived.Test.YtpmfkpehmckgmaaAppend
namespace Go.Proofs.Ytpmfkpehmckgmaa
open Go.RowKit

/-- The numbers of a knit. -/
def knitZ (bed at_ dir c : Int) : List Int := [1, dir, bed, at_, 0, 0, c, 0]
/-- Those of k knits. -/
def rowZ (bed at_ : Nat → Int) (dir c : Int) (k : Nat) : List Int := (List.range k).flatMap fun i => knitZ (bed i) (at_ i) dir c
theorem rowZ_next (bed at_ : Nat → Int) (dir c : Int) (k : Nat) : rowZ bed at_ dir c (k + 1) = rowZ bed at_ dir c k ++ knitZ (bed k) (at_ k) dir c := by
  simp [rowZ, List.range_succ]
theorem rowV_next (bed at_ : Nat → Int) (dir c : Int) (k : Nat) : ints (rowZ bed at_ dir c (k + 1)) = ints (rowZ bed at_ dir c k) ++ [.int .i64 1, .int .i64 dir, .int .i64 (bed k), .int .i64 (at_ k), .int .i64 0, .int .i64 0, .int .i64 c, .int .i64 0] := by
  rw [rowZ_next, ints_app]
  rfl
/-- A function that hands back a list of n operations that it owns. -/
def OwnZ (w : World) (n : Nat) (L : List Int) (e : Ending) (w' : World) : Prop := ∃ v, e = .returned v ∧ w'.ownsRow w.heap.size 58 8 v n (ints L) ∧ Below w.heap.size w w'
theorem infoOp : (Try.prog.info? 58).map (fun i => (i.zero, i.size, i.bytes)) = some (some (.agg #[.int .i64 0, .int .i64 0, .int .i64 0, .int .i64 0, .int .i64 0, .int .i64 0, .int .i64 0, .int .i64 0]), 8, 64) := by kernel_rfl

end Go.Proofs.Ytpmfkpehmckgmaa
