/- Plain lemmas: a slice of operations as an argument. -/
import Derived.Test.YtpmfkpehmckgmaaOpenStudio
namespace Go.Proofs.Ytpmfkpehmckgmaa
open Go.ChangeShapes Go.WideShapes Go.ChangeAt Go.RowKit Go.Deep Go.Joins
section
variable {H : Type} {enc : TypeId × Value → H} {P : Program} {W : World} {spare : Nat → Bool} {held : Bool}
theorem open_ops {r : Reach} {b0 : Nat} {t e en : TypeId} {f0 f1 f2 f3 f4 f5 g0 g1 : Field} {v : Value} {d : DataW H} {p : List MemPlace} (ht : P.underlying t = some (.slice e)) (he : P.underlying e = some (.struct #[f0, f1, f2, f3, f4, f5])) (hC : P.cellsOf e = 8)
    (ho : [f0.offset, f1.offset, f2.offset, f3.offset, f4.offset, f5.offset] = [0, 1, 2, 4, 6, 7]) (hk : [P.cellsOf f0.type, P.cellsOf f1.type, P.cellsOf en, P.cellsOf f4.type, P.cellsOf f5.type] = [1, 1, 2, 1, 1])
    (h0 : P.underlying f0.type = some (.int .i64)) (h1 : P.underlying f1.type = some (.int .i64)) (h2 : f2.type = en) (h3 : f3.type = en) (h4 : P.underlying f4.type = some (.int .i64)) (h5 : P.underlying f5.type = some (.int .i64))
    (hn : P.underlying en = some (.struct #[g0, g1])) (hon : oneCellFields P #[g0, g1] = true) (hg0 : P.underlying g0.type = some (.int .i64)) (hg1 : P.underlying g1.type = some (.int .i64))
    (hv : Value.okWide P W r b0 t v) (h : DataW.Trod enc P W 0 spare held t v d p) :
    ∃ (A : Option Addr) (n q : Nat) (z : Nat → Int), v = .slice A n q ∧ Rd W A (n * 8) (fun j => .int .i64 (z j)) ∧ n ≤ maxLen := by
  obtain ⟨a0, len0, cap0, rfl⟩ := okWide_slice ht hv
  obtain ⟨fuel, hf⟩ := h
  exact open_ops_rd ht he hC ho hk h0 h1 h2 h3 h4 h5 hn hon hg0 hg1 (show DataW.trod enc P W 0 spare held fuel t [.slice a0 len0 cap0] = some _ by simpa [Value.cells] using hf)
end
end Go.Proofs.Ytpmfkpehmckgmaa
