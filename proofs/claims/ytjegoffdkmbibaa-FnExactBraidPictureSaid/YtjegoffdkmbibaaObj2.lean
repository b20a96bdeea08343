/- Plain lemmas: what is known of values goes on behind a draw; the bounds of what was made. -/
import Derived.Test.YtjegoffdkmbibaaObjs
namespace Go.Proofs.Ytjegoffdkmbibaa
open Go.RowKit
theorem Loc.drewN {P : World → Prop} {F : Nat → Prop} {w : World} (h : Loc P F) (hp : P w) (n : Nat) : P (w.drewN n) := h.1 w _ hp fun _ _ => rfl
theorem NewO.lo {w w' : World} {R W : World → Prop} {F : Nat → Prop} {k : Nat} (h : NewO w w' R W F) (hk : k ≤ w.heap.size) : ∀ b, F b → k ≤ b := fun b hb => Nat.le_trans hk (h.ab b hb)
theorem NewO.hi {w w' : World} {R W : World → Prop} {F : Nat → Prop} (h : NewO w w' R W F) : ∀ b, F b → b < w'.heap.size := fun b hb => h.or.2 _ b h.r hb
end Go.Proofs.Ytjegoffdkmbibaa
