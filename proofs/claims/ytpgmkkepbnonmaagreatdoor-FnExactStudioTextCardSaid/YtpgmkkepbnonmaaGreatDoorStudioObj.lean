/- Plain lemmas: a state (rows, operations, strands) as a value in memory; and the counts. -/
import Derived.Test.YtpgmkkepbnonmaaGreatDoorRowsLaw
import Derived.Test.YtpgmkkepbnonmaaGreatDoorOpCopy
import Derived.Test.YtpgmkkepbnonmaaGreatDoorBraidCopy
namespace Go.Proofs.YtpgmkkepbnonmaaGreatDoor
open Go.RowKit

/-- It reads as a state. -/
def RdStudio (A O B : Option Addr) (n m l : Nat) (d c : Nat → Int) (As : Nat → Option Addr) (ns cs : Nat → Nat) (z : Nat → Nat → Int) (o b : Nat → Int) (w : World) : Prop :=
  RdRows A n d c As ns cs z w ∧ Rd w O (m * 8) (fun j => .int .i64 (o j)) ∧ Rd w B l (fun j => .int .i64 (b j))
def FStudio (A O B : Option Addr) (n m l : Nat) (As : Nat → Option Addr) (ns : Nat → Nat) (g : Nat) : Prop :=
  FRows A n As ns g ∨ Fb O (m * 8) g ∨ Fb B l g
theorem rdStudio_obj (A O B : Option Addr) (n m l : Nat) (d c : Nat → Int) (As : Nat → Option Addr) (ns cs : Nat → Nat) (z : Nat → Nat → Int) (o b : Nat → Int) : Loc (RdStudio A O B n m l d c As ns cs z o b) (FStudio A O B n m l As ns) := by
  refine ⟨fun w w' h hF => ⟨(rdRows_obj _ _ _ _ _ _ _ _).1 w w' h.1 fun g hg => hF g (.inl hg), (rd_obj _ _ _).1 w w' h.2.1 fun g hg => hF g (.inr (.inl hg)), (rd_obj _ _ _).1 w w' h.2.2 fun g hg => hF g (.inr (.inr hg))⟩, fun w g h hg => ?_⟩
  rcases hg with hg | hg | hg
  · exact (rdRows_obj _ _ _ _ _ _ _ _).2 w g h.1 hg
  · exact (rd_obj _ _ _).2 w g h.2.1 hg
  · exact (rd_obj _ _ _).2 w g h.2.2 hg
theorem Loc.set {P : World → Prop} {F : Nat → Prop} {w : World} (h : Loc P F) (hp : P w) {p : Addr} (hne : ∀ g, F g → g ≠ p.block) (v : Value) : P (w.setCell p v) :=
  h.1 w _ hp fun g hg => Below.heap_setCell w p v g (hne g hg)
/-- What the count of a state says. -/
def SzStudio (L n m l : Nat) (ns : Nat → Nat) (r : Int) : Prop := r < 0 ∨ (n ≤ L ∧ (∀ j, j < n → ns j ≤ L) ∧ m ≤ L ∧ l ≤ L ∧ r ≤ L)
/-- A copy of a state. -/
def StudioP (w : World) (x s : Int) (n m l : Nat) (d c : Nat → Int) (ns : Nat → Nat) (z : Nat → Nat → Int) (o b : Nat → Int) (e : Ending) (w' : World) : Prop :=
  ∃ A q O p B t As cs, e = .returned (.agg #[.int .i64 x, .slice A n q, .slice O m p, .int .i64 s, .slice B l t]) ∧ NewO w w' (RdStudio A O B n m l d c As ns cs z o b) (RdStudio A O B n m l d c As ns cs z o b) (FStudio A O B n m l As ns)
end Go.Proofs.YtpgmkkepbnonmaaGreatDoor
