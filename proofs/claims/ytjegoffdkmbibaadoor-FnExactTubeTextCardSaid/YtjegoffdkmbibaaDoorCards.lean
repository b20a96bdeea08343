/-
  DERIVED. GIVEN WITH THE SEED: THE CARDS: each row of YtjegoffdkmbibaaDoorRows.lean that lists a variable, with what it lists TIED to the program's text (the seventh form; the later family's looks); each row that meets fmt, with fmt's text TOLD by the authors' own Lean function (tested against real Go, not proved from fmt's source: count such statements apart). THE CARD IS WHAT COUNTS. Prove the row's statement (the work); the ties are given (YtjegoffdkmbibaaDoorTie.lean); close each card by the builder's one call (the guide's Derived/Test/ToyasCard.lean, 'card_holds'). Laid BY PROGRAM, IN A SANDBOX (cutbox-door.mjs). By AI agents, Wed Nov 11 2026. No macro, syntax, notation, axiom, sorry.
-/
import Derived.Test.YtjegoffdkmbibaaDoorRows
import GoSem.ClaimSeven
namespace Go.Proofs.YtjegoffdkmbibaaDoor
namespace Rows

/-- THE TIED CARD OF 'laws.FnExactTubeText'. -/
def fnExactTubeTextCard : Claim7 := { stood := { row := fnExactTubeTextRow, standIns := [], harness := (true, "31a61f9d46075fa8eee1fc24c4c70365ded9f3f86a6beccd414bac2346f69f3b"), looks := false }, kinds := [], alts := [], laidByText := true, laidKinds := [.data, .data, .data], laidTests := true, laidLooks := .later }
def FnExactTubeTextCardSaid : Prop := Claim7.holds Tryd.pinned (.plain (OpenSpec.ofChange fnExactTubeTextSpec)) fnExactTubeTextCard

/-- THE TIED CARD OF 'laws.FnExactFaultText'. -/
def fnExactFaultTextCard : Claim7 := { stood := { row := fnExactFaultTextRow, standIns := [], harness := (true, "31a61f9d46075fa8eee1fc24c4c70365ded9f3f86a6beccd414bac2346f69f3b"), looks := false }, kinds := [], alts := [], laidByText := true, laidKinds := [.data, .data, .data], laidTests := true, laidLooks := .later }
def FnExactFaultTextCardSaid : Prop := Claim7.holds Tryd.pinned (.plain (OpenSpec.ofChange fnExactFaultTextSpec)) fnExactFaultTextCard

/-- THE TIED CARD OF 'laws.FnExactCostsText'. -/
def fnExactCostsTextCard : Claim7 := { stood := { row := fnExactCostsTextRow, standIns := [], harness := (true, "31a61f9d46075fa8eee1fc24c4c70365ded9f3f86a6beccd414bac2346f69f3b"), looks := false }, kinds := [], alts := [], laidByText := true, laidKinds := [.data, .data, .data], laidTests := true, laidLooks := .later }
def FnExactCostsTextCardSaid : Prop := Claim7.holds Tryd.pinned (.plain (OpenSpec.ofChange fnExactCostsTextSpec)) fnExactCostsTextCard

/-- THE SECOND FORM's CARD OF 'laws.FnExactTubeText'. -/
def fnExactTubeTextUptoCard : Claim7 := { stood := { row := fnExactTubeTextUptoRow, standIns := [], harness := (true, "31a61f9d46075fa8eee1fc24c4c70365ded9f3f86a6beccd414bac2346f69f3b"), looks := false }, kinds := [], alts := [], laidByText := true, laidKinds := [.data, .data, .data], laidTests := true, laidLooks := .later }
def FnExactTubeTextUptoCardSaid : Prop := Claim7.holds Tryd.pinned (.plain (OpenSpec.upto fnExactTubeTextSpec)) fnExactTubeTextUptoCard

/-- THE SECOND FORM's CARD OF 'laws.FnExactFaultText'. -/
def fnExactFaultTextUptoCard : Claim7 := { stood := { row := fnExactFaultTextUptoRow, standIns := [], harness := (true, "31a61f9d46075fa8eee1fc24c4c70365ded9f3f86a6beccd414bac2346f69f3b"), looks := false }, kinds := [], alts := [], laidByText := true, laidKinds := [.data, .data, .data], laidTests := true, laidLooks := .later }
def FnExactFaultTextUptoCardSaid : Prop := Claim7.holds Tryd.pinned (.plain (OpenSpec.upto fnExactFaultTextSpec)) fnExactFaultTextUptoCard

/-- THE SECOND FORM's CARD OF 'laws.FnExactCostsText'. -/
def fnExactCostsTextUptoCard : Claim7 := { stood := { row := fnExactCostsTextUptoRow, standIns := [], harness := (true, "31a61f9d46075fa8eee1fc24c4c70365ded9f3f86a6beccd414bac2346f69f3b"), looks := false }, kinds := [], alts := [], laidByText := true, laidKinds := [.data, .data, .data], laidTests := true, laidLooks := .later }
def FnExactCostsTextUptoCardSaid : Prop := Claim7.holds Tryd.pinned (.plain (OpenSpec.upto fnExactCostsTextSpec)) fnExactCostsTextUptoCard
end Rows
end Go.Proofs.YtjegoffdkmbibaaDoor
