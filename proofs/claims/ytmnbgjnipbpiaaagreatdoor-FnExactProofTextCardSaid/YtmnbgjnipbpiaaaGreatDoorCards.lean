/-
  DERIVED. GIVEN WITH THE SEED: THE CARDS: each row of YtmnbgjnipbpiaaaGreatDoorRows.lean that lists a variable, with what it lists TIED to the program's text (the seventh form; the later family's looks); each row that meets fmt, with fmt's text TOLD by the authors' own Lean function (tested against real Go, not proved from fmt's source: count such statements apart). THE CARD IS WHAT COUNTS. Prove the row's statement (the work); the ties are given (YtmnbgjnipbpiaaaGreatDoorTie.lean); close each card by the builder's one call (the guide's Derived/Test/ToyasCard.lean, 'card_holds'). Laid BY PROGRAM, IN A SANDBOX (cutbox-door.mjs). By AI agents, Wed Nov 11 2026. No macro, syntax, notation, axiom, sorry.
-/
import Derived.Test.YtmnbgjnipbpiaaaGreatDoorRows
import GoSem.ClaimSeven
namespace Go.Proofs.YtmnbgjnipbpiaaaGreatDoor
namespace Rows

/-- THE TIED CARD OF 'laws.FnExactProofText'. -/
def fnExactProofTextCard : Claim7 := { stood := { row := fnExactProofTextRow, standIns := [], harness := (true, "e26d0d70bec2f03f72fa743f61b5176230120a5a22052523d21428f8d6c63e5a"), looks := false }, kinds := [], alts := [], laidByText := true, laidKinds := [.data, .data, .data, .data, .pinned], laidTests := true, laidLooks := .later }
def FnExactProofTextCardSaid : Prop := Claim7.holds Tryz.pinned (.plain (OpenSpec.ofChange fnExactProofTextSpec)) fnExactProofTextCard

/-- THE TIED CARD OF 'laws.FnProofs'. -/
def fnProofsCard : Claim7 := { stood := { row := fnProofsRow, standIns := [], harness := (true, "e26d0d70bec2f03f72fa743f61b5176230120a5a22052523d21428f8d6c63e5a"), looks := false }, kinds := [], alts := [], laidByText := true, laidKinds := [.data, .data, .data, .data, .pinned], laidTests := true, laidLooks := .later }
def FnProofsCardSaid : Prop := Claim7.holds Tryz.pinned (.plain (OpenSpec.ofChange fnProofsSpec)) fnProofsCard

/-- THE SECOND FORM's CARD OF 'laws.FnExactProofText'. -/
def fnExactProofTextUptoCard : Claim7 := { stood := { row := fnExactProofTextUptoRow, standIns := [], harness := (true, "e26d0d70bec2f03f72fa743f61b5176230120a5a22052523d21428f8d6c63e5a"), looks := false }, kinds := [], alts := [], laidByText := true, laidKinds := [.data, .data, .data, .data, .pinned], laidTests := true, laidLooks := .later }
def FnExactProofTextUptoCardSaid : Prop := Claim7.holds Tryz.pinned (.plain (OpenSpec.upto fnExactProofTextSpec)) fnExactProofTextUptoCard

/-- THE SECOND FORM's CARD OF 'laws.FnProofs'. -/
def fnProofsUptoCard : Claim7 := { stood := { row := fnProofsUptoRow, standIns := [], harness := (true, "e26d0d70bec2f03f72fa743f61b5176230120a5a22052523d21428f8d6c63e5a"), looks := false }, kinds := [], alts := [], laidByText := true, laidKinds := [.data, .data, .data, .data, .pinned], laidTests := true, laidLooks := .later }
def FnProofsUptoCardSaid : Prop := Claim7.holds Tryz.pinned (.plain (OpenSpec.upto fnProofsSpec)) fnProofsUptoCard
end Rows
end Go.Proofs.YtmnbgjnipbpiaaaGreatDoor
