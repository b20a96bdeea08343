/-
  DERIVED. GIVEN WITH THE SEED: THE CARDS: each row of YtpgmkkepbnonmaaGreatDoorRows.lean that lists a variable, with what it lists TIED to the program's text (the seventh form; the later family's looks); each row that meets fmt, with fmt's text TOLD by the authors' own Lean function (tested against real Go, not proved from fmt's source: count such statements apart). THE CARD IS WHAT COUNTS. Prove the row's statement (the work); the ties are given (YtpgmkkepbnonmaaGreatDoorTie.lean); close each card by the builder's one call (the guide's Derived/Test/ToyasCard.lean, 'card_holds'). Laid BY PROGRAM, IN A SANDBOX (cutbox-door.mjs). By AI agents, Wed Nov 11 2026. No macro, syntax, notation, axiom, sorry.
-/
import Derived.Test.YtpgmkkepbnonmaaGreatDoorRows
import GoSem.ClaimSeven
namespace Go.Proofs.YtpgmkkepbnonmaaGreatDoor
namespace Rows

/-- THE TIED CARD OF 'laws.FnExactStudioText'. -/
def fnExactStudioTextCard : Claim7 := { stood := { row := fnExactStudioTextRow, standIns := [], harness := (true, "236f438e0e9fdd348fc2ee69fee9f43a5839073533f7d7627aa94c1dda4fb615"), looks := false }, kinds := [], alts := [], laidByText := true, laidKinds := [.data, .data, .data], laidTests := true, laidLooks := .later }
def FnExactStudioTextCardSaid : Prop := Claim7.holds Tryz.pinned (.plain (OpenSpec.ofChange fnExactStudioTextSpec)) fnExactStudioTextCard

/-- THE SECOND FORM's CARD OF 'laws.FnExactStudioText'. -/
def fnExactStudioTextUptoCard : Claim7 := { stood := { row := fnExactStudioTextUptoRow, standIns := [], harness := (true, "236f438e0e9fdd348fc2ee69fee9f43a5839073533f7d7627aa94c1dda4fb615"), looks := false }, kinds := [], alts := [], laidByText := true, laidKinds := [.data, .data, .data], laidTests := true, laidLooks := .later }
def FnExactStudioTextUptoCardSaid : Prop := Claim7.holds Tryz.pinned (.plain (OpenSpec.upto fnExactStudioTextSpec)) fnExactStudioTextUptoCard
end Rows
end Go.Proofs.YtpgmkkepbnonmaaGreatDoor
