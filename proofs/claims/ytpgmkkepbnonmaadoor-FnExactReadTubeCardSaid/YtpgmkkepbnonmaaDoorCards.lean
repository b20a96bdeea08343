/-
  DERIVED. GIVEN WITH THE SEED: THE CARDS: each row of YtpgmkkepbnonmaaDoorRows.lean that lists a variable, with what it lists TIED to the program's text (the seventh form; the later family's looks); each row that meets fmt, with fmt's text TOLD by the authors' own Lean function (tested against real Go, not proved from fmt's source: count such statements apart). THE CARD IS WHAT COUNTS. Prove the row's statement (the work); the ties are given (YtpgmkkepbnonmaaDoorTie.lean); close each card by the builder's one call (the guide's Derived/Test/ToyasCard.lean, 'card_holds'). Laid BY PROGRAM, IN A SANDBOX (cutbox-door.mjs). By AI agents, Wed Nov 11 2026. No macro, syntax, notation, axiom, sorry.
-/
import Derived.Test.YtpgmkkepbnonmaaDoorRows
import GoSem.ClaimSeven
namespace Go.Proofs.YtpgmkkepbnonmaaDoor
namespace Rows

/-- THE TIED CARD OF 'laws.FnExactReadFault'. -/
def fnExactReadFaultCard : Claim7 := { stood := { row := fnExactReadFaultRow, standIns := [], harness := (true, "667eb1d0c2d55652ff87ea36f57b9669c7f3125b534a2450bd1d4e7a487a8d15"), looks := true }, kinds := [], alts := [], laidByText := true, laidKinds := [.data, .data, .data, .sentinel, .sentinel], laidTests := true, laidLooks := .later }
def FnExactReadFaultCardSaid : Prop := Claim7.holds Tryd.pinned (.plain (OpenSpec.ofChange fnExactReadFaultSpec)) fnExactReadFaultCard

/-- THE TIED CARD OF 'laws.FnExactReadTube'. -/
def fnExactReadTubeCard : Claim7 := { stood := { row := fnExactReadTubeRow, standIns := [], harness := (true, "667eb1d0c2d55652ff87ea36f57b9669c7f3125b534a2450bd1d4e7a487a8d15"), looks := true }, kinds := [], alts := [], laidByText := true, laidKinds := [.data, .data, .data, .data, .sentinel, .sentinel, .pinned], laidTests := true, laidLooks := .later }
def FnExactReadTubeCardSaid : Prop := Claim7.holds Tryd.pinned (.plain (OpenSpec.ofChange fnExactReadTubeSpec)) fnExactReadTubeCard

/-- THE SECOND FORM's CARD OF 'laws.FnExactReadFault'. -/
def fnExactReadFaultUptoCard : Claim7 := { stood := { row := fnExactReadFaultUptoRow, standIns := [], harness := (true, "667eb1d0c2d55652ff87ea36f57b9669c7f3125b534a2450bd1d4e7a487a8d15"), looks := true }, kinds := [], alts := [], laidByText := true, laidKinds := [.data, .data, .data, .sentinel, .sentinel], laidTests := true, laidLooks := .later }
def FnExactReadFaultUptoCardSaid : Prop := Claim7.holds Tryd.pinned (.plain (OpenSpec.upto fnExactReadFaultSpec)) fnExactReadFaultUptoCard

/-- THE SECOND FORM's CARD OF 'laws.FnExactReadTube'. -/
def fnExactReadTubeUptoCard : Claim7 := { stood := { row := fnExactReadTubeUptoRow, standIns := [], harness := (true, "667eb1d0c2d55652ff87ea36f57b9669c7f3125b534a2450bd1d4e7a487a8d15"), looks := true }, kinds := [], alts := [], laidByText := true, laidKinds := [.data, .data, .data, .data, .sentinel, .sentinel, .pinned], laidTests := true, laidLooks := .later }
def FnExactReadTubeUptoCardSaid : Prop := Claim7.holds Tryd.pinned (.plain (OpenSpec.upto fnExactReadTubeSpec)) fnExactReadTubeUptoCard
end Rows
end Go.Proofs.YtpgmkkepbnonmaaDoor
