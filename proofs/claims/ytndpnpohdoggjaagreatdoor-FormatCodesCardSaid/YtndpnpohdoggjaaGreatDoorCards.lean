/-
  DERIVED. GIVEN WITH THE SEED: THE CARDS: each row of YtndpnpohdoggjaaGreatDoorRows.lean that lists a variable, with what it lists TIED to the program's text (the seventh form; the later family's looks); each row that meets fmt, with fmt's text TOLD by the authors' own Lean function (tested against real Go, not proved from fmt's source: count such statements apart). THE CARD IS WHAT COUNTS. Prove the row's statement (the work); the ties are given (YtndpnpohdoggjaaGreatDoorTie.lean); close each card by the builder's one call (the guide's Derived/Test/ToyasCard.lean, 'card_holds'). Laid BY PROGRAM, IN A SANDBOX (cutbox-door.mjs). By AI agents, Wed Nov 11 2026. No macro, syntax, notation, axiom, sorry.
-/
import Derived.Test.YtndpnpohdoggjaaGreatDoorRows
import GoSem.ClaimSeven
namespace Go.Proofs.YtndpnpohdoggjaaGreatDoor
namespace Rows

/-- THE TIED CARD OF 'nacellelaw09.FormatCodes'. -/
def formatCodesCard : Claim7 := { stood := { row := formatCodesRow, standIns := [], harness := (true, "b43a19a133d2c17af2b2a5c8aa100259ce8e3a7556ff5fe11a8727bdb0784d85"), looks := true }, kinds := [], alts := [], laidByText := true, laidKinds := [.data, .data, .data, .sentinel, .sentinel, .listed, .data], laidTests := true, laidLooks := .later }
def FormatCodesCardSaid : Prop := Claim7.holds Tryz.pinned (.plain (OpenSpec.ofChange formatCodesSpec)) formatCodesCard

/-- THE SECOND FORM's CARD OF 'nacellelaw09.FormatCodes'. -/
def formatCodesUptoCard : Claim7 := { stood := { row := formatCodesUptoRow, standIns := [], harness := (true, "b43a19a133d2c17af2b2a5c8aa100259ce8e3a7556ff5fe11a8727bdb0784d85"), looks := true }, kinds := [], alts := [], laidByText := true, laidKinds := [.data, .data, .data, .sentinel, .sentinel, .listed, .data], laidTests := true, laidLooks := .later }
def FormatCodesUptoCardSaid : Prop := Claim7.holds Tryz.pinned (.plain (OpenSpec.upto formatCodesSpec)) formatCodesUptoCard
end Rows
end Go.Proofs.YtndpnpohdoggjaaGreatDoor
