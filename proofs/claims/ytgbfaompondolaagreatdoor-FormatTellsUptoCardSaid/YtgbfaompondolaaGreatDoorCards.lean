/-
  DERIVED. GIVEN WITH THE SEED: THE CARDS: each row of YtgbfaompondolaaGreatDoorRows.lean that lists a variable, with what it lists TIED to the program's text (the seventh form; the later family's looks); each row that meets fmt, with fmt's text TOLD by the authors' own Lean function (tested against real Go, not proved from fmt's source: count such statements apart). THE CARD IS WHAT COUNTS. Prove the row's statement (the work); the ties are given (YtgbfaompondolaaGreatDoorTie.lean); close each card by the builder's one call (the guide's Derived/Test/ToyasCard.lean, 'card_holds'). Laid BY PROGRAM, IN A SANDBOX (cutbox-door.mjs). By AI agents, Wed Nov 11 2026. No macro, syntax, notation, axiom, sorry.
-/
import Derived.Test.YtgbfaompondolaaGreatDoorRows
import GoSem.ClaimSeven
namespace Go.Proofs.YtgbfaompondolaaGreatDoor
namespace Rows

/-- THE TIED CARD OF 'nacellelaw09.FormatTells'. -/
def formatTellsCard : Claim7 := { stood := { row := formatTellsRow, standIns := [], harness := (true, "aa60ec47780bfe154a7fb5303d7ef6d1dbc6c4e3759f7ebfd7da62e08008f6f0"), looks := true }, kinds := [], alts := [], laidByText := true, laidKinds := [.data, .data, .data, .sentinel, .sentinel, .listed, .data], laidTests := true, laidLooks := .later }
def FormatTellsCardSaid : Prop := Claim7.holds Tryz.pinned (.plain (OpenSpec.ofChange formatTellsSpec)) formatTellsCard

/-- THE TIED CARD OF 'nacellelaw09.FormatCode'. -/
def formatCodeCard : Claim7 := { stood := { row := formatCodeRow, standIns := [], harness := (true, "aa60ec47780bfe154a7fb5303d7ef6d1dbc6c4e3759f7ebfd7da62e08008f6f0"), looks := true }, kinds := [], alts := [], laidByText := true, laidKinds := [.data, .data, .data, .sentinel, .sentinel, .listed, .data], laidTests := true, laidLooks := .later }
def FormatCodeCardSaid : Prop := Claim7.holds Tryz.pinned (.plain (OpenSpec.ofChange formatCodeSpec)) formatCodeCard

/-- THE TIED CARD OF 'nacellelaw09.FormatSame'. -/
def formatSameCard : Claim7 := { stood := { row := formatSameRow, standIns := [], harness := (true, "aa60ec47780bfe154a7fb5303d7ef6d1dbc6c4e3759f7ebfd7da62e08008f6f0"), looks := true }, kinds := [], alts := [], laidByText := true, laidKinds := [.data, .data, .data, .sentinel, .sentinel, .listed, .data], laidTests := true, laidLooks := .later }
def FormatSameCardSaid : Prop := Claim7.holds Tryz.pinned (.plain (OpenSpec.ofChange formatSameSpec)) formatSameCard

/-- THE TIED CARD OF 'nacellelaw09.FormatApart'. -/
def formatApartCard : Claim7 := { stood := { row := formatApartRow, standIns := [], harness := (true, "aa60ec47780bfe154a7fb5303d7ef6d1dbc6c4e3759f7ebfd7da62e08008f6f0"), looks := true }, kinds := [], alts := [], laidByText := true, laidKinds := [.data, .data, .data, .sentinel, .sentinel, .listed, .data], laidTests := true, laidLooks := .later }
def FormatApartCardSaid : Prop := Claim7.holds Tryz.pinned (.plain (OpenSpec.ofChange formatApartSpec)) formatApartCard

/-- THE TIED CARD OF 'nacellelaw09.FormatAppends'. -/
def formatAppendsCard : Claim7 := { stood := { row := formatAppendsRow, standIns := [], harness := (true, "aa60ec47780bfe154a7fb5303d7ef6d1dbc6c4e3759f7ebfd7da62e08008f6f0"), looks := true }, kinds := [], alts := [], laidByText := true, laidKinds := [.data, .data, .data, .sentinel, .sentinel, .listed, .data], laidTests := true, laidLooks := .later }
def FormatAppendsCardSaid : Prop := Claim7.holds Tryz.pinned (.plain (OpenSpec.ofChange formatAppendsSpec)) formatAppendsCard

/-- THE SECOND FORM's CARD OF 'nacellelaw09.FormatTells'. -/
def formatTellsUptoCard : Claim7 := { stood := { row := formatTellsUptoRow, standIns := [], harness := (true, "aa60ec47780bfe154a7fb5303d7ef6d1dbc6c4e3759f7ebfd7da62e08008f6f0"), looks := true }, kinds := [], alts := [], laidByText := true, laidKinds := [.data, .data, .data, .sentinel, .sentinel, .listed, .data], laidTests := true, laidLooks := .later }
def FormatTellsUptoCardSaid : Prop := Claim7.holds Tryz.pinned (.plain (OpenSpec.upto formatTellsSpec)) formatTellsUptoCard

/-- THE SECOND FORM's CARD OF 'nacellelaw09.FormatCode'. -/
def formatCodeUptoCard : Claim7 := { stood := { row := formatCodeUptoRow, standIns := [], harness := (true, "aa60ec47780bfe154a7fb5303d7ef6d1dbc6c4e3759f7ebfd7da62e08008f6f0"), looks := true }, kinds := [], alts := [], laidByText := true, laidKinds := [.data, .data, .data, .sentinel, .sentinel, .listed, .data], laidTests := true, laidLooks := .later }
def FormatCodeUptoCardSaid : Prop := Claim7.holds Tryz.pinned (.plain (OpenSpec.upto formatCodeSpec)) formatCodeUptoCard

/-- THE SECOND FORM's CARD OF 'nacellelaw09.FormatSame'. -/
def formatSameUptoCard : Claim7 := { stood := { row := formatSameUptoRow, standIns := [], harness := (true, "aa60ec47780bfe154a7fb5303d7ef6d1dbc6c4e3759f7ebfd7da62e08008f6f0"), looks := true }, kinds := [], alts := [], laidByText := true, laidKinds := [.data, .data, .data, .sentinel, .sentinel, .listed, .data], laidTests := true, laidLooks := .later }
def FormatSameUptoCardSaid : Prop := Claim7.holds Tryz.pinned (.plain (OpenSpec.upto formatSameSpec)) formatSameUptoCard

/-- THE SECOND FORM's CARD OF 'nacellelaw09.FormatApart'. -/
def formatApartUptoCard : Claim7 := { stood := { row := formatApartUptoRow, standIns := [], harness := (true, "aa60ec47780bfe154a7fb5303d7ef6d1dbc6c4e3759f7ebfd7da62e08008f6f0"), looks := true }, kinds := [], alts := [], laidByText := true, laidKinds := [.data, .data, .data, .sentinel, .sentinel, .listed, .data], laidTests := true, laidLooks := .later }
def FormatApartUptoCardSaid : Prop := Claim7.holds Tryz.pinned (.plain (OpenSpec.upto formatApartSpec)) formatApartUptoCard

/-- THE SECOND FORM's CARD OF 'nacellelaw09.FormatAppends'. -/
def formatAppendsUptoCard : Claim7 := { stood := { row := formatAppendsUptoRow, standIns := [], harness := (true, "aa60ec47780bfe154a7fb5303d7ef6d1dbc6c4e3759f7ebfd7da62e08008f6f0"), looks := true }, kinds := [], alts := [], laidByText := true, laidKinds := [.data, .data, .data, .sentinel, .sentinel, .listed, .data], laidTests := true, laidLooks := .later }
def FormatAppendsUptoCardSaid : Prop := Claim7.holds Tryz.pinned (.plain (OpenSpec.upto formatAppendsSpec)) formatAppendsUptoCard
end Rows
end Go.Proofs.YtgbfaompondolaaGreatDoor
