/-
  DERIVED. GIVEN WITH THE SEED: THE CARDS: each row of YtlngbjphagnloaaGreatDoorRows.lean that lists a variable, with what it lists TIED to the program's text (the seventh form; the later family's looks); each row that meets fmt, with fmt's text TOLD by the authors' own Lean function (tested against real Go, not proved from fmt's source: count such statements apart). THE CARD IS WHAT COUNTS. Prove the row's statement (the work); the ties are given (YtlngbjphagnloaaGreatDoorTie.lean); close each card by the builder's one call (the guide's Derived/Test/ToyasCard.lean, 'card_holds'). Laid BY PROGRAM, IN A SANDBOX (cutbox-door.mjs). By AI agents, Wed Nov 11 2026. No macro, syntax, notation, axiom, sorry.
-/
import Derived.Test.YtlngbjphagnloaaGreatDoorRows
import GoSem.ClaimSeven
namespace Go.Proofs.YtlngbjphagnloaaGreatDoor
namespace Rows

/-- THE TIED CARD OF 'nacellelaw08.ParseAppends'. -/
def parseAppendsCard : Claim7 := { stood := { row := parseAppendsRow, standIns := [], harness := (true, "16cee5fd1398b4c95b0f35bd4e036a16cea7ec462c9cfdcdad6a5e96a7ba35a6"), looks := true }, kinds := [], alts := [], laidByText := true, laidKinds := [.data, .data, .data, .sentinel, .sentinel, .listed, .data], laidTests := true, laidLooks := .later }
def ParseAppendsCardSaid : Prop := Claim7.holds Tryz.pinned (.plain (OpenSpec.ofChange parseAppendsSpec)) parseAppendsCard

/-- THE TIED CARD OF 'nacellelaw08.ParseCounts'. -/
def parseCountsCard : Claim7 := { stood := { row := parseCountsRow, standIns := [], harness := (true, "16cee5fd1398b4c95b0f35bd4e036a16cea7ec462c9cfdcdad6a5e96a7ba35a6"), looks := true }, kinds := [], alts := [], laidByText := true, laidKinds := [.data, .data, .data, .sentinel, .sentinel, .listed, .data], laidTests := true, laidLooks := .later }
def ParseCountsCardSaid : Prop := Claim7.holds Tryz.pinned (.plain (OpenSpec.ofChange parseCountsSpec)) parseCountsCard

/-- THE TIED CARD OF 'nacellelaw08.ParseWords'. -/
def parseWordsCard : Claim7 := { stood := { row := parseWordsRow, standIns := [], harness := (true, "16cee5fd1398b4c95b0f35bd4e036a16cea7ec462c9cfdcdad6a5e96a7ba35a6"), looks := true }, kinds := [], alts := [], laidByText := true, laidKinds := [.data, .data, .data, .sentinel, .sentinel, .listed, .data], laidTests := true, laidLooks := .later }
def ParseWordsCardSaid : Prop := Claim7.holds Tryz.pinned (.plain (OpenSpec.ofChange parseWordsSpec)) parseWordsCard

/-- THE TIED CARD OF 'nacellelaw08.ParseCodes'. -/
def parseCodesCard : Claim7 := { stood := { row := parseCodesRow, standIns := [], harness := (true, "16cee5fd1398b4c95b0f35bd4e036a16cea7ec462c9cfdcdad6a5e96a7ba35a6"), looks := true }, kinds := [], alts := [], laidByText := true, laidKinds := [.data, .data, .data, .sentinel, .sentinel, .listed, .data], laidTests := true, laidLooks := .later }
def ParseCodesCardSaid : Prop := Claim7.holds Tryz.pinned (.plain (OpenSpec.ofChange parseCodesSpec)) parseCodesCard

/-- THE TIED CARD OF 'nacellelaw08.ParseCode'. -/
def parseCodeCard : Claim7 := { stood := { row := parseCodeRow, standIns := [], harness := (true, "16cee5fd1398b4c95b0f35bd4e036a16cea7ec462c9cfdcdad6a5e96a7ba35a6"), looks := true }, kinds := [], alts := [], laidByText := true, laidKinds := [.data, .data, .data, .sentinel, .sentinel, .listed, .data], laidTests := true, laidLooks := .later }
def ParseCodeCardSaid : Prop := Claim7.holds Tryz.pinned (.plain (OpenSpec.ofChange parseCodeSpec)) parseCodeCard

/-- THE TIED CARD OF 'nacellelaw08.ParseSmall'. -/
def parseSmallCard : Claim7 := { stood := { row := parseSmallRow, standIns := [], harness := (true, "16cee5fd1398b4c95b0f35bd4e036a16cea7ec462c9cfdcdad6a5e96a7ba35a6"), looks := true }, kinds := [], alts := [], laidByText := true, laidKinds := [.data, .data, .data, .sentinel, .sentinel, .listed, .data], laidTests := true, laidLooks := .later }
def ParseSmallCardSaid : Prop := Claim7.holds Tryz.pinned (.plain (OpenSpec.ofChange parseSmallSpec)) parseSmallCard

/-- THE TIED CARD OF 'nacellelaw08.ParseTokens'. -/
def parseTokensCard : Claim7 := { stood := { row := parseTokensRow, standIns := [], harness := (true, "16cee5fd1398b4c95b0f35bd4e036a16cea7ec462c9cfdcdad6a5e96a7ba35a6"), looks := true }, kinds := [], alts := [], laidByText := true, laidKinds := [.data, .data, .data, .sentinel, .sentinel, .listed, .data], laidTests := true, laidLooks := .later }
def ParseTokensCardSaid : Prop := Claim7.holds Tryz.pinned (.plain (OpenSpec.ofChange parseTokensSpec)) parseTokensCard

/-- THE SECOND FORM's CARD OF 'nacellelaw08.ParseAppends'. -/
def parseAppendsUptoCard : Claim7 := { stood := { row := parseAppendsUptoRow, standIns := [], harness := (true, "16cee5fd1398b4c95b0f35bd4e036a16cea7ec462c9cfdcdad6a5e96a7ba35a6"), looks := true }, kinds := [], alts := [], laidByText := true, laidKinds := [.data, .data, .data, .sentinel, .sentinel, .listed, .data], laidTests := true, laidLooks := .later }
def ParseAppendsUptoCardSaid : Prop := Claim7.holds Tryz.pinned (.plain (OpenSpec.upto parseAppendsSpec)) parseAppendsUptoCard

/-- THE SECOND FORM's CARD OF 'nacellelaw08.ParseCounts'. -/
def parseCountsUptoCard : Claim7 := { stood := { row := parseCountsUptoRow, standIns := [], harness := (true, "16cee5fd1398b4c95b0f35bd4e036a16cea7ec462c9cfdcdad6a5e96a7ba35a6"), looks := true }, kinds := [], alts := [], laidByText := true, laidKinds := [.data, .data, .data, .sentinel, .sentinel, .listed, .data], laidTests := true, laidLooks := .later }
def ParseCountsUptoCardSaid : Prop := Claim7.holds Tryz.pinned (.plain (OpenSpec.upto parseCountsSpec)) parseCountsUptoCard

/-- THE SECOND FORM's CARD OF 'nacellelaw08.ParseWords'. -/
def parseWordsUptoCard : Claim7 := { stood := { row := parseWordsUptoRow, standIns := [], harness := (true, "16cee5fd1398b4c95b0f35bd4e036a16cea7ec462c9cfdcdad6a5e96a7ba35a6"), looks := true }, kinds := [], alts := [], laidByText := true, laidKinds := [.data, .data, .data, .sentinel, .sentinel, .listed, .data], laidTests := true, laidLooks := .later }
def ParseWordsUptoCardSaid : Prop := Claim7.holds Tryz.pinned (.plain (OpenSpec.upto parseWordsSpec)) parseWordsUptoCard

/-- THE SECOND FORM's CARD OF 'nacellelaw08.ParseCodes'. -/
def parseCodesUptoCard : Claim7 := { stood := { row := parseCodesUptoRow, standIns := [], harness := (true, "16cee5fd1398b4c95b0f35bd4e036a16cea7ec462c9cfdcdad6a5e96a7ba35a6"), looks := true }, kinds := [], alts := [], laidByText := true, laidKinds := [.data, .data, .data, .sentinel, .sentinel, .listed, .data], laidTests := true, laidLooks := .later }
def ParseCodesUptoCardSaid : Prop := Claim7.holds Tryz.pinned (.plain (OpenSpec.upto parseCodesSpec)) parseCodesUptoCard

/-- THE SECOND FORM's CARD OF 'nacellelaw08.ParseCode'. -/
def parseCodeUptoCard : Claim7 := { stood := { row := parseCodeUptoRow, standIns := [], harness := (true, "16cee5fd1398b4c95b0f35bd4e036a16cea7ec462c9cfdcdad6a5e96a7ba35a6"), looks := true }, kinds := [], alts := [], laidByText := true, laidKinds := [.data, .data, .data, .sentinel, .sentinel, .listed, .data], laidTests := true, laidLooks := .later }
def ParseCodeUptoCardSaid : Prop := Claim7.holds Tryz.pinned (.plain (OpenSpec.upto parseCodeSpec)) parseCodeUptoCard

/-- THE SECOND FORM's CARD OF 'nacellelaw08.ParseSmall'. -/
def parseSmallUptoCard : Claim7 := { stood := { row := parseSmallUptoRow, standIns := [], harness := (true, "16cee5fd1398b4c95b0f35bd4e036a16cea7ec462c9cfdcdad6a5e96a7ba35a6"), looks := true }, kinds := [], alts := [], laidByText := true, laidKinds := [.data, .data, .data, .sentinel, .sentinel, .listed, .data], laidTests := true, laidLooks := .later }
def ParseSmallUptoCardSaid : Prop := Claim7.holds Tryz.pinned (.plain (OpenSpec.upto parseSmallSpec)) parseSmallUptoCard

/-- THE SECOND FORM's CARD OF 'nacellelaw08.ParseTokens'. -/
def parseTokensUptoCard : Claim7 := { stood := { row := parseTokensUptoRow, standIns := [], harness := (true, "16cee5fd1398b4c95b0f35bd4e036a16cea7ec462c9cfdcdad6a5e96a7ba35a6"), looks := true }, kinds := [], alts := [], laidByText := true, laidKinds := [.data, .data, .data, .sentinel, .sentinel, .listed, .data], laidTests := true, laidLooks := .later }
def ParseTokensUptoCardSaid : Prop := Claim7.holds Tryz.pinned (.plain (OpenSpec.upto parseTokensSpec)) parseTokensUptoCard
end Rows
end Go.Proofs.YtlngbjphagnloaaGreatDoor
