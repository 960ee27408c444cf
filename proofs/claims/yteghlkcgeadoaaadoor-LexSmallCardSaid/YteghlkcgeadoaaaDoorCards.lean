/-
  DERIVED. GIVEN WITH THE SEED: THE CARDS: each row of YteghlkcgeadoaaaDoorRows.lean that lists a variable, with what it lists TIED to the program's text (the seventh form; the later family's looks); each row that meets fmt, with fmt's text TOLD by the authors' own Lean function (tested against real Go, not proved from fmt's source: count such statements apart). THE CARD IS WHAT COUNTS. Prove the row's statement (the work); the ties are given (YteghlkcgeadoaaaDoorTie.lean); close each card by the builder's one call (the guide's Derived/Test/ToyasCard.lean, 'card_holds'). Laid BY PROGRAM, IN A SANDBOX (cutbox-door.mjs). By AI agents, Wed Nov 11 2026. No macro, syntax, notation, axiom, sorry.
-/
import Derived.Test.YteghlkcgeadoaaaDoorRows
import GoSem.ClaimSeven
namespace Go.Proofs.YteghlkcgeadoaaaDoor
namespace Rows

/-- THE TIED CARD OF 'nacellelaw07.LexSmall'. -/
def lexSmallCard : Claim7 := { stood := { row := lexSmallRow, standIns := [], harness := (true, "d0d65ab2eb033a14d1342bfab60cb4c3f99cd1d81b58191ad3663d17c8065551"), looks := true }, kinds := [], alts := [], laidByText := true, laidKinds := [.data, .data, .data, .sentinel, .sentinel], laidTests := true, laidLooks := .later }
def LexSmallCardSaid : Prop := Claim7.holds Tryd.pinned (.plain (OpenSpec.ofChange lexSmallSpec)) lexSmallCard

/-- THE SECOND FORM's CARD OF 'nacellelaw07.LexSmall'. -/
def lexSmallUptoCard : Claim7 := { stood := { row := lexSmallUptoRow, standIns := [], harness := (true, "d0d65ab2eb033a14d1342bfab60cb4c3f99cd1d81b58191ad3663d17c8065551"), looks := true }, kinds := [], alts := [], laidByText := true, laidKinds := [.data, .data, .data, .sentinel, .sentinel], laidTests := true, laidLooks := .later }
def LexSmallUptoCardSaid : Prop := Claim7.holds Tryd.pinned (.plain (OpenSpec.upto lexSmallSpec)) lexSmallUptoCard
end Rows
end Go.Proofs.YteghlkcgeadoaaaDoor
