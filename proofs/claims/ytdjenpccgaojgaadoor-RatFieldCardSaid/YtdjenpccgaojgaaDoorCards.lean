/-
  DERIVED. GIVEN WITH THE SEED: THE CARDS: each row of YtdjenpccgaojgaaDoorRows.lean that lists a variable, with what it lists TIED to the program's text (the seventh form; the later family's looks); each row that meets fmt, with fmt's text TOLD by the authors' own Lean function (tested against real Go, not proved from fmt's source: count such statements apart). THE CARD IS WHAT COUNTS. Prove the row's statement (the work); the ties are given (YtdjenpccgaojgaaDoorTie.lean); close each card by the builder's one call (the guide's Derived/Test/ToyasCard.lean, 'card_holds'). Laid BY PROGRAM, IN A SANDBOX (cutbox-door.mjs). By AI agents, Wed Nov 11 2026. No macro, syntax, notation, axiom, sorry.
-/
import Derived.Test.YtdjenpccgaojgaaDoorRows
import GoSem.ClaimSeven
namespace Go.Proofs.YtdjenpccgaojgaaDoor
namespace Rows

/-- THE TIED CARD OF 'nacellelaw01.RatLowest'. -/
def ratLowestCard : Claim7 := { stood := { row := ratLowestRow, standIns := [], harness := (true, "603f250c1fc58ce583828fe6395ebb5eb3caa533a3e5977395f0c43b77f3b62f"), looks := true }, kinds := [], alts := [], laidByText := true, laidKinds := [.data, .data, .data, .sentinel, .sentinel], laidTests := true, laidLooks := .later }
def RatLowestCardSaid : Prop := Claim7.holds Tryd.pinned (.plain (OpenSpec.ofChange ratLowestSpec)) ratLowestCard

/-- THE TIED CARD OF 'nacellelaw01.RatRound'. -/
def ratRoundCard : Claim7 := { stood := { row := ratRoundRow, standIns := [], harness := (true, "603f250c1fc58ce583828fe6395ebb5eb3caa533a3e5977395f0c43b77f3b62f"), looks := true }, kinds := [], alts := [], laidByText := true, laidKinds := [.data, .data, .data, .sentinel, .sentinel], laidTests := true, laidLooks := .later }
def RatRoundCardSaid : Prop := Claim7.holds Tryd.pinned (.plain (OpenSpec.ofChange ratRoundSpec)) ratRoundCard

/-- THE TIED CARD OF 'nacellelaw01.RatOrder'. -/
def ratOrderCard : Claim7 := { stood := { row := ratOrderRow, standIns := [], harness := (true, "603f250c1fc58ce583828fe6395ebb5eb3caa533a3e5977395f0c43b77f3b62f"), looks := true }, kinds := [], alts := [], laidByText := true, laidKinds := [.data, .data, .data, .sentinel, .sentinel], laidTests := true, laidLooks := .later }
def RatOrderCardSaid : Prop := Claim7.holds Tryd.pinned (.plain (OpenSpec.ofChange ratOrderSpec)) ratOrderCard

/-- THE TIED CARD OF 'nacellelaw01.RatLong'. -/
def ratLongCard : Claim7 := { stood := { row := ratLongRow, standIns := [], harness := (true, "603f250c1fc58ce583828fe6395ebb5eb3caa533a3e5977395f0c43b77f3b62f"), looks := true }, kinds := [], alts := [], laidByText := true, laidKinds := [.data, .data, .data, .sentinel, .sentinel], laidTests := true, laidLooks := .later }
def RatLongCardSaid : Prop := Claim7.holds Tryd.pinned (.plain (OpenSpec.ofChange ratLongSpec)) ratLongCard

/-- THE TIED CARD OF 'nacellelaw01.RatTells'. -/
def ratTellsCard : Claim7 := { stood := { row := ratTellsRow, standIns := [], harness := (true, "603f250c1fc58ce583828fe6395ebb5eb3caa533a3e5977395f0c43b77f3b62f"), looks := true }, kinds := [], alts := [], laidByText := true, laidKinds := [.data, .data, .data, .sentinel, .sentinel], laidTests := true, laidLooks := .later }
def RatTellsCardSaid : Prop := Claim7.holds Tryd.pinned (.plain (OpenSpec.ofChange ratTellsSpec)) ratTellsCard

/-- THE TIED CARD OF 'nacellelaw01.RatField'. -/
def ratFieldCard : Claim7 := { stood := { row := ratFieldRow, standIns := [], harness := (true, "603f250c1fc58ce583828fe6395ebb5eb3caa533a3e5977395f0c43b77f3b62f"), looks := true }, kinds := [], alts := [], laidByText := true, laidKinds := [.data, .data, .data, .sentinel, .sentinel], laidTests := true, laidLooks := .later }
def RatFieldCardSaid : Prop := Claim7.holds Tryd.pinned (.plain (OpenSpec.ofChange ratFieldSpec)) ratFieldCard

/-- THE SECOND FORM's CARD OF 'nacellelaw01.RatLowest'. -/
def ratLowestUptoCard : Claim7 := { stood := { row := ratLowestUptoRow, standIns := [], harness := (true, "603f250c1fc58ce583828fe6395ebb5eb3caa533a3e5977395f0c43b77f3b62f"), looks := true }, kinds := [], alts := [], laidByText := true, laidKinds := [.data, .data, .data, .sentinel, .sentinel], laidTests := true, laidLooks := .later }
def RatLowestUptoCardSaid : Prop := Claim7.holds Tryd.pinned (.plain (OpenSpec.upto ratLowestSpec)) ratLowestUptoCard

/-- THE SECOND FORM's CARD OF 'nacellelaw01.RatRound'. -/
def ratRoundUptoCard : Claim7 := { stood := { row := ratRoundUptoRow, standIns := [], harness := (true, "603f250c1fc58ce583828fe6395ebb5eb3caa533a3e5977395f0c43b77f3b62f"), looks := true }, kinds := [], alts := [], laidByText := true, laidKinds := [.data, .data, .data, .sentinel, .sentinel], laidTests := true, laidLooks := .later }
def RatRoundUptoCardSaid : Prop := Claim7.holds Tryd.pinned (.plain (OpenSpec.upto ratRoundSpec)) ratRoundUptoCard

/-- THE SECOND FORM's CARD OF 'nacellelaw01.RatOrder'. -/
def ratOrderUptoCard : Claim7 := { stood := { row := ratOrderUptoRow, standIns := [], harness := (true, "603f250c1fc58ce583828fe6395ebb5eb3caa533a3e5977395f0c43b77f3b62f"), looks := true }, kinds := [], alts := [], laidByText := true, laidKinds := [.data, .data, .data, .sentinel, .sentinel], laidTests := true, laidLooks := .later }
def RatOrderUptoCardSaid : Prop := Claim7.holds Tryd.pinned (.plain (OpenSpec.upto ratOrderSpec)) ratOrderUptoCard

/-- THE SECOND FORM's CARD OF 'nacellelaw01.RatLong'. -/
def ratLongUptoCard : Claim7 := { stood := { row := ratLongUptoRow, standIns := [], harness := (true, "603f250c1fc58ce583828fe6395ebb5eb3caa533a3e5977395f0c43b77f3b62f"), looks := true }, kinds := [], alts := [], laidByText := true, laidKinds := [.data, .data, .data, .sentinel, .sentinel], laidTests := true, laidLooks := .later }
def RatLongUptoCardSaid : Prop := Claim7.holds Tryd.pinned (.plain (OpenSpec.upto ratLongSpec)) ratLongUptoCard

/-- THE SECOND FORM's CARD OF 'nacellelaw01.RatTells'. -/
def ratTellsUptoCard : Claim7 := { stood := { row := ratTellsUptoRow, standIns := [], harness := (true, "603f250c1fc58ce583828fe6395ebb5eb3caa533a3e5977395f0c43b77f3b62f"), looks := true }, kinds := [], alts := [], laidByText := true, laidKinds := [.data, .data, .data, .sentinel, .sentinel], laidTests := true, laidLooks := .later }
def RatTellsUptoCardSaid : Prop := Claim7.holds Tryd.pinned (.plain (OpenSpec.upto ratTellsSpec)) ratTellsUptoCard

/-- THE SECOND FORM's CARD OF 'nacellelaw01.RatField'. -/
def ratFieldUptoCard : Claim7 := { stood := { row := ratFieldUptoRow, standIns := [], harness := (true, "603f250c1fc58ce583828fe6395ebb5eb3caa533a3e5977395f0c43b77f3b62f"), looks := true }, kinds := [], alts := [], laidByText := true, laidKinds := [.data, .data, .data, .sentinel, .sentinel], laidTests := true, laidLooks := .later }
def RatFieldUptoCardSaid : Prop := Claim7.holds Tryd.pinned (.plain (OpenSpec.upto ratFieldSpec)) ratFieldUptoCard
end Rows
end Go.Proofs.YtdjenpccgaojgaaDoor
