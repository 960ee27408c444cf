/-
  No cell of these rows narrows 'for every input' (looked for: loops, veiled, ifaces, maps, wideKeys, modest, calm, conditions, laid).
  DERIVED. THE GIVEN ROWS OF THIS SEAT. 6 by the template 'for every input the law returns true; each argument reads behind the call as it read before'; 0 by the template 'total and deterministic' (their statements: YtdfhnbkmppdplaaTotals.lean).
  GIVEN WITH THE SEED: the statements are not yours to turn. If you find one false, say at which input.
  Laid BY PROGRAM, IN A SANDBOX (cutbox-rows.mjs): the forced cells as the released guide's own fill.sh prints them over the translation 1ac33faf9a9f7dba… (all of the seat's roots in one cut). By AI agents, Wed Nov 11 2026. No macro, syntax, notation, axiom, sorry.
-/
import Derived.Test.YtdfhnbkmppdplaaChecked
import GoSem.Claim
import GoSem.ClaimJoined
import GoSem.ClaimMapViews
import Derived.JoinedTies
import Derived.KernelRfl
namespace Go.Proofs.Ytdfhnbkmppdplaa
/- THE CELL 'sum', in the pinned program and in every row, IS THE sha256 OF THE DUMP (.gsa) THAT YtdfhnbkmppdplaaProg.lean LOADS. Nothing in Lean hashes anything: it is a label: what it is worth is what the hold of that sum in a sandbox is worth. -/
noncomputable def Try.pinned : Pinned := { name := "ytdfhnbkmppdplaa", sum := "1ac33faf9a9f7dbacfe45d69ca27e62c1eb019dce54353d693ef067e5df8c8ff", checked := Try.checked }
namespace Rows
def none {H : Type} : Left H := { results := [], args := [] }

/-- 'nacellelaw18.ShaperTells': WHATEVER THE INPUT: true; the input reads as it did. -/
def shaperTellsSpec : ChangeSpec := { name := "shaperTells", fn := fun _ => fun
  | [d1, d2] => { results := [.lit (.bool true)], args := [d1, d2] }
  | _ => none }
def shaperTellsRow : OpenClaim := { program := "ytdfhnbkmppdplaa", sum := "1ac33faf9a9f7dbacfe45d69ca27e62c1eb019dce54353d693ef067e5df8c8ff", func := "nacelle/nacellelaw18.ShaperTells", spec := "shaperTells", unfollowed := true, recurses := true, apart := false }
def ShaperTellsSaid : Prop := shaperTellsRow.holds Try.pinned (OpenSpec.ofChange shaperTellsSpec)

/-- ITS FALSE NEIGHBOUR: 'it returns false'. Refute it at one input. -/
def shaperTellsWrong : ChangeSpec := { name := "shaperTells", fn := fun _ => fun
  | [d1, d2] => { results := [.lit (.bool false)], args := [d1, d2] }
  | _ => none }
def ShaperTellsWrongFalsely : Prop := shaperTellsRow.holds Try.pinned (OpenSpec.ofChange shaperTellsWrong)

/-- 'nacellelaw18.ShaperAlone': WHATEVER THE INPUT: true; the input reads as it did. -/
def shaperAloneSpec : ChangeSpec := { name := "shaperAlone", fn := fun _ => fun
  | [d1, d2, d3, d4] => { results := [.lit (.bool true)], args := [d1, d2, d3, d4] }
  | _ => none }
def shaperAloneRow : OpenClaim := { program := "ytdfhnbkmppdplaa", sum := "1ac33faf9a9f7dbacfe45d69ca27e62c1eb019dce54353d693ef067e5df8c8ff", func := "nacelle/nacellelaw18.ShaperAlone", spec := "shaperAlone", unfollowed := true, recurses := true, apart := false }
def ShaperAloneSaid : Prop := shaperAloneRow.holds Try.pinned (OpenSpec.ofChange shaperAloneSpec)

/-- ITS FALSE NEIGHBOUR: 'it returns false'. Refute it at one input. -/
def shaperAloneWrong : ChangeSpec := { name := "shaperAlone", fn := fun _ => fun
  | [d1, d2, d3, d4] => { results := [.lit (.bool false)], args := [d1, d2, d3, d4] }
  | _ => none }
def ShaperAloneWrongFalsely : Prop := shaperAloneRow.holds Try.pinned (OpenSpec.ofChange shaperAloneWrong)

/-- 'nacellelaw18.ShaperFirst': WHATEVER THE INPUT: true; the input reads as it did. -/
def shaperFirstSpec : ChangeSpec := { name := "shaperFirst", fn := fun _ => fun
  | [d1, d2] => { results := [.lit (.bool true)], args := [d1, d2] }
  | _ => none }
def shaperFirstRow : OpenClaim := { program := "ytdfhnbkmppdplaa", sum := "1ac33faf9a9f7dbacfe45d69ca27e62c1eb019dce54353d693ef067e5df8c8ff", func := "nacelle/nacellelaw18.ShaperFirst", spec := "shaperFirst", unfollowed := true, recurses := true, apart := false }
def ShaperFirstSaid : Prop := shaperFirstRow.holds Try.pinned (OpenSpec.ofChange shaperFirstSpec)

/-- ITS FALSE NEIGHBOUR: 'it returns false'. Refute it at one input. -/
def shaperFirstWrong : ChangeSpec := { name := "shaperFirst", fn := fun _ => fun
  | [d1, d2] => { results := [.lit (.bool false)], args := [d1, d2] }
  | _ => none }
def ShaperFirstWrongFalsely : Prop := shaperFirstRow.holds Try.pinned (OpenSpec.ofChange shaperFirstWrong)

/-- 'nacellelaw18.ShaperConforms': WHATEVER THE INPUT: true; the input reads as it did. -/
def shaperConformsSpec : ChangeSpec := { name := "shaperConforms", fn := fun _ => fun
  | [d1, d2, d3] => { results := [.lit (.bool true)], args := [d1, d2, d3] }
  | _ => none }
def shaperConformsRow : OpenClaim := { program := "ytdfhnbkmppdplaa", sum := "1ac33faf9a9f7dbacfe45d69ca27e62c1eb019dce54353d693ef067e5df8c8ff", func := "nacelle/nacellelaw18.ShaperConforms", spec := "shaperConforms", unfollowed := true, recurses := true, apart := false }
def ShaperConformsSaid : Prop := shaperConformsRow.holds Try.pinned (OpenSpec.ofChange shaperConformsSpec)

/-- ITS FALSE NEIGHBOUR: 'it returns false'. Refute it at one input. -/
def shaperConformsWrong : ChangeSpec := { name := "shaperConforms", fn := fun _ => fun
  | [d1, d2, d3] => { results := [.lit (.bool false)], args := [d1, d2, d3] }
  | _ => none }
def ShaperConformsWrongFalsely : Prop := shaperConformsRow.holds Try.pinned (OpenSpec.ofChange shaperConformsWrong)

/-- 'nacellelaw18.ShaperShapes': WHATEVER THE INPUT: true; the input reads as it did. -/
def shaperShapesSpec : ChangeSpec := { name := "shaperShapes", fn := fun _ => fun
  | [d1, d2, d3] => { results := [.lit (.bool true)], args := [d1, d2, d3] }
  | _ => none }
def shaperShapesRow : OpenClaim := { program := "ytdfhnbkmppdplaa", sum := "1ac33faf9a9f7dbacfe45d69ca27e62c1eb019dce54353d693ef067e5df8c8ff", func := "nacelle/nacellelaw18.ShaperShapes", spec := "shaperShapes", unfollowed := true, recurses := true, apart := false }
def ShaperShapesSaid : Prop := shaperShapesRow.holds Try.pinned (OpenSpec.ofChange shaperShapesSpec)

/-- ITS FALSE NEIGHBOUR: 'it returns false'. Refute it at one input. -/
def shaperShapesWrong : ChangeSpec := { name := "shaperShapes", fn := fun _ => fun
  | [d1, d2, d3] => { results := [.lit (.bool false)], args := [d1, d2, d3] }
  | _ => none }
def ShaperShapesWrongFalsely : Prop := shaperShapesRow.holds Try.pinned (OpenSpec.ofChange shaperShapesWrong)

/-- 'nacellelaw18.ShaperWrong': WHATEVER THE INPUT: true; the input reads as it did. -/
def shaperWrongSpec : ChangeSpec := { name := "shaperWrong", fn := fun _ => fun
  | [d1, d2, d3] => { results := [.lit (.bool true)], args := [d1, d2, d3] }
  | _ => none }
def shaperWrongRow : OpenClaim := { program := "ytdfhnbkmppdplaa", sum := "1ac33faf9a9f7dbacfe45d69ca27e62c1eb019dce54353d693ef067e5df8c8ff", func := "nacelle/nacellelaw18.ShaperWrong", spec := "shaperWrong", unfollowed := true, recurses := true, apart := false }
def ShaperWrongSaid : Prop := shaperWrongRow.holds Try.pinned (OpenSpec.ofChange shaperWrongSpec)

/-- ITS FALSE NEIGHBOUR: 'it returns false'. Refute it at one input. -/
def shaperWrongWrong : ChangeSpec := { name := "shaperWrong", fn := fun _ => fun
  | [d1, d2, d3] => { results := [.lit (.bool false)], args := [d1, d2, d3] }
  | _ => none }
def ShaperWrongWrongFalsely : Prop := shaperWrongRow.holds Try.pinned (OpenSpec.ofChange shaperWrongWrong)

/- THE SECOND FORM. 'bulk': how many values and letters a reading holds, each counted each time it is reached (what is shared counts as often as it is met; a slice's spare places count too). A statement '..UptoSaid' is the law's where the arguments, and the package variables that the reading takes, are together of bulk at most 1048576: NARROWER than '..Said'. Prove '..Said' where nothing that the law and all that it calls make is longer than what came in: it says more and counts as full. Else prove '..UptoSaid'. A law counts once. -/
mutual
def uptoBulk {H : Type} : DataW H → Nat
  | .lit (.string bytes) => bytes.length + 1
  | .lit _ => 1
  | .nil => 1
  | .ptr d => uptoBulk d + 1
  | .slice elems spare => uptoBulkAll elems + uptoBulkAll spare + 1
  | .agg parts => uptoBulkAll parts + 1
  | .iface _ d => uptoBulk d + 1
  | .map entries => uptoBulkEntries entries + 1
  | .held _ => 1
def uptoBulkAll {H : Type} : List (DataW H) → Nat
  | [] => 0
  | d :: r => uptoBulk d + uptoBulkAll r
def uptoBulkEntries {H : Type} : List (Lit × DataW H) → Nat
  | [] => 0
  | x :: r => uptoBulkEntry x + uptoBulkEntries r
def uptoBulkEntry {H : Type} : Lit × DataW H → Nat
  | (.string bytes, d) => bytes.length + uptoBulk d + 1
  | (_, d) => uptoBulk d + 1
 end
def uptoSmall : (H : Type) → List (DataW H) → Bool := fun _ ds => decide (uptoBulkAll ds ≤ 1048576)
def OpenSpec.upto (s : _root_.Go.ChangeSpec) : _root_.Go.OpenSpec := { _root_.Go.OpenSpec.ofChange s with cond := some uptoSmall }

/-- 'nacellelaw18.ShaperTells', WHERE WHAT IT READS IS OF BULK AT MOST 1048576: true; the input reads as it did. -/
def shaperTellsUptoRow : OpenClaim := { program := "ytdfhnbkmppdplaa", sum := "1ac33faf9a9f7dbacfe45d69ca27e62c1eb019dce54353d693ef067e5df8c8ff", func := "nacelle/nacellelaw18.ShaperTells", spec := "shaperTells", unfollowed := true, recurses := true, apart := false, narrowed := true }
def ShaperTellsUptoSaid : Prop := shaperTellsUptoRow.holds Try.pinned (OpenSpec.upto shaperTellsSpec)

/-- 'nacellelaw18.ShaperAlone', WHERE WHAT IT READS IS OF BULK AT MOST 1048576: true; the input reads as it did. -/
def shaperAloneUptoRow : OpenClaim := { program := "ytdfhnbkmppdplaa", sum := "1ac33faf9a9f7dbacfe45d69ca27e62c1eb019dce54353d693ef067e5df8c8ff", func := "nacelle/nacellelaw18.ShaperAlone", spec := "shaperAlone", unfollowed := true, recurses := true, apart := false, narrowed := true }
def ShaperAloneUptoSaid : Prop := shaperAloneUptoRow.holds Try.pinned (OpenSpec.upto shaperAloneSpec)

/-- 'nacellelaw18.ShaperFirst', WHERE WHAT IT READS IS OF BULK AT MOST 1048576: true; the input reads as it did. -/
def shaperFirstUptoRow : OpenClaim := { program := "ytdfhnbkmppdplaa", sum := "1ac33faf9a9f7dbacfe45d69ca27e62c1eb019dce54353d693ef067e5df8c8ff", func := "nacelle/nacellelaw18.ShaperFirst", spec := "shaperFirst", unfollowed := true, recurses := true, apart := false, narrowed := true }
def ShaperFirstUptoSaid : Prop := shaperFirstUptoRow.holds Try.pinned (OpenSpec.upto shaperFirstSpec)

/-- 'nacellelaw18.ShaperConforms', WHERE WHAT IT READS IS OF BULK AT MOST 1048576: true; the input reads as it did. -/
def shaperConformsUptoRow : OpenClaim := { program := "ytdfhnbkmppdplaa", sum := "1ac33faf9a9f7dbacfe45d69ca27e62c1eb019dce54353d693ef067e5df8c8ff", func := "nacelle/nacellelaw18.ShaperConforms", spec := "shaperConforms", unfollowed := true, recurses := true, apart := false, narrowed := true }
def ShaperConformsUptoSaid : Prop := shaperConformsUptoRow.holds Try.pinned (OpenSpec.upto shaperConformsSpec)

/-- 'nacellelaw18.ShaperShapes', WHERE WHAT IT READS IS OF BULK AT MOST 1048576: true; the input reads as it did. -/
def shaperShapesUptoRow : OpenClaim := { program := "ytdfhnbkmppdplaa", sum := "1ac33faf9a9f7dbacfe45d69ca27e62c1eb019dce54353d693ef067e5df8c8ff", func := "nacelle/nacellelaw18.ShaperShapes", spec := "shaperShapes", unfollowed := true, recurses := true, apart := false, narrowed := true }
def ShaperShapesUptoSaid : Prop := shaperShapesUptoRow.holds Try.pinned (OpenSpec.upto shaperShapesSpec)

/-- 'nacellelaw18.ShaperWrong', WHERE WHAT IT READS IS OF BULK AT MOST 1048576: true; the input reads as it did. -/
def shaperWrongUptoRow : OpenClaim := { program := "ytdfhnbkmppdplaa", sum := "1ac33faf9a9f7dbacfe45d69ca27e62c1eb019dce54353d693ef067e5df8c8ff", func := "nacelle/nacellelaw18.ShaperWrong", spec := "shaperWrong", unfollowed := true, recurses := true, apart := false, narrowed := true }
def ShaperWrongUptoSaid : Prop := shaperWrongUptoRow.holds Try.pinned (OpenSpec.upto shaperWrongSpec)

end Rows
end Go.Proofs.Ytdfhnbkmppdplaa
