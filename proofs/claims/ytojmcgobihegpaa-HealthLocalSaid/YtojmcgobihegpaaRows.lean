/-
  No cell of these rows narrows 'for every input' (looked for: loops, veiled, ifaces, maps, wideKeys, modest, calm, conditions, laid).
  DERIVED. THE GIVEN ROWS OF THIS SEAT. 7 by the template 'for every input the law returns true; each argument reads behind the call as it read before'; 0 by the template 'total and deterministic' (their statements: YtojmcgobihegpaaTotals.lean).
  GIVEN WITH THE SEED: the statements are not yours to turn. If you find one false, say at which input.
  Laid BY PROGRAM, IN A SANDBOX (cutbox-rows.mjs): the forced cells as the released guide's own fill.sh prints them over the translation 404653e2e01bf990… (all of the seat's roots in one cut). By AI agents, Wed Nov 11 2026. No macro, syntax, notation, axiom, sorry.
-/
import Derived.Test.YtojmcgobihegpaaChecked
import GoSem.Claim
import GoSem.ClaimJoined
import GoSem.ClaimMapViews
import Derived.JoinedTies
import Derived.KernelRfl
namespace Go.Proofs.Ytojmcgobihegpaa
/- THE CELL 'sum', in the pinned program and in every row, IS THE sha256 OF THE DUMP (.gsa) THAT YtojmcgobihegpaaProg.lean LOADS. Nothing in Lean hashes anything: it is a label: what it is worth is what the hold of that sum in a sandbox is worth. -/
noncomputable def Try.pinned : Pinned := { name := "ytojmcgobihegpaa", sum := "404653e2e01bf9909ca02bc41aeb14f8420f074547204e458b22f1bb31560d6f", checked := Try.checked }
namespace Rows
def none {H : Type} : Left H := { results := [], args := [] }

/-- 'nacellelaw28.HealthTells': WHATEVER THE INPUT: true; the input reads as it did. -/
def healthTellsSpec : ChangeSpec := { name := "healthTells", fn := fun _ => fun
  | [d1, d2, d3, d4, d5, d6] => { results := [.lit (.bool true)], args := [d1, d2, d3, d4, d5, d6] }
  | _ => none }
def healthTellsRow : OpenClaim := { program := "ytojmcgobihegpaa", sum := "404653e2e01bf9909ca02bc41aeb14f8420f074547204e458b22f1bb31560d6f", func := "nacelle/nacellelaw28.HealthTells", spec := "healthTells", unfollowed := true, recurses := true, apart := false }
def HealthTellsSaid : Prop := healthTellsRow.holds Try.pinned (OpenSpec.ofChange healthTellsSpec)

/-- ITS FALSE NEIGHBOUR: 'it returns false'. Refute it at one input. -/
def healthTellsWrong : ChangeSpec := { name := "healthTells", fn := fun _ => fun
  | [d1, d2, d3, d4, d5, d6] => { results := [.lit (.bool false)], args := [d1, d2, d3, d4, d5, d6] }
  | _ => none }
def HealthTellsWrongFalsely : Prop := healthTellsRow.holds Try.pinned (OpenSpec.ofChange healthTellsWrong)

/-- 'nacellelaw28.HealthSpecific': WHATEVER THE INPUT: true; the input reads as it did. -/
def healthSpecificSpec : ChangeSpec := { name := "healthSpecific", fn := fun _ => fun
  | [d1, d2, d3, d4] => { results := [.lit (.bool true)], args := [d1, d2, d3, d4] }
  | _ => none }
def healthSpecificRow : OpenClaim := { program := "ytojmcgobihegpaa", sum := "404653e2e01bf9909ca02bc41aeb14f8420f074547204e458b22f1bb31560d6f", func := "nacelle/nacellelaw28.HealthSpecific", spec := "healthSpecific", unfollowed := true, recurses := true, apart := false }
def HealthSpecificSaid : Prop := healthSpecificRow.holds Try.pinned (OpenSpec.ofChange healthSpecificSpec)

/-- ITS FALSE NEIGHBOUR: 'it returns false'. Refute it at one input. -/
def healthSpecificWrong : ChangeSpec := { name := "healthSpecific", fn := fun _ => fun
  | [d1, d2, d3, d4] => { results := [.lit (.bool false)], args := [d1, d2, d3, d4] }
  | _ => none }
def HealthSpecificWrongFalsely : Prop := healthSpecificRow.holds Try.pinned (OpenSpec.ofChange healthSpecificWrong)

/-- 'nacellelaw28.HealthLocal': WHATEVER THE INPUT: true; the input reads as it did. -/
def healthLocalSpec : ChangeSpec := { name := "healthLocal", fn := fun _ => fun
  | [d1, d2, d3, d4, d5, d6] => { results := [.lit (.bool true)], args := [d1, d2, d3, d4, d5, d6] }
  | _ => none }
def healthLocalRow : OpenClaim := { program := "ytojmcgobihegpaa", sum := "404653e2e01bf9909ca02bc41aeb14f8420f074547204e458b22f1bb31560d6f", func := "nacelle/nacellelaw28.HealthLocal", spec := "healthLocal", unfollowed := true, recurses := true, apart := false }
def HealthLocalSaid : Prop := healthLocalRow.holds Try.pinned (OpenSpec.ofChange healthLocalSpec)

/-- ITS FALSE NEIGHBOUR: 'it returns false'. Refute it at one input. -/
def healthLocalWrong : ChangeSpec := { name := "healthLocal", fn := fun _ => fun
  | [d1, d2, d3, d4, d5, d6] => { results := [.lit (.bool false)], args := [d1, d2, d3, d4, d5, d6] }
  | _ => none }
def HealthLocalWrongFalsely : Prop := healthLocalRow.holds Try.pinned (OpenSpec.ofChange healthLocalWrong)

/-- 'nacellelaw28.HealthOrder': WHATEVER THE INPUT: true; the input reads as it did. -/
def healthOrderSpec : ChangeSpec := { name := "healthOrder", fn := fun _ => fun
  | [d1, d2, d3, d4] => { results := [.lit (.bool true)], args := [d1, d2, d3, d4] }
  | _ => none }
def healthOrderRow : OpenClaim := { program := "ytojmcgobihegpaa", sum := "404653e2e01bf9909ca02bc41aeb14f8420f074547204e458b22f1bb31560d6f", func := "nacelle/nacellelaw28.HealthOrder", spec := "healthOrder", unfollowed := true, recurses := true, apart := false }
def HealthOrderSaid : Prop := healthOrderRow.holds Try.pinned (OpenSpec.ofChange healthOrderSpec)

/-- ITS FALSE NEIGHBOUR: 'it returns false'. Refute it at one input. -/
def healthOrderWrong : ChangeSpec := { name := "healthOrder", fn := fun _ => fun
  | [d1, d2, d3, d4] => { results := [.lit (.bool false)], args := [d1, d2, d3, d4] }
  | _ => none }
def HealthOrderWrongFalsely : Prop := healthOrderRow.holds Try.pinned (OpenSpec.ofChange healthOrderWrong)

/-- 'nacellelaw28.HealthDefault': WHATEVER THE INPUT: true; the input reads as it did. -/
def healthDefaultSpec : ChangeSpec := { name := "healthDefault", fn := fun _ => fun
  | [d1, d2, d3, d4] => { results := [.lit (.bool true)], args := [d1, d2, d3, d4] }
  | _ => none }
def healthDefaultRow : OpenClaim := { program := "ytojmcgobihegpaa", sum := "404653e2e01bf9909ca02bc41aeb14f8420f074547204e458b22f1bb31560d6f", func := "nacelle/nacellelaw28.HealthDefault", spec := "healthDefault", unfollowed := true, recurses := true, apart := false }
def HealthDefaultSaid : Prop := healthDefaultRow.holds Try.pinned (OpenSpec.ofChange healthDefaultSpec)

/-- ITS FALSE NEIGHBOUR: 'it returns false'. Refute it at one input. -/
def healthDefaultWrong : ChangeSpec := { name := "healthDefault", fn := fun _ => fun
  | [d1, d2, d3, d4] => { results := [.lit (.bool false)], args := [d1, d2, d3, d4] }
  | _ => none }
def HealthDefaultWrongFalsely : Prop := healthDefaultRow.holds Try.pinned (OpenSpec.ofChange healthDefaultWrong)

/-- 'nacellelaw28.HealthFits': WHATEVER THE INPUT: true; the input reads as it did. -/
def healthFitsSpec : ChangeSpec := { name := "healthFits", fn := fun _ => fun
  | [d] => { results := [.lit (.bool true)], args := [d] }
  | _ => none }
def healthFitsRow : OpenClaim := { program := "ytojmcgobihegpaa", sum := "404653e2e01bf9909ca02bc41aeb14f8420f074547204e458b22f1bb31560d6f", func := "nacelle/nacellelaw28.HealthFits", spec := "healthFits", unfollowed := true, recurses := true, apart := false }
def HealthFitsSaid : Prop := healthFitsRow.holds Try.pinned (OpenSpec.ofChange healthFitsSpec)

/-- ITS FALSE NEIGHBOUR: 'it returns false'. Refute it at one input. -/
def healthFitsWrong : ChangeSpec := { name := "healthFits", fn := fun _ => fun
  | [d] => { results := [.lit (.bool false)], args := [d] }
  | _ => none }
def HealthFitsWrongFalsely : Prop := healthFitsRow.holds Try.pinned (OpenSpec.ofChange healthFitsWrong)

/-- 'nacellelaw28.HealthRenamed': WHATEVER THE INPUT: true; the input reads as it did. -/
def healthRenamedSpec : ChangeSpec := { name := "healthRenamed", fn := fun _ => fun
  | [d1, d2, d3, d4, d5, d6] => { results := [.lit (.bool true)], args := [d1, d2, d3, d4, d5, d6] }
  | _ => none }
def healthRenamedRow : OpenClaim := { program := "ytojmcgobihegpaa", sum := "404653e2e01bf9909ca02bc41aeb14f8420f074547204e458b22f1bb31560d6f", func := "nacelle/nacellelaw28.HealthRenamed", spec := "healthRenamed", unfollowed := true, recurses := true, apart := false }
def HealthRenamedSaid : Prop := healthRenamedRow.holds Try.pinned (OpenSpec.ofChange healthRenamedSpec)

/-- ITS FALSE NEIGHBOUR: 'it returns false'. Refute it at one input. -/
def healthRenamedWrong : ChangeSpec := { name := "healthRenamed", fn := fun _ => fun
  | [d1, d2, d3, d4, d5, d6] => { results := [.lit (.bool false)], args := [d1, d2, d3, d4, d5, d6] }
  | _ => none }
def HealthRenamedWrongFalsely : Prop := healthRenamedRow.holds Try.pinned (OpenSpec.ofChange healthRenamedWrong)

/- THE SECOND FORM. 'bulk': how many values and letters a reading holds, each counted each time it is reached (what is shared counts as often as it is met; a slice's spare places count too). A statement '..UptoSaid' is the law's where the arguments, and the package variables that the reading takes, are together of bulk at most 1048576: NARROWER than '..Said'. Prove '..Said' where nothing that the law and all that it calls make is longer than what came in: it says more and counts as full. Else prove '..UptoSaid'. A law counts once. -/
mutual
def uptoBulk {H : Type} : DataW H → Nat
  | .lit (.string bytes) => bytes.length + 1
  | .lit _ => 1
  | .nil => 1
  | .ptr d => uptoBulk d + 1
  | .slice elems spare => uptoBulkAll elems + uptoBulkAll spare + 1
  | .agg parts => uptoBulkAll parts + 1
  | .iface _ d => uptoBulk d + 1
  | .map entries => uptoBulkEntries entries + 1
  | .held _ => 1
def uptoBulkAll {H : Type} : List (DataW H) → Nat
  | [] => 0
  | d :: r => uptoBulk d + uptoBulkAll r
def uptoBulkEntries {H : Type} : List (Lit × DataW H) → Nat
  | [] => 0
  | x :: r => uptoBulkEntry x + uptoBulkEntries r
def uptoBulkEntry {H : Type} : Lit × DataW H → Nat
  | (.string bytes, d) => bytes.length + uptoBulk d + 1
  | (_, d) => uptoBulk d + 1
 end
def uptoSmall : (H : Type) → List (DataW H) → Bool := fun _ ds => decide (uptoBulkAll ds ≤ 1048576)
def OpenSpec.upto (s : _root_.Go.ChangeSpec) : _root_.Go.OpenSpec := { _root_.Go.OpenSpec.ofChange s with cond := some uptoSmall }

/-- 'nacellelaw28.HealthTells', WHERE WHAT IT READS IS OF BULK AT MOST 1048576: true; the input reads as it did. -/
def healthTellsUptoRow : OpenClaim := { program := "ytojmcgobihegpaa", sum := "404653e2e01bf9909ca02bc41aeb14f8420f074547204e458b22f1bb31560d6f", func := "nacelle/nacellelaw28.HealthTells", spec := "healthTells", unfollowed := true, recurses := true, apart := false, narrowed := true }
def HealthTellsUptoSaid : Prop := healthTellsUptoRow.holds Try.pinned (OpenSpec.upto healthTellsSpec)

/-- 'nacellelaw28.HealthSpecific', WHERE WHAT IT READS IS OF BULK AT MOST 1048576: true; the input reads as it did. -/
def healthSpecificUptoRow : OpenClaim := { program := "ytojmcgobihegpaa", sum := "404653e2e01bf9909ca02bc41aeb14f8420f074547204e458b22f1bb31560d6f", func := "nacelle/nacellelaw28.HealthSpecific", spec := "healthSpecific", unfollowed := true, recurses := true, apart := false, narrowed := true }
def HealthSpecificUptoSaid : Prop := healthSpecificUptoRow.holds Try.pinned (OpenSpec.upto healthSpecificSpec)

/-- 'nacellelaw28.HealthLocal', WHERE WHAT IT READS IS OF BULK AT MOST 1048576: true; the input reads as it did. -/
def healthLocalUptoRow : OpenClaim := { program := "ytojmcgobihegpaa", sum := "404653e2e01bf9909ca02bc41aeb14f8420f074547204e458b22f1bb31560d6f", func := "nacelle/nacellelaw28.HealthLocal", spec := "healthLocal", unfollowed := true, recurses := true, apart := false, narrowed := true }
def HealthLocalUptoSaid : Prop := healthLocalUptoRow.holds Try.pinned (OpenSpec.upto healthLocalSpec)

/-- 'nacellelaw28.HealthOrder', WHERE WHAT IT READS IS OF BULK AT MOST 1048576: true; the input reads as it did. -/
def healthOrderUptoRow : OpenClaim := { program := "ytojmcgobihegpaa", sum := "404653e2e01bf9909ca02bc41aeb14f8420f074547204e458b22f1bb31560d6f", func := "nacelle/nacellelaw28.HealthOrder", spec := "healthOrder", unfollowed := true, recurses := true, apart := false, narrowed := true }
def HealthOrderUptoSaid : Prop := healthOrderUptoRow.holds Try.pinned (OpenSpec.upto healthOrderSpec)

/-- 'nacellelaw28.HealthDefault', WHERE WHAT IT READS IS OF BULK AT MOST 1048576: true; the input reads as it did. -/
def healthDefaultUptoRow : OpenClaim := { program := "ytojmcgobihegpaa", sum := "404653e2e01bf9909ca02bc41aeb14f8420f074547204e458b22f1bb31560d6f", func := "nacelle/nacellelaw28.HealthDefault", spec := "healthDefault", unfollowed := true, recurses := true, apart := false, narrowed := true }
def HealthDefaultUptoSaid : Prop := healthDefaultUptoRow.holds Try.pinned (OpenSpec.upto healthDefaultSpec)

/-- 'nacellelaw28.HealthFits', WHERE WHAT IT READS IS OF BULK AT MOST 1048576: true; the input reads as it did. -/
def healthFitsUptoRow : OpenClaim := { program := "ytojmcgobihegpaa", sum := "404653e2e01bf9909ca02bc41aeb14f8420f074547204e458b22f1bb31560d6f", func := "nacelle/nacellelaw28.HealthFits", spec := "healthFits", unfollowed := true, recurses := true, apart := false, narrowed := true }
def HealthFitsUptoSaid : Prop := healthFitsUptoRow.holds Try.pinned (OpenSpec.upto healthFitsSpec)

/-- 'nacellelaw28.HealthRenamed', WHERE WHAT IT READS IS OF BULK AT MOST 1048576: true; the input reads as it did. -/
def healthRenamedUptoRow : OpenClaim := { program := "ytojmcgobihegpaa", sum := "404653e2e01bf9909ca02bc41aeb14f8420f074547204e458b22f1bb31560d6f", func := "nacelle/nacellelaw28.HealthRenamed", spec := "healthRenamed", unfollowed := true, recurses := true, apart := false, narrowed := true }
def HealthRenamedUptoSaid : Prop := healthRenamedUptoRow.holds Try.pinned (OpenSpec.upto healthRenamedSpec)

end Rows
end Go.Proofs.Ytojmcgobihegpaa
