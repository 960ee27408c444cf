/-
  A region that draws its order, whose operations read old cells and whose callees only make memory: one walk in the text's order. The class of worlds is 'W, and whatever has been laid since'.
-/
import Derived.Test.YteghlkcgeadoaaaDoorBase
import Derived.Deep.Quiet
import Derived.BigQuiet
import Derived.Deep.QuietTactic
namespace Go.Proofs.YteghlkcgeadoaaaDoor
open Go.RowKit
/-- A world that comes of W by new memory alone. -/
structure Later (W : World) where
  w : World
  below : Below W.heap.size W w
instance (W : World) : Nonempty (Later W) := ⟨⟨W, Below.refl _ _⟩⟩
theorem Later.cell {W : World} (s : Later W) (b o : Nat) (h : b < W.heap.size) : s.w.cell? ⟨b, o, none⟩ = W.cell? ⟨b, o, none⟩ := s.below.cell (p := ⟨b, o, none⟩) h
theorem Later.call {P : Program} {f : FuncId} {args : Array Value} {W : World} {s : Later W} {v : Value}
    (h : Calls P f args s.w fun e w' => e = .returned v ∧ Below s.w.heap.size s.w w') : Calls P f args s.w fun e w'' => e = .returned v ∧ ∃ s' : Later W, w'' = s'.w :=
  h.mono fun _ w' ⟨he, hb⟩ => ⟨he, ⟨w', s.below.trans (hb.mono s.below.size)⟩, rfl⟩
theorem Later.call_same {P : Program} {f : FuncId} {args : Array Value} {W : World} {s : Later W} {v : Value}
    (h : Calls P f args s.w fun e w' => e = .returned v ∧ s.w = w') : Calls P f args s.w fun e w'' => e = .returned v ∧ ∃ s' : Later W, w'' = s'.w :=
  h.mono fun _ _ ⟨he, hb⟩ => ⟨he, s, hb.symm⟩
theorem wp_region_later {P : Program} {id : Nat} {Q : Exit → Act → World → Prop} {a : Act} {W : World} {l : List Oper} (hm : P.follows .mixedOrders = true) (hB : Region.lexB .any l.toArray = true)
    (h : wpQuiet P l.toArray (fun w' => ∃ s : Later W, w' = s.w) (fun a' => ∀ w', (∃ s : Later W, w' = s.w) → Q .normal a' w') l a) : (Code.region id l.toArray true).wp P Q a W :=
  wp_region_quiet (C := fun w' => ∃ s : Later W, w' = s.w) hm hB ⟨⟨W.drew, (Below.refl _ _).drew⟩, rfl⟩ (by simpa using h)
end Go.Proofs.YteghlkcgeadoaaaDoor
