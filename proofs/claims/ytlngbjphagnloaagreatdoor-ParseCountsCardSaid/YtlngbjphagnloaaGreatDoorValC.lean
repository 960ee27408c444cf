/-
  parse: a source's names and numbers are no braces and no semicolons.
-/
import Derived.Test.YtlngbjphagnloaaGreatDoorPk4
import Derived.Test.YtlngbjphagnloaaGreatDoorParC
namespace Go.Proofs.YtlngbjphagnloaaGreatDoor
theorem goodT_lex (p : Nat) (l : List UInt8) : GoodT (lexA p l).1 := fun t ht hk => by
  obtain ⟨h1, h2⟩ := valid_kind (valid_all p l t ht)
  have hb : ∃ b r, t.text = b :: r ∧ (letterB b = true ∨ digitB b = true) := by
    rcases hk with hk | hk
    · obtain ⟨b, r, e, h⟩ := h1 hk
      exact ⟨b, r, e, .inl h⟩
    · obtain ⟨_, b, r, e, h⟩ := h2 hk
      exact ⟨b, r, e, .inr h⟩
  obtain ⟨b, r, e, h⟩ := hb
  rw [e]
  refine ⟨fun h' => ?_, fun h' => ?_, fun h' => ?_⟩ <;>
  · injection h' with h' _
    subst h'
    rcases h with h | h <;> revert h <;> decide
end Go.Proofs.YtlngbjphagnloaaGreatDoor
