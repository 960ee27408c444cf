/-
  parse: ParseCounts: the plain law.
-/
import Derived.Test.YtlngbjphagnloaaGreatDoorParQ
import Derived.Test.YtlngbjphagnloaaGreatDoorParC2
import Derived.Test.YtlngbjphagnloaaGreatDoorPk6
import Derived.Test.YtlngbjphagnloaaGreatDoorValC
namespace Go.Proofs.YtlngbjphagnloaaGreatDoor
theorem counts_plain {l : List UInt8} {size at_ : Nat} {c : CfgD} (h : parseT (lexR l) size = (c, at_, 0)) : (lexR l).1.foldl cstep (0, 0) = (0, c.count) ∧ c.fine := by
  obtain ⟨h0, h1, _⟩ := parsed_ok h
  refine ⟨cfg_counts c _ ?_ h1, cfg_ports c _ _ h1⟩
  revert h0
  unfold lexR
  split
  · exact fun h => by cases h
  · split
    · exact fun _ => goodT_lex 0 l
    · exact fun h => absurd h (by assumption)
/-- The depth and the count stay small. -/
theorem count_small : ∀ (l : List Tok) (s : Int × Nat), s.1 - (l.length : Int) ≤ (l.foldl cstep s).1 ∧ (l.foldl cstep s).1 ≤ s.1 + (l.length : Int) ∧ (l.foldl cstep s).2 ≤ s.2 + l.length
  | [], s => by simp
  | t :: l, s => by
    obtain ⟨h1, h2, h3⟩ := count_small l (cstep s t)
    have a : s.1 - 1 ≤ (cstep s t).1 ∧ (cstep s t).1 ≤ s.1 + 1 ∧ (cstep s t).2 ≤ s.2 + 1 := by
      unfold cstep
      dsimp only
      refine ⟨?_, ?_, ?_⟩ <;> (repeat' split) <;> omega
    rw [List.foldl_cons, List.length_cons]
    omega
theorem count_step {l : List Tok} {k : Nat} {t : Tok} (h : l[k]? = some t) : (l.take (k + 1)).foldl cstep (0, 0) = cstep ((l.take k).foldl cstep (0, 0)) t := by
  obtain ⟨hk, rfl⟩ := List.getElem?_eq_some_iff.1 h
  rw [List.take_succ_eq_append_getElem hk, List.foldl_append]
  rfl
end Go.Proofs.YtlngbjphagnloaaGreatDoor
