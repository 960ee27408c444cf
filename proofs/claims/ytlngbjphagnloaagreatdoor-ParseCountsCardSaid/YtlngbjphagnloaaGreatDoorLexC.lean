/-
  parse: Lex as its callers read it.
-/
import Derived.Test.YtlngbjphagnloaaGreatDoorPk28
namespace Go.Proofs.YtlngbjphagnloaaGreatDoor
open Go.RowKit
/-- How a call of Lex ends: the tokens ts, an offset, an error. -/
def LexC (ts : List Tok) (p er : Nat) (w : World) (e : Ending) (w' : World) : Prop :=
  ∃ A cap, e = .returned (.tuple #[.slice A ts.length cap, .int .i64 (p : Int), .int .i64 (er : Int)]) ∧ TRows .u8 w' A (ts.map Tok.toZ) ∧ Below w.heap.size w w'
theorem lex_call (src : ByteArray) (ts : List Tok) (p er : Nat) (h : lexR src.data.toList = (ts, p, er)) (w : World) (hE : Hid (Env w)) : Calls Tryz.prog 13 #[.string src] w (LexC ts p er w) := by
  refine (lex_any src w hE.out).mono ?_
  rintro e w' ⟨v, rfl, ho, -, hb⟩
  rw [h] at ho ⊢
  obtain ⟨a, c, rfl, hr⟩ := trows_own (ts := ts.map Tok.toZ) ho (by simp)
  exact ⟨a, c, rfl, hr, hb⟩
/-- One token of a slice, in a later world. -/
theorem tok_at {w w' : World} {A : Option Addr} {ts : List Tok} {k : Nat} (h : Hid (TRows .u8 w A (ts.map Tok.toZ))) (hb : Below w.heap.size w w') (hk : k < ts.length) :
    ∃ b off t, A = some ⟨b, off, none⟩ ∧ b < w'.heap.size ∧ Hid (ts[k]? = some t) ∧ w'.cell? ⟨b, off + k * 3, none⟩ = some (.int .u8 (t.kind : Int)) ∧ w'.cell? ⟨b, off + k * 3 + 1, none⟩ = some (.string ⟨t.text.toArray⟩) ∧ w'.cell? ⟨b, off + k * 3 + 2, none⟩ = some (.int .i64 (t.at_ : Int)) := by
  obtain ⟨b, off, t, h1, h2, h3, h4, h5, h6⟩ := trow_at (n := ts.length) (hide (by simp)) h hb hk
  have h3 := h3.out
  rw [List.getElem?_map] at h3
  obtain ⟨t', h7, rfl⟩ := Option.map_eq_some_iff.1 h3
  exact ⟨b, off, t', h1, Nat.lt_of_lt_of_le h2 hb.size, hide h7, h4, h5, h6⟩
theorem lex_len (src : ByteArray) {ts : List Tok} {p er : Nat} (h : lexR src.data.toList = (ts, p, er)) : ts.length ≤ src.size := by
  have := (lex_ok src.data.toList).count.2
  rw [h] at this
  simpa using this
end Go.Proofs.YtlngbjphagnloaaGreatDoor
