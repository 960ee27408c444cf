/-
  parse: words of constants: which numbers have one.
-/
import Derived.Test.YtlngbjphagnloaaGreatDoorPk27
namespace Go.Proofs.YtlngbjphagnloaaGreatDoor
theorem word_none {ws : List (List UInt8)} {n : Nat} (h : ws.length < n) : wordN ws n = [] := by
  unfold wordN
  rw [if_neg (by omega), List.getD_eq_getElem?_getD, List.getElem?_eq_none (by omega)]
  rfl
/-- A number that is no constant has the word of 0. -/
theorem word_clip (ws : List (List UInt8)) (n : Nat) : ∃ k, k ≤ ws.length ∧ wordN ws n = wordN ws k ∧ (k = 0 ↔ ¬(1 ≤ n ∧ n ≤ ws.length)) ∧ (k ≠ 0 → n = k) := by
  by_cases h : 1 ≤ n ∧ n ≤ ws.length
  · exact ⟨n, h.2, rfl, by omega, fun _ => rfl⟩
  · refine ⟨0, Nat.zero_le _, ?_, by simp only [h]; simp, fun h0 => absurd rfl h0⟩
    by_cases h0 : n = 0
    · rw [h0]
    · rw [word_none (by omega)]; rfl
theorem word_some {ws : List (List UInt8)} (hw : ws.all (fun s => s.length != 0) = true) (n : Nat) : wordN ws n = [] ↔ ¬(1 ≤ n ∧ n ≤ ws.length) := by
  constructor
  · intro h ⟨h1, h2⟩
    unfold wordN at h
    rw [if_neg (by omega), List.getD_eq_getElem?_getD, List.getElem?_eq_getElem (by omega)] at h
    have := List.all_eq_true.1 hw _ (List.getElem_mem (l := ws) (n := n - 1) (by omega))
    rw [show ws[n - 1] = [] from h] at this
    simp at this
  · intro h
    obtain ⟨k, -, h1, h2, -⟩ := word_clip ws n
    rw [h1, h2.2 h]
    rfl
theorem word_ba {ws : List (List UInt8)} (hw : ws.all (fun s => s.length != 0) = true) (n : Nat) (m : Nat) (hm : ws.length = m) : (⟨(wordN ws n).toArray⟩ : ByteArray) = ⟨#[]⟩ ∧ ¬(1 ≤ n ∧ n ≤ m) ∨ (⟨(wordN ws n).toArray⟩ : ByteArray) ≠ ⟨#[]⟩ ∧ (1 ≤ n ∧ n ≤ m) := by
  subst hm
  by_cases h : wordN ws n = []
  · exact .inl ⟨by rw [h], (word_some hw n).1 h⟩
  · refine .inr ⟨fun e => h ?_, Decidable.not_not.1 fun h1 => h ((word_some hw n).2 h1)⟩
    have := congrArg (fun b : ByteArray => b.data.toList) e
    simpa using this
theorem ba_ne {b : ByteArray} (h : b ≠ ⟨#[]⟩) : b.toList.isEmpty = false := by
  rw [ByteArray.toList_eq]
  cases e : b.data.toList with
  | nil => exact absurd (ByteArray.ext (by rw [← Array.toList_inj]; exact e)) h
  | cons x l => rfl
theorem word_len {ws : List (List UInt8)} (hw : ws.all (fun s => decide (s.length ≤ 8)) = true) (n : Nat) : (⟨(wordN ws n).toArray⟩ : ByteArray).size ≤ 8 := by
  show (wordN ws n).toArray.size ≤ 8
  rw [List.size_toArray]
  unfold wordN
  split
  · simp
  · rw [List.getD_eq_getElem?_getD]
    cases e : ws[n - 1]? with
    | none => simp
    | some s => exact of_decide_eq_true (List.all_eq_true.1 hw s (List.mem_of_getElem? e))
theorem wcase {ws : List (List UInt8)} (hw : ws.all (fun s => s.length != 0) = true) (n : Nat) (m : Nat) (hm : ws.length = m) (M : Int) (hM : (m : Int) = M) : (⟨(wordN ws n).toArray⟩ : ByteArray) = ⟨#[]⟩ ∧ ¬ 1 ≤ (n : Int) ∨ (⟨(wordN ws n).toArray⟩ : ByteArray) = ⟨#[]⟩ ∧ 1 ≤ (n : Int) ∧ ¬ (n : Int) ≤ M ∨ (⟨(wordN ws n).toArray⟩ : ByteArray).toList.isEmpty = false ∧ 1 ≤ (n : Int) ∧ (n : Int) ≤ M := by
  rcases word_ba hw n m hm with ⟨h1, h2⟩ | ⟨h1, h2⟩
  · by_cases h : 1 ≤ n
    · exact .inr (.inl ⟨h1, by omega, by omega⟩)
    · exact .inl ⟨h1, by omega⟩
  · exact .inr (.inr ⟨ba_ne h1, by omega, by omega⟩)
end Go.Proofs.YtlngbjphagnloaaGreatDoor
