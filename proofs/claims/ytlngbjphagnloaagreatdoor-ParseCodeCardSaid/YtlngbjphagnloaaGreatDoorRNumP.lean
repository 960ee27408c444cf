/-
  Numbers, as the reference reads them: the states of its loop.
-/
import Derived.Test.YtlngbjphagnloaaGreatDoorPk3
namespace Go.Proofs.YtlngbjphagnloaaGreatDoor
def numOk (l : List UInt8) (k : Nat) : Prop := (l.take k).all digitB = true ∧ numV (l.take k) ≤ 1073741824 ∧ (2 ≤ k → l[0]? ≠ some 48)
theorem numOk_zero (l : List UInt8) : numOk l 0 := by refine ⟨by simp, by simp [numV], fun h => by omega⟩
theorem all_of_numB {l : List UInt8} (h : numB l = true) : l.all digitB = true ∧ numV l ≤ 1073741824 ∧ l ≠ [] ∧ (2 ≤ l.length → l[0]? ≠ some 48) := by
  unfold numB at h
  simp only [Bool.and_eq_true, decide_eq_true_eq] at h
  obtain ⟨⟨h1, h2⟩, h3⟩ := h
  match l, h1, h2, h3 with
  | [], h1, h2, h3 => simp at h2
  | [a], h1, h2, h3 => exact ⟨h1, h3, by simp, fun h => by simp at h⟩
  | a :: b :: r, h1, h2, h3 => exact ⟨h1, h3, by simp, fun _ => by simpa using h2⟩
theorem numB_of {l : List UInt8} (h1 : l.all digitB = true) (h2 : numV l ≤ 1073741824) (h3 : l ≠ []) (h4 : 2 ≤ l.length → l[0]? ≠ some 48) : numB l = true := by
  unfold numB
  simp only [Bool.and_eq_true, decide_eq_true_eq]
  match l, h1, h2, h3, h4 with
  | [], h1, h2, h3, h4 => exact absurd rfl h3
  | [a], h1, h2, h3, h4 => exact ⟨⟨h1, rfl⟩, h2⟩
  | a :: b :: r, h1, h2, h3, h4 => exact ⟨⟨h1, by have := h4 (by simp); simpa using this⟩, h2⟩
theorem numV_take (l : List UInt8) (k : Nat) (b : UInt8) (h : l[k]? = some b) : numV (l.take (k + 1)) = numV (l.take k) * 10 + digV b := by
  obtain ⟨hk, rfl⟩ := List.getElem?_eq_some_iff.1 h
  rw [List.take_succ_eq_append_getElem hk]
  exact foldV_snoc 0 _ _
theorem numV_take_le (l : List UInt8) (k : Nat) : numV (l.take k) ≤ numV l := by
  conv => rhs; rw [← List.take_append_drop k l]
  show foldV 0 _ ≤ foldV 0 _
  unfold foldV
  rw [List.foldl_append]
  exact foldV_le _ _
theorem num_bad1 {l : List UInt8} {k : Nat} {b : UInt8} (h : l[k]? = some b) (hb : digitB b = false) : numB l = false := by
  rw [Bool.eq_false_iff]
  intro hn
  have := List.all_eq_true.1 (all_of_numB hn).1 b (List.mem_of_getElem? h)
  rw [hb] at this
  cases this
theorem num_first {l : List UInt8} {k : Nat} (h : numOk l k) (h1 : 1 ≤ k) (hk : k ≤ l.length) (h0 : numV (l.take k) = 0) : k = 1 ∧ l[0]? = some 48 := by
  obtain ⟨ha, -, h3⟩ := h
  match l, hk with
  | [], hk => simp at hk; omega
  | b :: r, hk =>
    obtain ⟨k, rfl⟩ : ∃ j, k = j + 1 := ⟨k - 1, by omega⟩
    rw [List.take_succ_cons] at ha h0
    simp only [List.all_cons, Bool.and_eq_true] at ha
    have hp : b = 48 := by
      rcases Classical.em (b = 48) with h | h
      · exact h
      · have := foldV_pos b (r.take k) ha.1 h
        have e : foldV 0 (b :: r.take k) = numV (b :: r.take k) := rfl
        omega
    subst hp
    refine ⟨?_, rfl⟩
    rcases Nat.eq_zero_or_pos k with h | h
    · omega
    · exact absurd rfl (h3 (by omega))
theorem num_bad2 {l : List UInt8} {k : Nat} (h : numOk l k) (hk : k < l.length) (h1 : 1 ≤ k) (h0 : numV (l.take k) = 0) : numB l = false := by
  rw [Bool.eq_false_iff]
  intro hn
  obtain ⟨e1, e2⟩ := num_first h h1 (by omega) h0
  exact (all_of_numB hn).2.2.2 (by omega) e2
theorem num_bad3 {l : List UInt8} {k : Nat} {b : UInt8} (h : l[k]? = some b) (hn : 1073741824 < numV (l.take k) * 10 + digV b) : numB l = false := by
  rw [Bool.eq_false_iff]
  intro hh
  have h1 := (all_of_numB hh).2.1
  have h2 := numV_take_le l (k + 1)
  rw [numV_take l k b h] at h2
  omega
theorem num_next {l : List UInt8} {k : Nat} {b : UInt8} (h : numOk l k) (hk : l[k]? = some b) (hb : digitB b = true) (h0 : 1 ≤ k → numV (l.take k) ≠ 0) (hn : numV (l.take k) * 10 + digV b ≤ 1073741824) : numOk l (k + 1) := by
  have hkl := (List.getElem?_eq_some_iff.1 hk).1
  refine ⟨?_, by rw [numV_take l k b hk]; exact hn, fun h2 e => ?_⟩
  · obtain ⟨hk', rfl⟩ := List.getElem?_eq_some_iff.1 hk
    rw [List.take_succ_eq_append_getElem hk', List.all_append, h.1]
    simpa using hb
  · rcases Nat.lt_or_ge k 2 with hlt | hge
    · have hk1 : k = 1 := by omega
      subst hk1
      refine h0 (by omega) ?_
      match l, e with
      | a :: r, e =>
        simp only [List.getElem?_cons_zero, Option.some.injEq] at e
        subst e
        rfl
    · exact h.2.2 hge e
theorem num_end {l : List UInt8} (h : numOk l l.length) : numB l = decide (0 < l.length) := by
  obtain ⟨h1, h2, h3⟩ := h
  rw [List.take_length] at h1 h2
  cases l with
  | nil => rfl
  | cons b r => rw [numB_of h1 h2 (by simp) h3]; simp
theorem digV_num (b : UInt8) (h : digitB b = true) : ((digV b : Nat) : Int) = (b.toNat : Int) - 48 := by
  obtain ⟨h1, h2⟩ := (digitB_iff b).1 h
  unfold digV
  omega
end Go.Proofs.YtlngbjphagnloaaGreatDoor
