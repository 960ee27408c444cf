/-
  The lexer as plain functions: the steps of skipN, tokN and lexN; a token's length; the positions of tokens.
-/
import Derived.Test.YteghlkcgeadoaaaDoorLexM
namespace Go.Proofs.YteghlkcgeadoaaaDoor
/-- What is left to be lexed, with enough fuel. -/
def lexA (p : Nat) (l : List UInt8) : List Tok × Nat × Nat := lexN (l.length + 1) p l
theorem skipN_le : ∀ (c : Bool) (l : List UInt8), skipN c l ≤ l.length
  | _, [] => by simp [skipN]
  | true, b :: r => by
    unfold skipN
    have h1 := skipN_le false r
    have h2 := skipN_le true r
    split <;> simp only [List.length_cons] <;> omega
  | false, b :: r => by
    unfold skipN
    have h1 := skipN_le false r
    have h2 := skipN_le true r
    split
    · simp only [List.length_cons]; omega
    · split <;> simp only [List.length_cons] <;> omega
theorem runN_le (r : List UInt8) : runN r ≤ r.length := by
  unfold runN
  exact (List.takeWhile_prefix _).length_le
theorem tokN_pos (b : UInt8) (r : List UInt8) (h : (tokN (b :: r)).2.2 = 0) : 1 ≤ (tokN (b :: r)).2.1 := by
  unfold tokN at *
  simp only at *
  split
  · split <;> simp only <;> omega
  · split
    · split <;> simp only <;> omega
    · split
      · simp
      · rename_i h1 h2 h3
        rw [if_neg h1, if_neg h2, if_neg h3] at h
        simp at h
theorem tokN_le (b : UInt8) (r : List UInt8) : (tokN (b :: r)).2.1 ≤ r.length + 1 := by
  unfold tokN
  have := runN_le r
  simp only
  split
  · split <;> simp only <;> omega
  · split
    · split <;> simp only <;> omega
    · split <;> simp
theorem lexN_fuel : ∀ (f g p : Nat) (l : List UInt8), l.length < f → l.length < g → lexN f p l = lexN g p l
  | 0, _, _, _, h, _ => absurd h (by omega)
  | _ + 1, 0, _, _, _, h => absurd h (by omega)
  | f + 1, g + 1, p, l, hf, hg => by
    unfold lexN
    have hd : (l.drop (skipN false l)).length ≤ l.length := by rw [List.length_drop]; omega
    cases h : l.drop (skipN false l) with
    | nil => rfl
    | cons b r =>
      rw [h] at hd
      simp only [List.length_cons] at hd
      simp only
      split
      · rename_i h0
        have hp := tokN_pos b r h0
        have hl : ((b :: r).drop (tokN (b :: r)).2.1).length < l.length := by rw [List.length_drop, List.length_cons]; omega
        rw [lexN_fuel f g _ _ (by omega) (by omega)]
      · rfl
theorem lexA_eq (p : Nat) (l : List UInt8) : lexA p l = match l.drop (skipN false l) with
    | [] => ([], 0, 0)
    | b :: r =>
      if (tokN (b :: r)).2.2 = 0 then
        (⟨(tokN (b :: r)).1, (b :: r).take (tokN (b :: r)).2.1, p + skipN false l⟩ :: (lexA (p + skipN false l + (tokN (b :: r)).2.1) ((b :: r).drop (tokN (b :: r)).2.1)).1, (lexA (p + skipN false l + (tokN (b :: r)).2.1) ((b :: r).drop (tokN (b :: r)).2.1)).2)
      else ([], p + skipN false l, (tokN (b :: r)).2.2) := by
  unfold lexA
  have hd : (l.drop (skipN false l)).length ≤ l.length := by rw [List.length_drop]; omega
  conv => lhs; unfold lexN
  cases h : l.drop (skipN false l) with
  | nil => rfl
  | cons b r =>
    rw [h] at hd
    simp only [List.length_cons] at hd
    simp only
    split
    · rename_i h0
      have hp := tokN_pos b r h0
      have hl : ((b :: r).drop (tokN (b :: r)).2.1).length < l.length := by rw [List.length_drop, List.length_cons]; omega
      rw [lexN_fuel l.length (((b :: r).drop (tokN (b :: r)).2.1).length + 1) _ _ (by omega) (by omega)]
    · rfl
theorem lexA_nil (p : Nat) : lexA p [] = ([], 0, 0) := by rw [lexA_eq]; simp
theorem skipN_t (b : UInt8) (r : List UInt8) : skipN true (b :: r) = 1 + (if b == 10 then skipN false r else skipN true r) := by
  conv => lhs; unfold skipN
  split <;> rfl
theorem skipN_f (b : UInt8) (r : List UInt8) : skipN false (b :: r) = if blankB b then 1 + skipN false r else if b == 35 then 1 + skipN true r else 0 := by
  conv => lhs; unfold skipN
theorem skipN_skip : ∀ (c : Bool) (l : List UInt8), skipN false (l.drop (skipN c l)) = 0
  | true, [] => rfl
  | false, [] => rfl
  | true, b :: r => by
    have h1 := skipN_skip false r
    have h2 := skipN_skip true r
    rw [skipN_t, Nat.add_comm 1, List.drop_succ_cons]
    cases hb : b == 10
    · exact h2
    · exact h1
  | false, b :: r => by
    have h1 := skipN_skip false r
    have h2 := skipN_skip true r
    have e := skipN_f b r
    by_cases hb : blankB b = true
    · rw [if_pos hb] at e
      rw [e, Nat.add_comm 1, List.drop_succ_cons]; exact h1
    · rw [if_neg hb] at e
      by_cases hc : (b == 35) = true
      · rw [if_pos hc] at e
        rw [e, Nat.add_comm 1, List.drop_succ_cons]; exact h2
      · rw [if_neg hc] at e
        rw [e, List.drop_zero, e]
/-- After what is skipped. -/
theorem lexA_skip (p : Nat) (l : List UInt8) : lexA p l = lexA (p + skipN false l) (l.drop (skipN false l)) := by
  have h0 : skipN false (l.drop (skipN false l)) = 0 := skipN_skip false l
  rw [lexA_eq p l, lexA_eq (p + skipN false l), h0]
  simp
/-- What the scanner yields: the tokens, and behind the last one the invalid one, if any, with its error. -/
def elsN : Nat → Nat → List UInt8 → List (Tok × Nat)
  | 0, _, _ => []
  | f + 1, p, l =>
    match l.drop (skipN false l) with
    | [] => []
    | b :: r =>
      (⟨(tokN (b :: r)).1, (b :: r).take (tokN (b :: r)).2.1, p + skipN false l⟩, (tokN (b :: r)).2.2) ::
        (if (tokN (b :: r)).2.2 = 0 then elsN f (p + skipN false l + (tokN (b :: r)).2.1) ((b :: r).drop (tokN (b :: r)).2.1) else [])
def elsA (p : Nat) (l : List UInt8) : List (Tok × Nat) := elsN (l.length + 1) p l
theorem elsN_fuel : ∀ (f g p : Nat) (l : List UInt8), l.length < f → l.length < g → elsN f p l = elsN g p l
  | 0, _, _, _, h, _ => absurd h (by omega)
  | _ + 1, 0, _, _, _, h => absurd h (by omega)
  | f + 1, g + 1, p, l, hf, hg => by
    unfold elsN
    have hd : (l.drop (skipN false l)).length ≤ l.length := by rw [List.length_drop]; omega
    cases h : l.drop (skipN false l) with
    | nil => rfl
    | cons b r =>
      rw [h] at hd
      simp only [List.length_cons] at hd
      simp only
      split
      · rename_i h0
        have hp := tokN_pos b r h0
        have hl : ((b :: r).drop (tokN (b :: r)).2.1).length < l.length := by rw [List.length_drop, List.length_cons]; omega
        rw [elsN_fuel f g _ _ (by omega) (by omega)]
      · rfl
theorem elsA_eq (p : Nat) (l : List UInt8) : elsA p l = match l.drop (skipN false l) with
    | [] => []
    | b :: r =>
      (⟨(tokN (b :: r)).1, (b :: r).take (tokN (b :: r)).2.1, p + skipN false l⟩, (tokN (b :: r)).2.2) ::
        (if (tokN (b :: r)).2.2 = 0 then elsA (p + skipN false l + (tokN (b :: r)).2.1) ((b :: r).drop (tokN (b :: r)).2.1) else []) := by
  unfold elsA
  have hd : (l.drop (skipN false l)).length ≤ l.length := by rw [List.length_drop]; omega
  conv => lhs; unfold elsN
  cases h : l.drop (skipN false l) with
  | nil => rfl
  | cons b r =>
    rw [h] at hd
    simp only [List.length_cons] at hd
    simp only
    split
    · rename_i h0
      have hp := tokN_pos b r h0
      have hl : ((b :: r).drop (tokN (b :: r)).2.1).length < l.length := by rw [List.length_drop, List.length_cons]; omega
      rw [elsN_fuel l.length (((b :: r).drop (tokN (b :: r)).2.1).length + 1) _ _ (by omega) (by omega)]
    · rfl
theorem elsA_skip (p : Nat) (l : List UInt8) : elsA p l = elsA (p + skipN false l) (l.drop (skipN false l)) := by
  have h0 : skipN false (l.drop (skipN false l)) = 0 := skipN_skip false l
  rw [elsA_eq p l, elsA_eq (p + skipN false l), h0]
  simp
/-- The result of Lex out of what the scanner yields. -/
theorem lex_els : ∀ (n p : Nat) (l : List UInt8), l.length ≤ n → ((lexA p l).2.2 = 0 → elsA p l = (lexA p l).1.map (·, 0) ∧ (lexA p l).2.1 = 0) ∧
    ((lexA p l).2.2 ≠ 0 → ∃ t : Tok, elsA p l = (lexA p l).1.map (·, 0) ++ [(t, (lexA p l).2.2)] ∧ t.at_ = (lexA p l).2.1)
  | n, p, l, hn => by
    rw [lexA_eq, elsA_eq]
    have hd : (l.drop (skipN false l)).length ≤ l.length := by rw [List.length_drop]; omega
    cases h : l.drop (skipN false l) with
    | nil => simp
    | cons b r =>
      rw [h] at hd
      simp only [List.length_cons] at hd
      simp only
      by_cases h0 : (tokN (b :: r)).2.2 = 0
      · have hp := tokN_pos b r h0
        have hl : ((b :: r).drop (tokN (b :: r)).2.1).length < l.length := by rw [List.length_drop, List.length_cons]; omega
        cases n with
        | zero => omega
        | succ n =>
          have ih := lex_els n (p + skipN false l + (tokN (b :: r)).2.1) ((b :: r).drop (tokN (b :: r)).2.1) (by omega)
          rw [if_pos h0, if_pos h0]
          refine ⟨fun he => ?_, fun he => ?_⟩
          · obtain ⟨i1, i2⟩ := ih.1 he
            exact ⟨by rw [i1]; simp [h0], i2⟩
          · obtain ⟨t, i1, i2⟩ := ih.2 he
            exact ⟨t, by rw [i1]; simp [h0], i2⟩
      · rw [if_neg h0, if_neg h0]
        exact ⟨fun he => absurd he h0, fun _ => ⟨_, rfl, rfl⟩⟩
theorem elsA_errs : ∀ (n p : Nat) (l : List UInt8), l.length ≤ n → ∀ pre x suf, elsA p l = pre ++ x :: suf → (∀ y ∈ pre, y.2 = 0) ∧ (x.2 ≠ 0 → suf = [])
  | n, p, l, hn, pre, x, suf, he => by
    have h0 := lex_els n p l hn
    by_cases hz : (lexA p l).2.2 = 0
    · have h1 := (h0.1 hz).1
      rw [h1] at he
      have ha : ∀ y ∈ pre ++ x :: suf, y.2 = 0 := by
        rw [← he]; intro y hy
        obtain ⟨t, _, rfl⟩ := List.mem_map.1 hy
        rfl
      exact ⟨fun y hy => ha y (by simp [hy]), fun hx => absurd (ha x (by simp)) hx⟩
    · obtain ⟨t, h1, _⟩ := h0.2 hz
      rw [h1] at he
      rcases List.eq_nil_or_concat suf with rfl | ⟨suf, z, rfl⟩
      · refine ⟨fun y hy => ?_, fun _ => rfl⟩
        have hi := List.append_inj' he.symm (by simp)
        rw [hi.1] at hy
        obtain ⟨t, _, rfl⟩ := List.mem_map.1 hy
        rfl
      · have he2 : List.map (fun x => (x, 0)) (lexA p l).1 ++ [(t, (lexA p l).2.2)] = (pre ++ x :: suf) ++ [z] := by rw [he]; simp
        have hi := (List.append_inj' he2 (by simp)).1
        have ha : ∀ y ∈ pre ++ x :: suf, y.2 = 0 := by
          rw [← hi]; intro y hy
          obtain ⟨t, _, rfl⟩ := List.mem_map.1 hy
          rfl
        exact ⟨fun y hy => ha y (by simp [hy]), fun hx => absurd (ha x (by simp)) hx⟩
end Go.Proofs.YteghlkcgeadoaaaDoor
