/-
  Lexing again what was joined; where the tokens lie: plain facts.
-/
import Derived.Test.YtnpadhjjkoiihaaDoorAlike
import Derived.Test.YtnpadhjjkoiihaaDoorJns
namespace Go.Proofs.YtnpadhjjkoiihaaDoor
open Go.RowKit
theorem lexA_ind (P : Nat → List UInt8 → List Tok × Nat × Nat → Prop)
    (h0 : ∀ p l, l.drop (skipN false l) = [] → P p l ([], 0, 0))
    (h1 : ∀ p l b r, l.drop (skipN false l) = b :: r → (tokN (b :: r)).2.2 = 0 → P (p + skipN false l + (tokN (b :: r)).2.1) ((b :: r).drop (tokN (b :: r)).2.1) (lexA (p + skipN false l + (tokN (b :: r)).2.1) ((b :: r).drop (tokN (b :: r)).2.1)) →
      P p l (⟨(tokN (b :: r)).1, (b :: r).take (tokN (b :: r)).2.1, p + skipN false l⟩ :: (lexA (p + skipN false l + (tokN (b :: r)).2.1) ((b :: r).drop (tokN (b :: r)).2.1)).1, (lexA (p + skipN false l + (tokN (b :: r)).2.1) ((b :: r).drop (tokN (b :: r)).2.1)).2))
    (h2 : ∀ p l b r, l.drop (skipN false l) = b :: r → (tokN (b :: r)).2.2 ≠ 0 → P p l ([], p + skipN false l, (tokN (b :: r)).2.2)) :
    ∀ (n p : Nat) (l : List UInt8), l.length ≤ n → P p l (lexA p l)
  | n, p, l, hn => by
    rw [lexA_eq]
    have hd : (l.drop (skipN false l)).length ≤ l.length := by rw [List.length_drop]; omega
    cases h : l.drop (skipN false l) with
    | nil => exact h0 p l h
    | cons b r =>
      rw [h] at hd
      simp only [List.length_cons] at hd
      simp only
      by_cases hz : (tokN (b :: r)).2.2 = 0
      · have hp := tokN_pos b r hz
        have hl : ((b :: r).drop (tokN (b :: r)).2.1).length < l.length := by rw [List.length_drop, List.length_cons]; omega
        cases n with
        | zero => omega
        | succ n =>
          rw [if_pos hz]
          exact h1 p l b r h hz (lexA_ind P h0 h1 h2 n _ _ (by omega))
      · rw [if_neg hz]
        exact h2 p l b r h hz
theorem lexA_sum (p : Nat) (l : List UInt8) : ((lexA p l).1.map (·.text.length)).sum ≤ l.length := by
  refine lexA_ind (fun p l q => (q.1.map (·.text.length)).sum ≤ l.length) ?_ ?_ ?_ l.length p l (Nat.le_refl _)
  · intro p l _; simp
  · intro p l b r h hz ih
    have hd : (l.drop (skipN false l)).length = l.length - skipN false l := List.length_drop
    rw [h] at hd
    simp only [List.length_cons] at hd
    rw [List.length_drop, List.length_cons] at ih
    have hle := tokN_le b r
    simp only [List.map_cons, List.sum_cons, List.length_take, List.length_cons]
    omega
  · intro p l b r _ _; simp
theorem lexA_err (p : Nat) (l : List UInt8) : (lexA p l).2.2 ≠ 0 → (lexA p l).1.length = (lexA p l).1.length ∧ (lexA p l).2.1 < p + l.length ∧ ((lexA p l).2.2 = 70 ∨ (lexA p l).2.2 = 71 ∨ (lexA p l).2.2 = 72) := by
  refine lexA_ind (fun p l q => q.2.2 ≠ 0 → q.1.length = q.1.length ∧ q.2.1 < p + l.length ∧ (q.2.2 = 70 ∨ q.2.2 = 71 ∨ q.2.2 = 72)) ?_ ?_ ?_ l.length p l (Nat.le_refl _)
  · intro p l _ h; exact absurd rfl h
  · intro p l b r h hz ih he
    obtain ⟨_, i2, i3⟩ := ih he
    have hd : (l.drop (skipN false l)).length = l.length - skipN false l := List.length_drop
    rw [h] at hd
    simp only [List.length_cons] at hd
    rw [List.length_drop, List.length_cons] at i2
    have hle := tokN_le b r
    exact ⟨rfl, by simp only; omega, i3⟩
  · intro p l b r h hz _
    have hd : (l.drop (skipN false l)).length = l.length - skipN false l := List.length_drop
    rw [h] at hd
    simp only [List.length_cons] at hd
    refine ⟨rfl, by simp only; omega, ?_⟩
    simp only
    unfold tokN at hz ⊢
    simp only at hz ⊢
    split at hz
    · split at hz
      · rename_i h1 h2; rw [if_pos h1, if_pos h2]; simp
      · exact absurd rfl hz
    · rename_i h1
      rw [if_neg h1]
      split at hz
      · rename_i h2
        rw [if_pos h2]
        split at hz
        · exact absurd rfl hz
        · rename_i h3; rw [if_neg h3]; simp
      · rename_i h2
        rw [if_neg h2]
        split at hz
        · exact absurd rfl hz
        · rename_i h3; rw [if_neg h3]; simp
theorem skip_empty : ∀ (c : Bool) (l : List UInt8), emptyB c (l.take (skipN c l)) = true
  | c, [] => by simp [emptyB]
  | true, b :: r => by
    have h1 := skip_empty false r
    have h2 := skip_empty true r
    rw [skipN_t]
    cases hb : b == 10
    · simp only [Bool.false_eq_true, if_false]
      rw [Nat.add_comm, List.take_succ_cons, emptyB_in _ _ hb]; exact h2
    · simp only [if_true]
      rw [Nat.add_comm, List.take_succ_cons, emptyB_ten _ _ _ hb]; exact h1
  | false, b :: r => by
    have h1 := skip_empty false r
    have h2 := skip_empty true r
    rw [skipN_f]
    cases hbl : blankB b
    · simp only [Bool.false_eq_true, if_false]
      cases hc : b == 35
      · simp [emptyB]
      · simp only [if_true]
        have h10 : (b == 10) = false := by
          have : b = 35 := by simpa using hc
          rw [this]; rfl
        rw [Nat.add_comm, List.take_succ_cons, emptyB_hash _ _ h10 hc]; exact h2
    · simp only [if_true]
      rw [Nat.add_comm, List.take_succ_cons]
      cases h10 : b == 10
      · have h35 : (b == 35) = false := by
          cases hc : b == 35
          · rfl
          · have : b = 35 := by simpa using hc
            rw [this] at hbl; cases hbl
        have h3 : (b == 32 || b == 9 || b == 13) = true := by
          unfold blankB at hbl
          rw [h10] at hbl
          simpa using hbl
        rw [emptyB_blank _ _ h10 h35 h3]; exact h1
      · rw [emptyB_ten _ _ _ h10]; exact h1
/-- Each token lies in L where it says, and between them there are blanks and comments alone. -/
def Chain (L : List UInt8) : Nat → List Tok → Prop
  | f, [] => f ≤ L.length ∧ emptyB false (L.drop f) = true
  | f, t :: r => f ≤ t.at_ ∧ t.at_ + t.text.length ≤ L.length ∧ (L.drop t.at_).take t.text.length = t.text ∧ emptyB false ((L.drop f).take (t.at_ - f)) = true ∧ Chain L (t.at_ + t.text.length) r
theorem chain_of (L : List UInt8) (p : Nat) (l : List UInt8) : l = L.drop p → p ≤ L.length → (lexA p l).2.2 = 0 → Chain L p (lexA p l).1 := by
  refine lexA_ind (fun p l q => l = L.drop p → p ≤ L.length → q.2.2 = 0 → Chain L p q.1) ?_ ?_ ?_ l.length p l (Nat.le_refl _)
  · intro p l h hl hp _
    refine ⟨hp, ?_⟩
    have := skip_empty false l
    rw [List.take_of_length_le (by have := congrArg List.length h; rw [List.length_drop, List.length_nil] at this; omega)] at this
    rw [← hl]; exact this
  · intro p l b r h hz ih hl hp he
    have hd : l.drop (skipN false l) = L.drop (p + skipN false l) := by rw [hl, List.drop_drop]
    have hdl : (l.drop (skipN false l)).length = l.length - skipN false l := List.length_drop
    have hll : l.length = L.length - p := by rw [hl, List.length_drop]
    rw [h] at hdl hd
    simp only [List.length_cons] at hdl
    have hle := tokN_le b r
    have htl : ((b :: r).take (tokN (b :: r)).2.1).length = (tokN (b :: r)).2.1 := by rw [List.length_take, List.length_cons]; omega
    refine ⟨by simp only; omega, by simp only [htl]; omega, ?_, ?_, ?_⟩
    · simp only [htl]; rw [← hd]
    · simp only
      rw [show p + skipN false l - p = skipN false l from by omega, ← hl]
      exact skip_empty false l
    · simp only [htl]
      exact ih (by rw [hd, List.drop_drop]) (by omega) he
  · intro p l b r h hz hl hp he
    exact absurd he hz
/-- A token's text, whatever that is no inner byte follows it. -/
def ValidT (t : Tok) : Prop := ∃ b r, t.text = b :: r ∧ blankB b = false ∧ (b == 35) = false ∧ ∀ suf : List UInt8, (∀ c s, suf = c :: s → innerB c = false) → tokN (t.text ++ suf) = (t.kind, t.text.length, 0)
theorem start_no (b : UInt8) (h : letterB b = true ∨ digitB b = true ∨ signB b = true) : blankB b = false ∧ (b == 35) = false := by
  constructor
  · rw [Bool.eq_false_iff]
    intro hs
    unfold blankB at hs
    simp only [Bool.or_eq_true, beq_iff_eq] at hs
    rcases hs with ((rfl | rfl) | rfl) | rfl <;> revert h <;> decide
  · rw [Bool.eq_false_iff]
    intro hs
    have hs' : b = 35 := by simpa using hs
    subst hs'
    revert h; decide
theorem runN_app (r suf : List UInt8) (hs : ∀ c s, suf = c :: s → innerB c = false) : runN (r.take (runN r) ++ suf) = runN r ∧ (r.take (runN r) ++ suf).take (runN r) = r.take (runN r) := by
  have e : r.take (runN r) = r.takeWhile innerB := by
    unfold runN
    exact List.prefix_iff_eq_take.1 (List.takeWhile_prefix innerB) |>.symm
  have h1 : runN (r.take (runN r) ++ suf) = runN r := by
    rw [e]
    unfold runN
    rw [List.takeWhile_append_of_pos (fun a ha => by
      have := List.all_takeWhile (l := r) (p := innerB)
      rw [List.all_eq_true] at this
      exact this a ha)]
    cases suf with
    | nil => simp
    | cons c s => rw [List.takeWhile_cons, hs c s rfl]; simp
  refine ⟨h1, ?_⟩
  have hl : (r.take (runN r)).length = runN r := by rw [List.length_take]; have := runN_le r; omega
  rw [List.take_append_of_le_length (by omega), List.take_take]
  congr 1
  omega
theorem valid_tok (b : UInt8) (r : List UInt8) (at_ : Nat) (h : (tokN (b :: r)).2.2 = 0) : ValidT ⟨(tokN (b :: r)).1, (b :: r).take (tokN (b :: r)).2.1, at_⟩ := by
  have hr := runN_le r
  by_cases h1 : letterB b = true
  · by_cases h2 : 24 < 1 + runN r
    · unfold tokN at h; simp only [h1, if_true, h2] at h; cases h
    · have e : tokN (b :: r) = (1, 1 + runN r, 0) := by unfold tokN; simp [h1, h2]
      rw [e]
      obtain ⟨n1, n2⟩ := start_no b (.inl h1)
      refine ⟨b, r.take (runN r), by simp only; rw [Nat.add_comm, List.take_succ_cons], n1, n2, fun suf hs => ?_⟩
      simp only
      obtain ⟨a1, a2⟩ := runN_app r suf hs
      have hl : ((b :: r).take (1 + runN r)).length = 1 + runN r := by rw [List.length_take, List.length_cons]; omega
      rw [hl, Nat.add_comm 1, List.take_succ_cons, List.cons_append]
      unfold tokN
      simp only
      rw [if_pos h1, a1, if_neg h2, Nat.add_comm]
  · by_cases h2 : digitB b = true
    · by_cases h3 : numB (b :: r.take (runN r)) = true
      · have e : tokN (b :: r) = (2, 1 + runN r, 0) := by unfold tokN; simp [h1, h2, h3]
        rw [e]
        obtain ⟨n1, n2⟩ := start_no b (.inr (.inl h2))
        refine ⟨b, r.take (runN r), by simp only; rw [Nat.add_comm, List.take_succ_cons], n1, n2, fun suf hs => ?_⟩
        simp only
        obtain ⟨a1, a2⟩ := runN_app r suf hs
        have hl : ((b :: r).take (1 + runN r)).length = 1 + runN r := by rw [List.length_take, List.length_cons]; omega
        rw [hl, Nat.add_comm 1, List.take_succ_cons, List.cons_append]
        unfold tokN
        simp only
        rw [if_neg h1, if_pos h2, a1, a2, if_pos h3, Nat.add_comm]
      · exfalso
        unfold tokN at h
        simp only [h1, h2, h3, if_true] at h
        simp at h
    · by_cases h3 : signB b = true
      · have e : tokN (b :: r) = (3, 1, 0) := by unfold tokN; simp [h1, h2, h3]
        rw [e]
        obtain ⟨n1, n2⟩ := start_no b (.inr (.inr h3))
        refine ⟨b, [], by simp, n1, n2, fun suf hs => ?_⟩
        simp only [List.take_succ_cons, List.take_zero, List.cons_append, List.nil_append, List.length_cons, List.length_nil]
        unfold tokN
        simp only
        rw [if_neg h1, if_neg h2, if_pos h3]
      · exfalso
        unfold tokN at h
        simp only [h1, h2, h3] at h
        simp at h
theorem valid_all (p : Nat) (l : List UInt8) : ∀ t ∈ (lexA p l).1, ValidT t := by
  refine lexA_ind (fun p l q => ∀ t ∈ q.1, ValidT t) ?_ ?_ ?_ l.length p l (Nat.le_refl _)
  · intro p l _ t ht; simp at ht
  · intro p l b r h hz ih t ht
    rcases List.mem_cons.1 ht with rfl | ht
    · exact valid_tok b r _ hz
    · exact ih t ht
  · intro p l b r _ _ t ht; simp at ht
/-- At a valid token. -/
theorem lexA_tok (p : Nat) (t : Tok) (suf : List UInt8) (hv : ValidT t) (hs : ∀ c s, suf = c :: s → innerB c = false) : lexA p (t.text ++ suf) = (⟨t.kind, t.text, p⟩ :: (lexA (p + t.text.length) suf).1, (lexA (p + t.text.length) suf).2) := by
  obtain ⟨b, r, e, h1, h2, h3⟩ := hv
  have ht := h3 suf hs
  rw [lexA_eq]
  have hz : skipN false (t.text ++ suf) = 0 := by
    rw [e, List.cons_append, skipN_f, h1, h2]; simp
  rw [hz, List.drop_zero]
  have ec : t.text ++ suf = b :: (r ++ suf) := by rw [e]; rfl
  rw [ec] at ht ⊢
  simp only [ht, if_true, Nat.add_zero]
  rw [← ec, List.take_left, List.drop_left]
theorem lexA_blank (p : Nat) (b : UInt8) (r : List UInt8) (h : blankB b = true) : lexA p (b :: r) = lexA (p + 1) r := by
  rw [lexA_skip p (b :: r), lexA_skip (p + 1) r, skipN_f, if_pos h, Nat.add_comm 1, List.drop_succ_cons]
  rw [show p + (skipN false r + 1) = p + 1 + skipN false r from by omega]
def joinL (ts : List Tok) : List UInt8 := Lib.join (ts.map (·.text)) [32]
theorem joinL_cons (t u : Tok) (r : List Tok) : joinL (t :: u :: r) = t.text ++ 32 :: joinL (u :: r) := by
  unfold joinL Lib.join
  simp [List.intercalate]
theorem joinT_eq (ts : List Tok) : joinT (ts.map Tok.toZ) = joinL ts := by
  unfold joinT joinL
  rw [List.map_map]
  rfl
theorem lex_join : ∀ (ts : List Tok) (p : Nat), (∀ t ∈ ts, ValidT t) → ∃ us, lexA p (joinL ts) = (us, 0, 0) ∧ us.length = ts.length ∧ ∀ (i : Nat) (t u : Tok), ts[i]? = some t → us[i]? = some u → t.kind = u.kind ∧ t.text = u.text
  | [], p, _ => ⟨[], by rw [show joinL [] = [] from by simp [joinL, Lib.join, List.intercalate], lexA_nil], rfl, fun i t u h => by simp at h⟩
  | [t], p, hv => by
    have e : joinL [t] = t.text ++ [] := by simp [joinL, Lib.join, List.intercalate]
    refine ⟨[⟨t.kind, t.text, p⟩], ?_, rfl, fun i a u h1 h2 => ?_⟩
    · rw [e, lexA_tok p t [] (hv t (by simp)) (fun c s h => by cases h), lexA_nil]
    · cases i with
      | zero => simp at h1 h2; subst h1 h2; exact ⟨rfl, rfl⟩
      | succ i => simp at h1
  | t :: u :: r, p, hv => by
    obtain ⟨us, h1, h2, h3⟩ := lex_join (u :: r) (p + t.text.length + 1) (fun x hx => hv x (List.mem_cons_of_mem _ hx))
    refine ⟨⟨t.kind, t.text, p⟩ :: us, ?_, by simp only [List.length_cons] at h2 ⊢; omega, fun i a v e1 e2 => ?_⟩
    · rw [joinL_cons, lexA_tok p t _ (hv t (by simp)) (fun c s h => by injection h with h _; subst h; rfl), lexA_blank _ 32 _ rfl, h1]
    · cases i with
      | zero => simp at e1 e2; subst e1 e2; exact ⟨rfl, rfl⟩
      | succ i => exact h3 i a v (by simpa using e1) (by simpa using e2)
end Go.Proofs.YtnpadhjjkoiihaaDoor
