/-
  The forms of tokens: plain facts.
-/
import Derived.Test.YtnpadhjjkoiihaaDoorBackP
import Derived.Test.YtnpadhjjkoiihaaDoorRNumP
namespace Go.Proofs.YtnpadhjjkoiihaaDoor
open Go.RowKit
structure FormT (t : Tok) : Prop where
  kind : t.kind = 1 ∨ t.kind = 2 ∨ t.kind = 3
  sign : t.kind = 3 → ∃ b, t.text = [b] ∧ signB b = true
  word : t.kind = 1 → ∃ b r, t.text = b :: r ∧ letterB b = true ∧ (∀ c ∈ r, innerB c = true) ∧ (b :: r).length ≤ 24
  num : t.kind = 2 → numB t.text = true
theorem take_run (r : List UInt8) : r.take (runN r) = r.takeWhile innerB := by
  unfold runN
  exact List.prefix_iff_eq_take.1 (List.takeWhile_prefix innerB) |>.symm
theorem run_all (r : List UInt8) : ∀ c ∈ r.take (runN r), innerB c = true := by
  rw [take_run]
  have := List.all_takeWhile (l := r) (p := innerB)
  rw [List.all_eq_true] at this
  exact this
theorem tok_cases (b : UInt8) (r : List UInt8) (h : (tokN (b :: r)).2.2 = 0) : (tokN (b :: r) = (1, 1 + runN r, 0) ∧ letterB b = true ∧ 1 + runN r ≤ 24) ∨ (tokN (b :: r) = (2, 1 + runN r, 0) ∧ letterB b = false ∧ digitB b = true ∧ numB (b :: r.take (runN r)) = true) ∨ (tokN (b :: r) = (3, 1, 0) ∧ letterB b = false ∧ digitB b = false ∧ signB b = true) := by
  by_cases h1 : letterB b = true
  · by_cases h2 : 24 < 1 + runN r
    · unfold tokN at h; simp only [h1, if_true, h2] at h; cases h
    · exact .inl ⟨by unfold tokN; simp [h1, h2], h1, by omega⟩
  · have h1' : letterB b = false := by simpa using h1
    by_cases h2 : digitB b = true
    · by_cases h3 : numB (b :: r.take (runN r)) = true
      · exact .inr (.inl ⟨by unfold tokN; simp [h1', h2, h3], h1', h2, h3⟩)
      · exfalso; unfold tokN at h; simp only [h1, h2, h3, if_true] at h; simp at h
    · have h2' : digitB b = false := by simpa using h2
      by_cases h3 : signB b = true
      · exact .inr (.inr ⟨by unfold tokN; simp [h1', h2', h3], h1', h2', h3⟩)
      · exfalso; unfold tokN at h; simp only [h1, h2, h3] at h; simp at h
theorem form_tok (b : UInt8) (r : List UInt8) (at_ : Nat) (h : (tokN (b :: r)).2.2 = 0) : FormT ⟨(tokN (b :: r)).1, (b :: r).take (tokN (b :: r)).2.1, at_⟩ := by
  have hr := runN_le r
  rcases tok_cases b r h with ⟨e, h1, h2⟩ | ⟨e, h1, h2, h3⟩ | ⟨e, h1, h2, h3⟩
  · rw [e]
    refine ⟨.inl rfl, (fun h => by cases h), fun _ => ⟨b, r.take (runN r), by simp only; rw [Nat.add_comm, List.take_succ_cons], h1, run_all r, by rw [List.length_cons, List.length_take]; omega⟩, (fun h => by cases h)⟩
  · rw [e]
    refine ⟨.inr (.inl rfl), (fun h => by cases h), (fun h => by cases h), fun _ => ?_⟩
    simp only
    rw [Nat.add_comm, List.take_succ_cons]
    exact h3
  · rw [e]
    exact ⟨.inr (.inr rfl), fun _ => ⟨b, by simp, h3⟩, (fun h => by cases h), (fun h => by cases h)⟩
theorem form_all (p : Nat) (l : List UInt8) : ∀ t ∈ (lexA p l).1, FormT t := by
  refine lexA_ind (fun p l q => ∀ t ∈ q.1, FormT t) ?_ ?_ ?_ l.length p l (Nat.le_refl _)
  · intro p l _ t ht; simp at ht
  · intro p l b r h hz ih t ht
    rcases List.mem_cons.1 ht with rfl | ht
    · exact form_tok b r _ hz
    · exact ih t ht
  · intro p l b r _ _ t ht; simp at ht
/-- Two tokens without a gap are not both words or numbers (e: where the one before ends; c: it is one). -/
def Adj : Nat → Bool → List Tok → Prop
  | _, _, [] => True
  | e, c, t :: r => (c = true → t.kind ≠ 3 → t.at_ ≠ e) ∧ Adj (t.at_ + t.text.length) (decide (t.kind ≠ 3)) r
theorem drop_run_head (r : List UInt8) (c : UInt8) (s : List UInt8) (h : r.drop (runN r) = c :: s) : innerB c = false := by
  unfold runN at h
  rw [drop_run] at h
  have h2 := List.head?_dropWhile_not innerB r
  rw [h] at h2
  simpa using h2
theorem inner_start (b : UInt8) (h : letterB b = true ∨ digitB b = true) : innerB b = true := by
  unfold innerB
  rcases h with h | h <;> rw [h] <;> simp
theorem adj_of (p : Nat) (l : List UInt8) : ∀ c : Bool, (c = true → ∀ x s, l = x :: s → innerB x = false) → Adj p c (lexA p l).1 := by
  refine lexA_ind (fun p l q => ∀ c : Bool, (c = true → ∀ x s, l = x :: s → innerB x = false) → Adj p c q.1) ?_ ?_ ?_ l.length p l (Nat.le_refl _)
  · intro p l _ c _; trivial
  · intro p l b r h hz ih c hc
    have hr := runN_le r
    have htl : ((b :: r).take (tokN (b :: r)).2.1).length = (tokN (b :: r)).2.1 := by
      have hle := tokN_le b r
      rw [List.length_take, List.length_cons]; omega
    refine ⟨fun hct hk => ?_, ?_⟩
    · simp only at hk ⊢
      rcases Nat.eq_zero_or_pos (skipN false l) with h0 | h0
      · exfalso
        rw [h0, List.drop_zero] at h
        have hx := hc hct b r h
        rcases tok_cases b r hz with ⟨e, h1, h2⟩ | ⟨e, h1, h2, h3⟩ | ⟨e, h1, h2, h3⟩
        · rw [inner_start b (.inl h1)] at hx; cases hx
        · rw [inner_start b (.inr h2)] at hx; cases hx
        · rw [e] at hk; exact hk rfl
      · omega
    · simp only [htl]
      refine ih _ (fun hd x s hx => ?_)
      have hd' : (tokN (b :: r)).1 ≠ 3 := by simpa using hd
      rcases tok_cases b r hz with ⟨e, h1, h2⟩ | ⟨e, h1, h2, h3⟩ | ⟨e, h1, h2, h3⟩
      · rw [e] at hx; simp only at hx
        rw [Nat.add_comm, List.drop_succ_cons] at hx
        exact drop_run_head r x s hx
      · rw [e] at hx; simp only at hx
        rw [Nat.add_comm, List.drop_succ_cons] at hx
        exact drop_run_head r x s hx
      · rw [e] at hd'; exact absurd rfl hd'
  · intro p l b r _ _ c _; trivial
theorem adj_at : ∀ (l : List Tok) (e : Nat) (c : Bool) (i : Nat) (t u : Tok), Adj e c l → l[i]? = some t → l[i + 1]? = some u → t.kind ≠ 3 → u.kind ≠ 3 → t.at_ + t.text.length ≠ u.at_
  | [], _, _, _, _, _, _, h, _, _, _ => by simp at h
  | x :: r, e, c, 0, t, u, hA, h1, h2, h3, h4 => by
    simp at h1
    subst h1
    cases r with
    | nil => simp at h2
    | cons y r =>
      simp at h2
      subst h2
      exact fun hh => (hA.2.1 (by simpa using h3)) h4 hh.symm
  | x :: r, e, c, i + 1, t, u, hA, h1, h2, h3, h4 => adj_at r _ _ i t u hA.2 (by simpa using h1) (by simpa using h2) h3 h4
theorem foldV_split : ∀ (s : List UInt8) (a : Nat), foldV a s = a * 10 ^ s.length + foldV 0 s
  | [], a => by simp [foldV]
  | b :: r, a => by
    have h1 := foldV_split r (a * 10 + digV b)
    have h2 := foldV_split r (0 * 10 + digV b)
    have e1 : foldV a (b :: r) = foldV (a * 10 + digV b) r := rfl
    have e2 : foldV 0 (b :: r) = foldV (0 * 10 + digV b) r := rfl
    rw [e1, e2, h1, h2, List.length_cons, Nat.pow_succ]
    rw [Nat.zero_mul, Nat.zero_add, Nat.add_mul, Nat.mul_assoc, Nat.mul_comm 10, Nat.add_assoc]
theorem foldV_lt : ∀ (s : List UInt8), s.all digitB = true → foldV 0 s < 10 ^ s.length
  | [], _ => by simp [foldV]
  | b :: r, h => by
    simp only [List.all_cons, Bool.and_eq_true] at h
    have ih := foldV_lt r h.2
    have hd := digV_lt b h.1
    have e2 : foldV 0 (b :: r) = foldV (0 * 10 + digV b) r := rfl
    rw [e2, foldV_split, List.length_cons, Nat.pow_succ, Nat.zero_mul, Nat.zero_add]
    have : digV b * 10 ^ r.length ≤ 9 * 10 ^ r.length := Nat.mul_le_mul_right _ (by omega)
    omega
theorem less_num : ∀ (s m : List UInt8), s.length = m.length → s.all digitB = true → m.all digitB = true → Op.bytesLess s m = true ∨ s = m ∨ foldV 0 m < foldV 0 s
  | [], [], _, _, _ => .inr (.inl rfl)
  | [], _ :: _, h, _, _ => by simp at h
  | _ :: _, [], h, _, _ => by simp at h
  | b :: r, c :: q, h, h1, h2 => by
    simp only [List.all_cons, Bool.and_eq_true] at h1 h2
    simp only [List.length_cons, Nat.add_right_cancel_iff] at h
    have e1 : foldV 0 (b :: r) = foldV (0 * 10 + digV b) r := rfl
    have e2 : foldV 0 (c :: q) = foldV (0 * 10 + digV c) q := rfl
    rw [e1, e2, foldV_split r (0 * 10 + digV b), foldV_split q (0 * 10 + digV c)]
    simp only [Nat.zero_mul, Nat.zero_add]
    obtain ⟨b1, b2⟩ := (digitB_iff b).1 h1.1
    obtain ⟨c1, c2⟩ := (digitB_iff c).1 h2.1
    rcases Nat.lt_trichotomy b.toNat c.toNat with hlt | heq | hgt
    · exact .inl (by unfold Op.bytesLess; simp [UInt8.lt_iff_toNat_lt, hlt])
    · have hbc : b = c := UInt8.toNat_inj.1 heq
      subst hbc
      rcases less_num r q h h1.2 h2.2 with hh | hh | hh
      · exact .inl (by unfold Op.bytesLess; simp [hh])
      · exact .inr (.inl (by rw [hh]))
      · rw [h]; exact .inr (.inr (by omega))
    · have hq := foldV_lt q h2.2
      have hd : digV c + 1 ≤ digV b := by unfold digV; omega
      have hm : (digV c + 1) * 10 ^ q.length ≤ digV b * 10 ^ q.length := Nat.mul_le_mul_right _ hd
      rw [Nat.add_mul, Nat.one_mul] at hm
      rw [h]
      exact .inr (.inr (by omega))
def limL : List UInt8 := [49, 48, 55, 51, 55, 52, 49, 56, 50, 52]
theorem num_form (s : List UInt8) (h : numB s = true) : (∀ c ∈ s, digitB c = true) ∧ 0 < s.length ∧ (s.length < 10 ∨ (s.length = 10 ∧ (Op.bytesLess s limL || s == limL) = true)) ∧ (s[0]? ≠ some 48 ∨ s = [48]) := by
  obtain ⟨h1, h2, h3, h4⟩ := all_of_numB h
  have hpos : 0 < s.length := by
    cases s with
    | nil => exact absurd rfl h3
    | cons b r => simp
  refine ⟨fun c hc => List.all_eq_true.1 h1 c hc, hpos, ?_, ?_⟩
  · have hle : s.length ≤ 10 := by
      rcases Nat.lt_or_ge 10 s.length with hlt | hge
      · exfalso
        match s, h1, h2, h4, hlt with
        | b :: r, h1, h2, h4, hlt =>
          have hb := h4 (by simp only [List.length_cons] at hlt ⊢; omega)
          simp only [List.all_cons, Bool.and_eq_true] at h1
          obtain ⟨b1, b2⟩ := (digitB_iff b).1 h1.1
          have hb48 : b.toNat ≠ 48 := fun e => hb (by simp; exact UInt8.toNat_inj.1 e)
          have e : numV (b :: r) = foldV (0 * 10 + digV b) r := rfl
          rw [e, foldV_split, Nat.zero_mul, Nat.zero_add] at h2
          have hd : 1 ≤ digV b := by unfold digV; omega
          have hp : 10 ^ 10 ≤ 10 ^ r.length := Nat.pow_le_pow_right (by omega) (by simp only [List.length_cons] at hlt; omega)
          have hm : 1 * 10 ^ r.length ≤ digV b * 10 ^ r.length := Nat.mul_le_mul_right _ hd
          have h10 : (10 : Nat) ^ 10 = 10000000000 := by decide
          omega
      · omega
    rcases Nat.lt_or_ge s.length 10 with hlt | hge
    · exact .inl hlt
    · have h10 : s.length = 10 := by omega
      refine .inr ⟨h10, ?_⟩
      have hlim : limL.all digitB = true := by decide
      have hv : foldV 0 limL = 1073741824 := by decide
      have e : numV s = foldV 0 s := rfl
      rcases less_num s limL h10 h1 hlim with hh | hh | hh
      · rw [hh]; rfl
      · rw [hh]; simp
      · omega
  · rcases Nat.lt_or_ge s.length 2 with hlt | hge
    · match s, hpos, hlt with
      | [b], _, _ =>
        by_cases hb : b = 48
        · right; rw [hb]
        · left; simpa using hb
    · exact .inl (h4 hge)
end Go.Proofs.YtnpadhjjkoiihaaDoor
