/-
  parse: ParseCodes: numbers as texts; sources of tokens.
-/
import Derived.Test.YtlngbjphagnloaaGreatDoorParQ
import Derived.Test.YtlngbjphagnloaaGreatDoorPk4
namespace Go.Proofs.YtlngbjphagnloaaGreatDoor
/-- A number's digits. -/
def digsF : Nat → Nat → List UInt8
  | 0, n => [UInt8.ofNat (48 + n % 10)]
  | f + 1, n => if n ≤ 9 then [UInt8.ofNat (48 + n % 10)] else digsF f (n / 10) ++ [UInt8.ofNat (48 + n % 10)]
def digs (n : Nat) : List UInt8 := digsF 9 n
theorem dig_nat (n : Nat) : (UInt8.ofNat (48 + n % 10)).toNat = 48 + n % 10 := by
  rw [UInt8.toNat_ofNat']
  omega
theorem dig_ok (n : Nat) : digitB (UInt8.ofNat (48 + n % 10)) = true := by
  unfold digitB
  rw [dig_nat]
  simp
  omega
theorem dig_val (n : Nat) : digV (UInt8.ofNat (48 + n % 10)) = n % 10 := by
  unfold digV
  rw [dig_nat]
  omega
theorem numV_snoc (s : List UInt8) (b : UInt8) : numV (s ++ [b]) = numV s * 10 + digV b := by simp [numV]
theorem digsF_ok : ∀ (f n : Nat), n < 10 ^ (f + 1) → numV (digsF f n) = n ∧ (digsF f n).all digitB = true ∧ (1 ≤ n → ∃ b r, digsF f n = b :: r ∧ b ≠ 48) ∧ 1 ≤ (digsF f n).length ∧ (digsF f n).length ≤ f + 1 ∧ (9 < n → 2 ≤ (digsF f n).length)
  | 0, n, h => by
    have h : n < 10 := by simpa using h
    refine ⟨?_, by simp only [digsF, List.all_cons, List.all_nil, dig_ok, Bool.and_true], fun h1 => ⟨_, [], rfl, fun e => ?_⟩, by simp [digsF], by simp [digsF], fun h => by omega⟩
    · show numV [UInt8.ofNat (48 + n % 10)] = n
      simp only [numV, List.foldl, dig_val]
      omega
    · have := congrArg UInt8.toNat e
      rw [dig_nat] at this
      have h48 : (48 : UInt8).toNat = 48 := rfl
      omega
  | f + 1, n, h => by
    unfold digsF
    by_cases h9 : n ≤ 9
    · rw [if_pos h9]
      have h0 : n < 10 ^ (0 + 1) := by simp; omega
      obtain ⟨h1, h2, h3, h4, h5, h6⟩ := digsF_ok 0 n h0
      exact ⟨h1, h2, h3, h4, by simp, h6⟩
    · rw [if_neg h9]
      have hd : n / 10 < 10 ^ (f + 1) := by
        rw [Nat.div_lt_iff_lt_mul (by decide), ← Nat.pow_succ]
        exact h
      obtain ⟨h1, h2, h3, h4, h5, h6⟩ := digsF_ok f (n / 10) hd
      refine ⟨?_, ?_, fun _ => ?_, by simp, by simp; omega, fun _ => by simp; omega⟩
      · rw [numV_snoc, h1, dig_val]
        omega
      · simp only [List.all_append, h2, List.all_cons, List.all_nil, dig_ok, Bool.and_true]
      · obtain ⟨b, r, e, hb⟩ := h3 (by omega)
        exact ⟨b, r ++ [_], by rw [e]; rfl, hb⟩
theorem digs_val (n : Nat) (h : n ≤ 1073741824) : numV (digs n) = n := (digsF_ok 9 n (by omega)).1
theorem numB_of {s : List UInt8} (h1 : s.all digitB = true) (h2 : numV s ≤ 1073741824) (h3 : ∃ b r, s = b :: r ∧ (r = [] ∨ b ≠ 48)) : numB s = true := by
  obtain ⟨b, r, rfl, h⟩ := h3
  unfold numB
  rw [h1]
  cases r with
  | nil => simpa using h2
  | cons c r =>
    simp at h ⊢
    exact ⟨h, h2⟩
theorem digs_num (n : Nat) (h : n ≤ 1073741824) : numB (digs n) = true := by
  obtain ⟨h1, h2, h3, h4, _, h6⟩ := digsF_ok 9 n (by omega)
  refine numB_of h2 (by rw [digs_val n h]; exact h) ?_
  rcases Nat.eq_zero_or_pos n with h0 | h0
  · subst h0
    exact ⟨_, [], rfl, .inl rfl⟩
  · obtain ⟨b, r, e, hb⟩ := h3 h0
    exact ⟨b, r, e, .inr hb⟩
/-- A token of a text that is to be written: its kind, its text, whether a blank follows. -/
structure Wr where
  kind : Nat
  text : List UInt8
  gap : Bool
def srcOf : List Wr → List UInt8
  | [] => []
  | x :: r => x.text ++ ((if x.gap then [32] else []) ++ srcOf r)
def toksOf : Nat → List Wr → List Tok
  | _, [] => []
  | p, x :: r => ⟨x.kind, x.text, p⟩ :: toksOf (p + x.text.length + (if x.gap then 1 else 0)) r
/-- A token is well made, and what follows it ends it. -/
def okW : List Wr → Prop
  | [] => True
  | x :: r => (∃ q, ValidT ⟨x.kind, x.text, q⟩) ∧ (x.gap = true ∨ r = [] ∨ ∃ y s b t, r = y :: s ∧ y.text = b :: t ∧ innerB b = false) ∧ okW r
theorem ValidT.move {k : Nat} {tx : List UInt8} {p q : Nat} (h : ValidT ⟨k, tx, p⟩) : ValidT ⟨k, tx, q⟩ := h
theorem lex_src : ∀ (l : List Wr) (p : Nat), okW l → lexA p (srcOf l) = (toksOf p l, 0, 0)
  | [], p, _ => lexA_nil p
  | x :: r, p, h => by
    obtain ⟨⟨q, hv⟩, hg, hr⟩ := h
    have hs : ∀ c s, (if x.gap then [32] else []) ++ srcOf r = c :: s → innerB c = false := fun c s e => by
      rcases hg with hg | rfl | ⟨y, s', b, t, rfl, hy, hb⟩
      · rw [hg] at e
        injection e with e _
        rw [← e]; rfl
      · cases hx : x.gap with
        | true => rw [hx] at e; injection e with e _; rw [← e]; rfl
        | false => rw [hx] at e; cases e
      · cases hx : x.gap with
        | true => rw [hx] at e; injection e with e _; rw [← e]; rfl
        | false =>
          rw [hx] at e
          unfold srcOf at e
          rw [hy] at e
          injection e with e _
          rw [← e]; exact hb
    unfold srcOf toksOf
    rw [lexA_tok p ⟨x.kind, x.text, p⟩ _ hv.move hs]
    dsimp only
    cases hx : x.gap with
    | true =>
      have : lexA (p + x.text.length) ((if true = true then [32] else []) ++ srcOf r) = lexA (p + x.text.length + 1) (srcOf r) := by
        show lexA _ (32 :: srcOf r) = _
        rw [lexA_skip _ (32 :: srcOf r), lexA_skip (p + x.text.length + 1) (srcOf r), skipN_f, if_pos (show blankB 32 = true from rfl), Nat.add_comm 1, List.drop_succ_cons]
        rw [show p + x.text.length + (skipN false (srcOf r) + 1) = p + x.text.length + 1 + skipN false (srcOf r) from by omega]
      rw [this, lex_src r _ hr]
      rfl
    | false =>
      have : lexA (p + x.text.length) ((if false = true then [32] else []) ++ srcOf r) = lexA (p + x.text.length) (srcOf r) := rfl
      rw [this, lex_src r _ hr]
      rfl
end Go.Proofs.YtlngbjphagnloaaGreatDoor
