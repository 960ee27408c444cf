/-
  lex: what Atoi and Itoa say of a number, against numB.
-/
import Derived.Test.YteghlkcgeadoaaaDoorLexM
import Derived.Lib.AtoiAll
import Derived.Lib.ItoaNum
namespace Go.Proofs.YteghlkcgeadoaaaDoor
open Go
/-- What the program's test says of a string. -/
def numC (s : List UInt8) : Bool := match Lib.atoiAll s with
  | .ok v => decide (v ≤ 1073741824) && (Lib.itoa v == s)
  | _ => false
def foldV (a : Nat) (s : List UInt8) : Nat := s.foldl (fun n b => n * 10 + digV b) a
theorem foldV_le : ∀ (s : List UInt8) (a : Nat), a ≤ foldV a s
  | [], a => Nat.le_refl _
  | b :: r, a => by
    have := foldV_le r (a * 10 + digV b)
    show a ≤ foldV (a * 10 + digV b) r
    omega
theorem digitB_iff (b : UInt8) : digitB b = true ↔ 48 ≤ b.toNat ∧ b.toNat ≤ 57 := by simp [digitB]
theorem parse_ok : ∀ (s : List UInt8) (a u : Nat), Lib.parseUint10 a s = .ok u → s.all digitB = true ∧ u = foldV a s
  | [], a, u, h => by
    simp only [Lib.parseUint10] at h
    injection h with h
    exact ⟨rfl, h.symm⟩
  | b :: r, a, u, h => by
    simp only [Lib.parseUint10] at h
    split at h
    · rename_i hd
      split at h
      · cases h
      · split at h
        · cases h
        · obtain ⟨h1, h2⟩ := parse_ok r _ u h
          exact ⟨by rw [List.all_cons, h1, (digitB_iff b).2 hd]; rfl, h2⟩
    · cases h
theorem ok_parse : ∀ (s : List UInt8) (a : Nat), s.all digitB = true → foldV a s ≤ 1073741824 → Lib.parseUint10 a s = .ok (foldV a s)
  | [], a, _, _ => rfl
  | b :: r, a, h, hv => by
    rw [List.all_cons, Bool.and_eq_true] at h
    have hd := (digitB_iff b).1 h.1
    have e : foldV a (b :: r) = foldV (a * 10 + digV b) r := rfl
    rw [e] at hv ⊢
    have h2 := foldV_le r (a * 10 + digV b)
    have ih := ok_parse r (a * 10 + digV b) h.2 hv
    unfold digV at *
    simp only [Lib.parseUint10]
    rw [if_pos hd, if_neg (by omega), if_neg (by omega)]
    exact ih
theorem dec_eq (u : Nat) : Lib.decDigits u = if u < 10 then [(48 + u).toUInt8] else Lib.decDigits (u / 10) ++ [(48 + u % 10).toUInt8] := by
  conv => lhs; unfold Lib.decDigits
  split <;> rfl
theorem ofdig (b : UInt8) (h : digitB b = true) : (48 + digV b).toUInt8 = b := by
  have hd := (digitB_iff b).1 h
  unfold digV
  rw [show 48 + (b.toNat - 48) = b.toNat from by omega]
  simp
theorem digV_lt (b : UInt8) (h : digitB b = true) : digV b < 10 := by
  have hd := (digitB_iff b).1 h
  unfold digV; omega
theorem foldV_snoc (a : Nat) (s : List UInt8) (d : UInt8) : foldV a (s ++ [d]) = foldV a s * 10 + digV d := by simp [foldV]
theorem foldV_pos (b : UInt8) (r : List UInt8) (hb : digitB b = true) (h0 : b ≠ 48) : 1 ≤ foldV 0 (b :: r) := by
  have h := foldV_le r (0 * 10 + digV b)
  have hd := (digitB_iff b).1 hb
  have hn : b.toNat ≠ 48 := fun e => h0 (UInt8.toNat_inj.1 e)
  show 1 ≤ foldV (0 * 10 + digV b) r
  unfold digV at *
  omega
theorem dec_num : ∀ (n : Nat) (b : UInt8) (r : List UInt8), r.length ≤ n → (b :: r).all digitB = true → (r = [] ∨ b ≠ 48) → Lib.decDigits (foldV 0 (b :: r)) = b :: r
  | n, b, r, hn, ha, h0 => by
    rcases List.eq_nil_or_concat r with rfl | ⟨r', d, rfl⟩
    · rw [List.all_cons, Bool.and_eq_true] at ha
      have hv : foldV 0 [b] = digV b := by simp [foldV]
      have := digV_lt b ha.1
      rw [hv, dec_eq, if_pos this, ofdig b ha.1]
    · cases n with
      | zero => simp at hn
      | succ n =>
        have hb : b ≠ 48 := by rcases h0 with h0 | h0; simp at h0; exact h0
        have ha2 : (b :: r').all digitB = true ∧ digitB d = true := by simpa [List.all_cons, List.all_append, Bool.and_eq_true, and_assoc] using ha
        have hbd : digitB b = true := by have := ha2.1; rw [List.all_cons, Bool.and_eq_true] at this; exact this.1
        have ih := dec_num n b r' (by simp at hn; omega) ha2.1 (.inr hb)
        have hp := foldV_pos b r' hbd hb
        have hd := digV_lt d ha2.2
        have e : b :: r'.concat d = (b :: r') ++ [d] := by rw [List.concat_eq_append]; rfl
        rw [e, foldV_snoc, dec_eq, if_neg (by omega), show (foldV 0 (b :: r') * 10 + digV d) / 10 = foldV 0 (b :: r') from by omega, show (foldV 0 (b :: r') * 10 + digV d) % 10 = digV d from by omega, ih, ofdig d ha2.2]
theorem dec_head : ∀ (n u : Nat), u ≤ n → 0 < u → ∃ b r, Lib.decDigits u = b :: r ∧ b ≠ 48
  | n, u, hn, h => by
    by_cases h10 : u < 10
    · refine ⟨_, _, by rw [dec_eq, if_pos h10], fun e => ?_⟩
      have := congrArg UInt8.toNat e
      simp at this
      omega
    · cases n with
      | zero => omega
      | succ n =>
        obtain ⟨b, r, e, hb⟩ := dec_head n (u / 10) (by omega) (by omega)
        exact ⟨b, r ++ [(48 + u % 10).toUInt8], by rw [dec_eq, if_neg h10, e]; rfl, hb⟩
theorem atoi_dig (b : UInt8) (r : List UInt8) (hb : digitB b = true) (v : Int) (h : Lib.atoiAll (b :: r) = .ok v) : ∃ u : Nat, Lib.parseUint10 0 (b :: r) = .ok u ∧ v = u := by
  have hd := (digitB_iff b).1 hb
  have h1 : ¬ (b.toNat = 43 ∨ b.toNat = 45) := by omega
  have h2 : ¬ b.toNat = 45 := by omega
  unfold Lib.atoiAll Lib.parseMag at h
  simp only [h1, if_false, reduceCtorEq] at h
  cases hp : Lib.parseUint10 0 (b :: r) with
  | ok u =>
    rw [hp] at h
    simp only [h2, not_false_eq_true, true_and, false_and, if_false] at h
    split at h
    · cases h
    · injection h with h
      exact ⟨u, rfl, h.symm⟩
  | _ => rw [hp] at h; cases h
theorem dig_atoi (b : UInt8) (r : List UInt8) (hb : digitB b = true) (u : Nat) (hp : Lib.parseUint10 0 (b :: r) = .ok u) (hu : u < 9223372036854775808) : Lib.atoiAll (b :: r) = .ok (u : Int) := by
  have hd := (digitB_iff b).1 hb
  have h1 : ¬ (b.toNat = 43 ∨ b.toNat = 45) := by omega
  have h2 : ¬ b.toNat = 45 := by omega
  unfold Lib.atoiAll Lib.parseMag
  simp only [h1, if_false, reduceCtorEq]
  rw [hp]
  simp only [h2, not_false_eq_true, true_and, false_and, if_false]
  rw [if_neg (by omega)]
theorem numC_eq (b : UInt8) (r : List UInt8) (hb : digitB b = true) : numC (b :: r) = numB (b :: r) := by
  rw [Bool.eq_iff_iff]
  have hv : numV (b :: r) = foldV 0 (b :: r) := rfl
  constructor
  · intro h
    unfold numC at h
    cases hx : Lib.atoiAll (b :: r) with
    | ok v =>
      rw [hx] at h
      obtain ⟨u, hp, rfl⟩ := atoi_dig b r hb v hx
      obtain ⟨h1, h2⟩ := parse_ok _ _ _ hp
      simp only [Bool.and_eq_true, decide_eq_true_eq, beq_iff_eq] at h
      have hi : Lib.itoa (u : Int) = Lib.decDigits u := by unfold Lib.itoa; rw [if_neg (by omega)]; simp
      rw [hi] at h
      unfold numB
      rw [h1, hv, ← h2]
      have hu : u ≤ 1073741824 := by omega
      cases r with
      | nil => simp [hu]
      | cons c r =>
        have hz : b ≠ 48 := by
          intro e
          subst e
          by_cases hu0 : u = 0
          · subst hu0
            have := h.2
            rw [dec_eq, if_pos (by decide)] at this
            simp at this
          · obtain ⟨b', r', e, hb'⟩ := dec_head u u (Nat.le_refl _) (by omega)
            rw [e] at h
            exact hb' (by have := h.2; injection this)
        simp [hu, hz]
    | _ => rw [hx] at h; cases h
  · intro h
    unfold numB at h
    simp only [Bool.and_eq_true, decide_eq_true_eq] at h
    obtain ⟨⟨h1, h2⟩, h3⟩ := h
    rw [hv] at h3
    have hp := ok_parse (b :: r) 0 h1 h3
    unfold numC
    rw [dig_atoi b r hb _ hp (by omega)]
    simp only [Bool.and_eq_true, decide_eq_true_eq, beq_iff_eq]
    refine ⟨by omega, ?_⟩
    have hi : Lib.itoa (foldV 0 (b :: r) : Int) = Lib.decDigits (foldV 0 (b :: r)) := by unfold Lib.itoa; rw [if_neg (by omega)]; simp
    rw [hi]
    refine dec_num r.length b r (Nat.le_refl _) h1 ?_
    cases r with
    | nil => exact .inl rfl
    | cons c r => right; simpa using h2
end Go.Proofs.YteghlkcgeadoaaaDoor
