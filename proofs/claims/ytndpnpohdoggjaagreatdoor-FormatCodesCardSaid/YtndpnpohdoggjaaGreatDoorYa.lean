/-
  What is printed, lexed: kinds and texts of the tokens.
-/
import Derived.Test.YtndpnpohdoggjaaGreatDoorFUa
namespace Go.Proofs.YtndpnpohdoggjaaGreatDoor
def tk2 (t : Tok) : Nat × List UInt8 := (t.kind, t.text)
/-- The text's tokens, whatever follows. -/
def LxF (a : List UInt8) (ks : List (Nat × List UInt8)) : Prop := ∀ p r, ∃ ts, lexA p (a ++ r) = (ts ++ (lexA (p + a.length) r).1, (lexA (p + a.length) r).2) ∧ ts.map tk2 = ks
theorem LxF.nil : LxF [] [] := fun _ _ => ⟨[], rfl, rfl⟩
theorem LxF.app {a b : List UInt8} {ka kb : List (Nat × List UInt8)} (ha : LxF a ka) (hb : LxF b kb) : LxF (a ++ b) (ka ++ kb) := fun p r => by
  obtain ⟨t1, e1, m1⟩ := ha p (b ++ r)
  obtain ⟨t2, e2, m2⟩ := hb (p + a.length) r
  refine ⟨t1 ++ t2, ?_, by rw [List.map_append, m1, m2]⟩
  rw [List.append_assoc, e1, e2, List.length_append, Nat.add_assoc]
  simp
theorem lx_blank {b : UInt8} (hb : blankB b = true) : LxF [b] [] := fun p r => by
  refine ⟨[], ?_, rfl⟩
  have h1 : skipN false (b :: r) = skipN false r + 1 := by
    simp [skipN, hb, Nat.add_comm]
  show lexA p (b :: r) = (lexA (p + 1) r)
  rw [lexA_eq p (b :: r), lexA_eq (p + 1) r, h1, List.drop_succ_cons, show p + (skipN false r + 1) = p + 1 + skipN false r by omega]
theorem skip_no {b : UInt8} {r : List UInt8} (h1 : blankB b = false) (h2 : (b == 35) = false) : skipN false (b :: r) = 0 := by
  simp [skipN, h1, h2]
theorem lx_at {p n k : Nat} {b : UInt8} {r : List UInt8} (h1 : blankB b = false) (h2 : (b == 35) = false) (ht : tokN (b :: r) = (k, n, 0)) : lexA p (b :: r) = (⟨k, (b :: r).take n, p⟩ :: (lexA (p + n) ((b :: r).drop n)).1, (lexA (p + n) ((b :: r).drop n)).2) := by
  rw [lexA_eq, skip_no h1 h2]
  simp only [List.drop_zero, Nat.add_zero, ht, if_true]
theorem lx_sign {b : UInt8} (hs : signB b = true) (h1 : letterB b = false) (h2 : digitB b = false) (h3 : blankB b = false) (h4 : (b == 35) = false) : LxF [b] [(3, [b])] := fun p r => by
  refine ⟨[⟨3, [b], p⟩], ?_, rfl⟩
  have ht : tokN (b :: r) = (3, 1, 0) := by
    unfold tokN
    simp [hs, h1, h2]
  show lexA p (b :: r) = _
  rw [lx_at h3 h4 ht]
  rfl
theorem run_all {w : List UInt8} {d : UInt8} {r : List UInt8} (hw : w.all innerB = true) (hd : innerB d = false) : runN (w ++ d :: r) = w.length := by
  unfold runN
  rw [List.takeWhile_append_of_pos (fun a ha => List.all_eq_true.1 hw a ha), List.takeWhile_cons, hd]
  simp
theorem letter_no {b : UInt8} (h : letterB b = true ∨ digitB b = true) : blankB b = false ∧ (b == 35) = false := by
  constructor
  · rw [Bool.eq_false_iff]
    intro hs
    unfold blankB at hs
    simp only [Bool.or_eq_true, beq_iff_eq] at hs
    rcases hs with ((rfl | rfl) | rfl) | rfl <;> revert h <;> decide
  · rw [Bool.eq_false_iff]
    intro hs
    have hs' : b = 35 := by simpa using hs
    subst hs'
    revert h; decide
theorem word_form {s : List UInt8} (h : wordF s = true) : ∃ b r, s = b :: r ∧ letterB b = true ∧ r.all innerB = true ∧ r.length + 1 ≤ 24 := by
  unfold wordF at h
  split at h
  · rename_i t p e
    simp only [Bool.and_eq_true, beq_iff_eq] at h
    have e2 : lexA 0 s = ([t], p, 0) := by
      unfold lexR at e
      split at e
      · cases e
      · split at e
        · exact e
        · rename_i hne
          injection e with _ e3
          injection e3 with _ e4
          exact absurd e4 hne
    rw [lexA_eq] at e2
    split at e2
    · cases e2
    · rename_i b r _
      split at e2
      · rename_i h0
        injection e2 with e3 _
        injection e3 with e4 _
        have hk := h.1
        rw [← e4] at hk
        have ht := h.2
        rw [← e4] at ht
        simp only at hk ht
        have e5 : r.take (runN r) = r.takeWhile innerB := by
          unfold runN
          exact (List.prefix_iff_eq_take.1 (List.takeWhile_prefix innerB)).symm
        by_cases h1 : letterB b = true
        · by_cases h2 : 24 < 1 + runN r
          · exfalso
            revert h0
            unfold tokN
            simp only [h1, if_true, if_pos h2]
            decide
          · have e6 : (tokN (b :: r)).2.1 = 1 + runN r := by unfold tokN; simp only [h1, if_true, if_neg h2]
            rw [e6, Nat.add_comm, List.take_succ_cons] at ht
            refine ⟨b, r.take (runN r), ht.symm, h1, by rw [e5]; exact List.all_takeWhile, ?_⟩
            rw [List.length_take]
            omega
        · exfalso
          revert hk
          unfold tokN
          simp only
          rw [if_neg h1]
          split
          · split <;> simp
          · split <;> simp
      · cases e2
  · cases h
theorem lx_word {w B : List UInt8} {d : UInt8} {kb : List (Nat × List UInt8)} (hw : wordF w = true) (hd : innerB d = false) (hb : LxF (d :: B) kb) : LxF (w ++ d :: B) ((1, w) :: kb) := fun p r => by
  obtain ⟨b, v, rfl, hl, hv, hn⟩ := word_form hw
  obtain ⟨ts, e, m⟩ := hb (p + (v.length + 1)) r
  refine ⟨⟨1, b :: v, p⟩ :: ts, ?_, by rw [List.map_cons, m]; rfl⟩
  obtain ⟨n1, n2⟩ := letter_no (.inl hl)
  have hr : runN (v ++ d :: (B ++ r)) = v.length := run_all hv hd
  have ht : tokN (b :: (v ++ d :: (B ++ r))) = (1, v.length + 1, 0) := by
    unfold tokN
    simp only [hl, if_true, hr]
    rw [if_neg (by omega), Nat.add_comm]
  rw [List.append_assoc, List.cons_append, List.cons_append, lx_at n1 n2 ht, List.take_succ_cons, List.drop_succ_cons, List.take_left, List.drop_left]
  rw [List.cons_append] at e
  rw [e]
  simp only [List.length_append, List.length_cons, List.cons_append, Prod.mk.injEq]
  rw [show p + (v.length + (B.length + 1) + 1) = p + (v.length + 1) + (B.length + 1) by omega]
  exact ⟨rfl, rfl⟩
theorem dec_headY : ∀ (n u : Nat), u ≤ n → 1 ≤ u → ∃ b r, Lib.decDigits u = b :: r ∧ (b != 48) = true
  | n, u, hn, h1 => by
    rw [Lib.decDigits]
    split
    · rename_i h
      refine ⟨_, [], rfl, ?_⟩
      rcases (by omega : u = 1 ∨ u = 2 ∨ u = 3 ∨ u = 4 ∨ u = 5 ∨ u = 6 ∨ u = 7 ∨ u = 8 ∨ u = 9) with rfl | rfl | rfl | rfl | rfl | rfl | rfl | rfl | rfl <;> decide
    · rename_i h
      cases n with
      | zero => omega
      | succ n =>
        obtain ⟨b, r, e, hb⟩ := dec_headY n (u / 10) (by omega) (by omega)
        exact ⟨b, r ++ [UInt8.ofNat (48 + u % 10)], by rw [e]; rfl, hb⟩
theorem dec_numB {u : Nat} (h : u ≤ 1073741824) : numB (Lib.decDigits u) = true := by
  have h1 := dec_says u u (Nat.le_refl _)
  unfold numB
  rw [h1.1, h1.2]
  simp only [Bool.true_and, Bool.and_eq_true, decide_eq_true_eq]
  refine ⟨?_, h⟩
  by_cases h0 : u < 10
  · rw [Lib.decDigits, dif_pos h0]
  · obtain ⟨b, r, e, hb⟩ := dec_headY u u (Nat.le_refl _) (by omega)
    rw [e]
    cases r with
    | nil => rfl
    | cons c r => exact hb
theorem num_form {n : Int} (h : numF n = true) : ∃ b r, Lib.itoa n = b :: r ∧ digitB b = true ∧ r.all innerB = true ∧ numB (b :: r) = true ∧ ((numV (Lib.itoa n) : Nat) : Int) = n := by
  simp only [numF, Bool.and_eq_true, decide_eq_true_eq] at h
  obtain ⟨u, rfl⟩ : ∃ u : Nat, n = u := ⟨n.toNat, by omega⟩
  rw [Lib.itoa_nonneg]
  have h1 := dec_says u u (Nat.le_refl _)
  have h2 := dec_numB (u := u) (by omega)
  rw [h1.2]
  cases e : Lib.decDigits u with
  | nil => rw [e] at h2; simp [numB] at h2
  | cons b r =>
    rw [e] at h1 h2
    have h3 := h1.1
    rw [List.all_cons, Bool.and_eq_true] at h3
    refine ⟨b, r, rfl, h3.1, ?_, h2, rfl⟩
    rw [List.all_eq_true] at h3 ⊢
    intro c hc
    have := h3.2 c hc
    simp [innerB, this]
theorem digit_no_letter {b : UInt8} (h : digitB b = true) : letterB b = false := by
  simp only [digitB, letterB, Bool.and_eq_true, decide_eq_true_eq, Bool.or_eq_false_iff, Bool.and_eq_false_iff, decide_eq_false_iff_not] at h ⊢
  omega
theorem lx_num {n : Int} {B : List UInt8} {d : UInt8} {kb : List (Nat × List UInt8)} (hn : numF n = true) (hd : innerB d = false) (hb : LxF (d :: B) kb) : LxF (Lib.itoa n ++ d :: B) ((2, Lib.itoa n) :: kb) := fun p r => by
  obtain ⟨b, v, e0, hl, hv, hnum, -⟩ := num_form hn
  rw [e0]
  obtain ⟨ts, e, m⟩ := hb (p + (v.length + 1)) r
  refine ⟨⟨2, b :: v, p⟩ :: ts, ?_, by rw [List.map_cons, m]; rfl⟩
  obtain ⟨n1, n2⟩ := letter_no (.inr hl)
  have hr : runN (v ++ d :: (B ++ r)) = v.length := run_all hv hd
  have ht : tokN (b :: (v ++ d :: (B ++ r))) = (2, v.length + 1, 0) := by
    unfold tokN
    simp only [hl, if_true, hr, digit_no_letter hl, List.take_left, hnum]
    rw [if_neg (by simp), Nat.add_comm]
  rw [List.append_assoc, List.cons_append, List.cons_append, lx_at n1 n2 ht, List.take_succ_cons, List.drop_succ_cons, List.take_left, List.drop_left]
  rw [List.cons_append] at e
  rw [e]
  simp only [List.length_append, List.length_cons, List.cons_append, Prod.mk.injEq]
  rw [show p + (v.length + (B.length + 1) + 1) = p + (v.length + 1) + (B.length + 1) by omega]
  exact ⟨rfl, rfl⟩
theorem lx_blank_app {b : UInt8} {B : List UInt8} {kb : List (Nat × List UInt8)} (hb : blankB b = true) (h : LxF B kb) : LxF (b :: B) kb := (lx_blank hb).app h
theorem lx_sign_app {b : UInt8} {B : List UInt8} {kb : List (Nat × List UInt8)} (hs : signB b = true) (h1 : letterB b = false) (h2 : digitB b = false) (h3 : blankB b = false) (h4 : (b == 35) = false) (h : LxF B kb) : LxF (b :: B) ((3, [b]) :: kb) := (lx_sign hs h1 h2 h3 h4).app h
/-- The whole text's tokens. -/
theorem LxF.whole {a : List UInt8} {ks : List (Nat × List UInt8)} (h : LxF a ks) (hl : a.length ≤ 65536) : ∃ ts, lexR a = (ts, 0, 0) ∧ ts.map tk2 = ks := by
  obtain ⟨ts, e, m⟩ := h 0 []
  rw [List.append_nil] at e
  have h0 : ∀ p, lexA p [] = ([], 0, 0) := fun p => by rw [lexA_eq]; rfl
  rw [h0] at e
  simp only [List.append_nil] at e
  refine ⟨ts, ?_, m⟩
  unfold lexR
  rw [if_neg (by omega), e]
  rfl
end Go.Proofs.YtndpnpohdoggjaaGreatDoor
