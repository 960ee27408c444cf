/-
  lex: two sources separated by a newline: plain facts.
-/
import Derived.Test.YtlngbjphagnloaaGreatDoorPk4
namespace Go.Proofs.YtlngbjphagnloaaGreatDoor
open Go.RowKit
theorem skip_app : ∀ (c : Bool) (a b : List UInt8), skipN c (a ++ 10 :: b) = if skipN c a = a.length then a.length + 1 + skipN false b else skipN c a
  | true, [], b => by rw [List.nil_append, skipN_t]; simp [skipN]
  | false, [], b => by rw [List.nil_append, skipN_f]; simp [skipN, blankB]
  | true, x :: r, b => by
    have h1 := skip_app false r b
    have h2 := skip_app true r b
    rw [List.cons_append, skipN_t, skipN_t, h1, h2, List.length_cons]
    cases hx : x == 10
    · simp only [Bool.false_eq_true, if_false]
      by_cases hk : skipN true r = r.length
      · rw [if_pos hk, if_pos (by omega)]; omega
      · rw [if_neg hk, if_neg (by omega)]
    · simp only [if_true]
      by_cases hk : skipN false r = r.length
      · rw [if_pos hk, if_pos (by omega)]; omega
      · rw [if_neg hk, if_neg (by omega)]
  | false, x :: r, b => by
    have h1 := skip_app false r b
    have h2 := skip_app true r b
    rw [List.cons_append, skipN_f, skipN_f, h1, h2, List.length_cons]
    cases hx : blankB x
    · simp only [Bool.false_eq_true, if_false]
      cases hy : x == 35
      · simp
      · simp only [if_true]
        by_cases hk : skipN true r = r.length
        · rw [if_pos hk, if_pos (by omega)]; omega
        · rw [if_neg hk, if_neg (by omega)]
    · simp only [if_true]
      by_cases hk : skipN false r = r.length
      · rw [if_pos hk, if_pos (by omega)]; omega
      · rw [if_neg hk, if_neg (by omega)]
theorem runN_ten (r b : List UInt8) : runN (r ++ 10 :: b) = runN r := by
  unfold runN
  rw [List.takeWhile_append]
  split
  · rename_i h
    rw [List.takeWhile_cons, if_neg (by decide)]
    simp [h]
  · rfl
theorem tokN_ten (x : UInt8) (r b : List UInt8) : tokN (x :: (r ++ 10 :: b)) = tokN (x :: r) := by
  unfold tokN
  simp only
  rw [runN_ten]
  have h : (r ++ 10 :: b).take (runN r) = r.take (runN r) := List.take_append_of_le_length (runN_le r)
  rw [h]
theorem lex_split (p : Nat) (a : List UInt8) : ∀ b, lexA p (a ++ 10 :: b) = if (lexA p a).2.2 = 0 then ((lexA p a).1 ++ (lexA (p + a.length + 1) b).1, (lexA (p + a.length + 1) b).2) else lexA p a := by
  refine lexA_ind (fun p a q => ∀ b, lexA p (a ++ 10 :: b) = if q.2.2 = 0 then (q.1 ++ (lexA (p + a.length + 1) b).1, (lexA (p + a.length + 1) b).2) else q) ?_ ?_ ?_ a.length p a (Nat.le_refl _)
  · intro p l h b
    have hk : skipN false l = l.length := by
      have h1 := congrArg List.length h
      rw [List.length_drop, List.length_nil] at h1
      have := skipN_le false l
      omega
    simp only [if_true, List.nil_append]
    have hs := skip_app false l b
    rw [if_pos hk] at hs
    rw [lexA_skip p, hs, lexA_skip (p + l.length + 1) b]
    have hd : (l ++ 10 :: b).drop (l.length + 1 + skipN false b) = b.drop (skipN false b) := by
      rw [show l.length + 1 + skipN false b = l.length + (1 + skipN false b) from by omega, ← List.drop_drop, List.drop_left, Nat.add_comm 1, List.drop_succ_cons]
    rw [hd, show p + (l.length + 1 + skipN false b) = p + l.length + 1 + skipN false b from by omega]
  · intro p l x r h hz ih b
    have hkl : skipN false l < l.length := by
      have h1 := congrArg List.length h
      rw [List.length_drop, List.length_cons] at h1
      omega
    have hrl : r.length + 1 = l.length - skipN false l := by
      have h1 := congrArg List.length h
      rw [List.length_drop, List.length_cons] at h1
      omega
    have hs := skip_app false l b
    rw [if_neg (by omega)] at hs
    have hle := tokN_le x r
    have hd : (l ++ 10 :: b).drop (skipN false l) = x :: (r ++ 10 :: b) := by
      rw [List.drop_append_of_le_length (by omega), h]; rfl
    rw [lexA_eq p (l ++ 10 :: b), hs, hd]
    simp only [tokN_ten]
    rw [if_pos hz]
    have ht : (x :: (r ++ 10 :: b)).take (tokN (x :: r)).2.1 = (x :: r).take (tokN (x :: r)).2.1 := by
      rw [← List.cons_append, List.take_append_of_le_length (by rw [List.length_cons]; omega)]
    have hdd : (x :: (r ++ 10 :: b)).drop (tokN (x :: r)).2.1 = (x :: r).drop (tokN (x :: r)).2.1 ++ 10 :: b := by
      rw [← List.cons_append, List.drop_append_of_le_length (by rw [List.length_cons]; omega)]
    rw [ht, hdd, ih b]
    have hpl : p + skipN false l + (tokN (x :: r)).2.1 + ((x :: r).drop (tokN (x :: r)).2.1).length + 1 = p + l.length + 1 := by
      rw [List.length_drop, List.length_cons]; omega
    rw [hpl]
    by_cases he : (lexA (p + skipN false l + (tokN (x :: r)).2.1) ((x :: r).drop (tokN (x :: r)).2.1)).2.2 = 0
    · rw [if_pos he, if_pos he]; rfl
    · rw [if_neg he, if_neg he]
  · intro p l x r h hz b
    have hkl : skipN false l < l.length := by
      have h1 := congrArg List.length h
      rw [List.length_drop, List.length_cons] at h1
      omega
    have hs := skip_app false l b
    rw [if_neg (by omega)] at hs
    have hd : (l ++ 10 :: b).drop (skipN false l) = x :: (r ++ 10 :: b) := by
      rw [List.drop_append_of_le_length (by omega), h]; rfl
    rw [lexA_eq p (l ++ 10 :: b), hs, hd]
    simp only [tokN_ten]
    rw [if_neg hz, if_neg hz]
def shiftT (d : Nat) (t : Tok) : Tok := ⟨t.kind, t.text, t.at_ + d⟩
theorem lexA_shift (d p : Nat) (l : List UInt8) : lexA (p + d) l = ((lexA p l).1.map (shiftT d), (if (lexA p l).2.2 = 0 then 0 else (lexA p l).2.1 + d), (lexA p l).2.2) := by
  refine lexA_ind (fun p l q => lexA (p + d) l = (q.1.map (shiftT d), (if q.2.2 = 0 then 0 else q.2.1 + d), q.2.2)) ?_ ?_ ?_ l.length p l (Nat.le_refl _)
  · intro p l h
    rw [lexA_eq, h]
    simp
  · intro p l x r h hz ih
    rw [lexA_eq, h]
    simp only
    rw [if_pos hz, show p + d + skipN false l + (tokN (x :: r)).2.1 = p + skipN false l + (tokN (x :: r)).2.1 + d from by omega, ih]
    simp only [List.map_cons, shiftT]
    rw [show p + d + skipN false l = p + skipN false l + d from by omega]
  · intro p l x r h hz
    rw [lexA_eq, h]
    simp only
    rw [if_neg hz, if_neg hz]
    simp only [List.map_nil]
    rw [show p + d + skipN false l = p + skipN false l + d from by omega]
end Go.Proofs.YtlngbjphagnloaaGreatDoor
