/-
  parse: ParseWords: what a health row with each word is parsed to.
-/
import Derived.Test.YtlngbjphagnloaaGreatDoorWdC
namespace Go.Proofs.YtlngbjphagnloaaGreatDoor
def wordsL (f l d : List UInt8) : List UInt8 := [111, 110, 32] ++ f ++ [32, 108, 101, 118, 101, 108, 32] ++ l ++ [32, 100, 111, 32] ++ d ++ [59]
def rowC (f l d : Nat) : CfgD := { CfgD.none with health := [⟨[], [], f, l, d⟩] }
def isRow (f l d : Nat) (x : CfgD × Nat × Nat) : Bool := match x with
  | (⟨[], [], [], [], [], [⟨[], [], f', l', d'⟩], [], []⟩, 0, 0) => f' == f && l' == l && d' == d
  | _ => false
theorem isRow_eq {f l d : Nat} {x : CfgD × Nat × Nat} (h : isRow f l d x = true) : x = (rowC f l d, 0, 0) := by
  unfold isRow at h
  split at h
  · simp at h
    obtain ⟨⟨rfl, rfl⟩, rfl⟩ := h
    rfl
  · cases h
theorem words_fine : ((List.range 7).all fun f => (List.range 3).all fun l => (List.range 8).all fun d =>
    isRow (f + 1) (l + 1) (d + 1) (parseT (lexR (wordsL (wordN faultWords (f + 1)) (wordN levelWords (l + 1)) (wordN actionWords (d + 1)))) (wordsL (wordN faultWords (f + 1)) (wordN levelWords (l + 1)) (wordN actionWords (d + 1))).length)) = true := by kernel_rfl
theorem words_wrong : ((List.range 8).all fun f => (List.range 4).all fun l => (List.range 9).all fun d => (f != 0 && l != 0 && d != 0) ||
    (parseT (lexR (wordsL (wordN faultWords f) (wordN levelWords l) (wordN actionWords d))) (wordsL (wordN faultWords f) (wordN levelWords l) (wordN actionWords d)).length).2.2 == 80) = true := by kernel_rfl
theorem parseT_bad (x : List Tok × Nat × Nat) (size : Nat) (h : (parseT x size).2.2 ≠ 0) : (parseT x size).1 = CfgD.none := by
  unfold parseT at h ⊢
  split
  · split
    · rename_i h1 _ _ _ e
      rw [if_pos h1, e] at h
      exact absurd rfl h
    · rfl
  · rfl
theorem words_ok (f l d : Nat) (hf : 1 ≤ f ∧ f ≤ 7) (hl : 1 ≤ l ∧ l ≤ 3) (hd : 1 ≤ d ∧ d ≤ 8) :
    parseT (lexR (wordsL (wordN faultWords f) (wordN levelWords l) (wordN actionWords d))) (wordsL (wordN faultWords f) (wordN levelWords l) (wordN actionWords d)).length = (rowC f l d, 0, 0) := by
  have h := words_fine
  have h1 := List.all_eq_true.1 (List.all_eq_true.1 (List.all_eq_true.1 h (f - 1) (by simp; omega)) (l - 1) (by simp; omega)) (d - 1) (by simp; omega)
  rw [show f - 1 + 1 = f by omega, show l - 1 + 1 = l by omega, show d - 1 + 1 = d by omega] at h1
  exact isRow_eq h1
theorem words_no (f l d : Nat) (h0 : ¬(1 ≤ f ∧ f ≤ 7) ∨ ¬(1 ≤ l ∧ l ≤ 3) ∨ ¬(1 ≤ d ∧ d ≤ 8)) :
    ∃ at_, parseT (lexR (wordsL (wordN faultWords f) (wordN levelWords l) (wordN actionWords d))) (wordsL (wordN faultWords f) (wordN levelWords l) (wordN actionWords d)).length = (CfgD.none, at_, 80) := by
  obtain ⟨f', hf1, hf2, hf3, -⟩ := word_clip faultWords f
  obtain ⟨l', hl1, hl2, hl3, -⟩ := word_clip levelWords l
  obtain ⟨d', hd1, hd2, hd3, -⟩ := word_clip actionWords d
  rw [hf2, hl2, hd2]
  have e1 : faultWords.length = 7 := rfl
  have e2 : levelWords.length = 3 := rfl
  have e3 : actionWords.length = 8 := rfl
  rw [e1] at hf1 hf3
  rw [e2] at hl1 hl3
  rw [e3] at hd1 hd3
  have h1 := List.all_eq_true.1 (List.all_eq_true.1 (List.all_eq_true.1 words_wrong f' (by simp; omega)) l' (by simp; omega)) d' (by simp; omega)
  have h2 : (f' != 0 && l' != 0 && d' != 0) = false := by
    rcases h0 with h | h | h
    · rw [hf3.2 h]; rfl
    · rw [hl3.2 h]; simp
    · rw [hd3.2 h]; simp
  rw [h2, Bool.false_or] at h1
  have h3 := eq_of_beq h1
  generalize wordsL (wordN faultWords f') (wordN levelWords l') (wordN actionWords d') = x at *
  have h4 := parseT_bad (lexR x) x.length (by rw [h3]; decide)
  refine ⟨(parseT (lexR x) x.length).2.1, ?_⟩
  rw [← h4, ← h3]
end Go.Proofs.YtlngbjphagnloaaGreatDoor
