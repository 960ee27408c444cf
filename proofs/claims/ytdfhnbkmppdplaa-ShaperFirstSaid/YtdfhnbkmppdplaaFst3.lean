/-
  ShaperFirst: the plain law of the third loop.
-/
import Derived.Test.YtdfhnbkmppdplaaFst1
namespace Go.Proofs.Ytdfhnbkmppdplaa
open Go.RowKit
/-- How many links still wait. -/
def cntR : List Int → Nat
  | [] => 0
  | x :: l => (if 0 ≤ x then 1 else 0) + cntR l
theorem cntR_set : ∀ (R : List Int) (k : Nat), k < R.length → 0 ≤ R.getD k 0 → cntR (R.set k (-1)) + 1 = cntR R
  | [], k, h, _ => by simp at h
  | x :: l, 0, _, h2 => by
    have h3 : 0 ≤ x := h2
    show (if (0 : Int) ≤ -1 then 1 else 0) + cntR l + 1 = (if 0 ≤ x then 1 else 0) + cntR l
    rw [if_neg (by decide), if_pos h3]; omega
  | x :: l, k + 1, h, h2 => by
    have := cntR_set l k (by simpa using h) h2
    show (if 0 ≤ x then 1 else 0) + cntR (l.set k (-1)) + 1 = (if 0 ≤ x then 1 else 0) + cntR l
    omega
theorem cntR_pos : ∀ (R : List Int), 0 < cntR R → ∃ i, i < R.length ∧ 0 ≤ R.getD i 0
  | [], h => by simp [cntR] at h
  | x :: l, h => by
    by_cases hx : 0 ≤ x
    · exact ⟨0, by simp, hx⟩
    · have h' : 0 < (if 0 ≤ x then 1 else 0) + cntR l := h
      rw [if_neg hx] at h'
      obtain ⟨i, hi, h2⟩ := cntR_pos l (by omega)
      exact ⟨i + 1, by simpa using hi, h2⟩
theorem cntR_zero : ∀ (R : List Int), cntR R = 0 → ∀ i, i < R.length → R.getD i 0 < 0
  | [], _, i, hi => by simp at hi
  | x :: l, h, i, hi => by
    have h' : (if 0 ≤ x then 1 else 0) + cntR l = 0 := h
    by_cases hx : 0 ≤ x
    · rw [if_pos hx] at h'; omega
    · match i with
      | 0 => show x < 0; omega
      | i + 1 => exact cntR_zero l (by omega) i (by simpa using hi)
theorem cntR_all : ∀ (R : List Int), (∀ i, i < R.length → 0 ≤ R.getD i 0) → cntR R = R.length
  | [], _ => rfl
  | x :: l, h => by
    have hx : 0 ≤ x := h 0 (by simp)
    have := cntR_all l (fun i hi => h (i + 1) (by simpa using hi))
    show (if 0 ≤ x then 1 else 0) + cntR l = l.length + 1
    rw [if_pos hx]; omega
theorem r3_best {n : Nat} {R : List Int} {S : AS} (h : R3 n R S) (hc : 0 < cntR R) : ∃ k, S.best = some k ∧ k < n ∧ 0 ≤ R.getD k 0 ∧ bestR R n = k := by
  obtain ⟨i, hi, h2⟩ := cntR_pos R hc
  rw [h.rl] at hi
  have hne : (S.at i).items ≠ [] := by
    rcases h.at_ i hi with ⟨h3, _⟩ | ⟨_, ⟨x, h3, _⟩, _⟩
    · omega
    · rw [h3]; simp
  cases hb : S.best with
  | none =>
    rcases S.bestTo_spec S.qs.length with ⟨_, h4⟩ | ⟨j, h4, _⟩
    · exact absurd (h4 i (by rw [h.len]; exact hi)) hne
    · unfold AS.best at hb; rw [h4] at hb; cases hb
  | some k =>
    obtain ⟨hk, hn⟩ := AS.best_some hb
    rw [h.len] at hk
    refine ⟨k, rfl, hk, ?_, ?_⟩
    · rcases h.at_ k hk with ⟨_, h3⟩ | ⟨h3, _⟩
      · exact absurd h3 hn
      · exact h3
    · rw [best_mirror h n (Nat.le_refl _)]
      have : S.best = S.bestTo n := by unfold AS.best; rw [h.len]
      rw [← this, hb]; rfl
theorem r3_none {n : Nat} {R : List Int} {S : AS} (h : R3 n R S) (hc : cntR R = 0) : S.when = none := by
  unfold AS.when
  rcases S.bestTo_spec S.qs.length with ⟨h4, _⟩ | ⟨j, h4, hj, hn, _⟩
  · unfold AS.best; rw [h4]
  · rw [h.len] at hj
    rcases h.at_ j hj with ⟨_, h3⟩ | ⟨h3, _⟩
    · exact absurd h3 hn
    · have := cntR_zero R hc j (by rw [h.rl]; exact hj); omega
theorem r3_when {n : Nat} {R : List Int} {S : AS} (h : R3 n R S) {k : Nat} (hb : S.best = some k) : S.when = some (if R.getD k 0 < S.now then S.now else R.getD k 0) := by
  obtain ⟨hk, hn⟩ := AS.best_some hb
  rw [h.len] at hk
  rcases h.at_ k hk with ⟨_, h3⟩ | ⟨_, _, h3⟩
  · exact absurd h3 hn
  · unfold AS.when; rw [hb]; simp only; rw [h3]
theorem bestR_bd (R : List Int) (k : Nat) : (bestR R k = -1) ∨ ∃ j : Nat, j < k ∧ bestR R k = j := by
  induction k with
  | zero => exact .inl rfl
  | succ k ih =>
    unfold bestR
    split
    · exact .inr ⟨k, by omega, rfl⟩
    · rcases ih with h | ⟨j, h, h2⟩
      · exact .inl h
      · exact .inr ⟨j, by omega, h2⟩
theorem bestR_skip {R : List Int} {k : Nat} (h : R.getD k 0 < 0) : bestR R (k + 1) = bestR R k := by
  show (if _ then _ else _) = _
  rw [if_neg (by omega)]
theorem bestR_new {R : List Int} {k : Nat} (h : 0 ≤ R.getD k 0) (hb : bestR R k = -1) : bestR R (k + 1) = k := by
  show (if _ then _ else _) = _
  rw [if_pos ⟨h, .inl (by omega)⟩]
theorem bestR_less {R : List Int} {k j : Nat} (h : 0 ≤ R.getD k 0) (hb : bestR R k = j) (hl : R.getD k 0 < R.getD j 0) : bestR R (k + 1) = k := by
  show (if _ then _ else _) = _
  rw [hb, if_pos ⟨h, .inr (by rw [Int.toNat_natCast]; exact hl)⟩]
theorem bestR_keep {R : List Int} {k j : Nat} (hb : bestR R k = j) (hl : R.getD j 0 ≤ R.getD k 0) : bestR R (k + 1) = j := by
  show (if _ then _ else _) = _
  rw [hb, Int.toNat_natCast, if_neg (by omega)]
end Go.Proofs.Ytdfhnbkmppdplaa
