/-
  The row that decides: plain facts.
-/
import Derived.Test.YtojmcgobihegpaaDec
namespace Go.Proofs.Ytojmcgobihegpaa
open Go.RowKit
theorem rankZ_bd (r : HRow) : 0 ≤ rankZ r ∧ rankZ r ≤ 3 := by unfold rankZ; constructor <;> split <;> split <;> omega
/-- k is the index of the row that decides among the first N rows, or -1. -/
def IsBest (N : Nat) (rs : List HRow) (m p : ByteArray) (f : Int) (k : Int) : Prop :=
  (k = -1 ∧ ∀ (i : Nat) (r : HRow), i < N → rs[i]? = some r → concernsB r m p f = false) ∨
  ∃ (j : Nat) (r : HRow), k = (j : Int) ∧ j < N ∧ rs[j]? = some r ∧ concernsB r m p f = true ∧
    ∀ (i : Nat) (r' : HRow), i < N → rs[i]? = some r' → concernsB r' m p f = true → rankZ r' < rankZ r ∨ (rankZ r' = rankZ r ∧ j ≤ i)
theorem isBest_unique {N : Nat} {rs : List HRow} {m p : ByteArray} {f k k' : Int} (h : IsBest N rs m p f k) (h' : IsBest N rs m p f k') : k = k' := by
  rcases h with ⟨rfl, hn⟩ | ⟨j, r, rfl, hj, hr, hc, hb⟩
  · rcases h' with ⟨rfl, _⟩ | ⟨j', r', rfl, hj', hr', hc', _⟩
    · rfl
    · rw [hn j' r' hj' hr'] at hc'; cases hc'
  · rcases h' with ⟨rfl, hn⟩ | ⟨j', r', rfl, hj', hr', hc', hb'⟩
    · rw [hn j r hj hr] at hc; cases hc
    · have h1 := hb j' r' hj' hr' hc'
      have h2 := hb' j r hj hr hc
      omega
/-- The fold's state over the first N rows. -/
theorem bestOf_take (rs : List HRow) (m p : ByteArray) (f : Int) (N : Nat) (hN : N ≤ rs.length) :
    IsBest N rs m p f (bestOf (concs (rs.take N) m p f)).1 ∧
      (((bestOf (concs (rs.take N) m p f)).1 = -1 ∧ (bestOf (concs (rs.take N) m p f)).2 = -1) ∨
        ∃ (j : Nat) (r : HRow), (bestOf (concs (rs.take N) m p f)).1 = (j : Int) ∧ rs[j]? = some r ∧ (bestOf (concs (rs.take N) m p f)).2 = rankZ r) := by
  induction N with
  | zero => exact ⟨.inl ⟨rfl, fun i r h => by omega⟩, .inl ⟨rfl, rfl⟩⟩
  | succ N ih =>
    obtain ⟨hb, hs⟩ := ih (by omega)
    have hr : rs[N]? = some rs[N] := List.getElem?_eq_getElem (by omega)
    generalize rs[N] = r at hr
    rw [concs_take m p f hr]
    generalize concs (rs.take N) m p f = xs at hb hs ⊢
    cases hc : concernsB r m p f
    · simp only [Bool.false_eq_true, if_false, List.append_nil]
      refine ⟨?_, hs⟩
      rcases hb with ⟨h1, hn⟩ | ⟨j, r0, h1, hj, hr0, hc0, hb⟩
      · refine .inl ⟨h1, fun i r' hi hr' => ?_⟩
        rcases Nat.lt_or_ge i N with h | h
        · exact hn i r' h hr'
        · obtain rfl : i = N := by omega
          rw [hr] at hr'; cases hr'; exact hc
      · refine .inr ⟨j, r0, h1, by omega, hr0, hc0, fun i r' hi hr' hc' => ?_⟩
        rcases Nat.lt_or_ge i N with h | h
        · exact hb i r' h hr' hc'
        · obtain rfl : i = N := by omega
          rw [hr] at hr'; cases hr'; rw [hc] at hc'; cases hc'
    · simp only [if_true]
      rw [bestOf_snoc]
      unfold bestStep
      have hrk := rankZ_bd r
      split
      · rename_i hlt
        simp only at hlt ⊢
        refine ⟨.inr ⟨N, r, rfl, by omega, hr, hc, fun i r' hi hr' hc' => ?_⟩, .inr ⟨N, r, rfl, hr, rfl⟩⟩
        rcases Nat.lt_or_ge i N with h | h
        · refine .inl ?_
          rcases hb with ⟨h1, hn⟩ | ⟨j, r0, h1, hj, hr0, hc0, hb⟩
          · rw [hn i r' h hr'] at hc'; cases hc'
          · rcases hs with ⟨h2, _⟩ | ⟨j2, r2, h2, hr2, h3⟩
            · omega
            · obtain rfl : j = j2 := by omega
              have e2 : r2 = r0 := by rw [hr0] at hr2; exact (Option.some.inj hr2).symm
              rw [e2] at h3
              have := hb i r' h hr' hc'
              omega
        · obtain rfl : i = N := by omega
          rw [hr] at hr'; cases hr'; exact .inr ⟨rfl, Nat.le_refl _⟩
      · rename_i hlt
        simp only at hlt
        rcases hs with ⟨h2, h3⟩ | ⟨j2, r2, h2, hr2, h3⟩
        · omega
        · refine ⟨?_, .inr ⟨j2, r2, h2, hr2, h3⟩⟩
          rcases hb with ⟨h1, hn⟩ | ⟨j, r0, h1, hj, hr0, hc0, hb⟩
          · omega
          · obtain rfl : j = j2 := by omega
            have e2 : r2 = r0 := by rw [hr0] at hr2; exact (Option.some.inj hr2).symm
            rw [e2] at h3
            refine .inr ⟨j, r0, h1, by omega, hr0, hc0, fun i r' hi hr' hc' => ?_⟩
            rcases Nat.lt_or_ge i N with h | h
            · exact hb i r' h hr' hc'
            · obtain rfl : i = N := by omega
              rw [hr] at hr'; cases hr'
              rcases Int.lt_or_le (rankZ r) (rankZ r0) with h4 | h4
              · exact .inl h4
              · exact .inr ⟨by omega, by omega⟩
theorem bestIdx_is (rs : List HRow) (m p : ByteArray) (f : Int) : IsBest rs.length rs m p f (bestIdx rs m p f) := by
  have h := (bestOf_take rs m p f rs.length (Nat.le_refl _)).1
  rwa [List.take_length] at h
end Go.Proofs.Ytojmcgobihegpaa
