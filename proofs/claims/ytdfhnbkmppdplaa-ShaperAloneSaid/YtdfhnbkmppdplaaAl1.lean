/-
  ShaperAlone: the plain law.
-/
import Derived.Test.YtdfhnbkmppdplaaCon2
namespace Go.Proofs.Ytdfhnbkmppdplaa
open Go.RowKit
/-- The distances between the offers for one link, among the first k, and the time since the last of these. -/
def al (gs ls : List Int) (n me : Nat) : Nat → List Int × Int
  | 0 => ([], 0)
  | k + 1 => if vlo ls n k = me then ((al gs ls n me k).1 ++ [(al gs ls n me k).2 + pick (gs.getD k 0) 60], 0) else ((al gs ls n me k).1, (al gs ls n me k).2 + pick (gs.getD k 0) 60)
theorem al_len (gs ls : List Int) (n me k : Nat) : (al gs ls n me k).1.length ≤ k := by
  induction k with
  | zero => exact Nat.le_refl _
  | succ k ih =>
    unfold al
    split
    · simp only [List.length_append, List.length_cons, List.length_nil]; omega
    · show (al gs ls n me k).1.length ≤ _; omega
theorem al_bd (gs ls : List Int) (n me k : Nat) : (0 ≤ (al gs ls n me k).2 ∧ (al gs ls n me k).2 ≤ 60 * k) ∧ ∀ x ∈ (al gs ls n me k).1, 0 ≤ x ∧ x ≤ 60 * k := by
  induction k with
  | zero => exact ⟨⟨Int.le_refl _, by simp [al]⟩, fun x hx => by simp [al] at hx⟩
  | succ k ih =>
    have hp := pick_bd (gs.getD k 0) 60 (by decide)
    obtain ⟨⟨h1, h2⟩, h3⟩ := ih
    unfold al
    split
    · refine ⟨⟨Int.le_refl _, by show (0 : Int) ≤ _; omega⟩, fun x hx => ?_⟩
      rw [List.mem_append, List.mem_singleton] at hx
      rcases hx with hx | rfl
      · have := h3 x hx; omega
      · omega
    · exact ⟨⟨by show 0 ≤ (al gs ls n me k).2 + _; omega, by show (al gs ls n me k).2 + _ ≤ _; omega⟩, fun x hx => by have := h3 x hx; omega⟩
theorem offd_one (l z : List Int) (j : Nat) : offd l z 1 0 j = (List.range j).map fun i => tm60 l (i + 1) := by
  induction j with
  | zero => rfl
  | succ j ih =>
    have : vlo z 1 j = 0 := by have := vlo_lt z 1 j (Nat.le_refl _); omega
    show (if _ then _ else _) = _
    rw [if_pos this, ih, List.range_succ, List.map_append]; rfl
theorem tm60_pre (l : List Int) (x : Int) (j : Nat) (h : j ≤ l.length) : tm60 (l ++ [x]) j = tm60 l j := by
  induction j with
  | zero => rfl
  | succ j ih =>
    show tm60 (l ++ [x]) j + pick ((l ++ [x]).getD j 0) 60 = tm60 l j + pick (l.getD j 0) 60
    rw [ih (by omega), getD_append_left (by omega)]
theorem al_same (gs ls : List Int) (n me k : Nat) (h : ∀ x ∈ (al gs ls n me k).1, x < 60) (z : List Int) :
    offd (al gs ls n me k).1 z 1 0 (al gs ls n me k).1.length = offd gs ls n me k ∧ tm60 (al gs ls n me k).1 (al gs ls n me k).1.length + (al gs ls n me k).2 = tm60 gs k := by
  induction k with
  | zero => exact ⟨rfl, rfl⟩
  | succ k ih =>
    have hb := al_bd gs ls n me k
    have hp := pick_bd (gs.getD k 0) 60 (by decide)
    show offd _ z 1 0 _ = (if _ then _ else _) ∧ _ = tm60 gs k + _
    unfold al at h ⊢
    by_cases hv : vlo ls n k = me
    · rw [if_pos hv] at h ⊢
      rw [if_pos hv]
      simp only at h ⊢
      obtain ⟨i1, i2⟩ := ih (fun x hx => h x (by simp [hx]))
      have hx := h ((al gs ls n me k).2 + pick (gs.getD k 0) 60) (by simp)
      generalize hl : (al gs ls n me k).1 = l at *
      generalize ht : (al gs ls n me k).2 = t at *
      have e1 : (l ++ [t + pick (gs.getD k 0) 60]).length = l.length + 1 := by simp
      have e2 : tm60 (l ++ [t + pick (gs.getD k 0) 60]) (l.length + 1) = tm60 gs k + pick (gs.getD k 0) 60 := by
        show tm60 (l ++ _) l.length + pick ((l ++ _).getD l.length 0) 60 = _
        rw [tm60_pre _ _ _ (Nat.le_refl _)]
        have : (l ++ [t + pick (gs.getD k 0) 60]).getD l.length 0 = t + pick (gs.getD k 0) 60 := by simp [List.getD_eq_getElem?_getD]
        rw [this, ← i2]
        have : pick (t + pick (gs.getD k 0) 60) 60 = t + pick (gs.getD k 0) 60 := by
          unfold pick at hx hp ⊢
          omega
        rw [this]; omega
      rw [e1, e2]
      refine ⟨?_, by omega⟩
      rw [offd_one, List.range_succ, List.map_append, ← i1, offd_one]
      congr 1
      · refine List.map_congr_left fun i hi => ?_
        rw [tm60_pre _ _ _ (by have := List.mem_range.1 hi; omega)]
      · show [tm60 _ (l.length + 1)] = _
        rw [e2]; rfl
    · rw [if_neg hv] at h ⊢
      rw [if_neg hv]
      simp only at h ⊢
      obtain ⟨i1, i2⟩ := ih h
      exact ⟨i1, by omega⟩
/-- What leaves for one link is what leaves if it is alone. -/
theorem Fin.alone {bs gs ls z : List Int} {O L O' L' : Nat → List Ev} {me : Nat} (h : Fin bs gs ls O L) (hm : me < bs.length) (hs : ∀ x ∈ (al gs ls bs.length me (min gs.length 60)).1, x < 60) (h' : Fin [bs.getD me 0] (al gs ls bs.length me (min gs.length 60)).1 z O' L') : (L' 0).map Prod.fst = (L me).map Prod.fst := by
  have e1 := h.times me hm
  have e2 := h.acc me hm
  have e3 := h'.times 0 (by simp)
  have e4 := h'.acc 0 (by simp)
  obtain ⟨K, hK⟩ : ∃ K, min gs.length 60 = K := ⟨_, rfl⟩
  have hK2 : K ≤ 60 := by omega
  rw [hK] at e2 e4 hs
  have hl := al_len gs ls bs.length me K
  rw [Nat.min_eq_left (by omega : (al gs ls bs.length me K).1.length ≤ 60)] at e4
  have e5 := (al_same gs ls bs.length me K hs z).1
  change _ = accL (bs.getD me 0) (offd _ z 1 0 _) at e4
  rw [e5] at e4
  change _ = shapeL (bs.getD me 0) _ at e3
  rw [e3, e4, e1, e2]
end Go.Proofs.Ytdfhnbkmppdplaa
