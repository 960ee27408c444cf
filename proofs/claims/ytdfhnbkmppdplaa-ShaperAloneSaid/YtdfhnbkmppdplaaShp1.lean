/-
  ShaperShapes: the plain law.
-/
import Derived.Test.YtdfhnbkmppdplaaAwake
namespace Go.Proofs.Ytdfhnbkmppdplaa
open Go.RowKit
theorem shapeL_prefix (b : Int) (zs : List Int) (m : Nat) (h : m ≤ zs.length) : shapeL b zs = shapeL b (zs.take m) ++ (shapeL b zs).drop m := by
  have key : ∀ (ys out : List Int), ∃ t, ys.foldl (shapeStep b) out = out ++ t := by
    intro ys
    induction ys with
    | nil => intro out; exact ⟨[], by simp⟩
    | cons y ys ih =>
      intro out
      obtain ⟨t, ht⟩ := ih (shapeStep b out y)
      rw [List.foldl_cons, ht]
      exact ⟨_, by unfold shapeStep; rw [List.append_assoc]⟩
  have e : zs = zs.take m ++ zs.drop m := (List.take_append_drop m zs).symm
  obtain ⟨t, ht⟩ := key (zs.drop m) (shapeL b (zs.take m))
  have e2 : shapeL b zs = shapeL b (zs.take m) ++ t := by
    conv => lhs; rw [e]
    unfold shapeL at ht ⊢; rw [List.foldl_append]; exact ht
  have hl : (shapeL b (zs.take m)).length = m := by rw [shapeL_length, List.length_take]; omega
  rw [e2]
  congr 1
  rw [List.drop_append_of_le_length (by omega), List.drop_eq_nil_of_le (by omega)]; rfl
theorem getD_append_left {l r : List Int} {i : Nat} (h : i < l.length) : (l ++ r).getD i 0 = l.getD i 0 := by simp [List.getD_eq_getElem?_getD, List.getElem?_append_left h]
/-- The k-th shaped time. -/
theorem shape_at (b : Int) (zs : List Int) (k : Nat) (h : k < zs.length) :
    (shapeL b zs).getD k 0 = if k = 0 then zs.getD k 0 else if zs.getD k 0 < (shapeL b zs).getD (k - 1) 0 + b then (shapeL b zs).getD (k - 1) 0 + b else zs.getD k 0 := by
  have hl : (shapeL b (zs.take k)).length = k := by rw [shapeL_length, List.length_take]; omega
  have h1 : (shapeL b zs).getD k 0 = (shapeL b (zs.take (k + 1))).getD k 0 := by
    rw [shapeL_prefix b zs (k + 1) (by omega), getD_append_left (by rw [shapeL_length, List.length_take]; omega)]
  rw [h1, shapeL_take b zs k h]
  have h2 : ∀ x : Int, (shapeL b (zs.take k) ++ [x]).getD k 0 = x := fun x => by
    rw [List.getD_eq_getElem?_getD, List.getElem?_append_right (by omega), hl, Nat.sub_self]; rfl
  rw [h2]
  by_cases h0 : k = 0
  · rw [if_pos h0, if_pos h0]
  · have h3 : (shapeL b zs).getD (k - 1) 0 = (shapeL b (zs.take k)).getD (k - 1) 0 := by
      rw [shapeL_prefix b zs k (by omega), getD_append_left (by omega)]
    rw [h3]
theorem shape_ge (b : Int) (zs : List Int) (k : Nat) (h : k < zs.length) : zs.getD k 0 ≤ (shapeL b zs).getD k 0 ∧ (zs.getD k 0 = (shapeL b zs).getD k 0 ∨ (k ≠ 0 ∧ (shapeL b zs).getD k 0 = (shapeL b zs).getD (k - 1) 0 + b)) := by
  have := shape_at b zs k h
  split at this
  · omega
  · split at this <;> omega
theorem shape_step (b : Int) (zs : List Int) (k : Nat) (h : k + 1 < zs.length) : (shapeL b zs).getD k 0 + b ≤ (shapeL b zs).getD (k + 1) 0 := by
  have := shape_at b zs (k + 1) h
  rw [if_neg (by omega), Nat.add_sub_cancel] at this
  split at this <;> omega
theorem ext_getD {l r : List Int} (hl : l.length = r.length) (h : ∀ i : Nat, i < l.length → l.getD i 0 = r.getD i 0) : l = r := by
  refine List.ext_getElem hl fun i h1 h2 => ?_
  have := h i h1
  simpa [List.getD_eq_getElem?_getD, h1, h2] using this
/-- Times that are a bag apart are not changed. -/
theorem shape_same (b : Int) (zs : List Int) (h : ∀ k : Nat, k + 1 < zs.length → zs.getD k 0 + b ≤ zs.getD (k + 1) 0) : shapeL b zs = zs := by
  have key : ∀ k : Nat, k < zs.length → (shapeL b zs).getD k 0 = zs.getD k 0 := by
    intro k
    induction k with
    | zero => intro hk; rw [shape_at b zs 0 hk, if_pos rfl]
    | succ k ih =>
      intro hk
      rw [shape_at b zs (k + 1) hk, if_neg (by omega), Nat.add_sub_cancel, ih (by omega), if_neg (by have := h k hk; omega)]
  exact ext_getD (shapeL_length b zs) (fun i hi => key i (by rw [shapeL_length] at hi; exact hi))
theorem shape_idem (b : Int) (zs : List Int) : shapeL b (shapeL b zs) = shapeL b zs :=
  shape_same b _ (fun k hk => shape_step b zs k (by rw [shapeL_length] at hk; exact hk))
theorem orderB_mk {zs : List Int} (h1 : ∀ i : Nat, i + 1 < zs.length → zs.getD i 0 ≤ zs.getD (i + 1) 0) (h2 : ∀ i : Nat, i < zs.length → 0 ≤ zs.getD i 0 ∧ zs.getD i 0 ≤ 1073741824) : orderB zs = true := by
  unfold orderB
  rw [sortedB_true h1]
  simp only [Bool.true_and, Bool.not_eq_true', List.any_eq_false]
  intro x hx
  obtain ⟨i, hi, rfl⟩ := List.getElem_of_mem hx
  have := h2 i hi
  rw [List.getD_eq_getElem?_getD, List.getElem?_eq_getElem hi] at this
  simp only [Option.getD_some] at this
  unfold badT; simp; omega
/-- The sum of the first k distances. -/
def tm (gs : List Int) : Nat → Int
  | 0 => 0
  | k + 1 => tm gs k + pick (gs.getD k 0) 500
def tms (gs : List Int) (k : Nat) : List Int := (List.range k).map fun i => tm gs (i + 1)
theorem tms_len (gs : List Int) (k : Nat) : (tms gs k).length = k := by simp [tms]
theorem tms_at (gs : List Int) (k i : Nat) (h : i < k) : (tms gs k).getD i 0 = tm gs (i + 1) := by simp [tms, List.getD_eq_getElem?_getD, h]
theorem tms_succ (gs : List Int) (k : Nat) : tms gs (k + 1) = tms gs k ++ [tm gs (k + 1)] := by simp [tms, List.range_succ]
theorem pick_bd (x n : Int) (hn : 1 ≤ n) : 0 ≤ pick x n ∧ pick x n < n := ⟨Int.emod_nonneg x (by omega), Int.emod_lt_of_pos x (by omega)⟩
theorem tm_bd (gs : List Int) (k : Nat) : 0 ≤ tm gs k ∧ tm gs k ≤ k * 500 := by
  induction k with
  | zero => exact ⟨Int.le_refl _, by simp [tm]⟩
  | succ k ih => have := pick_bd (gs.getD k 0) 500 (by decide); unfold tm; omega
theorem tms_order (gs : List Int) (k : Nat) (hk : k ≤ 100) : orderB (tms gs k) = true := by
  refine orderB_mk (fun i hi => ?_) (fun i hi => ?_)
  · rw [tms_len] at hi
    rw [tms_at gs k i (by omega), tms_at gs k (i + 1) hi]
    have := pick_bd (gs.getD (i + 1) 0) 500 (by decide)
    show _ ≤ tm gs (i + 1) + pick (gs.getD (i + 1) 0) 500
    omega
  · rw [tms_len] at hi
    rw [tms_at gs k i hi]
    have := tm_bd gs (i + 1)
    omega
theorem shape_order (b : Int) (b1 : 1 ≤ b) (b2 : b ≤ 500) (gs : List Int) (k : Nat) (hk : k ≤ 100) : orderB (shapeL b (tms gs k)) = true := by
  refine orderB_mk (fun i hi => ?_) (fun i hi => ?_)
  · have := shape_step b (tms gs k) i (by rw [shapeL_length] at hi; exact hi); omega
  · rw [shapeL_length, tms_len] at hi
    have hz : ∀ j : Nat, j < (tms gs k).length → 0 ≤ (tms gs k).getD j 0 ∧ (tms gs k).getD j 0 ≤ 50000 := fun j hj => by
      rw [tms_len] at hj
      rw [tms_at gs k j hj]
      have := tm_bd gs (j + 1)
      omega
    have := shape_bound b (by omega) 50000 k (tms gs k) (by rw [tms_len]; omega) hz i hi
    rw [List.take_of_length_le (by rw [tms_len]; omega)] at this
    have h2 : (i : Int) * b ≤ 100 * 500 := Int.mul_le_mul (by omega) b2 (by omega) (by omega)
    omega
end Go.Proofs.Ytdfhnbkmppdplaa
