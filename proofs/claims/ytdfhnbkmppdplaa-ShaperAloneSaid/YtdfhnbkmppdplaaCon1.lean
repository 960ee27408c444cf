/-
  ShaperConforms: the plain law.
-/
import Derived.Test.YtdfhnbkmppdplaaRun2
namespace Go.Proofs.Ytdfhnbkmppdplaa
open Go.RowKit
theorem orderB_of {zs : List Int} (h : zs.Pairwise (· ≤ ·)) (hp : ∀ x ∈ zs, 0 ≤ x ∧ x ≤ 1073741824) : orderB zs = true := by
  rw [List.pairwise_iff_getElem] at h
  refine orderB_mk (fun i hi => ?_) (fun i hi => ?_)
  · have := h i (i + 1) (by omega) hi (by omega)
    simpa [List.getD_eq_getElem?_getD, hi, show i < zs.length by omega] using this
  · have := hp _ (List.getElem_mem hi)
    simpa [List.getD_eq_getElem?_getD, hi] using this
structure Row (B : Int) (o l : List Ev) : Prop where
  b1 : 1 ≤ B
  b2 : B ≤ 200
  len : l.length = o.length
  few : o.length ≤ 60
  times : l.map Prod.fst = shapeL B (o.map Prod.fst)
  ord : orderB (o.map Prod.fst) = true
  fine : conformsB B (l.map Prod.fst) = true
  ev : ∀ (j : Nat) (x y : Ev), o[j]? = some x → l[j]? = some y → x.2 = y.2 ∧ x.1 ≤ y.1
theorem Fin.row {bs gs ls : List Int} {O L : Nat → List Ev} (h : Fin bs gs ls O L) (hb : ∀ b ∈ bs, 1 ≤ b ∧ b ≤ 200) {i : Nat} (hi : i < bs.length) : Row (bs.getD i 0) (O i) (L i) := by
  have hB := hb (bs.getD i 0) (by rw [List.getD_eq_getElem?_getD, List.getElem?_eq_getElem hi]; exact List.getElem_mem _)
  obtain ⟨b1, b2⟩ := hB
  have hl : (L i).length = (O i).length := by have := congrArg List.length (h.ids i hi); simp only [List.length_map] at this; exact this.symm
  have hp : ∀ x ∈ (O i).map Prod.fst, 0 ≤ x ∧ x ≤ 3600 := fun x hx => by
    obtain ⟨e, he, rfl⟩ := List.mem_map.1 hx
    exact h.pos i hi e he
  have ho := orderB_of (h.ord i hi) (fun x hx => by have := hp x hx; omega)
  have h60 := h.len i hi
  have ht := h.times i hi
  generalize bs.getD i 0 = B at *
  have hz : ∀ j : Nat, j < ((O i).map Prod.fst).length → 0 ≤ ((O i).map Prod.fst).getD j 0 ∧ ((O i).map Prod.fst).getD j 0 ≤ 3600 := fun j hj => by
    have := hp _ (List.getElem_mem hj)
    rw [List.getD_eq_getElem?_getD, List.getElem?_eq_getElem hj]; exact this
  have hs : orderB (shapeL B ((O i).map Prod.fst)) = true := by
    refine orderB_mk (fun j hj => ?_) (fun j hj => ?_)
    · have := shape_step B ((O i).map Prod.fst) j (by rw [shapeL_length] at hj; exact hj); omega
    · rw [shapeL_length] at hj
      have := shape_bound B (by omega) 3600 ((O i).map Prod.fst).length ((O i).map Prod.fst) (Nat.le_refl _) hz j hj
      rw [List.take_of_length_le (Nat.le_refl _)] at this
      have hj2 : j < 60 := by simp only [List.length_map] at hj; omega
      have h2 : (j : Int) * B ≤ 60 * 200 := Int.mul_le_mul (by omega) b2 (by omega) (by omega)
      omega
  refine ⟨b1, b2, hl, h60, ht, ho, ?_, fun j x y hx hy => ?_⟩
  · unfold conformsB
    rw [ht, hs, shape_idem, show bagB B = true by unfold bagB; simp; omega]; simp
  · have hj := (List.getElem?_eq_some_iff.1 hx).1
    have e1 : ((O i).map Prod.snd)[j]? = ((L i).map Prod.snd)[j]? := by rw [h.ids i hi]
    rw [List.getElem?_map, List.getElem?_map, hx, hy] at e1
    have e2 := (shape_ge B ((O i).map Prod.fst) j (by simpa using hj)).1
    rw [← ht] at e2
    rw [List.getD_eq_getElem?_getD, List.getD_eq_getElem?_getD, List.getElem?_map, List.getElem?_map, hx, hy] at e2
    exact ⟨by simpa using e1, by simpa using e2⟩
end Go.Proofs.Ytdfhnbkmppdplaa
