/-
  Opening an argument that is a slice of slices of integers.
-/
import Derived.Test.YthahnliddoijoaaRns
import Derived.Test.YthahnliddoijoaaOpenInts
import Derived.Deep.Matrix
namespace Go.Proofs.Ythahnliddoijoaa
open Go.ChangeShapes Go.WideShapes Go.Deep Go.RowKit
set_option maxRecDepth 100000 in
theorem open_rows {H : Type} {enc : TypeId × Value → H} {W : World} {base : Nat} {v : Value} {d : DataW H} {p : List MemPlace}
    (hv : Value.okWide Try.prog W .any base 23 v) (h : DataW.Trod enc Try.prog W 0 (fun _ => true) true 23 v d p) :
    ∃ a n cap, v = .slice a n cap ∧ n ≤ 9223372036854775807 ∧ n ≤ cap ∧ IRows W a n := by
  obtain ⟨a, n, cap, rfl⟩ := okWide_slice Try.underlying23 hv
  obtain ⟨fuel, hf⟩ := h
  rcases open_int_rows (P := Try.prog) (e := 22) (q := 3) (k := .i64) Try.underlying23 Try.underlying22 Try.underlying3 (by kernel_rfl) (by kernel_rfl) hf with ⟨hcs, _⟩ | ⟨ad, len, cap', A, L, C, Z, hcs, hb, hl, hm, hx, hc⟩
  · simp [Value.cells] at hcs
    obtain ⟨rfl, rfl, rfl⟩ := hcs
    exact ⟨none, 0, 0, rfl, by omega, by omega, fun h => by omega⟩
  · simp [Value.cells] at hcs
    obtain ⟨rfl, rfl, rfl⟩ := hcs
    unfold maxLen at hm
    refine ⟨some ad, n, cap, rfl, by omega, hl, fun hn => ?_⟩
    obtain ⟨b, off, spot⟩ := ad
    have hc0 := (hc 0 (by omega)).1
    have hspot : spot = none := by simpa [Addr.add] using World.cell?_spot hc0
    subst hspot
    have hadd : ∀ (b off j : Nat), (Addr.add ⟨b, off, none⟩ j) = ⟨b, off + j, none⟩ := by
      intro b off j; unfold Addr.add; split
      · rename_i hj; subst hj; rfl
      · rfl
    refine ⟨b, off, rfl, by rw [hadd] at hc0; exact lt_cell hc0, fun r hr => ?_⟩
    obtain ⟨h1, h2, h3, h4, -, h6, h7⟩ := hc r (by omega)
    rw [hadd] at h1
    unfold maxLen at h3
    refine ⟨A r, L r, C r, (Z r).take (L r), h1, by omega, by rw [List.length_take]; omega, fun hn => ?_⟩
    rcases hA : A r with _ | a'
    · have := h6 hA; omega
    · obtain ⟨b', off', spot'⟩ := a'
      have hc' := (h7 _ hA).2
      have hc'0 := hc' 0 (by omega)
      have hspot' : spot' = none := by simpa [Addr.add] using World.cell?_spot hc'0
      subst hspot'
      refine ⟨b', off', rfl, fun h => h, by rw [hadd] at hc'0; exact lt_cell hc'0, fun i z hz => ?_⟩
      rw [List.getElem?_take] at hz
      split at hz
      · have hi : i < (Z r).length := (List.getElem?_eq_some_iff.1 hz).1
        have := hc' i (by omega)
        rw [hadd, List.getD_eq_getElem?_getD, hz] at this
        exact this
      · cases hz
end Go.Proofs.Ythahnliddoijoaa
