/-
  Opening an argument that is a slice of integers.
-/
import Derived.Test.YthahnliddoijoaaInts
import Derived.ChangeSlices
import Derived.Deep.Slices
import Derived.Deep.Fields
import Derived.ChangeSame
import Derived.ProofKit
namespace Go.Proofs.Ythahnliddoijoaa
open Go.ChangeShapes Go.WideShapes Go.Deep Go.RowKit
theorem lt_cell {w : World} {p : Addr} {u : Value} (h : w.cell? p = some u) : p.block < w.heap.size := World.block_lt_of_cell? w p h
set_option maxRecDepth 100000 in
theorem open_gaps {H : Type} {enc : TypeId × Value → H} {W : World} {base : Nat} {v : Value} {d : DataW H} {p : List MemPlace}
    (hv : Value.okWide Try.prog W .any base 22 v) (h : DataW.Trod enc Try.prog W 0 (fun _ => true) true 22 v d p) :
    ∃ a n cap zs, v = .slice a n cap ∧ n ≤ 9223372036854775807 ∧ n ≤ cap ∧ Ints W a n zs (fun _ => False) := by
  obtain ⟨a, n, cap, rfl⟩ := okWide_slice Try.underlying22 hv
  obtain ⟨fuel, hf⟩ := h
  rcases open_ints (P := Try.prog) (e := 3) (k := .i64) Try.underlying22 Try.underlying3 (by kernel_rfl) hf with ⟨hcs, _⟩ | ⟨ad, len, cap', zs, hcs, hb, hl, hm, hzl, hx, hc, hw⟩
  · simp [Value.cells] at hcs
    obtain ⟨rfl, rfl, rfl⟩ := hcs
    exact ⟨none, 0, 0, [], rfl, by omega, by omega, rfl, fun h => by omega⟩
  · simp [Value.cells] at hcs
    obtain ⟨rfl, rfl, rfl⟩ := hcs
    unfold maxLen at hm
    have hk : zs.length = cap := by rw [hzl]; simp
    refine ⟨some ad, n, cap, zs.take n, rfl, by omega, hl, by rw [List.length_take]; omega, fun hn => ?_⟩
    obtain ⟨b, off, spot⟩ := ad
    have hc0 := hc 0 (by omega)
    have hspot : spot = none := by simpa [Addr.add] using World.cell?_spot hc0
    subst hspot
    have hadd : ∀ j, (Addr.add ⟨b, off, none⟩ j) = ⟨b, off + j, none⟩ := by
      intro j; unfold Addr.add; split
      · rename_i hj; subst hj; rfl
      · rfl
    refine ⟨b, off, rfl, fun h => h, by rw [hadd] at hc0; exact lt_cell hc0, fun i z hz => ?_⟩
    rw [List.getElem?_take] at hz
    split at hz
    · have hi : i < zs.length := (List.getElem?_eq_some_iff.1 hz).1
      have := hc i hi
      rw [hadd, List.getD_eq_getElem?_getD, hz] at this
      exact this
    · cases hz
end Go.Proofs.Ythahnliddoijoaa
