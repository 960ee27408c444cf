/-
  Opening an argument that is a slice of integers.
-/
import Derived.Test.YtnpadhjjkoiihaaDoorBlk
import Derived.ChangeSlices
import Derived.Deep.Slices
import Derived.Deep.Fields
import Derived.ChangeSame
import Derived.ProofKit
namespace Go.Proofs.YtnpadhjjkoiihaaDoor
open Go.ChangeShapes Go.WideShapes Go.Deep Go.RowKit
set_option maxRecDepth 100000 in
theorem open_gaps {H : Type} {enc : TypeId × Value → H} {W : World} {base : Nat} {v : Value} {d : DataW H} {p : List MemPlace}
    (hv : Value.okWide Tryd.prog W .any base 36 v) (h : DataW.Trod enc Tryd.prog W 0 (fun _ => true) true 36 v d p) :
    ∃ a n cap zs, v = .slice a n cap ∧ n ≤ 9223372036854775807 ∧ Hid (zs.length = n) ∧ Hid (IRow W a zs) := by
  obtain ⟨a, n, cap, rfl⟩ := okWide_slice Tryd.underlying36 hv
  obtain ⟨fuel, hf⟩ := h
  rcases open_ints (P := Tryd.prog) (e := 3) (k := .i64) Tryd.underlying36 Tryd.underlying3 (by kernel_rfl) hf with ⟨hcs, _⟩ | ⟨ad, len, cap', zs, hcs, hb, hl, hm, hzl, hx, hc, hw⟩
  · simp [Value.cells] at hcs
    obtain ⟨rfl, rfl, rfl⟩ := hcs
    exact ⟨none, 0, 0, [], rfl, by omega, rfl, .inl rfl⟩
  · simp [Value.cells] at hcs
    obtain ⟨rfl, rfl, rfl⟩ := hcs
    unfold maxLen at hm
    have hk : zs.length = cap := by rw [hzl]; simp
    rcases Nat.eq_zero_or_pos n with h0 | h0
    · exact ⟨some ad, n, cap, [], rfl, by omega, hide (by simp [h0]), .inl rfl⟩
    obtain ⟨b, off, spot⟩ := ad
    have hc0 := hc 0 (by omega)
    have hspot : spot = none := by simpa [Addr.add] using World.cell?_spot hc0
    subst hspot
    have hadd : ∀ j, (Addr.add ⟨b, off, none⟩ j) = ⟨b, off + j, none⟩ := by
      intro j; unfold Addr.add; split
      · rename_i hj; subst hj; rfl
      · rfl
    refine ⟨some ⟨b, off, none⟩, n, cap, zs.take n, rfl, by omega, hide (by rw [List.length_take]; omega), .inr ⟨b, off, rfl, by rw [hadd] at hc0; exact World.block_lt_of_cell? W _ hc0, fun i z hz => ?_⟩⟩
    rw [List.getElem?_take] at hz
    split at hz
    · have hi : i < zs.length := (List.getElem?_eq_some_iff.1 hz).1
      have := hc i hi
      rw [hadd, List.getD_eq_getElem?_getD, hz] at this
      exact this
    · cases hz
end Go.Proofs.YtnpadhjjkoiihaaDoor
