/-
  Opening the argument 'rows', and one row.
-/
import Derived.Test.YtojmcgobihegpaaIter
import Derived.Test.YtojmcgobihegpaaOpenSl
namespace Go.Proofs.Ytojmcgobihegpaa
open Go.ChangeShapes Go.WideShapes Go.Deep Go.RowKit
theorem open_rows2 {H : Type} {enc : TypeId × Value → H} {W : World} {base : Nat} {v : Value} {d : DataW H} {p : List MemPlace}
    (hv : Value.okWide Try.prog W .any base 22 v) (h : DataW.Trod enc Try.prog W 0 (fun _ => true) true 22 v d p) :
    ∃ a n cap rs, v = .slice a n cap ∧ n ≤ 9223372036854775807 ∧ n ≤ cap ∧ rs.length = n ∧ HRows W.heap.size W a rs := by
  obtain ⟨a, n, cap, rfl⟩ := okWide_slice Try.underlying22 hv
  obtain ⟨fuel, hf⟩ := h
  rcases open_slice_fields (e := 36) Try.underlying22 Try.underlying36 (by kernel_rfl) (by kernel_rfl) hf with ⟨hcs, _⟩ | ⟨ad, len, cap', k, D, Pl, hcs, hb, hl, hm, hmm, hx, hi⟩
  · simp [Value.cells] at hcs
    obtain ⟨rfl, rfl, rfl⟩ := hcs
    exact ⟨none, 0, 0, [], rfl, by omega, by omega, rfl, .inl rfl⟩
  · simp [Value.cells] at hcs
    obtain ⟨rfl, rfl, rfl⟩ := hcs
    unfold maxLen at hm
    have hk : k = cap := by rw [hmm]; simp
    subst hk
    refine ⟨some ad, n, k, ?_⟩
    have hone : ∀ i, i < n → ∃ r : HRow, r.ok ∧ W.cell? (ad.add (i * 5 + 0)) = some (.string r.m) ∧ W.cell? (ad.add (i * 5 + 1)) = some (.string r.p) ∧ W.cell? (ad.add (i * 5 + 2)) = some (.int .u8 r.f) ∧
        W.cell? (ad.add (i * 5 + 3)) = some (.int .u8 r.l) ∧ W.cell? (ad.add (i * 5 + 4)) = some (.int .u8 r.d) := by
      intro i hin
      obtain ⟨ys, m, _, _, _, hfd⟩ := hi i (by omega)
      obtain ⟨v0, y0, c0, _, t0⟩ := hfd 0 _ rfl
      obtain ⟨v1, y1, c1, _, t1⟩ := hfd 1 _ rfl
      obtain ⟨v2, y2, c2, _, t2⟩ := hfd 2 _ rfl
      obtain ⟨v3, y3, c3, _, t3⟩ := hfd 3 _ rfl
      obtain ⟨v4, y4, c4, _, t4⟩ := hfd 4 _ rfl
      obtain ⟨s0, e0, _, _⟩ := DataW.trod_string Try.underlying9 t0
      obtain ⟨s1, e1, _, _⟩ := DataW.trod_string Try.underlying9 t1
      obtain ⟨n2, e2, _, _⟩ := DataW.trod_int Try.underlying5 t2
      obtain ⟨n3, e3, _, w3⟩ := DataW.trod_int Try.underlying5 t3
      obtain ⟨n4, e4, _, _⟩ := DataW.trod_int Try.underlying5 t4
      simp only [List.cons.injEq, and_true] at e0 e1 e2 e3 e4
      subst e0 e1 e2 e3 e4
      exact ⟨⟨s0, s1, n2, n3, n4⟩, u8_bd w3, c0, c1, c2, c3, c4⟩
    rcases Nat.eq_zero_or_pos n with h0 | h0
    · exact ⟨[], rfl, by omega, hl, by simp [h0], .inl rfl⟩
    · obtain ⟨b, off, spot⟩ := ad
      obtain ⟨r0, _, hc0, _⟩ := hone 0 h0
      have hspot : spot = none := by
        by_cases hz : (0 * 5 + 0 : Nat) = 0
        · simpa [Addr.add] using World.cell?_spot hc0
        · omega
      subst hspot
      have hadd : ∀ j, (Addr.add ⟨b, off, none⟩ j) = ⟨b, off + j, none⟩ := by
        intro j; unfold Addr.add; split
        · rename_i hj; subst hj; rfl
        · rfl
      simp only [hadd] at hone hc0
      have hone' : ∀ i : Fin n, ∃ r : HRow, r.ok ∧ W.cell? ⟨b, off + (i.1 * 5 + 0), none⟩ = some (.string r.m) ∧ W.cell? ⟨b, off + (i.1 * 5 + 1), none⟩ = some (.string r.p) ∧ W.cell? ⟨b, off + (i.1 * 5 + 2), none⟩ = some (.int .u8 r.f) ∧
        W.cell? ⟨b, off + (i.1 * 5 + 3), none⟩ = some (.int .u8 r.l) ∧ W.cell? ⟨b, off + (i.1 * 5 + 4), none⟩ = some (.int .u8 r.d) := fun i => hone i.1 i.2
      refine ⟨List.ofFn fun i : Fin n => Classical.choose (hone' i), rfl, by omega, hl, by simp, .inr ⟨b, off, rfl, lt_of_cell hc0, fun i r hr => ?_⟩⟩
      obtain ⟨hin, hr⟩ := List.getElem?_eq_some_iff.1 hr
      simp only [List.length_ofFn] at hin
      rw [List.getElem_ofFn] at hr
      have := Classical.choose_spec (hone' ⟨i, hin⟩)
      rw [hr] at this
      simpa [Nat.add_assoc] using this
end Go.Proofs.Ytojmcgobihegpaa
