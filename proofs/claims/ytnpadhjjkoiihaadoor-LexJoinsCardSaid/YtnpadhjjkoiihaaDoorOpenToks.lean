/-
  Opening an argument that is a slice of tokens.
-/
import Derived.Test.YtnpadhjjkoiihaaDoorTheirs
import Derived.Test.YtnpadhjjkoiihaaDoorOpenSl
import Derived.SizedLaws
namespace Go.Proofs.YtnpadhjjkoiihaaDoor
open Go.ChangeShapes Go.WideShapes Go.Deep Go.RowKit
theorem weights_elem {H : Type} {P : Program} {e : TypeId} {d : DataW H} : ∀ {l : List (DataW H)}, d ∈ l → ∀ n ∈ d.weights P e, n ∈ DataW.weightsAll P e l
  | [], hd, _, _ => by simp at hd
  | x :: r, hd, n, hn => by
    unfold DataW.weightsAll
    rcases List.mem_cons.1 hd with rfl | hd
    · exact List.mem_append_left _ hn
    · exact List.mem_append_right _ (weights_elem hd n hn)
set_option maxRecDepth 100000 in
theorem open_toks {H : Type} {enc : TypeId × Value → H} {W : World} {base : Nat} {v : Value} {d : DataW H} {p : List MemPlace}
    (hv : Value.okWide Tryd.prog W .any base 24 v) (h : DataW.Trod enc Tryd.prog W 0 (fun _ => true) true 24 v d p) (hwt : ∀ n ∈ d.weights Tryd.prog 24, n ≤ reachBytes) :
    ∃ a n cap ts, v = .slice a n cap ∧ n ≤ 9223372036854775807 ∧ Hid (ts.length = n) ∧ Hid (TRows .u8 W a ts) ∧ Hid (KindOk ts) ∧ Hid (∀ t ∈ ts, t.text.size ≤ reachBytes) := by
  obtain ⟨a, n, cap, rfl⟩ := okWide_slice Tryd.underlying24 hv
  obtain ⟨fuel, hf⟩ := h
  rcases open_slice_fields (e := 27) Tryd.underlying24 Tryd.underlying27 (by kernel_rfl) (by kernel_rfl) hf with ⟨hcs, _⟩ | ⟨ad, len, cap', k, D, Pl, hcs, hb, hl, hm, hmm, hx, hi⟩
  · simp [Value.cells] at hcs
    obtain ⟨rfl, rfl, rfl⟩ := hcs
    exact ⟨none, 0, 0, [], rfl, by omega, rfl, .inl rfl, fun t ht => by simp at ht, fun t ht => by simp at ht⟩
  · simp [Value.cells] at hcs
    obtain ⟨rfl, rfl, rfl⟩ := hcs
    unfold maxLen at hm
    have hk : k = cap := by rw [hmm]; simp
    subst hk
    simp only [Prod.mk.injEq] at hx
    have hone : ∀ i, i < n → ∃ t : TokZ, W.cell? (ad.add (i * 3 + 0)) = some (.int .u8 t.kind) ∧ W.cell? (ad.add (i * 3 + 1)) = some (.string t.text) ∧ W.cell? (ad.add (i * 3 + 2)) = some (.int .i64 t.at_) ∧ (0 ≤ t.kind ∧ t.kind ≤ 255) ∧ t.text.size ≤ reachBytes := by
      intro i hin
      obtain ⟨ys, m, hD, _, hyl, hfd⟩ := hi i (by omega)
      obtain ⟨v0, y0, c0, g0, t0⟩ := hfd 0 _ rfl
      obtain ⟨v1, y1, c1, g1, t1⟩ := hfd 1 _ rfl
      obtain ⟨v2, y2, c2, g2, t2⟩ := hfd 2 _ rfl
      obtain ⟨n0, e0, _, w0⟩ := DataW.trod_int Tryd.underlying25 t0
      obtain ⟨s1, e1, f1, _⟩ := DataW.trod_string Tryd.underlying9 t1
      obtain ⟨n2, e2, _, _⟩ := DataW.trod_int Tryd.underlying3 t2
      simp only [List.cons.injEq, and_true] at e0 e1 e2
      subst e0 e1 e2
      refine ⟨⟨n0, s1, n2⟩, c0, c1, c2, u8_bd w0, ?_⟩
      have hys : ys = [y0, y1, y2] := by
        have hl3 : ys.length = 3 := hyl
        match ys, hl3, g0, g1, g2 with
        | [a, b, c], _, g0, g1, g2 => simp at g0 g1 g2; rw [g0, g1, g2]
      have hw1 : ∀ x ∈ (D i).weights Tryd.prog 27, x ≤ reachBytes := by
        intro x hxx
        apply hwt
        rw [hx.1]
        unfold DataW.weights
        rw [Tryd.underlying24]
        refine List.mem_cons_of_mem _ (List.mem_append_left _ (weights_elem (d := D i) (List.mem_map.2 ⟨i, List.mem_range.2 hin, rfl⟩) x hxx))
      have hw2 := hw1 s1.data.toList.length (by
        rw [hD, hys]
        unfold DataW.weights
        rw [Tryd.underlying27]
        simp only [List.map_cons, List.map_nil]
        have e1 : y1.1 = .lit (.string s1.data.toList) := by simpa using congrArg Prod.fst f1
        rw [e1]
        refine DataW.weights_mem_each (j := 1) (t := 9) (d := .lit (.string s1.data.toList)) rfl rfl _ ?_
        unfold DataW.weights
        simp)
      have hz : s1.data.toList.length = s1.size := by simp
      rw [hz] at hw2
      exact hw2
    rcases Nat.eq_zero_or_pos n with h0 | h0
    · exact ⟨some ad, n, k, [], rfl, by omega, hide (by simp [h0]), .inl rfl, fun t ht => by simp at ht, fun t ht => by simp at ht⟩
    · obtain ⟨b, off, spot⟩ := ad
      obtain ⟨r0, hc0, _⟩ := hone 0 h0
      have hspot : spot = none := by
        by_cases hz : (0 * 3 + 0 : Nat) = 0
        · simpa [Addr.add] using World.cell?_spot hc0
        · omega
      subst hspot
      have hadd : ∀ j, (Addr.add ⟨b, off, none⟩ j) = ⟨b, off + j, none⟩ := by
        intro j; unfold Addr.add; split
        · rename_i hj; subst hj; rfl
        · rfl
      simp only [hadd] at hone hc0
      have hone' : ∀ i : Fin n, ∃ t : TokZ, W.cell? ⟨b, off + (i.1 * 3 + 0), none⟩ = some (.int .u8 t.kind) ∧ W.cell? ⟨b, off + (i.1 * 3 + 1), none⟩ = some (.string t.text) ∧ W.cell? ⟨b, off + (i.1 * 3 + 2), none⟩ = some (.int .i64 t.at_) ∧ (0 ≤ t.kind ∧ t.kind ≤ 255) ∧ t.text.size ≤ reachBytes := fun i => hone i.1 i.2
      have hall : ∀ (i : Nat) (t : TokZ), (List.ofFn fun i : Fin n => Classical.choose (hone' i))[i]? = some t → W.cell? ⟨b, off + (i * 3 + 0), none⟩ = some (.int .u8 t.kind) ∧ W.cell? ⟨b, off + (i * 3 + 1), none⟩ = some (.string t.text) ∧ W.cell? ⟨b, off + (i * 3 + 2), none⟩ = some (.int .i64 t.at_) ∧ (0 ≤ t.kind ∧ t.kind ≤ 255) ∧ t.text.size ≤ reachBytes := by
        intro i t hr
        obtain ⟨hin, hr⟩ := List.getElem?_eq_some_iff.1 hr
        simp only [List.length_ofFn] at hin
        rw [List.getElem_ofFn] at hr
        have := Classical.choose_spec (hone' ⟨i, hin⟩)
        rw [hr] at this
        exact this
      refine ⟨some ⟨b, off, none⟩, n, k, List.ofFn fun i : Fin n => Classical.choose (hone' i), rfl, by omega, hide (by simp), .inr ⟨b, off, rfl, lt_of_cell hc0, fun i t ht => ?_⟩, fun t ht => ?_, fun t ht => ?_⟩
      · obtain ⟨e0, e1, e2, _⟩ := hall i t ht
        simp only [← Nat.add_assoc, Nat.add_zero] at e0 e1 e2
        exact ⟨e0, e1, e2⟩
      · obtain ⟨i, hi, e⟩ := List.getElem_of_mem ht
        exact (hall i t (by rw [List.getElem?_eq_getElem hi, e])).2.2.2.1
      · obtain ⟨i, hi, e⟩ := List.getElem_of_mem ht
        exact (hall i t (by rw [List.getElem?_eq_getElem hi, e])).2.2.2.2
end Go.Proofs.YtnpadhjjkoiihaaDoor
