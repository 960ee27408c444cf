/-
  The queues behind put and get.
-/
import Derived.Test.YthahnliddoijoaaGet
namespace Go.Proofs.Ythahnliddoijoaa
open Go.RowKit
theorem AS.at_set (S : AS) (now : Int) (k : Nat) (q : AQ) (i : Nat) (hk : k < S.qs.length) : (AS.mk now (S.qs.set k q)).at i = if i = k then q else S.at i := by
  unfold AS.at
  simp only [List.getD_eq_getElem?_getD, List.getElem?_set]
  by_cases h : i = k
  · subst h; simp [hk]
  · rw [if_neg (by omega), if_neg h]
theorem AS.at_now (S : AS) (now : Int) (i : Nat) : (AS.mk now S.qs).at i = S.at i := rfl
theorem QF.frame {w w' : World} {b o : Nat} {q : AQ} {D D' : Nat → Value} (h : QF w b o q D) (hc : ∀ c, c < 84 → w'.cell? ⟨b, o + c, none⟩ = w.cell? ⟨b, o + c, none⟩) (hD : ∀ i, i < q.items.length → D' i = D i) : QF w' b o q D' := by
  refine ⟨h.few, ?_, (hc 81 (by omega)).trans h.many, (hc 82 (by omega)).trans h.bag, (hc 83 (by omega)).trans h.from_⟩
  obtain ⟨f, hf, h0, hi⟩ := h.ring
  refine ⟨f, hf, (hc 80 (by omega)).trans h0, fun i x hx => ?_⟩
  obtain ⟨a0, a1, a2, a3, a4⟩ := hi i x hx
  have hl : i < q.items.length := (List.getElem?_eq_some_iff.1 hx).1
  have e : (f + i) % 16 < 16 := Nat.mod_lt _ (by omega)
  generalize (f + i) % 16 = r at *
  rw [hD i hl]
  exact ⟨(hc (r * 5) (by omega)).trans a0, by rw [Nat.add_assoc] at a1 ⊢; exact (hc (r * 5 + 1) (by omega)).trans a1, by rw [Nat.add_assoc] at a2 ⊢; exact (hc (r * 5 + 2) (by omega)).trans a2,
    by rw [Nat.add_assoc] at a3 ⊢; exact (hc (r * 5 + 3) (by omega)).trans a3, by rw [Nat.add_assoc] at a4 ⊢; exact (hc (r * 5 + 4) (by omega)).trans a4⟩
theorem mod_ne {f i m : Nat} (hi : i < m) (hm : m < 16) : (f + i) % 16 ≠ (f + m) % 16 := by omega
theorem QF.put {w w' : World} {b o f : Nat} {q : AQ} {D D' : Nat → Value} {x : It} {d : Value} (hq : q.items.length < 16) (hf : f < 16) (h : QF w b o q D) (hfc : w.cell? ⟨b, o + 80, none⟩ = some (.int .i64 f))
    (hp : Put5 w w' b (o + ((f + q.items.length) % 16) * 5) (o + 81) [.int .i64 x.time, .int .i64 x.vl, .int .i64 x.net, .int .i64 x.seq, d] (.int .i64 (q.items.length + 1)))
    (hD : ∀ i, i < q.items.length → D' i = D i) (hd : D' q.items.length = d) : QF w' b o { q with items := q.items ++ [x] } D' := by
  have hjl : (f + q.items.length) % 16 < 16 := Nat.mod_lt _ (by omega)
  have out : ∀ c, c ≠ 81 → (c < ((f + q.items.length) % 16) * 5 ∨ ((f + q.items.length) % 16) * 5 + 5 ≤ c) → w'.cell? ⟨b, o + c, none⟩ = w.cell? ⟨b, o + c, none⟩ := fun c h1 h2 => by
    rw [hp.cell, if_neg (by omega), if_neg (by omega)]
  refine ⟨by simp; omega, ⟨f, hf, (out 80 (by omega) (by omega)).trans hfc, fun i y hy => ?_⟩, ?_, (out 82 (by omega) (by omega)).trans h.bag, (out 83 (by omega) (by omega)).trans h.from_⟩
  · obtain ⟨f', hf', h0, hi⟩ := h.ring
    obtain rfl : f = f' := by rw [hfc] at h0; injection h0 with h0; injection h0 with _ h0; omega
    by_cases hlt : i < q.items.length
    · rw [List.getElem?_append_left hlt] at hy
      obtain ⟨a0, a1, a2, a3, a4⟩ := hi i y hy
      have hne := mod_ne (f := f) hlt hq
      have e : (f + i) % 16 < 16 := Nat.mod_lt _ (by omega)
      rw [hD i hlt]
      generalize (f + i) % 16 = r at *
      generalize (f + q.items.length) % 16 = j at *
      exact ⟨(out (r * 5) (by omega) (by omega)).trans a0, by rw [Nat.add_assoc] at a1 ⊢; exact (out (r * 5 + 1) (by omega) (by omega)).trans a1, by rw [Nat.add_assoc] at a2 ⊢; exact (out (r * 5 + 2) (by omega) (by omega)).trans a2,
        by rw [Nat.add_assoc] at a3 ⊢; exact (out (r * 5 + 3) (by omega) (by omega)).trans a3, by rw [Nat.add_assoc] at a4 ⊢; exact (out (r * 5 + 4) (by omega) (by omega)).trans a4⟩
    · have hil : i < (q.items ++ [x]).length := (List.getElem?_eq_some_iff.1 hy).1
      obtain rfl : i = q.items.length := by simp at hil; omega
      rw [List.getElem?_append_right (Nat.le_refl _), Nat.sub_self] at hy
      simp only [List.getElem?_cons_zero, Option.some.injEq] at hy
      subst hy
      generalize (f + q.items.length) % 16 = j at *
      rw [hd]
      refine ⟨?_, ?_, ?_, ?_, ?_⟩ <;> rw [hp.cell, if_neg (by omega), if_pos (by omega)]
      · rw [Nat.sub_self]; rfl
      · rw [Nat.add_sub_cancel_left]; rfl
      · rw [Nat.add_sub_cancel_left]; rfl
      · rw [Nat.add_sub_cancel_left]; rfl
      · rw [Nat.add_sub_cancel_left]; rfl
  · rw [hp.cell, if_pos rfl]; simp
theorem QF.get {w w' : World} {b o f j : Nat} {q : AQ} {D D' : Nat → Value} {x : It} {l : List It} {t : Int} (hx : q.items = x :: l) (hf : f < 16) (hj : (f + 1) % 16 = j) (h : QF w b o q D) (hfc : w.cell? ⟨b, o + 80, none⟩ = some (.int .i64 f))
    (hp : Get5 w w' b o f j ((q.items.length : Int) - 1) (t + q.bag)) (hD : ∀ i, i < l.length → D' i = D (i + 1)) : QF w' b o { q with items := l, from_ := t + q.bag } D' := by
  have hq := h.few
  rw [hx] at hq hp
  simp only [List.length_cons] at hq hp
  have hjl : j < 16 := by omega
  have out : ∀ c, c ≠ 83 → c ≠ 81 → c ≠ 80 → (c < f * 5 ∨ f * 5 + 5 ≤ c) → w'.cell? ⟨b, o + c, none⟩ = w.cell? ⟨b, o + c, none⟩ := fun c h1 h2 h3 h4 => by
    rw [hp.cell, if_neg (by omega), if_neg (by omega), if_neg (by omega), if_neg (by omega)]
  refine ⟨by simp; omega, ⟨j, hjl, ?_, fun i y hy => ?_⟩, ?_, (out 82 (by omega) (by omega) (by omega) (by omega)).trans h.bag, ?_⟩
  · rw [hp.cell, if_neg (by omega), if_neg (by omega), if_pos rfl]
  · obtain ⟨f', hf', h0, hi⟩ := h.ring
    obtain rfl : f = f' := by rw [hfc] at h0; injection h0 with h0; injection h0 with _ h0; omega
    have hil : i < l.length := (List.getElem?_eq_some_iff.1 hy).1
    obtain ⟨a0, a1, a2, a3, a4⟩ := hi (i + 1) y (by rw [hx]; simpa using hy)
    have e : (f + (i + 1)) % 16 = (j + i) % 16 := by omega
    have hne : (j + i) % 16 ≠ f := by omega
    have e2 : (j + i) % 16 < 16 := Nat.mod_lt _ (by omega)
    rw [e] at a0 a1 a2 a3 a4
    rw [hD i hil]
    generalize (j + i) % 16 = r at *
    exact ⟨(out (r * 5) (by omega) (by omega) (by omega) (by omega)).trans a0, by rw [Nat.add_assoc] at a1 ⊢; exact (out (r * 5 + 1) (by omega) (by omega) (by omega) (by omega)).trans a1, by rw [Nat.add_assoc] at a2 ⊢; exact (out (r * 5 + 2) (by omega) (by omega) (by omega) (by omega)).trans a2,
      by rw [Nat.add_assoc] at a3 ⊢; exact (out (r * 5 + 3) (by omega) (by omega) (by omega) (by omega)).trans a3, by rw [Nat.add_assoc] at a4 ⊢; exact (out (r * 5 + 4) (by omega) (by omega) (by omega) (by omega)).trans a4⟩
  · rw [hp.cell, if_neg (by omega), if_pos rfl]; simp
  · rw [hp.cell, if_pos rfl]
end Go.Proofs.Ythahnliddoijoaa
