/-
  format: what is printed tells what was printed: names, numbers, lists.
-/
import Derived.Test.YtndpnpohdoggjaaGreatDoorPk14
import Derived.Test.YtndpnpohdoggjaaGreatDoorPk17
namespace Go.Proofs.YtndpnpohdoggjaaGreatDoor
theorem span_uq {p : UInt8 → Bool} : ∀ {a b r s : List UInt8}, a.all p = true → b.all p = true → (∀ c t, r = c :: t → p c = false) → (∀ c t, s = c :: t → p c = false) → a ++ r = b ++ s → a = b ∧ r = s
  | [], [], r, s, _, _, _, _, h => ⟨rfl, h⟩
  | [], c :: b, r, s, _, hb, hr, _, h => by
    rw [List.all_cons, Bool.and_eq_true] at hb
    have := hr c (b ++ s) h
    rw [hb.1] at this
    cases this
  | c :: a, [], r, s, ha, _, _, hs, h => by
    rw [List.all_cons, Bool.and_eq_true] at ha
    have := hs c (a ++ r) h.symm
    rw [ha.1] at this
    cases this
  | c :: a, d :: b, r, s, ha, hb, hr, hs, h => by
    rw [List.all_cons, Bool.and_eq_true] at ha hb
    rw [List.cons_append, List.cons_append, List.cons.injEq] at h
    obtain ⟨e1, e2⟩ := span_uq ha.2 hb.2 hr hs h.2
    exact ⟨by rw [h.1, e1], e2⟩
theorem tok_inner {b : UInt8} {r : List UInt8} (h : (tokN (b :: r)).1 = 1) : ((b :: r).take (tokN (b :: r)).2.1).all innerB = true ∧ (b :: r).take (tokN (b :: r)).2.1 ≠ [] := by
  by_cases h1 : letterB b = true
  · have e : (tokN (b :: r)).2.1 = 1 + runN r := by unfold tokN; simp only [h1, if_true]; split <;> rfl
    rw [e, Nat.add_comm, List.take_succ_cons]
    have e2 : r.take (runN r) = r.takeWhile innerB := by
      unfold runN
      exact (List.prefix_iff_eq_take.1 (List.takeWhile_prefix innerB)).symm
    rw [e2]
    refine ⟨?_, by simp⟩
    rw [List.all_cons, List.all_takeWhile]
    simp [innerB, h1]
  · exfalso
    revert h
    unfold tokN
    simp only
    rw [if_neg h1]
    split
    · split <;> simp
    · split <;> simp
theorem word_inner {s : List UInt8} (h : wordF s = true) : s.all innerB = true ∧ s ≠ [] := by
  unfold wordF at h
  split at h
  · rename_i t p e
    simp only [Bool.and_eq_true, beq_iff_eq] at h
    have e2 : lexA 0 s = ([t], p, 0) := by
      unfold lexR at e
      split at e
      · cases e
      · split at e
        · exact e
        · rename_i hne
          injection e with _ e3
          injection e3 with _ e4
          exact absurd e4 hne
    have key : t.text.all innerB = true ∧ t.text ≠ [] := by
      rw [lexA_eq] at e2
      split at e2
      · cases e2
      · rename_i b r _
        split at e2
        · injection e2 with e3 _
          injection e3 with e4 _
          have hk := h.1
          rw [← e4] at hk ⊢
          exact tok_inner hk
        · cases e2
    rw [h.2] at key
    exact key
  · cases h
theorem name_uq {a b : List UInt8} {c d : UInt8} {r s : List UInt8} (ha : wordF a = true) (hb : wordF b = true) (h : a ++ c :: r = b ++ d :: s) (hc : innerB c = false) (hd : innerB d = false) : a = b ∧ c :: r = d :: s :=
  span_uq (word_inner ha).1 (word_inner hb).1 (by rintro _ _ h; injection h with h _; rw [← h]; exact hc) (by rintro _ _ h; injection h with h _; rw [← h]; exact hd) h
theorem dig_lt {k : Nat} (h : k < 10) : digitB (UInt8.ofNat (48 + k)) = true ∧ digV (UInt8.ofNat (48 + k)) = k := by
  rcases (by omega : k = 0 ∨ k = 1 ∨ k = 2 ∨ k = 3 ∨ k = 4 ∨ k = 5 ∨ k = 6 ∨ k = 7 ∨ k = 8 ∨ k = 9) with rfl | rfl | rfl | rfl | rfl | rfl | rfl | rfl | rfl | rfl <;> decide
theorem numV_snoc (l : List UInt8) (b : UInt8) : numV (l ++ [b]) = numV l * 10 + digV b := by simp [numV]
theorem dec_says : ∀ (n u : Nat), u ≤ n → (Lib.decDigits u).all digitB = true ∧ numV (Lib.decDigits u) = u
  | n, u, hn => by
    rw [Lib.decDigits]
    split
    · rename_i h
      obtain ⟨d1, d2⟩ := dig_lt h
      refine ⟨by rw [List.all_cons, d1]; rfl, ?_⟩
      show 0 * 10 + digV _ = u
      rw [d2]
      omega
    · rename_i h
      cases n with
      | zero => omega
      | succ n =>
        have h1 := dec_says n (u / 10) (by omega)
        have h2 := dig_lt (k := u % 10) (by omega)
        rw [numV_snoc, h1.2, h2.2, List.all_append, h1.1]
        exact ⟨by rw [List.all_cons, h2.1]; rfl, by omega⟩
theorem num_uq {a b : Int} {c d : UInt8} {r s : List UInt8} (ha : numF a = true) (hb : numF b = true) (h : Lib.itoa a ++ c :: r = Lib.itoa b ++ d :: s) (hc : digitB c = false) (hd : digitB d = false) : a = b ∧ c :: r = d :: s := by
  simp only [numF, Bool.and_eq_true, decide_eq_true_eq] at ha hb
  obtain ⟨u, rfl⟩ : ∃ u : Nat, a = u := ⟨a.toNat, by omega⟩
  obtain ⟨v, rfl⟩ : ∃ v : Nat, b = v := ⟨b.toNat, by omega⟩
  rw [Lib.itoa_nonneg, Lib.itoa_nonneg] at h
  have h1 := dec_says u u (Nat.le_refl _)
  have h2 := dec_says v v (Nat.le_refl _)
  obtain ⟨e, e'⟩ := span_uq h1.1 h2.1 (by rintro _ _ h; injection h with h _; rw [← h]; exact hc) (by rintro _ _ h; injection h with h _; rw [← h]; exact hd) h
  refine ⟨?_, e'⟩
  rw [← h1.2, e, h2.2]
theorem net_uq {a b : Int} {r s : List UInt8} (ha : (a / 2 == 0) = true) (hb : (b / 2 == 0) = true) (h : netT a ++ r = netT b ++ s) : a = b ∧ r = s := by
  rw [beq_iff_eq] at ha hb
  unfold netT at h
  rcases (by omega : a = 0 ∨ a = 1) with rfl | rfl <;> rcases (by omega : b = 0 ∨ b = 1) with rfl | rfl <;> simp at h <;> simp [h]
/-- `f` tells its argument where a byte follows that ends it. -/
def Uq {α : Type} (F : α → Bool) (f : α → List UInt8) (E : UInt8 → Bool) : Prop := ∀ (x y : α) (c d : UInt8) (r s : List UInt8), F x = true → F y = true → E c = true → E d = true → f x ++ c :: r = f y ++ d :: s → x = y ∧ c :: r = d :: s
theorem tail_uq {α : Type} {F : α → Bool} {f : α → List UInt8} {E : UInt8 → Bool} (hu : Uq F f E) (hE : E 44 = true) : ∀ (k l : List α) (c d : UInt8) (r s : List UInt8), k.all F = true → l.all F = true → E c = true → E d = true → (c == 44) = false → (d == 44) = false → Lib.joinTail sepT (k.map f) ++ c :: r = Lib.joinTail sepT (l.map f) ++ d :: s → k = l ∧ c :: r = d :: s
  | [], [], c, d, r, s, _, _, _, _, _, _, h => ⟨rfl, h⟩
  | [], y :: l, c, d, r, s, _, _, _, _, nc, nd, h => by
    simp [Lib.joinTail, sepT] at h nc
    exact absurd h.1 nc
  | x :: k, [], c, d, r, s, _, _, _, _, nc, nd, h => by
    simp [Lib.joinTail, sepT] at h nd
    exact absurd h.1.symm nd
  | x :: k, y :: l, c, d, r, s, hk, hl, hc, hd, nc, nd, h => by
    rw [List.all_cons, Bool.and_eq_true] at hk hl
    have hx : ∀ (q : List α) (e : UInt8) (t : List UInt8), E e = true → ∃ e' t', E e' = true ∧ Lib.joinTail sepT (q.map f) ++ e :: t = e' :: t' := by
      intro q e t he
      cases q with
      | nil => exact ⟨e, t, he, rfl⟩
      | cons z q => exact ⟨44, _, hE, rfl⟩
    obtain ⟨c', r', hc', e1⟩ := hx k c r hc
    obtain ⟨d', s', hd', e2⟩ := hx l d s hd
    have h' : f x ++ c' :: r' = f y ++ d' :: s' := by
      rw [← e1, ← e2]
      simpa [Lib.joinTail, sepT] using h
    obtain ⟨rfl, h2⟩ := hu x y c' d' r' s' hk.1 hl.1 hc' hd' h'
    rw [← e1, ← e2] at h2
    obtain ⟨rfl, h3⟩ := tail_uq hu hE k l c d r s hk.2 hl.2 hc hd nc nd h2
    exact ⟨rfl, h3⟩
theorem join_uq {α : Type} {F : α → Bool} {f : α → List UInt8} {E : UInt8 → Bool} (hu : Uq F f E) (hE : E 44 = true) {k l : List α} {c d : UInt8} {r s : List UInt8} (nk : 0 < k.length) (nl : 0 < l.length) (hk : k.all F = true) (hl : l.all F = true) (hc : E c = true) (hd : E d = true) (nc : (c == 44) = false) (nd : (d == 44) = false) (h : Lib.join (k.map f) sepT ++ c :: r = Lib.join (l.map f) sepT ++ d :: s) : k = l ∧ c :: r = d :: s := by
  cases k with
  | nil => simp at nk
  | cons x k =>
    cases l with
    | nil => simp at nl
    | cons y l =>
      rw [List.map_cons, List.map_cons, Lib.join_cons, Lib.join_cons] at h
      refine tail_uq hu hE (x :: k) (y :: l) c d r s hk hl hc hd nc nd ?_
      simpa [Lib.joinTail, sepT] using h
theorem uq_name : Uq wordF (fun x => x) (fun c => !innerB c) := fun x y c d r s hx hy hc hd h => name_uq hx hy h (by simpa using hc) (by simpa using hd)
theorem uq_num : Uq numF Lib.itoa (fun c => !digitB c) := fun x y c d r s hx hy hc hd h => num_uq hx hy h (by simpa using hc) (by simpa using hd)
theorem uq_ref : Uq refF refT (fun c => !innerB c) := fun x y c d r s hx hy hc hd h => by
  obtain ⟨m, p, o⟩ := x
  obtain ⟨m', p', o'⟩ := y
  simp only [refF, List.all_cons, List.all_nil, Bool.and_true, Bool.and_eq_true] at hx hy
  simp only [refT, List.append_assoc, List.cons_append, List.nil_append] at h
  replace h := name_uq hx.1 hy.1 h (by decide) (by decide)
  obtain ⟨rfl, h⟩ := h
  simp only [List.cons.injEq, true_and] at h
  replace h := name_uq hx.2.1 hy.2.1 h (by decide) (by decide)
  obtain ⟨rfl, h⟩ := h
  simp only [List.cons.injEq, true_and] at h
  replace h := name_uq hx.2.2 hy.2.2 h (by simpa using hc) (by simpa using hd)
  obtain ⟨rfl, h⟩ := h
  exact ⟨rfl, h⟩
theorem uq_rep : Uq repF repT (fun c => !digitB c) := fun x y c d r s hx hy hc hd h => by
  obtain ⟨m, p⟩ := x
  obtain ⟨m', p'⟩ := y
  simp only [repF, List.all_cons, List.all_nil, Bool.and_true, Bool.and_eq_true] at hx hy
  simp only [repT, List.append_assoc, List.cons_append, List.nil_append] at h
  replace h := name_uq hx.1 hy.1 h (by decide) (by decide)
  obtain ⟨rfl, h⟩ := h
  simp only [List.cons.injEq, true_and] at h
  replace h := num_uq hx.2 hy.2 h (by simpa using hc) (by simpa using hd)
  obtain ⟨rfl, h⟩ := h
  exact ⟨rfl, h⟩
/-- Lines, one behind the other; what follows is no such line. -/
theorem cat_uq {α : Type} {F : α → Bool} {f : α → List UInt8} (hu : ∀ (x y : α) (r s : List UInt8), F x = true → F y = true → f x ++ r = f y ++ s → x = y ∧ r = s) : ∀ (k l : List α) (r s : List UInt8), k.all F = true → l.all F = true → (∀ y t, F y = true → r ≠ f y ++ t) → (∀ y t, F y = true → s ≠ f y ++ t) → catT f k ++ r = catT f l ++ s → k = l ∧ r = s
  | [], [], r, s, _, _, _, _, h => ⟨rfl, h⟩
  | [], y :: l, r, s, _, hl, hr, _, h => by
    rw [List.all_cons, Bool.and_eq_true] at hl
    exact absurd (by simpa [catT] using h) (hr y (catT f l ++ s) hl.1)
  | x :: k, [], r, s, hk, _, _, hs, h => by
    rw [List.all_cons, Bool.and_eq_true] at hk
    exact absurd (by simpa [catT] using h.symm) (hs x (catT f k ++ r) hk.1)
  | x :: k, y :: l, r, s, hk, hl, hr, hs, h => by
    rw [List.all_cons, Bool.and_eq_true] at hk hl
    obtain ⟨rfl, h2⟩ := hu x y (catT f k ++ r) (catT f l ++ s) hk.1 hl.1 (by simpa [catT] using h)
    obtain ⟨rfl, h3⟩ := cat_uq hu k l r s hk.2 hl.2 hr hs h2
    exact ⟨rfl, h3⟩
theorem wordN_uq {l : List (List UInt8)} (hnd : l.Nodup) {a b : Nat} (ha : (wordN l a != []) = true) (hb : (wordN l b != []) = true) (h : wordN l a = wordN l b) : a = b := by
  unfold wordN at *
  by_cases a0 : a = 0
  · rw [if_pos a0] at ha; simp at ha
  by_cases b0 : b = 0
  · rw [if_pos b0] at hb; simp at hb
  rw [if_neg a0] at ha h
  rw [if_neg b0] at hb h
  simp only [List.getD_eq_getElem?_getD] at *
  by_cases la : a - 1 < l.length
  · by_cases lb : b - 1 < l.length
    · rw [List.getElem?_eq_getElem la, List.getElem?_eq_getElem lb] at h
      have := (List.getElem_inj hnd).1 h
      omega
    · rw [List.getElem?_eq_none (by omega)] at hb; simp at hb
  · rw [List.getElem?_eq_none (by omega)] at ha; simp at ha
end Go.Proofs.YtndpnpohdoggjaaGreatDoor
