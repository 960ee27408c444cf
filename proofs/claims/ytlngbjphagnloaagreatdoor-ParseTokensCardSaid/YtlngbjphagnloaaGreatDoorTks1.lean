/-
  parse: ParseTokens: the plain law.
-/
import Derived.Test.YtlngbjphagnloaaGreatDoorParQ
import Derived.Test.YtlngbjphagnloaaGreatDoorParN
import Derived.Test.YtlngbjphagnloaaGreatDoorPk4
import Derived.Test.YtlngbjphagnloaaGreatDoorPk14
namespace Go.Proofs.YtlngbjphagnloaaGreatDoor
theorem lexA_sum (p : Nat) (l : List UInt8) : ((lexA p l).1.map (·.text.length)).sum ≤ l.length := by
  refine lexA_ind (fun p l q => (q.1.map (·.text.length)).sum ≤ l.length) ?_ ?_ ?_ l.length p l (Nat.le_refl _)
  · intro p l _; simp
  · intro p l b r h hz ih
    have hd : (l.drop (skipN false l)).length = l.length - skipN false l := List.length_drop
    rw [h] at hd
    simp only [List.length_cons] at hd
    rw [List.length_drop, List.length_cons] at ih
    have hle := tokN_le b r
    simp only [List.map_cons, List.sum_cons, List.length_take, List.length_cons]
    omega
  · intro p l b r _ _; simp
theorem lexA_blank (p : Nat) (b : UInt8) (r : List UInt8) (h : blankB b = true) : lexA p (b :: r) = lexA (p + 1) r := by
  rw [lexA_skip p (b :: r), lexA_skip (p + 1) r, skipN_f, if_pos h, Nat.add_comm 1, List.drop_succ_cons]
  rw [show p + (skipN false r + 1) = p + 1 + skipN false r from by omega]
def joinL (ts : List Tok) : List UInt8 := Lib.join (ts.map (·.text)) [32]
theorem joinL_cons (t u : Tok) (r : List Tok) : joinL (t :: u :: r) = t.text ++ 32 :: joinL (u :: r) := by
  unfold joinL Lib.join
  simp [List.intercalate]
theorem joinT_eq (ts : List Tok) : joinT (ts.map Tok.toZ) = joinL ts := by
  unfold joinT joinL
  rw [List.map_map]
  rfl
theorem joinL_len : ∀ (ts : List Tok), (joinL ts).length ≤ (ts.map (·.text.length)).sum + ts.length
  | [] => by simp [joinL, Lib.join, List.intercalate]
  | [t] => by simp [joinL, Lib.join, List.intercalate]
  | t :: u :: r => by
    have := joinL_len (u :: r)
    rw [joinL_cons]
    simp at this ⊢
    omega
theorem lex_join : ∀ (ts : List Tok) (p : Nat), (∀ t ∈ ts, ValidT t) → ∃ us, lexA p (joinL ts) = (us, 0, 0) ∧ us.map keyT = ts.map keyT
  | [], p, _ => ⟨[], by rw [show joinL [] = [] from by simp [joinL, Lib.join, List.intercalate], lexA_nil], rfl⟩
  | [t], p, hv => by
    have e : joinL [t] = t.text ++ [] := by simp [joinL, Lib.join, List.intercalate]
    exact ⟨[⟨t.kind, t.text, p⟩], by rw [e, lexA_tok p t [] (hv t (by simp)) (fun c s h => by cases h), lexA_nil], rfl⟩
  | t :: u :: r, p, hv => by
    obtain ⟨us, h1, h2⟩ := lex_join (u :: r) (p + t.text.length + 1) (fun x hx => hv x (List.mem_cons_of_mem _ hx))
    refine ⟨⟨t.kind, t.text, p⟩ :: us, ?_, by rw [List.map_cons, h2]; rfl⟩
    rw [joinL_cons, lexA_tok p t _ (hv t (by simp)) (fun c s h => by injection h with h _; subst h; rfl), lexA_blank _ 32 _ rfl, h1]
/-- The tokens' offsets grow. -/
theorem lexA_grow (p : Nat) (l : List UInt8) : (lexA p l).1.Pairwise (fun t u => t.at_ < u.at_) ∧ ∀ t ∈ (lexA p l).1, p ≤ t.at_ ∧ t.at_ < p + l.length := by
  refine lexA_ind (fun p l q => q.1.Pairwise (fun t u => t.at_ < u.at_) ∧ ∀ t ∈ q.1, p ≤ t.at_ ∧ t.at_ < p + l.length) ?_ ?_ ?_ l.length p l (Nat.le_refl _)
  · intro p l _; simp
  · intro p l b r h hz ih
    have hd : (l.drop (skipN false l)).length = l.length - skipN false l := List.length_drop
    rw [h] at hd
    simp only [List.length_cons] at hd
    have hp := tokN_pos b r hz
    have hle := tokN_le b r
    have hln : ((b :: r).drop (tokN (b :: r)).2.1).length = r.length + 1 - (tokN (b :: r)).2.1 := by rw [List.length_drop, List.length_cons]
    rw [hln] at ih
    refine ⟨List.pairwise_cons.2 ⟨fun t ht => ?_, ih.1⟩, fun t ht => ?_⟩
    · have := ih.2 t ht
      show p + skipN false l < t.at_
      omega
    · rcases List.mem_cons.1 ht with rfl | ht
      · show p ≤ p + skipN false l ∧ p + skipN false l < _
        omega
      · have := ih.2 t ht
        omega
  · intro p l b r _ _; simp
theorem same_at {ts : List Tok} (h : ts.Pairwise (fun t u => t.at_ < u.at_)) {i k : Nat} {t u : Tok} (hi : ts[i]? = some t) (hk : ts[k]? = some u) (e : t.at_ = u.at_) : i = k := by
  obtain ⟨h1, rfl⟩ := List.getElem?_eq_some_iff.1 hi
  obtain ⟨h2, rfl⟩ := List.getElem?_eq_some_iff.1 hk
  rw [List.pairwise_iff_getElem] at h
  rcases Nat.lt_trichotomy i k with hl | hl | hl
  · have := h i k h1 h2 hl; omega
  · exact hl
  · have := h k i h2 h1 hl; omega
/-- What a source and its joined tokens have in common: the tokens of both, both results. -/
theorem tokens_plain {l : List UInt8} {ts : List Tok} {p : Nat} (h : lexR l = (ts, p, 0)) (hl : l.length ≤ 5000) :
    (joinL ts).length ≤ 10000 ∧ ∃ us, lexR (joinL ts) = (us, 0, 0) ∧ us.length = ts.length ∧
      ((∃ c, parseT (lexR l) l.length = (c, 0, 0) ∧ parseT (lexR (joinL ts)) (joinL ts).length = (c, 0, 0)) ∨
       (∃ a b e, e ≠ 0 ∧ parseT (lexR l) l.length = (CfgD.none, a, e) ∧ parseT (lexR (joinL ts)) (joinL ts).length = (CfgD.none, b, e) ∧
         (a = l.length ∧ b = (joinL ts).length ∨ a ≠ l.length ∧ ∃ (k : Nat) (t u : Tok), ts[k]? = some t ∧ us[k]? = some u ∧ t.at_ = a ∧ u.at_ = b ∧ ∀ (i : Nat) (v : Tok), ts[i]? = some v → v.at_ = a → i = k))) := by
  have es := lexR_short (l := l) (by omega)
  have h0 : (lexA 0 l).2.2 = 0 := by
    rw [es] at h
    split at h
    · rw [h]
    · injection h with _ h; injection h with _ h
  rw [if_pos h0, h] at es
  have hts : (lexA 0 l).1 = ts := by rw [← es]
  have hsum := lexA_sum 0 l
  have hlen := (lexA_ok l.length 0 l (Nat.le_refl _)).2.1
  have hgrow := lexA_grow 0 l
  have hval := valid_all 0 l
  rw [hts] at hsum hlen hgrow hval
  have hj := joinL_len ts
  have hjl : (joinL ts).length ≤ 10000 := by omega
  obtain ⟨us, hu, hk⟩ := lex_join ts 0 hval
  have hul : us.length = ts.length := by simpa using congrArg List.length hk
  have eu : lexR (joinL ts) = (us, 0, 0) := by
    rw [lexR_short (by omega), hu]
    rfl
  refine ⟨hjl, us, eu, hul, ?_⟩
  rw [h, eu]
  have hn := cfg_nat (R := ts) (S := us) ts us ⟨hk.symm, 0, rfl, rfl⟩
  rcases hn.cases with ⟨c, r, s, h1, h2, h3⟩ | ⟨e, r, s, h1, h2, he, _, k, h3, h4⟩
  · refine .inl ⟨c, ?_, ?_⟩
    · unfold parseT; simp only [h1, if_true]
    · unfold parseT; simp only [h2, if_true]
  · refine .inr ⟨atT r l.length, atT s (joinL ts).length, e, he, ?_, ?_, ?_⟩
    · unfold parseT; simp only [h1, if_true]
    · unfold parseT; simp only [h2, if_true]
    · subst h3 h4
      rcases Nat.lt_or_ge k ts.length with hkl | hkl
      · have e1 : atT (ts.drop k) l.length = ts[k].at_ := by unfold atT; rw [List.drop_eq_getElem_cons hkl]; rfl
        have e2 : atT (us.drop k) (joinL ts).length = us[k].at_ := by unfold atT; rw [List.drop_eq_getElem_cons (by omega)]; rfl
        rw [e1, e2]
        have := (hgrow.2 ts[k] (List.getElem_mem hkl)).2
        exact .inr ⟨by omega, k, ts[k], us[k], List.getElem?_eq_getElem hkl, List.getElem?_eq_getElem _, rfl, rfl, fun i v hv e => same_at hgrow.1 hv (List.getElem?_eq_getElem hkl) e⟩
      · rw [List.drop_eq_nil_of_le hkl, List.drop_eq_nil_of_le (by omega)]
        exact .inl ⟨rfl, rfl⟩
end Go.Proofs.YtlngbjphagnloaaGreatDoor
