/-
  parse: ParseAppends: the plain law.
-/
import Derived.Test.YtlngbjphagnloaaGreatDoorParQ
import Derived.Test.YtlngbjphagnloaaGreatDoorParX
import Derived.Test.YtlngbjphagnloaaGreatDoorSplQ
import Derived.Test.YtlngbjphagnloaaGreatDoorPk6
namespace Go.Proofs.YtlngbjphagnloaaGreatDoor
theorem atT_shift (d : Nat) (r : List Tok) (size : Nat) : atT (r.map (shiftT d)) (size + d) = atT r size + d := by
  cases r <;> rfl
theorem like_shift (d : Nat) (l : List Tok) : LikeL l (l.map (shiftT d)) l (l.map (shiftT d)) := by
  refine ⟨?_, 0, rfl, rfl⟩
  rw [List.map_map]
  rfl
/-- Where the first source is parsed, the rest decides. -/
theorem appends_plain (a b : List UInt8) (hl : a.length + 1 + b.length ≤ 65536) {c : CfgD} {at_ : Nat} (h : parseT (lexR a) a.length = (c, at_, 0)) :
    (∀ d at', parseT (lexR b) b.length = (d, at', 0) → parseT (lexR (a ++ 10 :: b)) (a.length + 1 + b.length) = (c.app d, 0, 0)) ∧
    (∀ d at' e, e ≠ 0 → parseT (lexR b) b.length = (d, at', e) → parseT (lexR (a ++ 10 :: b)) (a.length + 1 + b.length) = (CfgD.none, at' + a.length + 1, e)) := by
  obtain ⟨h0, h1, _⟩ := parsed_ok h
  have ea := lexR_short (l := a) (by omega)
  have eb := lexR_short (l := b) (by omega)
  have ex := lexR_short (l := a ++ 10 :: b) (by simp; omega)
  have ha : (lexA 0 a).2.2 = 0 := by
    rw [ea] at h0
    split at h0
    · assumption
    · exact h0
  rw [if_pos ha] at ea
  rw [lex_split 0 a b, if_pos ha, Nat.zero_add, show a.length + 1 = 0 + (a.length + 1) from (Nat.zero_add _).symm, lexA_shift (a.length + 1) 0 b] at ex
  dsimp only at ex
  rw [ea] at h1
  have hsz : a.length + 1 + b.length = b.length + (a.length + 1) := by omega
  generalize hd : a.length + 1 = d at *
  by_cases hb : (lexA 0 b).2.2 = 0
  · rw [if_pos hb] at eb
    rw [if_pos hb] at ex
    rw [hb] at ex
    simp only [if_true] at ex
    have hc := cfg_app (s := (lexA 0 b).1.map (shiftT d)) h1
    have hn := cfg_nat _ _ (like_shift d (lexA 0 b).1)
    refine ⟨fun e at' he => ?_, fun e at' f hf he => ?_⟩
    · obtain ⟨_, h3, _⟩ := parsed_ok he
      rw [eb] at h3
      rcases hn.cases with ⟨a1, r, s, h4, h5, h6⟩ | ⟨f, r, s, h4, h5, h6, h7⟩
      · rw [h3] at h4
        injection h4 with h4 h8
        subst h4 h8
        rw [h5] at hc
        rw [ex]
        unfold parseT
        simp only [if_true, hc, Res.map]
      · rw [h3] at h4
        cases h4
    · rcases parsed_cases (lexR b) b.length with ⟨c', g0, g1, g2⟩ | ⟨a', f', g0, g1, g2 | ⟨g2, r, g3, g4⟩⟩
      · rw [g2] at he
        injection he with _ he
        injection he with _ he
        exact absurd he.symm hf
      · rw [eb] at g2
        exact absurd hb g2.1
      · rw [g1] at he
        injection he with _ he
        injection he with he1 he2
        subst he1 he2
        rw [eb] at g3
        rcases hn.cases with ⟨a1, r2, s, h4, h5, h6⟩ | ⟨f, r2, s, h4, h5, h6, h7, k, h8, h9⟩
        · rw [g3] at h4
          cases h4
        · rw [g3] at h4
          injection h4 with h4 h10
          subst h4
          rw [h5] at hc
          rw [ex]
          unfold parseT
          simp only [if_true, hc, Res.map]
          have : s = r.map (shiftT d) := by rw [h10, h8, h9, List.map_drop]
          rw [this, hsz, atT_shift, g4]
          rw [Nat.add_assoc, hd]
  · rw [if_neg hb] at eb
    rw [if_neg hb, if_neg hb] at ex
    refine ⟨fun e at' he => ?_, fun e at' f hf he => ?_⟩
    · obtain ⟨h2, _, _⟩ := parsed_ok he
      rw [eb] at h2
      exact absurd h2 hb
    · rw [ex]
      rw [eb] at he
      unfold parseT at he ⊢
      simp only [if_neg hb] at he ⊢
      injection he with _ he
      injection he with he1 he2
      rw [he2, he1]
      rw [Nat.add_assoc, hd]
end Go.Proofs.YtlngbjphagnloaaGreatDoor
