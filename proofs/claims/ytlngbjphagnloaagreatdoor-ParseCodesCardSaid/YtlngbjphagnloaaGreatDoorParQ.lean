/-
  parse: what parsing yields, by cases.
-/
import Derived.Test.YtlngbjphagnloaaGreatDoorPk7
import Derived.Test.YtlngbjphagnloaaGreatDoorPk4
namespace Go.Proofs.YtlngbjphagnloaaGreatDoor
theorem all_used : ∀ (f : Nat) (c c' : CfgD) (r r' : List Tok), r.length < f → itemsLoop f c r = .ok c' r' → r' = []
  | 0, c, c', r, r', hf, h => by omega
  | f + 1, c, c', [], r', hf, h => by
    have h : Res.ok c [] = .ok c' r' := h
    injection h with _ h2
    exact h2.symm
  | f + 1, c, c', t :: r, r', hf, h => by
    obtain ⟨c1, r1, h1, h2⟩ := bnd_inv (show (itemP c >>= fun c' => itemsLoop f c') (t :: r) = .ok c' r' from h)
    have := item_lt c _ _ _ h1
    exact all_used f c1 c' r1 r' (by omega) h2
theorem parsed_cases (x : List Tok × Nat × Nat) (size : Nat) :
    (∃ c, x.2.2 = 0 ∧ cfgP x.1 = .ok c [] ∧ parseT x size = (c, 0, 0)) ∨
    (∃ at_ e, e ≠ 0 ∧ parseT x size = (CfgD.none, at_, e) ∧ ((x.2.2 ≠ 0 ∧ at_ = x.2.1 ∧ e = x.2.2) ∨ (x.2.2 = 0 ∧ ∃ r, cfgP x.1 = .bad e r ∧ at_ = atT r size))) := by
  unfold parseT
  by_cases h0 : x.2.2 = 0
  · rw [if_pos h0]
    cases h : cfgP x.1 with
    | ok c r =>
      obtain rfl := all_used _ _ _ _ _ (Nat.lt_succ_self _) h
      exact .inl ⟨c, h0, rfl, rfl⟩
    | bad e r => exact .inr ⟨_, e, by have := cfg_er _ _ _ h; omega, rfl, .inr ⟨h0, r, rfl, rfl⟩⟩
  · rw [if_neg h0]
    exact .inr ⟨_, _, h0, rfl, .inl ⟨h0, rfl, rfl⟩⟩
theorem parsed_ok {x : List Tok × Nat × Nat} {size at_ : Nat} {c : CfgD} (h : parseT x size = (c, at_, 0)) : x.2.2 = 0 ∧ cfgP x.1 = .ok c [] ∧ at_ = 0 := by
  rcases parsed_cases x size with ⟨c', h0, h1, h2⟩ | ⟨a, e, he, h2, _⟩
  · rw [h2] at h
    injection h with e1 e2
    injection e2 with e2 _
    subst e1
    exact ⟨h0, h1, e2.symm⟩
  · rw [h2] at h
    injection h with _ h
    injection h with _ h
    exact absurd h he
theorem parsed_bad {x : List Tok × Nat × Nat} {size at_ e : Nat} {c : CfgD} (h : parseT x size = (c, at_, e)) (he : e ≠ 0) : c = CfgD.none := by
  rcases parsed_cases x size with ⟨c', h0, h1, h2⟩ | ⟨a, e, he, h2, _⟩
  · rw [h2] at h
    injection h with e1 e2
    injection e2 with _ e2
    exact absurd e2.symm he
  · rw [h2] at h
    injection h with h _
    exact h.symm
/-- A short source is lexed as it is. -/
theorem lexR_short {l : List UInt8} (h : l.length ≤ 65536) : lexR l = if (lexA 0 l).2.2 = 0 then lexA 0 l else ([], (lexA 0 l).2.1, (lexA 0 l).2.2) := by
  unfold lexR
  rw [if_neg (by omega)]
end Go.Proofs.YtlngbjphagnloaaGreatDoor
