/-
  parse: how many items a source has, counted by its tokens (the plain law of ParseCounts).
-/
import Derived.Test.YtlngbjphagnloaaGreatDoorPk2
namespace Go.Proofs.YtlngbjphagnloaaGreatDoor
/-- One token of the count: how deep, how many items. -/
def cstep (s : Int × Nat) (t : Tok) : Int × Nat :=
  let d := if t.text = [123] then s.1 + 1 else if t.text = [125] then s.1 - 1 else s.1
  (d, if d = 0 ∧ (t.text = [59] ∨ t.text = [125]) then s.2 + 1 else s.2)
/-- Words and numbers are no signs. -/
def GoodT (r : List Tok) : Prop := ∀ t ∈ r, t.kind = 1 ∨ t.kind = 2 → t.text ≠ [123] ∧ t.text ≠ [125] ∧ t.text ≠ [59]
/-- Where it succeeds at a depth of D, m goes i deeper and counts c items. -/
def Eff {α : Type} (D : Int → Prop) (i : Int) (c : Nat) (m : Ps α) : Prop :=
  ∀ r a r', GoodT r → m r = .ok a r' → ∃ s, r = s ++ r' ∧ ∀ d n, D d → s.foldl cstep (d, n) = (d + i, n + c)
theorem GoodT.suf {s r : List Tok} (h : GoodT (s ++ r)) : GoodT r := fun t ht => h t (by simp [ht])
theorem Eff.mono {α : Type} {D E : Int → Prop} {i : Int} {c : Nat} {m : Ps α} (h : Eff D i c m) (k : ∀ d, E d → D d) : Eff E i c m := fun r a r' hg e => by
  obtain ⟨s, h1, h2⟩ := h r a r' hg e
  exact ⟨s, h1, fun d n hd => h2 d n (k d hd)⟩
theorem Eff.bind {α β : Type} {D E : Int → Prop} {i j k : Int} {c e f : Nat} {m : Ps α} {x : α → Ps β} (h : Eff D i c m) (hx : ∀ a, Eff E j e (x a)) (hd : ∀ d, D d → E (d + i)) (hi : i + j = k) (hc : c + e = f) : Eff D k f (m >>= x) := fun r b r' hg he => by
  cases hm : m r with
  | bad n r1 => rw [bnd_bad hm] at he; cases he
  | ok a r1 =>
    rw [bnd_ok hm] at he
    obtain ⟨s, h1, h2⟩ := h r a r1 hg hm
    subst h1
    obtain ⟨s', h3, h4⟩ := hx a r1 b r' hg.suf he
    refine ⟨s ++ s', by rw [h3, List.append_assoc], fun d n hD => ?_⟩
    rw [List.foldl_append, h2 d n hD, h4 _ _ (hd d hD), Int.add_assoc, hi, Nat.add_assoc, hc]
theorem Eff.ret {α : Type} {D : Int → Prop} (a : α) : Eff D 0 0 (pure a : Ps α) := fun r b r' _ h => by
  have h : (Res.ok a r : Res α) = .ok b r' := h
  injection h with _ h
  exact ⟨[], by simp [h], fun d n _ => by simp⟩
theorem Eff.seq {α β : Type} {D : Int → Prop} {m : Ps α} {x : α → Ps β} (h : Eff D 0 0 m) (hx : ∀ a, Eff D 0 0 (x a)) : Eff D 0 0 (m >>= x) := h.bind hx (fun d hd => by simpa using hd) rfl rfl
def Tr (_ : Int) : Prop := True
theorem hd_tail {r : List Tok} {P : Tok → Prop} (h0 : ¬ P ⟨0, [], 0⟩) (h : P (hdT r)) : ∃ t l, r = t :: l ∧ P t := by
  cases r with
  | nil => exact absurd h h0
  | cons t l => exact ⟨t, l, rfl, h⟩
theorem cstep_other {t : Tok} (h1 : t.text ≠ [123]) (h2 : t.text ≠ [125]) (h3 : t.text ≠ [59]) (d : Int) (n : Nat) : cstep (d, n) t = (d, n) := by
  simp [cstep, h1, h2, h3]
theorem next_eff (k : Nat) (hk : k = 1 ∨ k = 2) : Eff Tr 0 0 (nextP k) := fun r a r' hg h => by
  unfold nextP at h
  split at h
  · rename_i hc
    injection h with _ h
    obtain ⟨t, l, rfl, ht⟩ := hd_tail (P := fun t => t.kind = k) (by simp; omega) (by simpa using hc)
    obtain ⟨g1, g2, g3⟩ := hg t (by simp) (by omega)
    subst h
    exact ⟨[t], rfl, fun d n _ => by simp [cstep_other g1 g2 g3]⟩
  · cases h
theorem name_eff : Eff Tr 0 0 nameP := next_eff 1 (.inl rfl)
theorem num_eff : Eff Tr 0 0 numP := (next_eff 2 (.inr rfl)).seq fun _ => .ret _
theorem sees_cons {s : List UInt8} {r : List Tok} (h : seesB s r = true) : ∃ t l, r = t :: l ∧ t.text = s := by
  obtain ⟨t, l, e, h⟩ := hd_tail (P := fun t => t.text = s ∧ (t.kind = 1 ∨ t.kind = 3)) (by simp) (by simpa [seesB] using h)
  exact ⟨t, l, e, h.1⟩
theorem must_eff (s : List UInt8) (h1 : s ≠ [123]) (h2 : s ≠ [125]) (h3 : s ≠ [59]) : Eff Tr 0 0 (mustP s) := fun r a r' _ h => by
  unfold mustP at h
  split at h
  · rename_i hc
    injection h with _ h
    obtain ⟨t, l, rfl, rfl⟩ := sees_cons hc
    subst h
    exact ⟨[t], rfl, fun d n _ => by simp [cstep_other h1 h2 h3]⟩
  · cases h
theorem takes_eff (s : List UInt8) (h1 : s ≠ [123]) (h2 : s ≠ [125]) (h3 : s ≠ [59]) : Eff Tr 0 0 (takesP s) := fun r a r' _ h => by
  unfold takesP at h
  split at h
  · rename_i hc
    injection h with _ h
    obtain ⟨t, l, rfl, rfl⟩ := sees_cons hc
    subst h
    exact ⟨[t], rfl, fun d n _ => by simp [cstep_other h1 h2 h3]⟩
  · injection h with _ h
    exact ⟨[], by simp [h], fun d n _ => by simp⟩
theorem open_eff : Eff (fun d => 0 ≤ d) 1 0 (mustP [123]) := fun r a r' _ h => by
  unfold mustP at h
  split at h
  · rename_i hc
    injection h with _ h
    obtain ⟨t, l, rfl, ht⟩ := sees_cons hc
    subst h
    exact ⟨[t], rfl, fun d n _ => by simp [cstep, ht]⟩
  · cases h
theorem close_in : Eff (fun d => 2 ≤ d) (-1) 0 (mustP [125]) := fun r a r' _ h => by
  unfold mustP at h
  split at h
  · rename_i hc
    injection h with _ h
    obtain ⟨t, l, rfl, ht⟩ := sees_cons hc
    subst h
    refine ⟨[t], rfl, fun d n hd => ?_⟩
    have : ¬ d - 1 = 0 := by omega
    simp [cstep, ht, Int.sub_eq_add_neg]
    omega
  · cases h
theorem close_out : Eff (fun d => d = 1) (-1) 1 (mustP [125]) := fun r a r' _ h => by
  unfold mustP at h
  split at h
  · rename_i hc
    injection h with _ h
    obtain ⟨t, l, rfl, ht⟩ := sees_cons hc
    subst h
    refine ⟨[t], rfl, fun d n hd => ?_⟩
    subst hd
    simp [cstep, ht]
  · cases h
theorem semi_in : Eff (fun d => 1 ≤ d) 0 0 (mustP [59]) := fun r a r' _ h => by
  unfold mustP at h
  split at h
  · rename_i hc
    injection h with _ h
    obtain ⟨t, l, rfl, ht⟩ := sees_cons hc
    subst h
    refine ⟨[t], rfl, fun d n hd => ?_⟩
    have : ¬ d = 0 := by omega
    simp [cstep, ht, this]
  · cases h
theorem semi_out : Eff (fun d => d = 0) 0 1 (mustP [59]) := fun r a r' _ h => by
  unfold mustP at h
  split at h
  · rename_i hc
    injection h with _ h
    obtain ⟨t, l, rfl, ht⟩ := sees_cons hc
    subst h
    refine ⟨[t], rfl, fun d n hd => ?_⟩
    subst hd
    simp [cstep, ht]
  · cases h
theorem after_eff (s : List UInt8) (h1 : s ≠ [123]) (h2 : s ≠ [125]) (h3 : s ≠ [59]) : Eff Tr 0 0 (afterP s) := (must_eff s h1 h2 h3).seq fun _ => num_eff
theorem of_eff (l : List (List UInt8)) : Eff Tr 0 0 (ofP l) := fun r a r' hg h => by
  unfold ofP at h
  split at h
  · rename_i hc
    injection h with _ h
    simp only [Bool.and_eq_true, beq_iff_eq] at hc
    obtain ⟨t, l, rfl, ht⟩ := hd_tail (P := fun t => t.kind = 1) (by simp) hc.2
    obtain ⟨g1, g2, g3⟩ := hg t (by simp) (.inl ht)
    subst h
    exact ⟨[t], rfl, fun d n _ => by simp [cstep_other g1 g2 g3]⟩
  · cases h
theorem more_eff {α : Type} {x : Ps α} (h : Eff Tr 0 0 x) : ∀ (f : Nat) (acc : List α), Eff Tr 0 0 (moreP x f acc)
  | 0, acc => .ret _
  | f + 1, acc => (takes_eff [44] (by decide) (by decide) (by decide)).seq fun b => by
    cases b with
    | true => exact h.seq fun a => more_eff h f _
    | false => exact .ret _
theorem Eff.at {α : Type} {D : Int → Prop} {i : Int} {c : Nat} {x : List Tok → Ps α} (h : ∀ r, Eff D i c (x r)) : Eff D i c (fun r => x r r) := fun r a r' hg e => h r r a r' hg e
theorem list_eff {α : Type} {x : Ps α} (h : Eff Tr 0 0 x) : Eff Tr 0 0 (listP x) := h.seq fun a => .at (x := fun r => moreP x (r.length + 1) [a]) fun _r => more_eff h _ _
theorem ref_eff : Eff Tr 0 0 refP := name_eff.seq fun _ => (must_eff _ (by decide) (by decide) (by decide)).seq fun _ => name_eff.seq fun _ => (must_eff _ (by decide) (by decide) (by decide)).seq fun _ => name_eff.seq fun _ => .ret _
theorem net_eff : Eff Tr 0 0 netP := (must_eff _ (by decide) (by decide) (by decide)).seq fun _ => (of_eff _).seq fun _ => .ret _
theorem rep_eff : Eff Tr 0 0 repP := name_eff.seq fun _ => (must_eff _ (by decide) (by decide) (by decide)).seq fun _ => num_eff.seq fun _ => .ret _
theorem opt_eff (s : List UInt8) (h1 : s ≠ [123]) (h2 : s ≠ [125]) (h3 : s ≠ [59]) : Eff Tr 0 0 (optP s) := (takes_eff s h1 h2 h3).seq fun b => by
  cases b with
  | true => exact name_eff
  | false => exact .ret _
theorem unless_eff : Eff Tr 0 0 unlessP := (takes_eff _ (by decide) (by decide) (by decide)).seq fun b => by
  cases b with
  | true => exact list_eff name_eff
  | false => exact .ret _
/-- Behind a plain part: what is counted comes later. -/
theorem Eff.pre {α β : Type} {D : Int → Prop} {i : Int} {c : Nat} {m : Ps α} {x : α → Ps β} (h : Eff Tr 0 0 m) (hx : ∀ a, Eff D i c (x a)) : Eff D i c (m >>= x) := (h.mono fun _ _ => trivial).bind hx (fun d hd => by simpa using hd) (by simp) (by simp)
theorem Eff.fin {α β : Type} {D : Int → Prop} {i : Int} {c : Nat} {m : Ps α} {x : α → Ps β} (h : Eff D i c m) (hx : ∀ a, Eff Tr 0 0 (x a)) : Eff D i c (m >>= x) := h.bind hx (fun _ _ => trivial) (by simp) (by simp)
theorem chan_eff : Eff (fun d => d = 0) 0 1 chanP := ref_eff.pre fun _ => (must_eff _ (by decide) (by decide) (by decide)).pre fun _ => (list_eff ref_eff).pre fun _ => semi_out.fin fun _ => .ret _
theorem sw_eff : Eff (fun d => d = 0) 0 1 swP := name_eff.pre fun _ => net_eff.pre fun _ => (after_eff _ (by decide) (by decide) (by decide)).pre fun _ => (after_eff _ (by decide) (by decide) (by decide)).pre fun _ => semi_out.fin fun _ => .ret _
theorem link_eff : Eff (fun d => d = 0) 0 1 linkP := name_eff.pre fun _ => name_eff.pre fun _ => net_eff.pre fun _ => (after_eff _ (by decide) (by decide) (by decide)).pre fun _ => semi_out.fin fun _ => .ret _
theorem vl_eff : Eff (fun d => d = 0) 0 1 vlP := name_eff.pre fun _ => (must_eff _ (by decide) (by decide) (by decide)).pre fun _ => ref_eff.pre fun _ => (after_eff _ (by decide) (by decide) (by decide)).pre fun _ => (after_eff _ (by decide) (by decide) (by decide)).pre fun _ => (must_eff _ (by decide) (by decide) (by decide)).pre fun _ => (list_eff ref_eff).pre fun _ => semi_out.fin fun _ => .ret _
theorem health_eff : Eff (fun d => d = 0) 0 1 healthP := (of_eff _).pre fun _ => (opt_eff _ (by decide) (by decide) (by decide)).pre fun _ => (opt_eff _ (by decide) (by decide) (by decide)).pre fun _ => (must_eff _ (by decide) (by decide) (by decide)).pre fun _ => (of_eff _).pre fun _ => (must_eff _ (by decide) (by decide) (by decide)).pre fun _ => (of_eff _).pre fun _ => semi_out.fin fun _ => .ret _
theorem cause_eff : Eff (fun d => d = 0) 0 1 causeP := name_eff.pre fun _ => (must_eff _ (by decide) (by decide) (by decide)).pre fun _ => (list_eff rep_eff).pre fun _ => unless_eff.pre fun _ => semi_out.fin fun _ => .ret _
theorem works_eff : Eff (fun d => d = 0) 0 1 worksP := name_eff.pre fun _ => num_eff.pre fun _ => (must_eff _ (by decide) (by decide) (by decide)).pre fun _ => name_eff.pre fun _ => num_eff.pre fun _ => semi_out.fin fun _ => .ret _
end Go.Proofs.YtlngbjphagnloaaGreatDoor
