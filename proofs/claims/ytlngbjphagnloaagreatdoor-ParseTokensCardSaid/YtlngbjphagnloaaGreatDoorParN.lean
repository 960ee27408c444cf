/-
  parse: the parser looks at the tokens' kinds and texts alone.
-/
import Derived.Test.YtlngbjphagnloaaGreatDoorPk4
namespace Go.Proofs.YtlngbjphagnloaaGreatDoor
def keyT (t : Tok) : Nat × List UInt8 := (t.kind, t.text)
/-- What is left of two lists of tokens that are alike. -/
def LikeL (R S r s : List Tok) : Prop := R.map keyT = S.map keyT ∧ ∃ k, r = R.drop k ∧ s = S.drop k
variable {R S : List Tok}
def ResLike {α : Type} (R S : List Tok) : Res α → Res α → Prop
  | .ok a r, .ok b s => a = b ∧ LikeL R S r s
  | .bad e r, .bad f s => e = f ∧ e ≠ 0 ∧ LikeL R S r s
  | _, _ => False
def Natu {α : Type} (R S : List Tok) (m : Ps α) : Prop := ∀ r s, LikeL R S r s → ResLike R S (m r) (m s)
theorem LikeL.keys {r s : List Tok} (h : LikeL R S r s) : r.map keyT = s.map keyT := by
  obtain ⟨h, k, rfl, rfl⟩ := h
  rw [List.map_drop, List.map_drop, h]
theorem LikeL.len {r s : List Tok} (h : LikeL R S r s) : r.length = s.length := by have := congrArg List.length h.keys; simpa using this
theorem LikeL.tail {r s : List Tok} (h : LikeL R S r s) : LikeL R S r.tail s.tail := by
  obtain ⟨h, k, rfl, rfl⟩ := h
  exact ⟨h, k + 1, by simp, by simp⟩
theorem LikeL.hd {r s : List Tok} (h : LikeL R S r s) : (hdT r).kind = (hdT s).kind ∧ (hdT r).text = (hdT s).text := by
  have h := h.keys
  unfold hdT
  cases r with
  | nil => cases s with
    | nil => exact ⟨rfl, rfl⟩
    | cons t s => simp at h
  | cons t r => cases s with
    | nil => simp at h
    | cons u s =>
      simp only [List.map_cons, List.cons.injEq, keyT, Prod.mk.injEq] at h
      exact h.1
theorem LikeL.sees {r s : List Tok} (h : LikeL R S r s) (t : List UInt8) : seesB t r = seesB t s := by
  unfold seesB
  rw [h.hd.1, h.hd.2]
theorem Natu.ret {α : Type} (a : α) : Natu R S (pure a : Ps α) := fun _ _ h => ⟨rfl, h⟩
theorem ResLike.cases {α : Type} {x y : Res α} (h : ResLike R S x y) : (∃ a r s, x = .ok a r ∧ y = .ok a s ∧ LikeL R S r s) ∨ (∃ e r s, x = .bad e r ∧ y = .bad e s ∧ e ≠ 0 ∧ LikeL R S r s) := by
  cases x with
  | ok a r => cases y with
    | ok b s => obtain ⟨rfl, h⟩ := h; exact .inl ⟨a, r, s, rfl, rfl, h⟩
    | bad f s => exact h.elim
  | bad e r => cases y with
    | ok b s => exact h.elim
    | bad f s => obtain ⟨rfl, h⟩ := h; exact .inr ⟨e, r, s, rfl, rfl, h⟩
theorem Natu.bind {α β : Type} {m : Ps α} {f : α → Ps β} (h : Natu R S m) (k : ∀ a, Natu R S (f a)) : Natu R S (m >>= f) := fun r s hr => by
  rcases (h r s hr).cases with ⟨a, r', s', h1, h2, h3⟩ | ⟨e, r', s', h1, h2, h3⟩
  · rw [bnd_ok h1, bnd_ok h2]; exact k a _ _ h3
  · rw [bnd_bad h1, bnd_bad h2]; exact ⟨rfl, h3⟩
theorem takes_nat (t : List UInt8) : Natu R S (takesP t) := fun r s h => by
  unfold takesP
  rw [h.sees]
  split
  · exact ⟨rfl, h.tail⟩
  · exact ⟨rfl, h⟩
theorem must_nat (t : List UInt8) : Natu R S (mustP t) := fun r s h => by
  unfold mustP
  rw [h.sees]
  split
  · exact ⟨rfl, h.tail⟩
  · exact ⟨rfl, by decide, h⟩
theorem next_nat (k : Nat) : Natu R S (nextP k) := fun r s h => by
  unfold nextP
  rw [h.hd.1, h.hd.2]
  split
  · exact ⟨rfl, h.tail⟩
  · exact ⟨rfl, by decide, h⟩
theorem name_nat : Natu R S nameP := next_nat 1
theorem num_nat : Natu R S numP := (next_nat 2).bind fun _ => .ret _
theorem after_nat (t : List UInt8) : Natu R S (afterP t) := (must_nat t).bind fun _ => num_nat
theorem of_nat (l : List (List UInt8)) : Natu R S (ofP l) := fun r s h => by
  unfold ofP
  rw [h.hd.1, h.hd.2]
  split
  · exact ⟨rfl, h.tail⟩
  · exact ⟨rfl, by decide, h⟩
theorem more_nat {α : Type} {x : Ps α} (h : Natu R S x) : ∀ (f : Nat) (acc : List α), Natu R S (moreP x f acc)
  | 0, acc => .ret acc
  | f + 1, acc => (takes_nat _).bind fun b => by
    cases b
    · exact .ret acc
    · exact h.bind fun a => more_nat h f (acc ++ [a])
/-- A parser that looks at how much is left. -/
theorem Natu.dep {α : Type} {m : Nat → Ps α} (h : ∀ n, Natu R S (m n)) : Natu R S (fun r => m (r.length + 1) r) := fun r s hr => by
  show ResLike R S (m (r.length + 1) r) (m (s.length + 1) s)
  rw [hr.len]
  exact h _ _ _ hr
theorem list_nat {α : Type} {x : Ps α} (h : Natu R S x) : Natu R S (listP x) := h.bind fun a => Natu.dep (m := fun n => moreP x n [a]) fun n => more_nat h n [a]
theorem ref_nat : Natu R S refP := name_nat.bind fun _ => (must_nat _).bind fun _ => name_nat.bind fun _ => (must_nat _).bind fun _ => name_nat.bind fun _ => .ret _
theorem net_nat : Natu R S netP := (must_nat _).bind fun _ => (of_nat _).bind fun _ => .ret _
theorem ops_nat : ∀ n, Natu R S (opsP n)
  | 0 => .ret _
  | n + 1 => num_nat.bind fun _ => (ops_nat n).bind fun _ => .ret _
theorem ins_nat : Natu R S insP := (of_nat _).bind fun _ => (ops_nat _).bind fun _ => (must_nat _).bind fun _ => .ret _
theorem code_loop_nat : ∀ (f : Nat) (acc : List InsD), Natu R S (codeLoop f acc)
  | 0, acc => .ret acc
  | f + 1, acc => fun r s h => by
    unfold codeLoop
    rw [h.hd.1]
    split
    · exact (ins_nat.bind fun x => code_loop_nat f (acc ++ [x])) r s h
    · exact ⟨rfl, h⟩
theorem code_nat : Natu R S codeP := Natu.dep (m := fun n => codeLoop n []) fun n => code_loop_nat n []
theorem way_nat : Natu R S wayP := fun r s h => by
  unfold wayP
  simp only [h.sees]
  split
  · exact ⟨rfl, h.tail⟩
  · split
    · exact ⟨rfl, h.tail⟩
    · exact ⟨rfl, by decide, h⟩
theorem port_nat : Natu R S portP := way_nat.bind fun _ => name_nat.bind fun _ => (of_nat _).bind fun kind => (after_nat _).bind fun _ => by
  by_cases hk : kind = 1
  · simp only [hk, if_true]
    exact (after_nat _).bind fun _ => (must_nat _).bind fun _ => .ret _
  · simp only [hk, if_false]
    exact (after_nat _).bind fun _ => (must_nat _).bind fun _ => .ret _
theorem proc_nat : Natu R S procP := name_nat.bind fun _ => (after_nat _).bind fun _ => (after_nat _).bind fun _ => (after_nat _).bind fun _ => (must_nat _).bind fun _ => code_nat.bind fun _ => (must_nat _).bind fun _ => .ret _
theorem skip_nat : Natu R S skipP := fun _ _ h => ⟨rfl, h.tail⟩
theorem once_nat (w : List UInt8) (b : BuildD) {x : Ps PartD} (h : Natu R S x) : Natu R S (onceP w b x) := fun r s hr => by
  unfold onceP
  split
  · exact ⟨rfl, by decide, hr⟩
  · exact (skip_nat.bind fun _ => h.bind fun _ => (must_nat _).bind fun _ => .ret _) r s hr
theorem thing_nat (b : BuildD) : Natu R S (thingP b) := fun r s h => by
  unfold thingP
  simp only [h.sees]
  split
  · exact once_nat _ b ((list_nat num_nat).bind fun _ => .ret _) r s h
  · split
    · exact once_nat _ b ((list_nat num_nat).bind fun _ => .ret _) r s h
    · split
      · exact once_nat _ b (num_nat.bind fun _ => .ret _) r s h
      · split
        · exact once_nat _ b (num_nat.bind fun _ => .ret _) r s h
        · split
          · exact (skip_nat.bind fun _ => proc_nat.bind fun _ => .ret _) r s h
          · exact (port_nat.bind fun _ => .ret _) r s h
theorem things_nat : ∀ (f : Nat) (b : BuildD), Natu R S (thingsLoop f b)
  | 0, b => .ret b
  | f + 1, b => fun r s h => by
    unfold thingsLoop
    simp only [h.sees]
    split
    · exact ⟨rfl, h.tail⟩
    · exact ((thing_nat b).bind fun b' => things_nat f b') r s h
theorem part_nat : Natu R S partP := name_nat.bind fun name => (after_nat _).bind fun period => (after_nat _).bind fun length => (after_nat _).bind fun mem => (must_nat _).bind fun _ =>
  (Natu.dep (m := fun n => thingsLoop n ⟨⟨name, period, length, mem, [], 0, 0, [], [], []⟩, []⟩) fun n => things_nat n _).bind fun _ => .ret _
theorem parts_nat : ∀ (f : Nat) (acc : List PartD), Natu R S (partsLoop f acc)
  | 0, acc => .ret acc
  | f + 1, acc => (takes_nat _).bind fun b => by
    cases b
    · exact .ret acc
    · exact part_nat.bind fun a => parts_nat f (acc ++ [a])
theorem mod_nat : Natu R S modP := name_nat.bind fun _ => (after_nat _).bind fun _ => (after_nat _).bind fun _ => (must_nat _).bind fun _ =>
  (Natu.dep (m := fun n => partsLoop n []) fun n => parts_nat n []).bind fun _ => (must_nat _).bind fun _ => .ret _
theorem chan_nat : Natu R S chanP := ref_nat.bind fun _ => (must_nat _).bind fun _ => (list_nat ref_nat).bind fun _ => (must_nat _).bind fun _ => .ret _
theorem sw_nat : Natu R S swP := name_nat.bind fun _ => net_nat.bind fun _ => (after_nat _).bind fun _ => (after_nat _).bind fun _ => (must_nat _).bind fun _ => .ret _
theorem link_nat : Natu R S linkP := name_nat.bind fun _ => name_nat.bind fun _ => net_nat.bind fun _ => (after_nat _).bind fun _ => (must_nat _).bind fun _ => .ret _
theorem vl_nat : Natu R S vlP := name_nat.bind fun _ => (must_nat _).bind fun _ => ref_nat.bind fun _ => (after_nat _).bind fun _ => (after_nat _).bind fun _ => (must_nat _).bind fun _ => (list_nat ref_nat).bind fun _ => (must_nat _).bind fun _ => .ret _
theorem opt_nat (t : List UInt8) : Natu R S (optP t) := (takes_nat t).bind fun b => by
  cases b
  · exact .ret _
  · exact name_nat
theorem health_nat : Natu R S healthP := (of_nat _).bind fun _ => (opt_nat _).bind fun _ => (opt_nat _).bind fun _ => (must_nat _).bind fun _ => (of_nat _).bind fun _ => (must_nat _).bind fun _ => (of_nat _).bind fun _ => (must_nat _).bind fun _ => .ret _
theorem rep_nat : Natu R S repP := name_nat.bind fun _ => (must_nat _).bind fun _ => num_nat.bind fun _ => .ret _
theorem unless_nat : Natu R S unlessP := (takes_nat _).bind fun b => by
  cases b
  · exact .ret _
  · exact list_nat name_nat
theorem cause_nat : Natu R S causeP := name_nat.bind fun _ => (must_nat _).bind fun _ => (list_nat rep_nat).bind fun _ => unless_nat.bind fun _ => (must_nat _).bind fun _ => .ret _
theorem works_nat : Natu R S worksP := name_nat.bind fun _ => num_nat.bind fun _ => (must_nat _).bind fun _ => name_nat.bind fun _ => num_nat.bind fun _ => (must_nat _).bind fun _ => .ret _
theorem item_nat (c : CfgD) : Natu R S (itemP c) := fun r s h => by
  unfold itemP
  simp only [h.sees]
  split
  · exact (skip_nat.bind fun _ => mod_nat.bind fun _ => .ret _) r s h
  · split
    · exact (skip_nat.bind fun _ => chan_nat.bind fun _ => .ret _) r s h
    · split
      · exact (skip_nat.bind fun _ => sw_nat.bind fun _ => .ret _) r s h
      · split
        · exact (skip_nat.bind fun _ => link_nat.bind fun _ => .ret _) r s h
        · split
          · exact (skip_nat.bind fun _ => vl_nat.bind fun _ => .ret _) r s h
          · split
            · exact (skip_nat.bind fun _ => health_nat.bind fun _ => .ret _) r s h
            · split
              · exact (skip_nat.bind fun _ => cause_nat.bind fun _ => .ret _) r s h
              · split
                · exact (skip_nat.bind fun _ => works_nat.bind fun _ => .ret _) r s h
                · exact ⟨rfl, by decide, h⟩
theorem items_nat : ∀ (f : Nat) (c : CfgD), Natu R S (itemsLoop f c)
  | 0, c => .ret c
  | f + 1, c => fun r s h => by
    have hb := (item_nat c).bind fun c' => items_nat f c'
    cases r with
    | nil => cases s with
      | nil => exact ⟨rfl, h⟩
      | cons u s => have := h.len; simp at this
    | cons t r => cases s with
      | nil => have := h.len; simp at this
      | cons u s => exact hb (t :: r) (u :: s) h
theorem cfg_nat : Natu R S cfgP := Natu.dep (m := fun n => itemsLoop n CfgD.none) fun n => items_nat n _
/-- An error is not 0. -/
theorem Natu.hard {α : Type} {m : Ps α} {r r' : List Tok} {e : Nat} (h : Natu r r m) (hr : m r = .bad e r') : e ≠ 0 := by
  have := h r r ⟨rfl, 0, rfl, rfl⟩
  rw [hr] at this
  exact this.2.1
end Go.Proofs.YtlngbjphagnloaaGreatDoor
