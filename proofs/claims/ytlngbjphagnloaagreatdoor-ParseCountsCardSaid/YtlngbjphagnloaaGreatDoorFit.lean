/-
  parse: a configuration has no longer lists than its source has tokens.
-/
import Derived.Test.YtlngbjphagnloaaGreatDoorPk4
import Derived.Test.YtlngbjphagnloaaGreatDoorPk6
namespace Go.Proofs.YtlngbjphagnloaaGreatDoor
/-- Of at most N tokens m yields what fulfils P, and leaves no more. -/
def Fit {α : Type} (N : Nat) (P : α → Prop) (m : Ps α) : Prop := ∀ r a r', r.length ≤ N → m r = .ok a r' → r'.length ≤ r.length ∧ P a
variable {N : Nat}
theorem Fit.bind {α β : Type} {Q : α → Prop} {P : β → Prop} {m : Ps α} {f : α → Ps β} (h : Fit N Q m) (k : ∀ a, Q a → Fit N P (f a)) : Fit N P (m >>= f) := fun r b r' hr e => by
  obtain ⟨a, r1, h1, h2⟩ := bnd_inv e
  obtain ⟨h3, h4⟩ := h r a r1 hr h1
  obtain ⟨h5, h6⟩ := k a h4 r1 b r' (by omega) h2
  exact ⟨by omega, h6⟩
theorem Fit.any {α β : Type} {P : β → Prop} {m : Ps α} {f : α → Ps β} (h : NI m) (k : ∀ a, Fit N P (f a)) : Fit N P (m >>= f) := Fit.bind (Q := fun _ => True) (fun r a r' _ e => ⟨h r a r' e, trivial⟩) fun a _ => k a
theorem Fit.ret {α : Type} {P : α → Prop} {a : α} (h : P a) : Fit N P (pure a : Ps α) := fun r b r' _ e => by
  have e : (Res.ok a r : Res α) = .ok b r' := e
  injection e with e1 e2
  subst e1 e2
  exact ⟨Nat.le_refl _, h⟩
theorem more_len {α : Type} {x : Ps α} (h : LT x) : ∀ (f : Nat) (acc : List α) (r : List Tok) (a : List α) (r' : List Tok), moreP x f acc r = .ok a r' → a.length + r'.length ≤ acc.length + r.length
  | 0, acc, r, a, r', e => by
    have e : (Res.ok acc r : Res (List α)) = .ok a r' := e
    injection e with e1 e2
    subst e1 e2
    exact Nat.le_refl _
  | f + 1, acc, r, a, r', e => by
    obtain ⟨b, r1, h1, h2⟩ := bnd_inv (show (takesP [44] >>= fun b => if b then (x >>= fun a => moreP x f (acc ++ [a])) else pure acc) r = .ok a r' from e)
    have h3 := takes_ni _ _ _ _ h1
    cases b with
    | true =>
      obtain ⟨y, r2, h4, h5⟩ := bnd_inv (show (x >>= fun a => moreP x f (acc ++ [a])) r1 = .ok a r' from h2)
      have h6 := h _ _ _ h4
      have h7 := more_len h f _ _ _ _ h5
      simp at h7
      omega
    | false =>
      have e : (Res.ok acc r1 : Res (List α)) = .ok a r' := h2
      injection e with e1 e2
      subst e1 e2
      omega
theorem list_fit {α : Type} {x : Ps α} (h : LT x) : Fit N (fun l : List α => l.length ≤ N) (listP x) := fun r a r' hr e => by
  obtain ⟨y, r1, h1, h2⟩ := bnd_inv (show (x >>= fun a r => moreP x (r.length + 1) [a] r) r = .ok a r' from e)
  have h3 := h _ _ _ h1
  have h4 := more_len h _ _ _ _ _ h2
  simp at h4
  exact ⟨by omega, by omega⟩
theorem code_len : ∀ (f : Nat) (acc : List InsD) (r : List Tok) (a : List InsD) (r' : List Tok), codeLoop f acc r = .ok a r' → a.length + r'.length ≤ acc.length + r.length
  | 0, acc, r, a, r', e => by
    have e : (Res.ok acc r : Res (List InsD)) = .ok a r' := e
    injection e with e1 e2
    subst e1 e2
    exact Nat.le_refl _
  | f + 1, acc, r, a, r', e => by
    unfold codeLoop at e
    split at e
    · obtain ⟨y, r1, h1, h2⟩ := bnd_inv e
      have h3 := ins_lt _ _ _ h1
      have h4 := code_len f _ _ _ _ h2
      simp at h4
      omega
    · injection e with e1 e2
      subst e1 e2
      exact Nat.le_refl _
theorem code_fit : Fit N (fun l : List InsD => l.length ≤ N) codeP := fun r a r' hr e => by
  have := code_len _ _ _ _ _ e
  simp at this
  exact ⟨by omega, by omega⟩
theorem proc_fit : Fit N (fun x : ProcD => x.code.length ≤ N) procP := .any name_lt.ni fun _ => .any (after_lt _).ni fun _ => .any (after_lt _).ni fun _ => .any (after_lt _).ni fun _ => .any (must_lt _).ni fun _ => code_fit.bind fun _ h => .any (must_lt _).ni fun _ => .ret h
/-- A partition's lists, but for its things still to come. -/
def PartD.fit (N k : Nat) (p : PartD) : Prop := p.semas.length ≤ N ∧ p.bufs.length ≤ N ∧ p.ports.length + k ≤ N ∧ p.procs.length + k ≤ N ∧ ∀ x ∈ p.procs, x.code.length ≤ N
theorem once_fit {w : List UInt8} {b : BuildD} {x : Ps PartD} {k : Nat} (h : Fit N (PartD.fit N k) x) {r r' : List Tok} {a : BuildD} (hr : r.length ≤ N) (e : onceP w b x r = .ok a r') : a.p.fit N k := by
  unfold onceP at e
  split at e
  · cases e
  · exact (Fit.any (P := fun a : BuildD => a.p.fit N k) skip_ni fun _ => h.bind fun _ hp => .any (must_lt _).ni fun _ => .ret hp) r a r' hr e |>.2
theorem semas_fit {p : PartD} {k : Nat} (h : p.fit N k) : Fit N (PartD.fit N k) (semasP p) := (list_fit num_lt).bind fun _ h' => .ret ⟨h', h.2⟩
theorem bufs_fit {p : PartD} {k : Nat} (h : p.fit N k) : Fit N (PartD.fit N k) (bufsP p) := (list_fit num_lt).bind fun _ h' => .ret ⟨h.1, h', h.2.2⟩
theorem events_fit {p : PartD} {k : Nat} (h : p.fit N k) : Fit N (PartD.fit N k) (eventsP p) := .any num_lt.ni fun _ => .ret h
theorem boards_fit {p : PartD} {k : Nat} (h : p.fit N k) : Fit N (PartD.fit N k) (boardsP p) := .any num_lt.ni fun _ => .ret h
theorem thing_fit {b a : BuildD} {r r' : List Tok} (hr : r.length ≤ N) (hb : b.p.fit N r.length) (e : thingP b r = .ok a r') : a.p.fit N r'.length := by
  have hl := thing_lt b _ _ _ e
  have hw : ∀ p : PartD, p.fit N r.length → p.fit N r'.length := fun p h => ⟨h.1, h.2.1, by have := h.2.2.1; omega, by have := h.2.2.2.1; omega, h.2.2.2.2⟩
  unfold thingP at e
  split at e
  · exact hw _ (once_fit (semas_fit hb) hr e)
  split at e
  · exact hw _ (once_fit (bufs_fit hb) hr e)
  split at e
  · exact hw _ (once_fit (events_fit hb) hr e)
  split at e
  · exact hw _ (once_fit (boards_fit hb) hr e)
  split at e
  · obtain ⟨_, h⟩ := (Fit.any (P := fun a : BuildD => ∃ x : ProcD, x.code.length ≤ N ∧ a = ⟨{ b.p with procs := b.p.procs ++ [x] }, b.what⟩) skip_ni fun _ => proc_fit.bind fun x h => .ret ⟨x, h, rfl⟩) r a r' hr e
    obtain ⟨x, hx, rfl⟩ := h
    refine ⟨hb.1, hb.2.1, by have := hb.2.2.1; show b.p.ports.length + _ ≤ _; omega, by have := hb.2.2.2.1; simp; omega, fun y hy => ?_⟩
    rcases List.mem_append.1 hy with hy | hy
    · exact hb.2.2.2.2 y hy
    · rw [List.mem_singleton.1 hy]; exact hx
  · obtain ⟨x, r1, h1, h2⟩ := bnd_inv e
    have h2 : (Res.ok _ r1 : Res BuildD) = .ok a r' := h2
    injection h2 with h2 _
    subst h2
    exact ⟨hb.1, hb.2.1, by have := hb.2.2.1; simp; omega, by have := hb.2.2.2.1; show b.p.procs.length + _ ≤ _; omega, hb.2.2.2.2⟩
theorem things_fit : ∀ (f : Nat) (b a : BuildD) (r r' : List Tok), r.length ≤ N → b.p.fit N r.length → thingsLoop f b r = .ok a r' → a.p.fit N 0
  | 0, b, a, r, r', hr, hb, e => by
    have e : (Res.ok b r : Res BuildD) = .ok a r' := e
    injection e with e1 e2
    subst e1
    exact ⟨hb.1, hb.2.1, by have := hb.2.2.1; omega, by have := hb.2.2.2.1; omega, hb.2.2.2.2⟩
  | f + 1, b, a, r, r', hr, hb, e => by
    unfold thingsLoop at e
    split at e
    · injection e with e1 e2
      subst e1
      exact ⟨hb.1, hb.2.1, by have := hb.2.2.1; omega, by have := hb.2.2.2.1; omega, hb.2.2.2.2⟩
    · obtain ⟨b1, r1, h1, h2⟩ := bnd_inv e
      have hl := thing_lt b _ _ _ h1
      exact things_fit f b1 a r1 r' (by omega) (thing_fit hr hb h1) h2
theorem part_fit : Fit N (PartD.fit N 0) partP := .any name_lt.ni fun _ => .any (after_lt _).ni fun _ => .any (after_lt _).ni fun _ => .any (after_lt _).ni fun _ => .any (must_lt _).ni fun _ => Fit.bind (Q := fun b : BuildD => b.p.fit N 0) (fun r a r' hr e => ⟨things_ni _ _ r a r' e, things_fit _ _ a r r' hr ⟨Nat.zero_le _, Nat.zero_le _, by simpa using hr, by simpa using hr, fun x hx => by cases hx⟩ e⟩) fun _ h => .ret h
theorem parts_fit : ∀ (f : Nat) (acc a : List PartD) (r r' : List Tok), acc.length + r.length ≤ N → (∀ p ∈ acc, p.fit N 0) → partsLoop f acc r = .ok a r' → a.length ≤ N ∧ ∀ p ∈ a, p.fit N 0
  | 0, acc, a, r, r', hr, hb, e => by
    have e : (Res.ok acc r : Res (List PartD)) = .ok a r' := e
    injection e with e1 e2
    subst e1
    exact ⟨by omega, hb⟩
  | f + 1, acc, a, r, r', hr, hb, e => by
    obtain ⟨b, r1, h1, h2⟩ := bnd_inv (show (takesP [112, 97, 114, 116] >>= fun b => if b then (partP >>= fun a => partsLoop f (acc ++ [a])) else pure acc) r = .ok a r' from e)
    have h3 := takes_ni _ _ _ _ h1
    cases b with
    | true =>
      obtain ⟨y, r2, h4, h5⟩ := bnd_inv (show (partP >>= fun a => partsLoop f (acc ++ [a])) r1 = .ok a r' from h2)
      have h6 := part_lt _ _ _ h4
      have h7 := (part_fit (N := N) _ _ _ (by omega) h4).2
      refine parts_fit f _ a r2 r' (by simp; omega) (fun p hp => ?_) h5
      rcases List.mem_append.1 hp with hp | hp
      · exact hb p hp
      · rw [List.mem_singleton.1 hp]; exact h7
    | false =>
      have e : (Res.ok acc r1 : Res (List PartD)) = .ok a r' := h2
      injection e with e1 e2
      subst e1
      exact ⟨by omega, hb⟩
def ModD.fit (N : Nat) (m : ModD) : Prop := m.parts.length ≤ N ∧ ∀ p ∈ m.parts, p.fit N 0
theorem mod_fit : Fit N (ModD.fit N) modP := .any name_lt.ni fun _ => .any (after_lt _).ni fun _ => .any (after_lt _).ni fun _ => .any (must_lt _).ni fun _ => Fit.bind (Q := fun l : List PartD => l.length ≤ N ∧ ∀ p ∈ l, p.fit N 0) (fun r a r' hr e => ⟨parts_ni _ _ r a r' e, parts_fit _ _ a r r' (by simpa using hr) (fun x hx => by cases hx) e⟩) fun _ h => .any (must_lt _).ni fun _ => .ret h
theorem chan_fit : Fit N (fun x : ChanD => x.to.length ≤ N) chanP := .any ref_lt.ni fun _ => .any (must_lt _).ni fun _ => (list_fit ref_lt).bind fun _ h => .any (must_lt _).ni fun _ => .ret h
theorem vl_fit : Fit N (fun x : VlD => x.to.length ≤ N) vlP := .any name_lt.ni fun _ => .any (must_lt _).ni fun _ => .any ref_lt.ni fun _ => .any (after_lt _).ni fun _ => .any (after_lt _).ni fun _ => .any (must_lt _).ni fun _ => (list_fit ref_lt).bind fun _ h => .any (must_lt _).ni fun _ => .ret h
theorem unless_fit : Fit N (fun l : List (List UInt8) => l.length ≤ N) unlessP := .any (takes_ni _) fun b => by
  cases b with
  | true => exact list_fit name_lt
  | false => exact .ret (Nat.zero_le _)
theorem cause_fit : Fit N (fun x : CauseD => x.needs.length ≤ N ∧ x.but.length ≤ N) causeP := .any name_lt.ni fun _ => .any (must_lt _).ni fun _ => (list_fit rep_lt).bind fun _ h => unless_fit.bind fun _ h2 => .any (must_lt _).ni fun _ => .ret ⟨h, h2⟩
/-- A configuration's lists, but for its items still to come. -/
structure CfgD.fit (N k : Nat) (c : CfgD) : Prop where
  len : c.count + k ≤ N
  modules : ∀ x ∈ c.modules, x.fit N
  channels : ∀ x ∈ c.channels, x.to.length ≤ N
  vls : ∀ x ∈ c.vls, x.to.length ≤ N
  causes : ∀ x ∈ c.causes, x.needs.length ≤ N ∧ x.but.length ≤ N
theorem snocs {α : Type} {P : α → Prop} {l : List α} {x : α} (h : ∀ p ∈ l, P p) (hx : P x) : ∀ p ∈ l ++ [x], P p := fun p hp => by
  rcases List.mem_append.1 hp with hp | hp
  · exact h p hp
  · rw [List.mem_singleton.1 hp]; exact hx
theorem item_one' {α : Type} {P : α → Prop} {m : Ps α} {g : α → CfgD} {r r' : List Tok} {a : CfgD} (h : Fit N P m) (hr : r.length ≤ N) (e : (skipP >>= fun _ => m >>= fun x => pure (g x)) r = .ok a r') : ∃ x, P x ∧ a = g x :=
  ((Fit.any (P := fun a : CfgD => ∃ x, P x ∧ a = g x) skip_ni fun _ => h.bind fun x hx => .ret ⟨x, hx, rfl⟩) r a r' hr e).2
theorem item_fit {c a : CfgD} {r r' : List Tok} (hr : r.length ≤ N) (hb : c.fit N r.length) (e : itemP c r = .ok a r') : a.fit N r'.length := by
  have hl := item_lt c _ _ _ e
  have hc := hb.len
  unfold CfgD.count at hc
  have tr : ∀ {α : Type} {m : Ps α}, NI m → Fit N (fun _ => True) m := fun h r a r' _ e => ⟨h r a r' e, trivial⟩
  unfold itemP at e
  split at e
  · obtain ⟨x, hx, rfl⟩ := item_one' mod_fit hr e
    exact ⟨by simp [CfgD.count]; omega, snocs hb.modules hx, hb.channels, hb.vls, hb.causes⟩
  split at e
  · obtain ⟨x, hx, rfl⟩ := item_one' chan_fit hr e
    exact ⟨by simp [CfgD.count]; omega, hb.modules, snocs hb.channels hx, hb.vls, hb.causes⟩
  split at e
  · obtain ⟨x, hx, rfl⟩ := item_one' (tr sw_lt.ni) hr e
    exact ⟨by simp [CfgD.count]; omega, hb.modules, hb.channels, hb.vls, hb.causes⟩
  split at e
  · obtain ⟨x, hx, rfl⟩ := item_one' (tr link_lt.ni) hr e
    exact ⟨by simp [CfgD.count]; omega, hb.modules, hb.channels, hb.vls, hb.causes⟩
  split at e
  · obtain ⟨x, hx, rfl⟩ := item_one' vl_fit hr e
    exact ⟨by simp [CfgD.count]; omega, hb.modules, hb.channels, snocs hb.vls hx, hb.causes⟩
  split at e
  · obtain ⟨x, hx, rfl⟩ := item_one' (tr health_lt.ni) hr e
    exact ⟨by simp [CfgD.count]; omega, hb.modules, hb.channels, hb.vls, hb.causes⟩
  split at e
  · obtain ⟨x, hx, rfl⟩ := item_one' cause_fit hr e
    exact ⟨by simp [CfgD.count]; omega, hb.modules, hb.channels, hb.vls, snocs hb.causes hx⟩
  split at e
  · obtain ⟨x, hx, rfl⟩ := item_one' (tr works_lt.ni) hr e
    exact ⟨by simp [CfgD.count]; omega, hb.modules, hb.channels, hb.vls, hb.causes⟩
  · cases e
theorem items_fit : ∀ (f : Nat) (c a : CfgD) (r r' : List Tok), r.length ≤ N → c.fit N r.length → itemsLoop f c r = .ok a r' → a.fit N 0
  | 0, c, a, r, r', hr, hb, e => by
    have e : (Res.ok c r : Res CfgD) = .ok a r' := e
    injection e with e1 e2
    subst e1
    exact { hb with len := by have := hb.len; omega }
  | f + 1, c, a, [], r', hr, hb, e => by
    have e : (Res.ok c [] : Res CfgD) = .ok a r' := e
    injection e with e1 e2
    subst e1
    exact hb
  | f + 1, c, a, t :: r, r', hr, hb, e => by
    obtain ⟨c1, r1, h1, h2⟩ := bnd_inv (show (itemP c >>= fun c' => itemsLoop f c') (t :: r) = .ok a r' from e)
    have hl := item_lt c _ _ _ h1
    exact items_fit f c1 a r1 r' (by omega) (item_fit hr hb h1) h2
theorem cfg_fit {c : CfgD} {r r' : List Tok} (hr : r.length ≤ N) (e : cfgP r = .ok c r') : c.fit N 0 :=
  items_fit _ _ c r r' hr ⟨by simpa [CfgD.count, CfgD.none] using hr, (fun _ hx => absurd hx List.not_mem_nil), (fun _ hx => absurd hx List.not_mem_nil), (fun _ hx => absurd hx List.not_mem_nil), (fun _ hx => absurd hx List.not_mem_nil)⟩ e
theorem CfgD.fit.sm {c : CfgD} (h : c.fit N 0) (hN : N ≤ 1099511627776) : c.sm := by
  have hc := h.len
  unfold CfgD.count at hc
  refine ⟨⟨by omega, fun m hm => ?_⟩, ⟨by omega, fun x hx => ?_⟩, by omega, by omega, ⟨by omega, fun x hx => ?_⟩, by omega, ⟨by omega, fun x hx => ?_⟩, by omega⟩
  · obtain ⟨h1, h2⟩ := h.modules m hm
    refine ⟨by omega, fun p hp => ?_⟩
    obtain ⟨g1, g2, g3, g4, g5⟩ := h2 p hp
    exact ⟨by omega, by omega, by omega, by omega, fun x hx => by have := g5 x hx; show _ ≤ _; omega⟩
  · have := h.channels x hx
    show _ ≤ _; omega
  · have := h.vls x hx
    show _ ≤ _; omega
  · have := h.causes x hx
    exact ⟨by omega, by omega⟩
theorem CfgD.none_fit : CfgD.none.fit N 0 := ⟨Nat.zero_le _, (fun _ hx => absurd hx List.not_mem_nil), (fun _ hx => absurd hx List.not_mem_nil), (fun _ hx => absurd hx List.not_mem_nil), (fun _ hx => absurd hx List.not_mem_nil)⟩

end Go.Proofs.YtlngbjphagnloaaGreatDoor
