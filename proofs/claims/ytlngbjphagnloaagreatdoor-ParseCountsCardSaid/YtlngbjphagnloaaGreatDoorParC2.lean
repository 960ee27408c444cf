/-
  parse: how many items a source has (the second half).
-/
import Derived.Test.YtlngbjphagnloaaGreatDoorParC
import Derived.Test.YtlngbjphagnloaaGreatDoorPk4
namespace Go.Proofs.YtlngbjphagnloaaGreatDoor
theorem ops_eff : ∀ n, Eff Tr 0 0 (opsP n)
  | 0 => .ret _
  | n + 1 => num_eff.seq fun _ => (ops_eff n).seq fun _ => .ret _
theorem ins_eff : Eff (fun d => 1 ≤ d) 0 0 insP := (of_eff _).pre fun _ => (ops_eff _).pre fun _ => semi_in.fin fun _ => .ret _
theorem code_loop_eff : ∀ (f : Nat) (acc : List InsD), Eff (fun d => 1 ≤ d) 0 0 (codeLoop f acc)
  | 0, acc => .ret _
  | f + 1, acc => fun r a r' hg e => by
    unfold codeLoop at e
    split at e
    · exact (ins_eff.seq fun x => code_loop_eff f _) r a r' hg e
    · injection e with _ e
      exact ⟨[], by simp [e], fun d n _ => by simp⟩
theorem code_eff : Eff (fun d => 1 ≤ d) 0 0 codeP := .at (x := fun r => codeLoop (r.length + 1) []) fun _r => code_loop_eff _ _
theorem way_eff : Eff Tr 0 0 wayP := fun r a r' _ h => by
  unfold wayP at h
  split at h
  · rename_i hc
    injection h with _ h
    obtain ⟨t, l, rfl, ht⟩ := sees_cons hc
    subst h
    exact ⟨[t], rfl, fun d n _ => by simp [cstep_other (t := t) (by rw [ht]; decide) (by rw [ht]; decide) (by rw [ht]; decide)]⟩
  · split at h
    · rename_i hc
      injection h with _ h
      obtain ⟨t, l, rfl, ht⟩ := sees_cons hc
      subst h
      exact ⟨[t], rfl, fun d n _ => by simp [cstep_other (t := t) (by rw [ht]; decide) (by rw [ht]; decide) (by rw [ht]; decide)]⟩
    · cases h
theorem port_eff : Eff (fun d => 1 ≤ d) 0 0 portP := way_eff.pre fun _ => name_eff.pre fun _ => (of_eff _).pre fun k => (after_eff _ (by decide) (by decide) (by decide)).pre fun _ => by
  split
  · exact (after_eff _ (by decide) (by decide) (by decide)).pre fun _ => semi_in.fin fun _ => .ret _
  · exact (after_eff _ (by decide) (by decide) (by decide)).pre fun _ => semi_in.fin fun _ => .ret _
theorem proc_eff : Eff (fun d => 1 ≤ d) 0 0 procP := name_eff.pre fun _ => (after_eff _ (by decide) (by decide) (by decide)).pre fun _ => (after_eff _ (by decide) (by decide) (by decide)).pre fun _ => (after_eff _ (by decide) (by decide) (by decide)).pre fun _ =>
  (open_eff.mono fun d (h : 1 ≤ d) => by omega).bind (E := fun d => 2 ≤ d) (j := -1) (e := 0) (fun _ => (code_eff.mono fun d (h : 2 ≤ d) => by omega).bind (E := fun d => 2 ≤ d) (j := -1) (e := 0) (fun _ => close_in.fin fun _ => .ret _) (fun d h => by omega) (by omega) rfl) (fun d h => by omega) (by omega) rfl
theorem skip_eff {α : Type} {D : Int → Prop} {i : Int} {c : Nat} {m : Ps α} (h : Eff D i c m) {s : List UInt8} (h1 : s ≠ [123]) (h2 : s ≠ [125]) (h3 : s ≠ [59]) {r r' : List Tok} {a : α} (hg : GoodT r) (hs : seesB s r = true) (e : (skipP >>= fun _ => m) r = .ok a r') :
    ∃ s, r = s ++ r' ∧ ∀ d n, D d → s.foldl cstep (d, n) = (d + i, n + c) := by
  obtain ⟨t, l, rfl, rfl⟩ := sees_cons hs
  have e : m l = .ok a r' := e
  obtain ⟨s, h4, h5⟩ := h l a r' (fun t ht => hg t (by simp [ht])) e
  refine ⟨t :: s, by rw [h4]; rfl, fun d n hd => ?_⟩
  rw [List.foldl_cons, cstep_other h1 h2 h3]
  exact h5 d n hd
theorem once_eff {w : List UInt8} {b : BuildD} {x : Ps PartD} (h : Eff Tr 0 0 x) (h1 : w ≠ [123]) (h2 : w ≠ [125]) (h3 : w ≠ [59]) {r r' : List Tok} {a : BuildD} (hg : GoodT r) (hs : seesB w r = true) (e : onceP w b x r = .ok a r') :
    ∃ s, r = s ++ r' ∧ ∀ d n, 1 ≤ d → s.foldl cstep (d, n) = (d + 0, n + 0) := by
  unfold onceP at e
  split at e
  · cases e
  · exact skip_eff (D := fun d => 1 ≤ d) (h.pre fun _ => semi_in.fin fun _ => .ret _) h1 h2 h3 hg hs e
theorem thing_eff (b : BuildD) : Eff (fun d => 1 ≤ d) 0 0 (thingP b) := fun r a r' hg e => by
  unfold thingP at e
  split at e
  · rename_i hs
    exact once_eff ((list_eff num_eff).seq fun _ => .ret _) (by decide) (by decide) (by decide) hg hs e
  split at e
  · rename_i hs
    exact once_eff ((list_eff num_eff).seq fun _ => .ret _) (by decide) (by decide) (by decide) hg hs e
  split at e
  · rename_i hs
    exact once_eff (num_eff.seq fun _ => .ret _) (by decide) (by decide) (by decide) hg hs e
  split at e
  · rename_i hs
    exact once_eff (num_eff.seq fun _ => .ret _) (by decide) (by decide) (by decide) hg hs e
  split at e
  · rename_i hs
    exact skip_eff (D := fun d => 1 ≤ d) (proc_eff.seq fun _ => .ret _) (by decide) (by decide) (by decide) hg hs e
  · exact (port_eff.seq fun _ => .ret _) r a r' hg e
theorem things_eff : ∀ (f : Nat) (b a : BuildD) (r r' : List Tok), r.length < f → GoodT r → thingsLoop f b r = .ok a r' → ∃ s, r = s ++ r' ∧ ∀ d n, 2 ≤ d → s.foldl cstep (d, n) = (d + -1, n + 0)
  | 0, b, a, r, r', hf, _, _ => by omega
  | f + 1, b, a, r, r', hf, hg, e => by
    unfold thingsLoop at e
    split at e
    · rename_i hs
      refine close_in r () r' hg ?_
      unfold mustP
      rw [if_pos hs]
      injection e with _ e
      rw [e]
    · cases hm : thingP b r with
      | bad n r1 => rw [bnd_bad hm] at e; cases e
      | ok b1 r1 =>
        rw [bnd_ok hm] at e
        have hl := thing_lt b r b1 r1 hm
        obtain ⟨s, h1, h2⟩ := thing_eff b r b1 r1 hg hm
        subst h1
        obtain ⟨s', h3, h4⟩ := things_eff f b1 a r1 r' (by omega) hg.suf e
        refine ⟨s ++ s', by rw [h3, List.append_assoc], fun d n hd => ?_⟩
        rw [List.foldl_append, h2 d n (by omega), Int.add_zero, Nat.add_zero]
        exact h4 d n hd
theorem part_eff : Eff (fun d => 1 ≤ d) 0 0 partP := name_eff.pre fun _ => (after_eff _ (by decide) (by decide) (by decide)).pre fun _ => (after_eff _ (by decide) (by decide) (by decide)).pre fun _ => (after_eff _ (by decide) (by decide) (by decide)).pre fun _ =>
  (open_eff.mono fun d (h : 1 ≤ d) => by omega).bind (E := fun d => 2 ≤ d) (j := -1) (e := 0) (fun _ => Eff.fin (D := fun d => 2 ≤ d) (fun r a r' hg e => things_eff _ _ a r r' (Nat.lt_succ_self _) hg e) fun _ => .ret _) (fun d h => by omega) (by omega) rfl
theorem parts_eff : ∀ (f : Nat) (acc : List PartD), Eff (fun d => 1 ≤ d) 0 0 (partsLoop f acc)
  | 0, acc => .ret _
  | f + 1, acc => (takes_eff [112, 97, 114, 116] (by decide) (by decide) (by decide)).pre fun b => by
    cases b with
    | true => exact part_eff.seq fun a => parts_eff f _
    | false => exact .ret _
theorem mod_eff : Eff (fun d => d = 0) 0 1 modP := name_eff.pre fun _ => (after_eff _ (by decide) (by decide) (by decide)).pre fun _ => (after_eff _ (by decide) (by decide) (by decide)).pre fun _ =>
  (open_eff.mono fun d (h : d = 0) => by omega).bind (E := fun d => d = 1) (j := -1) (e := 1) (fun _ => Eff.bind (D := fun d => d = 1) (i := 0) (c := 0) (E := fun d => d = 1) (j := -1) (e := 1) (.at (x := fun r => partsLoop (r.length + 1) []) fun r => (parts_eff _ _).mono fun d (h : d = 1) => by omega) (fun _ => close_out.fin fun _ => .ret _) (fun d h => by omega) (by omega) rfl) (fun d h => by omega) (by omega) rfl
/-- How many items. -/
theorem item_one {α : Type} {m : Ps α} {g : α → CfgD} {s : List UInt8} (h : Eff (fun d => d = 0) 0 1 m) (h1 : s ≠ [123]) (h2 : s ≠ [125]) (h3 : s ≠ [59]) {c c' : CfgD} (hc : ∀ a, (g a).count = c.count + 1) {r r' : List Tok} (hg : GoodT r) (hs : seesB s r = true) (e : (skipP >>= fun _ => m >>= fun a => pure (g a)) r = .ok c' r') :
    c'.count = c.count + 1 ∧ ∃ s, r = s ++ r' ∧ ∀ n, s.foldl cstep (0, n) = (0, n + 1) := by
  refine ⟨?_, ?_⟩
  · have e : (m >>= fun a => pure (g a)) r.tail = .ok c' r' := e
    cases hm : m r.tail with
    | bad n r1 => rw [bnd_bad hm] at e; cases e
    | ok a r1 =>
      rw [bnd_ok hm] at e
      injection e with e _
      rw [← e, hc]
  · obtain ⟨s', h4, h5⟩ := skip_eff (D := fun d => d = 0) (h.fin fun a => .ret (g a)) h1 h2 h3 hg hs e
    exact ⟨s', h4, fun n => h5 0 n rfl⟩
theorem item_eff (c c' : CfgD) (r r' : List Tok) (hg : GoodT r) (e : itemP c r = .ok c' r') : c'.count = c.count + 1 ∧ ∃ s, r = s ++ r' ∧ ∀ n, s.foldl cstep (0, n) = (0, n + 1) := by
  unfold itemP at e
  split at e
  · rename_i hs
    exact item_one mod_eff (by decide) (by decide) (by decide) (fun a => by simp [CfgD.count]; omega) hg hs e
  split at e
  · rename_i hs
    exact item_one chan_eff (by decide) (by decide) (by decide) (fun a => by simp [CfgD.count]; omega) hg hs e
  split at e
  · rename_i hs
    exact item_one sw_eff (by decide) (by decide) (by decide) (fun a => by simp [CfgD.count]; omega) hg hs e
  split at e
  · rename_i hs
    exact item_one link_eff (by decide) (by decide) (by decide) (fun a => by simp [CfgD.count]; omega) hg hs e
  split at e
  · rename_i hs
    exact item_one vl_eff (by decide) (by decide) (by decide) (fun a => by simp [CfgD.count]; omega) hg hs e
  split at e
  · rename_i hs
    exact item_one health_eff (by decide) (by decide) (by decide) (fun a => by simp [CfgD.count]; omega) hg hs e
  split at e
  · rename_i hs
    exact item_one cause_eff (by decide) (by decide) (by decide) (fun a => by simp [CfgD.count]; omega) hg hs e
  split at e
  · rename_i hs
    exact item_one works_eff (by decide) (by decide) (by decide) (fun a => by simp [CfgD.count]; omega) hg hs e
  · cases e
theorem items_eff : ∀ (f : Nat) (c c' : CfgD) (r r' : List Tok), GoodT r → itemsLoop f c r = .ok c' r' → c.count ≤ c'.count ∧ ∃ s, r = s ++ r' ∧ ∀ n, s.foldl cstep (0, n) = (0, n + (c'.count - c.count))
  | 0, c, c', r, r', _, e => by
    have e : (Res.ok c r : Res CfgD) = .ok c' r' := e
    injection e with e1 e2
    subst e1 e2
    exact ⟨Nat.le_refl _, [], rfl, fun n => by simp⟩
  | f + 1, c, c', [], r', _, e => by
    have e : (Res.ok c [] : Res CfgD) = .ok c' r' := e
    injection e with e1 e2
    subst e1 e2
    exact ⟨Nat.le_refl _, [], rfl, fun n => by simp⟩
  | f + 1, c, c', t :: l, r', hg, e => by
    have e : (itemP c >>= fun c1 => itemsLoop f c1) (t :: l) = .ok c' r' := e
    cases hm : itemP c (t :: l) with
    | bad n r1 => rw [bnd_bad hm] at e; cases e
    | ok c1 r1 =>
      rw [bnd_ok hm] at e
      obtain ⟨h0, s, h1, h2⟩ := item_eff c c1 _ r1 hg hm
      rw [h1] at hg ⊢
      obtain ⟨h3, s', h4, h5⟩ := items_eff f c1 c' r1 r' hg.suf e
      refine ⟨by omega, s ++ s', by rw [h4, List.append_assoc], fun n => ?_⟩
      rw [List.foldl_append, h2, h5]
      congr 1
      omega
/-- The count of a source that is parsed whole. -/
theorem cfg_counts (c : CfgD) (r : List Tok) (hg : GoodT r) (e : cfgP r = .ok c []) : r.foldl cstep (0, 0) = (0, c.count) := by
  obtain ⟨_, s, h1, h2⟩ := items_eff _ _ c r [] hg e
  rw [h1, List.append_nil, h2, Nat.zero_add]
  rfl
end Go.Proofs.YtlngbjphagnloaaGreatDoor
