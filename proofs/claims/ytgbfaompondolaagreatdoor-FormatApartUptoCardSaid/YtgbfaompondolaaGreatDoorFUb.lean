/-
  format: a printable configuration's source tells the configuration (printed by tools/mkuq.py).
-/
import Derived.Test.YtgbfaompondolaaGreatDoorFUa
namespace Go.Proofs.YtgbfaompondolaaGreatDoor
theorem rep0 : Lib.repeatL [9] 0 = [] := rfl
theorem rep1 : Lib.repeatL [9] 1 = [9] := rfl
theorem rep2 : Lib.repeatL [9] 2 = [9, 9] := rfl
theorem rep3 : Lib.repeatL [9] 3 = [9, 9, 9] := rfl
theorem wd_uq {l : List (List UInt8)} (hnd : l.Nodup) (hin : (l.all fun s => s.all innerB) = true) {a b : Nat} {c d : UInt8} {r s : List UInt8} (ha : (wordN l a != []) = true) (hb : (wordN l b != []) = true) (h : wordN l a ++ c :: r = wordN l b ++ d :: s) (hc : innerB c = false) (hd : innerB d = false) : a = b ∧ c :: r = d :: s := by
  have hw : ∀ n, (wordN l n).all innerB = true := by
    intro n
    unfold wordN
    split
    · rfl
    · rw [List.getD_eq_getElem?_getD]
      cases e : l[n - 1]? with
      | none => rfl
      | some s => exact List.all_eq_true.1 hin s (List.mem_of_getElem? e)
  obtain ⟨e, e'⟩ := span_uq (hw a) (hw b) (by rintro _ _ h; injection h with h _; rw [← h]; exact hc) (by rintro _ _ h; injection h with h _; rw [← h]; exact hd) h
  exact ⟨wordN_uq hnd ha hb e, e'⟩
/-- The text begins with one of the keys. -/
def Hds (K : List (List UInt8)) (r : List UInt8) : Prop := ∃ k ∈ K, ∃ t, r = k ++ t
theorem Hds.no {K : List (List UInt8)} {r k : List UInt8} (h : Hds K r) (hK : ∀ k' ∈ K, ∀ t t' : List UInt8, k' ++ t' ≠ k ++ t) (t : List UInt8) : r ≠ k ++ t := by
  rintro rfl
  obtain ⟨k', hk, t', e⟩ := h
  exact hK k' hk t t' e.symm
theorem Hds.more {K : List (List UInt8)} {r : List UInt8} (h : Hds K r) (k : List UInt8) : Hds (k :: K) r := by
  obtain ⟨k', hk, t', e⟩ := h
  exact ⟨k', List.mem_cons_of_mem _ hk, t', e⟩
theorem Hds.opt {K : List (List UInt8)} {r k x : List UInt8} (h : Hds K r) (hx : x = [] ∨ ∃ t, x = k ++ t) : Hds (k :: K) (x ++ r) := by
  rcases hx with rfl | ⟨t, rfl⟩
  · exact h.more k
  · exact ⟨k, List.mem_cons_self, t ++ r, by rw [List.append_assoc]⟩
theorem Hds.cat {α : Type} {F : α → Bool} {f : α → List UInt8} {K : List (List UInt8)} {r : List UInt8} (h : Hds K r) {l : List α} (hl : l.all F = true) {k : List UInt8} (hf : ∀ x, F x = true → ∃ t, f x = k ++ t) : Hds (k :: K) (catT f l ++ r) := by
  cases l with
  | nil => exact h.more k
  | cons x l =>
    rw [List.all_cons, Bool.and_eq_true] at hl
    obtain ⟨t, e⟩ := hf x hl.1
    exact ⟨k, List.mem_cons_self, t ++ (catT f l ++ r), by simp [catT, e]⟩
theorem chan_uq (x y : ChanD) (r s : List UInt8) (hx : chanF x = true) (hy : chanF y = true) (h : chanT x ++ r = chanT y ++ s) : x = y ∧ r = s := by
  obtain ⟨fr, tl⟩ := x
  obtain ⟨fr', tl'⟩ := y
  simp only [chanF, Bool.and_eq_true, decide_eq_true_eq, endsF] at hx hy
  obtain ⟨h_fr, h_to⟩ := hx
  obtain ⟨h_fr', h_to'⟩ := hy
  simp only [chanT, lnT, sayT, Arg.txt, rep0, List.map_cons, List.map_nil, List.flatten_cons, List.flatten_nil, List.append_assoc, List.cons_append, List.nil_append, List.append_nil, List.cons.injEq, true_and, refsT] at h
  replace h := uq_ref _ _ _ _ _ _ h_fr h_fr' (by decide) (by decide) h
  obtain ⟨rfl, h⟩ := h
  simp only [List.cons.injEq, true_and] at h
  replace h := join_uq uq_ref (by decide) h_to.1 h_to'.1 h_to.2 h_to'.2 (by decide) (by decide) (by decide) (by decide) h
  obtain ⟨rfl, h⟩ := h
  simp only [List.cons.injEq, true_and] at h
  exact ⟨rfl, h⟩
theorem sw_uq (x y : SwD) (r s : List UInt8) (hx : swF x = true) (hy : swF y = true) (h : swT x ++ r = swT y ++ s) : x = y ∧ r = s := by
  obtain ⟨nm, net, de, st⟩ := x
  obtain ⟨nm', net', de', st'⟩ := y
  simp only [swF, List.all_cons, List.all_nil, Bool.and_true, Bool.and_eq_true] at hx hy
  obtain ⟨h_nm, h_net, h_de, h_st⟩ := hx
  obtain ⟨h_nm', h_net', h_de', h_st'⟩ := hy
  simp only [swT, lnT, sayT, Arg.txt, rep0, List.map_cons, List.map_nil, List.flatten_cons, List.flatten_nil, List.append_assoc, List.cons_append, List.nil_append, List.append_nil, List.cons.injEq, true_and] at h
  replace h := name_uq h_nm h_nm' h (by decide) (by decide)
  obtain ⟨rfl, h⟩ := h
  simp only [List.cons.injEq, true_and] at h
  replace h := net_uq h_net h_net' h
  obtain ⟨rfl, h⟩ := h
  simp only [List.cons.injEq, true_and] at h
  replace h := num_uq h_de h_de' h (by decide) (by decide)
  obtain ⟨rfl, h⟩ := h
  simp only [List.cons.injEq, true_and] at h
  replace h := num_uq h_st h_st' h (by decide) (by decide)
  obtain ⟨rfl, h⟩ := h
  simp only [List.cons.injEq, true_and] at h
  exact ⟨rfl, h⟩
theorem link_uq (x y : LinkD) (r s : List UInt8) (hx : linkF x = true) (hy : linkF y = true) (h : linkT x ++ r = linkT y ++ s) : x = y ∧ r = s := by
  obtain ⟨a, b, net, sl⟩ := x
  obtain ⟨a', b', net', sl'⟩ := y
  simp only [linkF, List.all_cons, List.all_nil, Bool.and_true, Bool.and_eq_true] at hx hy
  obtain ⟨⟨h_a, h_b⟩, h_net, h_sl⟩ := hx
  obtain ⟨⟨h_a', h_b'⟩, h_net', h_sl'⟩ := hy
  simp only [linkT, lnT, sayT, Arg.txt, rep0, List.map_cons, List.map_nil, List.flatten_cons, List.flatten_nil, List.append_assoc, List.cons_append, List.nil_append, List.append_nil, List.cons.injEq, true_and] at h
  replace h := name_uq h_a h_a' h (by decide) (by decide)
  obtain ⟨rfl, h⟩ := h
  simp only [List.cons.injEq, true_and] at h
  replace h := name_uq h_b h_b' h (by decide) (by decide)
  obtain ⟨rfl, h⟩ := h
  simp only [List.cons.injEq, true_and] at h
  replace h := net_uq h_net h_net' h
  obtain ⟨rfl, h⟩ := h
  simp only [List.cons.injEq, true_and] at h
  replace h := num_uq h_sl h_sl' h (by decide) (by decide)
  obtain ⟨rfl, h⟩ := h
  simp only [List.cons.injEq, true_and] at h
  exact ⟨rfl, h⟩
theorem vl_uq (x y : VlD) (r s : List UInt8) (hx : vlF x = true) (hy : vlF y = true) (h : vlT x ++ r = vlT y ++ s) : x = y ∧ r = s := by
  obtain ⟨nm, fr, bag, mx, tl⟩ := x
  obtain ⟨nm', fr', bag', mx', tl'⟩ := y
  simp only [vlF, List.all_cons, List.all_nil, Bool.and_true, Bool.and_eq_true, decide_eq_true_eq, endsF] at hx hy
  obtain ⟨h_nm, ⟨h_fr, h_to⟩, h_bag, h_mx⟩ := hx
  obtain ⟨h_nm', ⟨h_fr', h_to'⟩, h_bag', h_mx'⟩ := hy
  simp only [vlT, lnT, sayT, Arg.txt, rep0, List.map_cons, List.map_nil, List.flatten_cons, List.flatten_nil, List.append_assoc, List.cons_append, List.nil_append, List.append_nil, List.cons.injEq, true_and, refsT] at h
  replace h := name_uq h_nm h_nm' h (by decide) (by decide)
  obtain ⟨rfl, h⟩ := h
  simp only [List.cons.injEq, true_and] at h
  replace h := uq_ref _ _ _ _ _ _ h_fr h_fr' (by decide) (by decide) h
  obtain ⟨rfl, h⟩ := h
  simp only [List.cons.injEq, true_and] at h
  replace h := num_uq h_bag h_bag' h (by decide) (by decide)
  obtain ⟨rfl, h⟩ := h
  simp only [List.cons.injEq, true_and] at h
  replace h := num_uq h_mx h_mx' h (by decide) (by decide)
  obtain ⟨rfl, h⟩ := h
  simp only [List.cons.injEq, true_and] at h
  replace h := join_uq uq_ref (by decide) h_to.1 h_to'.1 h_to.2 h_to'.2 (by decide) (by decide) (by decide) (by decide) h
  obtain ⟨rfl, h⟩ := h
  simp only [List.cons.injEq, true_and] at h
  exact ⟨rfl, h⟩
theorem ver_uq (x y : VerD) (r s : List UInt8) (hx : verF x = true) (hy : verF y = true) (h : verT x ++ r = verT y ++ s) : x = y ∧ r = s := by
  obtain ⟨a, va, b, vb⟩ := x
  obtain ⟨a', va', b', vb'⟩ := y
  simp only [verF, List.all_cons, List.all_nil, Bool.and_true, Bool.and_eq_true] at hx hy
  obtain ⟨⟨h_a, h_b⟩, h_va, h_vb⟩ := hx
  obtain ⟨⟨h_a', h_b'⟩, h_va', h_vb'⟩ := hy
  simp only [verT, lnT, sayT, Arg.txt, rep0, List.map_cons, List.map_nil, List.flatten_cons, List.flatten_nil, List.append_assoc, List.cons_append, List.nil_append, List.append_nil, List.cons.injEq, true_and] at h
  replace h := name_uq h_a h_a' h (by decide) (by decide)
  obtain ⟨rfl, h⟩ := h
  simp only [List.cons.injEq, true_and] at h
  replace h := num_uq h_va h_va' h (by decide) (by decide)
  obtain ⟨rfl, h⟩ := h
  simp only [List.cons.injEq, true_and] at h
  replace h := name_uq h_b h_b' h (by decide) (by decide)
  obtain ⟨rfl, h⟩ := h
  simp only [List.cons.injEq, true_and] at h
  replace h := num_uq h_vb h_vb' h (by decide) (by decide)
  obtain ⟨rfl, h⟩ := h
  simp only [List.cons.injEq, true_and] at h
  exact ⟨rfl, h⟩
theorem emp {l : List UInt8} (h : emptyF l = true) : l = [] ∨ (l ≠ [] ∧ wordF l = true) := by
  cases l with
  | nil => exact .inl rfl
  | cons b l => exact .inr ⟨by simp, by simpa [emptyF] using h⟩
theorem health_uq (x y : HealthD) (r s : List UInt8) (hx : healthF x = true) (hy : healthF y = true) (h : healthT x ++ r = healthT y ++ s) : x = y ∧ r = s := by
  obtain ⟨m, p, f, l, d⟩ := x
  obtain ⟨m', p', f', l', d'⟩ := y
  simp only [healthF, Bool.and_eq_true] at hx hy
  obtain ⟨hm, hp, hf, hl, hd⟩ := hx
  obtain ⟨hm', hp', hf', hl', hd'⟩ := hy
  simp only [healthT, healthA] at h
  rcases emp hm with rfl | ⟨m0, wm⟩ <;> rcases emp hp with rfl | ⟨p0, wp⟩ <;> rcases emp hm' with rfl | ⟨m0', wm'⟩ <;> rcases emp hp' with rfl | ⟨p0', wp'⟩
  · simp only [if_true, lnT, sayT, Arg.txt, rep0, List.map_cons, List.map_nil, List.flatten_cons, List.flatten_nil, List.append_assoc, List.cons_append, List.nil_append, List.append_nil, List.cons.injEq, true_and] at h
    replace h := wd_uq (by decide) (by decide) hf hf' h (by decide) (by decide)
    obtain ⟨rfl, h⟩ := h
    simp only [List.cons.injEq, true_and] at h
    replace h := wd_uq (by decide) (by decide) hl hl' h (by decide) (by decide)
    obtain ⟨rfl, h⟩ := h
    simp only [List.cons.injEq, true_and] at h
    replace h := wd_uq (by decide) (by decide) hd hd' h (by decide) (by decide)
    obtain ⟨rfl, h⟩ := h
    simp only [List.cons.injEq, true_and] at h
    exact ⟨rfl, h⟩
  · simp only [if_true, if_neg p0', lnT, sayT, Arg.txt, rep0, List.map_cons, List.map_nil, List.flatten_cons, List.flatten_nil, List.append_assoc, List.cons_append, List.nil_append, List.append_nil, List.cons.injEq, true_and] at h
    replace h := wd_uq (by decide) (by decide) hf hf' h (by decide) (by decide)
    obtain ⟨rfl, h⟩ := h
    simp only [List.cons.injEq, true_and] at h
    simp at h
  · simp only [if_true, if_neg m0', lnT, sayT, Arg.txt, rep0, List.map_cons, List.map_nil, List.flatten_cons, List.flatten_nil, List.append_assoc, List.cons_append, List.nil_append, List.append_nil, List.cons.injEq, true_and] at h
    replace h := wd_uq (by decide) (by decide) hf hf' h (by decide) (by decide)
    obtain ⟨rfl, h⟩ := h
    simp at h
  · simp only [if_true, if_neg m0', if_neg p0', lnT, sayT, Arg.txt, rep0, List.map_cons, List.map_nil, List.flatten_cons, List.flatten_nil, List.append_assoc, List.cons_append, List.nil_append, List.append_nil, List.cons.injEq, true_and] at h
    replace h := wd_uq (by decide) (by decide) hf hf' h (by decide) (by decide)
    obtain ⟨rfl, h⟩ := h
    simp at h
  · simp only [if_true, if_neg p0, lnT, sayT, Arg.txt, rep0, List.map_cons, List.map_nil, List.flatten_cons, List.flatten_nil, List.append_assoc, List.cons_append, List.nil_append, List.append_nil, List.cons.injEq, true_and] at h
    replace h := wd_uq (by decide) (by decide) hf hf' h (by decide) (by decide)
    obtain ⟨rfl, h⟩ := h
    simp only [List.cons.injEq, true_and] at h
    simp at h
  · simp only [if_true, if_neg p0, if_neg p0', lnT, sayT, Arg.txt, rep0, List.map_cons, List.map_nil, List.flatten_cons, List.flatten_nil, List.append_assoc, List.cons_append, List.nil_append, List.append_nil, List.cons.injEq, true_and] at h
    replace h := wd_uq (by decide) (by decide) hf hf' h (by decide) (by decide)
    obtain ⟨rfl, h⟩ := h
    simp only [List.cons.injEq, true_and] at h
    replace h := name_uq wp wp' h (by decide) (by decide)
    obtain ⟨rfl, h⟩ := h
    simp only [List.cons.injEq, true_and] at h
    replace h := wd_uq (by decide) (by decide) hl hl' h (by decide) (by decide)
    obtain ⟨rfl, h⟩ := h
    simp only [List.cons.injEq, true_and] at h
    replace h := wd_uq (by decide) (by decide) hd hd' h (by decide) (by decide)
    obtain ⟨rfl, h⟩ := h
    simp only [List.cons.injEq, true_and] at h
    exact ⟨rfl, h⟩
  · simp only [if_true, if_neg p0, if_neg m0', lnT, sayT, Arg.txt, rep0, List.map_cons, List.map_nil, List.flatten_cons, List.flatten_nil, List.append_assoc, List.cons_append, List.nil_append, List.append_nil, List.cons.injEq, true_and] at h
    replace h := wd_uq (by decide) (by decide) hf hf' h (by decide) (by decide)
    obtain ⟨rfl, h⟩ := h
    simp at h
  · simp only [if_true, if_neg p0, if_neg m0', if_neg p0', lnT, sayT, Arg.txt, rep0, List.map_cons, List.map_nil, List.flatten_cons, List.flatten_nil, List.append_assoc, List.cons_append, List.nil_append, List.append_nil, List.cons.injEq, true_and] at h
    replace h := wd_uq (by decide) (by decide) hf hf' h (by decide) (by decide)
    obtain ⟨rfl, h⟩ := h
    simp at h
  · simp only [if_true, if_neg m0, lnT, sayT, Arg.txt, rep0, List.map_cons, List.map_nil, List.flatten_cons, List.flatten_nil, List.append_assoc, List.cons_append, List.nil_append, List.append_nil, List.cons.injEq, true_and] at h
    replace h := wd_uq (by decide) (by decide) hf hf' h (by decide) (by decide)
    obtain ⟨rfl, h⟩ := h
    simp at h
  · simp only [if_true, if_neg m0, if_neg p0', lnT, sayT, Arg.txt, rep0, List.map_cons, List.map_nil, List.flatten_cons, List.flatten_nil, List.append_assoc, List.cons_append, List.nil_append, List.append_nil, List.cons.injEq, true_and] at h
    replace h := wd_uq (by decide) (by decide) hf hf' h (by decide) (by decide)
    obtain ⟨rfl, h⟩ := h
    simp at h
  · simp only [if_true, if_neg m0, if_neg m0', lnT, sayT, Arg.txt, rep0, List.map_cons, List.map_nil, List.flatten_cons, List.flatten_nil, List.append_assoc, List.cons_append, List.nil_append, List.append_nil, List.cons.injEq, true_and] at h
    replace h := wd_uq (by decide) (by decide) hf hf' h (by decide) (by decide)
    obtain ⟨rfl, h⟩ := h
    simp only [List.cons.injEq, true_and] at h
    replace h := name_uq wm wm' h (by decide) (by decide)
    obtain ⟨rfl, h⟩ := h
    simp only [List.cons.injEq, true_and] at h
    replace h := wd_uq (by decide) (by decide) hl hl' h (by decide) (by decide)
    obtain ⟨rfl, h⟩ := h
    simp only [List.cons.injEq, true_and] at h
    replace h := wd_uq (by decide) (by decide) hd hd' h (by decide) (by decide)
    obtain ⟨rfl, h⟩ := h
    simp only [List.cons.injEq, true_and] at h
    exact ⟨rfl, h⟩
  · simp only [if_true, if_neg m0, if_neg m0', if_neg p0', lnT, sayT, Arg.txt, rep0, List.map_cons, List.map_nil, List.flatten_cons, List.flatten_nil, List.append_assoc, List.cons_append, List.nil_append, List.append_nil, List.cons.injEq, true_and] at h
    replace h := wd_uq (by decide) (by decide) hf hf' h (by decide) (by decide)
    obtain ⟨rfl, h⟩ := h
    simp only [List.cons.injEq, true_and] at h
    replace h := name_uq wm wm' h (by decide) (by decide)
    obtain ⟨rfl, h⟩ := h
    simp at h
  · simp only [if_true, if_neg m0, if_neg p0, lnT, sayT, Arg.txt, rep0, List.map_cons, List.map_nil, List.flatten_cons, List.flatten_nil, List.append_assoc, List.cons_append, List.nil_append, List.append_nil, List.cons.injEq, true_and] at h
    replace h := wd_uq (by decide) (by decide) hf hf' h (by decide) (by decide)
    obtain ⟨rfl, h⟩ := h
    simp at h
  · simp only [if_true, if_neg m0, if_neg p0, if_neg p0', lnT, sayT, Arg.txt, rep0, List.map_cons, List.map_nil, List.flatten_cons, List.flatten_nil, List.append_assoc, List.cons_append, List.nil_append, List.append_nil, List.cons.injEq, true_and] at h
    replace h := wd_uq (by decide) (by decide) hf hf' h (by decide) (by decide)
    obtain ⟨rfl, h⟩ := h
    simp at h
  · simp only [if_true, if_neg m0, if_neg p0, if_neg m0', lnT, sayT, Arg.txt, rep0, List.map_cons, List.map_nil, List.flatten_cons, List.flatten_nil, List.append_assoc, List.cons_append, List.nil_append, List.append_nil, List.cons.injEq, true_and] at h
    replace h := wd_uq (by decide) (by decide) hf hf' h (by decide) (by decide)
    obtain ⟨rfl, h⟩ := h
    simp only [List.cons.injEq, true_and] at h
    replace h := name_uq wm wm' h (by decide) (by decide)
    obtain ⟨rfl, h⟩ := h
    simp at h
  · simp only [if_neg m0, if_neg p0, if_neg m0', if_neg p0', lnT, sayT, Arg.txt, rep0, List.map_cons, List.map_nil, List.flatten_cons, List.flatten_nil, List.append_assoc, List.cons_append, List.nil_append, List.append_nil, List.cons.injEq, true_and] at h
    replace h := wd_uq (by decide) (by decide) hf hf' h (by decide) (by decide)
    obtain ⟨rfl, h⟩ := h
    simp only [List.cons.injEq, true_and] at h
    replace h := name_uq wm wm' h (by decide) (by decide)
    obtain ⟨rfl, h⟩ := h
    simp only [List.cons.injEq, true_and] at h
    replace h := name_uq wp wp' h (by decide) (by decide)
    obtain ⟨rfl, h⟩ := h
    simp only [List.cons.injEq, true_and] at h
    replace h := wd_uq (by decide) (by decide) hl hl' h (by decide) (by decide)
    obtain ⟨rfl, h⟩ := h
    simp only [List.cons.injEq, true_and] at h
    replace h := wd_uq (by decide) (by decide) hd hd' h (by decide) (by decide)
    obtain ⟨rfl, h⟩ := h
    simp only [List.cons.injEq, true_and] at h
    exact ⟨rfl, h⟩
theorem cause_uq (x y : CauseD) (r s : List UInt8) (hx : causeF x = true) (hy : causeF y = true) (h : causeT x ++ r = causeT y ++ s) : x = y ∧ r = s := by
  obtain ⟨u, n, b⟩ := x
  obtain ⟨u', n', b'⟩ := y
  simp only [causeF, List.all_cons, Bool.and_eq_true, decide_eq_true_eq] at hx hy
  obtain ⟨⟨hu, hb⟩, hn⟩ := hx
  obtain ⟨⟨hu', hb'⟩, hn'⟩ := hy
  simp only [causeT, causeA] at h
  by_cases b0 : b = [] <;> by_cases b0' : b' = []
  · simp only [if_pos b0, if_pos b0', lnT, sayT, Arg.txt, rep0, List.map_cons, List.map_nil, List.flatten_cons, List.flatten_nil, List.append_assoc, List.cons_append, List.nil_append, List.append_nil, List.cons.injEq, true_and, repsT] at h
    replace h := name_uq hu hu' h (by decide) (by decide)
    obtain ⟨rfl, h⟩ := h
    simp only [List.cons.injEq, true_and] at h
    replace h := join_uq uq_rep (by decide) hn.1 hn'.1 hn.2 hn'.2 (by decide) (by decide) (by decide) (by decide) h
    obtain ⟨rfl, h⟩ := h
    simp only [List.cons.injEq, true_and] at h
    rw [b0, b0']
    exact ⟨rfl, h⟩
  · simp only [if_pos b0, if_neg b0', lnT, sayT, Arg.txt, rep0, List.map_cons, List.map_nil, List.flatten_cons, List.flatten_nil, List.append_assoc, List.cons_append, List.nil_append, List.append_nil, List.cons.injEq, true_and, repsT] at h
    replace h := name_uq hu hu' h (by decide) (by decide)
    obtain ⟨rfl, h⟩ := h
    simp only [List.cons.injEq, true_and] at h
    replace h := join_uq uq_rep (by decide) hn.1 hn'.1 hn.2 hn'.2 (by decide) (by decide) (by decide) (by decide) h
    obtain ⟨rfl, h⟩ := h
    simp at h
  · simp only [if_neg b0, if_pos b0', lnT, sayT, Arg.txt, rep0, List.map_cons, List.map_nil, List.flatten_cons, List.flatten_nil, List.append_assoc, List.cons_append, List.nil_append, List.append_nil, List.cons.injEq, true_and, repsT] at h
    replace h := name_uq hu hu' h (by decide) (by decide)
    obtain ⟨rfl, h⟩ := h
    simp only [List.cons.injEq, true_and] at h
    replace h := join_uq uq_rep (by decide) hn.1 hn'.1 hn.2 hn'.2 (by decide) (by decide) (by decide) (by decide) h
    obtain ⟨rfl, h⟩ := h
    simp at h
  · simp only [if_neg b0, if_neg b0', lnT, sayT, Arg.txt, rep0, List.map_cons, List.map_nil, List.flatten_cons, List.flatten_nil, List.append_assoc, List.cons_append, List.nil_append, List.append_nil, List.cons.injEq, true_and, repsT] at h
    replace h := name_uq hu hu' h (by decide) (by decide)
    obtain ⟨rfl, h⟩ := h
    simp only [List.cons.injEq, true_and] at h
    replace h := join_uq uq_rep (by decide) hn.1 hn'.1 hn.2 hn'.2 (by decide) (by decide) (by decide) (by decide) h
    obtain ⟨rfl, h⟩ := h
    simp only [List.cons.injEq, true_and] at h
    rw [← List.map_id' b, ← List.map_id' b'] at h
    replace h := join_uq uq_name (by decide) (List.length_pos_iff.2 b0) (List.length_pos_iff.2 b0') hb hb' (by decide) (by decide) (by decide) (by decide) h
    obtain ⟨rfl, h⟩ := h
    simp only [List.cons.injEq, true_and] at h
    exact ⟨rfl, h⟩
theorem port_uq (x y : PortD) (r s : List UInt8) (hx : portF x = true) (hy : portF y = true) (h : portT x ++ r = portT y ++ s) : x = y ∧ r = s := by
  obtain ⟨n, k, w, z, d, f⟩ := x
  obtain ⟨n', k', w', z', d', f'⟩ := y
  simp only [portF, kindsF, Bool.or_eq_true, beq_iff_eq, List.all_cons, List.all_nil, Bool.and_true, Bool.and_eq_true] at hx hy
  obtain ⟨hk, hn, hz, hd, hf⟩ := hx
  obtain ⟨hk', hn', hz', hd', hf'⟩ := hy
  rcases hk with ⟨rfl, rfl⟩ | ⟨rfl, rfl⟩ <;> rcases hk' with ⟨rfl, rfl⟩ | ⟨rfl, rfl⟩ <;> cases w <;> cases w'
  · simp [portT, wayT, lnT, sayT, Arg.txt, rep2] at h
    replace h := name_uq hn hn' h (by decide) (by decide)
    obtain ⟨rfl, h⟩ := h
    simp only [List.cons.injEq, true_and] at h
    replace h := num_uq hz hz' h (by decide) (by decide)
    obtain ⟨rfl, h⟩ := h
    simp only [List.cons.injEq, true_and] at h
    replace h := num_uq hf hf' h (by decide) (by decide)
    obtain ⟨rfl, h⟩ := h
    simp only [List.cons.injEq, true_and] at h
    exact ⟨rfl, h⟩
  · simp [portT, wayT, lnT, sayT, Arg.txt, rep2] at h
  · simp [portT, wayT, lnT, sayT, Arg.txt, rep2] at h
  · simp [portT, wayT, lnT, sayT, Arg.txt, rep2] at h
    replace h := name_uq hn hn' h (by decide) (by decide)
    obtain ⟨rfl, h⟩ := h
    simp only [List.cons.injEq, true_and] at h
    replace h := num_uq hz hz' h (by decide) (by decide)
    obtain ⟨rfl, h⟩ := h
    simp only [List.cons.injEq, true_and] at h
    replace h := num_uq hf hf' h (by decide) (by decide)
    obtain ⟨rfl, h⟩ := h
    simp only [List.cons.injEq, true_and] at h
    exact ⟨rfl, h⟩
  · simp [portT, wayT, lnT, sayT, Arg.txt, rep2] at h
    replace h := name_uq hn hn' h (by decide) (by decide)
    obtain ⟨rfl, h⟩ := h
    simp at h
  · simp [portT, wayT, lnT, sayT, Arg.txt, rep2] at h
  · simp [portT, wayT, lnT, sayT, Arg.txt, rep2] at h
  · simp [portT, wayT, lnT, sayT, Arg.txt, rep2] at h
    replace h := name_uq hn hn' h (by decide) (by decide)
    obtain ⟨rfl, h⟩ := h
    simp at h
  · simp [portT, wayT, lnT, sayT, Arg.txt, rep2] at h
    replace h := name_uq hn hn' h (by decide) (by decide)
    obtain ⟨rfl, h⟩ := h
    simp at h
  · simp [portT, wayT, lnT, sayT, Arg.txt, rep2] at h
  · simp [portT, wayT, lnT, sayT, Arg.txt, rep2] at h
  · simp [portT, wayT, lnT, sayT, Arg.txt, rep2] at h
    replace h := name_uq hn hn' h (by decide) (by decide)
    obtain ⟨rfl, h⟩ := h
    simp at h
  · simp [portT, wayT, lnT, sayT, Arg.txt, rep2] at h
    replace h := name_uq hn hn' h (by decide) (by decide)
    obtain ⟨rfl, h⟩ := h
    simp only [List.cons.injEq, true_and] at h
    replace h := num_uq hz hz' h (by decide) (by decide)
    obtain ⟨rfl, h⟩ := h
    simp only [List.cons.injEq, true_and] at h
    replace h := num_uq hd hd' h (by decide) (by decide)
    obtain ⟨rfl, h⟩ := h
    simp only [List.cons.injEq, true_and] at h
    exact ⟨rfl, h⟩
  · simp [portT, wayT, lnT, sayT, Arg.txt, rep2] at h
  · simp [portT, wayT, lnT, sayT, Arg.txt, rep2] at h
  · simp [portT, wayT, lnT, sayT, Arg.txt, rep2] at h
    replace h := name_uq hn hn' h (by decide) (by decide)
    obtain ⟨rfl, h⟩ := h
    simp only [List.cons.injEq, true_and] at h
    replace h := num_uq hz hz' h (by decide) (by decide)
    obtain ⟨rfl, h⟩ := h
    simp only [List.cons.injEq, true_and] at h
    replace h := num_uq hd hd' h (by decide) (by decide)
    obtain ⟨rfl, h⟩ := h
    simp only [List.cons.injEq, true_and] at h
    exact ⟨rfl, h⟩
theorem port_head (x : PortD) : Hds [[9, 9, 105], [9, 9, 111]] (portT x) := by
  obtain ⟨n, k, w, z, d, f⟩ := x
  cases w
  · refine ⟨[9, 9, 105], by simp, ?_⟩
    unfold portT wayT
    split <;> simp [lnT, sayT, Arg.txt, rep2]
  · refine ⟨[9, 9, 111], by simp, ?_⟩
    unfold portT wayT
    split <;> simp [lnT, sayT, Arg.txt, rep2]
theorem ops_head (l : List Int) (r : List UInt8) : ∃ c t, (catT (fun n => 32 :: Lib.itoa n) l ++ 59 :: r) = c :: t ∧ innerB c = false ∧ digitB c = false := by
  cases l with
  | nil => exact ⟨59, r, rfl, by decide, by decide⟩
  | cons a l => exact ⟨32, _, rfl, by decide, by decide⟩
theorem ops_uq : ∀ (k l : List Int) (r s : List UInt8), k.all numF = true → l.all numF = true → catT (fun n => 32 :: Lib.itoa n) k ++ 59 :: r = catT (fun n => 32 :: Lib.itoa n) l ++ 59 :: s → k = l ∧ r = s
  | [], [], r, s, _, _, h => by simpa [catT] using h
  | [], y :: l, r, s, _, _, h => by simp [catT] at h
  | x :: k, [], r, s, _, _, h => by simp [catT] at h
  | x :: k, y :: l, r, s, hk, hl, h => by
    rw [List.all_cons, Bool.and_eq_true] at hk hl
    obtain ⟨c, t, e1, -, hc⟩ := ops_head k r
    obtain ⟨d, u, e2, -, hd⟩ := ops_head l s
    have h' : Lib.itoa x ++ c :: t = Lib.itoa y ++ d :: u := by
      rw [← e1, ← e2]
      simpa [catT] using h
    obtain ⟨rfl, h2⟩ := num_uq hk.1 hl.1 h' hc hd
    rw [← e1, ← e2] at h2
    obtain ⟨rfl, h3⟩ := ops_uq k l r s hk.2 hl.2 h2
    exact ⟨rfl, h3⟩
theorem three_uq {n : Nat} {a b c a' b' c' : Int} (h : [a, b, c].take n = [a', b', c'].take n) (h1 : ([a, b, c].drop n).all zeroF = true) (h2 : ([a', b', c'].drop n).all zeroF = true) : a = a' ∧ b = b' ∧ c = c' := by
  match n, h, h1, h2 with
  | 0, h, h1, h2 => simp [zeroF] at h1 h2; omega
  | 1, h, h1, h2 => simp [zeroF] at h h1 h2; omega
  | 2, h, h1, h2 => simp [zeroF] at h h1 h2; omega
  | n + 3, h, h1, h2 => simpa using h
theorem ins_uq (x y : InsD) (r s : List UInt8) (hx : insF x = true) (hy : insF y = true) (h : insT x ++ r = insT y ++ s) : x = y ∧ r = s := by
  obtain ⟨p, a, b, c⟩ := x
  obtain ⟨p', a', b', c'⟩ := y
  simp only [insF, Bool.and_eq_true] at hx hy
  obtain ⟨hw, hn, hz⟩ := hx
  obtain ⟨hw', hn', hz'⟩ := hy
  simp only [insT, opsOf, List.append_assoc, List.cons_append, List.nil_append] at h
  obtain ⟨c1, t, e1, hc, -⟩ := ops_head ([a, b, c].take (wordN insOps p).length) r
  obtain ⟨d1, u, e2, hd, -⟩ := ops_head ([a', b', c'].take (wordN insOps p').length) s
  rw [e1, e2] at h
  replace h := wd_uq (by decide) (by decide) hw hw' h hc hd
  obtain ⟨rfl, h⟩ := h
  rw [← e1, ← e2] at h
  obtain ⟨h, e⟩ := ops_uq _ _ _ _ hn hn' h
  obtain ⟨rfl, rfl, rfl⟩ := three_uq h hz hz'
  exact ⟨rfl, e⟩
theorem code_uq (x y : InsD) (r s : List UInt8) (hx : insF x = true) (hy : insF y = true) (h : codeT x ++ r = codeT y ++ s) : x = y ∧ r = s := by
  simp only [codeT, lnT, sayT, Arg.txt, rep3, List.map_nil, List.flatten_nil, List.append_assoc, List.cons_append, List.nil_append, List.append_nil, List.cons.injEq, true_and] at h
  replace h := ins_uq x y _ _ hx hy h
  obtain ⟨rfl, h⟩ := h
  simp only [List.cons.injEq, true_and] at h
  exact ⟨rfl, h⟩
theorem proc_uq (x y : ProcD) (r s : List UInt8) (hx : procF x = true) (hy : procF y = true) (h : procT x ++ r = procT y ++ s) : x = y ∧ r = s := by
  obtain ⟨n, a, b, c, l⟩ := x
  obtain ⟨n', a', b', c', l'⟩ := y
  simp only [procF, List.all_cons, List.all_nil, Bool.and_true, Bool.and_eq_true] at hx hy
  obtain ⟨hn, ⟨ha, hb, hc⟩, hl⟩ := hx
  obtain ⟨hn', ⟨ha', hb', hc'⟩, hl'⟩ := hy
  simp only [procT, procH, lnT, sayT, Arg.txt, rep2, List.map_cons, List.map_nil, List.flatten_cons, List.flatten_nil, List.append_assoc, List.cons_append, List.nil_append, List.append_nil, List.cons.injEq, true_and] at h
  replace h := name_uq hn hn' h (by decide) (by decide)
  obtain ⟨rfl, h⟩ := h
  simp only [List.cons.injEq, true_and] at h
  replace h := num_uq ha ha' h (by decide) (by decide)
  obtain ⟨rfl, h⟩ := h
  simp only [List.cons.injEq, true_and] at h
  replace h := num_uq hb hb' h (by decide) (by decide)
  obtain ⟨rfl, h⟩ := h
  simp only [List.cons.injEq, true_and] at h
  replace h := num_uq hc hc' h (by decide) (by decide)
  obtain ⟨rfl, h⟩ := h
  simp only [List.cons.injEq, true_and] at h
  replace h := cat_uq (F := insF) code_uq l l' _ _ hl hl' (by intro y t _; simp [codeT, lnT, sayT, Arg.txt, rep3]) (by intro y t _; simp [codeT, lnT, sayT, Arg.txt, rep3]) h
  obtain ⟨rfl, h⟩ := h
  simp only [List.cons.injEq, true_and] at h
  exact ⟨rfl, h⟩
theorem proc_head (x : ProcD) : ∃ t, procT x = [9, 9, 112] ++ t := by simp [procT, procH, lnT, sayT, Arg.txt, rep2]
theorem semas_head (x : PartD) : semasT x = [] ∨ ∃ t, semasT x = [9, 9, 115] ++ t := by
  unfold semasT
  split
  · exact .inl rfl
  · exact .inr (by simp [lnT, sayT, Arg.txt, rep2])
theorem semas_uq (x y : PartD) (r s : List UInt8) (hx : x.semas.all numF = true) (hy : y.semas.all numF = true) (hr : ∀ t, r ≠ [9, 9, 115] ++ t) (hs : ∀ t, s ≠ [9, 9, 115] ++ t) (h : semasT x ++ r = semasT y ++ s) : x.semas = y.semas ∧ r = s := by
  unfold semasT at h
  by_cases x0 : x.semas = [] <;> by_cases y0 : y.semas = []
  · rw [if_pos x0, if_pos y0] at h
    exact ⟨x0.trans y0.symm, h⟩
  · exfalso
    simp only [if_pos x0, if_neg y0, lnT, sayT, Arg.txt, rep2, List.map_cons, List.map_nil, List.flatten_cons, List.flatten_nil, List.append_assoc, List.cons_append, List.nil_append, List.append_nil, numsT] at h
    exact hr _ h
  · exfalso
    simp only [if_neg x0, if_pos y0, lnT, sayT, Arg.txt, rep2, List.map_cons, List.map_nil, List.flatten_cons, List.flatten_nil, List.append_assoc, List.cons_append, List.nil_append, List.append_nil, numsT] at h
    exact hs _ h.symm
  · simp only [if_neg x0, if_neg y0, lnT, sayT, Arg.txt, rep2, List.map_cons, List.map_nil, List.flatten_cons, List.flatten_nil, List.append_assoc, List.cons_append, List.nil_append, List.append_nil, List.cons.injEq, true_and, numsT] at h
    replace h := join_uq uq_num (by decide) (List.length_pos_iff.2 x0) (List.length_pos_iff.2 y0) hx hy (by decide) (by decide) (by decide) (by decide) h
    obtain ⟨e, h⟩ := h
    simp only [List.cons.injEq, true_and] at h
    exact ⟨e, h⟩
theorem bufs_head (x : PartD) : bufsT x = [] ∨ ∃ t, bufsT x = [9, 9, 98, 117] ++ t := by
  unfold bufsT
  split
  · exact .inl rfl
  · exact .inr (by simp [lnT, sayT, Arg.txt, rep2])
theorem bufs_uq (x y : PartD) (r s : List UInt8) (hx : x.bufs.all numF = true) (hy : y.bufs.all numF = true) (hr : ∀ t, r ≠ [9, 9, 98, 117] ++ t) (hs : ∀ t, s ≠ [9, 9, 98, 117] ++ t) (h : bufsT x ++ r = bufsT y ++ s) : x.bufs = y.bufs ∧ r = s := by
  unfold bufsT at h
  by_cases x0 : x.bufs = [] <;> by_cases y0 : y.bufs = []
  · rw [if_pos x0, if_pos y0] at h
    exact ⟨x0.trans y0.symm, h⟩
  · exfalso
    simp only [if_pos x0, if_neg y0, lnT, sayT, Arg.txt, rep2, List.map_cons, List.map_nil, List.flatten_cons, List.flatten_nil, List.append_assoc, List.cons_append, List.nil_append, List.append_nil, numsT] at h
    exact hr _ h
  · exfalso
    simp only [if_neg x0, if_pos y0, lnT, sayT, Arg.txt, rep2, List.map_cons, List.map_nil, List.flatten_cons, List.flatten_nil, List.append_assoc, List.cons_append, List.nil_append, List.append_nil, numsT] at h
    exact hs _ h.symm
  · simp only [if_neg x0, if_neg y0, lnT, sayT, Arg.txt, rep2, List.map_cons, List.map_nil, List.flatten_cons, List.flatten_nil, List.append_assoc, List.cons_append, List.nil_append, List.append_nil, List.cons.injEq, true_and, numsT] at h
    replace h := join_uq uq_num (by decide) (List.length_pos_iff.2 x0) (List.length_pos_iff.2 y0) hx hy (by decide) (by decide) (by decide) (by decide) h
    obtain ⟨e, h⟩ := h
    simp only [List.cons.injEq, true_and] at h
    exact ⟨e, h⟩
theorem events_head (x : PartD) : eventsT x = [] ∨ ∃ t, eventsT x = [9, 9, 101] ++ t := by
  unfold eventsT
  split
  · exact .inr (by simp [lnT, sayT, Arg.txt, rep2])
  · exact .inl rfl
theorem events_uq (x y : PartD) (r s : List UInt8) (hx : numF x.events = true) (hy : numF y.events = true) (hr : ∀ t, r ≠ [9, 9, 101] ++ t) (hs : ∀ t, s ≠ [9, 9, 101] ++ t) (h : eventsT x ++ r = eventsT y ++ s) : x.events = y.events ∧ r = s := by
  unfold eventsT at h
  by_cases x0 : 0 < x.events <;> by_cases y0 : 0 < y.events
  · simp only [if_pos x0, if_pos y0, lnT, sayT, Arg.txt, rep2, List.map_cons, List.map_nil, List.flatten_cons, List.flatten_nil, List.append_assoc, List.cons_append, List.nil_append, List.append_nil, List.cons.injEq, true_and] at h
    replace h := num_uq hx hy h (by decide) (by decide)
    obtain ⟨e, h⟩ := h
    simp only [List.cons.injEq, true_and] at h
    exact ⟨e, h⟩
  · exfalso
    simp only [if_pos x0, if_neg y0, lnT, sayT, Arg.txt, rep2, List.map_cons, List.map_nil, List.flatten_cons, List.flatten_nil, List.append_assoc, List.cons_append, List.nil_append, List.append_nil] at h
    exact hs _ h.symm
  · exfalso
    simp only [if_neg x0, if_pos y0, lnT, sayT, Arg.txt, rep2, List.map_cons, List.map_nil, List.flatten_cons, List.flatten_nil, List.append_assoc, List.cons_append, List.nil_append, List.append_nil] at h
    exact hr _ h
  · rw [if_neg x0, if_neg y0] at h
    simp only [numF, Bool.and_eq_true, decide_eq_true_eq] at hx hy
    exact ⟨by omega, h⟩
theorem boards_head (x : PartD) : boardsT x = [] ∨ ∃ t, boardsT x = [9, 9, 98, 111] ++ t := by
  unfold boardsT
  split
  · exact .inr (by simp [lnT, sayT, Arg.txt, rep2])
  · exact .inl rfl
theorem boards_uq (x y : PartD) (r s : List UInt8) (hx : numF x.boards = true) (hy : numF y.boards = true) (hr : ∀ t, r ≠ [9, 9, 98, 111] ++ t) (hs : ∀ t, s ≠ [9, 9, 98, 111] ++ t) (h : boardsT x ++ r = boardsT y ++ s) : x.boards = y.boards ∧ r = s := by
  unfold boardsT at h
  by_cases x0 : 0 < x.boards <;> by_cases y0 : 0 < y.boards
  · simp only [if_pos x0, if_pos y0, lnT, sayT, Arg.txt, rep2, List.map_cons, List.map_nil, List.flatten_cons, List.flatten_nil, List.append_assoc, List.cons_append, List.nil_append, List.append_nil, List.cons.injEq, true_and] at h
    replace h := num_uq hx hy h (by decide) (by decide)
    obtain ⟨e, h⟩ := h
    simp only [List.cons.injEq, true_and] at h
    exact ⟨e, h⟩
  · exfalso
    simp only [if_pos x0, if_neg y0, lnT, sayT, Arg.txt, rep2, List.map_cons, List.map_nil, List.flatten_cons, List.flatten_nil, List.append_assoc, List.cons_append, List.nil_append, List.append_nil] at h
    exact hs _ h.symm
  · exfalso
    simp only [if_neg x0, if_pos y0, lnT, sayT, Arg.txt, rep2, List.map_cons, List.map_nil, List.flatten_cons, List.flatten_nil, List.append_assoc, List.cons_append, List.nil_append, List.append_nil] at h
    exact hr _ h
  · rw [if_neg x0, if_neg y0] at h
    simp only [numF, Bool.and_eq_true, decide_eq_true_eq] at hx hy
    exact ⟨by omega, h⟩
theorem ports_hds {K : List (List UInt8)} {r : List UInt8} (h : Hds K r) (l : List PortD) : Hds ([9, 9, 105] :: [9, 9, 111] :: K) (catT portT l ++ r) := by
  cases l with
  | nil => exact (h.more _).more _
  | cons x l =>
    obtain ⟨k, hk, t, e⟩ := port_head x
    refine ⟨k, ?_, t ++ (catT portT l ++ r), by simp [catT, e]⟩
    simp at hk
    rcases hk with rfl | rfl <;> simp
theorem part_uq (x y : PartD) (r s : List UInt8) (hx : partF x = true) (hy : partF y = true) (h : partT x ++ r = partT y ++ s) : x = y ∧ r = s := by
  simp only [partF, List.all_cons, List.all_nil, Bool.and_true, Bool.and_eq_true] at hx hy
  obtain ⟨hn, ⟨ha, hb, hc, hd, he⟩, hs, hu, hp, hq⟩ := hx
  obtain ⟨hn', ⟨ha', hb', hc', hd', he'⟩, hs', hu', hp', hq'⟩ := hy
  simp only [partT, partH, lnT, sayT, Arg.txt, rep1, List.map_cons, List.map_nil, List.flatten_cons, List.flatten_nil, List.append_assoc, List.cons_append, List.nil_append, List.append_nil, List.cons.injEq, true_and] at h
  replace h := name_uq hn hn' h (by decide) (by decide)
  obtain ⟨en, h⟩ := h
  simp only [List.cons.injEq, true_and] at h
  replace h := num_uq ha ha' h (by decide) (by decide)
  obtain ⟨ea, h⟩ := h
  simp only [List.cons.injEq, true_and] at h
  replace h := num_uq hb hb' h (by decide) (by decide)
  obtain ⟨eb, h⟩ := h
  simp only [List.cons.injEq, true_and] at h
  replace h := num_uq hc hc' h (by decide) (by decide)
  obtain ⟨ec, h⟩ := h
  simp only [List.cons.injEq, true_and] at h
  have X0 : ∀ (z : PartD) (t : List UInt8), Hds [[9, 125]] (9 :: 125 :: 10 :: t) := fun _ t => ⟨[9, 125], by simp, 10 :: t, rfl⟩
  have X1 : ∀ (z : PartD) (t : List UInt8), Hds [[9, 9, 112], [9, 125]] (catT procT z.procs ++ 9 :: 125 :: 10 :: t) := fun z t => by
    cases e : z.procs with
    | nil => exact (X0 z t).more _
    | cons a l => obtain ⟨u, eu⟩ := proc_head a; exact ⟨[9, 9, 112], by simp, u ++ (catT procT l ++ 9 :: 125 :: 10 :: t), by simp [catT, eu]⟩
  have X2 := fun (z : PartD) (t : List UInt8) => ports_hds (X1 z t) z.ports
  have X3 := fun (z : PartD) (t : List UInt8) => (X2 z t).opt (bufs_head z)
  have X4 := fun (z : PartD) (t : List UInt8) => (X3 z t).opt (boards_head z)
  have X5 := fun (z : PartD) (t : List UInt8) => (X4 z t).opt (events_head z)
  replace h := semas_uq x y _ _ hs hs' ((X5 x r).no (by simp)) ((X5 y s).no (by simp)) h
  obtain ⟨es, h⟩ := h
  replace h := events_uq x y _ _ hd hd' ((X4 x r).no (by simp)) ((X4 y s).no (by simp)) h
  obtain ⟨ee, h⟩ := h
  replace h := boards_uq x y _ _ he he' ((X3 x r).no (by simp)) ((X3 y s).no (by simp)) h
  obtain ⟨eo, h⟩ := h
  replace h := bufs_uq x y _ _ hu hu' ((X2 x r).no (by simp)) ((X2 y s).no (by simp)) h
  obtain ⟨eu, h⟩ := h
  have np : ∀ (z : PartD) (u : List UInt8) (q : PortD) (t : List UInt8), portF q = true → (catT procT z.procs ++ 9 :: 125 :: 10 :: u) ≠ portT q ++ t := by
    intro z u q t _
    obtain ⟨k, hk, t', e⟩ := port_head q
    rw [e, List.append_assoc]
    simp at hk
    rcases hk with rfl | rfl
    · exact (X1 z u).no (by simp) _
    · exact (X1 z u).no (by simp) _
  replace h := cat_uq (F := portF) port_uq x.ports y.ports _ _ hp hp' (np x r) (np y s) h
  obtain ⟨ep, h⟩ := h
  have nq : ∀ (u : List UInt8) (q : ProcD) (t : List UInt8), procF q = true → (9 :: 125 :: 10 :: u) ≠ procT q ++ t := by
    intro u q t _
    obtain ⟨t', e⟩ := proc_head q
    rw [e, List.append_assoc]
    exact (X0 x u).no (by simp) _
  replace h := cat_uq (F := procF) proc_uq x.procs y.procs _ _ hq hq' (nq r) (nq s) h
  obtain ⟨eq, h⟩ := h
  simp only [List.cons.injEq, true_and] at h
  obtain ⟨n, a, b, c, se, ev, bo, bu, po, pr⟩ := x
  obtain ⟨n', a', b', c', se', ev', bo', bu', po', pr'⟩ := y
  simp only at en ea eb ec es ee eo eu ep eq
  exact ⟨by rw [en, ea, eb, ec, es, ee, eo, eu, ep, eq], h⟩
theorem part_head (x : PartD) : ∃ t, partT x = [9] ++ t := by simp [partT, partH, lnT, sayT, Arg.txt, rep1]
theorem mod_uq (x y : ModD) (r s : List UInt8) (hx : modF x = true) (hy : modF y = true) (h : modT x ++ r = modT y ++ s) : x = y ∧ r = s := by
  obtain ⟨n, a, b, l⟩ := x
  obtain ⟨n', a', b', l'⟩ := y
  simp only [modF, List.all_cons, List.all_nil, Bool.and_true, Bool.and_eq_true] at hx hy
  obtain ⟨hn, ⟨ha, hb⟩, hl⟩ := hx
  obtain ⟨hn', ⟨ha', hb'⟩, hl'⟩ := hy
  simp only [modT, modH, lnT, sayT, Arg.txt, rep0, List.map_cons, List.map_nil, List.flatten_cons, List.flatten_nil, List.append_assoc, List.cons_append, List.nil_append, List.append_nil, List.cons.injEq, true_and] at h
  replace h := name_uq hn hn' h (by decide) (by decide)
  obtain ⟨rfl, h⟩ := h
  simp only [List.cons.injEq, true_and] at h
  replace h := num_uq ha ha' h (by decide) (by decide)
  obtain ⟨rfl, h⟩ := h
  simp only [List.cons.injEq, true_and] at h
  replace h := num_uq hb hb' h (by decide) (by decide)
  obtain ⟨rfl, h⟩ := h
  simp only [List.cons.injEq, true_and] at h
  have nq : ∀ (u : List UInt8) (q : PartD) (t : List UInt8), partF q = true → (125 :: 10 :: u) ≠ partT q ++ t := by
    intro u q t _
    obtain ⟨t', e⟩ := part_head q
    rw [e]
    simp
  replace h := cat_uq (F := partF) part_uq l l' _ _ hl hl' (nq r) (nq s) h
  obtain ⟨rfl, h⟩ := h
  simp only [List.cons.injEq, true_and] at h
  exact ⟨rfl, h⟩
theorem mod_key (x : ModD) (_ : modF x = true) : ∃ t, modT x = [109] ++ t := by simp [modT, modH, lnT, sayT, Arg.txt, rep0]
theorem chan_key (x : ChanD) (_ : chanF x = true) : ∃ t, chanT x = [99, 104] ++ t := by simp [chanT, lnT, sayT, Arg.txt, rep0]
theorem sw_key (x : SwD) (_ : swF x = true) : ∃ t, swT x = [115] ++ t := by simp [swT, lnT, sayT, Arg.txt, rep0]
theorem link_key (x : LinkD) (_ : linkF x = true) : ∃ t, linkT x = [108] ++ t := by simp [linkT, lnT, sayT, Arg.txt, rep0]
theorem vl_key (x : VlD) (_ : vlF x = true) : ∃ t, vlT x = [118] ++ t := by simp [vlT, lnT, sayT, Arg.txt, rep0]
theorem health_key (x : HealthD) (_ : healthF x = true) : ∃ t, healthT x = [111] ++ t := by simp [healthT, healthA, lnT, sayT, Arg.txt, rep0]
theorem cause_key (x : CauseD) (_ : causeF x = true) : ∃ t, causeT x = [99, 97] ++ t := by simp [causeT, causeA, lnT, sayT, Arg.txt, rep0]
theorem ver_key (x : VerD) (_ : verF x = true) : ∃ t, verT x = [119] ++ t := by simp [verT, lnT, sayT, Arg.txt, rep0]
theorem cfg_uq (x y : CfgD) (hx : cfgF x = true) (hy : cfgF y = true) (h : cfgT x = cfgT y) : x = y := by
  have h' : cfgT x ++ [0] = cfgT y ++ [0] := by rw [h]
  clear h
  obtain ⟨x0, x1, x2, x3, x4, x5, x6, x7⟩ := x
  obtain ⟨y0, y1, y2, y3, y4, y5, y6, y7⟩ := y
  simp only [cfgF, Bool.and_eq_true] at hx hy
  obtain ⟨a0, a1, a2, a3, a4, a5, a6, a7⟩ := hx
  obtain ⟨b0, b1, b2, b3, b4, b5, b6, b7⟩ := hy
  simp only [cfgT, List.append_assoc] at h'
  have A8 : Hds [[0]] [0] := ⟨[0], by simp, [], rfl⟩
  have A7 := A8.cat (F := verF) (f := verT) (l := x7) a7 ver_key
  have A6 := A7.cat (F := causeF) (f := causeT) (l := x6) a6 cause_key
  have A5 := A6.cat (F := healthF) (f := healthT) (l := x5) a5 health_key
  have A4 := A5.cat (F := vlF) (f := vlT) (l := x4) a4 vl_key
  have A3 := A4.cat (F := linkF) (f := linkT) (l := x3) a3 link_key
  have A2 := A3.cat (F := swF) (f := swT) (l := x2) a2 sw_key
  have A1 := A2.cat (F := chanF) (f := chanT) (l := x1) a1 chan_key
  have B7 := A8.cat (F := verF) (f := verT) (l := y7) b7 ver_key
  have B6 := B7.cat (F := causeF) (f := causeT) (l := y6) b6 cause_key
  have B5 := B6.cat (F := healthF) (f := healthT) (l := y5) b5 health_key
  have B4 := B5.cat (F := vlF) (f := vlT) (l := y4) b4 vl_key
  have B3 := B4.cat (F := linkF) (f := linkT) (l := y3) b3 link_key
  have B2 := B3.cat (F := swF) (f := swT) (l := y2) b2 sw_key
  have B1 := B2.cat (F := chanF) (f := chanT) (l := y1) b1 chan_key
  replace h' := cat_uq (F := modF) mod_uq x0 y0 _ _ a0 b0 (fun q t hq => by obtain ⟨u, e⟩ := mod_key q hq; rw [e, List.append_assoc]; exact A1.no (by simp) _) (fun q t hq => by obtain ⟨u, e⟩ := mod_key q hq; rw [e, List.append_assoc]; exact B1.no (by simp) _) h'
  obtain ⟨rfl, h'⟩ := h'
  replace h' := cat_uq (F := chanF) chan_uq x1 y1 _ _ a1 b1 (fun q t hq => by obtain ⟨u, e⟩ := chan_key q hq; rw [e, List.append_assoc]; exact A2.no (by simp) _) (fun q t hq => by obtain ⟨u, e⟩ := chan_key q hq; rw [e, List.append_assoc]; exact B2.no (by simp) _) h'
  obtain ⟨rfl, h'⟩ := h'
  replace h' := cat_uq (F := swF) sw_uq x2 y2 _ _ a2 b2 (fun q t hq => by obtain ⟨u, e⟩ := sw_key q hq; rw [e, List.append_assoc]; exact A3.no (by simp) _) (fun q t hq => by obtain ⟨u, e⟩ := sw_key q hq; rw [e, List.append_assoc]; exact B3.no (by simp) _) h'
  obtain ⟨rfl, h'⟩ := h'
  replace h' := cat_uq (F := linkF) link_uq x3 y3 _ _ a3 b3 (fun q t hq => by obtain ⟨u, e⟩ := link_key q hq; rw [e, List.append_assoc]; exact A4.no (by simp) _) (fun q t hq => by obtain ⟨u, e⟩ := link_key q hq; rw [e, List.append_assoc]; exact B4.no (by simp) _) h'
  obtain ⟨rfl, h'⟩ := h'
  replace h' := cat_uq (F := vlF) vl_uq x4 y4 _ _ a4 b4 (fun q t hq => by obtain ⟨u, e⟩ := vl_key q hq; rw [e, List.append_assoc]; exact A5.no (by simp) _) (fun q t hq => by obtain ⟨u, e⟩ := vl_key q hq; rw [e, List.append_assoc]; exact B5.no (by simp) _) h'
  obtain ⟨rfl, h'⟩ := h'
  replace h' := cat_uq (F := healthF) health_uq x5 y5 _ _ a5 b5 (fun q t hq => by obtain ⟨u, e⟩ := health_key q hq; rw [e, List.append_assoc]; exact A6.no (by simp) _) (fun q t hq => by obtain ⟨u, e⟩ := health_key q hq; rw [e, List.append_assoc]; exact B6.no (by simp) _) h'
  obtain ⟨rfl, h'⟩ := h'
  replace h' := cat_uq (F := causeF) cause_uq x6 y6 _ _ a6 b6 (fun q t hq => by obtain ⟨u, e⟩ := cause_key q hq; rw [e, List.append_assoc]; exact A7.no (by simp) _) (fun q t hq => by obtain ⟨u, e⟩ := cause_key q hq; rw [e, List.append_assoc]; exact B7.no (by simp) _) h'
  obtain ⟨rfl, h'⟩ := h'
  replace h' := cat_uq (F := verF) ver_uq x7 y7 _ _ a7 b7 (fun q t hq => by obtain ⟨u, e⟩ := ver_key q hq; rw [e, List.append_assoc]; exact A8.no (by simp) _) (fun q t hq => by obtain ⟨u, e⟩ := ver_key q hq; rw [e, List.append_assoc]; exact A8.no (by simp) _) h'
  obtain ⟨rfl, h'⟩ := h'
  rfl
end Go.Proofs.YtgbfaompondolaaGreatDoor
