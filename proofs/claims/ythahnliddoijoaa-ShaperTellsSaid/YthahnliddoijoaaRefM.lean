/-
  The reference's shaper as plain functions, and that it goes along with the shaper.
-/
import Derived.Test.YthahnliddoijoaaMod
namespace Go.Proofs.Ythahnliddoijoaa
structure RS where
  bags : List Int
  clock : Int
  left : List Int
  items : List It
def RS.late (R : RS) (t : Int) : Bool := decide (t < R.clock) || decide (1073741824 < t)
def isVl (vl : Int) (x : It) : Bool := x.vl == vl
def RS.waiting (R : RS) (vl : Int) : Nat := (R.items.filter (isVl vl)).length
def RS.offer (R : RS) (t vl net seq : Int) (bytes : List Int) : RS × Int :=
  if R.late t || decide (vl < 0) || decide ((R.bags.length : Int) ≤ vl) then (R, 2)
  else if R.waiting vl = 16 then ({ R with clock := t }, 4)
  else ({ R with clock := t, items := R.items ++ [⟨t, vl, net, seq, bytes⟩] }, 0)
/-- The first frame of a link, and its index. -/
def firstFrom (vl : Int) : Nat → List It → Option (Nat × It)
  | _, [] => none
  | i, x :: r => if x.vl == vl then some (i, x) else firstFrom vl (i + 1) r
def RS.relT (R : RS) (vl : Nat) (t0 : Int) : Int := if 0 ≤ R.left.getD vl 0 ∧ t0 < R.left.getD vl 0 + R.bags.getD vl 0 then R.left.getD vl 0 + R.bags.getD vl 0 else t0
def RS.rel (R : RS) (vl : Nat) : Int × Int := match firstFrom vl 0 R.items with
  | none => (0, -1)
  | some p => (R.relT vl p.2.time, p.1)
def RS.bestTo (R : RS) : Nat → Int × Int
  | 0 => (0, -1)
  | k + 1 => if 0 ≤ (R.rel k).2 ∧ ((R.bestTo k).2 < 0 ∨ (R.rel k).1 < (R.bestTo k).1) then R.rel k else R.bestTo k
def RS.best (R : RS) : Int × Int := R.bestTo R.bags.length
def RS.next (R : RS) (t : Int) : RS × Option It × Int :=
  if R.late t then (R, none, 2)
  else if R.best.2 < 0 ∨ t < R.best.1 then ({ R with clock := t }, none, 0)
  else match R.items[R.best.2.toNat]? with
    | none => (R, none, 0)
    | some x => (⟨R.bags, t, R.left.set x.vl.toNat t, R.items.eraseIdx R.best.2.toNat⟩, some x, 0)
def RS.when (R : RS) : Option Int := if R.best.2 < 0 then none else some (if R.best.1 < R.clock then R.clock else R.best.1)
def RS.new (bags : List Int) : RS := ⟨bags, 0, bags.map (fun _ => -1), []⟩
structure Sim (S : AS) (R : RS) : Prop where
  bags : R.bags = S.qs.map (·.bag)
  left_ : R.left.length = S.qs.length
  clock : R.clock = S.now
  now : 0 ≤ S.now
  its : ∀ v : Nat, v < S.qs.length → (S.at v).items = R.items.filter (isVl v)
  vls : ∀ x ∈ R.items, 0 ≤ x.vl ∧ x.vl < S.qs.length
  tms : ∀ x ∈ R.items, 0 ≤ x.time
  frm : ∀ v : Nat, v < S.qs.length → (S.at v).from_ = if 0 ≤ R.left.getD v 0 then R.left.getD v 0 + (S.at v).bag else 0
theorem firstFrom_none {vl : Int} : ∀ (l : List It) (i : Nat), l.filter (isVl vl) = [] → firstFrom vl i l = none
  | [], _, _ => rfl
  | x :: r, i, h => by
    unfold firstFrom
    by_cases hx : x.vl == vl
    · rw [List.filter_cons, if_pos (by exact hx)] at h; cases h
    · rw [if_neg hx]
      rw [List.filter_cons, if_neg (by exact hx)] at h
      exact firstFrom_none r (i + 1) h
theorem firstFrom_some {vl : Int} {x : It} {f : List It} : ∀ (l : List It) (i : Nat), l.filter (isVl vl) = x :: f → ∃ A B, l = A ++ x :: B ∧ A.filter (isVl vl) = [] ∧ B.filter (isVl vl) = f ∧ x.vl = vl ∧ firstFrom vl i l = some (i + A.length, x)
  | [], _, h => by cases h
  | y :: r, i, h => by
    unfold firstFrom
    by_cases hy : y.vl == vl
    · rw [List.filter_cons, if_pos (by exact hy)] at h
      injection h with h1 h2
      subst h1
      rw [if_pos hy]
      exact ⟨[], r, rfl, rfl, h2, by simpa using hy, rfl⟩
    · rw [if_neg hy]
      rw [List.filter_cons, if_neg (by exact hy)] at h
      obtain ⟨A, B, h1, h2, h3, h4, h5⟩ := firstFrom_some r (i + 1) h
      refine ⟨y :: A, B, by rw [h1]; rfl, ?_, h3, h4, ?_⟩
      · rw [List.filter_cons, if_neg (by exact hy)]; exact h2
      · rw [h5]; simp; omega
theorem Sim.bag {S : AS} {R : RS} (h : Sim S R) (v : Nat) (hv : v < S.qs.length) : R.bags.getD v 0 = (S.at v).bag := by
  rw [h.bags]
  unfold AS.at
  simp [List.getD_eq_getElem?_getD, List.getElem?_map, List.getElem?_eq_getElem hv]
theorem Sim.rel_none {S : AS} {R : RS} (h : Sim S R) (v : Nat) (hv : v < S.qs.length) (hi : (S.at v).items = []) : R.rel v = (0, -1) := by
  unfold RS.rel
  rw [firstFrom_none R.items 0 (by rw [← h.its v hv, hi])]
theorem Sim.rel_some {S : AS} {R : RS} (h : Sim S R) (v : Nat) (hv : v < S.qs.length) {x : It} {f : List It} (hi : (S.at v).items = x :: f) :
    ∃ A B, R.items = A ++ x :: B ∧ A.filter (isVl v) = [] ∧ B.filter (isVl v) = f ∧ x.vl = v ∧ R.rel v = ((S.at v).rel, (A.length : Int)) := by
  obtain ⟨A, B, h1, h2, h3, h4, h5⟩ := firstFrom_some (vl := (v : Int)) R.items 0 (by rw [← h.its v hv, hi])
  refine ⟨A, B, h1, h2, h3, h4, ?_⟩
  unfold RS.rel
  rw [h5]
  have ht := h.tms x (by rw [h1]; simp)
  have hf := h.frm v hv
  unfold RS.relT AQ.rel
  rw [hi, h.bag v hv, hf]
  simp only [Nat.zero_add]
  by_cases hl : 0 ≤ R.left.getD v 0
  · simp only [hl, true_and, if_true]
  · simp only [hl, false_and, if_false]
    rw [if_neg (by omega)]
/-- The searches of both find the same queue. -/
theorem Sim.bestTo {S : AS} {R : RS} (h : Sim S R) (k : Nat) (hk : k ≤ S.qs.length) :
    (S.bestTo k = none ∧ R.bestTo k = (0, -1)) ∨ ∃ j, S.bestTo k = some j ∧ j < k ∧ (S.at j).items ≠ [] ∧ R.bestTo k = R.rel j := by
  induction k with
  | zero => exact .inl ⟨rfl, rfl⟩
  | succ k ih =>
    rw [AS.bestTo, RS.bestTo]
    unfold AS.step
    cases hi : (S.at k).items with
    | nil =>
      rw [h.rel_none k (by omega) hi]
      simp only [List.isEmpty_nil, if_true]
      rw [if_neg (by intro hh; exact absurd hh.1 (by decide))]
      rcases ih (by omega) with ⟨h1, h2⟩ | ⟨j, h1, h2, h3, h4⟩
      · exact .inl ⟨h1, h2⟩
      · exact .inr ⟨j, h1, by omega, h3, h4⟩
    | cons x f =>
      obtain ⟨A, B, -, -, -, -, hr⟩ := h.rel_some k (by omega) hi
      simp only [List.isEmpty_cons, Bool.false_eq_true, if_false]
      rcases ih (by omega) with ⟨h1, h2⟩ | ⟨j, h1, h2, h3, h4⟩
      · rw [h1, h2, if_pos ⟨by rw [hr]; simp, .inl (by decide)⟩]
        exact .inr ⟨k, rfl, by omega, by rw [hi]; simp, rfl⟩
      · rw [h1, h4]
        cases hj : (S.at j).items with
        | nil => exact absurd hj h3
        | cons y g =>
          obtain ⟨A', B', -, -, -, -, hr'⟩ := h.rel_some j (by omega) hj
          simp only
          by_cases hl : (S.at k).rel < (S.at j).rel
          · rw [if_pos hl, if_pos ⟨by rw [hr]; simp, .inr (by rw [hr, hr']; exact hl)⟩]
            exact .inr ⟨k, rfl, by omega, by rw [hi]; simp, rfl⟩
          · rw [if_neg hl, if_neg (by
              rw [hr, hr']
              rintro ⟨-, hh | hh⟩
              · simp at hh; omega
              · exact hl hh)]
            exact .inr ⟨j, rfl, by omega, h3, rfl⟩
theorem Sim.len {S : AS} {R : RS} (h : Sim S R) : R.bags.length = S.qs.length := by rw [h.bags, List.length_map]
theorem Sim.best {S : AS} {R : RS} (h : Sim S R) :
    (S.best = none ∧ R.best = (0, -1)) ∨ ∃ j, S.best = some j ∧ j < S.qs.length ∧ (S.at j).items ≠ [] ∧ R.best = R.rel j := by
  unfold AS.best RS.best
  rw [h.len]
  exact h.bestTo _ (Nat.le_refl _)
theorem Sim.late {S : AS} {R : RS} (h : Sim S R) (t : Int) : R.late t = S.late t := by unfold RS.late AS.late; rw [h.clock]
theorem Sim.when {S : AS} {R : RS} (h : Sim S R) : R.when = S.when := by
  unfold RS.when AS.when
  rcases h.best with ⟨h1, h2⟩ | ⟨j, h1, h2, h3, h4⟩
  · rw [h1, h2]; rfl
  · rw [h1, h4]
    cases hj : (S.at j).items with
    | nil => exact absurd hj h3
    | cons y g =>
      obtain ⟨A', B', -, -, -, -, hr'⟩ := h.rel_some j h2 hj
      rw [hr', if_neg (by simp), h.clock]
theorem Sim.waiting {S : AS} {R : RS} (h : Sim S R) (vl : Int) : R.waiting vl = S.waiting vl := by
  unfold RS.waiting AS.waiting AS.has
  by_cases h0 : 0 ≤ vl
  · by_cases h1 : vl < S.qs.length
    · rw [if_pos (by simp [h0, h1]), h.its vl.toNat (by omega), Int.toNat_of_nonneg h0]
    · rw [if_neg (by simp [h1])]
      rw [List.length_eq_zero_iff, List.filter_eq_nil_iff]
      intro x hx hh
      have := h.vls x hx
      have e : x.vl = vl := by simpa [isVl] using hh
      omega
  · rw [if_neg (by simp [h0])]
    rw [List.length_eq_zero_iff, List.filter_eq_nil_iff]
    intro x hx hh
    have := h.vls x hx
    have e : x.vl = vl := by simpa [isVl] using hh
    omega
theorem Sim.set {S : AS} {R : RS} (h : Sim S R) (t : Int) (ht : S.late t = false) : Sim { S with now := t } { R with clock := t } := by
  have : S.now ≤ t := by unfold AS.late at ht; simp at ht; omega
  exact ⟨h.bags, h.left_, rfl, Int.le_trans h.now this, h.its, h.vls, h.tms, h.frm⟩
theorem AS.set_at (S : AS) (now : Int) (k : Nat) (q : AQ) (i : Nat) (hk : k < S.qs.length) : (AS.mk now (S.qs.set k q)).at i = if i = k then q else S.at i := by
  unfold AS.at
  simp only [List.getD_eq_getElem?_getD, List.getElem?_set]
  by_cases h : i = k
  · subst h; simp [hk]
  · rw [if_neg (fun e => h e.symm), if_neg h]
theorem map_bag_set (l : List AQ) (k : Nat) (q : AQ) (hq : (l.getD k AQ.zero).bag = q.bag) : (l.set k q).map (·.bag) = l.map (·.bag) := by
  rw [List.map_set]
  apply List.ext_getElem?
  intro i
  rw [List.getElem?_set]
  by_cases h : k = i
  · subst h
    rw [if_pos rfl]
    by_cases hk : k < l.length
    · simp [hk, List.getD_eq_getElem?_getD] at hq ⊢
      exact hq.symm
    · simp [hk]
  · rw [if_neg h]
theorem Sim.offer {S : AS} {R : RS} (h : Sim S R) (t vl net seq : Int) (bytes : List Int) : (R.offer t vl net seq bytes).2 = (S.offer t vl net seq bytes).2 ∧ Sim (S.offer t vl net seq bytes).1 (R.offer t vl net seq bytes).1 := by
  unfold RS.offer AS.offer
  rw [h.late t, h.len, h.waiting vl]
  have e : (S.late t || decide (vl < 0) || decide ((S.qs.length : Int) ≤ vl)) = (!S.has vl || S.late t) := by
    unfold AS.has
    cases S.late t
    · by_cases h0 : 0 ≤ vl <;> by_cases h1 : vl < S.qs.length <;> simp [h0, h1] <;> omega
    · simp
  rw [e]
  by_cases hc : (!S.has vl || S.late t) = true
  · rw [if_pos hc, if_pos hc]; exact ⟨rfl, h⟩
  · rw [if_neg hc, if_neg hc]
    have hh : S.has vl = true ∧ S.late t = false := by simpa using hc
    have hv : 0 ≤ vl ∧ vl < S.qs.length := by have := hh.1; unfold AS.has at this; simpa using this
    have hw : S.waiting vl = (S.at vl.toNat).items.length := by unfold AS.waiting; rw [if_pos hh.1]
    rw [hw]
    have hs := h.set t hh.2
    by_cases h16 : (S.at vl.toNat).items.length = 16
    · rw [if_pos h16, if_pos h16]; exact ⟨rfl, hs⟩
    · rw [if_neg h16, if_neg h16]
      refine ⟨rfl, ?_⟩
      have hk : vl.toNat < S.qs.length := by omega
      have hat : ∀ i, (({ S with now := t } : AS).put vl.toNat ⟨t, vl, net, seq, bytes⟩).at i = if i = vl.toNat then { (S.at vl.toNat) with items := (S.at vl.toNat).items ++ [⟨t, vl, net, seq, bytes⟩] } else S.at i := fun i => AS.set_at S t vl.toNat _ i hk
      refine ⟨?_, ?_, rfl, hs.now, fun v hv' => ?_, fun x hx => ?_, fun x hx => ?_, fun v hv' => ?_⟩
      · show R.bags = (S.qs.set _ _).map _
        rw [map_bag_set _ _ _ (by rfl)]; exact h.bags
      · show R.left.length = (S.qs.set _ _).length
        rw [List.length_set]; exact h.left_
      · have hv2 : v < S.qs.length := by have : v < (S.qs.set _ _).length := hv'; rwa [List.length_set] at this
        rw [hat v, List.filter_append]
        by_cases hvv : v = vl.toNat
        · rw [if_pos hvv, ← hvv]
          show (S.at v).items ++ _ = _
          rw [h.its v hv2]
          have : isVl (v : Int) ⟨t, vl, net, seq, bytes⟩ = true := by simp [isVl]; omega
          simp [this]
        · rw [if_neg hvv, h.its v hv2]
          have : isVl (v : Int) ⟨t, vl, net, seq, bytes⟩ = false := by simp [isVl]; omega
          simp [this]
      · have hl : (({ S with now := t } : AS).put vl.toNat ⟨t, vl, net, seq, bytes⟩).qs.length = S.qs.length := by show (S.qs.set _ _).length = _; rw [List.length_set]
        rw [hl]
        rw [List.mem_append, List.mem_singleton] at hx
        rcases hx with hx | rfl
        · exact h.vls x hx
        · exact hv
      · rw [List.mem_append, List.mem_singleton] at hx
        rcases hx with hx | rfl
        · exact h.tms x hx
        · exact hs.now
      · have hv2 : v < S.qs.length := by have : v < (S.qs.set _ _).length := hv'; rwa [List.length_set] at this
        rw [hat v]
        by_cases hvv : v = vl.toNat
        · rw [if_pos hvv, ← hvv]; exact h.frm v hv2
        · rw [if_neg hvv]; exact h.frm v hv2
theorem Sim.next {S : AS} {R : RS} (h : Sim S R) (t : Int) : (R.next t).2 = (S.next t).2 ∧ Sim (S.next t).1 (R.next t).1 := by
  unfold RS.next AS.next
  rw [h.late t]
  by_cases hl : S.late t = true
  · rw [if_pos hl, if_pos hl]; exact ⟨rfl, h⟩
  · rw [if_neg hl, if_neg hl]
    have hs := h.set t (by simpa using hl)
    rcases h.best with ⟨h1, h2⟩ | ⟨j, h1, h2, h3, h4⟩
    · rw [h1, h2, if_pos (.inl (by decide))]; exact ⟨rfl, hs⟩
    · rw [h1, h4]
      cases hj : (S.at j).items with
      | nil => exact absurd hj h3
      | cons x f =>
        obtain ⟨A, B, a1, a2, a3, a4, hr⟩ := h.rel_some j h2 hj
        rw [hr]
        simp only
        by_cases ht : t < (S.at j).rel
        · rw [if_pos ht, if_pos (.inr ht)]; exact ⟨rfl, hs⟩
        · rw [if_neg ht, if_neg (by rintro (hh | hh); · omega
                                    · exact ht hh)]
          have hget : R.items[((A.length : Nat) : Int).toNat]? = some x := by rw [a1]; simp
          rw [hget]
          refine ⟨by simp [hj], ?_⟩
          have herase : R.items.eraseIdx ((A.length : Nat) : Int).toNat = A ++ B := by
            rw [a1, Int.toNat_natCast, List.eraseIdx_append_of_length_le (Nat.le_refl _), Nat.sub_self]; rfl
          have hat : ∀ i, (({ S with now := t } : AS).get j t).at i = if i = j then { (S.at j) with items := (S.at j).items.tail, from_ := t + (S.at j).bag } else S.at i := fun i => AS.set_at S t j _ i h2
          have hq : (({ S with now := t } : AS).get j t).qs.length = S.qs.length := by show (S.qs.set _ _).length = _; rw [List.length_set]
          simp only [herase]
          refine ⟨?_, ?_, rfl, hs.now, fun v hv' => ?_, fun y hy => ?_, fun y hy => ?_, fun v hv' => ?_⟩
          · show R.bags = (S.qs.set _ _).map _
            rw [map_bag_set _ _ _ (by rfl)]; exact h.bags
          · show (R.left.set _ _).length = _
            rw [hq, List.length_set]; exact h.left_
          · rw [hq] at hv'
            rw [hat v]
            show _ = (A ++ B).filter _
            by_cases hvv : v = j
            · subst hvv
              rw [if_pos rfl, List.filter_append, a2, a3, hj]; rfl
            · rw [if_neg hvv, h.its v hv', a1, List.filter_append, List.filter_append, List.filter_cons, if_neg (by simp [isVl, a4]; omega)]
          · rw [hq]
            refine h.vls y ?_
            rw [a1]
            have : y ∈ A ++ B := hy
            rw [List.mem_append] at this ⊢
            rcases this with hh | hh
            · exact .inl hh
            · exact .inr (List.mem_cons_of_mem _ hh)
          · refine h.tms y ?_
            rw [a1]
            have : y ∈ A ++ B := hy
            rw [List.mem_append] at this ⊢
            rcases this with hh | hh
            · exact .inl hh
            · exact .inr (List.mem_cons_of_mem _ hh)
          · rw [hq] at hv'
            rw [hat v]
            show _ = if 0 ≤ (R.left.set x.vl.toNat t).getD v 0 then (R.left.set x.vl.toNat t).getD v 0 + _ else 0
            have hx : x.vl.toNat = j := by omega
            rw [hx]
            simp only [List.getD_eq_getElem?_getD, List.getElem?_set]
            by_cases hvv : v = j
            · subst hvv
              have : v < R.left.length := by rw [h.left_]; exact h2
              simp only [if_true, this, Option.getD_some]
              rw [if_pos hs.now]
            · have hvv2 : ¬ j = v := fun e => hvv e.symm
              simp only [if_neg hvv, if_neg hvv2]
              have := h.frm v hv'
              rw [List.getD_eq_getElem?_getD] at this
              exact this
theorem Sim.new (bags : List Int) : Sim (AS.new bags) (RS.new bags) := by
  have hl : (AS.new bags).qs.length = bags.length := by simp [AS.new]
  have hat : ∀ v, v < bags.length → ((AS.new bags).at v).items = [] ∧ ((AS.new bags).at v).from_ = 0 := by
    intro v hv
    unfold AS.new AS.at
    simp [List.getD_eq_getElem?_getD, List.getElem?_map, List.getElem?_eq_getElem hv]
  refine ⟨?_, by rw [hl]; simp [RS.new], rfl, Int.le_refl _, fun v hv => ?_, (fun x hx => by cases hx), (fun x hx => by cases hx), fun v hv => ?_⟩
  · unfold AS.new RS.new
    show bags = _
    rw [List.map_map]
    exact (List.map_id bags).symm
  · rw [hl] at hv; rw [(hat v hv).1]; rfl
  · rw [hl] at hv
    rw [(hat v hv).2]
    have : (RS.new bags).left.getD v 0 = -1 := by
      unfold RS.new
      simp [List.getD_eq_getElem?_getD, List.getElem?_map, List.getElem?_eq_getElem hv]
    rw [this]; rfl
end Go.Proofs.Ythahnliddoijoaa
