/-
  A run of a shaper: what is offered and what leaves (plain).
-/
import Derived.Test.YtdfhnbkmppdplaaBags
namespace Go.Proofs.Ytdfhnbkmppdplaa
open Go.RowKit
abbrev Ev := Int × Int
def frm (bag : Int) (l : List Int) : Int := match l.getLast? with | none => 0 | some p => p + bag
theorem frm_snoc (bag : Int) (l : List Int) (x : Int) : frm bag (l ++ [x]) = x + bag := by unfold frm; rw [List.getLast?_concat]
theorem shapeStep_frm (bag : Int) (out : List Int) (t : Int) (h : 0 ≤ t) : shapeStep bag out t = out ++ [if t < frm bag out then frm bag out else t] := by
  unfold shapeStep frm
  cases out.getLast? with
  | none => simp only; rw [if_neg (by omega)]
  | some p => rfl
structure QI (bag : Int) (q : AQ) (O L : List Ev) (i : Nat) (t u Tf : Int) : Prop where
  bag_ : q.bag = bag
  b1 : 1 ≤ bag
  b2 : bag ≤ 200
  split : ∃ H : List Ev, O = H ++ q.items.map (fun x => (x.time, x.seq)) ∧ H.map Prod.snd = L.map Prod.snd ∧ L.map Prod.fst = shapeL bag (H.map Prod.fst)
  vl : ∀ x ∈ q.items, x.vl = i
  from_ : q.from_ = frm bag (L.map Prod.fst)
  wait : q.items ≠ [] → t ≤ q.rel
  past : ∀ x ∈ L, x.1 < u
  pos : ∀ x ∈ O, 0 ≤ x.1 ∧ x.1 ≤ Tf
  ord : (O.map Prod.fst).Pairwise (· ≤ ·)
  few : frm bag (L.map Prod.fst) ≤ Tf + 200 * (L.length : Int)
theorem QI.pop {bag : Int} {q : AQ} {O L : List Ev} {i : Nat} {t u Tf : Int} (h : QI bag q O L i t u Tf) {x : It} {l : List It} (hx : q.items = x :: l) (hr : q.rel ≤ t) (hu : u ≤ t + 1) :
    QI bag { q with items := l, from_ := t + q.bag } O (L ++ [(t, x.seq)]) i t (t + 1) Tf ∧ (l ≠ [] → t < ({ q with items := l, from_ := t + q.bag } : AQ).rel) := by
  obtain ⟨H, h1, h2, h3⟩ := h.split
  have hxO : (x.time, x.seq) ∈ O := by rw [h1, hx]; simp
  obtain ⟨p0, p1⟩ := h.pos _ hxO
  have hrel : q.rel = if x.time < q.from_ then q.from_ else x.time := by unfold AQ.rel; rw [hx]
  have hw := h.wait (by rw [hx]; simp)
  have ht : (if x.time < q.from_ then q.from_ else x.time) = t := by rw [← hrel]; omega
  have hf := h.few
  have hb := h.bag_
  have b1 := h.b1
  have b2 := h.b2
  have hle : t ≤ Tf + 200 * (L.length : Int) := by
    rw [← ht, h.from_]; split <;> simp only at p1 <;> omega
  have hr2 : l ≠ [] → t < ({ q with items := l, from_ := t + q.bag } : AQ).rel := fun hl => by
    cases hc : l with
    | nil => exact absurd hc hl
    | cons y l' =>
      show t < if y.time < t + q.bag then t + q.bag else y.time
      split <;> omega
  refine ⟨⟨hb, b1, b2, ⟨H ++ [(x.time, x.seq)], ?_, ?_, ?_⟩, fun y hy => h.vl y (by rw [hx]; exact List.mem_cons_of_mem _ hy), ?_, fun hl => Int.le_of_lt (hr2 hl), fun y hy => ?_, h.pos, h.ord, ?_⟩, hr2⟩
  · rw [h1, hx]; simp
  · rw [List.map_append, List.map_append, h2]; rfl
  · rw [List.map_append, List.map_append, h3]
    show _ ++ [t] = shapeL bag (H.map Prod.fst ++ [x.time])
    rw [shapeL_snoc, shapeStep_frm _ _ _ p0, ← h3, ← h.from_, ht]
  · show t + q.bag = _
    rw [List.map_append]
    show _ = frm bag (L.map Prod.fst ++ [t])
    rw [frm_snoc, hb]
  · rw [List.mem_append, List.mem_singleton] at hy
    rcases hy with hy | rfl
    · have := h.past y hy; omega
    · show t < t + 1; omega
  · rw [List.map_append]
    show frm bag (L.map Prod.fst ++ [t]) ≤ _
    rw [frm_snoc, List.length_append]
    simp only [List.length_cons, List.length_nil]
    omega
theorem QI.tick {bag : Int} {q : AQ} {O L : List Ev} {i : Nat} {t u Tf : Int} (h : QI bag q O L i t u Tf) (hs : q.items ≠ [] → t < q.rel) (hu : u ≤ t + 1) : QI bag q O L i (t + 1) (t + 1) Tf :=
  ⟨h.bag_, h.b1, h.b2, h.split, h.vl, h.from_, fun hn => by have := hs hn; omega, fun x hx => by have := h.past x hx; omega, h.pos, h.ord, h.few⟩
theorem QI.later {bag : Int} {q : AQ} {O L : List Ev} {i : Nat} {t u Tf Tf' : Int} (h : QI bag q O L i t u Tf) (hT : Tf ≤ Tf') : QI bag q O L i t u Tf' :=
  ⟨h.bag_, h.b1, h.b2, h.split, h.vl, h.from_, h.wait, h.past, fun x hx => by have := h.pos x hx; omega, h.ord, by have := h.few; omega⟩
theorem QI.offer {bag : Int} {q : AQ} {O L : List Ev} {i : Nat} {t u Tf : Int} (h : QI bag q O L i t u Tf) (hT : Tf ≤ t) (h0 : 0 ≤ t) (id net : Int) (bs : List Int) : QI bag { q with items := q.items ++ [⟨t, i, net, id, bs⟩] } (O ++ [(t, id)]) L i t u t := by
  obtain ⟨H, h1, h2, h3⟩ := h.split
  refine ⟨h.bag_, h.b1, h.b2, ⟨H, ?_, h2, h3⟩, fun x hx => ?_, h.from_, fun _ => ?_, h.past, fun x hx => ?_, ?_, ?_⟩
  · rw [h1]; simp
  · rw [List.mem_append, List.mem_singleton] at hx
    rcases hx with hx | rfl
    · exact h.vl x hx
    · rfl
  · cases hq : q.items with
    | nil =>
      show t ≤ (if t < q.from_ then q.from_ else t)
      split <;> omega
    | cons y l =>
      have := h.wait (by rw [hq]; simp)
      unfold AQ.rel at this
      rw [hq] at this
      exact this
  · rw [List.mem_append, List.mem_singleton] at hx
    rcases hx with hx | rfl
    · have := h.pos x hx; omega
    · exact ⟨h0, Int.le_refl _⟩
  · rw [List.map_append, List.pairwise_append]
    refine ⟨h.ord, by simp, fun a ha b hb => ?_⟩
    simp only [List.map_cons, List.map_nil, List.mem_singleton] at hb
    subst hb
    obtain ⟨e, he, rfl⟩ := List.mem_map.1 ha
    have := h.pos e he; omega
  · have := h.few; omega
theorem shape_tail (bag : Int) (b1 : 1 ≤ bag) (t : Int) : ∀ (R H : List Int), (∀ x ∈ R, 0 ≤ x) → (∀ r R', R = r :: R' → t ≤ (if r < frm bag (shapeL bag H) then frm bag (shapeL bag H) else r)) → ∃ S, shapeL bag (H ++ R) = shapeL bag H ++ S ∧ S.length = R.length ∧ ∀ z ∈ S, t ≤ z
  | [], H, _, _ => ⟨[], by simp, rfl, fun z hz => by cases hz⟩
  | r :: R, H, hp, hw => by
    have h0 := hp r (by simp)
    have hz := hw r R rfl
    have hs : shapeL bag (H ++ [r]) = shapeL bag H ++ [if r < frm bag (shapeL bag H) then frm bag (shapeL bag H) else r] := by rw [shapeL_snoc, shapeStep_frm _ _ _ h0]
    obtain ⟨S, h1, h2, h3⟩ := shape_tail bag b1 t R (H ++ [r]) (fun x hx => hp x (by simp [hx])) (fun r' R' _ => by
      rw [hs, frm_snoc]
      split <;> omega)
    refine ⟨(if r < frm bag (shapeL bag H) then frm bag (shapeL bag H) else r) :: S, ?_, by simp [h2], fun z hzz => ?_⟩
    · have e : H ++ r :: R = (H ++ [r]) ++ R := by simp
      rw [e, h1, hs]; simp
    · rcases List.mem_cons.1 hzz with rfl | hzz
      · exact hz
      · exact h3 z hzz
def cntG (t : Int) (l : List Int) : Nat := (l.filter fun z => decide (t ≤ z)).length
theorem QI.count {bag : Int} {q : AQ} {O L : List Ev} {i : Nat} {t Tf : Int} (h : QI bag q O L i t t Tf) : q.items.length = cntG t (shapeL bag (O.map Prod.fst)) := by
  obtain ⟨H, h1, h2, h3⟩ := h.split
  obtain ⟨S, e1, e2, e3⟩ := shape_tail bag h.b1 t (q.items.map (·.time)) (H.map Prod.fst) (fun x hx => by
    obtain ⟨y, hy, rfl⟩ := List.mem_map.1 hx
    have := h.pos (y.time, y.seq) (by rw [h1]; exact List.mem_append_right _ (List.mem_map.2 ⟨y, hy, rfl⟩))
    exact this.1) (fun r R' hr => by
    cases hq : q.items with
    | nil => rw [hq] at hr; cases hr
    | cons y l =>
      rw [hq] at hr
      simp only [List.map_cons, List.cons.injEq] at hr
      obtain ⟨rfl, -⟩ := hr
      have := h.wait (by rw [hq]; simp)
      unfold AQ.rel at this
      rw [hq, h.from_, h3] at this
      exact this)
  have e4 : O.map Prod.fst = H.map Prod.fst ++ q.items.map (·.time) := by rw [h1, List.map_append, List.map_map]; rfl
  have f1 : (shapeL bag (H.map Prod.fst)).filter (fun z => decide (t ≤ z)) = [] := by
    rw [List.filter_eq_nil_iff, ← h3]
    intro z hz
    obtain ⟨e, he, rfl⟩ := List.mem_map.1 hz
    have := h.past e he
    simp; omega
  have f2 : S.filter (fun z => decide (t ≤ z)) = S := List.filter_eq_self.2 (fun z hz => by simp [e3 z hz])
  unfold cntG
  rw [e4, e1, List.filter_append, f1, f2, List.nil_append, e2, List.length_map]
/-- Which offers are taken. -/
def acc (bag : Int) (A : List Int) (t : Int) : List Int := if cntG t (shapeL bag A) = 16 then A else A ++ [t]
def accL (bag : Int) (F : List Int) : List Int := F.foldl (acc bag) []
theorem accL_snoc (bag : Int) (F : List Int) (t : Int) : accL bag (F ++ [t]) = acc bag (accL bag F) t := by unfold accL; rw [List.foldl_append]; rfl
def upd {α : Type} (f : Nat → α) (k : Nat) (v : α) : Nat → α := fun i => if i = k then v else f i
theorem upd_same {α : Type} (f : Nat → α) (k : Nat) (v : α) : upd f k v k = v := if_pos rfl
theorem upd_other {α : Type} (f : Nat → α) {k i : Nat} (v : α) (h : i ≠ k) : upd f k v i = f i := if_neg h
structure SI (bs : List Int) (S : AS) (O L : Nat → List Ev) (t u Tf : Int) : Prop where
  len : S.qs.length = bs.length
  qi : ∀ i, i < bs.length → QI (bs.getD i 0) (S.at i) (O i) (L i) i t u Tf
  now : S.now ≤ t
/-- How many of the first k queues may leave at t. -/
def pend (S : AS) (t : Int) : Nat → Nat
  | 0 => 0
  | k + 1 => pend S t k + (if (S.at k).items ≠ [] ∧ (S.at k).rel ≤ t then 1 else 0)
theorem pend_le (S : AS) (t : Int) (k : Nat) : pend S t k ≤ k := by
  induction k with
  | zero => exact Nat.le_refl _
  | succ k ih => unfold pend; split <;> omega
theorem pend_eq (S S' : AS) (t : Int) (k : Nat) (h : ∀ i, i < k → S'.at i = S.at i) : pend S' t k = pend S t k := by
  induction k with
  | zero => rfl
  | succ k ih => unfold pend; rw [ih (fun i hi => h i (by omega)), h k (by omega)]
theorem pend_pop (S S' : AS) (t : Int) (j : Nat) (h1 : (S.at j).items ≠ [] ∧ (S.at j).rel ≤ t) (h2 : ¬ ((S'.at j).items ≠ [] ∧ (S'.at j).rel ≤ t)) (h : ∀ i, i ≠ j → S'.at i = S.at i) (k : Nat) (hj : j < k) : pend S' t k + 1 = pend S t k := by
  induction k with
  | zero => omega
  | succ k ih =>
    unfold pend
    by_cases hk : k = j
    · subst hk
      rw [pend_eq S S' t k (fun i hi => h i (by omega)), if_pos h1, if_neg h2]
    · rw [h k hk]
      have := ih (by omega)
      omega
theorem SI.step {bs : List Int} {S : AS} {O L : Nat → List Ev} {t u Tf : Int} (h : SI bs S O L t u Tf) (hu : u ≤ t + 1) (ht : t ≤ 1073741824) :
    (S.next t = ({ S with now := t }, none, 0) ∧ SI bs { S with now := t } O L (t + 1) (t + 1) Tf) ∨
    (∃ (k : Nat) (x : It) (S1 : AS), k < bs.length ∧ S.next t = (S1, some x, 0) ∧ x.vl = k ∧ SI bs S1 O (upd L k (L k ++ [(t, x.seq)])) t (t + 1) Tf ∧ pend S1 t bs.length + 1 = pend S t bs.length) := by
  have hl : S.late t = false := by have := h.now; unfold AS.late; simp; omega
  have stop : (∀ i, i < bs.length → (S.at i).items ≠ [] → t < (S.at i).rel) → SI bs { S with now := t } O L (t + 1) (t + 1) Tf := fun hs =>
    ⟨h.len, fun i hi => (h.qi i hi).tick (hs i hi) hu, by show t ≤ t + 1; omega⟩
  rcases S.next_cases t with ⟨h1, _⟩ | ⟨_, hb, hn⟩ | ⟨k, x, l, _, hb, hk, hx, hr, hn⟩ | ⟨k, x, l, _, hb, hk, hx, hr, hn⟩
  · rw [hl] at h1; cases h1
  · refine .inl ⟨hn, stop fun i hi hne => ?_⟩
    rcases S.bestTo_spec S.qs.length with ⟨_, h4⟩ | ⟨j, h4, _⟩
    · exact absurd (h4 i (by rw [h.len]; exact hi)) hne
    · unfold AS.best at hb; rw [h4] at hb; cases hb
  · refine .inl ⟨hn, stop fun i hi hne => ?_⟩
    rcases S.bestTo_spec S.qs.length with ⟨h4, _⟩ | ⟨j, h4, _, _, h5⟩
    · unfold AS.best at hb; rw [h4] at hb; cases hb
    · unfold AS.best at hb; rw [h4] at hb; injection hb with hb; subst hb
      have := (h5 i (by rw [h.len]; exact hi) hne).1
      omega
  · rw [h.len] at hk
    have hq := h.qi k hk
    obtain ⟨p1, p2⟩ := hq.pop hx (by omega) hu
    have hat : ∀ i, (({ S with now := t } : AS).get k t).at i = if i = k then { (S.at k) with items := l, from_ := t + (S.at k).bag } else S.at i := fun i => by
      rw [AS.at_get (S := { S with now := t }) (by show k < S.qs.length; rw [h.len]; exact hk)]
      show (if i = k then { (S.at k) with items := (S.at k).items.tail, from_ := t + (S.at k).bag } else S.at i) = _
      rw [hx]; rfl
    refine .inr ⟨k, x, _, hk, hn, hq.vl x (by rw [hx]; simp), ⟨?_, fun i hi => ?_, Int.le_refl _⟩, ?_⟩
    · rw [AS.len_get]; exact h.len
    · rw [hat]
      by_cases hik : i = k
      · subst hik
        rw [if_pos rfl, upd_same]; exact p1
      · rw [if_neg hik, upd_other _ _ hik]
        have := h.qi i hi
        exact ⟨this.bag_, this.b1, this.b2, this.split, this.vl, this.from_, this.wait, fun y hy => by have := this.past y hy; omega, this.pos, this.ord, this.few⟩
    · refine pend_pop S _ t k ⟨by rw [hx]; simp, by omega⟩ ?_ (fun i hi => by rw [hat, if_neg hi]) _ hk
      rw [hat, if_pos rfl]
      rintro ⟨q1, q2⟩
      exact Int.not_le.mpr (p2 q1) q2
/-- An offer, at a time at which nothing has been missed. -/
theorem SI.offer {bs : List Int} {S : AS} {O L : Nat → List Ev} {t Tf : Int} (h : SI bs S O L t t Tf) (hT : Tf ≤ t) (h0 : 0 ≤ t) (ht : t ≤ 1073741824) {k : Nat} (hk : k < bs.length) (id : Int) :
    ((S.at k).items.length = 16 → S.offer t k 0 id [] = ({ S with now := t }, 4) ∧ SI bs { S with now := t } O L t t t) ∧
    ((S.at k).items.length ≠ 16 → ∃ S1, S.offer t k 0 id [] = (S1, 0) ∧ SI bs S1 (upd O k (O k ++ [(t, id)])) L t t t) := by
  have hl : S.late t = false := by have := h.now; unfold AS.late; simp; omega
  have hh : S.has (k : Int) = true := by have := h.len; unfold AS.has; simp; omega
  have ho : S.offer t k 0 id [] = if (S.at k).items.length = 16 then ({ S with now := t }, 4) else (({ S with now := t } : AS).put k ⟨t, k, 0, id, []⟩, 0) := by
    unfold AS.offer; rw [hh, hl]; simp only [Bool.not_true, Bool.or_false, Bool.false_eq_true, if_false, Int.toNat_natCast]
  refine ⟨fun hf => ⟨by rw [ho, if_pos hf], h.len, fun i hi => (h.qi i hi).later hT, Int.le_refl _⟩, fun hf => ⟨_, by rw [ho, if_neg hf], ?_, fun i hi => ?_, Int.le_refl _⟩⟩
  · rw [AS.len_put]; exact h.len
  · rw [AS.at_put (S := { S with now := t }) (by show k < S.qs.length; rw [h.len]; exact hk)]
    by_cases hik : i = k
    · subst hik
      rw [if_pos rfl, upd_same]
      exact (h.qi i hi).offer hT h0 id 0 []
    · rw [if_neg hik, upd_other _ _ hik]
      exact (h.qi i hi).later hT
end Go.Proofs.Ytdfhnbkmppdplaa
