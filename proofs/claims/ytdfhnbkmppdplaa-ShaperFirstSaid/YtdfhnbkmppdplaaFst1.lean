/-
  ShaperFirst: the plain law.
-/
import Derived.Test.YtdfhnbkmppdplaaBags
namespace Go.Proofs.Ytdfhnbkmppdplaa
open Go.RowKit
theorem AS.offer_ok {S : AS} {t vl net seq : Int} {bs : List Int} (hh : S.has vl = true) (hl : S.late t = false) (hf : (S.at vl.toNat).items.length ≠ 16) : S.offer t vl net seq bs = (({ S with now := t } : AS).put vl.toNat ⟨t, vl, net, seq, bs⟩, 0) := by
  unfold AS.offer; rw [hh, hl]; simp only [Bool.not_true, Bool.or_false, Bool.false_eq_true, if_false]; rw [if_neg hf]
theorem AS.has_nat {S : AS} {k : Nat} (hk : k < S.qs.length) : S.has (k : Int) = true := by unfold AS.has; simp; omega
theorem AS.late_mk {S : AS} {t : Int} (h1 : S.now ≤ t) (h2 : t ≤ 1073741824) : S.late t = false := by unfold AS.late; simp; omega
/-- The only queue that holds a frame is next. -/
theorem AS.best_only {S : AS} {k : Nat} (hk : k < S.qs.length) (hn : (S.at k).items ≠ []) (ho : ∀ i, i < S.qs.length → i ≠ k → (S.at i).items = []) : S.best = some k := by
  rcases S.bestTo_spec S.qs.length with ⟨_, h⟩ | ⟨j, h1, hj, hjn, _⟩
  · exact absurd (h k hk) hn
  · by_cases hjk : j = k
    · subst hjk; exact h1
    · exact absurd (ho j hj hjk) hjn
/-- Round 0, before link v: what is above v has left. -/
structure R0 (bs R : List Int) (v : Nat) (S : AS) : Prop where
  len : S.qs.length = bs.length
  rl : R.length = bs.length
  at_ : ∀ i, i < bs.length → S.at i = ⟨[], bs.getD i 0, if i < v then 0 else R.getD i 0⟩
theorem set_getD (R : List Int) (v i : Nat) (x : Int) (hv : v < R.length) : (R.set v x).getD i 0 = if i = v then x else R.getD i 0 := by
  simp only [List.getD_eq_getElem?_getD, List.getElem?_set]
  by_cases h : i = v
  · subst h; simp [hv]
  · rw [if_neg (by omega), if_neg h]
theorem r0_step {bs R : List Int} {v : Nat} {S : AS} (h : R0 bs R (v + 1) S) (hv : v < bs.length) (t : Int) (h0 : S.now ≤ t) (h00 : 0 ≤ t) (h1 : t ≤ 1073741824) :
    ∃ S1 S2, S.offer t v 0 0 [] = (S1, 0) ∧ S1.next t = (S2, some ⟨t, v, 0, 0, []⟩, 0) ∧ R0 bs (R.set v (t + bs.getD v 0)) v S2 ∧ S2.now = t := by
  have hvl : v < S.qs.length := by rw [h.len]; exact hv
  have hav := h.at_ v hv
  rw [if_pos (by omega)] at hav
  refine ⟨_, ({ ({ S with now := t } : AS).put v ⟨t, v, 0, 0, []⟩ with now := t } : AS).get v t, AS.offer_ok (AS.has_nat hvl) (AS.late_mk h0 h1) (by rw [Int.toNat_natCast, hav]; exact (by decide : (0 : Nat) ≠ 16)), ?_, ?_, rfl⟩
  · rw [Int.toNat_natCast]
    have hlen : (({ S with now := t } : AS).put v ⟨t, v, 0, 0, []⟩).qs.length = S.qs.length := AS.len_put _ _ _
    have hat : ∀ i, (({ S with now := t } : AS).put v ⟨t, v, 0, 0, []⟩).at i = if i = v then ⟨[⟨t, v, 0, 0, []⟩], bs.getD v 0, 0⟩ else S.at i := fun i => by
      rw [AS.at_put (S := { S with now := t }) hvl]
      show (if i = v then ({ S.at v with items := (S.at v).items ++ [⟨t, v, 0, 0, []⟩] } : AQ) else S.at i) = _
      rw [hav]; rfl
    have hb : (({ S with now := t } : AS).put v ⟨t, v, 0, 0, []⟩).best = some v := AS.best_only (by rw [hlen]; exact hvl) (by rw [hat, if_pos rfl]; simp) (fun i hi hne => by
      rw [hat, if_neg hne]
      rw [hlen, h.len] at hi
      rw [h.at_ i hi])
    have hl : (({ S with now := t } : AS).put v ⟨t, v, 0, 0, []⟩).late t = false := AS.late_mk (Int.le_refl _) h1
    unfold AS.next
    rw [hl, hb]
    simp only [Bool.false_eq_true, if_false]
    rw [hat, if_pos rfl]
    have hr : (⟨[⟨t, v, 0, 0, []⟩], bs.getD v 0, 0⟩ : AQ).rel = t := by
      show (if t < 0 then (0 : Int) else t) = t
      rw [if_neg (by omega)]
    rw [hr, if_neg (by omega)]
    rfl
  · have hlen : (({ S with now := t } : AS).put v ⟨t, v, 0, 0, []⟩).qs.length = S.qs.length := AS.len_put _ _ _
    refine ⟨?_, by rw [List.length_set]; exact h.rl, fun i hi => ?_⟩
    · rw [AS.len_get]; exact hlen.trans h.len
    · rw [AS.at_get (S := { ({ S with now := t } : AS).put v ⟨t, v, 0, 0, []⟩ with now := t }) (by show v < (({ S with now := t } : AS).put v ⟨t, v, 0, 0, []⟩).qs.length; rw [hlen]; exact hvl), set_getD R v i _ (by rw [h.rl]; exact hv)]
      have e : ∀ j, ({ ({ S with now := t } : AS).put v ⟨t, v, 0, 0, []⟩ with now := t } : AS).at j = if j = v then ⟨[⟨t, v, 0, 0, []⟩], bs.getD v 0, 0⟩ else S.at j := fun j => by
        show (({ S with now := t } : AS).put v ⟨t, v, 0, 0, []⟩).at j = _
        rw [AS.at_put (S := { S with now := t }) hvl]
        show (if j = v then ({ S.at v with items := (S.at v).items ++ [⟨t, v, 0, 0, []⟩] } : AQ) else S.at j) = _
        rw [hav]; rfl
      by_cases hiv : i = v
      · subst hiv
        rw [if_pos rfl, if_pos rfl, if_neg (by omega), e, if_pos rfl]
        rfl
      · rw [if_neg hiv, if_neg hiv, e, if_neg hiv, h.at_ i hi]
        congr 1
        by_cases h2 : i < v
        · rw [if_pos h2, if_pos (by omega)]
        · rw [if_neg h2, if_neg (by omega)]
/-- Round 1, before link v: each link above v has one frame, whose release is known. -/
structure R1 (n : Nat) (R : List Int) (v : Nat) (S : AS) : Prop where
  len : S.qs.length = n
  rl : R.length = n
  none_ : ∀ i, i < n → i < v → (S.at i).items = [] ∧ (S.at i).from_ = R.getD i 0
  one : ∀ i, i < n → v ≤ i → (∃ x, (S.at i).items = [x] ∧ x.vl = i) ∧ (S.at i).rel = R.getD i 0
theorem r1_start {bs R : List Int} {S : AS} (h : R0 bs R 0 S) : R1 bs.length R bs.length S :=
  ⟨h.len, h.rl, fun i hi _ => by rw [h.at_ i hi]; exact ⟨rfl, by rw [if_neg (by omega)]⟩, fun i hi hv => by omega⟩
theorem r1_step {n : Nat} {R : List Int} {v : Nat} {S : AS} (h : R1 n R (v + 1) S) (hv : v < n) (t : Int) (h0 : S.now ≤ t) (h1 : t ≤ 1073741824) :
    ∃ S1, S.offer t v 0 0 [] = (S1, 0) ∧ R1 n (R.set v (if t < R.getD v 0 then R.getD v 0 else t)) v S1 ∧ S1.now = t := by
  have hvl : v < S.qs.length := by rw [h.len]; exact hv
  obtain ⟨e1, e2⟩ := h.none_ v hv (by omega)
  refine ⟨_, AS.offer_ok (AS.has_nat hvl) (AS.late_mk h0 h1) (by rw [Int.toNat_natCast, e1]; exact (by decide : (0 : Nat) ≠ 16)), ?_, rfl⟩
  rw [Int.toNat_natCast]
  have hat : ∀ i, (({ S with now := t } : AS).put v ⟨t, v, 0, 0, []⟩).at i = if i = v then { (S.at v) with items := [⟨t, v, 0, 0, []⟩] } else S.at i := fun i => by
    rw [AS.at_put (S := { S with now := t }) hvl]
    show (if i = v then ({ S.at v with items := (S.at v).items ++ [⟨t, v, 0, 0, []⟩] } : AQ) else S.at i) = _
    rw [e1]; rfl
  refine ⟨by rw [AS.len_put]; exact h.len, by rw [List.length_set]; exact h.rl, fun i hi hiv => ?_, fun i hi hiv => ?_⟩
  · rw [hat, if_neg (by omega), set_getD R v i _ (by rw [h.rl]; exact hv), if_neg (by omega)]
    exact h.none_ i hi (by omega)
  · rw [hat, set_getD R v i _ (by rw [h.rl]; exact hv)]
    by_cases hiv2 : i = v
    · subst hiv2
      rw [if_pos rfl, if_pos rfl]
      refine ⟨⟨_, rfl, rfl⟩, ?_⟩
      show (if t < (S.at i).from_ then (S.at i).from_ else t) = _
      rw [e2]
    · rw [if_neg hiv2, if_neg hiv2]
      exact h.one i hi (by omega)
/-- Loop 3: a link's frame has left (-1), or waits with a known release. -/
structure R3 (n : Nat) (R : List Int) (S : AS) : Prop where
  len : S.qs.length = n
  rl : R.length = n
  at_ : ∀ i, i < n → (R.getD i 0 = -1 ∧ (S.at i).items = []) ∨ (0 ≤ R.getD i 0 ∧ (∃ x, (S.at i).items = [x] ∧ x.vl = i) ∧ (S.at i).rel = R.getD i 0)
/-- The inner loop's search, mirrored. -/
def bestR (R : List Int) : Nat → Int
  | 0 => -1
  | k + 1 => if 0 ≤ R.getD k 0 ∧ (bestR R k < 0 ∨ R.getD k 0 < R.getD (bestR R k).toNat 0) then k else bestR R k
def optI : Option Nat → Int
  | none => -1
  | some k => k
theorem best_mirror {n : Nat} {R : List Int} {S : AS} (h : R3 n R S) (k : Nat) (hk : k ≤ n) : bestR R k = optI (S.bestTo k) := by
  induction k with
  | zero => rfl
  | succ k ih =>
    have ihk := ih (by omega)
    unfold bestR AS.bestTo AS.step
    rw [ihk]
    rcases h.at_ k (by omega) with ⟨h1, h2⟩ | ⟨h1, ⟨x, h2, _⟩, h3⟩
    · rw [if_neg (by rw [h1]; omega), h2]; rfl
    · rw [h2]
      simp only [List.isEmpty_cons, Bool.false_eq_true, if_false]
      rcases S.bestTo_spec k with ⟨hb, _⟩ | ⟨j, hb, hj, hjn, _⟩
      · rw [hb, if_pos ⟨h1, .inl (by decide)⟩]; rfl
      · rw [hb]
        have hj3 : (S.at j).rel = R.getD j 0 := by
          rcases h.at_ j (by omega) with ⟨_, h5⟩ | ⟨_, _, h5⟩
          · exact absurd h5 hjn
          · exact h5
        show (if 0 ≤ R.getD k 0 ∧ ((j : Int) < 0 ∨ R.getD k 0 < R.getD ((j : Int)).toNat 0) then (k : Int) else (j : Int)) = optI (if (S.at k).rel < (S.at j).rel then some k else some j)
        rw [h3, hj3, Int.toNat_natCast]
        by_cases hl : R.getD k 0 < R.getD j 0
        · have c : 0 ≤ R.getD k 0 ∧ ((j : Int) < 0 ∨ R.getD k 0 < R.getD j 0) := ⟨h1, .inr hl⟩
          rw [if_pos hl, if_pos c]; rfl
        · have c : ¬ (0 ≤ R.getD k 0 ∧ ((j : Int) < 0 ∨ R.getD k 0 < R.getD j 0)) := by omega
          rw [if_neg hl, if_neg c]; rfl
theorem r3_wait {n : Nat} {R : List Int} {S : AS} (h : R3 n R S) {k : Nat} (hb : S.best = some k) (u : Int) (hu : S.now ≤ u) (u1 : u ≤ 1073741824) (hl : u < R.getD k 0) : S.next u = ({ S with now := u }, none, 0) := by
  obtain ⟨hk, hne⟩ := AS.best_some hb
  rw [h.len] at hk
  rcases h.at_ k hk with ⟨_, h2⟩ | ⟨_, _, h3⟩
  · exact absurd h2 hne
  · unfold AS.next
    rw [AS.late_mk hu u1, hb]
    simp only [Bool.false_eq_true, if_false]
    rw [h3, if_pos hl]
theorem r3_pop {n : Nat} {R : List Int} {S : AS} (h : R3 n R S) {k : Nat} (hb : S.best = some k) (u : Int) (hu : S.now ≤ u) (u1 : u ≤ 1073741824) (hl : R.getD k 0 ≤ u) :
    ∃ S1 x, S.next u = (S1, some x, 0) ∧ x.vl = k ∧ R3 n (R.set k (-1)) S1 ∧ S1.now = u := by
  obtain ⟨hk, hne⟩ := AS.best_some hb
  have hkn : k < n := by rw [← h.len]; exact hk
  rcases h.at_ k hkn with ⟨_, h2⟩ | ⟨_, ⟨x, hx, hxv⟩, h3⟩
  · exact absurd h2 hne
  · refine ⟨({ S with now := u } : AS).get k u, x, ?_, hxv, ⟨by rw [AS.len_get]; exact h.len, by rw [List.length_set]; exact h.rl, fun i hi => ?_⟩, rfl⟩
    · unfold AS.next
      rw [AS.late_mk hu u1, hb]
      simp only [Bool.false_eq_true, if_false]
      rw [h3, if_neg (by omega), hx]; rfl
    · rw [AS.at_get (S := { S with now := u }) hk, set_getD R k i _ (by rw [h.rl]; exact hkn)]
      by_cases hik : i = k
      · subst hik
        rw [if_pos rfl, if_pos rfl]
        refine .inl ⟨rfl, ?_⟩
        show (S.at i).items.tail = []
        rw [hx]; rfl
      · rw [if_neg hik, if_neg hik]
        exact h.at_ i hi
theorem r1_r3 {n : Nat} {R : List Int} {S : AS} (h : R1 n R 0 S) (hR : ∀ i, i < n → 0 ≤ R.getD i 0) : R3 n R S :=
  ⟨h.len, h.rl, fun i hi => .inr ⟨hR i hi, (h.one i hi (by omega)).1, (h.one i hi (by omega)).2⟩⟩
theorem r3_now {n : Nat} {R : List Int} {S : AS} (h : R3 n R S) (t : Int) : R3 n R { S with now := t } := ⟨h.len, h.rl, fun i hi => h.at_ i hi⟩
end Go.Proofs.Ytdfhnbkmppdplaa
