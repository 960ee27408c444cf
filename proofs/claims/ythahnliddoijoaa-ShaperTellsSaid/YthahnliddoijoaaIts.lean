/-
  The reference's state in memory.
-/
import Derived.Test.YthahnliddoijoaaSame
import Derived.Test.YthahnliddoijoaaRefM
namespace Go.Proofs.Ythahnliddoijoaa
open Go.RowKit
/-- The cells of a frame that waits; its payload's slice stands beside it. -/
def itC (p : It × Value) : List Value := [.int .i64 p.1.time, .int .i64 p.1.vl, .int .i64 p.1.net, .int .i64 p.1.seq, p.2]
def itF (ps : List (It × Value)) : List Value := ps.flatMap itC
theorem itF_cons (p : It × Value) (ps : List (It × Value)) : itF (p :: ps) = itC p ++ itF ps := rfl
theorem itF_len : ∀ ps : List (It × Value), (itF ps).length = ps.length * 5
  | [] => rfl
  | p :: ps => by rw [itF_cons, List.length_append, itF_len ps, List.length_cons]; show 5 + _ = _; omega
theorem itF_app (ps qs : List (It × Value)) : itF (ps ++ qs) = itF ps ++ itF qs := by unfold itF; rw [List.flatMap_append]
theorem itF_drop : ∀ (ps : List (It × Value)) (k : Nat), (itF ps).drop (k * 5) = itF (ps.drop k)
  | ps, 0 => by simp
  | [], k + 1 => by simp [itF]
  | p :: ps, k + 1 => by
    rw [List.drop_succ_cons, ← itF_drop ps k, itF_cons]
    have : (k + 1) * 5 = (itC p).length + k * 5 := by show _ = 5 + _; omega
    rw [this, List.drop_append, List.drop_eq_nil_of_le (Nat.le_add_right _ _), List.nil_append, Nat.add_sub_cancel_left]
theorem itF_take : ∀ (ps : List (It × Value)) (k : Nat), (itF ps).take (k * 5) = itF (ps.take k)
  | ps, 0 => by simp [itF]
  | [], k + 1 => by simp [itF]
  | p :: ps, k + 1 => by
    rw [List.take_succ_cons, itF_cons, itF_cons, ← itF_take ps k]
    have : (k + 1) * 5 = (itC p).length + k * 5 := by show _ = 5 + _; omega
    rw [this, List.take_append, List.take_of_length_le (Nat.le_add_right _ _), Nat.add_sub_cancel_left]
theorem itF_at {ps : List (It × Value)} {i c : Nat} {p : It × Value} (hi : ps[i]? = some p) (hc : c < 5) : (itF ps)[i * 5 + c]? = (itC p)[c]? := by
  have hlt : i < ps.length := (List.getElem?_eq_some_iff.1 hi).1
  rw [← List.getElem?_drop, itF_drop, List.drop_eq_getElem_cons hlt]
  have : ps[i] = p := (List.getElem?_eq_some_iff.1 hi).2
  rw [this, itF_cons, List.getElem?_append_left (by show c < 5; exact hc)]
theorem itC_one {p : It × Value} (h : p.2.oneCell' = true) : ∀ u ∈ itC p, u.oneCell' = true := by
  intro u hu
  simp only [itC, List.mem_cons, List.not_mem_nil, or_false] at hu
  rcases hu with rfl | rfl | rfl | rfl | rfl
  · rfl
  · rfl
  · rfl
  · rfl
  · exact h
theorem Ints.swap {w w' : World} {A : Option Addr} {n : Nat} {zs : List Int} {F G F' : Nat → Prop} (h : Ints w A n zs F) (hk : Kept G w w') (hG : ∀ k, G k → F k) (hF : ∀ k, F' k → F k ∨ w.heap.size ≤ k) : Ints w' A n zs F' :=
  ⟨h.1, fun hn => by
    obtain ⟨b, off, h1, h2, h3, h4⟩ := h.2 hn
    exact ⟨b, off, h1, fun hf => by rcases hF b hf with h | h; exact h2 h; omega, Nat.lt_of_lt_of_le h3 hk.size, fun i z hz => (hk.cell (p := ⟨b, off + i, none⟩) h3 (fun hg => h2 (hG _ hg))).trans (h4 i z hz)⟩⟩
theorem Bts.swap {w w' : World} {A : Option Addr} {n : Nat} {zs : List Int} {F G F' : Nat → Prop} (h : Bts w A n zs F) (hk : Kept G w w') (hG : ∀ k, G k → F k) (hF : ∀ k, F' k → F k ∨ w.heap.size ≤ k) : Bts w' A n zs F' :=
  ⟨h.1, fun hn => by
    obtain ⟨b, off, h1, h2, h3, h4⟩ := h.2 hn
    exact ⟨b, off, h1, fun hf => by rcases hF b hf with h | h; exact h2 h; omega, Nat.lt_of_lt_of_le h3 hk.size, fun i z hz => (hk.cell (p := ⟨b, off + i, none⟩) h3 (fun hg => h2 (hG _ hg))).trans (h4 i z hz)⟩⟩
/-- The slice at A holds the frames ps, outside of the blocks that F names; each payload does too. -/
structure Its (w : World) (A : Option Addr) (n : Nat) (ps : List (It × Value)) (F : Nat → Prop) : Prop where
  len : ps.length = n
  at_ : 0 < n → ∃ b off, A = some ⟨b, off, none⟩ ∧ ¬ F b ∧ b < w.heap.size ∧ ∀ j u, (itF ps)[j]? = some u → w.cell? ⟨b, off + j, none⟩ = some u
  pay : ∀ p ∈ ps, ∃ dA dc, p.2 = .slice dA p.1.bytes.length dc ∧ Bts w dA p.1.bytes.length p.1.bytes F
theorem Its.swap {w w' : World} {A : Option Addr} {n : Nat} {ps : List (It × Value)} {F G F' : Nat → Prop} (h : Its w A n ps F) (hk : Kept G w w') (hG : ∀ k, G k → F k) (hF : ∀ k, F' k → F k ∨ w.heap.size ≤ k) : Its w' A n ps F' := by
  refine ⟨h.len, fun hn => ?_, fun p hp => ?_⟩
  · obtain ⟨b, off, h1, h2, h3, h4⟩ := h.at_ hn
    exact ⟨b, off, h1, fun hf => by rcases hF b hf with h | h; exact h2 h; omega, Nat.lt_of_lt_of_le h3 hk.size, fun i z hz => (hk.cell (p := ⟨b, off + i, none⟩) h3 (fun hg => h2 (hG _ hg))).trans (h4 i z hz)⟩
  · obtain ⟨dA, dc, h1, h2⟩ := h.pay p hp
    exact ⟨dA, dc, h1, h2.swap hk hG hF⟩
theorem Its.nil (w : World) (F : Nat → Prop) : Its w none 0 [] F := ⟨rfl, fun h => by omega, fun p hp => by cases hp⟩
theorem Its.reads {w : World} {A : Option Addr} {n : Nat} {ps : List (It × Value)} {F : Nat → Prop} (h : Its w A n ps F) : Reads w w.heap.size 5 A n (itF ps) := by
  refine ⟨by rw [itF_len, h.len], fun hn => ?_⟩
  obtain ⟨b, off, h1, h2, h3, h4⟩ := h.at_ hn
  exact ⟨_, h1, h3, fun j u hu => by rw [Addr.add_mid]; exact h4 j u hu⟩
theorem Its.one {w : World} {A : Option Addr} {n : Nat} {ps : List (It × Value)} {F : Nat → Prop} (h : Its w A n ps F) : ∀ u ∈ itF ps, u.oneCell' = true := by
  intro u hu
  unfold itF at hu
  rw [List.mem_flatMap] at hu
  obtain ⟨p, hp, hu⟩ := hu
  obtain ⟨dA, dc, h1, -⟩ := h.pay p hp
  exact itC_one (by rw [h1]; rfl) u hu
theorem Its.cells {w : World} {b off n : Nat} {A : Option Addr} {ps : List (It × Value)} {F : Nat → Prop} (h : Its w A n ps F) (hA : A = some ⟨b, off, none⟩) {i : Nat} {p : It × Value} (hi : ps[i]? = some p) :
    b < w.heap.size ∧ w.cell? ⟨b, off + i * 5, none⟩ = some (.int .i64 p.1.time) ∧ w.cell? ⟨b, off + i * 5 + 1, none⟩ = some (.int .i64 p.1.vl) ∧ w.cell? ⟨b, off + i * 5 + 2, none⟩ = some (.int .i64 p.1.net) ∧ w.cell? ⟨b, off + i * 5 + 3, none⟩ = some (.int .i64 p.1.seq) ∧ w.cell? ⟨b, off + i * 5 + 4, none⟩ = some p.2 := by
  simp only [Nat.add_assoc]
  have hlt : i < ps.length := (List.getElem?_eq_some_iff.1 hi).1
  obtain ⟨b', off', h1, _, h3, h4⟩ := h.at_ (by have := h.len; omega)
  rw [hA] at h1
  injection h1 with h1
  injection h1 with e1 e2 e3
  subst e1 e2
  exact ⟨h3, h4 _ _ (itF_at hi (c := 0) (by decide)), h4 _ _ (itF_at hi (c := 1) (by decide)), h4 _ _ (itF_at hi (c := 2) (by decide)), h4 _ _ (itF_at hi (c := 3) (by decide)), h4 _ _ (itF_at hi (c := 4) (by decide))⟩
/-- Out of a row of the call's own. -/
theorem Its.of_own {w : World} {base e : Nat} {A : Option Addr} {n c : Nat} {ps : List (It × Value)} {F : Nat → Prop} (h : w.ownsRow base e 5 (.slice A n c) n (itF ps)) (hl : ps.length = n) (hF : ∀ k, F k → k < base)
    (hp : ∀ p ∈ ps, ∃ dA dc, p.2 = .slice dA p.1.bytes.length dc ∧ Bts w dA p.1.bytes.length p.1.bytes F) : Its w A n ps F := by
  refine ⟨hl, fun hn => ?_, hp⟩
  obtain ⟨g, cap, hv, hb, hlt⟩ := h.form hn
  have hA : A = some ⟨g, 0, none⟩ := by injection hv
  subst hA
  refine ⟨g, 0, rfl, fun hf => ?_, hlt, fun j u hu => ?_⟩
  · have := hF g hf; omega
  · have := h.cells (g := g) rfl j u hu
    rwa [Addr.add_mid] at this
theorem Ints.of_own {w : World} {base e : Nat} {A : Option Addr} {n c : Nat} {zs : List Int} {F : Nat → Prop} (h : w.ownsRow base e 1 (.slice A n c) n (zs.map (Value.int .i64))) (hl : zs.length = n) (hF : ∀ k, F k → k < base) : Ints w A n zs F := by
  refine ⟨hl, fun hn => ?_⟩
  obtain ⟨g, cap, hv, hb, hlt⟩ := h.form hn
  have hA : A = some ⟨g, 0, none⟩ := by injection hv
  subst hA
  refine ⟨g, 0, rfl, fun hf => ?_, hlt, fun i z hz => ?_⟩
  · have := hF g hf; omega
  · have := h.cells (g := g) rfl i (.int .i64 z) (by rw [List.getElem?_map, hz]; rfl)
    rwa [Addr.add_mid] at this
def RSV (R : RS) (bA lA iA : Option Addr) (bc lc ic : Nat) : Value := .agg #[.slice bA R.bags.length bc, .int .i64 R.clock, .slice lA R.left.length lc, .slice iA R.items.length ic]
structure RAt (w : World) (R : RS) (bA lA iA : Option Addr) (ps : List (It × Value)) (F : Nat → Prop) : Prop where
  fst : ps.map Prod.fst = R.items
  bags : Ints w bA R.bags.length R.bags F
  left_ : Ints w lA R.left.length R.left F
  items : Its w iA R.items.length ps F
  b16 : R.bags.length ≤ 16
  l16 : R.left.length = R.bags.length
  c0 : 0 ≤ R.clock
  c1 : R.clock ≤ 1073741824
  bok : ∀ i, i < R.bags.length → 1 ≤ R.bags.getD i 0 ∧ R.bags.getD i 0 ≤ 12800
  lok : ∀ i, i < R.bags.length → -1 ≤ R.left.getD i 0 ∧ R.left.getD i 0 ≤ 1073741824
  vls : ∀ x ∈ R.items, 0 ≤ x.vl ∧ x.vl < R.bags.length
  tms : ∀ x ∈ R.items, 0 ≤ x.time ∧ x.time ≤ 1073741824
  few : R.items.length ≤ 1000
theorem RAt.swap {w w' : World} {R : RS} {bA lA iA : Option Addr} {ps : List (It × Value)} {F G F' : Nat → Prop} (h : RAt w R bA lA iA ps F) (hk : Kept G w w') (hG : ∀ k, G k → F k) (hF : ∀ k, F' k → F k ∨ w.heap.size ≤ k) : RAt w' R bA lA iA ps F' :=
  ⟨h.fst, h.bags.swap hk hG hF, h.left_.swap hk hG hF, h.items.swap hk hG hF, h.b16, h.l16, h.c0, h.c1, h.bok, h.lok, h.vls, h.tms, h.few⟩
theorem RAt.below {w w' : World} {R : RS} {bA lA iA : Option Addr} {ps : List (It × Value)} {F : Nat → Prop} (h : RAt w R bA lA iA ps F) (hk : Below w.heap.size w w') : RAt w' R bA lA iA ps F :=
  h.swap (G := fun _ => False) (.of_below hk) (fun _ h => h.elim) (fun _ h => .inl h)
theorem RAt.pair {w : World} {R : RS} {bA lA iA : Option Addr} {ps : List (It × Value)} {F : Nat → Prop} (h : RAt w R bA lA iA ps F) {i : Nat} {x : It} (hi : R.items[i]? = some x) : ∃ d, ps[i]? = some (x, d) := by
  rw [← h.fst, List.getElem?_map] at hi
  cases hp : ps[i]? with
  | none => rw [hp] at hi; cases hi
  | some p =>
    rw [hp] at hi
    injection hi with hi
    obtain ⟨x', d⟩ := p
    simp only at hi
    subst hi
    exact ⟨d, rfl⟩
end Go.Proofs.Ythahnliddoijoaa
