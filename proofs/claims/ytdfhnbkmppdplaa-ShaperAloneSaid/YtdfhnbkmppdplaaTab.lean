/-
  A slice of slices of events of the call's own.
-/
import Derived.Test.YtdfhnbkmppdplaaSim
import Derived.Deep.AppendLies
namespace Go.Proofs.Ytdfhnbkmppdplaa
open Go.RowKit
theorem evInfo : (Try.prog.info? 33).map (fun i => (i.zero, i.size, i.bytes)) = some (some (.agg #[.int .i64 0, .int .i64 0]), 2, 16) := by kernel_rfl
theorem rowInfo18 : (Try.prog.info? 31).map (fun i => (i.zero, i.size, i.bytes)) = some (some (.slice none 0 0), 1, 24) := by kernel_rfl
def evs (l : List Ev) : List Value := l.flatMap fun e => [.int .i64 e.1, .int .i64 e.2]
theorem evs_snoc (l : List Ev) (e : Ev) : evs l ++ [.int .i64 e.1, .int .i64 e.2] = evs (l ++ [e]) := by unfold evs; simp
theorem evs_len (l : List Ev) : (evs l).length = l.length * 2 := by
  induction l with
  | nil => rfl
  | cons x l ih => show ([_, _] ++ evs l).length = _; rw [List.length_append, ih]; simp only [List.length_cons, List.length_nil]; omega
theorem evs_at : ∀ (l : List Ev) (k : Nat) (e : Ev), l[k]? = some e → (evs l)[2 * k]? = some (.int .i64 e.1) ∧ (evs l)[2 * k + 1]? = some (.int .i64 e.2)
  | [], k, e, h => by simp at h
  | x :: l, 0, e, h => by injection h with h; subst h; exact ⟨rfl, rfl⟩
  | x :: l, k + 1, e, h => by
    have ih := evs_at l k e (by simpa using h)
    show (_ :: _ :: evs l)[2 * (k + 1)]? = _ ∧ (_ :: _ :: evs l)[2 * (k + 1) + 1]? = _
    have e1 : 2 * (k + 1) = 2 * k + 1 + 1 := by omega
    rw [e1]
    simp only [List.getElem?_cons_succ]
    exact ih
def tcells (V : Nat → Value) (n : Nat) : List Value := (List.range n).map V
theorem tcells_at (V : Nat → Value) (n i : Nat) (h : i < n) : (tcells V n)[i]? = some (V i) := by unfold tcells; simp [h]
theorem tcells_set (V : Nat → Value) (n i : Nat) (v : Value) : (tcells V n).toArray.setIfInBounds i v = (tcells (upd V i v) n).toArray := by
  unfold tcells upd
  refine Array.ext (by simp) fun j h1 h2 => ?_
  simp only [List.setIfInBounds_toArray, List.getElem_toArray, List.getElem_set]
  by_cases hj : i = j
  · subst hj; simp
  · have hj2 : ¬ j = i := fun e => hj e.symm
    simp [hj, hj2]
/-- A table at block t: row i holds the events L i; its blocks are among Q. -/
structure TB (w : World) (B t n : Nat) (L : Nat → List Ev) (Q : Nat → Prop) (V : Nat → Value) : Prop where
  blk : w.heap[t]? = some (.cells (tcells V n).toArray 31 (0, 0))
  row : ∀ i, i < n → w.ownsRow B 33 2 (V i) (L i).length (evs (L i))
  foot : ∀ i, i < n → ∀ g, (V i).ownBlock = some g → Q g ∧ g ≠ t
  sep : ∀ i j, i < n → j < n → ∀ g, (V i).ownBlock = some g → (V j).ownBlock = some g → i = j
  qt : Q t
  low : ∀ k, Q k → B ≤ k
  inn : ∀ k, Q k → k < w.heap.size
def Tab (w : World) (B t n : Nat) (L : Nat → List Ev) (Q : Nat → Prop) : Prop := ∃ V, TB w B t n L Q V
theorem own_same {w w' : World} {base : Nat} {e : TypeId} {size : Nat} {v : Value} {n : Nat} {xs : List Value} (h : w.ownsRow base e size v n xs) (hb : ∀ g, v.ownBlock = some g → w'.heap[g]? = w.heap[g]?) : w'.ownsRow base e size v n xs := by
  obtain ⟨h1, h2⟩ := h
  refine ⟨h1, ?_⟩
  rcases h2 with h2 | ⟨g, cap, cur, hv, hg, hh, r⟩
  · exact .inl h2
  · exact .inr ⟨g, cap, cur, hv, hg, (hb g (by rw [hv]; rfl)).trans hh, r⟩
theorem TB.frame {w w' : World} {B t n : Nat} {L : Nat → List Ev} {Q F : Nat → Prop} {V : Nat → Value} (h : TB w B t n L Q V) (hk : Kept F w w') (hF : ∀ k, Q k → ¬ F k) : TB w' B t n L Q V :=
  ⟨(hk.block t (h.inn t h.qt) (hF t h.qt)).trans h.blk, fun i hi => own_same (h.row i hi) (fun g hg => hk.block g (h.inn g (h.foot i hi g hg).1) (hF g (h.foot i hi g hg).1)), h.foot, h.sep, h.qt, h.low, fun k hq => Nat.lt_of_lt_of_le (h.inn k hq) hk.size⟩
theorem Tab.frame {w w' : World} {B t n : Nat} {L : Nat → List Ev} {Q F : Nat → Prop} (h : Tab w B t n L Q) (hk : Kept F w w') (hF : ∀ k, Q k → ¬ F k) : Tab w' B t n L Q := by
  obtain ⟨V, h⟩ := h; exact ⟨V, h.frame hk hF⟩
theorem Tab.below {w w' : World} {B t n : Nat} {L : Nat → List Ev} {Q : Nat → Prop} (h : Tab w B t n L Q) (hk : Below w.heap.size w w') : Tab w' B t n L Q := h.frame (F := fun _ => False) (.of_below hk) (fun _ _ h => h)
theorem TB.cell {w : World} {B t n : Nat} {L : Nat → List Ev} {Q : Nat → Prop} {V : Nat → Value} (h : TB w B t n L Q V) {i : Nat} (hi : i < n) : w.cell? ⟨t, i, none⟩ = some (V i) := by
  rw [cell_of_row w t i _ _ _ h.blk, List.getElem?_toArray, tcells_at V n i hi]
theorem TB.frozen {w : World} {B t n : Nat} {L : Nat → List Ev} {Q : Nat → Prop} {V : Nat → Value} (h : TB w B t n L Q V) (i : Nat) : w.frozen? ⟨t, i, none⟩ = false := frozen_of_row w t i _ _ h.blk
/-- An event is appended to a row, and the row stored back. -/
theorem TB.push {w w1 : World} {B t n : Nat} {L : Nat → List Ev} {Q : Nat → Prop} {V : Nat → Value} (h : TB w B t n L Q V) {i : Nat} (hi : i < n) (e : Ev) {g cap m : Nat} {xs : List Value} (hm : m = (L i).length + 1) (hxs : xs = evs (L i ++ [e]))
    (hown : w1.ownsRow B 33 2 (.slice (some ⟨g, 0, none⟩) m cap) m xs) (hgr : w.grownBy w1 (V i).ownBlock) (hat : (V i).ownBlock = some g ∨ w.heap.size ≤ g) (hlt : g < w1.heap.size) (hB : B ≤ w.heap.size) :
    TB (w1.setCell ⟨t, i, none⟩ (.slice (some ⟨g, 0, none⟩) m cap)) B t n (upd L i (L i ++ [e])) (fun k => Q k ∨ k = g) (upd V i (.slice (some ⟨g, 0, none⟩) m cap)) ∧ Kept Q w (w1.setCell ⟨t, i, none⟩ (.slice (some ⟨g, 0, none⟩) m cap)) := by
  subst hm hxs
  have ht := h.inn t h.qt
  have htg : g ≠ t := by
    rcases hat with hat | hat
    · exact (h.foot i hi g hat).2
    · omega
  have hbt : w1.heap[t]? = w.heap[t]? := hgr.block t ht (fun e => (h.foot i hi t e.symm).2 rfl)
  have hother : ∀ k, k ≠ t → (w1.setCell ⟨t, i, none⟩ (.slice (some ⟨g, 0, none⟩) ((L i).length + 1) cap)).heap[k]? = w1.heap[k]? := fun k hk => Below.heap_setCell _ _ _ _ (fun e => hk e)
  have hsz : (w1.setCell ⟨t, i, none⟩ (.slice (some ⟨g, 0, none⟩) ((L i).length + 1) cap)).heap.size = w1.heap.size := by simp [World.setCell]
  refine ⟨⟨?_, fun j hj => ?_, fun j hj k hk => ?_, fun j j' hj hj' k hk hk' => ?_, .inl h.qt, fun k hk => ?_, fun k hk => ?_⟩, ?_⟩
  · simp only [World.setCell, Array.getElem?_modify]
    rw [if_pos trivial, hbt, h.blk]
    show some (Obj.cells ((tcells V n).toArray.setIfInBounds i _) _ _) = _
    rw [tcells_set]
  · by_cases hji : j = i
    · subst hji
      rw [upd_same, upd_same]
      have e1 : (L j ++ [e]).length = (L j).length + 1 := by simp
      rw [e1]
      exact own_same hown (fun k hk => hother k (by injection hk with hk; subst hk; exact htg))
    · rw [upd_other _ _ hji, upd_other _ _ hji]
      refine own_same (h.row j hj) (fun k hk => ?_)
      rw [hother k (h.foot j hj k hk).2]
      exact hgr.block k (h.inn k (h.foot j hj k hk).1) (fun e => hji (h.sep j i hj hi k hk e.symm))
  · by_cases hji : j = i
    · subst hji
      rw [upd_same] at hk
      injection hk with hk; subst hk
      exact ⟨.inr rfl, htg⟩
    · rw [upd_other _ _ hji] at hk
      exact ⟨.inl (h.foot j hj k hk).1, (h.foot j hj k hk).2⟩
  · have key : ∀ a, a < n → a ≠ i → (V a).ownBlock = some g → False := fun a ha hai hag => by
      rcases hat with hat | hat
      · exact hai (h.sep a i ha hi g hag hat)
      · have := h.inn g (h.foot a ha g hag).1; omega
    by_cases hji : j = i
    · by_cases hji' : j' = i
      · omega
      · subst hji
        rw [upd_same] at hk
        injection hk with hk; subst hk
        rw [upd_other _ _ hji'] at hk'
        exact (key j' hj' hji' hk').elim
    · rw [upd_other _ _ hji] at hk
      by_cases hji' : j' = i
      · subst hji'
        rw [upd_same] at hk'
        injection hk' with hk'; subst hk'
        exact (key j hj hji hk).elim
      · rw [upd_other _ _ hji'] at hk'
        exact h.sep j j' hj hj' k hk hk'
  · rcases hk with hk | rfl
    · exact h.low k hk
    · rcases hat with hat | hat
      · exact h.low _ (h.foot i hi _ hat).1
      · omega
  · rw [hsz]
    rcases hk with hk | rfl
    · exact Nat.lt_of_lt_of_le (h.inn k hk) hgr.size
    · exact hlt
  · have hk1 : Kept Q w w1 := ⟨hgr.os, hgr.tape, hgr.output, hgr.size, fun k hk hq => hgr.block k hk (fun e => hq (h.foot i hi k e.symm).1)⟩
    exact hk1.setCell (p := ⟨t, i, none⟩) (.inl h.qt) _
theorem news2 (W : World) (t : TypeId) (x y : Value) : ∀ j u, [x, y][j]? = some u → (W.alloc (.cells #[x, y] t)).drew.cell? ((⟨W.heap.size, 0, none⟩ : Addr).add j) = some u :=
  World.news_of_block (w := (W.alloc (.cells #[x, y] t)).drew) (cs := #[x, y]) (heap_alloc_new W _)
theorem TB.after {w w1 : World} {B t n : Nat} {L : Nat → List Ev} {Q : Nat → Prop} {V : Nat → Value} (h : TB w B t n L Q V) {i : Nat} (hi : i < n) (hgr : w.grownBy w1 (V i).ownBlock) : w1.cell? ⟨t, i, none⟩ = some (V i) ∧ w1.frozen? ⟨t, i, none⟩ = false ∧ t < w1.heap.size := by
  have hb : w1.heap[t]? = w.heap[t]? := hgr.block t (h.inn t h.qt) (fun e => (h.foot i hi t e.symm).2 rfl)
  exact ⟨(World.cell?_of_block (a := ⟨t, i, none⟩) hb).trans (h.cell hi), (World.frozen?_of_block (a := ⟨t, i, none⟩) hb).trans (h.frozen i), Nat.lt_of_lt_of_le (h.inn t h.qt) hgr.size⟩
theorem TB.alloc {w : World} {B t n : Nat} {L : Nat → List Ev} {Q : Nat → Prop} {V : Nat → Value} (h : TB w B t n L Q V) (o : Obj) : TB (w.alloc o) B t n L Q V := h.frame (F := fun _ => False) ((Kept.refl _ w).alloc o) (fun _ _ h => h)
theorem TB.drew {w : World} {B t n : Nat} {L : Nat → List Ev} {Q : Nat → Prop} {V : Nat → Value} (h : TB w B t n L Q V) : TB w.drew B t n L Q V := h.frame (F := fun _ => False) ((Kept.refl _ w).drew) (fun _ _ h => h)
theorem far3 {W w3 : World} {o : Obj} {row : Option Nat} {p : Addr} {v : Value} (hg : ((W.alloc o).drew).grownBy w3 row) (hp : W.cell? p = some v) (hne : some p.block ≠ row) : w3.cell? p = some v := by
  have hl := World.block_lt_of_cell? W p hp
  rw [hg.cell_far p (by show p.block < (W.alloc o).heap.size; simp; omega) hne]
  exact (World.cell?_alloc_lt W o p hl).trans hp
theorem TB.event {w : World} {B t n : Nat} {L : Nat → List Ev} {Q : Nat → Prop} {V : Nat → Value} (h : TB w B t n L Q V) {i : Nat} (hi : i < n) : ∃ A cap, V i = .slice A (L i).length cap ∧ ∀ k e, (L i)[k]? = some e → ∃ g, A = some ⟨g, 0, none⟩ ∧ w.cell? ⟨g, 2 * k, none⟩ = some (.int .i64 e.1) ∧ w.cell? ⟨g, 2 * k + 1, none⟩ = some (.int .i64 e.2) := by
  rcases (h.row i hi).2 with ⟨hv, hn⟩ | ⟨g, cap, cur, hv, hg, hh, hc, hm, hs, ht⟩
  · refine ⟨none, 0, by rw [hv, hn], fun k e hk => ?_⟩
    have := (List.getElem?_eq_some_iff.1 hk).1
    omega
  · refine ⟨_, cap, hv, fun k e hk => ⟨g, rfl, ?_⟩⟩
    obtain ⟨e1, e2⟩ := evs_at (L i) k e hk
    rw [← ht] at e1 e2
    have hkl := (List.getElem?_eq_some_iff.1 hk).1
    rw [List.getElem?_take_of_lt (by omega)] at e1 e2
    constructor
    · rw [cell_of_row w g _ _ _ _ hh]; simpa using e1
    · rw [cell_of_row w g _ _ _ _ hh]; simpa using e2
/-- A table that 'make' has made. -/
theorem Tab.made {w : World} {B n : Nat} (hB : B ≤ w.heap.size) : Tab (w.alloc (.cells (tcells (fun _ => .slice none 0 0) n).toArray 31)) B w.heap.size n (fun _ => []) (fun k => k = w.heap.size) :=
  ⟨fun _ => .slice none 0 0, heap_alloc_new w _, (fun _ _ => World.ownsRow_nil _ _ _ _), (fun _ _ g hg => by cases hg), (fun _ _ _ _ g hg => by cases hg), rfl, (fun k hk => by subst hk; exact hB), (fun k hk => by subst hk; simp)⟩
end Go.Proofs.Ytdfhnbkmppdplaa
