/-
  run: the plain law, and what it keeps in memory.
-/
import Derived.Test.YtdfhnbkmppdplaaDrain
namespace Go.Proofs.Ytdfhnbkmppdplaa
open Go.RowKit
def tm60 (gs : List Int) : Nat → Int
  | 0 => 0
  | k + 1 => tm60 gs k + pick (gs.getD k 0) 60
def vlo (ls : List Int) (n k : Nat) : Nat := if k < ls.length then (pick (ls.getD k 0) n).toNat else 0
/-- When link i is offered a frame, among the first k offers. -/
def offd (gs ls : List Int) (n i : Nat) : Nat → List Int
  | 0 => []
  | k + 1 => if vlo ls n k = i then offd gs ls n i k ++ [tm60 gs (k + 1)] else offd gs ls n i k
theorem tm60_bd (gs : List Int) (k : Nat) : 0 ≤ tm60 gs k ∧ tm60 gs k ≤ k * 60 := by
  induction k with
  | zero => exact ⟨Int.le_refl _, by simp [tm60]⟩
  | succ k ih => have := pick_bd (gs.getD k 0) 60 (by decide); unfold tm60; omega
theorem tm60_step (gs : List Int) (k : Nat) : tm60 gs k ≤ tm60 gs (k + 1) := by have := pick_bd (gs.getD k 0) 60 (by decide); show _ ≤ tm60 gs k + _; omega
theorem vlo_lt (ls : List Int) (n k : Nat) (hn : 1 ≤ n) : vlo ls n k < n := by
  unfold vlo
  split
  · have := pick_bd (ls.getD k 0) n (by omega); omega
  · omega
/-- The offers so far are those that were taken. -/
structure Took (bs gs ls : List Int) (O : Nat → List Ev) (k : Nat) : Prop where
  acc : ∀ i, i < bs.length → (O i).map Prod.fst = accL (bs.getD i 0) (offd gs ls bs.length i k)
  len : ∀ i, i < bs.length → (O i).length ≤ k
structure Fin (bs gs ls : List Int) (O L : Nat → List Ev) : Prop where
  times : ∀ i, i < bs.length → (L i).map Prod.fst = shapeL (bs.getD i 0) ((O i).map Prod.fst)
  ids : ∀ i, i < bs.length → (O i).map Prod.snd = (L i).map Prod.snd
  acc : ∀ i, i < bs.length → (O i).map Prod.fst = accL (bs.getD i 0) (offd gs ls bs.length i (min gs.length 60))
  len : ∀ i, i < bs.length → (O i).length ≤ 60
  ord : ∀ i, i < bs.length → ((O i).map Prod.fst).Pairwise (· ≤ ·)
  pos : ∀ i, i < bs.length → ∀ x ∈ O i, 0 ≤ x.1 ∧ x.1 ≤ 3600
theorem SI.new (bs : List Int) (hb : ∀ b ∈ bs, 1 ≤ b ∧ b ≤ 200) : SI bs (AS.new bs) (fun _ => []) (fun _ => []) 0 0 0 := by
  refine ⟨AS.new_len bs, fun i hi => ?_, Int.le_refl _⟩
  rw [AS.new_at bs i hi]
  have := hb (bs.getD i 0) (by rw [List.getD_eq_getElem?_getD, List.getElem?_eq_getElem hi]; exact List.getElem_mem _)
  exact ⟨rfl, this.1, this.2, ⟨[], rfl, rfl, rfl⟩, (fun x hx => by cases hx), rfl, (fun h => absurd rfl h), (fun x hx => by cases hx), (fun x hx => by cases hx), List.Pairwise.nil, by show (0 : Int) ≤ 0 + 200 * ((0 : Nat) : Int); decide⟩
theorem SI.wait {bs : List Int} {S : AS} {O L : Nat → List Ev} {t u Tf : Int} (h : SI bs S O L t u Tf) (hO : ∀ i, i < bs.length → (O i).length ≤ 60) {x : Int} (hw : S.when = some x) : t ≤ Tf + 12000 := by
  unfold AS.when at hw
  cases hb : S.best with
  | none => rw [hb] at hw; cases hw
  | some k =>
    obtain ⟨hk, hn⟩ := AS.best_some hb
    rw [h.len] at hk
    have q := h.qi k hk
    have h1 := q.wait hn
    have h2 := q.few
    have h3 := Nat.le_trans q.len (hO k hk)
    cases hq : (S.at k).items with
    | nil => exact absurd hq hn
    | cons y l =>
      obtain ⟨H, e1, _, _⟩ := q.split
      have := (q.pos (y.time, y.seq) (by rw [e1, hq]; simp)).2
      have e2 : (S.at k).rel = if y.time < (S.at k).from_ then (S.at k).from_ else y.time := by unfold AQ.rel; rw [hq]
      rw [e2, q.from_] at h1
      simp only at this
      split at h1 <;> omega
theorem SI.fin {bs gs ls : List Int} {S : AS} {O L : Nat → List Ev} {t u : Int} {k : Nat} (h : SI bs S O L t u (tm60 gs k)) (hk : k = min gs.length 60) (hT : Took bs gs ls O k) (hw : S.when = none) : Fin bs gs ls O L := by
  have hemp : ∀ i, i < bs.length → (S.at i).items = [] := fun i hi => by
    rcases S.bestTo_spec S.qs.length with ⟨_, h4⟩ | ⟨j, h4, _⟩
    · exact h4 i (by rw [h.len]; exact hi)
    · unfold AS.when AS.best at hw; rw [h4] at hw; cases hw
  have key : ∀ i, i < bs.length → (L i).map Prod.fst = shapeL (bs.getD i 0) ((O i).map Prod.fst) ∧ (O i).map Prod.snd = (L i).map Prod.snd := fun i hi => by
    obtain ⟨H, e1, e2, e3⟩ := (h.qi i hi).split
    rw [hemp i hi, List.map_nil, List.append_nil] at e1
    subst e1
    exact ⟨e3, e2⟩
  refine ⟨fun i hi => (key i hi).1, fun i hi => (key i hi).2, fun i hi => by rw [← hk]; exact hT.acc i hi, fun i hi => by have := hT.len i hi; omega, fun i hi => (h.qi i hi).ord, fun i hi x hx => ?_⟩
  have h1 := (h.qi i hi).pos x hx
  have h2 := tm60_bd gs k
  omega
theorem Took.full {bs gs ls : List Int} {S : AS} {O L : Nat → List Ev} {k : Nat} {t Tf : Int} (hT : Took bs gs ls O k) (h : SI bs S O L t t Tf) (ht : t = tm60 gs (k + 1)) (_hv : vlo ls bs.length k < bs.length) (hf : (S.at (vlo ls bs.length k)).items.length = 16) : Took bs gs ls O (k + 1) := by
  refine ⟨fun i hi => ?_, fun i hi => by have := hT.len i hi; omega⟩
  show _ = accL _ (if _ then _ else _)
  by_cases hvi : vlo ls bs.length k = i
  · subst hvi
    rw [if_pos rfl, accL_snoc, ← hT.acc _ hi]
    unfold Go.Proofs.Ytdfhnbkmppdplaa.acc
    rw [← ht, ← (h.qi _ hi).count, if_pos hf]
  · rw [if_neg hvi]; exact hT.acc i hi
theorem Took.take {bs gs ls : List Int} {S : AS} {O L : Nat → List Ev} {k : Nat} {t Tf id : Int} (hT : Took bs gs ls O k) (h : SI bs S O L t t Tf) (ht : t = tm60 gs (k + 1)) (hf : (S.at (vlo ls bs.length k)).items.length ≠ 16) : Took bs gs ls (upd O (vlo ls bs.length k) (O (vlo ls bs.length k) ++ [(t, id)])) (k + 1) := by
  refine ⟨fun i hi => ?_, fun i hi => ?_⟩
  · show _ = accL _ (if _ then _ else _)
    by_cases hvi : vlo ls bs.length k = i
    · rw [if_pos hvi, accL_snoc, ← hT.acc _ hi]
      subst hvi
      rw [upd_same]
      unfold Go.Proofs.Ytdfhnbkmppdplaa.acc
      rw [← ht, ← (h.qi _ hi).count, if_neg hf, List.map_append]; rfl
    · rw [if_neg hvi, upd_other _ _ (fun e => hvi e.symm)]; exact hT.acc i hi
  · have := hT.len i hi
    by_cases hvi : i = vlo ls bs.length k
    · subst hvi; rw [upd_same, List.length_append]; simp only [List.length_cons, List.length_nil]; omega
    · rw [upd_other _ _ hvi]; omega
/-- The shaper, what left, what was offered. -/
structure Mem3 (B : Nat) (w0 w : World) (a to tl n : Nat) (S : AS) (O L : Nat → List Ev) (P Q1 Q2 : Nat → Prop) : Prop where
  mem : Mem B w0 w a tl n S L P Q2
  off : Tab w B to n O Q1
  d1 : ∀ k, P k → ¬ Q1 k
  d2 : ∀ k, Q2 k → ¬ Q1 k
theorem Tab.inn {w : World} {B t n : Nat} {L : Nat → List Ev} {Q : Nat → Prop} (h : Tab w B t n L Q) (k : Nat) (hk : Q k) : k < w.heap.size := by obtain ⟨V, h⟩ := h; exact h.inn k hk
theorem Mem3.drain {B : Nat} {w0 w w' : World} {a to tl n : Nat} {bs : List Int} {S : AS} {O L : Nat → List Ev} {P Q1 Q2 : Nat → Prop} {t Tf : Int} (h : Mem3 B w0 w a to tl n S O L P Q1 Q2) (hd : Drained B w0 w w' a tl n bs O t Tf P Q2) : ∃ S' L' P' Q2', Mem3 B w0 w' a to tl n S' O L' P' Q1 Q2' ∧ SI bs S' O L' (t + 1) (t + 1) Tf := by
  obtain ⟨S', L', P', Q', hm, hs, hk, hp, hq⟩ := hd
  refine ⟨S', L', P', Q', ⟨hm, h.off.frame hk (fun k h1 h2 => h2.elim (fun h3 => h.d1 k h3 h1) (fun h3 => h.d2 k h3 h1)), fun k h1 h2 => ?_, fun k h1 h2 => ?_⟩, hs⟩
  · rcases hp k h1 with h3 | h3
    · exact h.d1 k h3 h2
    · have := h.off.inn k h2; omega
  · rcases hq k h1 with h3 | h3
    · exact h.d2 k h3 h2
    · have := h.off.inn k h2; omega
/-- Only the shaper has changed. -/
theorem Mem3.sh {B : Nat} {w0 w w' : World} {a to tl n : Nat} {S S' : AS} {O L : Nat → List Ev} {P P' Q1 Q2 : Nat → Prop} (h : Mem3 B w0 w a to tl n S O L P Q1 Q2) (hk : Kept P w w') (hs : SAt w' a S' P') (hP : ∀ k, P' k → P k ∨ w.heap.size ≤ k) : Mem3 B w0 w' a to tl n S' O L P' Q1 Q2 :=
  ⟨⟨h.mem.sh.kept h.mem.bs hk hs hP, h.mem.tab.frame hk (fun k h1 h2 => h.mem.dis k h2 h1), (fun k h1 h2 => by
      rcases hP k h1 with h3 | h3
      · exact h.mem.dis k h3 h2
      · have := h.mem.tab.inn k h2; omega), Nat.le_trans h.mem.bs hk.size⟩, h.off.frame hk (fun k h1 h2 => h.d1 k h2 h1), (fun k h1 h2 => by
      rcases hP k h1 with h3 | h3
      · exact h.d1 k h3 h2
      · have := h.off.inn k h2; omega), h.d2⟩
theorem Mem3.below {B : Nat} {w0 w w' : World} {a to tl n : Nat} {S : AS} {O L : Nat → List Ev} {P Q1 Q2 : Nat → Prop} (h : Mem3 B w0 w a to tl n S O L P Q1 Q2) (hb : Below w.heap.size w w') : Mem3 B w0 w' a to tl n S O L P Q1 Q2 :=
  ⟨⟨h.mem.sh.next h.mem.bs hb, h.mem.tab.below hb, h.mem.dis, Nat.le_trans h.mem.bs hb.size⟩, h.off.below hb, h.d1, h.d2⟩
/-- An event is appended to a row of what was offered. -/
theorem Mem3.push {B : Nat} {w0 W w3 : World} {a to tl n : Nat} {S : AS} {O L : Nat → List Ev} {P Q1 Q2 : Nat → Prop} {V : Nat → Value} (h : Mem3 B w0 W a to tl n S O L P Q1 Q2) (hV : TB W B to n O Q1 V) {i : Nat} (hi : i < n) (e : Ev) {o : Obj} {g cap m : Nat} {xs : List Value} (hm : m = (O i).length + 1) (hxs : xs = evs (O i ++ [e]))
    (hown : w3.ownsRow B 33 2 (.slice (some ⟨g, 0, none⟩) m cap) m xs) (hgr : (W.alloc o).grownBy w3 (V i).ownBlock) (hat : (V i).ownBlock = some g ∨ g = (W.alloc o).heap.size) (hlt : g < w3.heap.size) :
    Mem3 B w0 (w3.setCell ⟨to, i, none⟩ (.slice (some ⟨g, 0, none⟩) m cap)) a to tl n S (upd O i (O i ++ [e])) L P (fun k => Q1 k ∨ k = g) Q2 := by
  have hsz : (W.alloc o).heap.size = W.heap.size + 1 := by simp
  have hB := h.mem.bs
  obtain ⟨h1, h2⟩ := (hV.alloc o).push hi e hm hxs hown hgr (hat.imp id (fun h => by rw [h]; exact Nat.le_refl _)) hlt (by rw [hsz]; omega)
  have hk : Kept Q1 W (w3.setCell ⟨to, i, none⟩ (.slice (some ⟨g, 0, none⟩) m cap)) := ((Kept.refl Q1 W).alloc o).trans h2
  have hg : Q1 g ∨ W.heap.size ≤ g := by
    rcases hat with hat | hat
    · exact .inl (hV.foot i hi g hat).1
    · right; rw [hat, hsz]; omega
  refine ⟨⟨⟨h.mem.sh.at_.frame hk (fun k hp hq => h.d1 k hp hq), h.mem.sh.own, h.mem.sh.bel.trans (hk.below hB (fun k hk hq => by have := hV.low k hq; omega))⟩, h.mem.tab.frame hk (fun k h1 h2 => h.d2 k h1 h2), h.mem.dis, Nat.le_trans hB hk.size⟩, ⟨_, h1⟩, fun k hp hq => ?_, fun k hp hq => ?_⟩
  · rcases hq with hq | rfl
    · exact h.d1 k hp hq
    · rcases hg with hg | hg
      · exact h.d1 k hp hg
      · have := h.mem.sh.at_.inn k hp; omega
  · rcases hq with hq | rfl
    · exact h.d2 k hp hq
    · rcases hg with hg | hg
      · exact h.d2 k hp hg
      · have := h.mem.tab.inn k hp; omega
end Go.Proofs.Ytdfhnbkmppdplaa
