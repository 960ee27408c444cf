/-
  parse: the rows of a configuration behind those of another one.
-/
import Derived.Test.YtlngbjphagnloaaGreatDoorPk28
namespace Go.Proofs.YtlngbjphagnloaaGreatDoor
open Go.RowKit
def Dat.one : Dat → Prop
  | .leaf v => v.oneCell' = true
  | .row _ _ => True
theorem DAt.one {w : World} {G : Nat → Prop} {v : Value} {d : Dat} (h : DAt w G v d) (hd : d.one) : v.oneCell' = true := by
  cases h with
  | leaf v => exact hd
  | nil => rfl
  | row => rfl
def OneR (r : RowS) : Prop := ∀ e ∈ r.es, ∀ d ∈ e, d.one
theorem one_map {α : Type} {t : TypeId} {size : Nat} {l : List α} {cells : α → List Dat} (h : ∀ x, ∀ d ∈ cells x, d.one) : OneR ⟨t, size, l.map cells⟩ := fun e he d hd => by
  obtain ⟨x, _, rfl⟩ := List.mem_map.1 he
  exact h x d hd
theorem cfg_one (c : CfgD) : ∀ r ∈ cfgRows c, OneR r := fun r hr => by
  simp only [cfgRows, List.mem_cons, List.not_mem_nil, or_false] at hr
  rcases hr with rfl | rfl | rfl | rfl | rfl | rfl | rfl | rfl <;> refine one_map fun x d hd => ?_
  all_goals
    simp [ModD.cells, ChanD.cells, SwD.cells, LinkD.cells, VlD.cells, HealthD.cells, CauseD.cells, VerD.cells, RefD.cells, lS, lI, lU] at hd
    (repeat' (rcases hd with rfl | hd)) <;> (try subst hd) <;> first | trivial | rfl
/-- A block's cells, none of them frozen. -/
def RowC (w : World) (b : Nat) (vs : List Value) : Prop := b < w.heap.size ∧ ∀ (j : Nat) v, vs[j]? = some v → w.cell? ⟨b, j, none⟩ = some v ∧ w.frozen? ⟨b, j, none⟩ = false
theorem RowC.keep {w w' : World} {b : Nat} {vs : List Value} (h : RowC w b vs) (hz : w.heap.size ≤ w'.heap.size) (hk : w'.heap[b]? = w.heap[b]?) : RowC w' b vs :=
  ⟨Nat.lt_of_lt_of_le h.1 hz, fun j v hv => ⟨(World.cell?_of_block (a := ⟨b, j, none⟩) hk).trans (h.2 j v hv).1, (World.frozen?_of_block (a := ⟨b, j, none⟩) hk).trans (h.2 j v hv).2⟩⟩
theorem RowC.set {w : World} {b k : Nat} {vs : List Value} {x : Value} (h : RowC w b vs) : RowC (w.setCell ⟨b, k, none⟩ x) b (vs.set k x) := by
  refine ⟨by simpa using h.1, fun j v hv => ?_⟩
  rcases set_get hv with ⟨rfl, hl, rfl⟩ | ⟨hne, hv⟩
  · obtain ⟨h1, h2⟩ := h.2 j _ (List.getElem?_eq_getElem hl)
    exact ⟨World.cell?_setCell_same _ _ _ h1, by rw [World.frozen?_setCell]; exact h2⟩
  · obtain ⟨h1, h2⟩ := h.2 j _ hv
    exact ⟨(World.cell?_setCell_other w ⟨b, k, none⟩ ⟨b, j, none⟩ x (fun e => hne (by injection e with _ e _; exact e.symm))).trans h1, by rw [World.frozen?_setCell]; exact h2⟩
theorem RowC.of {w : World} {b : Nat} {cs : Array Value} {t : TypeId} (h : w.heap[b]? = some (.cells cs t (0, 0))) : RowC w b cs.toList :=
  ⟨(Array.getElem?_eq_some_iff.1 h).1, fun j v hv => ⟨by rw [cell_of_row w b j _ _ _ h, ← Array.getElem?_toList, hv], frozen_of_row w b j _ _ h⟩⟩
theorem RowsAt.wider {w : World} {B B' : Nat} {vs : List Value} {rs : List RowS} (h : RowsAt w B vs rs) (hb : B' ≤ B) : RowsAt w B' vs rs :=
  ⟨h.len, h.wide, fun k v r hv hr => by
    obtain ⟨cs, ho, hc⟩ := h.own k v r hv hr
    exact ⟨cs, own_wide ho hb, hc.mono (fun b hb' _ => ⟨Nat.le_trans hb hb'.1, hb'.2⟩)⟩, h.apart⟩
/-- The blocks that the appends behind the k-th leave alone. -/
def Gj (cb k : Nat) (vs : List Value) (b : Nat) : Prop := b ≠ cb ∧ ∀ j v, k < j → vs[j]? = some v → v.ownBlock ≠ some b
/-- Two configurations: the rows vs of the first (laid when block cb was the next), the rows us of the second (from C on, in w0). -/
structure Pair (w2 w0 : World) (B cb C : Nat) (vs : List Value) (rs : List RowS) (us : List Value) (ss : List RowS) : Prop where
  a : RowsAt w2 B vs rs
  z : w2.heap.size = cb
  up : Below w2.heap.size w2 w0
  low : B ≤ cb
  b : RowsAt w0 C us ss
  high : cb < C
/-- The first k appends are done. -/
structure Joi (w0 V : World) (B cb k : Nat) (vs cur : List Value) : Prop where
  size : w0.heap.size ≤ V.heap.size
  below : Below B w0 V
  row : RowC V cb cur
  keep : ∀ b, b < w0.heap.size → b ≠ cb → (∀ j v, j < k → vs[j]? = some v → v.ownBlock ≠ some b) → V.heap[b]? = w0.heap[b]?
theorem Joi.drew {w0 V : World} {B cb k : Nat} {vs cur : List Value} (h : Joi w0 V B cb k vs cur) : Joi w0 V.drew B cb k vs cur := ⟨h.size, h.below.drew, h.row, h.keep⟩
theorem Joi.start {w2 w0 : World} {B C cb : Nat} {vs us : List Value} {rs ss : List RowS} (_P : Pair w2 w0 B cb C vs rs us ss) (h : RowC w0 cb vs) : Joi w0 w0 B cb 0 vs vs := ⟨Nat.le_refl _, Below.refl _ _, h, fun _ _ _ _ => rfl⟩
/-- What lies above the first's block stays. -/
theorem Joi.above {w2 w0 V : World} {B C cb k : Nat} {vs us cur : List Value} {rs ss : List RowS} (h : Joi w0 V B cb k vs cur) (P : Pair w2 w0 B cb C vs rs us ss) (b : Nat) (h1 : cb < b) (h2 : b < w0.heap.size) : V.heap[b]? = w0.heap[b]? :=
  h.keep b h2 (by omega) fun j x _ hx e => by
    have hj : j < rs.length := by rw [← P.a.len]; exact (List.getElem?_eq_some_iff.1 hx).1
    obtain ⟨_, ho, _⟩ := P.a.own j x rs[j] hx (List.getElem?_eq_getElem hj)
    have := (own_lt ho e).2
    have := P.z
    omega
theorem Joi.give {w2 w0 V : World} {B C cb k : Nat} {vs us cur : List Value} {rs ss : List RowS} {v u : Value} {r s : RowS} (h : Joi w0 V B cb k vs cur) (P : Pair w2 w0 B cb C vs rs us ss) (hv : vs[k]? = some v) (hr : rs[k]? = some r) (hu : us[k]? = some u) (hs : ss[k]? = some s) (h1 : OneR s) (_ht : r.t = s.t) (hz : r.size = s.size) :
    ∃ cs ds, V.ownsRow B r.t r.size v r.es.length cs ∧ (∀ A m q, u = .slice A m q → m = s.es.length ∧ Reads V V.heap.size r.size A m ds) ∧ (∀ x ∈ ds, x.oneCell' = true) ∧ B ≤ V.heap.size ∧ (∀ b, cb ≤ b → b < w0.heap.size → v.ownBlock ≠ some b) ∧
      ∀ v' V', V'.ownsRow B r.t r.size v' (r.es.length + s.es.length) (cs ++ ds) → V.grownBy V' v.ownBlock → (v'.ownBlock = v.ownBlock ∨ v'.ownBlock = some V.heap.size) →
        Joi w0 (V'.setCell ⟨cb, k, none⟩ v') B cb (k + 1) vs (cur.set k v') ∧ DAt (V'.setCell ⟨cb, k, none⟩ v') (Gj cb k vs) v' (.row r.size (r.es ++ s.es)) ∧
          ∀ j x d, j < k → DAt V (Gj cb j vs) x d → DAt (V'.setCell ⟨cb, k, none⟩ v') (Gj cb j vs) x d := by
  obtain ⟨cs, ho, hc⟩ := P.a.own k v r hv hr
  obtain ⟨ds, ho2, hd⟩ := P.b.own k u s hu hs
  have hup := P.up
  have hw := P.up.size
  have hzz := P.z
  have hlo := P.low
  have hhi := P.high
  have lt : ∀ (j : Nat) (x : Value), vs[j]? = some x → ∀ g, x.ownBlock = some g → g < cb := fun j x hx g hg => by
    have hj : j < rs.length := by rw [← P.a.len]; exact (List.getElem?_eq_some_iff.1 hx).1
    obtain ⟨_, ho, _⟩ := P.a.own j x rs[j] hx (List.getElem?_eq_getElem hj)
    have := (own_lt ho hg).2
    omega
  have hK : ∀ b, b < w2.heap.size → (∀ j x, j < k → vs[j]? = some x → x.ownBlock ≠ some b) → V.heap[b]? = w2.heap[b]? := fun b hb hf => (h.keep b (by omega) (by omega) hf).trans (hup.block b hb)
  have hKC : ∀ b, C ≤ b → b < w0.heap.size → V.heap[b]? = w0.heap[b]? := fun b hb hl => h.keep b hl (by omega) (fun j x hj hx e => by have := lt j x hx b e; omega)
  have hoV : V.ownsRow B r.t r.size v r.es.length cs := own_keep ho (fun g hg hb => hK g (own_lt ho hg).2 (fun j x hj hx e => by have := P.a.apart j k x v g hx hv e hg; omega))
  have hoU : V.ownsRow C s.t s.size u s.es.length ds := own_keep ho2 (fun g hg hb => hKC g hb (own_lt ho2 hg).2)
  have hcV : DCells V (fun b => b < cb ∧ OwnSet B vs b) cs r.es.flatten := ((hc.mono (H := fun b => b < cb ∧ OwnSet B vs b) (fun b hb hl => ⟨by omega, hb⟩)).keep (by have := h.size; omega) (fun b hb hl => hK b hl (fun j x hj hx => hb.2.2 x (List.mem_of_getElem? hx))))
  have hdV : DCells V (fun b => C ≤ b ∧ b < w0.heap.size) ds s.es.flatten := (hd.mono (H := fun b => C ≤ b ∧ b < w0.heap.size) (fun b hb hl => ⟨hb.1, hl⟩)).keep h.size (fun b hb hl => hKC b hb.1 hl)
  have hBV : B ≤ V.heap.size := by have := h.size; omega
  refine ⟨cs, ds, hoV, fun A m q e => ?_, fun x hx => ?_, hBV, fun b hb hl e => by have := lt k v hv b e; omega, fun v' V' h2 hg hat => ?_⟩
  · obtain ⟨A', q', e'⟩ := own_form hoU
    rw [e'] at e hoU
    injection e with e1 e2 e3
    subst e1 e2 e3
    exact ⟨rfl, by rw [hz]; exact Reads.of_own hoU⟩
  · obtain ⟨j, hj⟩ := List.mem_iff_getElem?.1 hx
    have hjl : j < s.es.flatten.length := by rw [← hd.1]; exact (List.getElem?_eq_some_iff.1 hj).1
    refine (hd.2 j x _ hj (List.getElem?_eq_getElem hjl)).one ?_
    obtain ⟨e, he, hxe⟩ := List.mem_flatten.1 (List.getElem_mem hjl)
    exact h1 e he _ hxe
  · have hne : ∀ g, v.ownBlock = some g → g ≠ cb := fun g hg e => by have := lt k v hv g hg; omega
    have hcb : some cb ≠ v.ownBlock := fun e => hne cb e.symm rfl
    have hset : ∀ b, b ≠ cb → (V'.setCell ⟨cb, k, none⟩ v').heap[b]? = V'.heap[b]? := fun b hb => Below.heap_setCell V' ⟨cb, k, none⟩ v' b hb
    have hsz : (V'.setCell ⟨cb, k, none⟩ v').heap.size = V'.heap.size := by simp
    have hkp : ∀ b, b < V.heap.size → b ≠ cb → v.ownBlock ≠ some b → (V'.setCell ⟨cb, k, none⟩ v').heap[b]? = V.heap[b]? := fun b hl hb hf => (hset b hb).trans (hg.block b hl (fun e => hf e.symm))
    refine ⟨⟨by have := h.size; have := hg.size; omega, ?_, (h.row.keep hg.size (hg.block cb h.row.1 hcb)).set, fun b hl hb hf => ?_⟩, ?_, fun j x d hj hx => ?_⟩
    · have h3 := h.below.grown hg hBV (fun g e => (own_lt hoV e).1)
      exact h3.trans ⟨rfl, rfl, rfl, by omega, fun b hb => hset b (by omega)⟩
    · refine (hkp b (by have := h.size; omega) hb (fun e => hf k v (by omega) hv e)).trans (h.keep b hl hb (fun j x hj => hf j x (by omega)))
    · have hall : DCells V (fun b => b < V.heap.size ∧ b ≠ cb ∧ ∀ j x, k ≤ j → vs[j]? = some x → x.ownBlock ≠ some b) (cs ++ ds) (r.es ++ s.es).flatten := by
        rw [List.flatten_append]
        refine (hcV.mono (fun b hb hl => ⟨hl, by omega, fun j x _ hx => hb.2.2 x (List.mem_of_getElem? hx)⟩)).append (hdV.mono (fun b hb hl => ⟨hl, by omega, fun j x _ hx e => by have := lt j x hx b e; omega⟩))
      have hallV := hall.keep (w' := V'.setCell ⟨cb, k, none⟩ v') (by have := hg.size; omega) (fun b hb hl => hkp b hl hb.2.1 (hb.2.2 k v (Nat.le_refl _) hv))
      have hoW : (V'.setCell ⟨cb, k, none⟩ v').ownsRow B r.t r.size v' (r.es ++ s.es).length (cs ++ ds) := by
        rw [List.length_append]
        refine own_keep h2 (fun g e _ => hset g ?_)
        rcases hat with e2 | e2
        · exact hne g (e2.symm.trans e)
        · rw [e2] at e
          injection e with e
          have := h.row.1
          omega
      refine (own_dat rfl (fun e he => ?_) hoW hallV).mono (fun b hb _ => ?_)
      · rcases List.mem_append.1 he with he | he
        · exact P.a.wide k r hr e he
        · rw [hz]; exact P.b.wide k s hs e he
      · rcases hb with hb | hb
        · exact ⟨hb.2.1, fun j x hj hx => hb.2.2 j x (by omega) hx⟩
        · rcases hat with e2 | e2
          · have e3 := e2.symm.trans hb
            exact ⟨hne b e3, fun j x hj hx e => by have := P.a.apart j k x v b hx hv e e3; omega⟩
          · rw [e2] at hb
            injection hb with hb
            have := h.row.1
            exact ⟨by omega, fun j x hj hx e => by have := lt j x hx b e; omega⟩
    · exact hx.keep (by have := hg.size; omega) (fun b hb hl => hkp b hl hb.1 (hb.2 k v hj hv))
end Go.Proofs.YtlngbjphagnloaaGreatDoor
