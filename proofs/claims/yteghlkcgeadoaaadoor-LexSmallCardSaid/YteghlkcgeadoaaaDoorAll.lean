/-
  lex: (*scanner).all: the iterator over the tokens.
-/
import Derived.Test.YteghlkcgeadoaaaDoorNext
import Derived.Test.YteghlkcgeadoaaaDoorRange
import Derived.RangeFuncBound
import Derived.RangeFuncCalls
import Derived.RangeFuncLeaves
import Derived.Shelf.Abstract
import Derived.Shelf.RegionOpen
import Derived.OwnWalkIn
import Derived.TacticsInMore
import Derived.LoopNIn
import Derived.LoopIn
import Derived.Sort.QuietIn
namespace Go.Proofs.YteghlkcgeadoaaaDoor
open Go.RowKit Go.Shelf
attribute [local go_sem] Oper.semAt_some
theorem elsA_len : ∀ (n p : Nat) (l : List UInt8), l.length ≤ n → (elsA p l).length ≤ l.length
  | n, p, l, hn => by
    rw [elsA_eq]
    have hd : (l.drop (skipN false l)).length ≤ l.length := by rw [List.length_drop]; omega
    cases h : l.drop (skipN false l) with
    | nil => simp
    | cons b r =>
      rw [h] at hd
      simp only [List.length_cons] at hd ⊢
      by_cases h0 : (tokN (b :: r)).2.2 = 0
      · have hp := tokN_pos b r h0
        have hl : ((b :: r).drop (tokN (b :: r)).2.1).length < l.length := by rw [List.length_drop, List.length_cons]; omega
        have hl2 : ((b :: r).drop (tokN (b :: r)).2.1).length ≤ r.length := by rw [List.length_drop, List.length_cons]; omega
        cases n with
        | zero => omega
        | succ n =>
          have ih := elsA_len n (p + skipN false l + (tokN (b :: r)).2.1) ((b :: r).drop (tokN (b :: r)).2.1) (by omega)
          rw [if_pos h0]
          omega
      · rw [if_neg h0]
        simp; omega
/-- A token as a value. -/
def Tok.val (t : Tok) : Value := .agg #[.int .u8 (t.kind : Int), .string ⟨t.text.toArray⟩, .int .i64 (t.at_ : Int)]
abbrev encT (x : Tok × Nat) : Array Value := #[x.1.val, .int .i64 (x.2 : Int)]
/-- What a round keeps: all that lay below n₀, but for block lb. -/
def KpL (lb n₀ : Nat) (A B : World) : Prop := Kept (fun k => k = lb ∨ n₀ ≤ k) A B
/-- The iterator's state. -/
structure ItS (sb xb lb n₀ : Nat) (src : ByteArray) (F : Nat → Prop) (g1 g2 g3 : Nat) (k1 k2 k3 : Array Value) (j : Nat) (w : World) : Prop where
  sc : Sc sb src F g1 g2 g3 k1 k2 k3 w
  here : w.cell? ⟨sb, 1, none⟩ = some (.int .i64 (j : Int))
  free : w.frozen? ⟨sb, 1, none⟩ = false
  box : w.heap[xb]? = some (.cells #[.pointer (some ⟨sb, 0, none⟩)] 46 (0, 0))
  env : Env w
  big : n₀ ≤ w.heap.size
  xs : xb ≠ sb
  s4 : 4 ≤ sb
  sn : sb < n₀ ∧ sb ≠ lb
  xn : xb < n₀ ∧ xb ≠ lb
  l4 : 4 ≤ lb
  n4 : 4 ≤ n₀
  fn : ∀ k, F k → k < n₀ ∧ k ≠ lb
section
variable {sb xb lb n₀ j : Nat} {src : ByteArray} {F : Nat → Prop} {g1 g2 g3 : Nat} {k1 k2 k3 : Array Value} {w w' : World}
theorem ItS.atJ {i : Nat} (h : ItS sb xb lb n₀ src F g1 g2 g3 k1 k2 k3 j w) (k : AtJ sb i w w') : ItS sb xb lb n₀ src F g1 g2 g3 k1 k2 k3 i w' :=
  have hx := (Array.getElem?_eq_some_iff.1 h.box).1
  have hs : sb ≤ w.heap.size := Nat.le_trans (Nat.le_of_lt h.sn.1) h.big
  ⟨h.sc.atJ k, k.here, k.free, (k.kept.block xb hx h.xs).trans h.box, h.env.keptB (k.kept.below (B := sb) hs (fun i hi e => by omega)) h.s4, Nat.le_trans h.big k.kept.size, h.xs, h.s4, h.sn, h.xn, h.l4, h.n4, h.fn⟩
theorem ItS.start (h : ItS sb xb lb n₀ src F g1 g2 g3 k1 k2 k3 j w) : AtJ sb j w w := AtJ.start h.here h.free
theorem ItS.below (h : ItS sb xb lb n₀ src F g1 g2 g3 k1 k2 k3 j w) (k : Below w.heap.size w w') : ItS sb xb lb n₀ src F g1 g2 g3 k1 k2 k3 j w' :=
  h.atJ (h.start.below (Nat.lt_of_lt_of_le h.sn.1 h.big) k)
theorem ItS.kp (h : ItS sb xb lb n₀ src F g1 g2 g3 k1 k2 k3 j w) (k : KpL lb n₀ w w') : ItS sb xb lb n₀ src F g1 g2 g3 k1 k2 k3 j w' := by
  have hb : ∀ i, i < n₀ → i ≠ lb → w'.heap[i]? = w.heap[i]? := fun i h1 h2 => k.block i (Nat.lt_of_lt_of_le h1 h.big) (by rintro (e | e) <;> omega)
  have hc : ∀ o, w'.cell? ⟨sb, o, none⟩ = w.cell? ⟨sb, o, none⟩ := fun o => World.cell?_of_block (w := w) (hb sb h.sn.1 h.sn.2)
  have hi : ∀ {f : Nat} {c : Array Value} {p : UInt8 → Bool}, IsT F w f c p → IsT F w' f c p := fun ht => ht.keep k.size (fun i hf => hb i (h.fn i hf).1 (h.fn i hf).2)
  refine ⟨⟨(hc 0).trans h.sc.s0, (hc 3).trans h.sc.s3, (hc 4).trans h.sc.s4, (hc 5).trans h.sc.s5, hi h.sc.i1, hi h.sc.i2, hi h.sc.i3, h.sc.far⟩, (hc 1).trans h.here, (World.frozen?_of_block (w := w) (a := ⟨sb, 1, none⟩) (hb sb h.sn.1 h.sn.2)).trans h.free, (hb xb h.xn.1 h.xn.2).trans h.box, ?_, Nat.le_trans h.big k.size, h.xs, h.s4, h.sn, h.xn, h.l4, h.n4, h.fn⟩
  exact h.env.keptB (Kept.below k (B := 4) (Nat.le_trans h.n4 h.big) (fun i hi => by have := h.l4; have := h.n4; omega)) (Nat.le_refl _)
end
theorem extract_list (src : ByteArray) (j ln : Nat) : src.extract j (j + ln) = ⟨(((toksL src).drop j).take ln).toArray⟩ := by
  apply ByteArray.ext
  apply Array.ext'
  have := Lib.extract_data src j (j + ln)
  rw [this, show j + ln - j = ln from by omega]
  rfl
/-- What is still to be yielded at j. -/
theorem els_step (src : ByteArray) (j kd ln er : Nat) (hj : j < src.size) (h0 : skipN false ((toksL src).drop j) = 0) (ht : tokN ((toksL src).drop j) = (kd, ln, er)) :
    elsA j ((toksL src).drop j) = (⟨kd, ((toksL src).drop j).take ln, j⟩, er) :: (if er = 0 then elsA (skipTo src (j + ln)) ((toksL src).drop (skipTo src (j + ln))) else []) := by
  rw [elsA_eq, h0, List.drop_zero, toksL_drop src j hj]
  rw [toksL_drop src j hj] at ht
  simp only [ht]
  have e1 : (src[j] :: (toksL src).drop (j + 1)).drop ln = (toksL src).drop (j + ln) := by rw [← toksL_drop src j hj, List.drop_drop]
  rw [e1, elsA_skip (j + 0 + ln)]
  unfold skipTo
  rw [List.drop_drop]
  rfl
theorem skipTo_zero (src : ByteArray) (j : Nat) : skipN false ((toksL src).drop (skipTo src j)) = 0 := by
  unfold skipTo
  rw [← List.drop_drop]
  exact skipN_skip false _
theorem skipTo_le (src : ByteArray) (j : Nat) (hj : j ≤ src.size) : j ≤ skipTo src j ∧ skipTo src j ≤ src.size := by
  unfold skipTo
  have h := skipN_le false ((toksL src).drop j)
  have hl : (toksL src).length = src.size := by simp [toksL]
  rw [List.length_drop, hl] at h
  omega
/-- Where the iterator stands: what has been yielded, and where the cursor is. -/
def AtE (src : ByteArray) (pre : List (Tok × Nat)) (j : Nat) : Prop := j ≤ src.size ∧ skipN false ((toksL src).drop j) = 0 ∧ elsA 0 (toksL src) = pre ++ elsA j ((toksL src).drop j)
theorem AtE.start (src : ByteArray) : AtE src [] (skipTo src 0) :=
  ⟨(skipTo_le src 0 (Nat.zero_le _)).2, skipTo_zero src 0, by
    have := elsA_skip 0 (toksL src)
    unfold skipTo
    simpa using this⟩
theorem AtE.step {src : ByteArray} {pre : List (Tok × Nat)} {j kd ln er : Nat} (h : AtE src pre j) (hj : j < src.size) (ht : tokN ((toksL src).drop j) = (kd, ln, er)) :
    (elsA 0 (toksL src) = pre ++ [(⟨kd, ((toksL src).drop j).take ln, j⟩, er)] ++ (if er = 0 then elsA (skipTo src (j + ln)) ((toksL src).drop (skipTo src (j + ln))) else [])) ∧
    (er = 0 → AtE src (pre ++ [(⟨kd, ((toksL src).drop j).take ln, j⟩, er)]) (skipTo src (j + ln)) ∧ j < skipTo src (j + ln)) ∧ j + ln ≤ src.size := by
  have e := h.2.2
  rw [els_step src j kd ln er hj h.2.1 ht] at e
  have hl : (toksL src).length = src.size := by simp [toksL]
  have hle : j + ln ≤ src.size := by
    have := tokN_le src[j] ((toksL src).drop (j + 1))
    rw [← toksL_drop src j hj, ht] at this
    simp only [List.length_drop] at this
    omega
  refine ⟨by rw [e]; simp, fun h0 => ?_, hle⟩
  have hp : 1 ≤ ln := by
    have := tokN_pos src[j] ((toksL src).drop (j + 1))
    rw [← toksL_drop src j hj, ht] at this
    exact this h0
  have hs := skipTo_le src (j + ln) hle
  exact ⟨⟨hs.2, skipTo_zero src _, by rw [e, if_pos h0]; simp⟩, by omega⟩
theorem AtE.full {src : ByteArray} {pre : List (Tok × Nat)} {j : Nat} (h : AtE src pre j) (hj : src.size ≤ j) : pre = elsA 0 (toksL src) := by
  have hl : (toksL src).length = src.size := by simp [toksL]
  rw [h.2.2, List.drop_eq_nil_of_le (by omega), elsA_eq]
  simp
theorem AtE.len {src : ByteArray} {pre : List (Tok × Nat)} {j : Nat} (h : AtE src pre j) (hj : j < src.size) : pre.length < src.size := by
  have hl : (toksL src).length = src.size := by simp [toksL]
  have h1 := elsA_len _ 0 (toksL src) (Nat.le_refl _)
  obtain ⟨⟨kd, ln, er⟩, ht⟩ : ∃ t, tokN ((toksL src).drop j) = t := ⟨_, rfl⟩
  rw [(h.step hj ht).1] at h1
  simp at h1
  omega
end Go.Proofs.YteghlkcgeadoaaaDoor
