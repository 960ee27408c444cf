/-
  lex: slices of tokens in memory.
-/
import Derived.Test.YteghlkcgeadoaaaDoorBase
import Derived.Test.YteghlkcgeadoaaaDoorLexM
import Derived.Maps.AppendAt
import Derived.Deep.AppendLies
import Derived.Lib.Join
namespace Go.Proofs.YteghlkcgeadoaaaDoor
open Go.RowKit
/-- A token as its three cells say it. -/
structure TokZ where
  kind : Int
  text : ByteArray
  at_ : Int
def Tok.toZ (t : Tok) : TokZ := ⟨(t.kind : Int), ⟨t.text.toArray⟩, (t.at_ : Int)⟩
def TokZ.cells (K : IntKind) (t : TokZ) : List Value := [.int K t.kind, .string t.text, .int .i64 t.at_]
def flatT (K : IntKind) (ts : List TokZ) : List Value := ts.flatMap (TokZ.cells K)
theorem flatT_snoc (K : IntKind) (ts : List TokZ) (t : TokZ) : flatT K (ts ++ [t]) = flatT K ts ++ t.cells K := by simp [flatT]
theorem flatT_at (K : IntKind) (ts : List TokZ) (i : Nat) (t : TokZ) (h : ts[i]? = some t) (j : Nat) (hj : j < 3) : (flatT K ts)[i * 3 + j]? = (t.cells K)[j]? := by
  induction ts generalizing i with
  | nil => simp at h
  | cons x ts ih =>
    have hx : (x.cells K).length = 3 := rfl
    show (x.cells K ++ flatT K ts)[i * 3 + j]? = _
    cases i with
    | zero =>
      simp only [List.getElem?_cons_zero, Option.some.injEq] at h
      subst h
      rw [List.getElem?_append_left (by omega)]
      simp
    | succ i =>
      rw [List.getElem?_append_right (by omega)]
      have : (i + 1) * 3 + j - (x.cells K).length = i * 3 + j := by omega
      rw [this]
      exact ih i (by simpa using h)
theorem flatT_step (K : IntKind) (ts : List TokZ) (k : Nat) (t : TokZ) (h : ts[k]? = some t) : flatT K (ts.take k) ++ t.cells K = flatT K (ts.take (k + 1)) := by
  obtain ⟨hk, rfl⟩ := List.getElem?_eq_some_iff.1 h
  rw [← flatT_snoc, List.take_succ_eq_append_getElem hk]
/-- The cells of a slice of tokens. -/
def TRows (K : IntKind) (w : World) (A : Option Addr) (ts : List TokZ) : Prop :=
  ts = [] ∨ ∃ b off, A = some ⟨b, off, none⟩ ∧ b < w.heap.size ∧ ∀ i t, ts[i]? = some t → w.cell? ⟨b, off + i * 3, none⟩ = some (.int K t.kind) ∧ w.cell? ⟨b, off + i * 3 + 1, none⟩ = some (.string t.text) ∧ w.cell? ⟨b, off + i * 3 + 2, none⟩ = some (.int .i64 t.at_)
theorem TRows.below {K : IntKind} {w w' : World} {A : Option Addr} {ts : List TokZ} (h : TRows K w A ts) (hb : Below w.heap.size w w') : TRows K w' A ts := by
  rcases h with h | ⟨b, off, e, hlt, hc⟩
  · exact .inl h
  · refine .inr ⟨b, off, e, Nat.lt_of_lt_of_le hlt hb.size, fun i t ht => ?_⟩
    obtain ⟨h0, h1, h2⟩ := hc i t ht
    exact ⟨(hb.cell (p := ⟨b, off + i * 3, none⟩) hlt).trans h0, (hb.cell (p := ⟨b, off + i * 3 + 1, none⟩) hlt).trans h1, (hb.cell (p := ⟨b, off + i * 3 + 2, none⟩) hlt).trans h2⟩
theorem trows_own {K : IntKind} {w : World} {base n : Nat} {e : TypeId} {v : Value} {ts : List TokZ} (h : w.ownsRow base e 3 v n (flatT K ts)) (hl : ts.length = n) :
    ∃ a cap, v = .slice a n cap ∧ TRows K w a ts := by
  rcases h.2 with ⟨rfl, rfl⟩ | ⟨g, cap, cur, rfl, _, hg, _⟩
  · exact ⟨none, 0, rfl, .inl (List.eq_nil_of_length_eq_zero hl)⟩
  · refine ⟨some ⟨g, 0, none⟩, cap, rfl, .inr ⟨g, 0, rfl, (Array.getElem?_eq_some_iff.1 hg).1, fun i t ht => ?_⟩⟩
    have hi : i < n := by rw [← hl]; exact (List.getElem?_eq_some_iff.1 ht).1
    have hc : ∀ j, j < 3 → w.cell? ⟨g, i * 3 + j, none⟩ = (t.cells K)[j]? := fun j hj => by
      rw [World.ownsRow.cellAt h (i * 3 + j) (by omega), flatT_at K ts i t ht j hj]
    refine ⟨?_, ?_, ?_⟩
    · simpa [TokZ.cells] using hc 0 (by omega)
    · simpa [TokZ.cells] using hc 1 (by omega)
    · simpa [TokZ.cells] using hc 2 (by omega)
/-- One token of a slice, in a later world. -/
theorem trow_at {K : IntKind} {w w' : World} {A : Option Addr} {ts : List TokZ} {n k : Nat} (HL : Hid (ts.length = n)) (h : Hid (TRows K w A ts)) (hb : Below w.heap.size w w') (hk : k < n) :
    ∃ b off t, A = some ⟨b, off, none⟩ ∧ b < w.heap.size ∧ Hid (ts[k]? = some t) ∧ w'.cell? ⟨b, off + k * 3, none⟩ = some (.int K t.kind) ∧ w'.cell? ⟨b, off + k * 3 + 1, none⟩ = some (.string t.text) ∧ w'.cell? ⟨b, off + k * 3 + 2, none⟩ = some (.int .i64 t.at_) := by
  rcases h.out with h0 | ⟨b, off, e, hlt, hc⟩
  · have := HL.out; rw [h0] at this; simp at this; omega
  · have hkl : k < ts.length := by rw [HL.out]; exact hk
    obtain ⟨h0, h1, h2⟩ := hc k ts[k] (List.getElem?_eq_getElem hkl)
    exact ⟨b, off, ts[k], e, hlt, List.getElem?_eq_getElem hkl, (hb.cell (p := ⟨b, off + k * 3, none⟩) hlt).trans h0, (hb.cell (p := ⟨b, off + k * 3 + 1, none⟩) hlt).trans h1, (hb.cell (p := ⟨b, off + k * 3 + 2, none⟩) hlt).trans h2⟩
theorem news_of {W : World} {t : TypeId} {cs : Array Value} {b : Nat} (hb : b = W.heap.size) : ∀ j u, cs.toList[j]? = some u → (W.alloc (.cells cs t)).cell? ((⟨b, 0, none⟩ : Addr).add j) = some u := by
  subst hb
  exact World.news_of_block (cs := cs) (t := t) (fr := (0, 0)) (heap_alloc_new W _)
theorem strInfo : (Tryd.prog.info? 9).map (fun i => (i.zero, i.size, i.bytes)) = some (some (.string ⟨#[]⟩), 1, 16) := by kernel_rfl
theorem tokInfo : (Tryd.prog.info? 45).map (fun i => (i.zero, i.size, i.bytes)) = some (some (.agg #[.int .u8 0, .string ⟨#[]⟩, .int .i64 0]), 3, 32) := by kernel_rfl
theorem rtokInfo : (Tryd.prog.info? 40).map (fun i => (i.zero, i.size, i.bytes)) = some (some (.agg #[.int .i64 0, .string ⟨#[]⟩, .int .i64 0]), 3, 32) := by kernel_rfl
def joinT (ts : List TokZ) : List UInt8 := Lib.join (ts.map (·.text.data.toList)) [32]
theorem joinT_snoc (ts : List TokZ) (t : TokZ) : joinT (ts ++ [t]) = (if ts = [] then [] else joinT ts ++ [32]) ++ t.text.data.toList := by
  unfold joinT Lib.join
  rw [List.map_append]
  induction ts with
  | nil => simp
  | cons x r ih =>
    cases r with
    | nil => simp [List.intercalate, List.intersperse]
    | cons y r =>
      simp only [List.cons_append, List.map_cons, List.map_nil, reduceCtorEq, if_false] at ih ⊢
      simp only [List.intercalate, List.intersperse, List.flatten_cons, List.append_assoc] at ih ⊢
      rw [ih]
theorem joinT_take_le (ts : List TokZ) : ∀ k, (joinT (ts.take k)).length ≤ (joinT ts).length := by
  have h1 : ∀ (a b : List TokZ), (joinT a).length ≤ (joinT (a ++ b)).length := by
    intro a b
    obtain ⟨n, hn⟩ : ∃ n, b.length = n := ⟨_, rfl⟩
    induction n generalizing b with
    | zero => rw [List.eq_nil_of_length_eq_zero hn]; simp
    | succ n ih =>
      rcases List.eq_nil_or_concat b with rfl | ⟨b, t, rfl⟩
      · simp
      · have := ih b (by simpa using hn)
        rw [List.concat_eq_append, ← List.append_assoc, joinT_snoc]
        split
        · rename_i h; simp at h; rw [h.1]; simp [joinT, Lib.join, List.intercalate]
        · simp; omega
  intro k
  have := h1 (ts.take k) (ts.drop k)
  rwa [List.take_append_drop] at this
end Go.Proofs.YteghlkcgeadoaaaDoor
