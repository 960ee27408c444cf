/-
  HealthOrder: the two sorted tables.
-/
import Derived.Test.YtojmcgobihegpaaRen1
import Derived.Test.YtojmcgobihegpaaSpec1
import Derived.Deep.AppendLies
namespace Go.Proofs.Ytojmcgobihegpaa
open Go.RowKit
def upL (rs : List HRow) : Nat → List HRow
  | 0 => []
  | k + 1 => upL rs k ++ rk rs (k : Int)
def dnL (rs : List HRow) : Nat → List HRow
  | 0 => []
  | k + 1 => dnL rs k ++ rk rs (3 - (k : Int))
theorem rk_len (rs : List HRow) (k : Int) : (rk rs k).length ≤ rs.length := List.length_filter_le _ _
theorem upL_len (rs : List HRow) (k : Nat) : (upL rs k).length ≤ k * rs.length := by
  induction k with
  | zero => simp [upL]
  | succ k ih => have := rk_len rs (k : Int); simp only [upL, List.length_append, Nat.add_mul, Nat.one_mul]; omega
theorem dnL_len (rs : List HRow) (k : Nat) : (dnL rs k).length ≤ k * rs.length := by
  induction k with
  | zero => simp [dnL]
  | succ k ih => have := rk_len rs (3 - (k : Int)); simp only [dnL, List.length_append, Nat.add_mul, Nat.one_mul]; omega
theorem rk_take {rs : List HRow} {j : Nat} {r : HRow} (h : rs[j]? = some r) (k : Int) : rk (rs.take (j + 1)) k = rk (rs.take j) k ++ if rankZ r = k then [r] else [] := by
  obtain ⟨hj, rfl⟩ := List.getElem?_eq_some_iff.1 h
  unfold rk
  rw [List.take_succ_eq_append_getElem hj, List.filter_append]
  congr 1
  by_cases hk : rankZ rs[j] = k <;> simp [hk]
theorem rk_sub {rs : List HRow} {k : Int} {r : HRow} (h : r ∈ rk rs k) : r ∈ rs := (List.mem_filter.1 h).1
theorem upL_sub {rs : List HRow} {r : HRow} : ∀ {k : Nat}, r ∈ upL rs k → r ∈ rs
  | 0, h => by simp [upL] at h
  | k + 1, h => by
    simp only [upL, List.mem_append] at h
    rcases h with h | h
    · exact upL_sub h
    · exact rk_sub h
theorem dnL_sub {rs : List HRow} {r : HRow} : ∀ {k : Nat}, r ∈ dnL rs k → r ∈ rs
  | 0, h => by simp [dnL] at h
  | k + 1, h => by
    simp only [dnL, List.mem_append] at h
    rcases h with h | h
    · exact dnL_sub h
    · exact rk_sub h
theorem upL_dec (rs : List HRow) (m p : ByteArray) (f : Int) : decL (upL rs 4) m p f = decL rs m p f ∧ decD (upL rs 4) m p f = decD rs m p f :=
  dec_same (decR_same fun k => by
    have : upL rs 4 = rk rs 0 ++ rk rs 1 ++ rk rs 2 ++ rk rs 3 := by simp [upL]
    rw [this]; exact sorted_up rs m p f k)
theorem dnL_dec (rs : List HRow) (m p : ByteArray) (f : Int) : decL (dnL rs 4) m p f = decL rs m p f ∧ decD (dnL rs 4) m p f = decD rs m p f :=
  dec_same (decR_same fun k => by
    have : dnL rs 4 = rk rs 3 ++ rk rs 2 ++ rk rs 1 ++ rk rs 0 := by simp [dnL]
    rw [this]; exact sorted_down rs m p f k)
theorem own_below {base e size n : Nat} {v : Value} {xs : List Value} {A B : World} (h : A.ownsRow base e size v n xs) (hb : Below A.heap.size A B) : B.ownsRow base e size v n xs :=
  h.kept (row := none) ⟨hb.os, hb.tape, hb.output, hb.size, fun i hi _ => hb.block i hi⟩ (by cases v.ownBlock <;> simp)
/-- The two slices lie in different blocks. -/
def Sep (u v : Value) : Prop := ∀ k, u.ownBlock = some k → v.ownBlock ≠ some k
theorem Sep.symm {u v : Value} (h : Sep u v) : Sep v u := fun k h1 h2 => h k h2 h1
theorem Sep.ne {u v : Value} (h : Sep u v) : v.ownBlock = none ∨ v.ownBlock ≠ u.ownBlock := by
  cases hv : v.ownBlock with
  | none => exact .inl rfl
  | some k => exact .inr fun e => h k e.symm hv
theorem Sep.step {W : World} {base e size n : Nat} {u u' v : Value} {xs : List Value} (h : Sep u v) (hv : W.ownsRow base e size v n xs) (hat : u'.ownBlock = u.ownBlock ∨ u'.ownBlock = some W.heap.size) : Sep u' v := by
  intro k hk hvk
  rcases hat with h1 | h1
  · exact h k (h1 ▸ hk) hvk
  · have := (hv.lt k hvk).2
    rw [h1] at hk; cases hk; omega
theorem news_plain (W : World) (t : TypeId) (cs : Array Value) (b : Nat) (hb : b = W.heap.size) : ∀ j u, cs.toList[j]? = some u → (W.alloc (.cells cs t)).cell? ((⟨b, 0, none⟩ : Addr).add j) = some u := by
  subst hb
  exact World.news_of_block (cs := cs) (t := t) (fr := (0, 0)) (heap_alloc_new W _)
theorem blk_grown {W w1 : World} {row : Option Nat} {B : Nat} {t : TypeId} {cs : Array Value} (h : Blk W B t cs) (hg : W.grownBy w1 row) (hne : row ≠ some B) : Blk w1 B t cs :=
  (hg.block B (Array.getElem?_eq_some_iff.1 (show W.heap[B]? = _ from h)).1 (fun e => hne e.symm)).trans h
theorem blk_below {W w1 : World} {B : Nat} {t : TypeId} {cs : Array Value} (h : Blk W B t cs) (hb : Below W.heap.size W w1) : Blk w1 B t cs :=
  (hb.block B (Array.getElem?_eq_some_iff.1 (show W.heap[B]? = _ from h)).1).trans h
theorem blk_lt {W : World} {B : Nat} {t : TypeId} {cs : Array Value} (h : Blk W B t cs) : B < W.heap.size := (Array.getElem?_eq_some_iff.1 (show W.heap[B]? = _ from h)).1
theorem blk_alloc {W : World} {B : Nat} {t : TypeId} {cs : Array Value} (h : Blk W B t cs) (o : Obj) : Blk (W.alloc o) B t cs := blk_below h ((Below.refl _ W).alloc (Nat.le_refl _) o)
theorem bl5 {W : World} {B : Nat} {t : TypeId} {c0 c1 c2 c3 c4 : Value} (h : Blk W B t #[c0, c1, c2, c3, c4]) : W.cell? ⟨B, 0, none⟩ = some c0 ∧ W.cell? ⟨B, 1, none⟩ = some c1 ∧ W.cell? ⟨B, 2, none⟩ = some c2 ∧ W.cell? ⟨B, 3, none⟩ = some c3 ∧ W.cell? ⟨B, 4, none⟩ = some c4 :=
  ⟨h.cell 0, h.cell 1, h.cell 2, h.cell 3, h.cell 4⟩
end Go.Proofs.Ytojmcgobihegpaa
