/-
  A shaper in memory.
-/
import Derived.Test.YthahnliddoijoaaCopied
namespace Go.Proofs.Ythahnliddoijoaa
open Go.RowKit
def AS.ok (S : AS) : Prop := (0 ≤ S.now ∧ S.now ≤ 1073741824) ∧ ∀ i, i < S.qs.length → 1 ≤ (S.at i).bag ∧ (S.at i).bag ≤ 12800
/-- The shaper at block a: its queues at block b; the payloads at the blocks G; all of these are among P. -/
structure SH (w : World) (a : Nat) (S : AS) (P : Nat → Prop) (A : Option Addr) (b cap : Nat) (D : Nat → Nat → Value) (G : Nat → Nat → Nat) : Prop where
  head : w.heap[a]? = some (.cells #[.int .i64 S.now, .slice A S.qs.length cap, .bool true] 58 (0, 0))
  sq : SQ w A b S.qs.length S D
  dat : ∀ i j x, i < S.qs.length → (S.at i).items[j]? = some x → D i j = .slice (some ⟨G i j, 0, none⟩) x.bytes.length x.bytes.length ∧ w.heap[G i j]? = some (.cells (u8s x.bytes).toArray 5 (0, 0)) ∧ P (G i j) ∧ G i j ≠ a ∧ G i j ≠ b
  apart : ∀ i j i' j', i < S.qs.length → i' < S.qs.length → j < (S.at i).items.length → j' < (S.at i').items.length → G i j = G i' j' → i = i' ∧ j = j'
  pa : P a
  pb : 0 < S.qs.length → P b ∧ b ≠ a
  ok : S.ok
  inn : ∀ k, P k → k < w.heap.size
def SAt (w : World) (a : Nat) (S : AS) (P : Nat → Prop) : Prop := ∃ A b cap D G, SH w a S P A b cap D G
theorem blk_in {w : World} {a : Nat} {o : Obj} (h : w.heap[a]? = some o) : a < w.heap.size := (Array.getElem?_eq_some_iff.1 h).1
theorem SH.frame {w w' : World} {a : Nat} {S : AS} {P F : Nat → Prop} {A : Option Addr} {b cap : Nat} {D : Nat → Nat → Value} {G : Nat → Nat → Nat} (h : SH w a S P A b cap D G) (hk : Kept F w w') (hF : ∀ k, P k → ¬ F k) : SH w' a S P A b cap D G := by
  refine ⟨(hk.block a (blk_in h.head) (hF a h.pa)).trans h.head, h.sq.frame (fun hn => hk.block b (h.sq.lt hn) (hF b (h.pb hn).1)), fun i j x hi hx => ?_, h.apart, h.pa, h.pb, h.ok, fun k hp => Nat.lt_of_lt_of_le (h.inn k hp) hk.size⟩
  obtain ⟨h1, h2, h3, h4, h5⟩ := h.dat i j x hi hx
  exact ⟨h1, (hk.block _ (blk_in h2) (hF _ h3)).trans h2, h3, h4, h5⟩
theorem SAt.frame {w w' : World} {a : Nat} {S : AS} {P F : Nat → Prop} (h : SAt w a S P) (hk : Kept F w w') (hF : ∀ k, P k → ¬ F k) : SAt w' a S P := by
  obtain ⟨A, b, cap, D, G, h⟩ := h
  exact ⟨A, b, cap, D, G, h.frame hk hF⟩
theorem SAt.below {w w' : World} {a : Nat} {S : AS} {P : Nat → Prop} (h : SAt w a S P) (hk : Below w.heap.size w w') : SAt w' a S P := h.frame (F := fun _ => False) (.of_below hk) (fun _ _ h => h)
theorem SH.mono {w : World} {a : Nat} {S : AS} {P P' : Nat → Prop} {A : Option Addr} {b cap : Nat} {D : Nat → Nat → Value} {G : Nat → Nat → Nat} (h : SH w a S P A b cap D G) (hP : ∀ k, P k → P' k) (hin : ∀ k, P' k → k < w.heap.size) : SH w a S P' A b cap D G :=
  ⟨h.head, h.sq, fun i j x hi hx => by obtain ⟨h1, h2, h3, h4⟩ := h.dat i j x hi hx; exact ⟨h1, h2, hP _ h3, h4⟩, h.apart, hP _ h.pa, fun hn => ⟨hP _ (h.pb hn).1, (h.pb hn).2⟩, h.ok, hin⟩
theorem SAt.mono {w : World} {a : Nat} {S : AS} {P P' : Nat → Prop} (h : SAt w a S P) (hP : ∀ k, P k → P' k) (hin : ∀ k, P' k → k < w.heap.size) : SAt w a S P' := by
  obtain ⟨A, b, cap, D, G, h⟩ := h
  exact ⟨A, b, cap, D, G, h.mono hP hin⟩
/-- The clock is set. -/
theorem SH.set {w : World} {a : Nat} {S : AS} {P : Nat → Prop} {A : Option Addr} {b cap : Nat} {D : Nat → Nat → Value} {G : Nat → Nat → Nat} (h : SH w a S P A b cap D G) (t : Int) (t0 : 0 ≤ t) (t1 : t ≤ 1073741824) :
    SH (w.setCell ⟨a, 0, none⟩ (.int .i64 t)) a { S with now := t } P A b cap D G := by
  have hk : Kept (· = a) w (w.setCell ⟨a, 0, none⟩ (.int .i64 t)) := (Kept.refl (· = a) w).setCell (p := ⟨a, 0, none⟩) (.inl rfl) _
  refine ⟨?_, ?_, fun i j x hi hx => ?_, h.apart, h.pa, h.pb, ⟨⟨t0, t1⟩, h.ok.2⟩, fun k hp => Nat.lt_of_lt_of_le (h.inn k hp) hk.size⟩
  · have := h.head
    simp only [World.setCell, Array.getElem?_modify]
    rw [if_pos trivial, this]
    rfl
  · exact (h.sq.frame (fun hn => hk.block b (h.sq.lt hn) (h.pb hn).2)).now t
  · obtain ⟨h1, h2, h3, h4, h5⟩ := h.dat i j x hi hx
    exact ⟨h1, (hk.block _ (blk_in h2) h4).trans h2, h3, h4, h5⟩
theorem SH.cells {w : World} {a : Nat} {S : AS} {P : Nat → Prop} {A : Option Addr} {b cap : Nat} {D : Nat → Nat → Value} {G : Nat → Nat → Nat} (h : SH w a S P A b cap D G) :
    w.cell? ⟨a, 0, none⟩ = some (.int .i64 S.now) ∧ w.cell? ⟨a, 1, none⟩ = some (.slice A S.qs.length cap) ∧ w.cell? ⟨a, 2, none⟩ = some (.bool true) ∧ w.frozen? ⟨a, 0, none⟩ = false :=
  ⟨cell_of_row w a 0 _ _ _ h.head, cell_of_row w a 1 _ _ _ h.head, cell_of_row w a 2 _ _ _ h.head, frozen_of_row w a 0 _ _ h.head⟩
end Go.Proofs.Ythahnliddoijoaa
