/-
  The queue that is next: release, best$1, least, best.
-/
import Derived.Test.YthahnliddoijoaaBase
import Derived.Test.YthahnliddoijoaaMod
import Derived.Deep.Draws
namespace Go.Proofs.Ythahnliddoijoaa
open Go.RowKit
/-- A queue at block b from cell o on: what waits, the bag, the time from which on the next frame may leave. D: where the payloads lie. -/
structure QF (w : World) (b o : Nat) (q : AQ) (D : Nat → Value) : Prop where
  few : q.items.length ≤ 16
  ring : ∃ f : Nat, f < 16 ∧ w.cell? ⟨b, o + 80, none⟩ = some (.int .i64 f) ∧
    ∀ i x, q.items[i]? = some x → w.cell? ⟨b, o + ((f + i) % 16) * 5, none⟩ = some (.int .i64 x.time) ∧ w.cell? ⟨b, o + ((f + i) % 16) * 5 + 1, none⟩ = some (.int .i64 x.vl) ∧
      w.cell? ⟨b, o + ((f + i) % 16) * 5 + 2, none⟩ = some (.int .i64 x.net) ∧ w.cell? ⟨b, o + ((f + i) % 16) * 5 + 3, none⟩ = some (.int .i64 x.seq) ∧ w.cell? ⟨b, o + ((f + i) % 16) * 5 + 4, none⟩ = some (D i)
  many : w.cell? ⟨b, o + 81, none⟩ = some (.int .i64 q.items.length)
  bag : w.cell? ⟨b, o + 82, none⟩ = some (.int .i64 q.bag)
  from_ : w.cell? ⟨b, o + 83, none⟩ = some (.int .i64 q.from_)
theorem QF.head {w : World} {b o : Nat} {q : AQ} {D : Nat → Value} (h : QF w b o q D) {x : It} {l : List It} (hq : q.items = x :: l) : ∃ f : Nat, f < 16 ∧ w.cell? ⟨b, o + 80, none⟩ = some (.int .i64 f) ∧ w.cell? ⟨b, o + f * 5, none⟩ = some (.int .i64 x.time) := by
  obtain ⟨f, hf, hc, hi⟩ := h.ring
  have := (hi 0 x (by rw [hq]; rfl)).1
  rw [Nat.add_zero, Nat.mod_eq_of_lt hf] at this
  exact ⟨f, hf, hc, this⟩
set_option maxRecDepth 100000 in
set_option maxHeartbeats 1000000 in
theorem release_cells (b o f : Nat) (t u : Int) (w : World) (hf : f < 16) (h1 : w.cell? ⟨b, o + 80, none⟩ = some (.int .i64 f)) (h2 : w.cell? ⟨b, o + f * 5, none⟩ = some (.int .i64 t)) (h3 : w.cell? ⟨b, o + 83, none⟩ = some (.int .i64 u)) :
    Calls Try.prog 30 #[.pointer (some ⟨b, o, none⟩)] w fun e w' => e = .returned (.int .i64 (if t < u then u else t)) ∧ ∃ n, w' = w.drewN n := by
  have f0 : (0 : Int) ≤ (f : Int) := by omega
  have f1 : (f : Int) < 16 := by omega
  go_enter Try.func30, Try.ntmps30
  go_wp2_with fail
  go_quiet (fail)
  go_wp2_with fail
  all_goals (go_ret; exact ⟨rfl, _, rfl⟩)
theorem release_any (b o : Nat) (q : AQ) (D : Nat → Value) (w : World) (h : QF w b o q D) (hn : q.items ≠ []) :
    Calls Try.prog 30 #[.pointer (some ⟨b, o, none⟩)] w fun e w' => e = .returned (.int .i64 q.rel) ∧ ∃ n, w' = w.drewN n := by
  cases hq : q.items with
  | nil => exact (hn hq).elim
  | cons x l =>
    obtain ⟨f, hf, h1, h2⟩ := h.head hq
    have := release_cells b o f x.time q.from_ w hf h1 h2 h.from_
    unfold AQ.rel; rw [hq]; exact this
set_option maxRecDepth 100000 in
set_option maxHeartbeats 1000000 in
theorem some_any (b o : Nat) (q : AQ) (D : Nat → Value) (w : World) (h : QF w b o q D) :
    Calls Try.prog 45 #[.pointer (some ⟨b, o, none⟩)] w fun e w' => e = .returned (.bool (!q.items.isEmpty)) ∧ w = w' := by
  have hm := h.many
  have hE : Hid (decide (0 < (q.items.length : Int)) = !q.items.isEmpty) := by cases q.items <;> simp [Hid]
  clear h
  go_enter Try.func45, Try.ntmps45
  go_wp2_with fail
  go_ret
  exact ⟨ret_bool (by rw [← hE.out]; simp), rfl⟩
end Go.Proofs.Ythahnliddoijoaa
