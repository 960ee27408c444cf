/-
  health.Row and health.Decide: contracts.
-/
import Derived.Test.YtojmcgobihegpaaIter
import Derived.Laws.EntriesVeiled
namespace Go.Proofs.Ytojmcgobihegpaa
open Go.RowKit Go.Shelf
attribute [local go_sem] Oper.semAt_some
/-- concerning's value 'SeqStopsK'. -/
theorem iter_stops (B1 B2 B3 B4 B5 lo hi n₀ n cap : Nat) (a : Option Addr) (rs : List HRow) (m p : ByteArray) (f : Int) (hn : n ≤ 9223372036854775807) (HL : Hid (rs.length = n))
    (w : World) (hn₀ : n₀ ≤ w.heap.size) (hlo : lo ≤ n₀)
    (hB1 : B1 < n₀ ∧ (B1 < lo ∨ hi ≤ B1)) (hB2 : B2 < n₀ ∧ (B2 < lo ∨ hi ≤ B2)) (hB3 : B3 < n₀ ∧ (B3 < lo ∨ hi ≤ B3)) (hB4 : B4 < n₀ ∧ (B4 < lo ∨ hi ≤ B4)) (hB5 : B5 < n₀ ∧ (B5 < lo ∨ hi ≤ B5))
    (h1 : w.cell? ⟨B1, 0, none⟩ = some (.slice a n cap)) (h2 : w.cell? ⟨B2, 0, none⟩ = some (.int .u8 f)) (h3 : w.cell? ⟨B3, 0, none⟩ = some (.func (.func 32) #[] #[]))
    (h4 : w.cell? ⟨B4, 0, none⟩ = some (.string m)) (h5 : w.cell? ⟨B5, 0, none⟩ = some (.string p)) (hR : HRows lo w a rs) :
    SeqStopsK Fence.wide 4 Try.prog 33 #[.pointer (some ⟨B1, 0, none⟩), .pointer (some ⟨B2, 0, none⟩), .pointer (some ⟨B3, 0, none⟩), .pointer (some ⟨B4, 0, none⟩), .pointer (some ⟨B5, 0, none⟩)] encs (KeepsBut lo hi n₀)
      (fun ys => ys = concs rs m p f) (fun pre => pre <+: concs rs m p f) rs.length w := fun l J Jx W hW hab _ hY h0 => by
  have hc := (bcell hW).1
  refine iter_in l B1 B2 B3 B4 B5 lo hi n₀ n cap a rs m p f J Jx hn HL W (Nat.le_trans hn₀ hW.size) hlo hab hY hB2 hB3 hB4 hB5 ?_ ?_ ?_ ?_ ?_ ?_ h0
  · rw [hc _ _ (by omega)]; exact h1
  · rw [hc _ _ (by omega)]; exact h2
  · rw [hc _ _ (by omega)]; exact h3
  · rw [hc _ _ (by omega)]; exact h4
  · rw [hc _ _ (by omega)]; exact h5
  · exact hR.keep fun b o hb => hc b o (by omega)
set_option maxHeartbeats 800000 in
theorem concerning_any (a : Option Addr) (n cap : Nat) (m p : ByteArray) (f : Int) (w : World) :
    Calls Try.prog 26 #[.slice a n cap, .string m, .string p, .int .u8 f] w fun e w' =>
      e = .returned (.func (.func 33) #[] #[.pointer (some ⟨w.heap.size, 0, none⟩), .pointer (some ⟨w.heap.size + 3, 0, none⟩), .pointer (some ⟨w.heap.size + 4, 0, none⟩), .pointer (some ⟨w.heap.size + 1, 0, none⟩), .pointer (some ⟨w.heap.size + 2, 0, none⟩)]) ∧
      w'.cell? ⟨w.heap.size, 0, none⟩ = some (.slice a n cap) ∧ w'.cell? ⟨w.heap.size + 3, 0, none⟩ = some (.int .u8 f) ∧ w'.cell? ⟨w.heap.size + 4, 0, none⟩ = some (.func (.func 32) #[] #[]) ∧
      w'.cell? ⟨w.heap.size + 1, 0, none⟩ = some (.string m) ∧ w'.cell? ⟨w.heap.size + 2, 0, none⟩ = some (.string p) ∧ w'.heap.size = w.heap.size + 5 ∧ Below w.heap.size w w' := by
  go_enter Try.func26, Try.ntmps26
  have hmf : ∀ (fn : Fn) (first cap : Array Value) (w : World), (Instr.makeFunc fn first cap).run Try.prog w = .ok (.func fn first cap) w := fun _ _ _ _ => rfl
  go_wp2
  go_ret
  refine ⟨rfl, ?_⟩
  exact ⟨by simp [go_sem], by simp [go_sem], by simp [go_sem], by simp [go_sem], by simp [go_sem], by simp, by go_grown⟩
end Go.Proofs.Ytojmcgobihegpaa
