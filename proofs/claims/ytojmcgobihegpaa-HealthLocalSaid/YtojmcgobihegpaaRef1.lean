/-
  The reference of layer 28: contracts of its functions on one row.
-/
import Derived.Test.YtojmcgobihegpaaDec
namespace Go.Proofs.Ytojmcgobihegpaa
open Go.RowKit
set_option maxHeartbeats 1600000 in
theorem rfits_any (f l d : Int) (w : World) :
    Calls Try.prog 17 #[.int .u8 f, .int .u8 l, .int .u8 d] w fun e w' => e = .returned (.bool (fitsB f l d)) ∧ w = w' := by
  go_enter Try.func17, Try.ntmps17
  go_wp2

  all_goals go_ret
  all_goals refine ⟨ret_bool ?_, rfl⟩
  all_goals (unfold fitsB knownB modularB actsB; grind)
set_option maxHeartbeats 400000 in
theorem rrank_any (r : HRow) (w : World) :
    Calls Try.prog 29 #[r.val] w fun e w' => e = .returned (.int .i64 (rankZ r)) ∧ w' = w.alloc (.cells r.cells 36) := by
  obtain ⟨m, p, f, l, d⟩ := r
  have HR := hide (show rankZ ⟨m, p, f, l, d⟩ = (if m.toList.isEmpty then 0 else 2) + (if p.toList.isEmpty then 0 else 1) from rfl)
  unfold HRow.val HRow.cells
  simp only
  cases h1 : m.toList.isEmpty <;> cases h2 : p.toList.isEmpty
  all_goals
    go_enter Try.func29, Try.ntmps29
    go_wp2
    go_ret
    exact ⟨ret_int (by rw [HR.out, h1, h2]; rfl), rfl⟩
end Go.Proofs.Ytojmcgobihegpaa
