/-
  set, has.
-/
import Derived.Test.YthahnliddoijoaaSq
namespace Go.Proofs.Ythahnliddoijoaa
open Go.RowKit
set_option maxRecDepth 100000 in
set_option maxHeartbeats 1000000 in
theorem set_late (a : Nat) (now t : Int) (w : World) (h : w.cell? ⟨a, 0, none⟩ = some (.int .i64 now)) (hl : Hid ((decide (t < now) || decide (1073741824 < t)) = true)) :
    Calls Try.prog 24 #[.pointer (some ⟨a, 0, none⟩), .int .i64 t] w fun e w' => e = .returned (.bool false) ∧ w = w' := by
  by_cases h1 : t < now
  · go_enter Try.func24, Try.ntmps24
    go_wp2_with fail
    go_ret
    exact ⟨rfl, rfl⟩
  · have h2 : 1073741824 < t := by have := hl.out; simpa [h1] using this
    clear hl
    go_enter Try.func24, Try.ntmps24
    go_wp2_with fail
    go_ret
    exact ⟨rfl, rfl⟩
set_option maxRecDepth 100000 in
set_option maxHeartbeats 1000000 in
theorem set_fine (a : Nat) (now t : Int) (w : World) (h : w.cell? ⟨a, 0, none⟩ = some (.int .i64 now)) (hf : w.frozen? ⟨a, 0, none⟩ = false) (hl : Hid ((decide (t < now) || decide (1073741824 < t)) = false)) :
    Calls Try.prog 24 #[.pointer (some ⟨a, 0, none⟩), .int .i64 t] w fun e w' => e = .returned (.bool true) ∧ w' = w.setCell ⟨a, 0, none⟩ (.int .i64 t) := by
  have h1 : ¬ t < now ∧ ¬ 1073741824 < t := by have := hl.out; simpa using this
  obtain ⟨h1, h2⟩ := h1
  go_enter Try.func24, Try.ntmps24
  go_wp2_with fail
  go_ret
  exact ⟨rfl, rfl⟩
set_option maxRecDepth 100000 in
set_option maxHeartbeats 1000000 in
theorem has_any (a : Nat) (A : Option Addr) (n cap : Nat) (vl : Int) (w : World) (h : w.cell? ⟨a, 1, none⟩ = some (.slice A n cap)) :
    Calls Try.prog 23 #[.pointer (some ⟨a, 0, none⟩), .int .i64 vl] w fun e w' => e = .returned (.bool (decide (0 ≤ vl) && decide (vl < n))) ∧ w = w' := by
  by_cases h0 : 0 ≤ vl
  · go_enter Try.func23, Try.ntmps23
    go_wp2_with fail
    go_ret
    exact ⟨by simp [h0], rfl⟩
  · have h1 : decide (0 ≤ vl) = false := by simpa using h0
    go_enter Try.func23, Try.ntmps23
    go_wp2_with fail
    go_ret
    exact ⟨by simp [h0], rfl⟩
end Go.Proofs.Ythahnliddoijoaa
