/-
  ShaperWrong: the functions without a shaper; the states.
-/
import Derived.Test.YtdfhnbkmppdplaaShp1
namespace Go.Proofs.Ytdfhnbkmppdplaa
open Go.RowKit
set_option maxRecDepth 100000 in
set_option maxHeartbeats 1000000 in
theorem next_nil (z : Nat) (t : Int) (w : World)  : Calls Try.prog 16 #[(.pointer none), .int .i64 t] w fun e w' => e = .returned (.tuple #[.agg #[.int .i64 0, .int .i64 0, .int .i64 0, .slice none 0 0], .bool false, .int .i64 1]) ∧ Below w.heap.size w w' := by
  go_enter Try.func16, Try.ntmps16
  go_wp2_with fail
  refine bodyPost_ret (v := .tuple #[.agg #[.int .i64 0, .int .i64 0, .int .i64 0, .slice none 0 0], .bool false, .int .i64 1]) (by simp [results, Try.results16, go_sem]) rfl ⟨rfl, (Below.refl _ _).alloc (Nat.le_refl _) _⟩
set_option maxRecDepth 100000 in
set_option maxHeartbeats 1000000 in
theorem when_nil (z : Nat) (w : World)  : Calls Try.prog 17 #[(.pointer none)] w fun e w' => e = .returned (.tuple #[.int .i64 0, .bool false]) ∧ w = w' := by
  go_enter Try.func17, Try.ntmps17
  go_wp2_with fail
  go_ret2
  exact ⟨rfl, rfl⟩
set_option maxRecDepth 100000 in
set_option maxHeartbeats 1000000 in
theorem offer_nil (z : Nat) (t vl net seq : Int) (w : World)  : Calls Try.prog 15 #[(.pointer none), .int .i64 t, .agg #[.int .i64 vl, .int .i64 net, .int .i64 seq, .slice none 0 0]] w fun e w' => e = .returned (.int .i64 1) ∧ Below w.heap.size w w' := by
  go_enter Try.func15, Try.ntmps15
  go_wp2_with fail
  go_ret
  exact ⟨rfl, (Below.refl _ _).alloc (Nat.le_refl _) _⟩
set_option maxRecDepth 100000 in
set_option maxHeartbeats 1000000 in
theorem next_zero (z : Nat) (t : Int) (w : World) (hz : w.cell? ⟨z, 2, none⟩ = some (.bool false)) (hzl : z < w.heap.size) : Calls Try.prog 16 #[(.pointer (some ⟨z, 0, none⟩)), .int .i64 t] w fun e w' => e = .returned (.tuple #[.agg #[.int .i64 0, .int .i64 0, .int .i64 0, .slice none 0 0], .bool false, .int .i64 1]) ∧ Below w.heap.size w w' := by
  go_enter Try.func16, Try.ntmps16
  go_wp2_with fail
  refine bodyPost_ret (v := .tuple #[.agg #[.int .i64 0, .int .i64 0, .int .i64 0, .slice none 0 0], .bool false, .int .i64 1]) (by simp [results, Try.results16, go_sem]) rfl ⟨rfl, (Below.refl _ _).alloc (Nat.le_refl _) _⟩
set_option maxRecDepth 100000 in
set_option maxHeartbeats 1000000 in
theorem when_zero (z : Nat) (w : World) (hz : w.cell? ⟨z, 2, none⟩ = some (.bool false)) (hzl : z < w.heap.size) : Calls Try.prog 17 #[(.pointer (some ⟨z, 0, none⟩))] w fun e w' => e = .returned (.tuple #[.int .i64 0, .bool false]) ∧ w = w' := by
  go_enter Try.func17, Try.ntmps17
  go_wp2_with fail
  go_ret2
  exact ⟨rfl, rfl⟩
set_option maxRecDepth 100000 in
set_option maxHeartbeats 1000000 in
theorem offer_zero (z : Nat) (t vl net seq : Int) (w : World) (hz : w.cell? ⟨z, 2, none⟩ = some (.bool false)) (hzl : z < w.heap.size) : Calls Try.prog 15 #[(.pointer (some ⟨z, 0, none⟩)), .int .i64 t, .agg #[.int .i64 vl, .int .i64 net, .int .i64 seq, .slice none 0 0]] w fun e w' => e = .returned (.int .i64 1) ∧ Below w.heap.size w w' := by
  go_enter Try.func15, Try.ntmps15
  go_wp2_with fail
  go_ret
  exact ⟨rfl, (Below.refl _ _).alloc (Nat.le_refl _) _⟩
set_option maxRecDepth 100000 in
set_option maxHeartbeats 1000000 in
theorem waiting_nil (vl : Int) (w : World) : Calls Try.prog 22 #[.pointer none, .int .i64 vl] w fun e w' => e = .returned (.int .i64 0) ∧ w = w' := by
  go_enter Try.func22, Try.ntmps22
  go_wp2_with fail
  go_ret
  exact ⟨rfl, rfl⟩
set_option maxRecDepth 100000 in
set_option maxHeartbeats 1000000 in
theorem waiting_zero (z : Nat) (vl : Int) (w : World) (h1 : w.cell? ⟨z, 1, none⟩ = some (.slice none 0 0)) : Calls Try.prog 22 #[.pointer (some ⟨z, 0, none⟩), .int .i64 vl] w fun e w' => e = .returned (.int .i64 0) ∧ w = w' := by
  have HH := hide (has_any z none 0 0 vl w h1)
  have he : (decide (0 ≤ vl) && decide (vl < ((0 : Nat) : Int))) = false := by rw [Bool.and_eq_false_iff, decide_eq_false_iff_not, decide_eq_false_iff_not]; omega
  rw [he] at HH
  clear he
  go_enter Try.func22, Try.ntmps22
  go_wp2_with (go_at_call 34; refine (HH.out).mono ?_; rintro e w' ⟨rfl, rfl⟩)
  go_ret
  exact ⟨rfl, rfl⟩
def ws0 (b : Int) : AS := ⟨0, [⟨[], b, 0⟩, ⟨[], b, 0⟩]⟩
def wit (t : Int) : It := ⟨t, 1, 0, 5, []⟩
def ws1 (b t : Int) : AS := ⟨t, [⟨[], b, 0⟩, ⟨[wit t], b, 0⟩]⟩
theorem ws_new (b : Int) : AS.new [b, b] = ws0 b := rfl
theorem ws_offer (b t : Int) (h0 : 0 ≤ t) (h1 : t ≤ 999) : (ws0 b).offer t 1 0 5 [] = (ws1 b t, 0) := by
  have hl : (ws0 b).late t = false := by unfold AS.late ws0; simp; omega
  unfold AS.offer
  rw [hl, show (ws0 b).has 1 = true from rfl]
  rfl
theorem ws_late (b t u : Int) (h : u < t ∨ 1073741824 < u) : (ws1 b t).late u = true := by unfold AS.late ws1; simp; omega
theorem ws_no (b t u : Int) (h : u < t ∨ 1073741824 < u) : (ws1 b t).next u = (ws1 b t, none, 2) := by unfold AS.next; rw [ws_late b t u h]; rfl
theorem ws_off0 (b t : Int) : (ws1 b t).offer (t - 1) 0 0 0 [] = (ws1 b t, 2) := by
  unfold AS.offer
  rw [ws_late b t (t - 1) (by omega)]
  simp
theorem ws_has (b t v : Int) (h : v < 0 ∨ 2 ≤ v) : (ws1 b t).has v = false := by
  unfold AS.has ws1; simp; omega
theorem ws_offv (b t v : Int) (h : v < 0 ∨ 2 ≤ v) : (ws1 b t).offer t v 0 0 [] = (ws1 b t, 2) := by
  unfold AS.offer
  rw [ws_has b t v h]
  rfl
theorem ws_w0 (b t : Int) : (ws1 b t).waiting 0 = 0 := rfl
theorem ws_w1 (b t : Int) : (ws1 b t).waiting 1 = 1 := rfl
theorem ws_wv (b t v : Int) (h : v < 0 ∨ 2 ≤ v) : (ws1 b t).waiting v = 0 := by unfold AS.waiting; rw [ws_has b t v h]; rfl
theorem ws_yes (b t : Int) (h0 : 0 ≤ t) (h1 : t ≤ 999) : ∃ S, (ws1 b t).next t = (S, some (wit t), 0) := by
  have hl : (ws1 b t).late t = false := by unfold AS.late ws1; simp; omega
  have hb : (ws1 b t).best = some 1 := rfl
  have hr : ¬ t < ((ws1 b t).at 1).rel := by
    show ¬ t < (if t < 0 then (0 : Int) else t)
    split <;> omega
  unfold AS.next
  rw [hl, hb]
  simp only [Bool.false_eq_true, if_false]
  rw [if_neg hr]
  exact ⟨_, rfl⟩
end Go.Proofs.Ytdfhnbkmppdplaa
