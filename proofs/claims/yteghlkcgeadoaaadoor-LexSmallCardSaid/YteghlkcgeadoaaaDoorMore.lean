/-
  lex: (*cursor).more.
-/
import Derived.Test.YteghlkcgeadoaaaDoorTest3
namespace Go.Proofs.YteghlkcgeadoaaaDoor
open Go.RowKit
attribute [local go_sem] Later.cell
set_option maxRecDepth 100000 in
set_option maxHeartbeats 1000000 in
theorem more_yes (sb f k : Nat) (caps : Array Value) (p : UInt8 → Bool) (F : Nat → Prop) (src : ByteArray) (W : World) (c0 : W.cell? ⟨sb, 0, none⟩ = some (.string src)) (c1 : W.cell? ⟨sb, 1, none⟩ = some (.int .i64 (k : Int))) (hk : k < src.size) (_hs : src.size ≤ 1099511627776) (hT : Hid (IsT F W f caps p)) :
    Calls Tryd.prog 44 #[.pointer (some ⟨sb, 0, none⟩), .func (.func f) #[] caps] W fun e W' => e = .returned (.bool (p src[k])) ∧ Below W.heap.size W W' := by
  have hen := hT.out.enters
  have hsb : sb < W.heap.size := World.block_lt_of_cell? W ⟨sb, 0, none⟩ c0
  have HC := hide (fun s : Later W => (hT.out.below s.below).says s.w (fun _ _ => rfl) src[k])
  have k0 : (0 : Int) ≤ (k : Int) := by omega
  have k1 : (k : Int) < (src.size : Int) := by omega
  go_enter Tryd.func44, Tryd.ntmps44
  go_wp2_with fail
  refine wp_region_later (by kernel_rfl) (by kernel_rfl) ?_
  repeat (go_big_quiet_step (exact Later.call (HC.out _)))
  refine wpQuiet_nil ?_
  intro _ hw'
  obtain ⟨nq, hw''⟩ := hw'
  subst hw''
  go_wp2_with fail
  go_ret
  exact ⟨rfl, nq.below⟩
set_option maxRecDepth 100000 in
set_option maxHeartbeats 1000000 in
theorem more_end (sb k : Nat) (v : Value) (src : ByteArray) (W : World) (c0 : W.cell? ⟨sb, 0, none⟩ = some (.string src)) (c1 : W.cell? ⟨sb, 1, none⟩ = some (.int .i64 (k : Int))) (hk : src.size ≤ k) (_hs : src.size ≤ 1099511627776) :
    Calls Tryd.prog 44 #[.pointer (some ⟨sb, 0, none⟩), v] W fun e W' => e = .returned (.bool false) ∧ Below W.heap.size W W' := by
  have hsb : sb < W.heap.size := World.block_lt_of_cell? W ⟨sb, 0, none⟩ c0
  have k1 : decide (k < src.size) = false := by simp; omega
  go_enter Tryd.func44, Tryd.ntmps44
  go_wp2_with fail
  go_quiet (fail)
  go_wp2_with fail
  go_ret
  exact ⟨rfl, below_drewN (Below.refl _ _) _⟩
end Go.Proofs.YteghlkcgeadoaaaDoor
