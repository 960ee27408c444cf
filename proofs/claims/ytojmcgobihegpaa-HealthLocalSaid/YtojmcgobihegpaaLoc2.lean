/-
  HealthLocal: every number of rows.
-/
import Derived.Test.YtojmcgobihegpaaLoc1
namespace Go.Proofs.Ytojmcgobihegpaa
open Go.RowKit
set_option maxRecDepth 100000 in
set_option maxHeartbeats 1000000 in
theorem loc_any (A : Option Addr) (n cap : Nat) (rs : List HRow) (r : HRow) (at_ : Int) (m p : ByteArray) (f : Int) (w : World) (hn : n ≤ 9223372036854775807) (HL : Hid (rs.length = n)) (hR : Hid (HRows w.heap.size w A rs)) (hcap : n ≤ cap)
    (ho : r.ok) (a0 : 0 ≤ at_) (a1 : at_ ≤ 255) :
    Calls Try.prog 5 #[.slice A n cap, r.val, .int .u8 at_, .string m, .string p, .int .u8 f] w fun e w' => e = .returned (.bool true) ∧ Below w.heap.size w w' := by
  by_cases hf : n ≤ 64
  case neg =>
    obtain ⟨rm, rp, rf, rl, rd⟩ := r
    unfold HRow.val
    simp only
    go_enter Try.func5, Try.ntmps5
    go_wp2_with (first
      | (go_at_call 10; refine (few_any _ _ _ _).mono ?_; rintro e w' ⟨rfl, rfl⟩)
      | (go_at_call 11; refine (awake_any _).mono ?_; rintro e w' ⟨rfl, hb⟩))
    go_ret
    exact ⟨rfl, ((Below.refl _ _).alloc (Nat.le_refl _) _).trans (hb.mono (by simp))⟩
  case pos => exact loc_main A n cap rs r at_ m p f w hn HL hR hf hcap ho a0 a1
end Go.Proofs.Ytojmcgobihegpaa
