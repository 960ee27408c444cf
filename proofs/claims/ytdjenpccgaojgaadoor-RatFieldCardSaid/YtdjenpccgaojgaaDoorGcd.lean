/-
  rat: gcd, size.
-/
import Derived.Test.YtdjenpccgaojgaaDoorBase
import Derived.Lib.Hide
import Derived.Deep.Draws
namespace Go.Proofs.YtdjenpccgaojgaaDoor
open Go.RowKit
def lim63 : Int := 9223372036854775808
theorem sz_nat (n : Int) (h : n < 0) : (n.natAbs : Int) = -n := by omega
set_option maxRecDepth 100000 in
set_option maxHeartbeats 1000000 in
theorem size_any (n : Int) (w : World) (h0 : -9223372036854775808 ≤ n) (h1 : n ≤ 9223372036854775807) : Calls Tryd.prog 30 #[.int .i64 n] w fun e w' => e = .returned (.int .u64 n.natAbs) ∧ w = w' := by
  by_cases hn : n < 0
  · have HE := hide (sz_nat n hn)
    go_enter Tryd.func30, Tryd.ntmps30
    go_wp2_with fail
    go_ret
    exact ⟨by rw [HE.out]; exact ret_int (by omega), rfl⟩
  · have hn2 : decide (n < 0) = false := decide_eq_false hn
    have HE := hide (show (n.natAbs : Int) = n by omega)
    go_enter Tryd.func30, Tryd.ntmps30
    go_wp2_with fail
    go_ret
    exact ⟨by rw [HE.out]; rfl, rfl⟩
set_option maxRecDepth 100000 in
set_option maxHeartbeats 1000000 in
theorem gcd_any (a b : Nat) (w : World) (ha : a ≤ 9223372036854775808) (hb : b ≤ 9223372036854775808) : Calls Tryd.prog 29 #[.int .u64 a, .int .u64 b] w fun e w' => e = .returned (.int .u64 (Nat.gcd a b)) ∧ ∃ d, w' = w.drewN d := by
  go_enter Tryd.func29, Tryd.ntmps29
  go_wp2_with fail
  go_loopw [0, 1] (fun v0 v1 wr => ∃ x y : Nat, x ≤ 9223372036854775808 ∧ y ≤ 9223372036854775808 ∧ v0 = .int .u64 x ∧ v1 = .int .u64 y ∧ Nat.gcd x y = Nat.gcd a b ∧ ∃ d, wr = w.drewN d) (fun _ v1 _ => (intOf v1).toNat)
  case atStart => exact ⟨a, b, ha, hb, rfl, rfl, rfl, 0, rfl⟩
  case round =>
    obtain ⟨x, y, hx, hy, rfl, rfl, hg, d, rfl⟩ := hrel
    have HG := hide hg
    clear hg
    by_cases hy0 : y = 0
    · have HZ : Hid (x = Nat.gcd a b) := by rw [← HG.out, hy0, Nat.gcd_zero_right]; exact rfl
      subst hy0
      rw [show ((0 : Nat) : Int) = 0 from rfl]
      go_wp2_with fail
      go_ret
      exact ⟨by rw [← HZ.out]; rfl, _, rfl⟩
    · have hyb : ((y : Int) != 0) = true := by simp; omega
      have hyb2 : ((y : Int) == 0) = false := by simp; omega
      have hyp : (0 : Int) < (y : Int) := by omega
      have hx0 : (0 : Int) ≤ (x : Int) := by omega
      have HM : Hid ((x : Int) % (y : Int) = ((x % y : Nat) : Int)) := rfl
      have hlt := Nat.mod_lt x (show 0 < y by omega)
      have HGM : Hid (Nat.gcd y (x % y) = Nat.gcd a b) := by rw [← HG.out, Nat.gcd_comm x y, Nat.gcd_rec y x, Nat.gcd_comm]; exact rfl
      generalize x % y = r at *
      go_wp2_with fail
      go_quiet (fail)
      go_wp2_with fail
      go_roundw
      case rel => exact ⟨y, r, by omega, by omega, rfl, by first | rfl | (rw [HM.out]), HGM.out, _, World.drewN_drewN _ _ _⟩
      case measure => have := HM.out; simp [intOf]; omega
end Go.Proofs.YtdjenpccgaojgaaDoor
