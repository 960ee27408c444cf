/-
  RatLong: the plain law.
-/
import Derived.Test.YtdjenpccgaojgaaDoorAwk
import Derived.Test.YtdjenpccgaojgaaDoorLow1
import Derived.Test.YtdjenpccgaojgaaDoorRnd
namespace Go.Proofs.YtdjenpccgaojgaaDoor
open Go.RowKit
theorem mk_one {n : Int} (h0 : -1073741824 ≤ n) (h1 : n ≤ 1073741824) : mkR n 1 = ⟨n, 1, 0⟩ := by
  unfold mkR
  rw [if_neg (by decide), show (1 : Int).natAbs = 1 from rfl, Nat.gcd_one_right, Nat.div_one, Nat.div_one, if_neg (by omega)]
  rw [show decide ((1 : Int) < 0) = false by decide]
  have e1 : (if decide (n < 0) = false then ((n.natAbs : Nat) : Int) else -((n.natAbs : Nat) : Int)) = n := by
    by_cases hn : n < 0
    · simp [hn]; omega
    · simp [hn]; omega
  rw [e1]; rfl
theorem ok_tiny {d : Int} (h0 : 1 ≤ d) (h1 : d ≤ 1073741824) : okB 1 d = true := by
  unfold okB
  rw [decide_eq_true h0, decide_eq_true h1]
  simp
theorem long_a {n : Int} (h0 : 0 ≤ n) (h1 : n ≤ 1000) : opR 0 1073741824 1 (-n) 1 = ⟨1073741824 - n, 1, 0⟩ := by
  unfold opR
  rw [okB_int (by omega) (by omega), okB_int (by omega) (by omega)]
  simp only [Bool.and_true, Bool.true_and]
  rw [if_pos (show (!((0 : Nat) == 3 && _)) = true from rfl)]
  unfold opN opD
  simp only [Int.mul_one]
  rw [← mk_one (show -1073741824 ≤ 1073741824 - n by omega) (by omega)]
  rfl
theorem long_b {n : Int} (h0 : 0 ≤ n) (h1 : n ≤ 1000) : opR 0 1073741824 1 (n + 1) 1 = ⟨0, 0, 3⟩ := by
  unfold opR
  rw [okB_int (by omega) (by omega), okB_int (by omega) (by omega)]
  simp only [Bool.and_true, Bool.true_and]
  rw [if_pos (show (!((0 : Nat) == 3 && _)) = true from rfl)]
  unfold opN opD
  simp only [Int.mul_one]
  unfold mkR
  rw [if_neg (by decide), show (1 : Int).natAbs = 1 from rfl, Nat.gcd_one_right, Nat.div_one, if_pos (by left; omega)]
theorem long_c {n : Int} (h0 : 0 ≤ n) (h1 : n ≤ 1000) : opR 2 1 1073741824 1 (2 + n) = ⟨0, 0, 3⟩ := by
  unfold opR
  rw [ok_tiny (by omega) (by omega), ok_tiny (by omega) (by omega)]
  simp only [Bool.and_true, Bool.true_and]
  rw [if_pos (by decide)]
  unfold opN opD
  simp only [Int.mul_one]
  unfold mkR
  rw [if_neg (by simp; omega)]
  simp only [Int.mul_one, show (1 : Int).natAbs = 1 from rfl, Nat.gcd_one_left, Nat.div_one]
  rw [if_pos (by right; omega)]
theorem long_d : opR 2 1073741824 1 1 1073741824 = ⟨1, 1, 0⟩ := mr_ext (by decide +kernel)
theorem long_e {n : Int} (h0 : 0 ≤ n) (h1 : n ≤ 1000) : opR 3 n 1 0 1 = ⟨0, 0, 2⟩ := by
  unfold opR
  rw [okB_int (show -1073741824 ≤ n by omega) (by omega)]
  rfl
end Go.Proofs.YtdjenpccgaojgaaDoor
