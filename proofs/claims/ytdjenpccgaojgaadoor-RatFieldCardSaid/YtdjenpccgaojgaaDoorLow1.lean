/-
  RatLowest: the plain law.
-/
import Derived.Test.YtdjenpccgaojgaaDoorAwk
namespace Go.Proofs.YtdjenpccgaojgaaDoor
open Go.RowKit
theorem mk_mul {n d s : Int} (h : okB n d = true) (hs : s ≠ 0) : mkR (n * s) (d * s) = ⟨n, d, 0⟩ := by
  obtain ⟨a1, a2, a3, a4, hg⟩ := okB_bd h
  have hsn : 0 < s.natAbs := by omega
  have hds : d * s ≠ 0 := by
    intro e
    rcases Int.mul_eq_zero.1 e with e | e <;> omega
  have g1 : Nat.gcd (n * s).natAbs (d * s).natAbs = s.natAbs := by
    rw [Int.natAbs_mul, Int.natAbs_mul, Nat.gcd_mul_right, hg, Nat.one_mul]
  have q1 : (n * s).natAbs / s.natAbs = n.natAbs := by rw [Int.natAbs_mul]; exact Nat.mul_div_cancel _ hsn
  have q2 : (d * s).natAbs / s.natAbs = d.natAbs := by rw [Int.natAbs_mul]; exact Nat.mul_div_cancel _ hsn
  unfold mkR
  rw [if_neg hds, g1, q1, q2, if_neg (by omega)]
  have e2 : ((d.natAbs : Nat) : Int) = d := by omega
  have e1 : (if decide (n * s < 0) = decide (d * s < 0) then ((n.natAbs : Nat) : Int) else -((n.natAbs : Nat) : Int)) = n := by
    rcases Int.lt_or_lt_of_ne hs with hneg | hpos
    · have hd : d * s < 0 := Int.mul_neg_of_pos_of_neg (by omega) hneg
      rcases Int.lt_trichotomy n 0 with hn | hn | hn
      · have : 0 < n * s := Int.mul_pos_of_neg_of_neg hn hneg
        rw [decide_eq_true hd, decide_eq_false (by omega)]; simp; omega
      · subst hn; simp
      · have : n * s < 0 := Int.mul_neg_of_pos_of_neg hn hneg
        rw [decide_eq_true hd, decide_eq_true this]; simp; omega
    · have hd : 0 < d * s := Int.mul_pos (by omega) hpos
      rcases Int.lt_trichotomy n 0 with hn | hn | hn
      · have : n * s < 0 := Int.mul_neg_of_neg_of_pos hn hpos
        rw [decide_eq_true this, decide_eq_false (show ¬ d * s < 0 by omega)]; simp; omega
      · subst hn; simp
      · have : 0 < n * s := Int.mul_pos hn hpos
        rw [decide_eq_false (show ¬ n * s < 0 by omega), decide_eq_false (show ¬ d * s < 0 by omega)]; simp; omega
  rw [e1, e2]
theorem mul_bd {a f : Int} (a0 : -1073741824 ≤ a) (a1 : a ≤ 1073741824) (f0 : 1 ≤ f) (f1 : f ≤ 1000) : -1073741824000 ≤ a * f ∧ a * f ≤ 1073741824000 := by
  have h1 : a.natAbs ≤ 1073741824 := by omega
  have h2 : f.natAbs ≤ 1000 := by omega
  have h3 := Nat.mul_le_mul h1 h2
  rw [← Int.natAbs_mul] at h3
  omega
theorem add_bad {n d : Int} (h : okB n d = false) : opR 0 n d 0 1 = ⟨0, 0, 2⟩ := by unfold opR; rw [h]; rfl
end Go.Proofs.YtdjenpccgaojgaaDoor
