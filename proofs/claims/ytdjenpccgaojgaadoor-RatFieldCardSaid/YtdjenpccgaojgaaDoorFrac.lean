/-
  rat: fractions, the plain laws of RatOrder and RatField.
-/
import Derived.Test.YtdjenpccgaojgaaDoorLong1
namespace Go.Proofs.YtdjenpccgaojgaaDoor
open Go.RowKit
theorem mk_scale {n d s : Int} (hd : d ≠ 0) (hs : s ≠ 0) : mkR (n * s) (d * s) = mkR n d := by
  have hsn : 0 < s.natAbs := by omega
  have hds : d * s ≠ 0 := by
    intro e
    rcases Int.mul_eq_zero.1 e with e | e <;> omega
  have g1 : Nat.gcd (n * s).natAbs (d * s).natAbs = Nat.gcd n.natAbs d.natAbs * s.natAbs := by rw [Int.natAbs_mul, Int.natAbs_mul, Nat.gcd_mul_right]
  have q1 : (n * s).natAbs / (Nat.gcd n.natAbs d.natAbs * s.natAbs) = n.natAbs / Nat.gcd n.natAbs d.natAbs := by rw [Int.natAbs_mul]; exact Nat.mul_div_mul_right _ _ hsn
  have q2 : (d * s).natAbs / (Nat.gcd n.natAbs d.natAbs * s.natAbs) = d.natAbs / Nat.gcd n.natAbs d.natAbs := by rw [Int.natAbs_mul]; exact Nat.mul_div_mul_right _ _ hsn
  unfold mkR
  rw [if_neg hds, if_neg hd, g1, q1, q2]
  by_cases hn : n = 0
  · subst hn
    simp
  have e : (decide (n * s < 0) = decide (d * s < 0)) ↔ (decide (n < 0) = decide (d < 0)) := by
    have key : ∀ a : Int, a ≠ 0 → decide (a * s < 0) = if 0 < s then decide (a < 0) else !decide (a < 0) := by
      intro a ha
      rcases Int.lt_or_lt_of_ne hs with hneg | hpos
      · rw [if_neg (by omega)]
        rcases Int.lt_or_lt_of_ne ha with h | h
        · have := Int.mul_pos_of_neg_of_neg h hneg
          rw [decide_eq_false (by omega), decide_eq_true h]; rfl
        · have := Int.mul_neg_of_pos_of_neg h hneg
          rw [decide_eq_true this, decide_eq_false (by omega)]; rfl
      · rw [if_pos hpos]
        rcases Int.lt_or_lt_of_ne ha with h | h
        · have := Int.mul_neg_of_neg_of_pos h hpos
          rw [decide_eq_true this, decide_eq_true h]
        · have := Int.mul_pos h hpos
          rw [decide_eq_false (by omega), decide_eq_false (by omega)]
    rw [key n hn, key d hd]
    by_cases h : 0 < s
    · simp [h]
    · simp [h]
  by_cases hc : decide (n < 0) = decide (d < 0)
  · rw [if_pos hc, if_pos (e.2 hc)]
  · rw [if_neg hc, if_neg (fun h => hc (e.1 h))]
/-- Equal fractions give the same number. -/
theorem mk_eq {N D N' D' : Int} (hD : D ≠ 0) (hD' : D' ≠ 0) (h : N * D' = N' * D) : mkR N D = mkR N' D' := by
  rw [← mk_scale (n := N) hD hD', ← mk_scale (n := N') hD' hD, h, Int.mul_comm D D']
/-- What a number that fits is. -/
theorem mk_val {N D : Int} (hD : 0 < D) (n0 : N.natAbs ≤ 1073741824) (d0 : D ≤ 1073741824) :
    ∃ n d : Int, mkR N D = ⟨n, d, 0⟩ ∧ okB n d = true ∧ n * D = N * d ∧ n.natAbs ≤ N.natAbs ∧ 1 ≤ d ∧ d ≤ D := by
  have hg : 0 < Nat.gcd N.natAbs D.natAbs := Nat.gcd_pos_of_pos_right _ (by omega)
  have ha := Nat.div_mul_cancel (Nat.gcd_dvd_left N.natAbs D.natAbs)
  have hb := Nat.div_mul_cancel (Nat.gcd_dvd_right N.natAbs D.natAbs)
  have hc : Nat.gcd (N.natAbs / Nat.gcd N.natAbs D.natAbs) (D.natAbs / Nat.gcd N.natAbs D.natAbs) = 1 := by
    rw [Nat.gcd_div (Nat.gcd_dvd_left _ _) (Nat.gcd_dvd_right _ _)]
    exact Nat.div_self hg
  have la : N.natAbs / Nat.gcd N.natAbs D.natAbs ≤ N.natAbs := Nat.div_le_self _ _
  have lb : D.natAbs / Nat.gcd N.natAbs D.natAbs ≤ D.natAbs := Nat.div_le_self _ _
  unfold mkR
  rw [if_neg (show D ≠ 0 by omega), if_neg (by omega), decide_eq_false (show ¬ D < 0 by omega)]
  generalize N.natAbs / Nat.gcd N.natAbs D.natAbs = a at *
  generalize D.natAbs / Nat.gcd N.natAbs D.natAbs = b at *
  generalize Nat.gcd N.natAbs D.natAbs = g at *
  have hb0 : 0 < b := by
    rcases Nat.eq_zero_or_pos b with h | h
    · subst h; omega
    · exact h
  have hD2 : D = (b : Int) * (g : Int) := by
    have : ((b * g : Nat) : Int) = (D.natAbs : Int) := by rw [hb]
    rw [Int.natCast_mul] at this; omega
  have hok : ∀ n : Int, n.natAbs = a → okB n b = true := by
    intro n hn
    unfold okB
    rw [decide_eq_true (show (1 : Int) ≤ b by omega), decide_eq_true (show (b : Int) ≤ 1073741824 by omega), decide_eq_true (show -1073741824 ≤ n by omega), decide_eq_true (show n ≤ 1073741824 by omega), hn, Int.natAbs_natCast, hc]
    rfl
  by_cases hn : N < 0
  · refine ⟨-(a : Int), b, ?_, hok _ (by omega), ?_, by omega, by omega, by omega⟩
    · rw [decide_eq_true hn]; rfl
    · have hN : N = -((a : Int) * (g : Int)) := by
        have : ((a * g : Nat) : Int) = (N.natAbs : Int) := by rw [ha]
        rw [Int.natCast_mul] at this; omega
      rw [hN, hD2]; grind
  · refine ⟨(a : Int), b, ?_, hok _ (by omega), ?_, by omega, by omega, by omega⟩
    · rw [decide_eq_false hn]; rfl
    · have hN : N = (a : Int) * (g : Int) := by
        have : ((a * g : Nat) : Int) = (N.natAbs : Int) := by rw [ha]
        rw [Int.natCast_mul] at this; omega
      rw [hN, hD2]; grind
theorem sgn_scale {a b s : Int} (hs : 0 < s) : sgn (a * s) (b * s) = sgn a b := by
  have h1 : a * s < b * s ↔ a < b := Int.mul_lt_mul_right hs
  have h2 : b * s < a * s ↔ b < a := Int.mul_lt_mul_right hs
  unfold sgn
  simp only [h1, h2]
theorem sgn_flip (a b : Int) : sgn b a = -sgn a b := by unfold sgn; split <;> split <;> (try split) <;> omega
/-- A number in lowest terms is known by its value. -/
theorem ok_uniq {x1 x2 y1 y2 : Int} (hx : okB x1 x2 = true) (hy : okB y1 y2 = true) (h : x1 * y2 = y1 * x2) : x1 = y1 ∧ x2 = y2 := by
  have h1 := mk_mul hx (show (1 : Int) ≠ 0 by decide)
  have h2 := mk_mul hy (show (1 : Int) ≠ 0 by decide)
  rw [Int.mul_one, Int.mul_one] at h1 h2
  have h3 := mk_eq (by have := (okB_bd hx).1; omega) (by have := (okB_bd hy).1; omega) h
  rw [h1, h2] at h3
  injection h3 with e1 e2
  exact ⟨e1, e2⟩
end Go.Proofs.YtdjenpccgaojgaaDoor
