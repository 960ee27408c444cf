/-
  RatOrder: the plain law.
-/
import Derived.Test.YtdjenpccgaojgaaDoorFrac
namespace Go.Proofs.YtdjenpccgaojgaaDoor
open Go.RowKit
/-- A number that the laws draw: numerator up to 1000, denominator up to 30. -/
structure Sm (n d : Int) : Prop where
  ok : okB n d = true
  nb : n.natAbs ≤ 1000
  d1 : 1 ≤ d
  db : d ≤ 30
theorem tmod_bd {n : Int} : (n.tmod 1001).natAbs ≤ 1000 := by
  rw [Int.natAbs_tmod]
  have := Nat.mod_lt n.natAbs (show 0 < (1001 : Int).natAbs by decide)
  have e : (1001 : Int).natAbs = 1001 := rfl
  omega
theorem some_val (n d : Int) (d0 : 0 ≤ d) : ∃ x1 x2 : Int, mkR (n.tmod 1001) (1 + d % 30) = ⟨x1, x2, 0⟩ ∧ Sm x1 x2 := by
  have hb := tmod_bd (n := n)
  obtain ⟨x1, x2, h1, h2, h3, h4, h5, h6⟩ := mk_val (N := n.tmod 1001) (D := 1 + d % 30) (by omega) (by omega) (by omega)
  exact ⟨x1, x2, h1, h2, by omega, h5, by omega⟩
theorem nmul {a b : Int} {A B : Nat} (ha : a.natAbs ≤ A) (hb : b.natAbs ≤ B) : (a * b).natAbs ≤ A * B := by
  rw [Int.natAbs_mul]; exact Nat.mul_le_mul ha hb
/-- An operation on two numbers, as a fraction. -/
theorem op_as {k : Nat} {x1 x2 y1 y2 : Int} (hx : okB x1 x2 = true) (hy : okB y1 y2 = true) (hk : k ≠ 3) : opR k x1 x2 y1 y2 = mkR (opN k x1 x2 y1 y2) (opD k x1 x2 y1 y2) := by
  unfold opR
  rw [hx, hy]
  have : (k == 3) = false := by simpa using hk
  rw [this]; rfl
theorem sub_val {x1 x2 y1 y2 : Int} (hx : Sm x1 x2) (hy : Sm y1 y2) : ∃ s1 s2 : Int, opR 1 x1 x2 y1 y2 = ⟨s1, s2, 0⟩ ∧ okB s1 s2 = true ∧ sgn (s1 * 1) (0 * s2) = sgn (x1 * y2) (y1 * x2) := by
  have p1 := nmul hx.nb (show y2.natAbs ≤ 30 by have := hy.d1; have := hy.db; omega)
  have p2 := nmul hy.nb (show x2.natAbs ≤ 30 by have := hx.d1; have := hx.db; omega)
  have p3 := nmul (show x2.natAbs ≤ 30 by have := hx.d1; have := hx.db; omega) (show y2.natAbs ≤ 30 by have := hy.d1; have := hy.db; omega)
  have p4 := Int.mul_pos (show 0 < x2 from hx.d1) (show 0 < y2 from hy.d1)
  obtain ⟨s1, s2, h1, h2, h3, -, h5, -⟩ := mk_val (N := x1 * y2 - y1 * x2) (D := x2 * y2) p4 (by omega) (by omega)
  refine ⟨s1, s2, (op_as hx.ok hy.ok (by decide)).trans h1, h2, ?_⟩
  rw [← sgn_scale p4, Int.mul_one, h3, Int.zero_mul, Int.zero_mul]
  have := sgn_scale (a := x1 * y2 - y1 * x2) (b := 0) (show 0 < s2 by omega)
  rw [Int.zero_mul] at this
  rw [this]
  unfold sgn
  split <;> split <;> (try split) <;> (try split) <;> omega
theorem add_val {x1 x2 y1 y2 : Int} (hx : Sm x1 x2) (hy : Sm y1 y2) : ∃ s1 s2 : Int, opR 0 x1 x2 y1 y2 = ⟨s1, s2, 0⟩ ∧ okB s1 s2 = true ∧ s1 * (x2 * y2) = (x1 * y2 + y1 * x2) * s2 := by
  have p1 := nmul hx.nb (show y2.natAbs ≤ 30 by have := hy.d1; have := hy.db; omega)
  have p2 := nmul hy.nb (show x2.natAbs ≤ 30 by have := hx.d1; have := hx.db; omega)
  have p3 := nmul (show x2.natAbs ≤ 30 by have := hx.d1; have := hx.db; omega) (show y2.natAbs ≤ 30 by have := hy.d1; have := hy.db; omega)
  have p4 := Int.mul_pos (show 0 < x2 from hx.d1) (show 0 < y2 from hy.d1)
  obtain ⟨s1, s2, h1, h2, h3, -, h5, -⟩ := mk_val (N := x1 * y2 + y1 * x2) (D := x2 * y2) p4 (by omega) (by omega)
  exact ⟨s1, s2, (op_as hx.ok hy.ok (by decide)).trans h1, h2, h3⟩
theorem add_cmp {x1 x2 y1 y2 z1 z2 a1 a2 b1 b2 : Int} (hx : 0 < x2) (hy : 0 < y2) (hz : 0 < z2) (ha : 0 < a2) (hb : 0 < b2) (h1 : a1 * (x2 * z2) = (x1 * z2 + z1 * x2) * a2) (h2 : b1 * (y2 * z2) = (y1 * z2 + z1 * y2) * b2) :
    sgn (a1 * b2) (b1 * a2) = sgn (x1 * y2) (y1 * x2) := by
  have pS := Int.mul_pos (Int.mul_pos hx hz) (Int.mul_pos hy hz)
  have pT := Int.mul_pos ha hb
  rw [← sgn_scale pS, ← sgn_scale (a := x1 * y2) (Int.mul_pos hz hz), ← sgn_scale (a := x1 * y2 * (z2 * z2)) pT]
  have e1 : a1 * b2 * (x2 * z2 * (y2 * z2)) = x1 * y2 * (z2 * z2) * (a2 * b2) + z1 * x2 * y2 * z2 * a2 * b2 := by
    have : a1 * b2 * (x2 * z2 * (y2 * z2)) = (a1 * (x2 * z2)) * b2 * (y2 * z2) := by grind
    rw [this, h1]; grind
  have e2 : b1 * a2 * (x2 * z2 * (y2 * z2)) = y1 * x2 * (z2 * z2) * (a2 * b2) + z1 * x2 * y2 * z2 * a2 * b2 := by
    have : b1 * a2 * (x2 * z2 * (y2 * z2)) = (b1 * (y2 * z2)) * a2 * (x2 * z2) := by grind
    rw [this, h2]; grind
  rw [e1, e2]
  generalize z1 * x2 * y2 * z2 * a2 * b2 = C
  unfold sgn
  split <;> split <;> (try split) <;> (try split) <;> omega
theorem sgn_trans {x1 x2 y1 y2 z1 z2 : Int} (hx : 0 < x2) (hy : 0 < y2) (hz : 0 < z2) (h1 : x1 * y2 < y1 * x2) (h2 : y1 * z2 < z1 * y2) : x1 * z2 < z1 * x2 := by
  have a1 := Int.mul_lt_mul_of_pos_right h1 hz
  have a2 := Int.mul_lt_mul_of_pos_right h2 hx
  have e1 : x1 * y2 * z2 = (x1 * z2) * y2 := by grind
  have e2 : y1 * x2 * z2 = y1 * z2 * x2 := by grind
  have e3 : z1 * y2 * x2 = (z1 * x2) * y2 := by grind
  exact Int.lt_of_mul_lt_mul_right (show x1 * z2 * y2 < z1 * x2 * y2 by omega) (by omega)
theorem sgn_cases (a b : Int) : (sgn a b = 0 ∧ a = b) ∨ (sgn a b = 1 ∧ b < a) ∨ (sgn a b = -1 ∧ a < b) := by
  unfold sgn
  split <;> (try split) <;> omega
end Go.Proofs.YtdjenpccgaojgaaDoor
