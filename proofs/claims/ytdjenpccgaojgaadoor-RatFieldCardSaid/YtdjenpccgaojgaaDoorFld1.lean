/-
  RatField: the plain law.
-/
import Derived.Test.YtdjenpccgaojgaaDoorOrd1
namespace Go.Proofs.YtdjenpccgaojgaaDoor
open Go.RowKit
theorem op_fit {k : Nat} {a1 a2 b1 b2 N D : Int} (ha : okB a1 a2 = true) (hb : okB b1 b2 = true) (hk : k < 3 ∨ b1 ≠ 0) (hD : 0 < D) (h : opN k a1 a2 b1 b2 * D = N * opD k a1 a2 b1 b2) : opR k a1 a2 b1 b2 = mkR N D := by
  have d1 : 0 < a2 := (okB_bd ha).1
  have d2 : 0 < b2 := (okB_bd hb).1
  have hz : opD k a1 a2 b1 b2 ≠ 0 := by
    have p := Int.mul_pos d1 d2
    match k with
    | 0 => show a2 * b2 ≠ 0; omega
    | 1 => show a2 * b2 ≠ 0; omega
    | 2 => show a2 * b2 ≠ 0; omega
    | k + 3 =>
      show a2 * b1 ≠ 0
      intro e
      rcases Int.mul_eq_zero.1 e with e | e <;> omega
  have hg : (k == 3 && b1 == 0) = false := by
    rcases hk with hk | hk
    · have : (k == 3) = false := by simp; omega
      rw [this]; rfl
    · have : (b1 == 0) = false := by simpa using hk
      rw [this, Bool.and_false]
  unfold opR
  rw [ha, hb, hg]
  exact mk_eq hz (by omega) h
/-- The numbers that the law computes. -/
structure Fld (x1 x2 y1 y2 z1 z2 v1 v2 p1 p2 s1 s2 u1 u2 q1 q2 r1 r2 t1 t2 g1 g2 : Int) : Prop where
  v : opR 0 x1 x2 y1 y2 = ⟨v1, v2, 0⟩
  v' : opR 0 y1 y2 x1 x2 = ⟨v1, v2, 0⟩
  p : opR 2 x1 x2 y1 y2 = ⟨p1, p2, 0⟩
  p' : opR 2 y1 y2 x1 x2 = ⟨p1, p2, 0⟩
  s : opR 0 v1 v2 z1 z2 = ⟨s1, s2, 0⟩
  u : opR 0 y1 y2 z1 z2 = ⟨u1, u2, 0⟩
  s' : opR 0 x1 x2 u1 u2 = ⟨s1, s2, 0⟩
  q : opR 2 p1 p2 z1 z2 = ⟨q1, q2, 0⟩
  r : opR 2 y1 y2 z1 z2 = ⟨r1, r2, 0⟩
  q' : opR 2 x1 x2 r1 r2 = ⟨q1, q2, 0⟩
  t : opR 2 x1 x2 u1 u2 = ⟨t1, t2, 0⟩
  g : opR 2 x1 x2 z1 z2 = ⟨g1, g2, 0⟩
  t' : opR 0 p1 p2 g1 g2 = ⟨t1, t2, 0⟩
  b : opR 1 v1 v2 y1 y2 = ⟨x1, x2, 0⟩
  d : y1 ≠ 0 → opR 3 p1 p2 y1 y2 = ⟨x1, x2, 0⟩
theorem mk_self {x1 x2 : Int} (hx : okB x1 x2 = true) : mkR x1 x2 = ⟨x1, x2, 0⟩ := by
  have h1 := mk_mul hx (show (1 : Int) ≠ 0 by decide)
  rw [Int.mul_one, Int.mul_one] at h1
  exact h1
theorem nadd {a b : Int} {A B C : Nat} (ha : a.natAbs ≤ A) (hb : b.natAbs ≤ B) (h : A + B ≤ C) : (a + b).natAbs ≤ C := by omega
theorem nmulC {a b : Int} {A B C : Nat} (ha : a.natAbs ≤ A) (hb : b.natAbs ≤ B) (h : A * B ≤ C) : (a * b).natAbs ≤ C := Nat.le_trans (nmul ha hb) h
theorem nle {a : Int} {A B : Nat} (ha : a.natAbs ≤ A) (h : A ≤ B) : a.natAbs ≤ B := Nat.le_trans ha h
theorem ile {a : Int} {A : Nat} {B : Int} (ha : a.natAbs ≤ A) (h : (A : Int) ≤ B) : a ≤ B := by omega
theorem nden {x : Int} (h1 : 1 ≤ x) (h2 : x ≤ 30) : x.natAbs ≤ 30 := by omega
set_option maxHeartbeats 4000000 in
theorem field_vals {x1 x2 y1 y2 z1 z2 : Int} (hx : Sm x1 x2) (hy : Sm y1 y2) (hz : Sm z1 z2) : ∃ v1 v2 p1 p2 s1 s2 u1 u2 q1 q2 r1 r2 t1 t2 g1 g2 : Int, Fld x1 x2 y1 y2 z1 z2 v1 v2 p1 p2 s1 s2 u1 u2 q1 q2 r1 r2 t1 t2 g1 g2 := by
  have hx2 := nden hx.d1 hx.db
  have hy2 := nden hy.d1 hy.db
  have hz2 := nden hz.d1 hz.db
  have pxy := Int.mul_pos (show 0 < x2 from hx.d1) (show 0 < y2 from hy.d1)
  have pyz := Int.mul_pos (show 0 < y2 from hy.d1) (show 0 < z2 from hz.d1)
  have pxz := Int.mul_pos (show 0 < x2 from hx.d1) (show 0 < z2 from hz.d1)
  have pxyz := Int.mul_pos pxy (show 0 < z2 from hz.d1)
  have nxy : (x2 * y2).natAbs ≤ 900 := nmulC hx2 hy2 (by decide)
  have nyz : (y2 * z2).natAbs ≤ 900 := nmulC hy2 hz2 (by decide)
  have nxz : (x2 * z2).natAbs ≤ 900 := nmulC hx2 hz2 (by decide)
  have nxyz : (x2 * y2 * z2).natAbs ≤ 27000 := nmulC nxy hz2 (by decide)
  have m1 : (x1 * y1).natAbs ≤ 1000000 := nmulC hx.nb hy.nb (by decide)
  have m2 : (y1 * z1).natAbs ≤ 1000000 := nmulC hy.nb hz.nb (by decide)
  have m3 : (x1 * z1).natAbs ≤ 1000000 := nmulC hx.nb hz.nb (by decide)
  have m4 : (x1 * y1 * z1).natAbs ≤ 1000000000 := nmulC m1 hz.nb (by decide)
  have a1 : (x1 * y2).natAbs ≤ 30000 := nmulC hx.nb hy2 (by decide)
  have a2 : (y1 * x2).natAbs ≤ 30000 := nmulC hy.nb hx2 (by decide)
  have hV : (x1 * y2 + y1 * x2).natAbs ≤ 60000 := nadd a1 a2 (by decide)
  have a3 : (y1 * z2).natAbs ≤ 30000 := nmulC hy.nb hz2 (by decide)
  have a4 : (z1 * y2).natAbs ≤ 30000 := nmulC hz.nb hy2 (by decide)
  have hU : (y1 * z2 + z1 * y2).natAbs ≤ 60000 := nadd a3 a4 (by decide)
  have a5 : (x1 * y2 * z2).natAbs ≤ 900000 := nmulC a1 hz2 (by decide)
  have a6 : (y1 * x2 * z2).natAbs ≤ 900000 := nmulC a2 hz2 (by decide)
  have a7 : (z1 * x2).natAbs ≤ 30000 := nmulC hz.nb hx2 (by decide)
  have a8 : (z1 * x2 * y2).natAbs ≤ 900000 := nmulC a7 hy2 (by decide)
  have hS : (x1 * y2 * z2 + y1 * x2 * z2 + z1 * x2 * y2).natAbs ≤ 2700000 := nadd (nadd a5 a6 (C := 1800000) (by decide)) a8 (by decide)
  have m5 : (x1 * (y1 * z2 + z1 * y2)).natAbs ≤ 60000000 := nmulC hx.nb hU (by decide)
  obtain ⟨v1, v2, ev, okv, fv, -, -, -⟩ := mk_val (N := x1 * y2 + y1 * x2) (D := x2 * y2) pxy (nle hV (by decide)) (ile nxy (by decide))
  obtain ⟨p1, p2, ep, okp, fp, -, -, -⟩ := mk_val (N := x1 * y1) (D := x2 * y2) pxy (nle m1 (by decide)) (ile nxy (by decide))
  obtain ⟨u1, u2, eu, oku, fu, -, -, -⟩ := mk_val (N := y1 * z2 + z1 * y2) (D := y2 * z2) pyz (nle hU (by decide)) (ile nyz (by decide))
  obtain ⟨r1, r2, er, okr, fr, -, -, -⟩ := mk_val (N := y1 * z1) (D := y2 * z2) pyz (nle m2 (by decide)) (ile nyz (by decide))
  obtain ⟨g1, g2, eg, okg, fg, -, -, -⟩ := mk_val (N := x1 * z1) (D := x2 * z2) pxz (nle m3 (by decide)) (ile nxz (by decide))
  obtain ⟨s1, s2, es, oks, fs, -, -, -⟩ := mk_val (N := x1 * y2 * z2 + y1 * x2 * z2 + z1 * x2 * y2) (D := x2 * y2 * z2) pxyz (nle hS (by decide)) (ile nxyz (by decide))
  obtain ⟨q1, q2, eq, okq, fq, -, -, -⟩ := mk_val (N := x1 * y1 * z1) (D := x2 * y2 * z2) pxyz (nle m4 (by decide)) (ile nxyz (by decide))
  obtain ⟨t1, t2, et, okt, ft, -, -, -⟩ := mk_val (N := x1 * (y1 * z2 + z1 * y2)) (D := x2 * y2 * z2) pxyz (nle m5 (by decide)) (ile nxyz (by decide))
  refine ⟨v1, v2, p1, p2, s1, s2, u1, u2, q1, q2, r1, r2, t1, t2, g1, g2, ?_⟩
  clear a1 a2 a3 a4 a5 a6 a7 a8 m1 m2 m3 m4 m5 hU hV hS nxy nyz nxz nxyz hx2 hy2 hz2 fs fq ft oks okq okt
  refine ⟨?_, ?_, ?_, ?_, ?_, ?_, ?_, ?_, ?_, ?_, ?_, ?_, ?_, ?_, ?_⟩
  · rw [← ev]; exact op_fit hx.ok hy.ok (by simp) pxy (by simp only [opN, opD])
  · rw [← ev]; exact op_fit hy.ok hx.ok (by simp) pxy (by simp only [opN, opD]; grind)
  · rw [← ep]; exact op_fit hx.ok hy.ok (by simp) pxy (by simp only [opN, opD])
  · rw [← ep]; exact op_fit hy.ok hx.ok (by simp) pxy (by simp only [opN, opD]; grind)
  · rw [← es]; exact op_fit okv hz.ok (by simp) pxyz (by simp only [opN, opD]; clear ev ep eu er eg es eq et; grind)
  · rw [← eu]; exact op_fit hy.ok hz.ok (by simp) pyz (by simp only [opN, opD])
  · rw [← es]; exact op_fit hx.ok oku (by simp) pxyz (by simp only [opN, opD]; clear ev ep eu er eg es eq et; grind)
  · rw [← eq]; exact op_fit okp hz.ok (by simp) pxyz (by simp only [opN, opD]; clear ev ep eu er eg es eq et; grind)
  · rw [← er]; exact op_fit hy.ok hz.ok (by simp) pyz (by simp only [opN, opD])
  · rw [← eq]; exact op_fit hx.ok okr (by simp) pxyz (by simp only [opN, opD]; clear ev ep eu er eg es eq et; grind)
  · rw [← et]; exact op_fit hx.ok oku (by simp) pxyz (by simp only [opN, opD]; clear ev ep eu er eg es eq et; grind)
  · rw [← eg]; exact op_fit hx.ok hz.ok (by simp) pxz (by simp only [opN, opD])
  · rw [← et]; exact op_fit okp okg (by simp) pxyz (by simp only [opN, opD]; clear ev ep eu er eg es eq et; grind)
  · rw [← mk_self hx.ok]; exact op_fit okv hy.ok (by simp) (show 0 < x2 from hx.d1) (by simp only [opN, opD]; clear ev ep eu er eg es eq et; grind)
  · intro hn
    rw [← mk_self hx.ok]; exact op_fit okp hy.ok (.inr hn) (show 0 < x2 from hx.d1) (by simp only [opN, opD]; clear ev ep eu er eg es eq et; grind)
end Go.Proofs.YtdjenpccgaojgaaDoor
