/-
  RatRound: the walk.
-/
import Derived.Test.YtdjenpccgaojgaaDoorAwk
import Derived.Deep.RegionHeld3
namespace Go.Proofs.YtdjenpccgaojgaaDoor
open Go.RowKit
theorem okB_int {n : Int} (h0 : -1073741824 ≤ n) (h1 : n ≤ 1073741824) : okB n 1 = true := by
  unfold okB
  rw [decide_eq_true (show (1 : Int) ≤ 1 by decide), decide_eq_true (show (1 : Int) ≤ 1073741824 by decide), decide_eq_true h0, decide_eq_true h1]
  simp
theorem sgn_le {a b : Int} (h : a ≤ b) : sgn a b ≤ 0 ∧ -1 ≤ sgn a b := by unfold sgn; split <;> (try split) <;> omega
theorem held2 {B b o0 o1 : Nat} {W0 w' : World} {c0 c1 : Value} (h0 : W0.cell? ⟨b, o0, none⟩ = some c0) (h1 : W0.cell? ⟨b, o1, none⟩ = some c1) (l0 : b < B) (hB : Below B W0 w') : Below B W0 w' ∧ w'.cell? ⟨b, o0, none⟩ = some c0 ∧ w'.cell? ⟨b, o1, none⟩ = some c1 :=
  ⟨hB, (hB.cell (p := ⟨b, o0, none⟩) l0).trans h0, (hB.cell (p := ⟨b, o1, none⟩) l0).trans h1⟩
theorem round_nums {n d : Int} (h : okB n d = true) : floorR n d = n / d ∧ ceilR n d = -((-n) / d) ∧ okB (n / d) 1 = true ∧ okB (-((-n) / d)) 1 = true ∧ (n / d) * d ≤ n ∧ n ≤ -((-n) / d) * d ∧ -((-n) / d) - n / d ≤ 1 ∧ ((-((-n) / d) == n / d) = (d == 1)) := by
  obtain ⟨a1, a2, a3, a4, hg⟩ := okB_bd h
  obtain ⟨q0, q1⟩ := div_bd n d a1 a3 a4
  obtain ⟨r0, r1⟩ := div_bd (-n) d a1 (by omega) (by omega)
  have e1 := Int.mul_ediv_add_emod n d
  have e2 := Int.mul_ediv_add_emod (-n) d
  have m1 := Int.emod_nonneg n (show d ≠ 0 by omega)
  have m2 := Int.emod_lt_of_pos n (show 0 < d by omega)
  have m3 := Int.emod_nonneg (-n) (show d ≠ 0 by omega)
  have m4 := Int.emod_lt_of_pos (-n) (show 0 < d by omega)
  have hd : ∀ k : Int, d * k = n → d = 1 := fun k hk => by
    have h1 : d.natAbs ∣ n.natAbs := Int.natAbs_dvd_natAbs.2 ⟨k, hk.symm⟩
    have h2 := Nat.gcd_eq_right h1
    rw [hg] at h2
    omega
  have c1 : d * (n / d) = (n / d) * d := Int.mul_comm _ _
  have c2 : d * (-n / d) = (-n / d) * d := Int.mul_comm _ _
  have s : d * (n / d + -n / d) = -(n % d + -n % d) := by rw [Int.mul_add]; omega
  have hs0 : n / d + -n / d ≤ 0 := by
    rcases Int.lt_or_le 0 (n / d + -n / d) with hh | hh
    · have := Int.mul_le_mul_of_nonneg_left (show (1 : Int) ≤ n / d + -n / d by omega) (show 0 ≤ d by omega)
      omega
    · exact hh
  have hs1 : -1 ≤ n / d + -n / d := by
    rcases Int.lt_or_le (n / d + -n / d) (-1) with hh | hh
    · have := Int.mul_le_mul_of_nonneg_left (show n / d + -n / d ≤ -2 by omega) (show 0 ≤ d by omega)
      omega
    · exact hh
  refine ⟨by unfold floorR; rw [h]; rfl, by unfold ceilR; rw [h]; rfl, okB_int q0 q1, okB_int (by omega) (by omega), by omega, by rw [Int.neg_mul]; omega, by omega, ?_⟩
  rw [Bool.eq_iff_iff]
  simp only [beq_iff_eq]
  constructor
  · intro hh
    have hz : n / d + -n / d = 0 := by omega
    rw [hz, Int.mul_zero] at s
    exact hd (n / d) (by omega)
  · intro hh
    subst hh
    simp
set_option maxRecDepth 100000 in
set_option maxHeartbeats 1000000 in
theorem round_bad (n d : Int) (w : World) (hE : Hid (Env w)) (hx : Hid (okB n d = false)) : Calls Tryd.prog 4 #[.agg #[.int .i64 n, .int .i64 d]] w fun e w' => e = .returned (.bool true) ∧ Below w.heap.size w w' := by
  have HF := hide (fun w => floor_bad n d w hx)
  have HC := hide (fun w => ceil_bad n d w hx)
  have HV := hide (fun w => valid_any n d w)
  rw [hx.out] at HV
  go_enter Tryd.func4, Tryd.ntmps4
  go_wp2_with fail
  have hb0 := (Below.refl w.heap.size w).alloc (Nat.le_refl _) (.cells #[.int .i64 n, .int .i64 d] 23)
  obtain ⟨c0, c1, -, -, hlt⟩ := two_of (heap_alloc_new w (.cells #[.int .i64 n, .int .i64 d] 23))
  have hXX := heap_alloc_new w (.cells #[.int .i64 n, .int .i64 d] 23)
  have hB0 := hide hb0
  have hX0 := hide hXX
  clear hb0 hXX
  generalize w.alloc (.cells #[.int .i64 n, .int .i64 d] 23) = W at *
  go_region_held3 (fun w' => Below W.heap.size W w' ∧ w'.cell? ⟨w.heap.size, 0, none⟩ = some (.int .i64 n) ∧ w'.cell? ⟨w.heap.size, 1, none⟩ = some (.int .i64 d))
    (first | assumption | exact held2 c0 c1 hlt (by first | exact Below.refl _ _ | assumption | go_grown))
    (first
      | (go_at_call 13; with_reducible refine (HF.out _).mono ?_; rintro e w2 ⟨rfl, hb2⟩; have hbb : Below W.heap.size W w2 := Below.trans (by first | exact Below.refl _ _ | assumption | go_grown) (hb2.mono (Below.size (B := W.heap.size) (by first | exact Below.refl _ _ | assumption | go_grown))))
      | (go_at_call 14; with_reducible refine (HC.out _).mono ?_; rintro e w3 ⟨rfl, hb3⟩; have hbb : Below W.heap.size W w3 := Below.trans (by first | exact Below.refl _ _ | assumption | go_grown) (hb3.mono (Below.size (B := W.heap.size) (by first | exact Below.refl _ _ | assumption | go_grown)))))
  all_goals
    have HBB := hide hbb
    have hX3 := hide (keep hX0.out hbb)
    clear hbb
    have BB := hide (hB0.out.trans (HBB.out.mono hB0.out.size))
    obtain ⟨x0, x1, -, -, -⟩ := two_of hX3
    clear hX3 HBB c0 c1
    go_wp2_with fail
    refine (HV.out _).mono ?_
    rintro e w4 ⟨rfl, hb⟩
    have B4 := hide (BB.out.trans (hb.mono BB.out.size))
    clear hb BB x0 x1
    go_wp2_with fail
    refine (awake_any w4 (hide (hE.out.kept B4.out))).mono ?_
    rintro e w5 ⟨rfl, hb⟩
    have B5 := hide (B4.out.trans (hb.mono B4.out.size))
    clear hb B4
    go_wp2_with fail
    go_ret
    exact ⟨rfl, B5.out⟩
set_option maxRecDepth 100000 in
set_option maxHeartbeats 1000000 in
theorem round_ok (n d : Int) (w : World) (hE : Hid (Env w)) (hx : Hid (okB n d = true)) : Calls Tryd.prog 4 #[.agg #[.int .i64 n, .int .i64 d]] w fun e w' => e = .returned (.bool true) ∧ Below w.heap.size w w' := by
  obtain ⟨-, -, k1, k2, m1, m2, m3, m4⟩ := round_nums hx.out
  have HF := hide (fun w => floor_ok n d w hx)
  have HC := hide (fun w => ceil_ok n d w hx)
  have HV := hide (fun w => valid_any n d w)
  rw [hx.out] at HV
  have HM1 := hide (fun w => cmp_ok (n / d) 1 n d w k1 hx)
  have HM2 := hide (fun w => cmp_ok n d (-((-n) / d)) 1 w hx k2)
  obtain ⟨lo0, lo1, lo2, lo3, -⟩ := okB_bd k1
  obtain ⟨hi0, hi1, hi2, hi3, -⟩ := okB_bd k2
  clear k1 k2
  generalize n / d = lo at *
  generalize -((-n) / d) = hi at *
  obtain ⟨s1, s1'⟩ := sgn_le (show lo * d ≤ n * 1 by omega)
  obtain ⟨s2, s2'⟩ := sgn_le (show n * 1 ≤ hi * d by omega)
  generalize sgn (lo * d) (n * 1) = z1 at *
  generalize sgn (n * 1) (hi * d) = z2 at *
  have M4 := hide m4
  clear m1 m2 m4 lo0 lo1 hi0 hi1
  go_enter Tryd.func4, Tryd.ntmps4
  go_wp2_with fail
  have hb0 := (Below.refl w.heap.size w).alloc (Nat.le_refl _) (.cells #[.int .i64 n, .int .i64 d] 23)
  obtain ⟨c0, c1, -, -, hlt⟩ := two_of (heap_alloc_new w (.cells #[.int .i64 n, .int .i64 d] 23))
  have hXX := heap_alloc_new w (.cells #[.int .i64 n, .int .i64 d] 23)
  have hB0 := hide hb0
  have hX0 := hide hXX
  clear hb0 hXX
  generalize w.alloc (.cells #[.int .i64 n, .int .i64 d] 23) = W at *
  go_region_held3 (fun w' => Below W.heap.size W w' ∧ w'.cell? ⟨w.heap.size, 0, none⟩ = some (.int .i64 n) ∧ w'.cell? ⟨w.heap.size, 1, none⟩ = some (.int .i64 d))
    (first | assumption | exact held2 c0 c1 hlt (by first | exact Below.refl _ _ | assumption | go_grown))
    (first
      | (go_at_call 13; with_reducible refine (HF.out _).mono ?_; rintro e w2 ⟨rfl, hb2⟩; have hbb : Below W.heap.size W w2 := Below.trans (by first | exact Below.refl _ _ | assumption | go_grown) (hb2.mono (Below.size (B := W.heap.size) (by first | exact Below.refl _ _ | assumption | go_grown))))
      | (go_at_call 14; with_reducible refine (HC.out _).mono ?_; rintro e w3 ⟨rfl, hb3⟩; have hbb : Below W.heap.size W w3 := Below.trans (by first | exact Below.refl _ _ | assumption | go_grown) (hb3.mono (Below.size (B := W.heap.size) (by first | exact Below.refl _ _ | assumption | go_grown)))))
  all_goals
    have HBB := hide hbb
    have hX3 := hide (keep hX0.out hbb)
    clear hbb
    have BB := hide (hB0.out.trans (HBB.out.mono hB0.out.size))
    obtain ⟨x0, x1, -, -, -⟩ := two_of hX3.out
    clear HBB c0 c1
    go_wp2_with fail
    refine (HV.out _).mono ?_
    rintro e w4 ⟨rfl, hb⟩
    have B4 := hide (BB.out.trans (hb.mono BB.out.size))
    have X4 := hide (keep hX3.out hb)
    obtain ⟨x0, x1, -, -, xl⟩ := two_of X4.out
    clear hb BB hX3
    go_wp2_with fail
    refine (HM1.out _).mono ?_
    rintro e w5 ⟨rfl, hb⟩
    obtain ⟨hA, hB, -, hbl⟩ := box2 hb
    have B5 := hide (B4.out.trans (hbl.mono B4.out.size))
    have X5 := hide (keep X4.out hbl)
    obtain ⟨x0, x1, -, -, xl⟩ := two_of X5.out
    obtain ⟨b0, b1, -, -, bl⟩ := two_of hB
    clear hb hbl hA hB B4 X4
    go_wp2_with fail
    refine (HM2.out _).mono ?_
    rintro e w6 ⟨rfl, hb⟩
    have B6 := hide (B5.out.trans (hb.mono B5.out.size))
    obtain ⟨x0, x1, -, -, xl⟩ := two_of (keep X5.out hb)
    clear hb B5 X5 b0 b1 bl
    have key : ((hi == lo) = true ∧ (d == 1) = true) ∨ ((hi == lo) = false ∧ (d == 1) = false) := by
      rw [M4.out]; cases (d == 1) <;> simp
    rcases key with ⟨k1, k2⟩ | ⟨k1, k2⟩
    all_goals
      go_wp2_with fail
      refine (awake_any w6 (hide (hE.out.kept B6.out))).mono ?_
      rintro e w7 ⟨rfl, hb⟩
      have B7 := hide (B6.out.trans (hb.mono B6.out.size))
      clear hb
      go_wp2_with fail
      go_ret
      exact ⟨rfl, B7.out⟩
theorem round_main (n d : Int) (w : World) (hE : Env w) : Calls Tryd.prog 4 #[.agg #[.int .i64 n, .int .i64 d]] w fun e w' => e = .returned (.bool true) ∧ Below w.heap.size w w' := by
  cases hx : okB n d
  · exact round_bad n d w hE hx
  · exact round_ok n d w hE hx
end Go.Proofs.YtdjenpccgaojgaaDoor
