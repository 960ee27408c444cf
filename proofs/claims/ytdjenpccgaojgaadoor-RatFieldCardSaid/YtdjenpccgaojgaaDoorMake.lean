/-
  rat: Valid, Make.
-/
import Derived.Test.YtdjenpccgaojgaaDoorGcd
namespace Go.Proofs.YtdjenpccgaojgaaDoor
open Go.RowKit
/-- Valid. -/
def okB (n d : Int) : Bool := decide (1 ≤ d) && decide (d ≤ 1073741824) && decide (-1073741824 ≤ n) && decide (n ≤ 1073741824) && (Nat.gcd n.natAbs d.natAbs == 1)
def ratV (n d : Int) : Value := .agg #[.int .i64 n, .int .i64 d]
theorem size_q (n : Int) (w : World) (h0 : -9223372036854775808 ≤ n) (h1 : n ≤ 9223372036854775807) : Calls Tryd.prog 30 #[.int .i64 n] w fun e w' => e = .returned (.int .u64 n.natAbs) ∧ w' = w := (size_any n w h0 h1).mono fun _ _ ⟨h, h2⟩ => ⟨h, h2.symm⟩
set_option maxRecDepth 100000 in
set_option maxHeartbeats 400000 in
theorem valid_n1 (n d : Int) (w : World)  (hd : decide (1 ≤ d) = false) : Calls Tryd.prog 9 #[.agg #[.int .i64 n, .int .i64 d]] w fun e w' => e = .returned (.bool false) ∧ Below w.heap.size w w' := by
  go_enter Tryd.func9, Tryd.ntmps9
  go_wp2_with fail
  go_quiet (fail)
  go_wp2_with fail
  go_ret
  exact ⟨rfl, below_drewN ((Below.refl _ _).alloc (Nat.le_refl _) _) _⟩
set_option maxRecDepth 100000 in
set_option maxHeartbeats 400000 in
theorem valid_n2 (n d : Int) (w : World) (h1 : 1 ≤ d) (hd : decide (d ≤ 1073741824) = false) : Calls Tryd.prog 9 #[.agg #[.int .i64 n, .int .i64 d]] w fun e w' => e = .returned (.bool false) ∧ Below w.heap.size w w' := by
  go_enter Tryd.func9, Tryd.ntmps9
  go_wp2_with fail
  go_quiet (fail)
  go_wp2_with fail
  go_ret
  exact ⟨rfl, below_drewN ((Below.refl _ _).alloc (Nat.le_refl _) _) _⟩
set_option maxRecDepth 100000 in
set_option maxHeartbeats 400000 in
theorem valid_n3 (n d : Int) (w : World) (h1 : 1 ≤ d) (h2 : d ≤ 1073741824) (hd : decide (-1073741824 ≤ n) = false) : Calls Tryd.prog 9 #[.agg #[.int .i64 n, .int .i64 d]] w fun e w' => e = .returned (.bool false) ∧ Below w.heap.size w w' := by
  go_enter Tryd.func9, Tryd.ntmps9
  go_wp2_with fail
  go_quiet (fail)
  go_wp2_with fail
  go_ret
  exact ⟨rfl, below_drewN ((Below.refl _ _).alloc (Nat.le_refl _) _) _⟩
set_option maxRecDepth 100000 in
set_option maxHeartbeats 400000 in
theorem valid_n4 (n d : Int) (w : World) (h1 : 1 ≤ d) (h2 : d ≤ 1073741824) (h3 : -1073741824 ≤ n) (hd : decide (n ≤ 1073741824) = false) : Calls Tryd.prog 9 #[.agg #[.int .i64 n, .int .i64 d]] w fun e w' => e = .returned (.bool false) ∧ Below w.heap.size w w' := by
  go_enter Tryd.func9, Tryd.ntmps9
  go_wp2_with fail
  go_quiet (fail)
  go_wp2_with fail
  go_ret
  exact ⟨rfl, below_drewN ((Below.refl _ _).alloc (Nat.le_refl _) _) _⟩
set_option maxRecDepth 100000 in
set_option maxHeartbeats 400000 in
theorem valid_in (n d : Int) (w : World) (h1 : 1 ≤ d) (h2 : d ≤ 1073741824) (h3 : -1073741824 ≤ n) (h4 : n ≤ 1073741824) : Calls Tryd.prog 9 #[.agg #[.int .i64 n, .int .i64 d]] w fun e w' => e = .returned (.bool ((Nat.gcd n.natAbs d.natAbs : Int) == 1)) ∧ Below w.heap.size w w' := by
  have HS1 := hide (fun w => size_q n w (by omega) (by omega))
  have HS2 := hide (fun w => size_q d w (by omega) (by omega))
  have HGC := hide (fun w => gcd_any n.natAbs d.natAbs w (by omega) (by omega))
  generalize Nat.gcd n.natAbs d.natAbs = g at *
  generalize n.natAbs = na at *
  generalize d.natAbs = da at *
  go_enter Tryd.func9, Tryd.ntmps9
  go_wp2_with fail
  go_quiet (first | (go_at_call 30; first | with_reducible exact Calls.quiet_of_same (HS1.out _) | with_reducible exact Calls.quiet_of_same (HS2.out _)) | (go_at_call 29; with_reducible exact Calls.quiet_of (HGC.out _)))
  go_wp2_with fail
  go_ret
  exact ⟨rfl, below_drewN ((Below.refl _ _).alloc (Nat.le_refl _) _) _⟩
theorem valid_any (n d : Int) (w : World) : Calls Tryd.prog 9 #[.agg #[.int .i64 n, .int .i64 d]] w fun e w' => e = .returned (.bool (okB n d)) ∧ Below w.heap.size w w' := by
  by_cases h1 : 1 ≤ d
  case neg =>
    have h : okB n d = false := by unfold okB; simp [h1]
    rw [h]
    exact valid_n1 n d w (decide_eq_false h1)
  by_cases h2 : d ≤ 1073741824
  case neg =>
    have h : okB n d = false := by unfold okB; simp [h2]
    rw [h]
    exact valid_n2 n d w h1 (decide_eq_false h2)
  by_cases h3 : -1073741824 ≤ n
  case neg =>
    have h : okB n d = false := by unfold okB; simp [h3]
    rw [h]
    exact valid_n3 n d w h1 h2 (decide_eq_false h3)
  by_cases h4 : n ≤ 1073741824
  case neg =>
    have h : okB n d = false := by unfold okB; simp [h4]
    rw [h]
    exact valid_n4 n d w h1 h2 h3 (decide_eq_false h4)
  have h : okB n d = ((Nat.gcd n.natAbs d.natAbs : Int) == 1) := by
    unfold okB
    rw [decide_eq_true h1, decide_eq_true h2, decide_eq_true h3, decide_eq_true h4]
    simp only [Bool.true_and]
    rw [Bool.eq_iff_iff]; simp; omega
  rw [h]; exact valid_in n d w h1 h2 h3 h4
/-- What Make returns: numerator, denominator, error. -/
structure MR where
  n : Int
  d : Int
  e : Int
def mkR (n d : Int) : MR :=
  if d = 0 then ⟨0, 0, 2⟩
  else if 1073741824 < n.natAbs / Nat.gcd n.natAbs d.natAbs ∨ 1073741824 < d.natAbs / Nat.gcd n.natAbs d.natAbs then ⟨0, 0, 3⟩
  else ⟨if (decide (n < 0)) = (decide (d < 0)) then ((n.natAbs / Nat.gcd n.natAbs d.natAbs : Nat) : Int) else -((n.natAbs / Nat.gcd n.natAbs d.natAbs : Nat) : Int), ((d.natAbs / Nat.gcd n.natAbs d.natAbs : Nat) : Int), 0⟩
def MR.val (r : MR) : Value := .tuple #[.agg #[.int .i64 r.n, .int .i64 r.d], .int .i64 r.e]
set_option maxRecDepth 100000 in
set_option maxHeartbeats 400000 in
theorem make_zero (n : Int) (w : World) : Calls Tryd.prog 12 #[.int .i64 n, .int .i64 0] w fun e w' => e = .returned (MR.val ⟨0, 0, 2⟩) ∧ Below w.heap.size w w' := by
  go_enter Tryd.func12, Tryd.ntmps12
  go_wp2_with fail
  refine bodyPost_ret (v := .tuple #[.agg #[.int .i64 0, .int .i64 0], .int .i64 2]) (by simp [results, Tryd.results12, go_sem]) rfl ⟨rfl, (Below.refl _ _).alloc (Nat.le_refl _) _⟩
set_option maxRecDepth 100000 in
set_option maxHeartbeats 400000 in
theorem make_long (n d : Int) (a b g : Nat) (w : World) (hd : Hid (d ≠ 0)) (n0 : -9223372036854775808 ≤ n) (n1 : n ≤ 9223372036854775807) (d0 : -9223372036854775808 ≤ d) (d1 : d ≤ 9223372036854775807) (hg : Hid (Nat.gcd n.natAbs d.natAbs = g)) (ha : Hid (n.natAbs / g = a)) (hb : Hid (d.natAbs / g = b)) (hl : 1073741824 < a ∨ 1073741824 < b) :
    Calls Tryd.prog 12 #[.int .i64 n, .int .i64 d] w fun e w' => e = .returned (MR.val ⟨0, 0, 3⟩) ∧ Below w.heap.size w w' := by
  have HS1 := hide (fun w => size_any n w n0 n1)
  have HS2 := hide (fun w => size_any d w d0 d1)
  have HGC := hide (fun w => gcd_any n.natAbs d.natAbs w (by omega) (by omega))
  rw [hg.out] at HGC
  have hgp : 0 < g := by rw [← hg.out]; exact Nat.gcd_pos_of_pos_right _ (by have := hd.out; omega)
  have HA : Hid ((n.natAbs : Int) / (g : Int) = a) := by rw [← ha.out]; exact rfl
  have HB : Hid ((d.natAbs : Int) / (g : Int) = b) := by rw [← hb.out]; exact rfl
  have na1 : n.natAbs ≤ 9223372036854775808 := by omega
  have da1 : d.natAbs ≤ 9223372036854775808 := by omega
  have ha1 : a ≤ 9223372036854775808 := by rw [← ha.out]; exact Nat.le_trans (Nat.div_le_self _ _) na1
  have hb1 : b ≤ 9223372036854775808 := by rw [← hb.out]; exact Nat.le_trans (Nat.div_le_self _ _) da1
  have hz : ((d : Int) == 0) = false := by have := hd.out; simpa using this
  have hgz : ((g : Int) == 0) = false := by simp; omega
  have hg0 : (0 : Int) < (g : Int) := by omega
  have hd2 := hd.out
  have hsn : (decide (n < 0) = true ∧ n < 0) ∨ (decide (n < 0) = false ∧ 0 ≤ n) := by
    by_cases h : n < 0
    · exact .inl ⟨decide_eq_true h, h⟩
    · exact .inr ⟨decide_eq_false h, by omega⟩
  have hsd : (decide (d < 0) = true ∧ d < 0) ∨ (decide (d < 0) = false ∧ 0 ≤ d) := by
    by_cases h : d < 0
    · exact .inl ⟨decide_eq_true h, h⟩
    · exact .inr ⟨decide_eq_false h, by omega⟩
  clear hg ha hb hd2
  generalize n.natAbs = na at *
  generalize d.natAbs = da at *
  go_enter Tryd.func12, Tryd.ntmps12
  go_wp2_with fail
  refine (HS1.out _).mono ?_
  rintro e w1 ⟨rfl, rfl⟩
  go_wp2_with fail
  refine (HS2.out _).mono ?_
  rintro e w1 ⟨rfl, rfl⟩
  go_wp2_with fail
  refine (HGC.out _).mono ?_
  rintro e w1 ⟨rfl, dd, rfl⟩
  go_wp2_with fail
  go_quiet (fail)
  rw [HA.out, HB.out]
  by_cases ha2 : 1073741824 < a
  · go_wp2_with fail
    refine bodyPost_ret (v := .tuple #[.agg #[.int .i64 0, .int .i64 0], .int .i64 3]) (by simp [results, Tryd.results12, go_sem]) rfl ⟨rfl, (((below_drewN ((Below.refl _ _).alloc (Nat.le_refl _) _) _).setCell (by simp) _).setCell (by simp) _)⟩
  · have hl2 : 1073741824 < b := by omega
    go_wp2_with fail
    refine bodyPost_ret (v := .tuple #[.agg #[.int .i64 0, .int .i64 0], .int .i64 3]) (by simp [results, Tryd.results12, go_sem]) rfl ⟨rfl, (((below_drewN ((Below.refl _ _).alloc (Nat.le_refl _) _) _).setCell (by simp) _).setCell (by simp) _)⟩
set_option maxRecDepth 100000 in
set_option maxHeartbeats 800000 in
theorem make_fine (n d : Int) (a b g : Nat) (w : World) (hd : Hid (d ≠ 0)) (n0 : -9223372036854775808 ≤ n) (n1 : n ≤ 9223372036854775807) (d0 : -9223372036854775808 ≤ d) (d1 : d ≤ 9223372036854775807) (hg : Hid (Nat.gcd n.natAbs d.natAbs = g)) (ha : Hid (n.natAbs / g = a)) (hb : Hid (d.natAbs / g = b)) (al : a ≤ 1073741824) (bl : b ≤ 1073741824) :
    Calls Tryd.prog 12 #[.int .i64 n, .int .i64 d] w fun e w' => e = .returned (MR.val ⟨if (decide (n < 0)) = (decide (d < 0)) then (a : Int) else -(a : Int), b, 0⟩) ∧ Below w.heap.size w w' := by
  have al2 : decide (1073741824 < (a : Int)) = false := decide_eq_false (by omega)
  have bl2 : decide (1073741824 < (b : Int)) = false := decide_eq_false (by omega)
  have HS1 := hide (fun w => size_any n w n0 n1)
  have HS2 := hide (fun w => size_any d w d0 d1)
  have HGC := hide (fun w => gcd_any n.natAbs d.natAbs w (by omega) (by omega))
  rw [hg.out] at HGC
  have hgp : 0 < g := by rw [← hg.out]; exact Nat.gcd_pos_of_pos_right _ (by have := hd.out; omega)
  have HA : Hid ((n.natAbs : Int) / (g : Int) = a) := by rw [← ha.out]; exact rfl
  have HB : Hid ((d.natAbs : Int) / (g : Int) = b) := by rw [← hb.out]; exact rfl
  have na1 : n.natAbs ≤ 9223372036854775808 := by omega
  have da1 : d.natAbs ≤ 9223372036854775808 := by omega
  have ha1 : a ≤ 9223372036854775808 := by rw [← ha.out]; exact Nat.le_trans (Nat.div_le_self _ _) na1
  have hb1 : b ≤ 9223372036854775808 := by rw [← hb.out]; exact Nat.le_trans (Nat.div_le_self _ _) da1
  have hz : ((d : Int) == 0) = false := by have := hd.out; simpa using this
  have hgz : ((g : Int) == 0) = false := by simp; omega
  have hg0 : (0 : Int) < (g : Int) := by omega
  have hd2 := hd.out
  have hsn : (decide (n < 0) = true ∧ n < 0) ∨ (decide (n < 0) = false ∧ 0 ≤ n) := by
    by_cases h : n < 0
    · exact .inl ⟨decide_eq_true h, h⟩
    · exact .inr ⟨decide_eq_false h, by omega⟩
  have hsd : (decide (d < 0) = true ∧ d < 0) ∨ (decide (d < 0) = false ∧ 0 ≤ d) := by
    by_cases h : d < 0
    · exact .inl ⟨decide_eq_true h, h⟩
    · exact .inr ⟨decide_eq_false h, by omega⟩
  clear hg ha hb hd2
  generalize n.natAbs = na at *
  generalize d.natAbs = da at *
  go_enter Tryd.func12, Tryd.ntmps12
  go_wp2_with fail
  refine (HS1.out _).mono ?_
  rintro e w1 ⟨rfl, rfl⟩
  go_wp2_with fail
  refine (HS2.out _).mono ?_
  rintro e w1 ⟨rfl, rfl⟩
  go_wp2_with fail
  refine (HGC.out _).mono ?_
  rintro e w1 ⟨rfl, dd, rfl⟩
  go_wp2_with fail
  go_quiet (fail)
  rw [HA.out, HB.out]
  rcases hsn with ⟨sn, sn2⟩ | ⟨sn, sn2⟩ <;> rcases hsd with ⟨sd, sd2⟩ | ⟨sd, sd2⟩
  all_goals go_wp2_with fail
  all_goals
    first
      | (refine bodyPost_ret (v := .tuple #[.agg #[.int .i64 a, .int .i64 b], .int .i64 0]) (by simp [results, Tryd.results12, go_sem]) rfl ⟨rfl, ((((below_drewN ((Below.refl _ _).alloc (Nat.le_refl _) _) _).setCell (by simp) _).setCell (by simp) _).alloc (by simp [World.setCell]) _)⟩)
      | (refine bodyPost_ret (v := .tuple #[.agg #[.int .i64 (-a), .int .i64 b], .int .i64 0]) (by simp [results, Tryd.results12, go_sem]) rfl ⟨rfl, (((((below_drewN ((Below.refl _ _).alloc (Nat.le_refl _) _) _).setCell (by simp) _).setCell (by simp) _).alloc (by simp [World.setCell]) _))⟩)
theorem make_any (n d : Int) (w : World) (n0 : -9223372036854775808 ≤ n) (n1 : n ≤ 9223372036854775807) (d0 : -9223372036854775808 ≤ d) (d1 : d ≤ 9223372036854775807) :
    Calls Tryd.prog 12 #[.int .i64 n, .int .i64 d] w fun e w' => e = .returned (mkR n d).val ∧ Below w.heap.size w w' := by
  unfold mkR
  by_cases hd : d = 0
  · rw [if_pos hd]; subst hd; exact make_zero n w
  · rw [if_neg hd]
    by_cases hl : 1073741824 < n.natAbs / Nat.gcd n.natAbs d.natAbs ∨ 1073741824 < d.natAbs / Nat.gcd n.natAbs d.natAbs
    · rw [if_pos hl]
      exact make_long n d _ _ _ w hd n0 n1 d0 d1 rfl rfl rfl hl
    · rw [if_neg hl]
      exact make_fine n d _ _ _ w hd n0 n1 d0 d1 rfl rfl rfl (by omega) (by omega)
end Go.Proofs.YtdjenpccgaojgaaDoor
