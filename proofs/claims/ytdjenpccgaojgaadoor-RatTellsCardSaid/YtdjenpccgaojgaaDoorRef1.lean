/-
  nacelleref01: gcd, size, Valid, Make.
-/
import Derived.Test.YtdjenpccgaojgaaDoorAwk
import Derived.Test.YtdjenpccgaojgaaDoorRnd
namespace Go.Proofs.YtdjenpccgaojgaaDoor
open Go.RowKit
set_option maxRecDepth 100000 in
set_option maxHeartbeats 400000 in
theorem rgcd_any (k : Nat) : ∀ (a b : Nat) (w : World), b ≤ k → a ≤ 9223372036854775808 → b ≤ 9223372036854775808 → Calls Tryd.prog 35 #[.int .u64 a, .int .u64 b] w fun e w' => e = .returned (.int .u64 (Nat.gcd a b)) ∧ w = w' := by
  induction k with
  | zero =>
    intro a b w hk ha hb
    obtain rfl : b = 0 := by omega
    have HG : Hid (Nat.gcd a 0 = a) := Nat.gcd_zero_right a
    rw [show ((0 : Nat) : Int) = 0 from rfl]
    go_enter Tryd.func35, Tryd.ntmps35
    go_wp2_with fail
    go_ret
    exact ⟨by rw [HG.out]; rfl, rfl⟩
  | succ k ih =>
    intro a b w hk ha hb
    by_cases hz : b = 0
    · subst hz
      have HG : Hid (Nat.gcd a 0 = a) := Nat.gcd_zero_right a
      have IH := hide ih
      clear ih
      rw [show ((0 : Nat) : Int) = 0 from rfl]
      go_enter Tryd.func35, Tryd.ntmps35
      go_wp2_with fail
      go_ret
      exact ⟨by rw [HG.out]; rfl, rfl⟩
    · have hlt := Nat.mod_lt a (show 0 < b by omega)
      have HI := hide (fun w => ih b (a % b) w (by omega) hb (by omega))
      have HM : Hid ((a : Int) % (b : Int) = ((a % b : Nat) : Int)) := rfl
      have HG : Hid (Nat.gcd a b = Nat.gcd b (a % b)) := by rw [Nat.gcd_comm a b, Nat.gcd_rec b a, Nat.gcd_comm]; exact rfl
      have hb1 : ((b : Int) == 0) = false := by simp; omega
      have hb2 : (0 : Int) < (b : Int) := by omega
      have ha2 : (0 : Int) ≤ (a : Int) := by omega
      clear ih hlt hz
      generalize a % b = r at *
      go_enter Tryd.func35, Tryd.ntmps35
      go_wp2_with fail
      rw [HM.out]
      refine (HI.out _).mono ?_
      rintro e w' ⟨rfl, rfl⟩
      go_wp2_with fail
      go_ret
      exact ⟨by rw [HG.out]; rfl, rfl⟩
theorem wrap_neg (n : Int) (h0 : -9223372036854775808 ≤ n) (h1 : n < 0) : IntKind.u64.wrap (IntKind.u64.wrap (18446744073709551615 - IntKind.u64.wrap n) + 1) = -n := by
  simp only [IntKind.wrap_u64]
  omega
set_option maxRecDepth 100000 in
set_option maxHeartbeats 1000000 in
theorem rsize_any (n : Int) (w : World) (h0 : -9223372036854775808 ≤ n) (h1 : n ≤ 9223372036854775807) : Calls Tryd.prog 36 #[.int .i64 n] w fun e w' => e = .returned (.int .u64 n.natAbs) ∧ w = w' := by
  by_cases hn : 0 ≤ n
  · have HE := hide (show (n.natAbs : Int) = n by omega)
    go_enter Tryd.func36, Tryd.ntmps36
    go_wp2_with fail
    go_ret
    exact ⟨by rw [HE.out]; rfl, rfl⟩
  · have HE := hide (sz_nat n (by omega))
    have hn2 : n < 0 := by omega
    go_enter Tryd.func36, Tryd.ntmps36
    go_wp2_with fail
    go_ret
    exact ⟨by rw [HE.out]; exact ret_int (wrap_neg n (by omega) (by omega)), rfl⟩
theorem rsize_q (n : Int) (w : World) (h0 : -9223372036854775808 ≤ n) (h1 : n ≤ 9223372036854775807) : Calls Tryd.prog 36 #[.int .i64 n] w fun e w' => e = .returned (.int .u64 n.natAbs) ∧ w' = w := (rsize_any n w h0 h1).mono fun _ _ ⟨h, h2⟩ => ⟨h, h2.symm⟩
theorem rgcd_q (a b : Nat) (w : World) (ha : a ≤ 9223372036854775808) (hb : b ≤ 9223372036854775808) : Calls Tryd.prog 35 #[.int .u64 a, .int .u64 b] w fun e w' => e = .returned (.int .u64 (Nat.gcd a b)) ∧ w' = w := (rgcd_any b a b w (Nat.le_refl _) ha hb).mono fun _ _ ⟨h, h2⟩ => ⟨h, h2.symm⟩
set_option maxRecDepth 100000 in
set_option maxHeartbeats 400000 in
theorem rvalid_n1 (n d : Int) (w : World)  (hd : decide (1 ≤ d) = false) : Calls Tryd.prog 21 #[.agg #[.int .i64 n, .int .i64 d]] w fun e w' => e = .returned (.bool false) ∧ Below w.heap.size w w' := by
  go_enter Tryd.func21, Tryd.ntmps21
  go_wp2_with fail
  go_quiet (fail)
  go_wp2_with fail
  go_ret
  exact ⟨rfl, below_drewN ((Below.refl _ _).alloc (Nat.le_refl _) _) _⟩
set_option maxRecDepth 100000 in
set_option maxHeartbeats 400000 in
theorem rvalid_n2 (n d : Int) (w : World) (h1 : 1 ≤ d) (hd : decide (d ≤ 1073741824) = false) : Calls Tryd.prog 21 #[.agg #[.int .i64 n, .int .i64 d]] w fun e w' => e = .returned (.bool false) ∧ Below w.heap.size w w' := by
  go_enter Tryd.func21, Tryd.ntmps21
  go_wp2_with fail
  go_quiet (fail)
  go_wp2_with fail
  go_ret
  exact ⟨rfl, below_drewN ((Below.refl _ _).alloc (Nat.le_refl _) _) _⟩
set_option maxRecDepth 100000 in
set_option maxHeartbeats 400000 in
theorem rvalid_n3 (n d : Int) (w : World) (h1 : 1 ≤ d) (h2 : d ≤ 1073741824) (hd : decide (-1073741824 ≤ n) = false) : Calls Tryd.prog 21 #[.agg #[.int .i64 n, .int .i64 d]] w fun e w' => e = .returned (.bool false) ∧ Below w.heap.size w w' := by
  go_enter Tryd.func21, Tryd.ntmps21
  go_wp2_with fail
  go_quiet (fail)
  go_wp2_with fail
  go_ret
  exact ⟨rfl, below_drewN ((Below.refl _ _).alloc (Nat.le_refl _) _) _⟩
set_option maxRecDepth 100000 in
set_option maxHeartbeats 400000 in
theorem rvalid_n4 (n d : Int) (w : World) (h1 : 1 ≤ d) (h2 : d ≤ 1073741824) (h3 : -1073741824 ≤ n) (hd : decide (n ≤ 1073741824) = false) : Calls Tryd.prog 21 #[.agg #[.int .i64 n, .int .i64 d]] w fun e w' => e = .returned (.bool false) ∧ Below w.heap.size w w' := by
  go_enter Tryd.func21, Tryd.ntmps21
  go_wp2_with fail
  go_quiet (fail)
  go_wp2_with fail
  go_ret
  exact ⟨rfl, below_drewN ((Below.refl _ _).alloc (Nat.le_refl _) _) _⟩
set_option maxRecDepth 100000 in
set_option maxHeartbeats 400000 in
theorem rvalid_in (n d : Int) (w : World) (h1 : 1 ≤ d) (h2 : d ≤ 1073741824) (h3 : -1073741824 ≤ n) (h4 : n ≤ 1073741824) : Calls Tryd.prog 21 #[.agg #[.int .i64 n, .int .i64 d]] w fun e w' => e = .returned (.bool ((Nat.gcd n.natAbs d.natAbs : Int) == 1)) ∧ Below w.heap.size w w' := by
  have HS1 := hide (fun w => rsize_q n w (by omega) (by omega))
  have HGC := hide (fun w => rgcd_q n.natAbs d.natAbs w (by omega) (by omega))
  have hd : (d.natAbs : Int) = d := by omega
  rw [hd] at HGC
  clear hd
  generalize Nat.gcd n.natAbs d.natAbs = g at *
  generalize n.natAbs = na at *
  go_enter Tryd.func21, Tryd.ntmps21
  go_wp2_with fail
  go_quiet (first | (go_at_call 36; with_reducible exact Calls.quiet_of_same (HS1.out _)) | (go_at_call 35; with_reducible exact Calls.quiet_of_same (HGC.out _)))
  go_wp2_with fail
  go_ret
  exact ⟨rfl, below_drewN ((Below.refl _ _).alloc (Nat.le_refl _) _) _⟩
theorem rvalid_any (n d : Int) (w : World) : Calls Tryd.prog 21 #[.agg #[.int .i64 n, .int .i64 d]] w fun e w' => e = .returned (.bool (okB n d)) ∧ Below w.heap.size w w' := by
  by_cases h1 : 1 ≤ d
  case neg =>
    have h : okB n d = false := by unfold okB; simp [h1]
    rw [h]
    exact rvalid_n1 n d w (decide_eq_false h1)
  by_cases h2 : d ≤ 1073741824
  case neg =>
    have h : okB n d = false := by unfold okB; simp [h2]
    rw [h]
    exact rvalid_n2 n d w h1 (decide_eq_false h2)
  by_cases h3 : -1073741824 ≤ n
  case neg =>
    have h : okB n d = false := by unfold okB; simp [h3]
    rw [h]
    exact rvalid_n3 n d w h1 h2 (decide_eq_false h3)
  by_cases h4 : n ≤ 1073741824
  case neg =>
    have h : okB n d = false := by unfold okB; simp [h4]
    rw [h]
    exact rvalid_n4 n d w h1 h2 h3 (decide_eq_false h4)
  have h : okB n d = ((Nat.gcd n.natAbs d.natAbs : Int) == 1) := by
    unfold okB
    rw [decide_eq_true h1, decide_eq_true h2, decide_eq_true h3, decide_eq_true h4]
    simp only [Bool.true_and]
    rw [Bool.eq_iff_iff]; simp; omega
  rw [h]; exact rvalid_in n d w h1 h2 h3 h4
set_option maxRecDepth 100000 in
set_option maxHeartbeats 400000 in
theorem rmake_zero (n : Int) (w : World) : Calls Tryd.prog 20 #[.int .i64 n, .int .i64 0] w fun e w' => e = .returned (MR.val ⟨0, 0, 2⟩) ∧ Below w.heap.size w w' := by
  go_enter Tryd.func20, Tryd.ntmps20
  go_wp2_with fail
  refine bodyPost_ret (v := .tuple #[.agg #[.int .i64 0, .int .i64 0], .int .i64 2]) (by simp [results, Tryd.results20, go_sem]) rfl ⟨rfl, (Below.refl _ _).alloc (Nat.le_refl _) _⟩
set_option maxRecDepth 100000 in
set_option maxHeartbeats 400000 in
theorem rmake_long (n d : Int) (a b g : Nat) (w : World) (hd : Hid (d ≠ 0)) (n0 : -9223372036854775808 ≤ n) (n1 : n ≤ 9223372036854775807) (d0 : -9223372036854775808 ≤ d) (d1 : d ≤ 9223372036854775807) (hg : Hid (Nat.gcd n.natAbs d.natAbs = g)) (ha : Hid (n.natAbs / g = a)) (hb : Hid (d.natAbs / g = b)) (hl : 1073741824 < a ∨ 1073741824 < b) :
    Calls Tryd.prog 20 #[.int .i64 n, .int .i64 d] w fun e w' => e = .returned (MR.val ⟨0, 0, 3⟩) ∧ Below w.heap.size w w' := by
  have HS1 := hide (fun w => rsize_any n w n0 n1)
  have HS2 := hide (fun w => rsize_any d w d0 d1)
  have HQ1 := hide (fun w => rsize_q n w n0 n1)
  have HQ2 := hide (fun w => rsize_q d w d0 d1)
  have HGC := hide (fun w => rgcd_any d.natAbs n.natAbs d.natAbs w (Nat.le_refl _) (by omega) (by omega))
  rw [hg.out] at HGC
  have hgp : 0 < g := by rw [← hg.out]; exact Nat.gcd_pos_of_pos_right _ (by have := hd.out; omega)
  have HA : Hid ((n.natAbs : Int) / (g : Int) = a) := by rw [← ha.out]; exact rfl
  have HB : Hid ((d.natAbs : Int) / (g : Int) = b) := by rw [← hb.out]; exact rfl
  have na1 : n.natAbs ≤ 9223372036854775808 := by omega
  have da1 : d.natAbs ≤ 9223372036854775808 := by omega
  have ha1 : a ≤ 9223372036854775808 := by rw [← ha.out]; exact Nat.le_trans (Nat.div_le_self _ _) na1
  have hb1 : b ≤ 9223372036854775808 := by rw [← hb.out]; exact Nat.le_trans (Nat.div_le_self _ _) da1
  have hz : ((d : Int) == 0) = false := by have := hd.out; simpa using this
  have hgz : ((g : Int) == 0) = false := by simp; omega
  have hg0 : (0 : Int) < (g : Int) := by omega
  clear hg ha hb
  generalize n.natAbs = na at *
  generalize d.natAbs = da at *
  go_enter Tryd.func20, Tryd.ntmps20
  go_wp2_with fail
  refine (HS1.out _).mono ?_
  rintro e w1 ⟨rfl, rfl⟩
  go_wp2_with fail
  refine (HS2.out _).mono ?_
  rintro e w1 ⟨rfl, rfl⟩
  go_wp2_with fail
  refine (HGC.out _).mono ?_
  rintro e w1 ⟨rfl, rfl⟩
  go_wp2_with fail
  go_quiet ((go_at_call 36; first | with_reducible exact Calls.quiet_of_same (HQ1.out _) | with_reducible exact Calls.quiet_of_same (HQ2.out _)))
  rw [HA.out, HB.out]
  by_cases ha2 : 1073741824 < a
  · go_wp2_with fail
    refine bodyPost_ret (v := .tuple #[.agg #[.int .i64 0, .int .i64 0], .int .i64 3]) (by simp [results, Tryd.results20, go_sem]) rfl ⟨rfl, (((below_drewN ((Below.refl _ _).alloc (Nat.le_refl _) _) _).setCell (by simp) _).setCell (by simp) _)⟩
  · have hl2 : 1073741824 < b := by omega
    go_wp2_with fail
    refine bodyPost_ret (v := .tuple #[.agg #[.int .i64 0, .int .i64 0], .int .i64 3]) (by simp [results, Tryd.results20, go_sem]) rfl ⟨rfl, (((below_drewN ((Below.refl _ _).alloc (Nat.le_refl _) _) _).setCell (by simp) _).setCell (by simp) _)⟩
set_option maxRecDepth 100000 in
set_option maxHeartbeats 800000 in
theorem rmake_np (n d : Int) (a b g : Nat) (w : World) (hd : Hid (d ≠ 0)) (n0 : -9223372036854775808 ≤ n) (n1 : n ≤ 9223372036854775807) (d0 : -9223372036854775808 ≤ d) (d1 : d ≤ 9223372036854775807) (hg : Hid (Nat.gcd n.natAbs d.natAbs = g)) (ha : Hid (n.natAbs / g = a)) (hb : Hid (d.natAbs / g = b)) (al : a ≤ 1073741824) (bl : b ≤ 1073741824) (c1 : n < 0) (c2 : 0 < d) :
    Calls Tryd.prog 20 #[.int .i64 n, .int .i64 d] w fun e w' => e = .returned (MR.val ⟨-(a : Int), b, 0⟩) ∧ Below w.heap.size w w' := by
  have al2 : decide (1073741824 < (a : Int)) = false := decide_eq_false (by omega)
  have bl2 : decide (1073741824 < (b : Int)) = false := decide_eq_false (by omega)
  have HS1 := hide (fun w => rsize_any n w n0 n1)
  have HS2 := hide (fun w => rsize_any d w d0 d1)
  have HQ1 := hide (fun w => rsize_q n w n0 n1)
  have HQ2 := hide (fun w => rsize_q d w d0 d1)
  have HGC := hide (fun w => rgcd_any d.natAbs n.natAbs d.natAbs w (Nat.le_refl _) (by omega) (by omega))
  rw [hg.out] at HGC
  have hgp : 0 < g := by rw [← hg.out]; exact Nat.gcd_pos_of_pos_right _ (by have := hd.out; omega)
  have HA : Hid ((n.natAbs : Int) / (g : Int) = a) := by rw [← ha.out]; exact rfl
  have HB : Hid ((d.natAbs : Int) / (g : Int) = b) := by rw [← hb.out]; exact rfl
  have na1 : n.natAbs ≤ 9223372036854775808 := by omega
  have da1 : d.natAbs ≤ 9223372036854775808 := by omega
  have ha1 : a ≤ 9223372036854775808 := by rw [← ha.out]; exact Nat.le_trans (Nat.div_le_self _ _) na1
  have hb1 : b ≤ 9223372036854775808 := by rw [← hb.out]; exact Nat.le_trans (Nat.div_le_self _ _) da1
  have hz : ((d : Int) == 0) = false := by have := hd.out; simpa using this
  have hgz : ((g : Int) == 0) = false := by simp; omega
  have hg0 : (0 : Int) < (g : Int) := by omega
  clear hg ha hb
  generalize n.natAbs = na at *
  generalize d.natAbs = da at *
  go_enter Tryd.func20, Tryd.ntmps20
  go_wp2_with fail
  refine (HS1.out _).mono ?_
  rintro e w1 ⟨rfl, rfl⟩
  go_wp2_with fail
  refine (HS2.out _).mono ?_
  rintro e w1 ⟨rfl, rfl⟩
  go_wp2_with fail
  refine (HGC.out _).mono ?_
  rintro e w1 ⟨rfl, rfl⟩
  go_wp2_with fail
  go_quiet ((go_at_call 36; first | with_reducible exact Calls.quiet_of_same (HQ1.out _) | with_reducible exact Calls.quiet_of_same (HQ2.out _)))
  rw [HA.out, HB.out]
  go_wp2_with fail
  all_goals
    refine bodyPost_ret (v := .tuple #[.agg #[.int .i64 (-(a : Int)), .int .i64 b], .int .i64 0]) (by simp [results, Tryd.results20, go_sem]) rfl ⟨rfl, ?_⟩
    exact (((below_drewN ((Below.refl _ _).alloc (Nat.le_refl _) _) _).setCell (by simp) _).setCell (by simp) _)
set_option maxRecDepth 100000 in
set_option maxHeartbeats 800000 in
theorem rmake_pn (n d : Int) (a b g : Nat) (w : World) (hd : Hid (d ≠ 0)) (n0 : -9223372036854775808 ≤ n) (n1 : n ≤ 9223372036854775807) (d0 : -9223372036854775808 ≤ d) (d1 : d ≤ 9223372036854775807) (hg : Hid (Nat.gcd n.natAbs d.natAbs = g)) (ha : Hid (n.natAbs / g = a)) (hb : Hid (d.natAbs / g = b)) (al : a ≤ 1073741824) (bl : b ≤ 1073741824) (c1 : 0 < n) (c2 : d < 0) :
    Calls Tryd.prog 20 #[.int .i64 n, .int .i64 d] w fun e w' => e = .returned (MR.val ⟨-(a : Int), b, 0⟩) ∧ Below w.heap.size w w' := by
  have al2 : decide (1073741824 < (a : Int)) = false := decide_eq_false (by omega)
  have bl2 : decide (1073741824 < (b : Int)) = false := decide_eq_false (by omega)
  have HS1 := hide (fun w => rsize_any n w n0 n1)
  have HS2 := hide (fun w => rsize_any d w d0 d1)
  have HQ1 := hide (fun w => rsize_q n w n0 n1)
  have HQ2 := hide (fun w => rsize_q d w d0 d1)
  have HGC := hide (fun w => rgcd_any d.natAbs n.natAbs d.natAbs w (Nat.le_refl _) (by omega) (by omega))
  rw [hg.out] at HGC
  have hgp : 0 < g := by rw [← hg.out]; exact Nat.gcd_pos_of_pos_right _ (by have := hd.out; omega)
  have HA : Hid ((n.natAbs : Int) / (g : Int) = a) := by rw [← ha.out]; exact rfl
  have HB : Hid ((d.natAbs : Int) / (g : Int) = b) := by rw [← hb.out]; exact rfl
  have na1 : n.natAbs ≤ 9223372036854775808 := by omega
  have da1 : d.natAbs ≤ 9223372036854775808 := by omega
  have ha1 : a ≤ 9223372036854775808 := by rw [← ha.out]; exact Nat.le_trans (Nat.div_le_self _ _) na1
  have hb1 : b ≤ 9223372036854775808 := by rw [← hb.out]; exact Nat.le_trans (Nat.div_le_self _ _) da1
  have hz : ((d : Int) == 0) = false := by have := hd.out; simpa using this
  have hgz : ((g : Int) == 0) = false := by simp; omega
  have hg0 : (0 : Int) < (g : Int) := by omega
  clear hg ha hb
  generalize n.natAbs = na at *
  generalize d.natAbs = da at *
  go_enter Tryd.func20, Tryd.ntmps20
  go_wp2_with fail
  refine (HS1.out _).mono ?_
  rintro e w1 ⟨rfl, rfl⟩
  go_wp2_with fail
  refine (HS2.out _).mono ?_
  rintro e w1 ⟨rfl, rfl⟩
  go_wp2_with fail
  refine (HGC.out _).mono ?_
  rintro e w1 ⟨rfl, rfl⟩
  go_wp2_with fail
  go_quiet ((go_at_call 36; first | with_reducible exact Calls.quiet_of_same (HQ1.out _) | with_reducible exact Calls.quiet_of_same (HQ2.out _)))
  rw [HA.out, HB.out]
  go_wp2_with fail
  all_goals
    refine bodyPost_ret (v := .tuple #[.agg #[.int .i64 (-(a : Int)), .int .i64 b], .int .i64 0]) (by simp [results, Tryd.results20, go_sem]) rfl ⟨rfl, ?_⟩
    exact (((below_drewN ((Below.refl _ _).alloc (Nat.le_refl _) _) _).setCell (by simp) _).setCell (by simp) _)
set_option maxRecDepth 100000 in
set_option maxHeartbeats 800000 in
theorem rmake_nn (n d : Int) (a b g : Nat) (w : World) (hd : Hid (d ≠ 0)) (n0 : -9223372036854775808 ≤ n) (n1 : n ≤ 9223372036854775807) (d0 : -9223372036854775808 ≤ d) (d1 : d ≤ 9223372036854775807) (hg : Hid (Nat.gcd n.natAbs d.natAbs = g)) (ha : Hid (n.natAbs / g = a)) (hb : Hid (d.natAbs / g = b)) (al : a ≤ 1073741824) (bl : b ≤ 1073741824) (c1 : n < 0) (c2 : d < 0) :
    Calls Tryd.prog 20 #[.int .i64 n, .int .i64 d] w fun e w' => e = .returned (MR.val ⟨(a : Int), b, 0⟩) ∧ Below w.heap.size w w' := by
  have al2 : decide (1073741824 < (a : Int)) = false := decide_eq_false (by omega)
  have bl2 : decide (1073741824 < (b : Int)) = false := decide_eq_false (by omega)
  have HS1 := hide (fun w => rsize_any n w n0 n1)
  have HS2 := hide (fun w => rsize_any d w d0 d1)
  have HQ1 := hide (fun w => rsize_q n w n0 n1)
  have HQ2 := hide (fun w => rsize_q d w d0 d1)
  have HGC := hide (fun w => rgcd_any d.natAbs n.natAbs d.natAbs w (Nat.le_refl _) (by omega) (by omega))
  rw [hg.out] at HGC
  have hgp : 0 < g := by rw [← hg.out]; exact Nat.gcd_pos_of_pos_right _ (by have := hd.out; omega)
  have HA : Hid ((n.natAbs : Int) / (g : Int) = a) := by rw [← ha.out]; exact rfl
  have HB : Hid ((d.natAbs : Int) / (g : Int) = b) := by rw [← hb.out]; exact rfl
  have na1 : n.natAbs ≤ 9223372036854775808 := by omega
  have da1 : d.natAbs ≤ 9223372036854775808 := by omega
  have ha1 : a ≤ 9223372036854775808 := by rw [← ha.out]; exact Nat.le_trans (Nat.div_le_self _ _) na1
  have hb1 : b ≤ 9223372036854775808 := by rw [← hb.out]; exact Nat.le_trans (Nat.div_le_self _ _) da1
  have hz : ((d : Int) == 0) = false := by have := hd.out; simpa using this
  have hgz : ((g : Int) == 0) = false := by simp; omega
  have hg0 : (0 : Int) < (g : Int) := by omega
  clear hg ha hb
  generalize n.natAbs = na at *
  generalize d.natAbs = da at *
  go_enter Tryd.func20, Tryd.ntmps20
  go_wp2_with fail
  refine (HS1.out _).mono ?_
  rintro e w1 ⟨rfl, rfl⟩
  go_wp2_with fail
  refine (HS2.out _).mono ?_
  rintro e w1 ⟨rfl, rfl⟩
  go_wp2_with fail
  refine (HGC.out _).mono ?_
  rintro e w1 ⟨rfl, rfl⟩
  go_wp2_with fail
  go_quiet ((go_at_call 36; first | with_reducible exact Calls.quiet_of_same (HQ1.out _) | with_reducible exact Calls.quiet_of_same (HQ2.out _)))
  rw [HA.out, HB.out]
  go_wp2_with fail
  all_goals
    refine bodyPost_ret (v := .tuple #[.agg #[.int .i64 ((a : Int)), .int .i64 b], .int .i64 0]) (by simp [results, Tryd.results20, go_sem]) rfl ⟨rfl, ?_⟩
    exact (((below_drewN ((Below.refl _ _).alloc (Nat.le_refl _) _) _).setCell (by simp) _).setCell (by simp) _)
set_option maxRecDepth 100000 in
set_option maxHeartbeats 800000 in
theorem rmake_pp (n d : Int) (a b g : Nat) (w : World) (hd : Hid (d ≠ 0)) (n0 : -9223372036854775808 ≤ n) (n1 : n ≤ 9223372036854775807) (d0 : -9223372036854775808 ≤ d) (d1 : d ≤ 9223372036854775807) (hg : Hid (Nat.gcd n.natAbs d.natAbs = g)) (ha : Hid (n.natAbs / g = a)) (hb : Hid (d.natAbs / g = b)) (al : a ≤ 1073741824) (bl : b ≤ 1073741824) (c1 : 0 ≤ n) (c2 : 0 < d) :
    Calls Tryd.prog 20 #[.int .i64 n, .int .i64 d] w fun e w' => e = .returned (MR.val ⟨(a : Int), b, 0⟩) ∧ Below w.heap.size w w' := by
  have al2 : decide (1073741824 < (a : Int)) = false := decide_eq_false (by omega)
  have bl2 : decide (1073741824 < (b : Int)) = false := decide_eq_false (by omega)
  have HS1 := hide (fun w => rsize_any n w n0 n1)
  have HS2 := hide (fun w => rsize_any d w d0 d1)
  have HQ1 := hide (fun w => rsize_q n w n0 n1)
  have HQ2 := hide (fun w => rsize_q d w d0 d1)
  have HGC := hide (fun w => rgcd_any d.natAbs n.natAbs d.natAbs w (Nat.le_refl _) (by omega) (by omega))
  rw [hg.out] at HGC
  have hgp : 0 < g := by rw [← hg.out]; exact Nat.gcd_pos_of_pos_right _ (by have := hd.out; omega)
  have HA : Hid ((n.natAbs : Int) / (g : Int) = a) := by rw [← ha.out]; exact rfl
  have HB : Hid ((d.natAbs : Int) / (g : Int) = b) := by rw [← hb.out]; exact rfl
  have na1 : n.natAbs ≤ 9223372036854775808 := by omega
  have da1 : d.natAbs ≤ 9223372036854775808 := by omega
  have ha1 : a ≤ 9223372036854775808 := by rw [← ha.out]; exact Nat.le_trans (Nat.div_le_self _ _) na1
  have hb1 : b ≤ 9223372036854775808 := by rw [← hb.out]; exact Nat.le_trans (Nat.div_le_self _ _) da1
  have hz : ((d : Int) == 0) = false := by have := hd.out; simpa using this
  have hgz : ((g : Int) == 0) = false := by simp; omega
  have hg0 : (0 : Int) < (g : Int) := by omega
  clear hg ha hb
  generalize n.natAbs = na at *
  generalize d.natAbs = da at *
  go_enter Tryd.func20, Tryd.ntmps20
  go_wp2_with fail
  refine (HS1.out _).mono ?_
  rintro e w1 ⟨rfl, rfl⟩
  go_wp2_with fail
  refine (HS2.out _).mono ?_
  rintro e w1 ⟨rfl, rfl⟩
  go_wp2_with fail
  refine (HGC.out _).mono ?_
  rintro e w1 ⟨rfl, rfl⟩
  go_wp2_with fail
  go_quiet ((go_at_call 36; first | with_reducible exact Calls.quiet_of_same (HQ1.out _) | with_reducible exact Calls.quiet_of_same (HQ2.out _)))
  rw [HA.out, HB.out]
  go_wp2_with fail
  all_goals
    refine bodyPost_ret (v := .tuple #[.agg #[.int .i64 ((a : Int)), .int .i64 b], .int .i64 0]) (by simp [results, Tryd.results20, go_sem]) rfl ⟨rfl, ?_⟩
    exact (((below_drewN ((Below.refl _ _).alloc (Nat.le_refl _) _) _).setCell (by simp) _).setCell (by simp) _)
set_option maxRecDepth 100000 in
set_option maxHeartbeats 800000 in
theorem rmake_zn (n d : Int) (a b g : Nat) (w : World) (hd : Hid (d ≠ 0)) (n0 : -9223372036854775808 ≤ n) (n1 : n ≤ 9223372036854775807) (d0 : -9223372036854775808 ≤ d) (d1 : d ≤ 9223372036854775807) (hg : Hid (Nat.gcd n.natAbs d.natAbs = g)) (ha : Hid (n.natAbs / g = a)) (hb : Hid (d.natAbs / g = b)) (al : a ≤ 1073741824) (bl : b ≤ 1073741824) (c1 : n ≤ 0) (c0 : 0 ≤ n) (c2 : d < 0) :
    Calls Tryd.prog 20 #[.int .i64 n, .int .i64 d] w fun e w' => e = .returned (MR.val ⟨(a : Int), b, 0⟩) ∧ Below w.heap.size w w' := by
  have al2 : decide (1073741824 < (a : Int)) = false := decide_eq_false (by omega)
  have bl2 : decide (1073741824 < (b : Int)) = false := decide_eq_false (by omega)
  have HS1 := hide (fun w => rsize_any n w n0 n1)
  have HS2 := hide (fun w => rsize_any d w d0 d1)
  have HQ1 := hide (fun w => rsize_q n w n0 n1)
  have HQ2 := hide (fun w => rsize_q d w d0 d1)
  have HGC := hide (fun w => rgcd_any d.natAbs n.natAbs d.natAbs w (Nat.le_refl _) (by omega) (by omega))
  rw [hg.out] at HGC
  have hgp : 0 < g := by rw [← hg.out]; exact Nat.gcd_pos_of_pos_right _ (by have := hd.out; omega)
  have HA : Hid ((n.natAbs : Int) / (g : Int) = a) := by rw [← ha.out]; exact rfl
  have HB : Hid ((d.natAbs : Int) / (g : Int) = b) := by rw [← hb.out]; exact rfl
  have na1 : n.natAbs ≤ 9223372036854775808 := by omega
  have da1 : d.natAbs ≤ 9223372036854775808 := by omega
  have ha1 : a ≤ 9223372036854775808 := by rw [← ha.out]; exact Nat.le_trans (Nat.div_le_self _ _) na1
  have hb1 : b ≤ 9223372036854775808 := by rw [← hb.out]; exact Nat.le_trans (Nat.div_le_self _ _) da1
  have hz : ((d : Int) == 0) = false := by have := hd.out; simpa using this
  have hgz : ((g : Int) == 0) = false := by simp; omega
  have hg0 : (0 : Int) < (g : Int) := by omega
  clear hg ha hb
  generalize n.natAbs = na at *
  generalize d.natAbs = da at *
  go_enter Tryd.func20, Tryd.ntmps20
  go_wp2_with fail
  refine (HS1.out _).mono ?_
  rintro e w1 ⟨rfl, rfl⟩
  go_wp2_with fail
  refine (HS2.out _).mono ?_
  rintro e w1 ⟨rfl, rfl⟩
  go_wp2_with fail
  refine (HGC.out _).mono ?_
  rintro e w1 ⟨rfl, rfl⟩
  go_wp2_with fail
  go_quiet ((go_at_call 36; first | with_reducible exact Calls.quiet_of_same (HQ1.out _) | with_reducible exact Calls.quiet_of_same (HQ2.out _)))
  rw [HA.out, HB.out]
  go_wp2_with fail
  all_goals
    refine bodyPost_ret (v := .tuple #[.agg #[.int .i64 ((a : Int)), .int .i64 b], .int .i64 0]) (by simp [results, Tryd.results20, go_sem]) rfl ⟨rfl, ?_⟩
    exact (((below_drewN ((Below.refl _ _).alloc (Nat.le_refl _) _) _).setCell (by simp) _).setCell (by simp) _)
theorem rmake_any (n d : Int) (w : World) (n0 : -9223372036854775808 ≤ n) (n1 : n ≤ 9223372036854775807) (d0 : -9223372036854775808 ≤ d) (d1 : d ≤ 9223372036854775807) :
    Calls Tryd.prog 20 #[.int .i64 n, .int .i64 d] w fun e w' => e = .returned (mkR n d).val ∧ Below w.heap.size w w' := by
  unfold mkR
  by_cases hd : d = 0
  · rw [if_pos hd]; subst hd; exact rmake_zero n w
  · rw [if_neg hd]
    by_cases hl : 1073741824 < n.natAbs / Nat.gcd n.natAbs d.natAbs ∨ 1073741824 < d.natAbs / Nat.gcd n.natAbs d.natAbs
    · rw [if_pos hl]
      exact rmake_long n d _ _ _ w hd n0 n1 d0 d1 rfl rfl rfl hl
    · rw [if_neg hl]
      by_cases h1 : n < 0
      · by_cases h2 : d < 0
        · rw [if_pos (by simp [h1, h2])]
          exact rmake_nn n d _ _ _ w hd n0 n1 d0 d1 rfl rfl rfl (by omega) (by omega) h1 h2
        · rw [if_neg (by simp [h1, h2])]
          exact rmake_np n d _ _ _ w hd n0 n1 d0 d1 rfl rfl rfl (by omega) (by omega) h1 (by omega)
      · by_cases h2 : d < 0
        · rw [if_neg (by simp [h1, h2])]
          by_cases h3 : n = 0
          · have e : (-(((n.natAbs / Nat.gcd n.natAbs d.natAbs : Nat)) : Int)) = ((n.natAbs / Nat.gcd n.natAbs d.natAbs : Nat) : Int) := by subst h3; simp
            rw [e]
            exact rmake_zn n d _ _ _ w hd n0 n1 d0 d1 rfl rfl rfl (by omega) (by omega) (by omega) (by omega) h2
          · exact rmake_pn n d _ _ _ w hd n0 n1 d0 d1 rfl rfl rfl (by omega) (by omega) (by omega) h2
        · rw [if_pos (by simp [h1, h2])]
          exact rmake_pp n d _ _ _ w hd n0 n1 d0 d1 rfl rfl rfl (by omega) (by omega) (by omega) (by omega)
end Go.Proofs.YtdjenpccgaojgaaDoor
