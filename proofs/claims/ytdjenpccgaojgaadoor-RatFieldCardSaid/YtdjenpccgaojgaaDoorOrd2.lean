/-
  RatOrder: the walk.
-/
import Derived.Test.YtdjenpccgaojgaaDoorOrd1
import Derived.Laws.StructEq
namespace Go.Proofs.YtdjenpccgaojgaaDoor
open Go.RowKit
set_option maxRecDepth 100000 in
set_option maxHeartbeats 400000 in
theorem some_any (n d x1 x2 : Int) (w : World) (n0 : -32768 ≤ n) (n1 : n ≤ 32767) (d0 : 0 ≤ d) (d1 : d ≤ 255) (hx : Hid (mkR (n.tmod 1001) (1 + d % 30) = ⟨x1, x2, 0⟩)) :
    Calls Tryd.prog 16 #[.int .i16 n, .int .u8 d] w fun e w' => e = .returned (.agg #[.int .i64 x1, .int .i64 x2]) ∧ Below w.heap.size w w' := by
  have hb := tmod_bd (n := n)
  have HM := hide (fun w => make_any (n.tmod 1001) (1 + d % 30) w (by omega) (by omega) (by omega) (by omega))
  rw [hx.out] at HM
  unfold MR.val at HM
  simp only at HM
  clear hb
  go_enter Tryd.func16, Tryd.ntmps16
  go_wp2_with fail
  refine (HM.out _).mono ?_
  rintro e w1 ⟨rfl, hb⟩
  obtain ⟨hX, -, hbl⟩ := box1 hb
  obtain ⟨c0, c1, f0, f1, hlt⟩ := two_of hX
  have HB := hide hbl
  have hz := HB.out.size
  clear hb hbl hX
  go_wp2_with fail
  refine bodyPost_ret (v := .agg #[.int .i64 x1, .int .i64 x2]) (by simp [results, Tryd.results16, go_sem, c0, c1, hlt]) rfl ⟨rfl, ?_⟩
  exact ((HB.out.setCell (p := ⟨w.heap.size, 0, none⟩) (Nat.le_refl _) _).setCell (p := ⟨w.heap.size, 1, none⟩) (Nat.le_refl _) _).alloc (by simpa [World.setCell] using hz) _
theorem run_eql_rat (w : World) (a b c d : Int) (r : Bool) (hr : ((a == c) && (b == d)) = r) : (binOp .eql 23 (.agg #[.int .i64 a, .int .i64 b]) (.agg #[.int .i64 c, .int .i64 d])).run Tryd.prog w = .ok (.bool r) w := by
  subst hr
  cases h1 : (a == c) <;> cases h2 : (b == d)
  all_goals go_simp
set_option maxRecDepth 100000 in
set_option maxHeartbeats 1000000 in
theorem ord_zero (n m k d e f x1 x2 y1 y2 z1 z2 s1 s2 a1 a2 b1 b2 c : Int) (w : World) (hE : Hid (Env w))
    (HS1 : Hid (∀ w : World, Calls Tryd.prog 16 #[.int .i16 n, .int .u8 d] w fun e w' => e = .returned (.agg #[.int .i64 x1, .int .i64 x2]) ∧ Below w.heap.size w w'))
    (HS2 : Hid (∀ w : World, Calls Tryd.prog 16 #[.int .i16 m, .int .u8 e] w fun e w' => e = .returned (.agg #[.int .i64 y1, .int .i64 y2]) ∧ Below w.heap.size w w'))
    (HS3 : Hid (∀ w : World, Calls Tryd.prog 16 #[.int .i16 k, .int .u8 f] w fun e w' => e = .returned (.agg #[.int .i64 z1, .int .i64 z2]) ∧ Below w.heap.size w w'))
    (HC1 : Hid (∀ w : World, Calls Tryd.prog 15 #[.agg #[.int .i64 x1, .int .i64 x2], .agg #[.int .i64 y1, .int .i64 y2]] w fun e w' => e = .returned (.int .i64 c) ∧ Below w.heap.size w w'))
    (HC2 : Hid (∀ w : World, Calls Tryd.prog 15 #[.agg #[.int .i64 y1, .int .i64 y2], .agg #[.int .i64 x1, .int .i64 x2]] w fun e w' => e = .returned (.int .i64 (-c)) ∧ Below w.heap.size w w'))
    (HO1 : Hid (∀ w : World, Calls Tryd.prog 17 #[.agg #[.int .i64 x1, .int .i64 x2], .agg #[.int .i64 y1, .int .i64 y2]] w fun e w' => e = .returned (.tuple #[.agg #[.int .i64 s1, .int .i64 s2], .int .i64 0]) ∧ Below w.heap.size w w'))
    (HO2 : Hid (∀ w : World, Calls Tryd.prog 10 #[.agg #[.int .i64 x1, .int .i64 x2], .agg #[.int .i64 z1, .int .i64 z2]] w fun e w' => e = .returned (.tuple #[.agg #[.int .i64 a1, .int .i64 a2], .int .i64 0]) ∧ Below w.heap.size w w'))
    (HO3 : Hid (∀ w : World, Calls Tryd.prog 10 #[.agg #[.int .i64 y1, .int .i64 y2], .agg #[.int .i64 z1, .int .i64 z2]] w fun e w' => e = .returned (.tuple #[.agg #[.int .i64 b1, .int .i64 b2], .int .i64 0]) ∧ Below w.heap.size w w'))
    (HC3 : Hid (∀ w : World, Calls Tryd.prog 15 #[.agg #[.int .i64 s1, .int .i64 s2], .agg #[.int .i64 0, .int .i64 1]] w fun e w' => e = .returned (.int .i64 c) ∧ Below w.heap.size w w'))
    (HC4 : Hid (∀ w : World, Calls Tryd.prog 15 #[.agg #[.int .i64 a1, .int .i64 a2], .agg #[.int .i64 b1, .int .i64 b2]] w fun e w' => e = .returned (.int .i64 c) ∧ Below w.heap.size w w'))
    (hc : c = 0) (HR : Hid (((x1 == y1) && (x2 == y2)) = true)) :
    Calls Tryd.prog 5 #[.int .i16 n, .int .i16 m, .int .i16 k, .int .u8 d, .int .u8 e, .int .u8 f] w fun e w' => e = .returned (.bool true) ∧ Below w.heap.size w w' := by
  subst hc
  have hEQ := fun w : World => run_eql_rat w x1 x2 y1 y2 _ HR.out
  go_enter Tryd.func5, Tryd.ntmps5
  go_wp2_with fail
  refine (HS1.out _).mono ?_
  rintro e w1 ⟨rfl, hb⟩
  have B1 := hide hb
  clear hb
  go_wp2_with fail
  refine (HS2.out _).mono ?_
  rintro e w2 ⟨rfl, hb⟩
  have B2 := hide (B1.out.trans (hb.mono B1.out.size))
  clear hb B1
  go_wp2_with fail
  refine (HS3.out _).mono ?_
  rintro e w3 ⟨rfl, hb⟩
  have B3 := hide (B2.out.trans (hb.mono B2.out.size))
  clear hb B2
  go_wp2_with fail
  refine (HC1.out _).mono ?_
  rintro e w4 ⟨rfl, hb⟩
  obtain ⟨hX, hY, hZ, -, hb⟩ := box3 hb
  have B4 := hide (B3.out.trans (hb.mono B3.out.size))
  have X4 := hide hX
  have Y4 := hide hY
  have Z4 := hide hZ
  obtain ⟨x0, x1, -, -, xl⟩ := two_of hX
  obtain ⟨y0, y1, -, -, yl⟩ := two_of hY
  obtain ⟨z0, z1, -, -, zl⟩ := two_of hZ
  clear hb hX hY hZ B3
  go_wp2_with fail
  refine (HC2.out _).mono ?_
  rintro e w5 ⟨rfl, hb⟩
  have B5 := hide (B4.out.trans (hb.mono B4.out.size))
  have X5 := hide (keep X4.out hb)
  have Y5 := hide (keep Y4.out hb)
  have Z5 := hide (keep Z4.out hb)
  obtain ⟨x0, x1, -, -, xl⟩ := two_of X5.out
  obtain ⟨y0, y1, -, -, yl⟩ := two_of Y5.out
  obtain ⟨z0, z1, -, -, zl⟩ := two_of Z5.out
  clear hb B4 X4 Y4 Z4
  have B7 := B5
  have X7 := X5
  have Y7 := Y5
  have Z7 := Z5
  clear B5 X5 Y5 Z5
  go_wp2_with fail
  refine (HO1.out _).mono ?_
  rintro e w8 ⟨rfl, hb⟩
  have B8 := hide (B7.out.trans (hb.mono B7.out.size))
  have X8 := hide (keep X7.out hb)
  have Y8 := hide (keep Y7.out hb)
  have Z8 := hide (keep Z7.out hb)
  obtain ⟨x0, x1, -, -, xl⟩ := two_of X8.out
  obtain ⟨y0, y1, -, -, yl⟩ := two_of Y8.out
  obtain ⟨z0, z1, -, -, zl⟩ := two_of Z8.out
  clear hb B7 X7 Y7 Z7
  go_wp2_with fail
  refine (HO2.out _).mono ?_
  rintro e w9 ⟨rfl, hb⟩
  obtain ⟨hS, -, hb⟩ := box1 hb
  have S9 := hide hS
  clear hS
  have B9 := hide (B8.out.trans (hb.mono B8.out.size))
  have X9 := hide (keep X8.out hb)
  have Y9 := hide (keep Y8.out hb)
  have Z9 := hide (keep Z8.out hb)
  obtain ⟨x0, x1, -, -, xl⟩ := two_of X9.out
  obtain ⟨y0, y1, -, -, yl⟩ := two_of Y9.out
  obtain ⟨z0, z1, -, -, zl⟩ := two_of Z9.out
  clear hb B8 X8 Y8 Z8
  go_wp2_with fail
  refine (HO3.out _).mono ?_
  rintro e w10 ⟨rfl, hb⟩
  obtain ⟨hA, -, hb⟩ := box1 hb
  have S10 := hide (keep S9.out hb)
  have A10 := hide hA
  obtain ⟨s0, s1, -, -, sl⟩ := two_of S10.out
  clear hA S9
  have B10 := hide (B9.out.trans (hb.mono B9.out.size))
  have X10 := hide (keep X9.out hb)
  have Y10 := hide (keep Y9.out hb)
  have Z10 := hide (keep Z9.out hb)
  obtain ⟨x0, x1, -, -, xl⟩ := two_of X10.out
  obtain ⟨y0, y1, -, -, yl⟩ := two_of Y10.out
  obtain ⟨z0, z1, -, -, zl⟩ := two_of Z10.out
  clear hb B9 X9 Y9 Z9
  go_wp2_with fail
  refine (HC3.out _).mono ?_
  rintro e w11 ⟨rfl, hb⟩
  obtain ⟨hB, -, hb⟩ := box1 hb
  have A11 := hide (keep A10.out hb)
  obtain ⟨a0, a1, -, -, al⟩ := two_of A11.out
  obtain ⟨b0, b1, -, -, bl⟩ := two_of hB
  clear hB A10 S10 s0 s1 sl
  have B11 := hide (B10.out.trans (hb.mono B10.out.size))
  have X11 := hide (keep X10.out hb)
  have Y11 := hide (keep Y10.out hb)
  have Z11 := hide (keep Z10.out hb)
  obtain ⟨x0, x1, -, -, xl⟩ := two_of X11.out
  obtain ⟨y0, y1, -, -, yl⟩ := two_of Y11.out
  obtain ⟨z0, z1, -, -, zl⟩ := two_of Z11.out
  clear hb B10 X10 Y10 Z10
  go_wp2_with fail
  refine (HC4.out _).mono ?_
  rintro e w12 ⟨rfl, hb⟩
  have B12 := hide (B11.out.trans (hb.mono B11.out.size))
  clear hb B11
  go_wp2_with fail
  refine (awake_any _ (hide (hE.out.kept B12.out))).mono ?_
  rintro e w13 ⟨rfl, hb⟩
  have B13 := hide (B12.out.trans (hb.mono B12.out.size))
  clear hb
  go_wp2_with fail
  go_ret
  exact ⟨rfl, B13.out⟩
set_option maxRecDepth 100000 in
set_option maxHeartbeats 1000000 in
theorem ord_more (n m k d e f x1 x2 y1 y2 z1 z2 s1 s2 a1 a2 b1 b2 c : Int) (w : World) (hE : Hid (Env w))
    (HS1 : Hid (∀ w : World, Calls Tryd.prog 16 #[.int .i16 n, .int .u8 d] w fun e w' => e = .returned (.agg #[.int .i64 x1, .int .i64 x2]) ∧ Below w.heap.size w w'))
    (HS2 : Hid (∀ w : World, Calls Tryd.prog 16 #[.int .i16 m, .int .u8 e] w fun e w' => e = .returned (.agg #[.int .i64 y1, .int .i64 y2]) ∧ Below w.heap.size w w'))
    (HS3 : Hid (∀ w : World, Calls Tryd.prog 16 #[.int .i16 k, .int .u8 f] w fun e w' => e = .returned (.agg #[.int .i64 z1, .int .i64 z2]) ∧ Below w.heap.size w w'))
    (HC1 : Hid (∀ w : World, Calls Tryd.prog 15 #[.agg #[.int .i64 x1, .int .i64 x2], .agg #[.int .i64 y1, .int .i64 y2]] w fun e w' => e = .returned (.int .i64 c) ∧ Below w.heap.size w w'))
    (HC2 : Hid (∀ w : World, Calls Tryd.prog 15 #[.agg #[.int .i64 y1, .int .i64 y2], .agg #[.int .i64 x1, .int .i64 x2]] w fun e w' => e = .returned (.int .i64 (-c)) ∧ Below w.heap.size w w'))
    (HO1 : Hid (∀ w : World, Calls Tryd.prog 17 #[.agg #[.int .i64 x1, .int .i64 x2], .agg #[.int .i64 y1, .int .i64 y2]] w fun e w' => e = .returned (.tuple #[.agg #[.int .i64 s1, .int .i64 s2], .int .i64 0]) ∧ Below w.heap.size w w'))
    (HO2 : Hid (∀ w : World, Calls Tryd.prog 10 #[.agg #[.int .i64 x1, .int .i64 x2], .agg #[.int .i64 z1, .int .i64 z2]] w fun e w' => e = .returned (.tuple #[.agg #[.int .i64 a1, .int .i64 a2], .int .i64 0]) ∧ Below w.heap.size w w'))
    (HO3 : Hid (∀ w : World, Calls Tryd.prog 10 #[.agg #[.int .i64 y1, .int .i64 y2], .agg #[.int .i64 z1, .int .i64 z2]] w fun e w' => e = .returned (.tuple #[.agg #[.int .i64 b1, .int .i64 b2], .int .i64 0]) ∧ Below w.heap.size w w'))
    (HC3 : Hid (∀ w : World, Calls Tryd.prog 15 #[.agg #[.int .i64 s1, .int .i64 s2], .agg #[.int .i64 0, .int .i64 1]] w fun e w' => e = .returned (.int .i64 c) ∧ Below w.heap.size w w'))
    (HC4 : Hid (∀ w : World, Calls Tryd.prog 15 #[.agg #[.int .i64 a1, .int .i64 a2], .agg #[.int .i64 b1, .int .i64 b2]] w fun e w' => e = .returned (.int .i64 c) ∧ Below w.heap.size w w'))
    (hc : c = 1) (HR : Hid (((x1 == y1) && (x2 == y2)) = false)) :
    Calls Tryd.prog 5 #[.int .i16 n, .int .i16 m, .int .i16 k, .int .u8 d, .int .u8 e, .int .u8 f] w fun e w' => e = .returned (.bool true) ∧ Below w.heap.size w w' := by
  subst hc
  have hEQ := fun w : World => run_eql_rat w x1 x2 y1 y2 _ HR.out
  go_enter Tryd.func5, Tryd.ntmps5
  go_wp2_with fail
  refine (HS1.out _).mono ?_
  rintro e w1 ⟨rfl, hb⟩
  have B1 := hide hb
  clear hb
  go_wp2_with fail
  refine (HS2.out _).mono ?_
  rintro e w2 ⟨rfl, hb⟩
  have B2 := hide (B1.out.trans (hb.mono B1.out.size))
  clear hb B1
  go_wp2_with fail
  refine (HS3.out _).mono ?_
  rintro e w3 ⟨rfl, hb⟩
  have B3 := hide (B2.out.trans (hb.mono B2.out.size))
  clear hb B2
  go_wp2_with fail
  refine (HC1.out _).mono ?_
  rintro e w4 ⟨rfl, hb⟩
  obtain ⟨hX, hY, hZ, -, hb⟩ := box3 hb
  have B4 := hide (B3.out.trans (hb.mono B3.out.size))
  have X4 := hide hX
  have Y4 := hide hY
  have Z4 := hide hZ
  obtain ⟨x0, x1, -, -, xl⟩ := two_of hX
  obtain ⟨y0, y1, -, -, yl⟩ := two_of hY
  obtain ⟨z0, z1, -, -, zl⟩ := two_of hZ
  clear hb hX hY hZ B3
  go_wp2_with fail
  refine (HC2.out _).mono ?_
  rintro e w5 ⟨rfl, hb⟩
  have B5 := hide (B4.out.trans (hb.mono B4.out.size))
  have X5 := hide (keep X4.out hb)
  have Y5 := hide (keep Y4.out hb)
  have Z5 := hide (keep Z4.out hb)
  obtain ⟨x0, x1, -, -, xl⟩ := two_of X5.out
  obtain ⟨y0, y1, -, -, yl⟩ := two_of Y5.out
  obtain ⟨z0, z1, -, -, zl⟩ := two_of Z5.out
  clear hb B4 X4 Y4 Z4
  have B7 := B5
  have X7 := X5
  have Y7 := Y5
  have Z7 := Z5
  clear B5 X5 Y5 Z5
  go_wp2_with fail
  refine (HO1.out _).mono ?_
  rintro e w8 ⟨rfl, hb⟩
  have B8 := hide (B7.out.trans (hb.mono B7.out.size))
  have X8 := hide (keep X7.out hb)
  have Y8 := hide (keep Y7.out hb)
  have Z8 := hide (keep Z7.out hb)
  obtain ⟨x0, x1, -, -, xl⟩ := two_of X8.out
  obtain ⟨y0, y1, -, -, yl⟩ := two_of Y8.out
  obtain ⟨z0, z1, -, -, zl⟩ := two_of Z8.out
  clear hb B7 X7 Y7 Z7
  go_wp2_with fail
  refine (HO2.out _).mono ?_
  rintro e w9 ⟨rfl, hb⟩
  obtain ⟨hS, -, hb⟩ := box1 hb
  have S9 := hide hS
  clear hS
  have B9 := hide (B8.out.trans (hb.mono B8.out.size))
  have X9 := hide (keep X8.out hb)
  have Y9 := hide (keep Y8.out hb)
  have Z9 := hide (keep Z8.out hb)
  obtain ⟨x0, x1, -, -, xl⟩ := two_of X9.out
  obtain ⟨y0, y1, -, -, yl⟩ := two_of Y9.out
  obtain ⟨z0, z1, -, -, zl⟩ := two_of Z9.out
  clear hb B8 X8 Y8 Z8
  go_wp2_with fail
  refine (HO3.out _).mono ?_
  rintro e w10 ⟨rfl, hb⟩
  obtain ⟨hA, -, hb⟩ := box1 hb
  have S10 := hide (keep S9.out hb)
  have A10 := hide hA
  obtain ⟨s0, s1, -, -, sl⟩ := two_of S10.out
  clear hA S9
  have B10 := hide (B9.out.trans (hb.mono B9.out.size))
  have X10 := hide (keep X9.out hb)
  have Y10 := hide (keep Y9.out hb)
  have Z10 := hide (keep Z9.out hb)
  obtain ⟨x0, x1, -, -, xl⟩ := two_of X10.out
  obtain ⟨y0, y1, -, -, yl⟩ := two_of Y10.out
  obtain ⟨z0, z1, -, -, zl⟩ := two_of Z10.out
  clear hb B9 X9 Y9 Z9
  go_wp2_with fail
  refine (HC3.out _).mono ?_
  rintro e w11 ⟨rfl, hb⟩
  obtain ⟨hB, -, hb⟩ := box1 hb
  have A11 := hide (keep A10.out hb)
  obtain ⟨a0, a1, -, -, al⟩ := two_of A11.out
  obtain ⟨b0, b1, -, -, bl⟩ := two_of hB
  clear hB A10 S10 s0 s1 sl
  have B11 := hide (B10.out.trans (hb.mono B10.out.size))
  have X11 := hide (keep X10.out hb)
  have Y11 := hide (keep Y10.out hb)
  have Z11 := hide (keep Z10.out hb)
  obtain ⟨x0, x1, -, -, xl⟩ := two_of X11.out
  obtain ⟨y0, y1, -, -, yl⟩ := two_of Y11.out
  obtain ⟨z0, z1, -, -, zl⟩ := two_of Z11.out
  clear hb B10 X10 Y10 Z10
  go_wp2_with fail
  refine (HC4.out _).mono ?_
  rintro e w12 ⟨rfl, hb⟩
  have B12 := hide (B11.out.trans (hb.mono B11.out.size))
  clear hb B11
  go_wp2_with fail
  refine (awake_any _ (hide (hE.out.kept B12.out))).mono ?_
  rintro e w13 ⟨rfl, hb⟩
  have B13 := hide (B12.out.trans (hb.mono B12.out.size))
  clear hb
  go_wp2_with fail
  go_ret
  exact ⟨rfl, B13.out⟩
set_option maxRecDepth 100000 in
set_option maxHeartbeats 1000000 in
theorem ord_less (n m k d e f x1 x2 y1 y2 z1 z2 s1 s2 a1 a2 b1 b2 c : Int) (w : World) (hE : Hid (Env w))
    (HS1 : Hid (∀ w : World, Calls Tryd.prog 16 #[.int .i16 n, .int .u8 d] w fun e w' => e = .returned (.agg #[.int .i64 x1, .int .i64 x2]) ∧ Below w.heap.size w w'))
    (HS2 : Hid (∀ w : World, Calls Tryd.prog 16 #[.int .i16 m, .int .u8 e] w fun e w' => e = .returned (.agg #[.int .i64 y1, .int .i64 y2]) ∧ Below w.heap.size w w'))
    (HS3 : Hid (∀ w : World, Calls Tryd.prog 16 #[.int .i16 k, .int .u8 f] w fun e w' => e = .returned (.agg #[.int .i64 z1, .int .i64 z2]) ∧ Below w.heap.size w w'))
    (HC1 : Hid (∀ w : World, Calls Tryd.prog 15 #[.agg #[.int .i64 x1, .int .i64 x2], .agg #[.int .i64 y1, .int .i64 y2]] w fun e w' => e = .returned (.int .i64 c) ∧ Below w.heap.size w w'))
    (HC2 : Hid (∀ w : World, Calls Tryd.prog 15 #[.agg #[.int .i64 y1, .int .i64 y2], .agg #[.int .i64 x1, .int .i64 x2]] w fun e w' => e = .returned (.int .i64 (-c)) ∧ Below w.heap.size w w'))
    (HO1 : Hid (∀ w : World, Calls Tryd.prog 17 #[.agg #[.int .i64 x1, .int .i64 x2], .agg #[.int .i64 y1, .int .i64 y2]] w fun e w' => e = .returned (.tuple #[.agg #[.int .i64 s1, .int .i64 s2], .int .i64 0]) ∧ Below w.heap.size w w'))
    (HO2 : Hid (∀ w : World, Calls Tryd.prog 10 #[.agg #[.int .i64 x1, .int .i64 x2], .agg #[.int .i64 z1, .int .i64 z2]] w fun e w' => e = .returned (.tuple #[.agg #[.int .i64 a1, .int .i64 a2], .int .i64 0]) ∧ Below w.heap.size w w'))
    (HO3 : Hid (∀ w : World, Calls Tryd.prog 10 #[.agg #[.int .i64 y1, .int .i64 y2], .agg #[.int .i64 z1, .int .i64 z2]] w fun e w' => e = .returned (.tuple #[.agg #[.int .i64 b1, .int .i64 b2], .int .i64 0]) ∧ Below w.heap.size w w'))
    (HC3 : Hid (∀ w : World, Calls Tryd.prog 15 #[.agg #[.int .i64 s1, .int .i64 s2], .agg #[.int .i64 0, .int .i64 1]] w fun e w' => e = .returned (.int .i64 c) ∧ Below w.heap.size w w'))
    (HC4 : Hid (∀ w : World, Calls Tryd.prog 15 #[.agg #[.int .i64 a1, .int .i64 a2], .agg #[.int .i64 b1, .int .i64 b2]] w fun e w' => e = .returned (.int .i64 c) ∧ Below w.heap.size w w'))
    (hc : c = -1) (HR : Hid (((x1 == y1) && (x2 == y2)) = false)) (v : Int) (hv : 0 ≤ v) (HC5 : Hid (∀ w : World, Calls Tryd.prog 15 #[.agg #[.int .i64 y1, .int .i64 y2], .agg #[.int .i64 z1, .int .i64 z2]] w fun e w' => e = .returned (.int .i64 v) ∧ Below w.heap.size w w')) :
    Calls Tryd.prog 5 #[.int .i16 n, .int .i16 m, .int .i16 k, .int .u8 d, .int .u8 e, .int .u8 f] w fun e w' => e = .returned (.bool true) ∧ Below w.heap.size w w' := by
  subst hc
  have hEQ := fun w : World => run_eql_rat w x1 x2 y1 y2 _ HR.out
  go_enter Tryd.func5, Tryd.ntmps5
  go_wp2_with fail
  refine (HS1.out _).mono ?_
  rintro e w1 ⟨rfl, hb⟩
  have B1 := hide hb
  clear hb
  go_wp2_with fail
  refine (HS2.out _).mono ?_
  rintro e w2 ⟨rfl, hb⟩
  have B2 := hide (B1.out.trans (hb.mono B1.out.size))
  clear hb B1
  go_wp2_with fail
  refine (HS3.out _).mono ?_
  rintro e w3 ⟨rfl, hb⟩
  have B3 := hide (B2.out.trans (hb.mono B2.out.size))
  clear hb B2
  go_wp2_with fail
  refine (HC1.out _).mono ?_
  rintro e w4 ⟨rfl, hb⟩
  obtain ⟨hX, hY, hZ, -, hb⟩ := box3 hb
  have B4 := hide (B3.out.trans (hb.mono B3.out.size))
  have X4 := hide hX
  have Y4 := hide hY
  have Z4 := hide hZ
  obtain ⟨x0, x1, -, -, xl⟩ := two_of hX
  obtain ⟨y0, y1, -, -, yl⟩ := two_of hY
  obtain ⟨z0, z1, -, -, zl⟩ := two_of hZ
  clear hb hX hY hZ B3
  go_wp2_with fail
  refine (HC2.out _).mono ?_
  rintro e w5 ⟨rfl, hb⟩
  have B5 := hide (B4.out.trans (hb.mono B4.out.size))
  have X5 := hide (keep X4.out hb)
  have Y5 := hide (keep Y4.out hb)
  have Z5 := hide (keep Z4.out hb)
  obtain ⟨x0, x1, -, -, xl⟩ := two_of X5.out
  obtain ⟨y0, y1, -, -, yl⟩ := two_of Y5.out
  obtain ⟨z0, z1, -, -, zl⟩ := two_of Z5.out
  clear hb B4 X4 Y4 Z4
  go_wp2_with fail
  refine (HC5.out _).mono ?_
  rintro e w7 ⟨rfl, hb⟩
  have B7 := hide (B5.out.trans (hb.mono B5.out.size))
  have X7 := hide (keep X5.out hb)
  have Y7 := hide (keep Y5.out hb)
  have Z7 := hide (keep Z5.out hb)
  obtain ⟨x0, x1, -, -, xl⟩ := two_of X7.out
  obtain ⟨y0, y1, -, -, yl⟩ := two_of Y7.out
  obtain ⟨z0, z1, -, -, zl⟩ := two_of Z7.out
  clear hb B5 X5 Y5 Z5
  go_wp2_with fail
  refine (HO1.out _).mono ?_
  rintro e w8 ⟨rfl, hb⟩
  have B8 := hide (B7.out.trans (hb.mono B7.out.size))
  have X8 := hide (keep X7.out hb)
  have Y8 := hide (keep Y7.out hb)
  have Z8 := hide (keep Z7.out hb)
  obtain ⟨x0, x1, -, -, xl⟩ := two_of X8.out
  obtain ⟨y0, y1, -, -, yl⟩ := two_of Y8.out
  obtain ⟨z0, z1, -, -, zl⟩ := two_of Z8.out
  clear hb B7 X7 Y7 Z7
  go_wp2_with fail
  refine (HO2.out _).mono ?_
  rintro e w9 ⟨rfl, hb⟩
  obtain ⟨hS, -, hb⟩ := box1 hb
  have S9 := hide hS
  clear hS
  have B9 := hide (B8.out.trans (hb.mono B8.out.size))
  have X9 := hide (keep X8.out hb)
  have Y9 := hide (keep Y8.out hb)
  have Z9 := hide (keep Z8.out hb)
  obtain ⟨x0, x1, -, -, xl⟩ := two_of X9.out
  obtain ⟨y0, y1, -, -, yl⟩ := two_of Y9.out
  obtain ⟨z0, z1, -, -, zl⟩ := two_of Z9.out
  clear hb B8 X8 Y8 Z8
  go_wp2_with fail
  refine (HO3.out _).mono ?_
  rintro e w10 ⟨rfl, hb⟩
  obtain ⟨hA, -, hb⟩ := box1 hb
  have S10 := hide (keep S9.out hb)
  have A10 := hide hA
  obtain ⟨s0, s1, -, -, sl⟩ := two_of S10.out
  clear hA S9
  have B10 := hide (B9.out.trans (hb.mono B9.out.size))
  have X10 := hide (keep X9.out hb)
  have Y10 := hide (keep Y9.out hb)
  have Z10 := hide (keep Z9.out hb)
  obtain ⟨x0, x1, -, -, xl⟩ := two_of X10.out
  obtain ⟨y0, y1, -, -, yl⟩ := two_of Y10.out
  obtain ⟨z0, z1, -, -, zl⟩ := two_of Z10.out
  clear hb B9 X9 Y9 Z9
  go_wp2_with fail
  refine (HC3.out _).mono ?_
  rintro e w11 ⟨rfl, hb⟩
  obtain ⟨hB, -, hb⟩ := box1 hb
  have A11 := hide (keep A10.out hb)
  obtain ⟨a0, a1, -, -, al⟩ := two_of A11.out
  obtain ⟨b0, b1, -, -, bl⟩ := two_of hB
  clear hB A10 S10 s0 s1 sl
  have B11 := hide (B10.out.trans (hb.mono B10.out.size))
  have X11 := hide (keep X10.out hb)
  have Y11 := hide (keep Y10.out hb)
  have Z11 := hide (keep Z10.out hb)
  obtain ⟨x0, x1, -, -, xl⟩ := two_of X11.out
  obtain ⟨y0, y1, -, -, yl⟩ := two_of Y11.out
  obtain ⟨z0, z1, -, -, zl⟩ := two_of Z11.out
  clear hb B10 X10 Y10 Z10
  go_wp2_with fail
  refine (HC4.out _).mono ?_
  rintro e w12 ⟨rfl, hb⟩
  have B12 := hide (B11.out.trans (hb.mono B11.out.size))
  clear hb B11
  go_wp2_with fail
  refine (awake_any _ (hide (hE.out.kept B12.out))).mono ?_
  rintro e w13 ⟨rfl, hb⟩
  have B13 := hide (B12.out.trans (hb.mono B12.out.size))
  clear hb
  go_wp2_with fail
  go_ret
  exact ⟨rfl, B13.out⟩
set_option maxRecDepth 100000 in
set_option maxHeartbeats 1000000 in
theorem ord_lless (n m k d e f x1 x2 y1 y2 z1 z2 s1 s2 a1 a2 b1 b2 c : Int) (w : World) (hE : Hid (Env w))
    (HS1 : Hid (∀ w : World, Calls Tryd.prog 16 #[.int .i16 n, .int .u8 d] w fun e w' => e = .returned (.agg #[.int .i64 x1, .int .i64 x2]) ∧ Below w.heap.size w w'))
    (HS2 : Hid (∀ w : World, Calls Tryd.prog 16 #[.int .i16 m, .int .u8 e] w fun e w' => e = .returned (.agg #[.int .i64 y1, .int .i64 y2]) ∧ Below w.heap.size w w'))
    (HS3 : Hid (∀ w : World, Calls Tryd.prog 16 #[.int .i16 k, .int .u8 f] w fun e w' => e = .returned (.agg #[.int .i64 z1, .int .i64 z2]) ∧ Below w.heap.size w w'))
    (HC1 : Hid (∀ w : World, Calls Tryd.prog 15 #[.agg #[.int .i64 x1, .int .i64 x2], .agg #[.int .i64 y1, .int .i64 y2]] w fun e w' => e = .returned (.int .i64 c) ∧ Below w.heap.size w w'))
    (HC2 : Hid (∀ w : World, Calls Tryd.prog 15 #[.agg #[.int .i64 y1, .int .i64 y2], .agg #[.int .i64 x1, .int .i64 x2]] w fun e w' => e = .returned (.int .i64 (-c)) ∧ Below w.heap.size w w'))
    (HO1 : Hid (∀ w : World, Calls Tryd.prog 17 #[.agg #[.int .i64 x1, .int .i64 x2], .agg #[.int .i64 y1, .int .i64 y2]] w fun e w' => e = .returned (.tuple #[.agg #[.int .i64 s1, .int .i64 s2], .int .i64 0]) ∧ Below w.heap.size w w'))
    (HO2 : Hid (∀ w : World, Calls Tryd.prog 10 #[.agg #[.int .i64 x1, .int .i64 x2], .agg #[.int .i64 z1, .int .i64 z2]] w fun e w' => e = .returned (.tuple #[.agg #[.int .i64 a1, .int .i64 a2], .int .i64 0]) ∧ Below w.heap.size w w'))
    (HO3 : Hid (∀ w : World, Calls Tryd.prog 10 #[.agg #[.int .i64 y1, .int .i64 y2], .agg #[.int .i64 z1, .int .i64 z2]] w fun e w' => e = .returned (.tuple #[.agg #[.int .i64 b1, .int .i64 b2], .int .i64 0]) ∧ Below w.heap.size w w'))
    (HC3 : Hid (∀ w : World, Calls Tryd.prog 15 #[.agg #[.int .i64 s1, .int .i64 s2], .agg #[.int .i64 0, .int .i64 1]] w fun e w' => e = .returned (.int .i64 c) ∧ Below w.heap.size w w'))
    (HC4 : Hid (∀ w : World, Calls Tryd.prog 15 #[.agg #[.int .i64 a1, .int .i64 a2], .agg #[.int .i64 b1, .int .i64 b2]] w fun e w' => e = .returned (.int .i64 c) ∧ Below w.heap.size w w'))
    (hc : c = -1) (HR : Hid (((x1 == y1) && (x2 == y2)) = false)) (HC5 : Hid (∀ w : World, Calls Tryd.prog 15 #[.agg #[.int .i64 y1, .int .i64 y2], .agg #[.int .i64 z1, .int .i64 z2]] w fun e w' => e = .returned (.int .i64 (-1)) ∧ Below w.heap.size w w')) (HC6 : Hid (∀ w : World, Calls Tryd.prog 15 #[.agg #[.int .i64 x1, .int .i64 x2], .agg #[.int .i64 z1, .int .i64 z2]] w fun e w' => e = .returned (.int .i64 (-1)) ∧ Below w.heap.size w w')) :
    Calls Tryd.prog 5 #[.int .i16 n, .int .i16 m, .int .i16 k, .int .u8 d, .int .u8 e, .int .u8 f] w fun e w' => e = .returned (.bool true) ∧ Below w.heap.size w w' := by
  subst hc
  have hEQ := fun w : World => run_eql_rat w x1 x2 y1 y2 _ HR.out
  go_enter Tryd.func5, Tryd.ntmps5
  go_wp2_with fail
  refine (HS1.out _).mono ?_
  rintro e w1 ⟨rfl, hb⟩
  have B1 := hide hb
  clear hb
  go_wp2_with fail
  refine (HS2.out _).mono ?_
  rintro e w2 ⟨rfl, hb⟩
  have B2 := hide (B1.out.trans (hb.mono B1.out.size))
  clear hb B1
  go_wp2_with fail
  refine (HS3.out _).mono ?_
  rintro e w3 ⟨rfl, hb⟩
  have B3 := hide (B2.out.trans (hb.mono B2.out.size))
  clear hb B2
  go_wp2_with fail
  refine (HC1.out _).mono ?_
  rintro e w4 ⟨rfl, hb⟩
  obtain ⟨hX, hY, hZ, -, hb⟩ := box3 hb
  have B4 := hide (B3.out.trans (hb.mono B3.out.size))
  have X4 := hide hX
  have Y4 := hide hY
  have Z4 := hide hZ
  obtain ⟨x0, x1, -, -, xl⟩ := two_of hX
  obtain ⟨y0, y1, -, -, yl⟩ := two_of hY
  obtain ⟨z0, z1, -, -, zl⟩ := two_of hZ
  clear hb hX hY hZ B3
  go_wp2_with fail
  refine (HC2.out _).mono ?_
  rintro e w5 ⟨rfl, hb⟩
  have B5 := hide (B4.out.trans (hb.mono B4.out.size))
  have X5 := hide (keep X4.out hb)
  have Y5 := hide (keep Y4.out hb)
  have Z5 := hide (keep Z4.out hb)
  obtain ⟨x0, x1, -, -, xl⟩ := two_of X5.out
  obtain ⟨y0, y1, -, -, yl⟩ := two_of Y5.out
  obtain ⟨z0, z1, -, -, zl⟩ := two_of Z5.out
  clear hb B4 X4 Y4 Z4
  go_wp2_with fail
  refine (HC5.out _).mono ?_
  rintro e w6 ⟨rfl, hb⟩
  have B6 := hide (B5.out.trans (hb.mono B5.out.size))
  have X6 := hide (keep X5.out hb)
  have Y6 := hide (keep Y5.out hb)
  have Z6 := hide (keep Z5.out hb)
  obtain ⟨x0, x1, -, -, xl⟩ := two_of X6.out
  obtain ⟨y0, y1, -, -, yl⟩ := two_of Y6.out
  obtain ⟨z0, z1, -, -, zl⟩ := two_of Z6.out
  clear hb B5 X5 Y5 Z5
  go_wp2_with fail
  refine (HC6.out _).mono ?_
  rintro e w7 ⟨rfl, hb⟩
  have B7 := hide (B6.out.trans (hb.mono B6.out.size))
  have X7 := hide (keep X6.out hb)
  have Y7 := hide (keep Y6.out hb)
  have Z7 := hide (keep Z6.out hb)
  obtain ⟨x0, x1, -, -, xl⟩ := two_of X7.out
  obtain ⟨y0, y1, -, -, yl⟩ := two_of Y7.out
  obtain ⟨z0, z1, -, -, zl⟩ := two_of Z7.out
  clear hb B6 X6 Y6 Z6
  go_wp2_with fail
  refine (HO1.out _).mono ?_
  rintro e w8 ⟨rfl, hb⟩
  have B8 := hide (B7.out.trans (hb.mono B7.out.size))
  have X8 := hide (keep X7.out hb)
  have Y8 := hide (keep Y7.out hb)
  have Z8 := hide (keep Z7.out hb)
  obtain ⟨x0, x1, -, -, xl⟩ := two_of X8.out
  obtain ⟨y0, y1, -, -, yl⟩ := two_of Y8.out
  obtain ⟨z0, z1, -, -, zl⟩ := two_of Z8.out
  clear hb B7 X7 Y7 Z7
  go_wp2_with fail
  refine (HO2.out _).mono ?_
  rintro e w9 ⟨rfl, hb⟩
  obtain ⟨hS, -, hb⟩ := box1 hb
  have S9 := hide hS
  clear hS
  have B9 := hide (B8.out.trans (hb.mono B8.out.size))
  have X9 := hide (keep X8.out hb)
  have Y9 := hide (keep Y8.out hb)
  have Z9 := hide (keep Z8.out hb)
  obtain ⟨x0, x1, -, -, xl⟩ := two_of X9.out
  obtain ⟨y0, y1, -, -, yl⟩ := two_of Y9.out
  obtain ⟨z0, z1, -, -, zl⟩ := two_of Z9.out
  clear hb B8 X8 Y8 Z8
  go_wp2_with fail
  refine (HO3.out _).mono ?_
  rintro e w10 ⟨rfl, hb⟩
  obtain ⟨hA, -, hb⟩ := box1 hb
  have S10 := hide (keep S9.out hb)
  have A10 := hide hA
  obtain ⟨s0, s1, -, -, sl⟩ := two_of S10.out
  clear hA S9
  have B10 := hide (B9.out.trans (hb.mono B9.out.size))
  have X10 := hide (keep X9.out hb)
  have Y10 := hide (keep Y9.out hb)
  have Z10 := hide (keep Z9.out hb)
  obtain ⟨x0, x1, -, -, xl⟩ := two_of X10.out
  obtain ⟨y0, y1, -, -, yl⟩ := two_of Y10.out
  obtain ⟨z0, z1, -, -, zl⟩ := two_of Z10.out
  clear hb B9 X9 Y9 Z9
  go_wp2_with fail
  refine (HC3.out _).mono ?_
  rintro e w11 ⟨rfl, hb⟩
  obtain ⟨hB, -, hb⟩ := box1 hb
  have A11 := hide (keep A10.out hb)
  obtain ⟨a0, a1, -, -, al⟩ := two_of A11.out
  obtain ⟨b0, b1, -, -, bl⟩ := two_of hB
  clear hB A10 S10 s0 s1 sl
  have B11 := hide (B10.out.trans (hb.mono B10.out.size))
  have X11 := hide (keep X10.out hb)
  have Y11 := hide (keep Y10.out hb)
  have Z11 := hide (keep Z10.out hb)
  obtain ⟨x0, x1, -, -, xl⟩ := two_of X11.out
  obtain ⟨y0, y1, -, -, yl⟩ := two_of Y11.out
  obtain ⟨z0, z1, -, -, zl⟩ := two_of Z11.out
  clear hb B10 X10 Y10 Z10
  go_wp2_with fail
  refine (HC4.out _).mono ?_
  rintro e w12 ⟨rfl, hb⟩
  have B12 := hide (B11.out.trans (hb.mono B11.out.size))
  clear hb B11
  go_wp2_with fail
  refine (awake_any _ (hide (hE.out.kept B12.out))).mono ?_
  rintro e w13 ⟨rfl, hb⟩
  have B13 := hide (B12.out.trans (hb.mono B12.out.size))
  clear hb
  go_wp2_with fail
  go_ret
  exact ⟨rfl, B13.out⟩
end Go.Proofs.YtdjenpccgaojgaaDoor
