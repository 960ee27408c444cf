/-
  RatLowest: the walk.
-/
import Derived.Test.YtdjenpccgaojgaaDoorLow1
import Derived.Deep.RegionHeld3
import Derived.Laws.StructEq
namespace Go.Proofs.YtdjenpccgaojgaaDoor
open Go.RowKit
set_option maxRecDepth 100000 in
set_option maxHeartbeats 1000000 in
theorem low_bad (n d k : Int) (w : World) (k0 : 0 ≤ k) (k1 : k ≤ 65535) (hE : Hid (Env w)) (hx : Hid (okB n d = false)) : Calls Tryd.prog 3 #[.agg #[.int .i64 n, .int .i64 d], .int .u16 k] w fun e w' => e = .returned (.bool true) ∧ Below w.heap.size w w' := by
  have HV := hide (fun w => valid_any n d w)
  rw [hx.out] at HV
  have HA := hide (fun w => op_0 n d 0 1 w)
  rw [add_bad hx.out] at HA
  unfold MR.val at HA
  simp only at HA
  go_enter Tryd.func3, Tryd.ntmps3
  go_wp2_with fail
  refine (HV.out _).mono ?_
  rintro e w1 ⟨rfl, hb⟩
  obtain ⟨hX, -, hbl⟩ := box1 hb
  have B1 := hide hbl
  obtain ⟨x0, x1, -, -, xl⟩ := two_of hX
  clear hb hbl hX
  go_wp2_with fail
  refine (HA.out _).mono ?_
  rintro e w2 ⟨rfl, hb⟩
  have B2 := hide (B1.out.trans (hb.mono B1.out.size))
  clear hb x0 x1 xl
  go_wp2_with fail
  have C := hide (B2.out.alloc B2.out.size (.cells #[.int .i64 0, .int .i64 0] 23))
  refine (awake_any _ (hide (hE.out.kept C.out))).mono ?_
  rintro e w3 ⟨rfl, hb⟩
  have B3 := hide (C.out.trans (hb.mono C.out.size))
  clear hb
  go_wp2_with fail
  go_ret
  exact ⟨rfl, B3.out⟩
set_option maxRecDepth 100000 in
set_option maxHeartbeats 1000000 in
theorem low_ok (n d k : Int) (w : World) (k0 : 0 ≤ k) (k1 : k ≤ 65535) (hE : Hid (Env w)) (hx : Hid (okB n d = true)) : Calls Tryd.prog 3 #[.agg #[.int .i64 n, .int .i64 d], .int .u16 k] w fun e w' => e = .returned (.bool true) ∧ Below w.heap.size w w' := by
  have HV := hide (fun w => valid_any n d w)
  rw [hx.out] at HV
  obtain ⟨a1, a2, a3, a4, -⟩ := okB_bd hx.out
  obtain ⟨p0, p1⟩ := mul_bd a3 a4 (show 1 ≤ 1 + k % 1000 by omega) (by omega)
  obtain ⟨q0, q1⟩ := mul_bd (show -1073741824 ≤ d by omega) a2 (show 1 ≤ 1 + k % 1000 by omega) (by omega)
  obtain ⟨r0, r1⟩ := mul_bd (show -1073741824 ≤ -n by omega) (by omega) (show 1 ≤ 1 + k % 1000 by omega) (by omega)
  obtain ⟨s0, s1⟩ := mul_bd (show -1073741824 ≤ -d by omega) (by omega) (show 1 ≤ 1 + k % 1000 by omega) (by omega)
  have HM := hide (fun w => make_any (n * (1 + k % 1000)) (d * (1 + k % 1000)) w (by omega) (by omega) (by omega) (by omega))
  have HN := hide (fun w => make_any (-n * (1 + k % 1000)) (-d * (1 + k % 1000)) w (by omega) (by omega) (by omega) (by omega))
  rw [mk_mul hx.out (by omega)] at HM
  rw [show -n * (1 + k % 1000) = n * -(1 + k % 1000) by rw [Int.neg_mul, Int.mul_neg], show -d * (1 + k % 1000) = d * -(1 + k % 1000) by rw [Int.neg_mul, Int.mul_neg], mk_mul hx.out (by omega), show n * -(1 + k % 1000) = -n * (1 + k % 1000) by rw [Int.neg_mul, Int.mul_neg], show d * -(1 + k % 1000) = -d * (1 + k % 1000) by rw [Int.neg_mul, Int.mul_neg]] at HN
  unfold MR.val at HM HN
  simp only at HM HN
  go_enter Tryd.func3, Tryd.ntmps3
  go_wp2_with fail
  refine (HV.out _).mono ?_
  rintro e w1 ⟨rfl, hb⟩
  obtain ⟨hX, -, hbl⟩ := box1 hb
  have B1 := hide hbl
  obtain ⟨x0, x1, -, -, xl⟩ := two_of hX
  have X1 := hide hX
  clear hb hbl hX
  go_wp2_with fail
  refine (HM.out _).mono ?_
  rintro e w2 ⟨rfl, hb⟩
  have B2 := hide (B1.out.trans (hb.mono B1.out.size))
  have X2 := hide (keep X1.out hb)
  obtain ⟨x0, x1, -, -, xl⟩ := two_of X2.out
  clear hb B1 X1
  go_wp2_with fail
  refine (HN.out _).mono ?_
  rintro e w3 ⟨rfl, hb⟩
  obtain ⟨hA, -, hbl⟩ := box1 hb
  have B3 := hide (B2.out.trans (hbl.mono B2.out.size))
  have X3 := hide (keep X2.out hbl)
  obtain ⟨x0, x1, -, -, xl⟩ := two_of X3.out
  obtain ⟨y0, y1, -, -, yl⟩ := two_of hA
  clear hb hbl B2 X2
  go_wp2_with fail
  have C := hide (B3.out.alloc B3.out.size (.cells #[.int .i64 n, .int .i64 d] 23))
  refine (awake_any _ (hide (hE.out.kept C.out))).mono ?_
  rintro e w4 ⟨rfl, hb⟩
  have B4 := hide (C.out.trans (hb.mono C.out.size))
  clear hb
  go_wp2_with fail
  go_ret
  exact ⟨rfl, B4.out⟩
theorem low_main (n d k : Int) (w : World) (k0 : 0 ≤ k) (k1 : k ≤ 65535) (hE : Env w) : Calls Tryd.prog 3 #[.agg #[.int .i64 n, .int .i64 d], .int .u16 k] w fun e w' => e = .returned (.bool true) ∧ Below w.heap.size w w' := by
  cases hx : okB n d
  · exact low_bad n d k w k0 k1 hE hx
  · exact low_ok n d k w k0 k1 hE hx
end Go.Proofs.YtdjenpccgaojgaaDoor
