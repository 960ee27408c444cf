/-
  RatLong: the walk.
-/
import Derived.Test.YtdjenpccgaojgaaDoorLong1
import Derived.Laws.StructEq
namespace Go.Proofs.YtdjenpccgaojgaaDoor
open Go.RowKit
set_option maxRecDepth 100000 in
set_option maxHeartbeats 1000000 in
theorem long_main (k : Int) (w : World) (k0 : 0 ≤ k) (k1 : k ≤ 65535) (hE : Hid (Env w)) : Calls Tryd.prog 6 #[.int .u16 k] w fun e w' => e = .returned (.bool true) ∧ Below w.heap.size w w' := by
  have HA := hide (fun w => op_0 1073741824 1 (-(k % 1001)) 1 w)
  have HB := hide (fun w => op_0 1073741824 1 (k % 1001 + 1) 1 w)
  have HC := hide (fun w => op_2 1 1073741824 1 (2 + k % 1001) w)
  have HD := hide (fun w => op_2 1073741824 1 1 1073741824 w)
  have HI := hide (fun w => op_3 (k % 1001) 1 0 1 w)
  rw [long_a (by omega) (by omega)] at HA
  rw [long_b (by omega) (by omega)] at HB
  rw [long_c (by omega) (by omega)] at HC
  rw [long_d] at HD
  rw [long_e (by omega) (by omega)] at HI
  unfold MR.val at HA HB HC HD HI
  simp only at HA HB HC HD HI
  go_enter Tryd.func6, Tryd.ntmps6
  go_wp2_with fail
  refine (HA.out _).mono ?_
  rintro e w1 ⟨rfl, hb⟩
  obtain ⟨hX, -, hbl⟩ := box1 hb
  have B1 := hide hbl
  have X1 := hide hX
  obtain ⟨x0, x1, -, -, xl⟩ := two_of hX
  clear hb hbl hX
  go_wp2_with fail
  refine (HB.out _).mono ?_
  rintro e w2 ⟨rfl, hb⟩
  obtain ⟨hA, -, hbl⟩ := box1 hb
  have B2 := hide (B1.out.trans (hbl.mono B1.out.size))
  have X2 := hide (keep X1.out hbl)
  have A2 := hide hA
  obtain ⟨x0, x1, -, -, xl⟩ := two_of X2.out
  clear hb hbl hA B1 X1
  go_wp2_with fail
  refine (HC.out _).mono ?_
  rintro e w3 ⟨rfl, hb⟩
  obtain ⟨hQ, hT, -, hbl⟩ := box2 hb
  have B3 := hide (B2.out.trans (hbl.mono B2.out.size))
  have X3 := hide (keep X2.out hbl)
  have A3 := hide (keep A2.out hbl)
  have Q3 := hide hQ
  have T3 := hide hT
  obtain ⟨x0, x1, -, -, xl⟩ := two_of X3.out
  obtain ⟨t0, t1, -, -, tl⟩ := two_of T3.out
  clear hb hbl hQ hT B2 X2 A2
  go_wp2_with fail
  refine (HD.out _).mono ?_
  rintro e w4 ⟨rfl, hb⟩
  obtain ⟨hC, -, hbl⟩ := box1 hb
  have B4 := hide (B3.out.trans (hbl.mono B3.out.size))
  have A4 := hide (keep A3.out hbl)
  have Q4 := hide (keep Q3.out hbl)
  have C4 := hide hC
  clear hb hbl hC B3 X3 A3 Q3 T3 x0 x1 xl t0 t1 tl
  go_wp2_with fail
  refine (HI.out _).mono ?_
  rintro e w5 ⟨rfl, hb⟩
  obtain ⟨hD, -, hbl⟩ := box1 hb
  have B5 := hide (B4.out.trans (hbl.mono B4.out.size))
  obtain ⟨a0, a1, -, -, al⟩ := two_of (keep A4.out hbl)
  obtain ⟨q0, q1, -, -, ql⟩ := two_of (keep Q4.out hbl)
  obtain ⟨c0, c1, -, -, cl⟩ := two_of (keep C4.out hbl)
  obtain ⟨d0, d1, -, -, dl⟩ := two_of hD
  clear hb hbl hD B4 A4 Q4 C4
  go_wp2_with fail
  have C := hide ((B5.out.alloc B5.out.size (.cells #[.int .i64 0, .int .i64 0] 23)).alloc (by have := B5.out.size; simp; omega) (.cells #[.int .i64 0, .int .i64 0] 23))
  refine (awake_any _ (hide (hE.out.kept C.out))).mono ?_
  rintro e w6 ⟨rfl, hb⟩
  have B6 := hide (C.out.trans (hb.mono C.out.size))
  clear hb
  go_wp2_with fail
  go_ret
  exact ⟨rfl, B6.out⟩
end Go.Proofs.YtdjenpccgaojgaaDoor
