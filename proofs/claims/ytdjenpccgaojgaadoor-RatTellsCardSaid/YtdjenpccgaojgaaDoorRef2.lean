/-
  nacelleref01: Do, Cmp, Floor, Ceil.
-/
import Derived.Test.YtdjenpccgaojgaaDoorRef1
namespace Go.Proofs.YtdjenpccgaojgaaDoor
open Go.RowKit
set_option maxRecDepth 100000 in
set_option maxHeartbeats 400000 in
theorem rdo_badx (k x1 x2 y1 y2 : Int) (w : World) (hx : Hid (okB x1 x2 = false)) : Calls Tryd.prog 25 #[.int .i64 k, .agg #[.int .i64 x1, .int .i64 x2], .agg #[.int .i64 y1, .int .i64 y2]] w fun e w' => e = .returned (MR.val ⟨0, 0, 2⟩) ∧ Below w.heap.size w w' := by
  have HV := hide (fun w => rvalid_any x1 x2 w)
  rw [hx.out] at HV
  go_enter Tryd.func25, Tryd.ntmps25
  go_wp2_with fail
  refine (HV.out _).mono ?_
  rintro e w1 ⟨rfl, hb⟩
  obtain ⟨X, Y, Z, hsz, hbl⟩ := box3 hb
  obtain ⟨c0, c1, f0, f1, hlt⟩ := two_of Z
  have HB := hide hbl
  clear hb hbl X Y Z
  go_wp2_with fail
  refine bodyPost_ret (v := .tuple #[.agg #[.int .i64 0, .int .i64 0], .int .i64 2]) (by simp [results, Tryd.results25, go_sem, c0, c1, hlt]) rfl ⟨rfl, ?_⟩
  exact (HB.out.setCell (p := ⟨w.heap.size + 1 + 1, 0, none⟩) (by simp; omega) _).setCell (p := ⟨w.heap.size + 1 + 1, 1, none⟩) (by simp; omega) _
set_option maxRecDepth 100000 in
set_option maxHeartbeats 400000 in
theorem rdo_bady (k x1 x2 y1 y2 : Int) (w : World) (hx : Hid (okB x1 x2 = true)) (hy : Hid (okB y1 y2 = false)) : Calls Tryd.prog 25 #[.int .i64 k, .agg #[.int .i64 x1, .int .i64 x2], .agg #[.int .i64 y1, .int .i64 y2]] w fun e w' => e = .returned (MR.val ⟨0, 0, 2⟩) ∧ Below w.heap.size w w' := by
  have HV := hide (fun w => rvalid_any x1 x2 w)
  have HU := hide (fun w => rvalid_any y1 y2 w)
  rw [hx.out] at HV
  rw [hy.out] at HU
  go_enter Tryd.func25, Tryd.ntmps25
  go_wp2_with fail
  refine (HV.out _).mono ?_
  rintro e w1 ⟨rfl, hb⟩
  obtain ⟨X, Y, Z, hsz, hbl⟩ := box3 hb
  obtain ⟨yc0, yc1, yf0, yf1, ylt⟩ := two_of Y
  have HX := hide X
  have HY := hide Y
  have HZ := hide Z
  have HB1 := hide hbl
  clear hb hbl X Y Z
  go_wp2_with fail
  refine (HU.out _).mono ?_
  rintro e w2 ⟨rfl, hb⟩
  have hX := (hb.block _ (blk_in HX.out)).trans HX.out
  have hY := (hb.block _ (blk_in HY.out)).trans HY.out
  have hZ := (hb.block _ (blk_in HZ.out)).trans HZ.out
  have HB2 := hide (HB1.out.trans (hb.mono HB1.out.size))
  have hsz2 : w.heap.size + 3 ≤ w2.heap.size := Nat.le_trans hsz hb.size
  clear hb HX HY HZ HB1 yc0 yc1 yf0 yf1 ylt hsz
  obtain ⟨c0, c1, f0, f1, hlt⟩ := two_of hZ
  clear hX hY hZ
  go_wp2_with fail
  refine bodyPost_ret (v := .tuple #[.agg #[.int .i64 0, .int .i64 0], .int .i64 2]) (by simp [results, Tryd.results25, go_sem, c0, c1, hlt]) rfl ⟨rfl, ?_⟩
  exact (HB2.out.setCell (p := ⟨w.heap.size + 1 + 1, 0, none⟩) (by simp; omega) _).setCell (p := ⟨w.heap.size + 1 + 1, 1, none⟩) (by simp; omega) _
set_option maxRecDepth 100000 in
set_option maxHeartbeats 400000 in
theorem rdo_div0 (x1 x2 y1 y2 : Int) (w : World) (hx : Hid (okB x1 x2 = true)) (hy : Hid (okB y1 y2 = true)) (HY1 : Hid (y1 = 0)) : Calls Tryd.prog 25 #[.int .i64 3, .agg #[.int .i64 x1, .int .i64 x2], .agg #[.int .i64 y1, .int .i64 y2]] w fun e w' => e = .returned (MR.val ⟨0, 0, 2⟩) ∧ Below w.heap.size w w' := by
  have HV := hide (fun w => rvalid_any x1 x2 w)
  have HU := hide (fun w => rvalid_any y1 y2 w)
  rw [hx.out] at HV
  rw [hy.out] at HU
  go_enter Tryd.func25, Tryd.ntmps25
  go_wp2_with fail
  refine (HV.out _).mono ?_
  rintro e w1 ⟨rfl, hb⟩
  obtain ⟨X, Y, Z, hsz, hbl⟩ := box3 hb
  obtain ⟨yc0, yc1, yf0, yf1, ylt⟩ := two_of Y
  have HX := hide X
  have HY := hide Y
  have HZ := hide Z
  have HB1 := hide hbl
  clear hb hbl X Y Z
  go_wp2_with fail
  refine (HU.out _).mono ?_
  rintro e w2 ⟨rfl, hb⟩
  have hX := (hb.block _ (blk_in HX.out)).trans HX.out
  have hY := (hb.block _ (blk_in HY.out)).trans HY.out
  have hZ := (hb.block _ (blk_in HZ.out)).trans HZ.out
  have HB2 := hide (HB1.out.trans (hb.mono HB1.out.size))
  have hsz2 : w.heap.size + 3 ≤ w2.heap.size := Nat.le_trans hsz hb.size
  clear hb HX HY HZ HB1 yc0 yc1 yf0 yf1 ylt hsz
  obtain ⟨c0, c1, f0, f1, hlt⟩ := two_of hZ
  obtain ⟨y0, y1', -, -, ylt⟩ := two_of hY
  rw [HY1.out] at y0
  clear hX hY hZ
  go_wp2_with fail
  refine bodyPost_ret (v := .tuple #[.agg #[.int .i64 0, .int .i64 0], .int .i64 2]) (by simp [results, Tryd.results25, go_sem, c0, c1, hlt]) rfl ⟨rfl, ?_⟩
  exact (HB2.out.setCell (p := ⟨w.heap.size + 1 + 1, 0, none⟩) (by simp; omega) _).setCell (p := ⟨w.heap.size + 1 + 1, 1, none⟩) (by simp; omega) _
set_option maxRecDepth 100000 in
set_option maxHeartbeats 800000 in
theorem rdo_0 (x1 x2 y1 y2 : Int) (w : World) (hx : Hid (okB x1 x2 = true)) (hy : Hid (okB y1 y2 = true))  : Calls Tryd.prog 25 #[.int .i64 0, .agg #[.int .i64 x1, .int .i64 x2], .agg #[.int .i64 y1, .int .i64 y2]] w fun e w' => e = .returned (mkR (opN 0 x1 x2 y1 y2) (opD 0 x1 x2 y1 y2)).val ∧ Below w.heap.size w w' := by
  obtain ⟨⟨n0, n1⟩, d0, d1⟩ := opN_bd 0 hx.out hy.out
  obtain ⟨a1, a2, a3, a4, -⟩ := okB_bd hx.out
  obtain ⟨b1, b2, b3, b4, -⟩ := okB_bd hy.out
  obtain ⟨p0, p1⟩ := prod_bd a3 a4 (show -1073741824 ≤ y2 by omega) b2
  obtain ⟨q0, q1⟩ := prod_bd b3 b4 (show -1073741824 ≤ x2 by omega) a2
  obtain ⟨r0, r1⟩ := prod_bd (show -1073741824 ≤ x2 by omega) a2 (show -1073741824 ≤ y2 by omega) b2
  obtain ⟨s0, s1⟩ := prod_bd a3 a4 b3 b4
  obtain ⟨t0, t1⟩ := prod_bd (show -1073741824 ≤ x2 by omega) a2 b3 b4
  have HMK := hide (fun w => rmake_any (opN 0 x1 x2 y1 y2) (opD 0 x1 x2 y1 y2) w n0 n1 d0 d1)
  clear n0 n1 d0 d1
  have HV := hide (fun w => rvalid_any x1 x2 w)
  have HU := hide (fun w => rvalid_any y1 y2 w)
  rw [hx.out] at HV
  rw [hy.out] at HU
  go_enter Tryd.func25, Tryd.ntmps25
  go_wp2_with fail
  refine (HV.out _).mono ?_
  rintro e w1 ⟨rfl, hb⟩
  obtain ⟨X, Y, Z, hsz, hbl⟩ := box3 hb
  obtain ⟨yc0, yc1, yf0, yf1, ylt⟩ := two_of Y
  have HX := hide X
  have HY := hide Y
  have HZ := hide Z
  have HB1 := hide hbl
  clear hb hbl X Y Z
  go_wp2_with fail
  refine (HU.out _).mono ?_
  rintro e w2 ⟨rfl, hb⟩
  have hX := (hb.block _ (blk_in HX.out)).trans HX.out
  have hY := (hb.block _ (blk_in HY.out)).trans HY.out
  have hZ := (hb.block _ (blk_in HZ.out)).trans HZ.out
  have HB2 := hide (HB1.out.trans (hb.mono HB1.out.size))
  have hsz2 : w.heap.size + 3 ≤ w2.heap.size := Nat.le_trans hsz hb.size
  clear hb HX HY HZ HB1 yc0 yc1 yf0 yf1 ylt hsz
  obtain ⟨xc0, xc1, -, -, -⟩ := two_of hX
  obtain ⟨yc0, yc1, -, -, -⟩ := two_of hY
  have HZ := hide hZ
  clear hX hY hZ
  skip
  obtain ⟨r, hr⟩ : ∃ r, mkR (opN 0 x1 x2 y1 y2) (opD 0 x1 x2 y1 y2) = r := ⟨_, rfl⟩
  obtain ⟨rn, rd, re⟩ := r
  rw [hr] at HMK
  have HR := hide hr
  clear hr
  unfold MR.val at HMK
  simp only [opN, opD] at HMK
  go_wp2_with fail
  refine (HMK.out _).mono ?_
  rintro e w5 ⟨rfl, hb5⟩
  obtain ⟨c0, c1, f0, f1, hlt⟩ := two_of ((hb5.block _ (blk_in HZ.out)).trans HZ.out)
  have HB5 := hide (HB2.out.trans (hb5.mono HB2.out.size))
  clear hb5
  go_wp2_with fail
  refine bodyPost_ret (v := .tuple #[.agg #[.int .i64 rn, .int .i64 rd], .int .i64 re]) (by simp [results, Tryd.results25, go_sem, c0, c1, hlt]) rfl ⟨by rw [HR.out]; rfl, ?_⟩
  exact (HB5.out.setCell (p := ⟨w.heap.size + 1 + 1, 0, none⟩) (by simp; omega) _).setCell (p := ⟨w.heap.size + 1 + 1, 1, none⟩) (by simp; omega) _
set_option maxRecDepth 100000 in
set_option maxHeartbeats 800000 in
theorem rdo_1 (x1 x2 y1 y2 : Int) (w : World) (hx : Hid (okB x1 x2 = true)) (hy : Hid (okB y1 y2 = true))  : Calls Tryd.prog 25 #[.int .i64 1, .agg #[.int .i64 x1, .int .i64 x2], .agg #[.int .i64 y1, .int .i64 y2]] w fun e w' => e = .returned (mkR (opN 1 x1 x2 y1 y2) (opD 1 x1 x2 y1 y2)).val ∧ Below w.heap.size w w' := by
  obtain ⟨⟨n0, n1⟩, d0, d1⟩ := opN_bd 1 hx.out hy.out
  obtain ⟨a1, a2, a3, a4, -⟩ := okB_bd hx.out
  obtain ⟨b1, b2, b3, b4, -⟩ := okB_bd hy.out
  obtain ⟨p0, p1⟩ := prod_bd a3 a4 (show -1073741824 ≤ y2 by omega) b2
  obtain ⟨q0, q1⟩ := prod_bd b3 b4 (show -1073741824 ≤ x2 by omega) a2
  obtain ⟨r0, r1⟩ := prod_bd (show -1073741824 ≤ x2 by omega) a2 (show -1073741824 ≤ y2 by omega) b2
  obtain ⟨s0, s1⟩ := prod_bd a3 a4 b3 b4
  obtain ⟨t0, t1⟩ := prod_bd (show -1073741824 ≤ x2 by omega) a2 b3 b4
  have HMK := hide (fun w => rmake_any (opN 1 x1 x2 y1 y2) (opD 1 x1 x2 y1 y2) w n0 n1 d0 d1)
  clear n0 n1 d0 d1
  have HV := hide (fun w => rvalid_any x1 x2 w)
  have HU := hide (fun w => rvalid_any y1 y2 w)
  rw [hx.out] at HV
  rw [hy.out] at HU
  go_enter Tryd.func25, Tryd.ntmps25
  go_wp2_with fail
  refine (HV.out _).mono ?_
  rintro e w1 ⟨rfl, hb⟩
  obtain ⟨X, Y, Z, hsz, hbl⟩ := box3 hb
  obtain ⟨yc0, yc1, yf0, yf1, ylt⟩ := two_of Y
  have HX := hide X
  have HY := hide Y
  have HZ := hide Z
  have HB1 := hide hbl
  clear hb hbl X Y Z
  go_wp2_with fail
  refine (HU.out _).mono ?_
  rintro e w2 ⟨rfl, hb⟩
  have hX := (hb.block _ (blk_in HX.out)).trans HX.out
  have hY := (hb.block _ (blk_in HY.out)).trans HY.out
  have hZ := (hb.block _ (blk_in HZ.out)).trans HZ.out
  have HB2 := hide (HB1.out.trans (hb.mono HB1.out.size))
  have hsz2 : w.heap.size + 3 ≤ w2.heap.size := Nat.le_trans hsz hb.size
  clear hb HX HY HZ HB1 yc0 yc1 yf0 yf1 ylt hsz
  obtain ⟨xc0, xc1, -, -, -⟩ := two_of hX
  obtain ⟨yc0, yc1, -, -, -⟩ := two_of hY
  have HZ := hide hZ
  clear hX hY hZ
  skip
  obtain ⟨r, hr⟩ : ∃ r, mkR (opN 1 x1 x2 y1 y2) (opD 1 x1 x2 y1 y2) = r := ⟨_, rfl⟩
  obtain ⟨rn, rd, re⟩ := r
  rw [hr] at HMK
  have HR := hide hr
  clear hr
  unfold MR.val at HMK
  simp only [opN, opD] at HMK
  go_wp2_with fail
  refine (HMK.out _).mono ?_
  rintro e w5 ⟨rfl, hb5⟩
  obtain ⟨c0, c1, f0, f1, hlt⟩ := two_of ((hb5.block _ (blk_in HZ.out)).trans HZ.out)
  have HB5 := hide (HB2.out.trans (hb5.mono HB2.out.size))
  clear hb5
  go_wp2_with fail
  refine bodyPost_ret (v := .tuple #[.agg #[.int .i64 rn, .int .i64 rd], .int .i64 re]) (by simp [results, Tryd.results25, go_sem, c0, c1, hlt]) rfl ⟨by rw [HR.out]; rfl, ?_⟩
  exact (HB5.out.setCell (p := ⟨w.heap.size + 1 + 1, 0, none⟩) (by simp; omega) _).setCell (p := ⟨w.heap.size + 1 + 1, 1, none⟩) (by simp; omega) _
set_option maxRecDepth 100000 in
set_option maxHeartbeats 800000 in
theorem rdo_2 (x1 x2 y1 y2 : Int) (w : World) (hx : Hid (okB x1 x2 = true)) (hy : Hid (okB y1 y2 = true))  : Calls Tryd.prog 25 #[.int .i64 2, .agg #[.int .i64 x1, .int .i64 x2], .agg #[.int .i64 y1, .int .i64 y2]] w fun e w' => e = .returned (mkR (opN 2 x1 x2 y1 y2) (opD 2 x1 x2 y1 y2)).val ∧ Below w.heap.size w w' := by
  obtain ⟨⟨n0, n1⟩, d0, d1⟩ := opN_bd 2 hx.out hy.out
  obtain ⟨a1, a2, a3, a4, -⟩ := okB_bd hx.out
  obtain ⟨b1, b2, b3, b4, -⟩ := okB_bd hy.out
  obtain ⟨p0, p1⟩ := prod_bd a3 a4 (show -1073741824 ≤ y2 by omega) b2
  obtain ⟨q0, q1⟩ := prod_bd b3 b4 (show -1073741824 ≤ x2 by omega) a2
  obtain ⟨r0, r1⟩ := prod_bd (show -1073741824 ≤ x2 by omega) a2 (show -1073741824 ≤ y2 by omega) b2
  obtain ⟨s0, s1⟩ := prod_bd a3 a4 b3 b4
  obtain ⟨t0, t1⟩ := prod_bd (show -1073741824 ≤ x2 by omega) a2 b3 b4
  have HMK := hide (fun w => rmake_any (opN 2 x1 x2 y1 y2) (opD 2 x1 x2 y1 y2) w n0 n1 d0 d1)
  clear n0 n1 d0 d1
  have HV := hide (fun w => rvalid_any x1 x2 w)
  have HU := hide (fun w => rvalid_any y1 y2 w)
  rw [hx.out] at HV
  rw [hy.out] at HU
  go_enter Tryd.func25, Tryd.ntmps25
  go_wp2_with fail
  refine (HV.out _).mono ?_
  rintro e w1 ⟨rfl, hb⟩
  obtain ⟨X, Y, Z, hsz, hbl⟩ := box3 hb
  obtain ⟨yc0, yc1, yf0, yf1, ylt⟩ := two_of Y
  have HX := hide X
  have HY := hide Y
  have HZ := hide Z
  have HB1 := hide hbl
  clear hb hbl X Y Z
  go_wp2_with fail
  refine (HU.out _).mono ?_
  rintro e w2 ⟨rfl, hb⟩
  have hX := (hb.block _ (blk_in HX.out)).trans HX.out
  have hY := (hb.block _ (blk_in HY.out)).trans HY.out
  have hZ := (hb.block _ (blk_in HZ.out)).trans HZ.out
  have HB2 := hide (HB1.out.trans (hb.mono HB1.out.size))
  have hsz2 : w.heap.size + 3 ≤ w2.heap.size := Nat.le_trans hsz hb.size
  clear hb HX HY HZ HB1 yc0 yc1 yf0 yf1 ylt hsz
  obtain ⟨xc0, xc1, -, -, -⟩ := two_of hX
  obtain ⟨yc0, yc1, -, -, -⟩ := two_of hY
  have HZ := hide hZ
  clear hX hY hZ
  skip
  obtain ⟨r, hr⟩ : ∃ r, mkR (opN 2 x1 x2 y1 y2) (opD 2 x1 x2 y1 y2) = r := ⟨_, rfl⟩
  obtain ⟨rn, rd, re⟩ := r
  rw [hr] at HMK
  have HR := hide hr
  clear hr
  unfold MR.val at HMK
  simp only [opN, opD] at HMK
  go_wp2_with fail
  refine (HMK.out _).mono ?_
  rintro e w5 ⟨rfl, hb5⟩
  obtain ⟨c0, c1, f0, f1, hlt⟩ := two_of ((hb5.block _ (blk_in HZ.out)).trans HZ.out)
  have HB5 := hide (HB2.out.trans (hb5.mono HB2.out.size))
  clear hb5
  go_wp2_with fail
  refine bodyPost_ret (v := .tuple #[.agg #[.int .i64 rn, .int .i64 rd], .int .i64 re]) (by simp [results, Tryd.results25, go_sem, c0, c1, hlt]) rfl ⟨by rw [HR.out]; rfl, ?_⟩
  exact (HB5.out.setCell (p := ⟨w.heap.size + 1 + 1, 0, none⟩) (by simp; omega) _).setCell (p := ⟨w.heap.size + 1 + 1, 1, none⟩) (by simp; omega) _
set_option maxRecDepth 100000 in
set_option maxHeartbeats 800000 in
theorem rdo_3 (x1 x2 y1 y2 : Int) (w : World) (hx : Hid (okB x1 x2 = true)) (hy : Hid (okB y1 y2 = true)) (hn : Hid (y1 ≠ 0)) : Calls Tryd.prog 25 #[.int .i64 3, .agg #[.int .i64 x1, .int .i64 x2], .agg #[.int .i64 y1, .int .i64 y2]] w fun e w' => e = .returned (mkR (opN 3 x1 x2 y1 y2) (opD 3 x1 x2 y1 y2)).val ∧ Below w.heap.size w w' := by
  obtain ⟨⟨n0, n1⟩, d0, d1⟩ := opN_bd 3 hx.out hy.out
  obtain ⟨a1, a2, a3, a4, -⟩ := okB_bd hx.out
  obtain ⟨b1, b2, b3, b4, -⟩ := okB_bd hy.out
  obtain ⟨p0, p1⟩ := prod_bd a3 a4 (show -1073741824 ≤ y2 by omega) b2
  obtain ⟨q0, q1⟩ := prod_bd b3 b4 (show -1073741824 ≤ x2 by omega) a2
  obtain ⟨r0, r1⟩ := prod_bd (show -1073741824 ≤ x2 by omega) a2 (show -1073741824 ≤ y2 by omega) b2
  obtain ⟨s0, s1⟩ := prod_bd a3 a4 b3 b4
  obtain ⟨t0, t1⟩ := prod_bd (show -1073741824 ≤ x2 by omega) a2 b3 b4
  have HMK := hide (fun w => rmake_any (opN 3 x1 x2 y1 y2) (opD 3 x1 x2 y1 y2) w n0 n1 d0 d1)
  clear n0 n1 d0 d1
  have HV := hide (fun w => rvalid_any x1 x2 w)
  have HU := hide (fun w => rvalid_any y1 y2 w)
  rw [hx.out] at HV
  rw [hy.out] at HU
  go_enter Tryd.func25, Tryd.ntmps25
  go_wp2_with fail
  refine (HV.out _).mono ?_
  rintro e w1 ⟨rfl, hb⟩
  obtain ⟨X, Y, Z, hsz, hbl⟩ := box3 hb
  obtain ⟨yc0, yc1, yf0, yf1, ylt⟩ := two_of Y
  have HX := hide X
  have HY := hide Y
  have HZ := hide Z
  have HB1 := hide hbl
  clear hb hbl X Y Z
  go_wp2_with fail
  refine (HU.out _).mono ?_
  rintro e w2 ⟨rfl, hb⟩
  have hX := (hb.block _ (blk_in HX.out)).trans HX.out
  have hY := (hb.block _ (blk_in HY.out)).trans HY.out
  have hZ := (hb.block _ (blk_in HZ.out)).trans HZ.out
  have HB2 := hide (HB1.out.trans (hb.mono HB1.out.size))
  have hsz2 : w.heap.size + 3 ≤ w2.heap.size := Nat.le_trans hsz hb.size
  clear hb HX HY HZ HB1 yc0 yc1 yf0 yf1 ylt hsz
  obtain ⟨xc0, xc1, -, -, -⟩ := two_of hX
  obtain ⟨yc0, yc1, -, -, -⟩ := two_of hY
  have HZ := hide hZ
  clear hX hY hZ
  have hyz : (y1 == 0) = false := by have := hn.out; simpa using this
  obtain ⟨r, hr⟩ : ∃ r, mkR (opN 3 x1 x2 y1 y2) (opD 3 x1 x2 y1 y2) = r := ⟨_, rfl⟩
  obtain ⟨rn, rd, re⟩ := r
  rw [hr] at HMK
  have HR := hide hr
  clear hr
  unfold MR.val at HMK
  simp only [opN, opD] at HMK
  go_wp2_with fail
  refine (HMK.out _).mono ?_
  rintro e w5 ⟨rfl, hb5⟩
  obtain ⟨c0, c1, f0, f1, hlt⟩ := two_of ((hb5.block _ (blk_in HZ.out)).trans HZ.out)
  have HB5 := hide (HB2.out.trans (hb5.mono HB2.out.size))
  clear hb5
  go_wp2_with fail
  refine bodyPost_ret (v := .tuple #[.agg #[.int .i64 rn, .int .i64 rd], .int .i64 re]) (by simp [results, Tryd.results25, go_sem, c0, c1, hlt]) rfl ⟨by rw [HR.out]; rfl, ?_⟩
  exact (HB5.out.setCell (p := ⟨w.heap.size + 1 + 1, 0, none⟩) (by simp; omega) _).setCell (p := ⟨w.heap.size + 1 + 1, 1, none⟩) (by simp; omega) _
theorem rdoo_0 (x1 x2 y1 y2 : Int) (w : World) : Calls Tryd.prog 25 #[.int .i64 0, .agg #[.int .i64 x1, .int .i64 x2], .agg #[.int .i64 y1, .int .i64 y2]] w fun e w' => e = .returned (opR 0 x1 x2 y1 y2).val ∧ Below w.heap.size w w' := by
  unfold opR
  cases hx : okB x1 x2
  · exact rdo_badx _ x1 x2 y1 y2 w hx
  · cases hy : okB y1 y2
    · exact rdo_bady _ x1 x2 y1 y2 w hx hy
    · exact rdo_0 x1 x2 y1 y2 w hx hy
theorem rdoo_1 (x1 x2 y1 y2 : Int) (w : World) : Calls Tryd.prog 25 #[.int .i64 1, .agg #[.int .i64 x1, .int .i64 x2], .agg #[.int .i64 y1, .int .i64 y2]] w fun e w' => e = .returned (opR 1 x1 x2 y1 y2).val ∧ Below w.heap.size w w' := by
  unfold opR
  cases hx : okB x1 x2
  · exact rdo_badx _ x1 x2 y1 y2 w hx
  · cases hy : okB y1 y2
    · exact rdo_bady _ x1 x2 y1 y2 w hx hy
    · exact rdo_1 x1 x2 y1 y2 w hx hy
theorem rdoo_2 (x1 x2 y1 y2 : Int) (w : World) : Calls Tryd.prog 25 #[.int .i64 2, .agg #[.int .i64 x1, .int .i64 x2], .agg #[.int .i64 y1, .int .i64 y2]] w fun e w' => e = .returned (opR 2 x1 x2 y1 y2).val ∧ Below w.heap.size w w' := by
  unfold opR
  cases hx : okB x1 x2
  · exact rdo_badx _ x1 x2 y1 y2 w hx
  · cases hy : okB y1 y2
    · exact rdo_bady _ x1 x2 y1 y2 w hx hy
    · exact rdo_2 x1 x2 y1 y2 w hx hy
theorem rdoo_3 (x1 x2 y1 y2 : Int) (w : World) : Calls Tryd.prog 25 #[.int .i64 3, .agg #[.int .i64 x1, .int .i64 x2], .agg #[.int .i64 y1, .int .i64 y2]] w fun e w' => e = .returned (opR 3 x1 x2 y1 y2).val ∧ Below w.heap.size w w' := by
  unfold opR
  cases hx : okB x1 x2
  · exact rdo_badx _ x1 x2 y1 y2 w hx
  · cases hy : okB y1 y2
    · exact rdo_bady _ x1 x2 y1 y2 w hx hy
    · by_cases hz : y1 = 0
      · have : (y1 == 0) = true := by simpa using hz
        rw [this]
        exact rdo_div0 x1 x2 y1 y2 w hx hy hz
      · have : (y1 == 0) = false := by simpa using hz
        rw [this]
        exact rdo_3 x1 x2 y1 y2 w hx hy hz
set_option maxRecDepth 100000 in
set_option maxHeartbeats 400000 in
theorem rcmp_badx (x1 x2 y1 y2 : Int) (w : World) (hx : Hid (okB x1 x2 = false)) : Calls Tryd.prog 22 #[.agg #[.int .i64 x1, .int .i64 x2], .agg #[.int .i64 y1, .int .i64 y2]] w fun e w' => e = .returned (.int .i64 0) ∧ Below w.heap.size w w' := by
  have HV := hide (fun w => rvalid_any x1 x2 w)
  rw [hx.out] at HV
  go_enter Tryd.func22, Tryd.ntmps22
  go_wp2_with fail
  refine (HV.out _).mono ?_
  rintro e w1 ⟨rfl, hb⟩
  obtain ⟨X, Y, hsz, hbl⟩ := box2 hb
  have HB := hide hbl
  clear hb hbl X Y
  go_wp2_with fail
  go_ret
  exact ⟨rfl, HB.out⟩
set_option maxRecDepth 100000 in
set_option maxHeartbeats 400000 in
theorem rcmp_bady (x1 x2 y1 y2 : Int) (w : World) (hx : Hid (okB x1 x2 = true)) (hy : Hid (okB y1 y2 = false)) : Calls Tryd.prog 22 #[.agg #[.int .i64 x1, .int .i64 x2], .agg #[.int .i64 y1, .int .i64 y2]] w fun e w' => e = .returned (.int .i64 0) ∧ Below w.heap.size w w' := by
  have HV := hide (fun w => rvalid_any x1 x2 w)
  have HU := hide (fun w => rvalid_any y1 y2 w)
  rw [hx.out] at HV
  rw [hy.out] at HU
  go_enter Tryd.func22, Tryd.ntmps22
  go_wp2_with fail
  refine (HV.out _).mono ?_
  rintro e w1 ⟨rfl, hb⟩
  obtain ⟨X, Y, hsz, hbl⟩ := box2 hb
  obtain ⟨yc0, yc1, -, -, ylt⟩ := two_of Y
  have HB := hide hbl
  clear hb hbl X Y
  go_wp2_with fail
  refine (HU.out _).mono ?_
  rintro e w2 ⟨rfl, hb⟩
  have HB2 := hide (HB.out.trans (hb.mono HB.out.size))
  clear hb
  go_wp2_with fail
  go_ret
  exact ⟨rfl, HB2.out⟩
set_option maxRecDepth 100000 in
set_option maxHeartbeats 400000 in
theorem rcmp_eq (x1 x2 y1 y2 : Int) (w : World) (hx : Hid (okB x1 x2 = true)) (hy : Hid (okB y1 y2 = true)) (hq : (x1 * y2 == y1 * x2) = true) : Calls Tryd.prog 22 #[.agg #[.int .i64 x1, .int .i64 x2], .agg #[.int .i64 y1, .int .i64 y2]] w fun e w' => e = .returned (.int .i64 (0)) ∧ Below w.heap.size w w' := by
  have HV := hide (fun w => rvalid_any x1 x2 w)
  have HU := hide (fun w => rvalid_any y1 y2 w)
  rw [hx.out] at HV
  rw [hy.out] at HU
  obtain ⟨a1, a2, a3, a4, -⟩ := okB_bd hx.out
  obtain ⟨b1, b2, b3, b4, -⟩ := okB_bd hy.out
  obtain ⟨p0, p1⟩ := prod_bd a3 a4 (show -1073741824 ≤ y2 by omega) b2
  obtain ⟨q0, q1⟩ := prod_bd b3 b4 (show -1073741824 ≤ x2 by omega) a2
  go_enter Tryd.func22, Tryd.ntmps22
  go_wp2_with fail
  refine (HV.out _).mono ?_
  rintro e w1 ⟨rfl, hb⟩
  obtain ⟨X, Y, hsz, hbl⟩ := box2 hb
  obtain ⟨yc0, yc1, -, -, ylt⟩ := two_of Y
  have HX := hide X
  have HY := hide Y
  have HB := hide hbl
  clear hb hbl X Y
  go_wp2_with fail
  refine (HU.out _).mono ?_
  rintro e w2 ⟨rfl, hb⟩
  obtain ⟨xc0, xc1, -, -, -⟩ := two_of ((hb.block _ (blk_in HX.out)).trans HX.out)
  obtain ⟨zc0, zc1, -, -, -⟩ := two_of ((hb.block _ (blk_in HY.out)).trans HY.out)
  have HB2 := hide (HB.out.trans (hb.mono HB.out.size))
  clear hb HX HY yc0 yc1 ylt
  go_wp2_with fail
  go_ret
  exact ⟨rfl, HB2.out⟩
set_option maxRecDepth 100000 in
set_option maxHeartbeats 400000 in
theorem rcmp_lt (x1 x2 y1 y2 : Int) (w : World) (hx : Hid (okB x1 x2 = true)) (hy : Hid (okB y1 y2 = true)) (hq : (x1 * y2 == y1 * x2) = false) (hl : x1 * y2 < y1 * x2) : Calls Tryd.prog 22 #[.agg #[.int .i64 x1, .int .i64 x2], .agg #[.int .i64 y1, .int .i64 y2]] w fun e w' => e = .returned (.int .i64 (-1)) ∧ Below w.heap.size w w' := by
  have HV := hide (fun w => rvalid_any x1 x2 w)
  have HU := hide (fun w => rvalid_any y1 y2 w)
  rw [hx.out] at HV
  rw [hy.out] at HU
  obtain ⟨a1, a2, a3, a4, -⟩ := okB_bd hx.out
  obtain ⟨b1, b2, b3, b4, -⟩ := okB_bd hy.out
  obtain ⟨p0, p1⟩ := prod_bd a3 a4 (show -1073741824 ≤ y2 by omega) b2
  obtain ⟨q0, q1⟩ := prod_bd b3 b4 (show -1073741824 ≤ x2 by omega) a2
  go_enter Tryd.func22, Tryd.ntmps22
  go_wp2_with fail
  refine (HV.out _).mono ?_
  rintro e w1 ⟨rfl, hb⟩
  obtain ⟨X, Y, hsz, hbl⟩ := box2 hb
  obtain ⟨yc0, yc1, -, -, ylt⟩ := two_of Y
  have HX := hide X
  have HY := hide Y
  have HB := hide hbl
  clear hb hbl X Y
  go_wp2_with fail
  refine (HU.out _).mono ?_
  rintro e w2 ⟨rfl, hb⟩
  obtain ⟨xc0, xc1, -, -, -⟩ := two_of ((hb.block _ (blk_in HX.out)).trans HX.out)
  obtain ⟨zc0, zc1, -, -, -⟩ := two_of ((hb.block _ (blk_in HY.out)).trans HY.out)
  have HB2 := hide (HB.out.trans (hb.mono HB.out.size))
  clear hb HX HY yc0 yc1 ylt
  go_wp2_with fail
  go_ret
  exact ⟨rfl, HB2.out⟩
set_option maxRecDepth 100000 in
set_option maxHeartbeats 400000 in
theorem rcmp_gt (x1 x2 y1 y2 : Int) (w : World) (hx : Hid (okB x1 x2 = true)) (hy : Hid (okB y1 y2 = true)) (hq : (x1 * y2 == y1 * x2) = false) (hl : y1 * x2 < x1 * y2) : Calls Tryd.prog 22 #[.agg #[.int .i64 x1, .int .i64 x2], .agg #[.int .i64 y1, .int .i64 y2]] w fun e w' => e = .returned (.int .i64 (1)) ∧ Below w.heap.size w w' := by
  have HV := hide (fun w => rvalid_any x1 x2 w)
  have HU := hide (fun w => rvalid_any y1 y2 w)
  rw [hx.out] at HV
  rw [hy.out] at HU
  obtain ⟨a1, a2, a3, a4, -⟩ := okB_bd hx.out
  obtain ⟨b1, b2, b3, b4, -⟩ := okB_bd hy.out
  obtain ⟨p0, p1⟩ := prod_bd a3 a4 (show -1073741824 ≤ y2 by omega) b2
  obtain ⟨q0, q1⟩ := prod_bd b3 b4 (show -1073741824 ≤ x2 by omega) a2
  go_enter Tryd.func22, Tryd.ntmps22
  go_wp2_with fail
  refine (HV.out _).mono ?_
  rintro e w1 ⟨rfl, hb⟩
  obtain ⟨X, Y, hsz, hbl⟩ := box2 hb
  obtain ⟨yc0, yc1, -, -, ylt⟩ := two_of Y
  have HX := hide X
  have HY := hide Y
  have HB := hide hbl
  clear hb hbl X Y
  go_wp2_with fail
  refine (HU.out _).mono ?_
  rintro e w2 ⟨rfl, hb⟩
  obtain ⟨xc0, xc1, -, -, -⟩ := two_of ((hb.block _ (blk_in HX.out)).trans HX.out)
  obtain ⟨zc0, zc1, -, -, -⟩ := two_of ((hb.block _ (blk_in HY.out)).trans HY.out)
  have HB2 := hide (HB.out.trans (hb.mono HB.out.size))
  clear hb HX HY yc0 yc1 ylt
  go_wp2_with fail
  go_ret
  exact ⟨rfl, HB2.out⟩
theorem rcmp_any (x1 x2 y1 y2 : Int) (w : World) : Calls Tryd.prog 22 #[.agg #[.int .i64 x1, .int .i64 x2], .agg #[.int .i64 y1, .int .i64 y2]] w fun e w' => e = .returned (.int .i64 (cmpR x1 x2 y1 y2)) ∧ Below w.heap.size w w' := by
  unfold cmpR
  cases hx : okB x1 x2
  · exact rcmp_badx x1 x2 y1 y2 w hx
  · cases hy : okB y1 y2
    · exact rcmp_bady x1 x2 y1 y2 w hx hy
    · show Calls Tryd.prog 22 _ w fun e w' => e = .returned (.int .i64 (sgn (x1 * y2) (y1 * x2))) ∧ _
      unfold sgn
      by_cases h1 : x1 * y2 < y1 * x2
      · rw [if_pos h1]; exact rcmp_lt x1 x2 y1 y2 w hx hy (by simp; omega) h1
      · rw [if_neg h1]
        by_cases h2 : y1 * x2 < x1 * y2
        · rw [if_pos h2]; exact rcmp_gt x1 x2 y1 y2 w hx hy (by simp; omega) h2
        · rw [if_neg h2]; exact rcmp_eq x1 x2 y1 y2 w hx hy (by simp; omega)
set_option maxRecDepth 100000 in
set_option maxHeartbeats 400000 in
theorem rfloor_bad (n d : Int) (w : World) (hx : Hid (okB n d = false)) : Calls Tryd.prog 23 #[.agg #[.int .i64 n, .int .i64 d]] w fun e w' => e = .returned (.int .i64 0) ∧ Below w.heap.size w w' := by
  have HV := hide (fun w => rvalid_any n d w)
  rw [hx.out] at HV
  go_enter Tryd.func23, Tryd.ntmps23
  go_wp2_with fail
  refine (HV.out _).mono ?_
  rintro e w1 ⟨rfl, hb⟩
  have HB := hide (box1 hb).2.2
  clear hb
  go_wp2_with fail
  go_ret
  exact ⟨rfl, HB.out⟩
set_option maxRecDepth 100000 in
set_option maxHeartbeats 400000 in
theorem rceil_bad (n d : Int) (w : World) (hx : Hid (okB n d = false)) : Calls Tryd.prog 24 #[.agg #[.int .i64 n, .int .i64 d]] w fun e w' => e = .returned (.int .i64 0) ∧ Below w.heap.size w w' := by
  have HV := hide (fun w => rvalid_any n d w)
  rw [hx.out] at HV
  go_enter Tryd.func24, Tryd.ntmps24
  go_wp2_with fail
  refine (HV.out _).mono ?_
  rintro e w1 ⟨rfl, hb⟩
  have HB := hide (box1 hb).2.2
  clear hb
  go_wp2_with fail
  go_ret
  exact ⟨rfl, HB.out⟩
theorem fl_nums {n d : Int} (hd : 1 ≤ d) : n / d ≤ n.tdiv d ∧ n.tdiv d ≤ -((-n) / d) ∧ (∀ q : Int, n < q * d ↔ n / d < q) ∧ (∀ q : Int, q * d < n ↔ q < -((-n) / d)) := by
  have h1 := floor_nums n d hd
  have h2 := floor_nums (-n) d hd
  have h3 : (-n).tdiv d = -(n.tdiv d) := Int.neg_tdiv _ _
  refine ⟨by rw [h1]; split <;> omega, by rw [h2, h3]; split <;> omega, fun q => ?_, fun q => ?_⟩
  · exact (Int.ediv_lt_iff_lt_mul (by omega)).symm
  · have h4 := (Int.ediv_lt_iff_lt_mul (a := -n) (b := -q) (c := d) (by omega))
    rw [Int.neg_mul] at h4
    constructor
    · intro h; have := h4.2 (by omega); omega
    · intro h; have := h4.1 (by omega); omega
set_option maxRecDepth 100000 in
set_option maxHeartbeats 400000 in
theorem rfloor_ok (n d : Int) (w : World) (hx : Hid (okB n d = true)) : Calls Tryd.prog 23 #[.agg #[.int .i64 n, .int .i64 d]] w fun e w' => e = .returned (.int .i64 (n / d)) ∧ Below w.heap.size w w' := by
  have HV := hide (fun w => rvalid_any n d w)
  rw [hx.out] at HV
  obtain ⟨a1, a2, a3, a4, -⟩ := okB_bd hx.out
  obtain ⟨t1, -, tq, -⟩ := fl_nums (n := n) a1
  obtain ⟨f0, f1⟩ := div_bd n d a1 a3 a4
  have hq : -1073741824 ≤ n.tdiv d ∧ n.tdiv d ≤ 1073741824 := by
    have h3 : (n.tdiv d).natAbs ≤ n.natAbs := by rw [Int.natAbs_tdiv]; exact Nat.div_le_self _ _
    omega
  obtain ⟨q0, q1⟩ := hq
  have hd0 : (d == 0) = false := by simp; omega
  have TQ := hide tq
  clear tq
  generalize n / d = fl at *
  go_enter Tryd.func23, Tryd.ntmps23
  go_wp2_with fail
  refine (HV.out _).mono ?_
  rintro e w1 ⟨rfl, hb⟩
  obtain ⟨X, hsz, hbl⟩ := box1 hb
  obtain ⟨c0, c1, -, -, hlt⟩ := two_of X
  have HB := hide hbl
  clear hb hbl X
  go_wp2_with fail
  generalize n.tdiv d = td at *
  go_loop [3] (fun v3 => ∃ q : Int, fl ≤ q ∧ q ≤ 1073741824 ∧ v3 = .int .i64 q) (fun v3 => (intOf v3 - fl).toNat)
  case atStart => exact ⟨_, t1, q1, rfl⟩
  case round =>
    obtain ⟨q, hq1, hq2, rfl⟩ := hrel
    obtain ⟨p0, p1⟩ := prod_bd (show -1073741824 ≤ q by omega) hq2 (show -1073741824 ≤ d by omega) a2
    by_cases hc : n < q * d
    · have hlt2 := (TQ.out q).1 hc
      go_wp2_with fail
      go_round
      case rel => exact ⟨q - 1, by omega, by omega, rfl⟩
      case measure => simp [intOf]; omega
    · have hlt2 : ¬ fl < q := fun h => hc ((TQ.out q).2 h)
      obtain rfl : q = fl := by omega
      have hc2 : q * d ≤ n := by omega
      go_wp2_with fail
      go_ret
      exact ⟨rfl, HB.out⟩
theorem rfloor_any (n d : Int) (w : World) : Calls Tryd.prog 23 #[.agg #[.int .i64 n, .int .i64 d]] w fun e w' => e = .returned (.int .i64 (floorR n d)) ∧ Below w.heap.size w w' := by
  unfold floorR
  cases hx : okB n d
  · exact rfloor_bad n d w hx
  · exact rfloor_ok n d w hx
set_option maxRecDepth 100000 in
set_option maxHeartbeats 400000 in
theorem rceil_ok (n d : Int) (w : World) (hx : Hid (okB n d = true)) : Calls Tryd.prog 24 #[.agg #[.int .i64 n, .int .i64 d]] w fun e w' => e = .returned (.int .i64 (-((-n) / d))) ∧ Below w.heap.size w w' := by
  have HV := hide (fun w => rvalid_any n d w)
  rw [hx.out] at HV
  obtain ⟨a1, a2, a3, a4, -⟩ := okB_bd hx.out
  obtain ⟨-, t1, -, tq⟩ := fl_nums (n := n) a1
  obtain ⟨f0, f1⟩ := div_bd (-n) d a1 (by omega) (by omega)
  have hq : -1073741824 ≤ n.tdiv d ∧ n.tdiv d ≤ 1073741824 := by
    have h3 : (n.tdiv d).natAbs ≤ n.natAbs := by rw [Int.natAbs_tdiv]; exact Nat.div_le_self _ _
    omega
  obtain ⟨q0, q1⟩ := hq
  have hd0 : (d == 0) = false := by simp; omega
  have TQ := hide tq
  clear tq
  have g0 : -1073741824 ≤ -((-n) / d) := by omega
  have g1 : -((-n) / d) ≤ 1073741824 := by omega
  clear f0 f1
  generalize -((-n) / d) = fl at *
  go_enter Tryd.func24, Tryd.ntmps24
  go_wp2_with fail
  refine (HV.out _).mono ?_
  rintro e w1 ⟨rfl, hb⟩
  obtain ⟨X, hsz, hbl⟩ := box1 hb
  obtain ⟨c0, c1, -, -, hlt⟩ := two_of X
  have HB := hide hbl
  clear hb hbl X
  go_wp2_with fail
  generalize n.tdiv d = td at *
  go_loop [3] (fun v3 => ∃ q : Int, -1073741824 ≤ q ∧ q ≤ fl ∧ v3 = .int .i64 q) (fun v3 => (fl - intOf v3).toNat)
  case atStart => exact ⟨_, q0, t1, rfl⟩
  case round =>
    obtain ⟨q, hq1, hq2, rfl⟩ := hrel
    obtain ⟨p0, p1⟩ := prod_bd hq1 (show q ≤ 1073741824 by omega) (show -1073741824 ≤ d by omega) a2
    by_cases hc : q * d < n
    · have hlt2 := (TQ.out q).1 hc
      go_wp2_with fail
      go_round
      case rel => exact ⟨q + 1, by omega, by omega, rfl⟩
      case measure => simp [intOf]; omega
    · have hlt2 : ¬ q < fl := fun h => hc ((TQ.out q).2 h)
      obtain rfl : q = fl := by omega
      have hc2 : n ≤ q * d := by omega
      go_wp2_with fail
      go_ret
      exact ⟨rfl, HB.out⟩
theorem rceil_any (n d : Int) (w : World) : Calls Tryd.prog 24 #[.agg #[.int .i64 n, .int .i64 d]] w fun e w' => e = .returned (.int .i64 (ceilR n d)) ∧ Below w.heap.size w w' := by
  unfold ceilR
  cases hx : okB n d
  · exact rceil_bad n d w hx
  · exact rceil_ok n d w hx
end Go.Proofs.YtdjenpccgaojgaaDoor
