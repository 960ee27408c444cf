/-
  rat: do.
-/
import Derived.Test.YtdjenpccgaojgaaDoorDo
namespace Go.Proofs.YtdjenpccgaojgaaDoor
open Go.RowKit
theorem blk_in {w : World} {a : Nat} {o : Obj} (h : w.heap[a]? = some o) : a < w.heap.size := (Array.getElem?_eq_some_iff.1 h).1
theorem okB_bd {n d : Int} (h : okB n d = true) : 1 ≤ d ∧ d ≤ 1073741824 ∧ -1073741824 ≤ n ∧ n ≤ 1073741824 ∧ Nat.gcd n.natAbs d.natAbs = 1 := by
  unfold okB at h
  simp only [Bool.and_eq_true, decide_eq_true_eq, beq_iff_eq] at h
  exact ⟨h.1.1.1.1, h.1.1.1.2, h.1.1.2, h.1.2, h.2⟩
theorem box3 {w w1 : World} {X Y Z : Obj} (hb : Below (((w.alloc X).alloc Y).alloc Z).heap.size (((w.alloc X).alloc Y).alloc Z) w1) :
    w1.heap[w.heap.size]? = some X ∧ w1.heap[w.heap.size + 1]? = some Y ∧ w1.heap[w.heap.size + 1 + 1]? = some Z ∧ w.heap.size + 3 ≤ w1.heap.size ∧ Below w.heap.size w w1 := by
  have h1 : (w.alloc X).heap[w.heap.size]? = some X := heap_alloc_new w X
  have h2 : ((w.alloc X).alloc Y).heap[w.heap.size + 1]? = some Y := by have := heap_alloc_new (w.alloc X) Y; rw [World.size_alloc] at this; exact this
  have h3 : (((w.alloc X).alloc Y).alloc Z).heap[w.heap.size + 1 + 1]? = some Z := by have := heap_alloc_new ((w.alloc X).alloc Y) Z; rw [World.size_alloc, World.size_alloc] at this; exact this
  have s : (((w.alloc X).alloc Y).alloc Z).heap.size = w.heap.size + 3 := by simp
  have a1 : ((w.alloc X).alloc Y).heap[w.heap.size]? = some X := (Below.heap_alloc _ _ _ (by simp)).trans h1
  have a2 : (((w.alloc X).alloc Y).alloc Z).heap[w.heap.size]? = some X := (Below.heap_alloc _ _ _ (by simp; omega)).trans a1
  have a3 : (((w.alloc X).alloc Y).alloc Z).heap[w.heap.size + 1]? = some Y := (Below.heap_alloc _ _ _ (by simp)).trans h2
  rw [s] at hb
  exact ⟨(hb.block _ (by omega)).trans a2, (hb.block _ (by omega)).trans a3, (hb.block _ (by omega)).trans h3, by have := hb.size; omega, ((((Below.refl _ _).alloc (Nat.le_refl _) X).alloc (by simp) Y).alloc (by simp; omega) Z).trans (hb.mono (by omega))⟩
/-- What a result variable of two cells is good for. -/
theorem two_of {w : World} {r : Nat} {a b : Value} {t : TypeId} (h : w.heap[r]? = some (.cells #[a, b] t (0, 0))) : w.cell? ⟨r, 0, none⟩ = some a ∧ w.cell? ⟨r, 1, none⟩ = some b ∧ w.frozen? ⟨r, 0, none⟩ = false ∧ w.frozen? ⟨r, 1, none⟩ = false ∧ r < w.heap.size :=
  ⟨cell_of_row w r 0 _ _ _ h, cell_of_row w r 1 _ _ _ h, frozen_of_row w r 0 _ _ h, frozen_of_row w r 1 _ _ h, (Array.getElem?_eq_some_iff.1 h).1⟩
set_option maxRecDepth 100000 in
set_option maxHeartbeats 400000 in
theorem do_badx (op : ByteArray) (x1 x2 y1 y2 : Int) (w : World) (hx : Hid (okB x1 x2 = false)) : Calls Tryd.prog 31 #[.string op, .agg #[.int .i64 x1, .int .i64 x2], .agg #[.int .i64 y1, .int .i64 y2]] w fun e w' => e = .returned (MR.val ⟨0, 0, 2⟩) ∧ Below w.heap.size w w' := by
  have HV := hide (fun w => valid_any x1 x2 w)
  rw [hx.out] at HV
  go_enter Tryd.func31, Tryd.ntmps31
  go_wp2_with fail
  refine (HV.out _).mono ?_
  rintro e w1 ⟨rfl, hb⟩
  obtain ⟨X, Y, Z, hsz, hbl⟩ := box3 hb
  obtain ⟨c0, c1, f0, f1, hlt⟩ := two_of Z
  have HB := hide hbl
  clear hb hbl X Y Z
  go_wp2_with fail
  refine bodyPost_ret (v := .tuple #[.agg #[.int .i64 0, .int .i64 0], .int .i64 2]) (by simp [results, Tryd.results31, go_sem, c0, c1, hlt]) rfl ⟨rfl, ?_⟩
  exact (HB.out.setCell (p := ⟨w.heap.size + 1 + 1, 0, none⟩) (by simp; omega) _).setCell (p := ⟨w.heap.size + 1 + 1, 1, none⟩) (by simp; omega) _
set_option maxRecDepth 100000 in
set_option maxHeartbeats 400000 in
theorem do_bady (op : ByteArray) (x1 x2 y1 y2 : Int) (w : World) (hx : Hid (okB x1 x2 = true)) (hy : Hid (okB y1 y2 = false)) : Calls Tryd.prog 31 #[.string op, .agg #[.int .i64 x1, .int .i64 x2], .agg #[.int .i64 y1, .int .i64 y2]] w fun e w' => e = .returned (MR.val ⟨0, 0, 2⟩) ∧ Below w.heap.size w w' := by
  have HV := hide (fun w => valid_any x1 x2 w)
  have HU := hide (fun w => valid_any y1 y2 w)
  rw [hx.out] at HV
  rw [hy.out] at HU
  go_enter Tryd.func31, Tryd.ntmps31
  go_wp2_with fail
  refine (HV.out _).mono ?_
  rintro e w1 ⟨rfl, hb⟩
  obtain ⟨X, Y, Z, hsz, hbl⟩ := box3 hb
  obtain ⟨yc0, yc1, yf0, yf1, ylt⟩ := two_of Y
  have HX := hide X
  have HY := hide Y
  have HZ := hide Z
  have HB1 := hide hbl
  clear hb hbl X Y Z
  go_wp2_with fail
  refine (HU.out _).mono ?_
  rintro e w2 ⟨rfl, hb⟩
  have hX := (hb.block _ (blk_in HX.out)).trans HX.out
  have hY := (hb.block _ (blk_in HY.out)).trans HY.out
  have hZ := (hb.block _ (blk_in HZ.out)).trans HZ.out
  have HB2 := hide (HB1.out.trans (hb.mono HB1.out.size))
  have hsz2 : w.heap.size + 3 ≤ w2.heap.size := Nat.le_trans hsz hb.size
  clear hb HX HY HZ HB1 yc0 yc1 yf0 yf1 ylt hsz
  obtain ⟨c0, c1, f0, f1, hlt⟩ := two_of hZ
  clear hX hY hZ
  go_wp2_with fail
  refine bodyPost_ret (v := .tuple #[.agg #[.int .i64 0, .int .i64 0], .int .i64 2]) (by simp [results, Tryd.results31, go_sem, c0, c1, hlt]) rfl ⟨rfl, ?_⟩
  exact (HB2.out.setCell (p := ⟨w.heap.size + 1 + 1, 0, none⟩) (by simp; omega) _).setCell (p := ⟨w.heap.size + 1 + 1, 1, none⟩) (by simp; omega) _
set_option maxRecDepth 100000 in
set_option maxHeartbeats 400000 in
theorem do_div0 (x1 x2 y1 y2 : Int) (w : World) (hx : Hid (okB x1 x2 = true)) (hy : Hid (okB y1 y2 = true)) (HY1 : Hid (y1 = 0)) : Calls Tryd.prog 31 #[.string ⟨#[47]⟩, .agg #[.int .i64 x1, .int .i64 x2], .agg #[.int .i64 y1, .int .i64 y2]] w fun e w' => e = .returned (MR.val ⟨0, 0, 2⟩) ∧ Below w.heap.size w w' := by
  have HV := hide (fun w => valid_any x1 x2 w)
  have HU := hide (fun w => valid_any y1 y2 w)
  rw [hx.out] at HV
  rw [hy.out] at HU
  go_enter Tryd.func31, Tryd.ntmps31
  go_wp2_with fail
  refine (HV.out _).mono ?_
  rintro e w1 ⟨rfl, hb⟩
  obtain ⟨X, Y, Z, hsz, hbl⟩ := box3 hb
  obtain ⟨yc0, yc1, yf0, yf1, ylt⟩ := two_of Y
  have HX := hide X
  have HY := hide Y
  have HZ := hide Z
  have HB1 := hide hbl
  clear hb hbl X Y Z
  go_wp2_with fail
  refine (HU.out _).mono ?_
  rintro e w2 ⟨rfl, hb⟩
  have hX := (hb.block _ (blk_in HX.out)).trans HX.out
  have hY := (hb.block _ (blk_in HY.out)).trans HY.out
  have hZ := (hb.block _ (blk_in HZ.out)).trans HZ.out
  have HB2 := hide (HB1.out.trans (hb.mono HB1.out.size))
  have hsz2 : w.heap.size + 3 ≤ w2.heap.size := Nat.le_trans hsz hb.size
  clear hb HX HY HZ HB1 yc0 yc1 yf0 yf1 ylt hsz
  obtain ⟨c0, c1, f0, f1, hlt⟩ := two_of hZ
  obtain ⟨y0, y1', -, -, ylt⟩ := two_of hY
  rw [HY1.out] at y0
  clear hX hY hZ
  go_wp2_with fail
  refine bodyPost_ret (v := .tuple #[.agg #[.int .i64 0, .int .i64 0], .int .i64 2]) (by simp [results, Tryd.results31, go_sem, c0, c1, hlt]) rfl ⟨rfl, ?_⟩
  exact (HB2.out.setCell (p := ⟨w.heap.size + 1 + 1, 0, none⟩) (by simp; omega) _).setCell (p := ⟨w.heap.size + 1 + 1, 1, none⟩) (by simp; omega) _
theorem opN_bd (k : Nat) {x1 x2 y1 y2 : Int} (hx : okB x1 x2 = true) (hy : okB y1 y2 = true) : (-9223372036854775808 ≤ opN k x1 x2 y1 y2 ∧ opN k x1 x2 y1 y2 ≤ 9223372036854775807) ∧ -9223372036854775808 ≤ opD k x1 x2 y1 y2 ∧ opD k x1 x2 y1 y2 ≤ 9223372036854775807 := by
  obtain ⟨a1, a2, a3, a4, _⟩ := okB_bd hx
  obtain ⟨b1, b2, b3, b4, _⟩ := okB_bd hy
  have p1 := prod_bd a3 a4 (show -1073741824 ≤ y2 by omega) b2
  have p2 := prod_bd b3 b4 (show -1073741824 ≤ x2 by omega) a2
  have p3 := prod_bd (show -1073741824 ≤ x2 by omega) a2 (show -1073741824 ≤ y2 by omega) b2
  have p4 := prod_bd a3 a4 b3 b4
  have p5 := prod_bd (show -1073741824 ≤ x2 by omega) a2 b3 b4
  match k with
  | 0 => show (_ ≤ x1 * y2 + y1 * x2 ∧ x1 * y2 + y1 * x2 ≤ _) ∧ _ ≤ x2 * y2 ∧ x2 * y2 ≤ _; omega
  | 1 => show (_ ≤ x1 * y2 - y1 * x2 ∧ x1 * y2 - y1 * x2 ≤ _) ∧ _ ≤ x2 * y2 ∧ x2 * y2 ≤ _; omega
  | 2 => show (_ ≤ x1 * y1 ∧ x1 * y1 ≤ _) ∧ _ ≤ x2 * y2 ∧ x2 * y2 ≤ _; omega
  | k + 3 => show (_ ≤ x1 * y2 ∧ x1 * y2 ≤ _) ∧ _ ≤ x2 * y1 ∧ x2 * y1 ≤ _; omega
def fv (f : Nat) (w : World) : Value := .func (.func f) #[] #[.pointer (some ⟨w.heap.size, 0, none⟩), .pointer (some ⟨w.heap.size + 1, 0, none⟩)]
set_option maxRecDepth 100000 in
set_option maxHeartbeats 800000 in
theorem do_0 (x1 x2 y1 y2 : Int) (w : World) (hx : Hid (okB x1 x2 = true)) (hy : Hid (okB y1 y2 = true))  : Calls Tryd.prog 31 #[.string ⟨#[43]⟩, .agg #[.int .i64 x1, .int .i64 x2], .agg #[.int .i64 y1, .int .i64 y2]] w fun e w' => e = .returned (mkR (opN 0 x1 x2 y1 y2) (opD 0 x1 x2 y1 y2)).val ∧ Below w.heap.size w w' := by
  have hmm := @run_makeMap Tryd.prog
  have hi1 := fun (w : World) (v : Value) => run_ins w #[] 0 ⟨#[43]⟩ v rfl
  have hi2 := fun (w : World) (v1 v : Value) => run_ins w #[⟨.string ⟨#[43]⟩, v1, 0⟩] 1 ⟨#[45]⟩ v (by kernel_rfl)
  have hi3 := fun (w : World) (v1 v2 v : Value) => run_ins w #[⟨.string ⟨#[43]⟩, v1, 0⟩, ⟨.string ⟨#[45]⟩, v2, 1⟩] 2 ⟨#[42]⟩ v (by kernel_rfl)
  have hi4 := fun (w : World) (v1 v2 v3 v : Value) => run_ins w #[⟨.string ⟨#[43]⟩, v1, 0⟩, ⟨.string ⟨#[45]⟩, v2, 1⟩, ⟨.string ⟨#[42]⟩, v3, 2⟩] 3 ⟨#[47]⟩ v (by kernel_rfl)
  have hlk := fun (w : World) (v1 v2 v3 v4 : Value) => run_look w #[⟨.string ⟨#[43]⟩, v1, 0⟩, ⟨.string ⟨#[45]⟩, v2, 1⟩, ⟨.string ⟨#[42]⟩, v3, 2⟩, ⟨.string ⟨#[47]⟩, v4, 3⟩] 4 ⟨#[43]⟩ (match 0 with | 0 => v1 | 1 => v2 | 2 => v3 | _ => v4) 0 (by kernel_rfl)
  obtain ⟨⟨n0, n1⟩, d0, d1⟩ := opN_bd 0 hx.out hy.out
  obtain ⟨a1, a2, a3, a4, -⟩ := okB_bd hx.out
  obtain ⟨b1, b2, b3, b4, -⟩ := okB_bd hy.out
  have HMK := hide (fun w => make_any (opN 0 x1 x2 y1 y2) (opD 0 x1 x2 y1 y2) w n0 n1 d0 d1)
  clear n0 n1 d0 d1
  have HV := hide (fun w => valid_any x1 x2 w)
  have HU := hide (fun w => valid_any y1 y2 w)
  rw [hx.out] at HV
  rw [hy.out] at HU
  go_enter Tryd.func31, Tryd.ntmps31
  go_wp2_with fail
  refine (HV.out _).mono ?_
  rintro e w1 ⟨rfl, hb⟩
  obtain ⟨X, Y, Z, hsz, hbl⟩ := box3 hb
  obtain ⟨yc0, yc1, yf0, yf1, ylt⟩ := two_of Y
  have HX := hide X
  have HY := hide Y
  have HZ := hide Z
  have HB1 := hide hbl
  clear hb hbl X Y Z
  go_wp2_with fail
  refine (HU.out _).mono ?_
  rintro e w2 ⟨rfl, hb⟩
  have hX := (hb.block _ (blk_in HX.out)).trans HX.out
  have hY := (hb.block _ (blk_in HY.out)).trans HY.out
  have hZ := (hb.block _ (blk_in HZ.out)).trans HZ.out
  have HB2 := hide (HB1.out.trans (hb.mono HB1.out.size))
  have hsz2 : w.heap.size + 3 ≤ w2.heap.size := Nat.le_trans hsz hb.size
  clear hb HX HY HZ HB1 yc0 yc1 yf0 yf1 ylt hsz
  obtain ⟨c0, c1, f0, f1, hlt⟩ := two_of hZ
  obtain ⟨xc0, xc1, -, -, -⟩ := two_of hX
  obtain ⟨yc0, yc1, -, -, -⟩ := two_of hY
  have HZ := hide hZ
  clear hX hY hZ
  skip
  simp only [List.push_toArray, List.nil_append, List.cons_append] at hi1 hi2 hi3 hi4
  have HCL := hide (fun o => clo_0 x1 x2 y1 y2 w.heap.size (w.heap.size + 1) (w2.alloc o) ((World.cell?_alloc_lt w2 o _ (by simp only; omega)).trans xc0) ((World.cell?_alloc_lt w2 o _ (by simp only; omega)).trans xc1) ((World.cell?_alloc_lt w2 o _ (by simp only; omega)).trans yc0) ((World.cell?_alloc_lt w2 o _ (by simp only; omega)).trans yc1) a3 a4 (by omega) a2 b3 b4 (by omega) b2)
  clear c0 c1 f0 f1 hlt
  obtain ⟨r, hr⟩ : ∃ r, mkR (opN 0 x1 x2 y1 y2) (opD 0 x1 x2 y1 y2) = r := ⟨_, rfl⟩
  obtain ⟨rn, rd, re⟩ := r
  rw [hr] at HMK
  have HR := hide hr
  clear hr
  unfold MR.val at HMK
  simp only at HMK
  generalize opN 0 x1 x2 y1 y2 = N at HMK HCL
  generalize opD 0 x1 x2 y1 y2 = D at HMK HCL
  go_wp2_with fail
  refine (HCL.out _).mono ?_
  rintro e w3 ⟨rfl, d, rfl⟩
  go_wp2_with fail
  refine (HMK.out _).mono ?_
  rintro e w5 ⟨rfl, hb5⟩
  have hZ5 := (hb5.block (w.heap.size + 1 + 1) (by show _ < (w2.alloc _).heap.size; simp; omega)).trans ((Below.heap_alloc w2 _ _ (by omega)).trans HZ.out)
  have HB5 := hide (HB2.out.trans ((((Below.refl _ w2).alloc (Nat.le_refl _) _).trans (below_drewN (Below.refl _ _) d)).trans (hb5.mono (by show _ ≤ (w2.alloc _).heap.size; simp)) |>.mono (Nat.le_trans (by omega) hsz2)))
  obtain ⟨c0, c1, f0, f1, hlt⟩ := two_of hZ5
  clear hb5 hZ5 hi1 hi2 hi3 hi4 hlk hmm
  go_wp2_with fail
  refine bodyPost_ret (v := .tuple #[.agg #[.int .i64 rn, .int .i64 rd], .int .i64 re]) (by simp [results, Tryd.results31, go_sem, c0, c1, hlt]) rfl ⟨by rw [HR.out]; rfl, ?_⟩
  exact (HB5.out.setCell (p := ⟨w.heap.size + 1 + 1, 0, none⟩) (by simp; omega) _).setCell (p := ⟨w.heap.size + 1 + 1, 1, none⟩) (by simp; omega) _
set_option maxRecDepth 100000 in
set_option maxHeartbeats 800000 in
theorem do_1 (x1 x2 y1 y2 : Int) (w : World) (hx : Hid (okB x1 x2 = true)) (hy : Hid (okB y1 y2 = true))  : Calls Tryd.prog 31 #[.string ⟨#[45]⟩, .agg #[.int .i64 x1, .int .i64 x2], .agg #[.int .i64 y1, .int .i64 y2]] w fun e w' => e = .returned (mkR (opN 1 x1 x2 y1 y2) (opD 1 x1 x2 y1 y2)).val ∧ Below w.heap.size w w' := by
  have hmm := @run_makeMap Tryd.prog
  have hi1 := fun (w : World) (v : Value) => run_ins w #[] 0 ⟨#[43]⟩ v rfl
  have hi2 := fun (w : World) (v1 v : Value) => run_ins w #[⟨.string ⟨#[43]⟩, v1, 0⟩] 1 ⟨#[45]⟩ v (by kernel_rfl)
  have hi3 := fun (w : World) (v1 v2 v : Value) => run_ins w #[⟨.string ⟨#[43]⟩, v1, 0⟩, ⟨.string ⟨#[45]⟩, v2, 1⟩] 2 ⟨#[42]⟩ v (by kernel_rfl)
  have hi4 := fun (w : World) (v1 v2 v3 v : Value) => run_ins w #[⟨.string ⟨#[43]⟩, v1, 0⟩, ⟨.string ⟨#[45]⟩, v2, 1⟩, ⟨.string ⟨#[42]⟩, v3, 2⟩] 3 ⟨#[47]⟩ v (by kernel_rfl)
  have hlk := fun (w : World) (v1 v2 v3 v4 : Value) => run_look w #[⟨.string ⟨#[43]⟩, v1, 0⟩, ⟨.string ⟨#[45]⟩, v2, 1⟩, ⟨.string ⟨#[42]⟩, v3, 2⟩, ⟨.string ⟨#[47]⟩, v4, 3⟩] 4 ⟨#[45]⟩ (match 1 with | 0 => v1 | 1 => v2 | 2 => v3 | _ => v4) 1 (by kernel_rfl)
  obtain ⟨⟨n0, n1⟩, d0, d1⟩ := opN_bd 1 hx.out hy.out
  obtain ⟨a1, a2, a3, a4, -⟩ := okB_bd hx.out
  obtain ⟨b1, b2, b3, b4, -⟩ := okB_bd hy.out
  have HMK := hide (fun w => make_any (opN 1 x1 x2 y1 y2) (opD 1 x1 x2 y1 y2) w n0 n1 d0 d1)
  clear n0 n1 d0 d1
  have HV := hide (fun w => valid_any x1 x2 w)
  have HU := hide (fun w => valid_any y1 y2 w)
  rw [hx.out] at HV
  rw [hy.out] at HU
  go_enter Tryd.func31, Tryd.ntmps31
  go_wp2_with fail
  refine (HV.out _).mono ?_
  rintro e w1 ⟨rfl, hb⟩
  obtain ⟨X, Y, Z, hsz, hbl⟩ := box3 hb
  obtain ⟨yc0, yc1, yf0, yf1, ylt⟩ := two_of Y
  have HX := hide X
  have HY := hide Y
  have HZ := hide Z
  have HB1 := hide hbl
  clear hb hbl X Y Z
  go_wp2_with fail
  refine (HU.out _).mono ?_
  rintro e w2 ⟨rfl, hb⟩
  have hX := (hb.block _ (blk_in HX.out)).trans HX.out
  have hY := (hb.block _ (blk_in HY.out)).trans HY.out
  have hZ := (hb.block _ (blk_in HZ.out)).trans HZ.out
  have HB2 := hide (HB1.out.trans (hb.mono HB1.out.size))
  have hsz2 : w.heap.size + 3 ≤ w2.heap.size := Nat.le_trans hsz hb.size
  clear hb HX HY HZ HB1 yc0 yc1 yf0 yf1 ylt hsz
  obtain ⟨c0, c1, f0, f1, hlt⟩ := two_of hZ
  obtain ⟨xc0, xc1, -, -, -⟩ := two_of hX
  obtain ⟨yc0, yc1, -, -, -⟩ := two_of hY
  have HZ := hide hZ
  clear hX hY hZ
  skip
  simp only [List.push_toArray, List.nil_append, List.cons_append] at hi1 hi2 hi3 hi4
  have HCL := hide (fun o => clo_1 x1 x2 y1 y2 w.heap.size (w.heap.size + 1) (w2.alloc o) ((World.cell?_alloc_lt w2 o _ (by simp only; omega)).trans xc0) ((World.cell?_alloc_lt w2 o _ (by simp only; omega)).trans xc1) ((World.cell?_alloc_lt w2 o _ (by simp only; omega)).trans yc0) ((World.cell?_alloc_lt w2 o _ (by simp only; omega)).trans yc1) a3 a4 (by omega) a2 b3 b4 (by omega) b2)
  clear c0 c1 f0 f1 hlt
  obtain ⟨r, hr⟩ : ∃ r, mkR (opN 1 x1 x2 y1 y2) (opD 1 x1 x2 y1 y2) = r := ⟨_, rfl⟩
  obtain ⟨rn, rd, re⟩ := r
  rw [hr] at HMK
  have HR := hide hr
  clear hr
  unfold MR.val at HMK
  simp only at HMK
  generalize opN 1 x1 x2 y1 y2 = N at HMK HCL
  generalize opD 1 x1 x2 y1 y2 = D at HMK HCL
  go_wp2_with fail
  refine (HCL.out _).mono ?_
  rintro e w3 ⟨rfl, d, rfl⟩
  go_wp2_with fail
  refine (HMK.out _).mono ?_
  rintro e w5 ⟨rfl, hb5⟩
  have hZ5 := (hb5.block (w.heap.size + 1 + 1) (by show _ < (w2.alloc _).heap.size; simp; omega)).trans ((Below.heap_alloc w2 _ _ (by omega)).trans HZ.out)
  have HB5 := hide (HB2.out.trans ((((Below.refl _ w2).alloc (Nat.le_refl _) _).trans (below_drewN (Below.refl _ _) d)).trans (hb5.mono (by show _ ≤ (w2.alloc _).heap.size; simp)) |>.mono (Nat.le_trans (by omega) hsz2)))
  obtain ⟨c0, c1, f0, f1, hlt⟩ := two_of hZ5
  clear hb5 hZ5 hi1 hi2 hi3 hi4 hlk hmm
  go_wp2_with fail
  refine bodyPost_ret (v := .tuple #[.agg #[.int .i64 rn, .int .i64 rd], .int .i64 re]) (by simp [results, Tryd.results31, go_sem, c0, c1, hlt]) rfl ⟨by rw [HR.out]; rfl, ?_⟩
  exact (HB5.out.setCell (p := ⟨w.heap.size + 1 + 1, 0, none⟩) (by simp; omega) _).setCell (p := ⟨w.heap.size + 1 + 1, 1, none⟩) (by simp; omega) _
set_option maxRecDepth 100000 in
set_option maxHeartbeats 800000 in
theorem do_2 (x1 x2 y1 y2 : Int) (w : World) (hx : Hid (okB x1 x2 = true)) (hy : Hid (okB y1 y2 = true))  : Calls Tryd.prog 31 #[.string ⟨#[42]⟩, .agg #[.int .i64 x1, .int .i64 x2], .agg #[.int .i64 y1, .int .i64 y2]] w fun e w' => e = .returned (mkR (opN 2 x1 x2 y1 y2) (opD 2 x1 x2 y1 y2)).val ∧ Below w.heap.size w w' := by
  have hmm := @run_makeMap Tryd.prog
  have hi1 := fun (w : World) (v : Value) => run_ins w #[] 0 ⟨#[43]⟩ v rfl
  have hi2 := fun (w : World) (v1 v : Value) => run_ins w #[⟨.string ⟨#[43]⟩, v1, 0⟩] 1 ⟨#[45]⟩ v (by kernel_rfl)
  have hi3 := fun (w : World) (v1 v2 v : Value) => run_ins w #[⟨.string ⟨#[43]⟩, v1, 0⟩, ⟨.string ⟨#[45]⟩, v2, 1⟩] 2 ⟨#[42]⟩ v (by kernel_rfl)
  have hi4 := fun (w : World) (v1 v2 v3 v : Value) => run_ins w #[⟨.string ⟨#[43]⟩, v1, 0⟩, ⟨.string ⟨#[45]⟩, v2, 1⟩, ⟨.string ⟨#[42]⟩, v3, 2⟩] 3 ⟨#[47]⟩ v (by kernel_rfl)
  have hlk := fun (w : World) (v1 v2 v3 v4 : Value) => run_look w #[⟨.string ⟨#[43]⟩, v1, 0⟩, ⟨.string ⟨#[45]⟩, v2, 1⟩, ⟨.string ⟨#[42]⟩, v3, 2⟩, ⟨.string ⟨#[47]⟩, v4, 3⟩] 4 ⟨#[42]⟩ (match 2 with | 0 => v1 | 1 => v2 | 2 => v3 | _ => v4) 2 (by kernel_rfl)
  obtain ⟨⟨n0, n1⟩, d0, d1⟩ := opN_bd 2 hx.out hy.out
  obtain ⟨a1, a2, a3, a4, -⟩ := okB_bd hx.out
  obtain ⟨b1, b2, b3, b4, -⟩ := okB_bd hy.out
  have HMK := hide (fun w => make_any (opN 2 x1 x2 y1 y2) (opD 2 x1 x2 y1 y2) w n0 n1 d0 d1)
  clear n0 n1 d0 d1
  have HV := hide (fun w => valid_any x1 x2 w)
  have HU := hide (fun w => valid_any y1 y2 w)
  rw [hx.out] at HV
  rw [hy.out] at HU
  go_enter Tryd.func31, Tryd.ntmps31
  go_wp2_with fail
  refine (HV.out _).mono ?_
  rintro e w1 ⟨rfl, hb⟩
  obtain ⟨X, Y, Z, hsz, hbl⟩ := box3 hb
  obtain ⟨yc0, yc1, yf0, yf1, ylt⟩ := two_of Y
  have HX := hide X
  have HY := hide Y
  have HZ := hide Z
  have HB1 := hide hbl
  clear hb hbl X Y Z
  go_wp2_with fail
  refine (HU.out _).mono ?_
  rintro e w2 ⟨rfl, hb⟩
  have hX := (hb.block _ (blk_in HX.out)).trans HX.out
  have hY := (hb.block _ (blk_in HY.out)).trans HY.out
  have hZ := (hb.block _ (blk_in HZ.out)).trans HZ.out
  have HB2 := hide (HB1.out.trans (hb.mono HB1.out.size))
  have hsz2 : w.heap.size + 3 ≤ w2.heap.size := Nat.le_trans hsz hb.size
  clear hb HX HY HZ HB1 yc0 yc1 yf0 yf1 ylt hsz
  obtain ⟨c0, c1, f0, f1, hlt⟩ := two_of hZ
  obtain ⟨xc0, xc1, -, -, -⟩ := two_of hX
  obtain ⟨yc0, yc1, -, -, -⟩ := two_of hY
  have HZ := hide hZ
  clear hX hY hZ
  skip
  simp only [List.push_toArray, List.nil_append, List.cons_append] at hi1 hi2 hi3 hi4
  have HCL := hide (fun o => clo_2 x1 x2 y1 y2 w.heap.size (w.heap.size + 1) (w2.alloc o) ((World.cell?_alloc_lt w2 o _ (by simp only; omega)).trans xc0) ((World.cell?_alloc_lt w2 o _ (by simp only; omega)).trans xc1) ((World.cell?_alloc_lt w2 o _ (by simp only; omega)).trans yc0) ((World.cell?_alloc_lt w2 o _ (by simp only; omega)).trans yc1) a3 a4 (by omega) a2 b3 b4 (by omega) b2)
  clear c0 c1 f0 f1 hlt
  obtain ⟨r, hr⟩ : ∃ r, mkR (opN 2 x1 x2 y1 y2) (opD 2 x1 x2 y1 y2) = r := ⟨_, rfl⟩
  obtain ⟨rn, rd, re⟩ := r
  rw [hr] at HMK
  have HR := hide hr
  clear hr
  unfold MR.val at HMK
  simp only at HMK
  generalize opN 2 x1 x2 y1 y2 = N at HMK HCL
  generalize opD 2 x1 x2 y1 y2 = D at HMK HCL
  go_wp2_with fail
  refine (HCL.out _).mono ?_
  rintro e w3 ⟨rfl, d, rfl⟩
  go_wp2_with fail
  refine (HMK.out _).mono ?_
  rintro e w5 ⟨rfl, hb5⟩
  have hZ5 := (hb5.block (w.heap.size + 1 + 1) (by show _ < (w2.alloc _).heap.size; simp; omega)).trans ((Below.heap_alloc w2 _ _ (by omega)).trans HZ.out)
  have HB5 := hide (HB2.out.trans ((((Below.refl _ w2).alloc (Nat.le_refl _) _).trans (below_drewN (Below.refl _ _) d)).trans (hb5.mono (by show _ ≤ (w2.alloc _).heap.size; simp)) |>.mono (Nat.le_trans (by omega) hsz2)))
  obtain ⟨c0, c1, f0, f1, hlt⟩ := two_of hZ5
  clear hb5 hZ5 hi1 hi2 hi3 hi4 hlk hmm
  go_wp2_with fail
  refine bodyPost_ret (v := .tuple #[.agg #[.int .i64 rn, .int .i64 rd], .int .i64 re]) (by simp [results, Tryd.results31, go_sem, c0, c1, hlt]) rfl ⟨by rw [HR.out]; rfl, ?_⟩
  exact (HB5.out.setCell (p := ⟨w.heap.size + 1 + 1, 0, none⟩) (by simp; omega) _).setCell (p := ⟨w.heap.size + 1 + 1, 1, none⟩) (by simp; omega) _
set_option maxRecDepth 100000 in
set_option maxHeartbeats 800000 in
theorem do_3 (x1 x2 y1 y2 : Int) (w : World) (hx : Hid (okB x1 x2 = true)) (hy : Hid (okB y1 y2 = true)) (hn : Hid (y1 ≠ 0)) : Calls Tryd.prog 31 #[.string ⟨#[47]⟩, .agg #[.int .i64 x1, .int .i64 x2], .agg #[.int .i64 y1, .int .i64 y2]] w fun e w' => e = .returned (mkR (opN 3 x1 x2 y1 y2) (opD 3 x1 x2 y1 y2)).val ∧ Below w.heap.size w w' := by
  have hmm := @run_makeMap Tryd.prog
  have hi1 := fun (w : World) (v : Value) => run_ins w #[] 0 ⟨#[43]⟩ v rfl
  have hi2 := fun (w : World) (v1 v : Value) => run_ins w #[⟨.string ⟨#[43]⟩, v1, 0⟩] 1 ⟨#[45]⟩ v (by kernel_rfl)
  have hi3 := fun (w : World) (v1 v2 v : Value) => run_ins w #[⟨.string ⟨#[43]⟩, v1, 0⟩, ⟨.string ⟨#[45]⟩, v2, 1⟩] 2 ⟨#[42]⟩ v (by kernel_rfl)
  have hi4 := fun (w : World) (v1 v2 v3 v : Value) => run_ins w #[⟨.string ⟨#[43]⟩, v1, 0⟩, ⟨.string ⟨#[45]⟩, v2, 1⟩, ⟨.string ⟨#[42]⟩, v3, 2⟩] 3 ⟨#[47]⟩ v (by kernel_rfl)
  have hlk := fun (w : World) (v1 v2 v3 v4 : Value) => run_look w #[⟨.string ⟨#[43]⟩, v1, 0⟩, ⟨.string ⟨#[45]⟩, v2, 1⟩, ⟨.string ⟨#[42]⟩, v3, 2⟩, ⟨.string ⟨#[47]⟩, v4, 3⟩] 4 ⟨#[47]⟩ (match 3 with | 0 => v1 | 1 => v2 | 2 => v3 | _ => v4) 3 (by kernel_rfl)
  obtain ⟨⟨n0, n1⟩, d0, d1⟩ := opN_bd 3 hx.out hy.out
  obtain ⟨a1, a2, a3, a4, -⟩ := okB_bd hx.out
  obtain ⟨b1, b2, b3, b4, -⟩ := okB_bd hy.out
  have HMK := hide (fun w => make_any (opN 3 x1 x2 y1 y2) (opD 3 x1 x2 y1 y2) w n0 n1 d0 d1)
  clear n0 n1 d0 d1
  have HV := hide (fun w => valid_any x1 x2 w)
  have HU := hide (fun w => valid_any y1 y2 w)
  rw [hx.out] at HV
  rw [hy.out] at HU
  go_enter Tryd.func31, Tryd.ntmps31
  go_wp2_with fail
  refine (HV.out _).mono ?_
  rintro e w1 ⟨rfl, hb⟩
  obtain ⟨X, Y, Z, hsz, hbl⟩ := box3 hb
  obtain ⟨yc0, yc1, yf0, yf1, ylt⟩ := two_of Y
  have HX := hide X
  have HY := hide Y
  have HZ := hide Z
  have HB1 := hide hbl
  clear hb hbl X Y Z
  go_wp2_with fail
  refine (HU.out _).mono ?_
  rintro e w2 ⟨rfl, hb⟩
  have hX := (hb.block _ (blk_in HX.out)).trans HX.out
  have hY := (hb.block _ (blk_in HY.out)).trans HY.out
  have hZ := (hb.block _ (blk_in HZ.out)).trans HZ.out
  have HB2 := hide (HB1.out.trans (hb.mono HB1.out.size))
  have hsz2 : w.heap.size + 3 ≤ w2.heap.size := Nat.le_trans hsz hb.size
  clear hb HX HY HZ HB1 yc0 yc1 yf0 yf1 ylt hsz
  obtain ⟨c0, c1, f0, f1, hlt⟩ := two_of hZ
  obtain ⟨xc0, xc1, -, -, -⟩ := two_of hX
  obtain ⟨yc0, yc1, -, -, -⟩ := two_of hY
  have HZ := hide hZ
  clear hX hY hZ
  have hyz : (y1 == 0) = false := by have := hn.out; simpa using this
  simp only [List.push_toArray, List.nil_append, List.cons_append] at hi1 hi2 hi3 hi4
  have HCL := hide (fun o => clo_3 x1 x2 y1 y2 w.heap.size (w.heap.size + 1) (w2.alloc o) ((World.cell?_alloc_lt w2 o _ (by simp only; omega)).trans xc0) ((World.cell?_alloc_lt w2 o _ (by simp only; omega)).trans xc1) ((World.cell?_alloc_lt w2 o _ (by simp only; omega)).trans yc0) ((World.cell?_alloc_lt w2 o _ (by simp only; omega)).trans yc1) a3 a4 (by omega) a2 b3 b4 (by omega) b2)
  clear c0 c1 f0 f1 hlt
  obtain ⟨r, hr⟩ : ∃ r, mkR (opN 3 x1 x2 y1 y2) (opD 3 x1 x2 y1 y2) = r := ⟨_, rfl⟩
  obtain ⟨rn, rd, re⟩ := r
  rw [hr] at HMK
  have HR := hide hr
  clear hr
  unfold MR.val at HMK
  simp only at HMK
  generalize opN 3 x1 x2 y1 y2 = N at HMK HCL
  generalize opD 3 x1 x2 y1 y2 = D at HMK HCL
  go_wp2_with fail
  refine (HCL.out _).mono ?_
  rintro e w3 ⟨rfl, d, rfl⟩
  go_wp2_with fail
  refine (HMK.out _).mono ?_
  rintro e w5 ⟨rfl, hb5⟩
  have hZ5 := (hb5.block (w.heap.size + 1 + 1) (by show _ < (w2.alloc _).heap.size; simp; omega)).trans ((Below.heap_alloc w2 _ _ (by omega)).trans HZ.out)
  have HB5 := hide (HB2.out.trans ((((Below.refl _ w2).alloc (Nat.le_refl _) _).trans (below_drewN (Below.refl _ _) d)).trans (hb5.mono (by show _ ≤ (w2.alloc _).heap.size; simp)) |>.mono (Nat.le_trans (by omega) hsz2)))
  obtain ⟨c0, c1, f0, f1, hlt⟩ := two_of hZ5
  clear hb5 hZ5 hi1 hi2 hi3 hi4 hlk hmm
  go_wp2_with fail
  refine bodyPost_ret (v := .tuple #[.agg #[.int .i64 rn, .int .i64 rd], .int .i64 re]) (by simp [results, Tryd.results31, go_sem, c0, c1, hlt]) rfl ⟨by rw [HR.out]; rfl, ?_⟩
  exact (HB5.out.setCell (p := ⟨w.heap.size + 1 + 1, 0, none⟩) (by simp; omega) _).setCell (p := ⟨w.heap.size + 1 + 1, 1, none⟩) (by simp; omega) _
end Go.Proofs.YtdjenpccgaojgaaDoor
