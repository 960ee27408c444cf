/-
  rat: Add, Sub, Mul, Div, Cmp, Floor, Ceil.
-/
import Derived.Test.YtdjenpccgaojgaaDoorDo2
namespace Go.Proofs.YtdjenpccgaojgaaDoor
open Go.RowKit
def opR (k : Nat) (x1 x2 y1 y2 : Int) : MR := if okB x1 x2 && okB y1 y2 && !(k == 3 && y1 == 0) then mkR (opN k x1 x2 y1 y2) (opD k x1 x2 y1 y2) else ⟨0, 0, 2⟩
theorem doo_0 (x1 x2 y1 y2 : Int) (w : World) : Calls Tryd.prog 31 #[.string ⟨#[43]⟩, .agg #[.int .i64 x1, .int .i64 x2], .agg #[.int .i64 y1, .int .i64 y2]] w fun e w' => e = .returned (opR 0 x1 x2 y1 y2).val ∧ Below w.heap.size w w' := by
  unfold opR
  cases hx : okB x1 x2
  · exact do_badx _ x1 x2 y1 y2 w hx
  · cases hy : okB y1 y2
    · exact do_bady _ x1 x2 y1 y2 w hx hy
    · exact do_0 x1 x2 y1 y2 w hx hy
theorem doo_1 (x1 x2 y1 y2 : Int) (w : World) : Calls Tryd.prog 31 #[.string ⟨#[45]⟩, .agg #[.int .i64 x1, .int .i64 x2], .agg #[.int .i64 y1, .int .i64 y2]] w fun e w' => e = .returned (opR 1 x1 x2 y1 y2).val ∧ Below w.heap.size w w' := by
  unfold opR
  cases hx : okB x1 x2
  · exact do_badx _ x1 x2 y1 y2 w hx
  · cases hy : okB y1 y2
    · exact do_bady _ x1 x2 y1 y2 w hx hy
    · exact do_1 x1 x2 y1 y2 w hx hy
theorem doo_2 (x1 x2 y1 y2 : Int) (w : World) : Calls Tryd.prog 31 #[.string ⟨#[42]⟩, .agg #[.int .i64 x1, .int .i64 x2], .agg #[.int .i64 y1, .int .i64 y2]] w fun e w' => e = .returned (opR 2 x1 x2 y1 y2).val ∧ Below w.heap.size w w' := by
  unfold opR
  cases hx : okB x1 x2
  · exact do_badx _ x1 x2 y1 y2 w hx
  · cases hy : okB y1 y2
    · exact do_bady _ x1 x2 y1 y2 w hx hy
    · exact do_2 x1 x2 y1 y2 w hx hy
theorem doo_3 (x1 x2 y1 y2 : Int) (w : World) : Calls Tryd.prog 31 #[.string ⟨#[47]⟩, .agg #[.int .i64 x1, .int .i64 x2], .agg #[.int .i64 y1, .int .i64 y2]] w fun e w' => e = .returned (opR 3 x1 x2 y1 y2).val ∧ Below w.heap.size w w' := by
  unfold opR
  cases hx : okB x1 x2
  · exact do_badx _ x1 x2 y1 y2 w hx
  · cases hy : okB y1 y2
    · exact do_bady _ x1 x2 y1 y2 w hx hy
    · by_cases hz : y1 = 0
      · have : (y1 == 0) = true := by simpa using hz
        rw [this]
        exact do_div0 x1 x2 y1 y2 w hx hy hz
      · have : (y1 == 0) = false := by simpa using hz
        rw [this]
        exact do_3 x1 x2 y1 y2 w hx hy hz
set_option maxRecDepth 100000 in
set_option maxHeartbeats 400000 in
theorem op_0 (x1 x2 y1 y2 : Int) (w : World) : Calls Tryd.prog 10 #[.agg #[.int .i64 x1, .int .i64 x2], .agg #[.int .i64 y1, .int .i64 y2]] w fun e w' => e = .returned (opR 0 x1 x2 y1 y2).val ∧ Below w.heap.size w w' := by
  have HD := hide (fun w => doo_0 x1 x2 y1 y2 w)
  obtain ⟨r, hr⟩ : ∃ r, opR 0 x1 x2 y1 y2 = r := ⟨_, rfl⟩
  obtain ⟨rn, rd, re⟩ := r
  rw [hr] at HD
  have HR := hide hr
  clear hr
  unfold MR.val at HD
  simp only at HD
  go_enter Tryd.func10, Tryd.ntmps10
  go_wp2_with fail
  refine (HD.out _).mono ?_
  rintro e w1 ⟨rfl, hb⟩
  obtain ⟨X, Y, Z, hsz, hbl⟩ := box3 hb
  obtain ⟨c0, c1, f0, f1, hlt⟩ := two_of Z
  have HB := hide hbl
  clear hb hbl X Y Z
  go_wp2_with fail
  refine bodyPost_ret (v := .tuple #[.agg #[.int .i64 rn, .int .i64 rd], .int .i64 re]) (by simp [results, Tryd.results10, go_sem, c0, c1, hlt]) rfl ⟨by rw [HR.out]; rfl, ?_⟩
  exact (HB.out.setCell (p := ⟨w.heap.size + 1 + 1, 0, none⟩) (by simp; omega) _).setCell (p := ⟨w.heap.size + 1 + 1, 1, none⟩) (by simp; omega) _
set_option maxRecDepth 100000 in
set_option maxHeartbeats 400000 in
theorem op_1 (x1 x2 y1 y2 : Int) (w : World) : Calls Tryd.prog 17 #[.agg #[.int .i64 x1, .int .i64 x2], .agg #[.int .i64 y1, .int .i64 y2]] w fun e w' => e = .returned (opR 1 x1 x2 y1 y2).val ∧ Below w.heap.size w w' := by
  have HD := hide (fun w => doo_1 x1 x2 y1 y2 w)
  obtain ⟨r, hr⟩ : ∃ r, opR 1 x1 x2 y1 y2 = r := ⟨_, rfl⟩
  obtain ⟨rn, rd, re⟩ := r
  rw [hr] at HD
  have HR := hide hr
  clear hr
  unfold MR.val at HD
  simp only at HD
  go_enter Tryd.func17, Tryd.ntmps17
  go_wp2_with fail
  refine (HD.out _).mono ?_
  rintro e w1 ⟨rfl, hb⟩
  obtain ⟨X, Y, Z, hsz, hbl⟩ := box3 hb
  obtain ⟨c0, c1, f0, f1, hlt⟩ := two_of Z
  have HB := hide hbl
  clear hb hbl X Y Z
  go_wp2_with fail
  refine bodyPost_ret (v := .tuple #[.agg #[.int .i64 rn, .int .i64 rd], .int .i64 re]) (by simp [results, Tryd.results17, go_sem, c0, c1, hlt]) rfl ⟨by rw [HR.out]; rfl, ?_⟩
  exact (HB.out.setCell (p := ⟨w.heap.size + 1 + 1, 0, none⟩) (by simp; omega) _).setCell (p := ⟨w.heap.size + 1 + 1, 1, none⟩) (by simp; omega) _
set_option maxRecDepth 100000 in
set_option maxHeartbeats 400000 in
theorem op_2 (x1 x2 y1 y2 : Int) (w : World) : Calls Tryd.prog 18 #[.agg #[.int .i64 x1, .int .i64 x2], .agg #[.int .i64 y1, .int .i64 y2]] w fun e w' => e = .returned (opR 2 x1 x2 y1 y2).val ∧ Below w.heap.size w w' := by
  have HD := hide (fun w => doo_2 x1 x2 y1 y2 w)
  obtain ⟨r, hr⟩ : ∃ r, opR 2 x1 x2 y1 y2 = r := ⟨_, rfl⟩
  obtain ⟨rn, rd, re⟩ := r
  rw [hr] at HD
  have HR := hide hr
  clear hr
  unfold MR.val at HD
  simp only at HD
  go_enter Tryd.func18, Tryd.ntmps18
  go_wp2_with fail
  refine (HD.out _).mono ?_
  rintro e w1 ⟨rfl, hb⟩
  obtain ⟨X, Y, Z, hsz, hbl⟩ := box3 hb
  obtain ⟨c0, c1, f0, f1, hlt⟩ := two_of Z
  have HB := hide hbl
  clear hb hbl X Y Z
  go_wp2_with fail
  refine bodyPost_ret (v := .tuple #[.agg #[.int .i64 rn, .int .i64 rd], .int .i64 re]) (by simp [results, Tryd.results18, go_sem, c0, c1, hlt]) rfl ⟨by rw [HR.out]; rfl, ?_⟩
  exact (HB.out.setCell (p := ⟨w.heap.size + 1 + 1, 0, none⟩) (by simp; omega) _).setCell (p := ⟨w.heap.size + 1 + 1, 1, none⟩) (by simp; omega) _
set_option maxRecDepth 100000 in
set_option maxHeartbeats 400000 in
theorem op_3 (x1 x2 y1 y2 : Int) (w : World) : Calls Tryd.prog 19 #[.agg #[.int .i64 x1, .int .i64 x2], .agg #[.int .i64 y1, .int .i64 y2]] w fun e w' => e = .returned (opR 3 x1 x2 y1 y2).val ∧ Below w.heap.size w w' := by
  have HD := hide (fun w => doo_3 x1 x2 y1 y2 w)
  obtain ⟨r, hr⟩ : ∃ r, opR 3 x1 x2 y1 y2 = r := ⟨_, rfl⟩
  obtain ⟨rn, rd, re⟩ := r
  rw [hr] at HD
  have HR := hide hr
  clear hr
  unfold MR.val at HD
  simp only at HD
  go_enter Tryd.func19, Tryd.ntmps19
  go_wp2_with fail
  refine (HD.out _).mono ?_
  rintro e w1 ⟨rfl, hb⟩
  obtain ⟨X, Y, Z, hsz, hbl⟩ := box3 hb
  obtain ⟨c0, c1, f0, f1, hlt⟩ := two_of Z
  have HB := hide hbl
  clear hb hbl X Y Z
  go_wp2_with fail
  refine bodyPost_ret (v := .tuple #[.agg #[.int .i64 rn, .int .i64 rd], .int .i64 re]) (by simp [results, Tryd.results19, go_sem, c0, c1, hlt]) rfl ⟨by rw [HR.out]; rfl, ?_⟩
  exact (HB.out.setCell (p := ⟨w.heap.size + 1 + 1, 0, none⟩) (by simp; omega) _).setCell (p := ⟨w.heap.size + 1 + 1, 1, none⟩) (by simp; omega) _
theorem box2 {w w1 : World} {X Y : Obj} (hb : Below ((w.alloc X).alloc Y).heap.size ((w.alloc X).alloc Y) w1) :
    w1.heap[w.heap.size]? = some X ∧ w1.heap[w.heap.size + 1]? = some Y ∧ w.heap.size + 2 ≤ w1.heap.size ∧ Below w.heap.size w w1 := by
  have h1 : (w.alloc X).heap[w.heap.size]? = some X := heap_alloc_new w X
  have h2 : ((w.alloc X).alloc Y).heap[w.heap.size + 1]? = some Y := by have := heap_alloc_new (w.alloc X) Y; rw [World.size_alloc] at this; exact this
  have s : ((w.alloc X).alloc Y).heap.size = w.heap.size + 2 := by simp
  have a1 : ((w.alloc X).alloc Y).heap[w.heap.size]? = some X := (Below.heap_alloc _ _ _ (by simp)).trans h1
  rw [s] at hb
  exact ⟨(hb.block _ (by omega)).trans a1, (hb.block _ (by omega)).trans h2, by have := hb.size; omega, (((Below.refl _ _).alloc (Nat.le_refl _) X).alloc (by simp) Y).trans (hb.mono (by omega))⟩
theorem box1 {w w1 : World} {X : Obj} (hb : Below (w.alloc X).heap.size (w.alloc X) w1) : w1.heap[w.heap.size]? = some X ∧ w.heap.size + 1 ≤ w1.heap.size ∧ Below w.heap.size w w1 := by
  have h1 : (w.alloc X).heap[w.heap.size]? = some X := heap_alloc_new w X
  have s : (w.alloc X).heap.size = w.heap.size + 1 := by simp
  rw [s] at hb
  exact ⟨(hb.block _ (by omega)).trans h1, by have := hb.size; omega, ((Below.refl _ _).alloc (Nat.le_refl _) X).trans (hb.mono (by omega))⟩
def sgn (a b : Int) : Int := if a < b then -1 else if b < a then 1 else 0
def cmpR (x1 x2 y1 y2 : Int) : Int := if okB x1 x2 && okB y1 y2 then sgn (x1 * y2) (y1 * x2) else 0
set_option maxRecDepth 100000 in
set_option maxHeartbeats 400000 in
theorem cmp_badx (x1 x2 y1 y2 : Int) (w : World) (hx : Hid (okB x1 x2 = false)) : Calls Tryd.prog 15 #[.agg #[.int .i64 x1, .int .i64 x2], .agg #[.int .i64 y1, .int .i64 y2]] w fun e w' => e = .returned (.int .i64 0) ∧ Below w.heap.size w w' := by
  have HV := hide (fun w => valid_any x1 x2 w)
  rw [hx.out] at HV
  go_enter Tryd.func15, Tryd.ntmps15
  go_wp2_with fail
  refine (HV.out _).mono ?_
  rintro e w1 ⟨rfl, hb⟩
  obtain ⟨X, Y, hsz, hbl⟩ := box2 hb
  have HB := hide hbl
  clear hb hbl X Y
  go_wp2_with fail
  go_ret
  exact ⟨rfl, HB.out⟩
set_option maxRecDepth 100000 in
set_option maxHeartbeats 400000 in
theorem cmp_bady (x1 x2 y1 y2 : Int) (w : World) (hx : Hid (okB x1 x2 = true)) (hy : Hid (okB y1 y2 = false)) : Calls Tryd.prog 15 #[.agg #[.int .i64 x1, .int .i64 x2], .agg #[.int .i64 y1, .int .i64 y2]] w fun e w' => e = .returned (.int .i64 0) ∧ Below w.heap.size w w' := by
  have HV := hide (fun w => valid_any x1 x2 w)
  have HU := hide (fun w => valid_any y1 y2 w)
  rw [hx.out] at HV
  rw [hy.out] at HU
  go_enter Tryd.func15, Tryd.ntmps15
  go_wp2_with fail
  refine (HV.out _).mono ?_
  rintro e w1 ⟨rfl, hb⟩
  obtain ⟨X, Y, hsz, hbl⟩ := box2 hb
  obtain ⟨yc0, yc1, -, -, ylt⟩ := two_of Y
  have HB := hide hbl
  clear hb hbl X Y
  go_wp2_with fail
  refine (HU.out _).mono ?_
  rintro e w2 ⟨rfl, hb⟩
  have HB2 := hide (HB.out.trans (hb.mono HB.out.size))
  clear hb
  go_wp2_with fail
  go_ret
  exact ⟨rfl, HB2.out⟩
set_option maxRecDepth 100000 in
set_option maxHeartbeats 400000 in
theorem cmp_ok (x1 x2 y1 y2 : Int) (w : World) (hx : Hid (okB x1 x2 = true)) (hy : Hid (okB y1 y2 = true)) : Calls Tryd.prog 15 #[.agg #[.int .i64 x1, .int .i64 x2], .agg #[.int .i64 y1, .int .i64 y2]] w fun e w' => e = .returned (.int .i64 (sgn (x1 * y2) (y1 * x2))) ∧ Below w.heap.size w w' := by
  have HV := hide (fun w => valid_any x1 x2 w)
  have HU := hide (fun w => valid_any y1 y2 w)
  rw [hx.out] at HV
  rw [hy.out] at HU
  obtain ⟨a1, a2, a3, a4, -⟩ := okB_bd hx.out
  obtain ⟨b1, b2, b3, b4, -⟩ := okB_bd hy.out
  obtain ⟨p0, p1⟩ := prod_bd a3 a4 (show -1073741824 ≤ y2 by omega) b2
  obtain ⟨q0, q1⟩ := prod_bd b3 b4 (show -1073741824 ≤ x2 by omega) a2
  have HS : Hid (sgn (x1 * y2) (y1 * x2) = if x1 * y2 < y1 * x2 then -1 else if y1 * x2 < x1 * y2 then 1 else 0) := rfl
  go_enter Tryd.func15, Tryd.ntmps15
  go_wp2_with fail
  refine (HV.out _).mono ?_
  rintro e w1 ⟨rfl, hb⟩
  obtain ⟨X, Y, hsz, hbl⟩ := box2 hb
  obtain ⟨yc0, yc1, -, -, ylt⟩ := two_of Y
  have HX := hide X
  have HY := hide Y
  have HB := hide hbl
  clear hb hbl X Y
  go_wp2_with fail
  refine (HU.out _).mono ?_
  rintro e w2 ⟨rfl, hb⟩
  obtain ⟨xc0, xc1, -, -, -⟩ := two_of ((hb.block _ (blk_in HX.out)).trans HX.out)
  obtain ⟨zc0, zc1, -, -, -⟩ := two_of ((hb.block _ (blk_in HY.out)).trans HY.out)
  have HB2 := hide (HB.out.trans (hb.mono HB.out.size))
  clear hb HX HY yc0 yc1 ylt
  go_wp2_with fail
  go_quiet (fail)
  go_wp2_with fail
  all_goals
    go_ret
    exact ⟨by rw [HS.out]; first | (rw [if_pos (by assumption)]; rfl) | (rw [if_neg (by omega), if_pos (by assumption)]; rfl) | (rw [if_neg (by omega), if_neg (by omega)]; rfl), below_drewN HB2.out _⟩
theorem cmp_any (x1 x2 y1 y2 : Int) (w : World) : Calls Tryd.prog 15 #[.agg #[.int .i64 x1, .int .i64 x2], .agg #[.int .i64 y1, .int .i64 y2]] w fun e w' => e = .returned (.int .i64 (cmpR x1 x2 y1 y2)) ∧ Below w.heap.size w w' := by
  unfold cmpR
  cases hx : okB x1 x2
  · exact cmp_badx x1 x2 y1 y2 w hx
  · cases hy : okB y1 y2
    · exact cmp_bady x1 x2 y1 y2 w hx hy
    · exact cmp_ok x1 x2 y1 y2 w hx hy
def floorR (n d : Int) : Int := if okB n d then n / d else 0
theorem floor_nums (n d : Int) (hd : 1 ≤ d) : n / d = if n.tmod d < 0 then n.tdiv d - 1 else n.tdiv d := by
  have h1 := Int.tdiv_eq_ediv (a := n) (b := d)
  have h2 := Int.tmod_eq_emod (a := n) (b := d)
  have hs : d.sign = 1 := Int.sign_eq_one_of_pos (by omega)
  by_cases hc : 0 ≤ n ∨ d ∣ n
  · rw [if_pos hc] at h1 h2
    have := Int.emod_nonneg n (show d ≠ 0 by omega)
    rw [if_neg (by omega)]; omega
  · rw [if_neg hc] at h1 h2
    have := Int.emod_lt_of_pos n (show 0 < d by omega)
    rw [if_pos (by omega)]; omega
set_option maxRecDepth 100000 in
set_option maxHeartbeats 400000 in
theorem floor_bad (n d : Int) (w : World) (hx : Hid (okB n d = false)) : Calls Tryd.prog 13 #[.agg #[.int .i64 n, .int .i64 d]] w fun e w' => e = .returned (.int .i64 0) ∧ Below w.heap.size w w' := by
  have HV := hide (fun w => valid_any n d w)
  rw [hx.out] at HV
  go_enter Tryd.func13, Tryd.ntmps13
  go_wp2_with fail
  refine (HV.out _).mono ?_
  rintro e w1 ⟨rfl, hb⟩
  have HB := hide (box1 hb).2.2
  clear hb
  go_wp2_with fail
  go_ret
  exact ⟨rfl, HB.out⟩
set_option maxRecDepth 100000 in
set_option maxHeartbeats 400000 in
theorem floor_ok (n d : Int) (w : World) (hx : Hid (okB n d = true)) : Calls Tryd.prog 13 #[.agg #[.int .i64 n, .int .i64 d]] w fun e w' => e = .returned (.int .i64 (n / d)) ∧ Below w.heap.size w w' := by
  have HV := hide (fun w => valid_any n d w)
  rw [hx.out] at HV
  obtain ⟨a1, a2, a3, a4, -⟩ := okB_bd hx.out
  have HF := hide (floor_nums n d a1)
  have hq : -1073741824 ≤ n.tdiv d ∧ n.tdiv d ≤ 1073741824 := by
    have h3 : (n.tdiv d).natAbs ≤ n.natAbs := by rw [Int.natAbs_tdiv]; exact Nat.div_le_self _ _
    omega
  obtain ⟨q0, q1⟩ := hq
  have hd0 : (d == 0) = false := by simp; omega
  generalize n / d = fl at *
  go_enter Tryd.func13, Tryd.ntmps13
  go_wp2_with fail
  refine (HV.out _).mono ?_
  rintro e w1 ⟨rfl, hb⟩
  obtain ⟨X, hsz, hbl⟩ := box1 hb
  obtain ⟨c0, c1, -, -, hlt⟩ := two_of X
  have HB := hide hbl
  clear hb hbl X
  go_wp2_with fail
  all_goals
    go_ret
    exact ⟨by rw [HF.out]; first | (rw [if_pos (by assumption)]; rfl) | (rw [if_neg (by omega)]; rfl), HB.out⟩
theorem floor_any (n d : Int) (w : World) : Calls Tryd.prog 13 #[.agg #[.int .i64 n, .int .i64 d]] w fun e w' => e = .returned (.int .i64 (floorR n d)) ∧ Below w.heap.size w w' := by
  unfold floorR
  cases hx : okB n d
  · exact floor_bad n d w hx
  · exact floor_ok n d w hx
def ceilR (n d : Int) : Int := if okB n d then -((-n) / d) else 0
theorem okB_neg (n d : Int) : okB (-n) d = okB n d := by
  unfold okB
  rw [Int.natAbs_neg]
  have e1 : decide (-1073741824 ≤ -n) = decide (n ≤ 1073741824) := by rw [decide_eq_decide]; omega
  have e2 : decide (-n ≤ 1073741824) = decide (-1073741824 ≤ n) := by rw [decide_eq_decide]; omega
  rw [e1, e2]
  cases decide (1 ≤ d) <;> cases decide (d ≤ 1073741824) <;> cases decide (n ≤ 1073741824) <;> cases decide (-1073741824 ≤ n) <;> rfl
theorem div_bd (n d : Int) (hd : 1 ≤ d) (n0 : -1073741824 ≤ n) (n1 : n ≤ 1073741824) : -1073741824 ≤ n / d ∧ n / d ≤ 1073741824 := by
  constructor
  · rw [Int.le_ediv_iff_mul_le (by omega)]
    omega
  · have := Int.ediv_le_ediv (c := d) (by omega) n1
    have h2 : (1073741824 : Int) / d ≤ 1073741824 := Int.ediv_le_self _ (by decide)
    omega
set_option maxRecDepth 100000 in
set_option maxHeartbeats 400000 in
theorem ceil_bad (n d : Int) (w : World) (hx : Hid (okB n d = false)) : Calls Tryd.prog 14 #[.agg #[.int .i64 n, .int .i64 d]] w fun e w' => e = .returned (.int .i64 0) ∧ Below w.heap.size w w' := by
  have HV := hide (fun w => valid_any n d w)
  rw [hx.out] at HV
  go_enter Tryd.func14, Tryd.ntmps14
  go_wp2_with fail
  refine (HV.out _).mono ?_
  rintro e w1 ⟨rfl, hb⟩
  have HB := hide (box1 hb).2.2
  clear hb
  go_wp2_with fail
  go_ret
  exact ⟨rfl, HB.out⟩
set_option maxRecDepth 100000 in
set_option maxHeartbeats 400000 in
theorem ceil_ok (n d : Int) (w : World) (hx : Hid (okB n d = true)) : Calls Tryd.prog 14 #[.agg #[.int .i64 n, .int .i64 d]] w fun e w' => e = .returned (.int .i64 (-((-n) / d))) ∧ Below w.heap.size w w' := by
  have HV := hide (fun w => valid_any n d w)
  rw [hx.out] at HV
  obtain ⟨a1, a2, a3, a4, -⟩ := okB_bd hx.out
  have HF := hide (fun w => floor_ok (-n) d w (by rw [okB_neg]; exact hx.out))
  obtain ⟨q0, q1⟩ := div_bd (-n) d a1 (by omega) (by omega)
  obtain ⟨fl, hfl⟩ : ∃ fl, (-n) / d = fl := ⟨_, rfl⟩
  rw [hfl] at HF q0 q1
  have HL := hide hfl
  clear hfl
  go_enter Tryd.func14, Tryd.ntmps14
  go_wp2_with fail
  refine (HV.out _).mono ?_
  rintro e w1 ⟨rfl, hb⟩
  obtain ⟨X, hsz, hbl⟩ := box1 hb
  obtain ⟨c0, c1, -, -, hlt⟩ := two_of X
  have HB := hide hbl
  clear hb hbl X
  go_wp2_with fail
  refine (HF.out _).mono ?_
  rintro e w2 ⟨rfl, hb⟩
  have HB2 := hide (HB.out.trans (hb.mono HB.out.size))
  clear hb
  go_wp2_with fail
  go_ret
  exact ⟨by rw [HL.out]; rfl, HB2.out⟩
theorem ceil_any (n d : Int) (w : World) : Calls Tryd.prog 14 #[.agg #[.int .i64 n, .int .i64 d]] w fun e w' => e = .returned (.int .i64 (ceilR n d)) ∧ Below w.heap.size w w' := by
  unfold ceilR
  cases hx : okB n d
  · exact ceil_bad n d w hx
  · exact ceil_ok n d w hx
end Go.Proofs.YtdjenpccgaojgaaDoor
