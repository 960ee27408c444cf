/-
  RatField: the walk.
-/
import Derived.Test.YtdjenpccgaojgaaDoorFld1
import Derived.Test.YtdjenpccgaojgaaDoorFld2
import Derived.Test.YtdjenpccgaojgaaDoorLater
namespace Go.Proofs.YtdjenpccgaojgaaDoor
open Go.RowKit
attribute [local go_sem] Later.cell
theorem box5 {w w1 : World} {X Y Z U V : Obj} (hb : Below (((((w.alloc X).alloc Y).alloc Z).alloc U).alloc V).heap.size (((((w.alloc X).alloc Y).alloc Z).alloc U).alloc V) w1) :
    w1.heap[w.heap.size]? = some X ∧ w1.heap[w.heap.size + 1]? = some Y ∧ w1.heap[w.heap.size + 1 + 1]? = some Z ∧ w1.heap[w.heap.size + 1 + 1 + 1]? = some U ∧ w1.heap[w.heap.size + 1 + 1 + 1 + 1]? = some V ∧ w.heap.size + 5 ≤ w1.heap.size ∧ Below w.heap.size w w1 := by
  obtain ⟨hU, hV, hs, hb2⟩ := box2 hb
  obtain ⟨hX, hY, hZ, -, hb3⟩ := box3 hb2
  simp at hU hV hs
  exact ⟨hX, hY, hZ, hU, hV, by omega, hb3⟩
set_option maxRecDepth 100000 in
set_option maxHeartbeats 4000000 in
theorem fld_all (n m k d e f a1 a2 b1 b2 c1 c2 v1 v2 p1 p2 s1 s2 u1 u2 q1 q2 r1 r2 t1 t2 g1 g2 : Int) (w : World) (hE : Hid (Env w))
    (hF : Hid (Fld a1 a2 b1 b2 c1 c2 v1 v2 p1 p2 s1 s2 u1 u2 q1 q2 r1 r2 t1 t2 g1 g2))
    (HS1 : Hid (∀ w : World, Calls Tryd.prog 16 #[.int .i16 n, .int .u8 d] w fun e w' => e = .returned (.agg #[.int .i64 a1, .int .i64 a2]) ∧ Below w.heap.size w w'))
    (HS2 : Hid (∀ w : World, Calls Tryd.prog 16 #[.int .i16 m, .int .u8 e] w fun e w' => e = .returned (.agg #[.int .i64 b1, .int .i64 b2]) ∧ Below w.heap.size w w'))
    (HS3 : Hid (∀ w : World, Calls Tryd.prog 16 #[.int .i16 k, .int .u8 f] w fun e w' => e = .returned (.agg #[.int .i64 c1, .int .i64 c2]) ∧ Below w.heap.size w w'))
     :
    Calls Tryd.prog 8 #[.int .i16 n, .int .i16 m, .int .i16 k, .int .u8 d, .int .u8 e, .int .u8 f] w fun e w' => e = .returned (.bool true) ∧ Below w.heap.size w w' := by
  go_enter Tryd.func8, Tryd.ntmps8
  go_wp2_with fail
  refine (HS1.out _).mono ?_
  rintro e w1 ⟨rfl, hb⟩
  have B1 := hide hb
  clear hb
  go_wp2_with fail
  refine (HS2.out _).mono ?_
  rintro e w2 ⟨rfl, hb⟩
  have B2 := hide (B1.out.trans (hb.mono B1.out.size))
  clear hb B1
  go_wp2_with fail
  refine (HS3.out _).mono ?_
  rintro e w3 ⟨rfl, hb⟩
  have B3 := hide (B2.out.trans (hb.mono B2.out.size))
  clear hb B2 HS1 HS2 HS3
  go_wp2_with fail
  obtain ⟨hX, hY, hZ, hU, hV, -, hb⟩ := box5 (w := w3) (X := .cells #[.int .i64 a1, .int .i64 a2] 23) (Y := .cells #[.int .i64 b1, .int .i64 b2] 23) (Z := .cells #[.int .i64 c1, .int .i64 c2] 23) (U := .cells #[.int .i64 0] 26) (V := .cells #[.func (.func 26) #[] #[.pointer (some ⟨w3.heap.size + 1 + 1 + 1, 0, none⟩)]] 43) (Below.refl _ _)
  have B4 := hide (B3.out.trans (hb.mono B3.out.size))
  have U4 := hide hU
  have V4 := hide hV
  have X4 := hide hX
  have Y4 := hide hY
  obtain ⟨x0, x1, -, -, xl⟩ := two_of hX
  obtain ⟨y0, y1, -, -, yl⟩ := two_of hY
  obtain ⟨z0, z1, -, -, zl⟩ := two_of hZ
  have u0 := cell_of_row _ _ 0 _ _ _ hU
  have v0 := cell_of_row _ _ 0 _ _ _ hV
  have ul := blk_in hU
  have vl := blk_in hV
  simp only [List.getElem?_toArray, List.getElem?_cons_zero] at u0 v0
  clear hb hX hY hZ hU hV B3
  generalize ((((w3.alloc (.cells #[.int .i64 a1, .int .i64 a2] 23)).alloc (.cells #[.int .i64 b1, .int .i64 b2] 23)).alloc (.cells #[.int .i64 c1, .int .i64 c2] 23)).alloc (.cells #[.int .i64 0] 26)).alloc (.cells #[.func (.func 26) #[] #[.pointer (some ⟨w3.heap.size + 1 + 1 + 1, 0, none⟩)]] 43) = w4 at *
  have HV := hide (fun s : Later w4 => clo_add a1 a2 b1 b2 v1 v2 (w3.heap.size + 1 + 1 + 1 + 1) (w3.heap.size + 1 + 1 + 1) s.w (hide hF.out.v) (hide (keep U4.out s.below)) (hide (keep V4.out s.below)))
  have HV2 := hide (fun s : Later w4 => clo_add b1 b2 a1 a2 v1 v2 (w3.heap.size + 1 + 1 + 1 + 1) (w3.heap.size + 1 + 1 + 1) s.w (hide hF.out.v') (hide (keep U4.out s.below)) (hide (keep V4.out s.below)))
  have HP := hide (fun s : Later w4 => clo_mul a1 a2 b1 b2 p1 p2 (w3.heap.size + 1 + 1 + 1 + 1) (w3.heap.size + 1 + 1 + 1) s.w (hide hF.out.p) (hide (keep U4.out s.below)) (hide (keep V4.out s.below)))
  have HP2 := hide (fun s : Later w4 => clo_mul b1 b2 a1 a2 p1 p2 (w3.heap.size + 1 + 1 + 1 + 1) (w3.heap.size + 1 + 1 + 1) s.w (hide hF.out.p') (hide (keep U4.out s.below)) (hide (keep V4.out s.below)))
  have HS := hide (fun s : Later w4 => clo_add v1 v2 c1 c2 s1 s2 (w3.heap.size + 1 + 1 + 1 + 1) (w3.heap.size + 1 + 1 + 1) s.w (hide hF.out.s) (hide (keep U4.out s.below)) (hide (keep V4.out s.below)))
  have HU := hide (fun s : Later w4 => clo_add b1 b2 c1 c2 u1 u2 (w3.heap.size + 1 + 1 + 1 + 1) (w3.heap.size + 1 + 1 + 1) s.w (hide hF.out.u) (hide (keep U4.out s.below)) (hide (keep V4.out s.below)))
  have HS2 := hide (fun s : Later w4 => clo_add a1 a2 u1 u2 s1 s2 (w3.heap.size + 1 + 1 + 1 + 1) (w3.heap.size + 1 + 1 + 1) s.w (hide hF.out.s') (hide (keep U4.out s.below)) (hide (keep V4.out s.below)))
  have HQ := hide (fun s : Later w4 => clo_mul p1 p2 c1 c2 q1 q2 (w3.heap.size + 1 + 1 + 1 + 1) (w3.heap.size + 1 + 1 + 1) s.w (hide hF.out.q) (hide (keep U4.out s.below)) (hide (keep V4.out s.below)))
  have HR := hide (fun s : Later w4 => clo_mul b1 b2 c1 c2 r1 r2 (w3.heap.size + 1 + 1 + 1 + 1) (w3.heap.size + 1 + 1 + 1) s.w (hide hF.out.r) (hide (keep U4.out s.below)) (hide (keep V4.out s.below)))
  have HQ2 := hide (fun s : Later w4 => clo_mul a1 a2 r1 r2 q1 q2 (w3.heap.size + 1 + 1 + 1 + 1) (w3.heap.size + 1 + 1 + 1) s.w (hide hF.out.q') (hide (keep U4.out s.below)) (hide (keep V4.out s.below)))
  have HT := hide (fun s : Later w4 => clo_mul a1 a2 u1 u2 t1 t2 (w3.heap.size + 1 + 1 + 1 + 1) (w3.heap.size + 1 + 1 + 1) s.w (hide hF.out.t) (hide (keep U4.out s.below)) (hide (keep V4.out s.below)))
  have HG := hide (fun s : Later w4 => clo_mul a1 a2 c1 c2 g1 g2 (w3.heap.size + 1 + 1 + 1 + 1) (w3.heap.size + 1 + 1 + 1) s.w (hide hF.out.g) (hide (keep U4.out s.below)) (hide (keep V4.out s.below)))
  have HT2 := hide (fun s : Later w4 => clo_add p1 p2 g1 g2 t1 t2 (w3.heap.size + 1 + 1 + 1 + 1) (w3.heap.size + 1 + 1 + 1) s.w (hide hF.out.t') (hide (keep U4.out s.below)) (hide (keep V4.out s.below)))
  have HB := hide (fun s : Later w4 => op_1 v1 v2 b1 b2 s.w)
  rw [hF.out.b] at HB
  unfold MR.val at HB
  simp only at HB
  have HO := hide (fun s : Later w4 => clo_op a1 a2 (w3.heap.size + 1 + 1 + 1) s.w (hide (keep U4.out s.below)))
  try simp only [List.append_eq, List.cons_append, List.nil_append]
  refine wp_region_later (by kernel_rfl) (by kernel_rfl) ?_
  repeat (go_big_quiet_step (first
    | (go_at_call 27; first | with_reducible exact Later.call (HV.out _) | with_reducible exact Later.call (HV2.out _) | with_reducible exact Later.call (HS.out _) | with_reducible exact Later.call (HU.out _) | with_reducible exact Later.call (HS2.out _) | with_reducible exact Later.call (HT2.out _))
    | (go_at_call 28; first | with_reducible exact Later.call (HP.out _) | with_reducible exact Later.call (HP2.out _) | with_reducible exact Later.call (HQ.out _) | with_reducible exact Later.call (HR.out _) | with_reducible exact Later.call (HQ2.out _) | with_reducible exact Later.call (HT.out _) | with_reducible exact Later.call (HG.out _))
    | (go_at_call 26; with_reducible exact Later.call (HO.out _))
    | (go_at_call 17; with_reducible exact Later.call (HB.out _))
    | (go_at_call 19; with_reducible exact Later.call (HD.out _))))
  refine wpQuiet_nil ?_
  intro _ hw'
  obtain ⟨nq, hw''⟩ := hw'
  subst hw''
  obtain ⟨W5, hb⟩ := nq
  dsimp only
  have B5 := hide (B4.out.trans (hb.mono B4.out.size))
  have U5 := hide (keep U4.out hb)
  have V5 := hide (keep V4.out hb)
  clear u0 v0 ul vl x0 x1 xl y0 y1 yl z0 z1 zl HV HV2 HP HP2 HS HU HS2 HQ HR HQ2 HT HG HT2 HB HO
  obtain ⟨x0, x1, -, -, xl⟩ := two_of (keep X4.out hb)
  obtain ⟨y0, y1, -, -, yl⟩ := two_of (keep Y4.out hb)
  have u0 := cell_of_row _ _ 0 _ _ _ U5.out
  have v0 := cell_of_row _ _ 0 _ _ _ V5.out
  have ul := blk_in U5.out
  have vl := blk_in V5.out
  simp only [List.getElem?_toArray, List.getElem?_cons_zero] at u0 v0
  clear hb B4 X4 Y4 U4 V4
  by_cases hb1 : b1 = 0
  · have hz : (b1 != 0) = false := by simpa using hb1
    clear hb1
    go_wp2_with fail
    refine (awake_any _ (hide (hE.out.kept B5.out))).mono ?_
    rintro e w6 ⟨rfl, hb⟩
    have B6 := hide (B5.out.trans (hb.mono B5.out.size))
    clear hb
    go_wp2_with fail
    go_ret
    exact ⟨rfl, B6.out⟩
  · have hz : (b1 != 0) = true := by simpa using hb1
    have HP := hide (fun s : Later W5 => clo_mul a1 a2 b1 b2 p1 p2 (w3.heap.size + 1 + 1 + 1 + 1) (w3.heap.size + 1 + 1 + 1) s.w (hide hF.out.p) (hide (keep U5.out s.below)) (hide (keep V5.out s.below)))
    have HD := hide (fun s : Later W5 => op_3 p1 p2 b1 b2 s.w)
    rw [hF.out.d hb1] at HD
    unfold MR.val at HD
    simp only at HD
    have HO := hide (fun s : Later W5 => clo_op a1 a2 (w3.heap.size + 1 + 1 + 1) s.w (hide (keep U5.out s.below)))
    clear hb1
    go_wp2_with fail
    refine wp_region_later (by kernel_rfl) (by kernel_rfl) ?_
    repeat (go_big_quiet_step (first
      | (go_at_call 28; with_reducible exact Later.call (HP.out _))
      | (go_at_call 26; with_reducible exact Later.call (HO.out _))
      | (go_at_call 19; with_reducible exact Later.call (HD.out _))))
    refine wpQuiet_nil ?_
    intro _ hw'
    obtain ⟨nq, hw''⟩ := hw'
    subst hw''
    obtain ⟨W6, hb⟩ := nq
    dsimp only
    have B6 := hide (B5.out.trans (hb.mono B5.out.size))
    have U6 := hide (keep U5.out hb)
    clear u0 ul hb
    have u0 := cell_of_row _ _ 0 _ _ _ U6.out
    have ul := blk_in U6.out
    simp only [List.getElem?_toArray, List.getElem?_cons_zero] at u0
    go_wp2_with fail
    refine (awake_any _ (hide (hE.out.kept B6.out))).mono ?_
    rintro e w7 ⟨rfl, hb⟩
    have B7 := hide (B6.out.trans (hb.mono B6.out.size))
    clear hb
    go_wp2_with fail
    go_ret
    exact ⟨rfl, B7.out⟩
end Go.Proofs.YtdjenpccgaojgaaDoor
