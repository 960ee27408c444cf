/-
  RatTells: the walk.
-/
import Derived.Test.YtdjenpccgaojgaaDoorRef2
import Derived.Test.YtdjenpccgaojgaaDoorLater
import Derived.Laws.StructEq
namespace Go.Proofs.YtdjenpccgaojgaaDoor
open Go.RowKit
attribute [local go_sem] Later.cell
set_option maxRecDepth 100000 in
set_option maxHeartbeats 4000000 in
theorem tells_main (n d x1 x2 y1 y2 : Int) (w : World) (n0 : -9223372036854775808 ≤ n) (n1 : n ≤ 9223372036854775807) (d0 : -9223372036854775808 ≤ d) (d1 : d ≤ 9223372036854775807) (hE : Hid (Env w)) :
    Calls Tryd.prog 7 #[.int .i64 n, .int .i64 d, .agg #[.int .i64 x1, .int .i64 x2], .agg #[.int .i64 y1, .int .i64 y2]] w fun e w' => e = .returned (.bool true) ∧ Below w.heap.size w w' := by
  obtain ⟨m, hm⟩ : ∃ m, mkR n d = m := ⟨_, rfl⟩
  obtain ⟨a1, a2, ae⟩ := m
  have HM := hide (fun w => make_any n d w n0 n1 d0 d1)
  have HR := hide (fun w => rmake_any n d w n0 n1 d0 d1)
  rw [hm] at HM HR
  unfold MR.val at HM HR
  simp only at HM HR
  clear hm n0 n1 d0 d1
  have HV1 := hide (fun w => valid_any x1 x2 w)
  have HV2 := hide (fun w => rvalid_any x1 x2 w)
  have HC1 := hide (fun w => cmp_any x1 x2 y1 y2 w)
  have HC2 := hide (fun w => rcmp_any x1 x2 y1 y2 w)
  have HF1 := hide (fun w => floor_any x1 x2 w)
  have HF2 := hide (fun w => rfloor_any x1 x2 w)
  have HE1 := hide (fun w => ceil_any x1 x2 w)
  have HE2 := hide (fun w => rceil_any x1 x2 w)
  generalize okB x1 x2 = vb at HV1 HV2
  generalize cmpR x1 x2 y1 y2 = vc at HC1 HC2
  generalize floorR x1 x2 = vf at HF1 HF2
  generalize ceilR x1 x2 = ve at HE1 HE2
  go_enter Tryd.func7, Tryd.ntmps7
  go_wp2_with fail
  refine (HM.out _).mono ?_
  rintro e w1 ⟨rfl, hb⟩
  obtain ⟨hX, hY, -, hb⟩ := box2 hb
  have B1 := hide hb
  have X1 := hide hX
  have Y1 := hide hY
  clear hb hX hY
  go_wp2_with fail
  refine (HR.out _).mono ?_
  rintro e w2 ⟨rfl, hb⟩
  obtain ⟨hA, -, hb⟩ := box1 hb
  have hb3 : Below w2.heap.size w2 (w2.alloc (.cells #[.int .i64 a1, .int .i64 a2] 23)) := (Below.refl _ _).alloc (Nat.le_refl _) _
  have B3 := hide ((B1.out.trans (hb.mono B1.out.size)).trans (hb3.mono (Nat.le_trans B1.out.size hb.size)))
  have X3 := hide (keep (keep X1.out hb) hb3)
  have Y3 := hide (keep (keep Y1.out hb) hb3)
  obtain ⟨x0, x1', -, -, xl⟩ := two_of X3.out
  obtain ⟨y0, y1', -, -, yl⟩ := two_of Y3.out
  obtain ⟨a0, a1', -, -, al⟩ := two_of (keep hA hb3)
  obtain ⟨b0, b1', -, -, bl⟩ := two_of (heap_alloc_new w2 (.cells #[.int .i64 a1, .int .i64 a2] 23))
  clear hb hb3 hA B1 X1 Y1 HM HR
  go_wp2_with fail
  generalize w2.alloc (.cells #[.int .i64 a1, .int .i64 a2] 23) = w3 at *
  try simp only [List.append_eq, List.cons_append, List.nil_append]
  refine wp_region_later (by kernel_rfl) (by kernel_rfl) ?_
  repeat (go_big_quiet_step (first
    | (go_at_call 9; with_reducible exact Later.call (HV1.out _))
    | (go_at_call 21; with_reducible exact Later.call (HV2.out _))
    | (go_at_call 15; with_reducible exact Later.call (HC1.out _))
    | (go_at_call 22; with_reducible exact Later.call (HC2.out _))
    | (go_at_call 13; with_reducible exact Later.call (HF1.out _))
    | (go_at_call 23; with_reducible exact Later.call (HF2.out _))
    | (go_at_call 14; with_reducible exact Later.call (HE1.out _))
    | (go_at_call 24; with_reducible exact Later.call (HE2.out _))))
  refine wpQuiet_nil ?_
  intro _ hw'
  obtain ⟨nq, hw''⟩ := hw'
  subst hw''
  obtain ⟨w4, hb⟩ := nq
  dsimp only
  have B4 := hide (B3.out.trans (hb.mono B3.out.size))
  have X4 := hide (keep X3.out hb)
  have Y4 := hide (keep Y3.out hb)
  clear hb B3 X3 Y3 HV1 HV2 HC1 HC2 HF1 HF2 HE1 HE2 a0 a1' al b0 b1' bl x0 x1' xl y0 y1' yl
  go_wp2_with fail
  have hb5 : Below w4.heap.size w4 (w4.alloc (.cells #[.func (.func 10) #[] #[], .func (.func 17) #[] #[], .func (.func 18) #[] #[], .func (.func 19) #[] #[]] 28)) := (Below.refl _ _).alloc (Nat.le_refl _) _
  have FR := hide (heap_alloc_new w4 (.cells #[.func (.func 10) #[] #[], .func (.func 17) #[] #[], .func (.func 18) #[] #[], .func (.func 19) #[] #[]] 28))
  have B6 := hide (B4.out.trans (hb5.mono B4.out.size))
  have X6 := hide (keep X4.out hb5)
  have Y6 := hide (keep Y4.out hb5)
  clear hb5 B4 X4 Y4
  generalize w4.alloc (.cells #[.func (.func 10) #[] #[], .func (.func 17) #[] #[], .func (.func 18) #[] #[], .func (.func 19) #[] #[]] 28) = w6 at *
  go_loopw [71] (fun v71 wr => ∃ j : Nat, j ≤ 4 ∧ v71 = .int .i64 j ∧ Below w6.heap.size w6 wr) (fun v71 _ => 4 - (intOf v71).toNat)
  case atStart => exact ⟨0, by decide, rfl, Below.refl _ _⟩
  case round =>
    obtain ⟨j, hj, rfl, hbr⟩ := hrel
    have hR := keep FR.out hbr
    have r0 := cell_of_row wr w4.heap.size 0 _ _ _ hR
    have r1 := cell_of_row wr w4.heap.size 1 _ _ _ hR
    have r2 := cell_of_row wr w4.heap.size 2 _ _ _ hR
    have r3 := cell_of_row wr w4.heap.size 3 _ _ _ hR
    simp only [List.getElem?_toArray, List.getElem?_cons_succ, List.getElem?_cons_zero] at r0 r1 r2 r3
    have HBR := hide hbr
    have XR := hide (keep X6.out hbr)
    have YR := hide (keep Y6.out hbr)
    obtain ⟨x0, x1', -, -, xl⟩ := two_of XR.out
    obtain ⟨y0, y1', -, -, yl⟩ := two_of YR.out
    clear hR hbr
    have h4 : j = 0 ∨ j = 1 ∨ j = 2 ∨ j = 3 ∨ j = 4 := by omega
    rcases h4 with rfl | rfl | rfl | rfl | rfl
    · rw [show ((0 : Nat) : Int) = 0 from rfl]
      obtain ⟨r, hr⟩ : ∃ r, opR 0 x1 x2 y1 y2 = r := ⟨_, rfl⟩
      obtain ⟨rn, rd, re⟩ := r
      have HA := hide (fun w => op_0 x1 x2 y1 y2 w)
      have HD := hide (fun w => rdoo_0 x1 x2 y1 y2 w)
      rw [hr] at HA HD
      unfold MR.val at HA HD
      simp only at HA HD
      clear hr
      go_wp2_with fail
      refine (HA.out _).mono ?_
      rintro e w7 ⟨rfl, hb⟩
      have B7 := hide (HBR.out.trans (hb.mono HBR.out.size))
      have X7 := hide (keep XR.out hb)
      have Y7 := hide (keep YR.out hb)
      clear hb x0 x1' xl y0 y1' yl
      obtain ⟨x0, x1', -, -, xl⟩ := two_of X7.out
      obtain ⟨y0, y1', -, -, yl⟩ := two_of Y7.out
      go_wp2_with fail
      refine (HD.out _).mono ?_
      rintro e w8 ⟨rfl, hb⟩
      obtain ⟨hC, -, hb⟩ := box1 hb
      have B8 := hide (B7.out.trans (hb.mono B7.out.size))
      obtain ⟨c0, c1, -, -, cl⟩ := two_of hC
      clear hb hC x0 x1' xl y0 y1' yl
      go_wp2_with fail
      go_roundw
      case rel => exact ⟨1, by decide, rfl, B8.out.alloc B8.out.size _⟩
      case measure => simp [intOf]
    · rw [show ((1 : Nat) : Int) = 1 from rfl]
      obtain ⟨r, hr⟩ : ∃ r, opR 1 x1 x2 y1 y2 = r := ⟨_, rfl⟩
      obtain ⟨rn, rd, re⟩ := r
      have HA := hide (fun w => op_1 x1 x2 y1 y2 w)
      have HD := hide (fun w => rdoo_1 x1 x2 y1 y2 w)
      rw [hr] at HA HD
      unfold MR.val at HA HD
      simp only at HA HD
      clear hr
      go_wp2_with fail
      refine (HA.out _).mono ?_
      rintro e w7 ⟨rfl, hb⟩
      have B7 := hide (HBR.out.trans (hb.mono HBR.out.size))
      have X7 := hide (keep XR.out hb)
      have Y7 := hide (keep YR.out hb)
      clear hb x0 x1' xl y0 y1' yl
      obtain ⟨x0, x1', -, -, xl⟩ := two_of X7.out
      obtain ⟨y0, y1', -, -, yl⟩ := two_of Y7.out
      go_wp2_with fail
      refine (HD.out _).mono ?_
      rintro e w8 ⟨rfl, hb⟩
      obtain ⟨hC, -, hb⟩ := box1 hb
      have B8 := hide (B7.out.trans (hb.mono B7.out.size))
      obtain ⟨c0, c1, -, -, cl⟩ := two_of hC
      clear hb hC x0 x1' xl y0 y1' yl
      go_wp2_with fail
      go_roundw
      case rel => exact ⟨2, by decide, rfl, B8.out.alloc B8.out.size _⟩
      case measure => simp [intOf]
    · rw [show ((2 : Nat) : Int) = 2 from rfl]
      obtain ⟨r, hr⟩ : ∃ r, opR 2 x1 x2 y1 y2 = r := ⟨_, rfl⟩
      obtain ⟨rn, rd, re⟩ := r
      have HA := hide (fun w => op_2 x1 x2 y1 y2 w)
      have HD := hide (fun w => rdoo_2 x1 x2 y1 y2 w)
      rw [hr] at HA HD
      unfold MR.val at HA HD
      simp only at HA HD
      clear hr
      go_wp2_with fail
      refine (HA.out _).mono ?_
      rintro e w7 ⟨rfl, hb⟩
      have B7 := hide (HBR.out.trans (hb.mono HBR.out.size))
      have X7 := hide (keep XR.out hb)
      have Y7 := hide (keep YR.out hb)
      clear hb x0 x1' xl y0 y1' yl
      obtain ⟨x0, x1', -, -, xl⟩ := two_of X7.out
      obtain ⟨y0, y1', -, -, yl⟩ := two_of Y7.out
      go_wp2_with fail
      refine (HD.out _).mono ?_
      rintro e w8 ⟨rfl, hb⟩
      obtain ⟨hC, -, hb⟩ := box1 hb
      have B8 := hide (B7.out.trans (hb.mono B7.out.size))
      obtain ⟨c0, c1, -, -, cl⟩ := two_of hC
      clear hb hC x0 x1' xl y0 y1' yl
      go_wp2_with fail
      go_roundw
      case rel => exact ⟨3, by decide, rfl, B8.out.alloc B8.out.size _⟩
      case measure => simp [intOf]
    · rw [show ((3 : Nat) : Int) = 3 from rfl]
      obtain ⟨r, hr⟩ : ∃ r, opR 3 x1 x2 y1 y2 = r := ⟨_, rfl⟩
      obtain ⟨rn, rd, re⟩ := r
      have HA := hide (fun w => op_3 x1 x2 y1 y2 w)
      have HD := hide (fun w => rdoo_3 x1 x2 y1 y2 w)
      rw [hr] at HA HD
      unfold MR.val at HA HD
      simp only at HA HD
      clear hr
      go_wp2_with fail
      refine (HA.out _).mono ?_
      rintro e w7 ⟨rfl, hb⟩
      have B7 := hide (HBR.out.trans (hb.mono HBR.out.size))
      have X7 := hide (keep XR.out hb)
      have Y7 := hide (keep YR.out hb)
      clear hb x0 x1' xl y0 y1' yl
      obtain ⟨x0, x1', -, -, xl⟩ := two_of X7.out
      obtain ⟨y0, y1', -, -, yl⟩ := two_of Y7.out
      go_wp2_with fail
      refine (HD.out _).mono ?_
      rintro e w8 ⟨rfl, hb⟩
      obtain ⟨hC, -, hb⟩ := box1 hb
      have B8 := hide (B7.out.trans (hb.mono B7.out.size))
      obtain ⟨c0, c1, -, -, cl⟩ := two_of hC
      clear hb hC x0 x1' xl y0 y1' yl
      go_wp2_with fail
      go_roundw
      case rel => exact ⟨4, by decide, rfl, B8.out.alloc B8.out.size _⟩
      case measure => simp [intOf]
    · rw [show ((4 : Nat) : Int) = 4 from rfl]
      have B7 := hide (B6.out.trans (HBR.out.mono B6.out.size))
      clear r0 r1 r2 r3 x0 x1' xl y0 y1' yl
      go_wp2_with fail
      refine (awake_any _ (hide (hE.out.kept B7.out))).mono ?_
      rintro e w8 ⟨rfl, hb⟩
      have B8 := hide (B7.out.trans (hb.mono B7.out.size))
      clear hb
      go_wp2_with fail
      go_ret
      exact ⟨rfl, B8.out⟩
end Go.Proofs.YtdjenpccgaojgaaDoor
