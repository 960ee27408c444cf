/-
  rat: awake.
-/
import Derived.Test.YtdjenpccgaojgaaDoorPar
import Derived.Laws.StructEq
namespace Go.Proofs.YtdjenpccgaojgaaDoor
open Go.RowKit
theorem mr_ext {r : MR} {a b c : Int} (h : r.n = a ∧ r.d = b ∧ r.e = c) : r = ⟨a, b, c⟩ := by cases r; obtain ⟨h1, h2, h3⟩ := h; simp only at h1 h2 h3; subst h1 h2 h3; rfl
theorem aw_mk1 : mkR 1 0 = ⟨0, 0, 2⟩ := mr_ext (by decide +kernel)
theorem aw_mk2 : mkR 2147483648 1 = ⟨0, 0, 3⟩ := mr_ext (by decide +kernel)
theorem aw_add : opR 0 1 2 1 3 = ⟨5, 6, 0⟩ := mr_ext (by decide +kernel)
theorem aw_div : opR 3 1 2 1 3 = ⟨3, 2, 0⟩ := mr_ext (by decide +kernel)
theorem aw_s1 : strL 5 6 = [53, 47, 54] := by decide +kernel
theorem aw_s2 : strL 3 2 = [51, 47, 50] := by decide +kernel
theorem aw_fl : floorR (-3) 2 = -2 := by decide +kernel
theorem aw_ce : ceilR (-3) 2 = -1 := by decide +kernel
theorem aw_cm : cmpR 1 3 2 5 = -1 := by decide +kernel
theorem keep {w w' : World} {k : Nat} {o : Obj} (h : w.heap[k]? = some o) (hb : Below w.heap.size w w') : w'.heap[k]? = some o := (hb.block _ (blk_in h)).trans h
set_option maxRecDepth 100000 in
set_option maxHeartbeats 2000000 in
theorem awake_any (w : World) (hE : Hid (Env w)) : Calls Tryd.prog 11 #[] w fun e w' => e = .returned (.bool true) ∧ Below w.heap.size w w' := by
  have H1 := hide (fun w => make_any 1 0 w (by decide) (by decide) (by decide) (by decide))
  have H2 := hide (fun w => make_any 2147483648 1 w (by decide) (by decide) (by decide) (by decide))
  have H3 := hide (fun w => op_0 1 2 1 3 w)
  have H4 := hide (fun w => op_3 1 2 1 3 w)
  rw [aw_mk1] at H1
  rw [aw_mk2] at H2
  rw [aw_add] at H3
  rw [aw_div] at H4
  unfold MR.val at H1 H2 H3 H4
  simp only at H1 H2 H3 H4
  have P1 := hide (fun (w : World) (h : Env w) => parse_56 w h)
  have P2 := hide (fun (w : World) (h : Env w) => parse_46 w h)
  have P3 := hide (fun (w : World) (h : Env w) => parse_m0 w h)
  have P4 := hide (fun (w : World) (h : Env w) => parse_11 w h)
  unfold MR.val at P1 P2 P3 P4
  simp only at P1 P2 P3 P4
  go_enter Tryd.func11, Tryd.ntmps11
  go_wp2_with fail
  refine (H1.out _).mono ?_
  rintro e w1 ⟨rfl, hb⟩
  have B1 := hide hb
  clear hb
  go_wp2_with fail
  refine (H2.out _).mono ?_
  rintro e w2 ⟨rfl, hb⟩
  have B2 := hide (B1.out.trans ((box1 hb).2.2.mono B1.out.size))
  clear hb
  go_wp2_with fail
  refine (H3.out _).mono ?_
  rintro e w3 ⟨rfl, hb⟩
  obtain ⟨-, hH, hT, -, hbl⟩ := box3 hb
  have B3 := hide (B2.out.trans (hbl.mono B2.out.size))
  obtain ⟨h0, h1, -, -, -⟩ := two_of hH
  obtain ⟨t0, t1, -, -, -⟩ := two_of hT
  have hl1 := blk_in hH
  have hl2 := blk_in hT
  clear hb hbl
  have HH := hide hH
  have HT := hide hT
  clear hH hT
  go_wp2_with fail
  refine (H4.out _).mono ?_
  rintro e w4 ⟨rfl, hb⟩
  obtain ⟨hS, -, hbl⟩ := box1 hb
  have B4 := hide (B3.out.trans (hbl.mono B3.out.size))
  have HT4 := hide (keep HT.out hbl)
  have HS := hide hS
  clear hb hbl hS h0 h1 t0 t1 hl1 hl2 HH HT
  go_wp2_with fail
  refine (P1.out _ (hE.out.kept ((B4.out.alloc B4.out.size _).alloc (by have := B4.out.size; simp; omega) _))).mono ?_
  rintro e w5 ⟨rfl, hb⟩
  obtain ⟨hQ, hX, -, hbl⟩ := box2 hb
  have B5 := hide (B4.out.trans (hbl.mono B4.out.size))
  have HT5 := hide (keep HT4.out hbl)
  have HS5 := hide (keep HS.out hbl)
  have HQ := hide hQ
  have HX := hide hX
  clear hb hbl hQ hX HT4 HS
  go_wp2_with fail
  have hb6 : Below w5.heap.size w5 ((w5.alloc (.cells #[.int .i64 5, .int .i64 6] 23)).alloc (.cells #[.string ⟨#[52, 47, 54]⟩, .string ⟨#[45, 48]⟩, .string ⟨#[49, 47, 49]⟩] 9)) := ((Below.refl _ _).alloc (Nat.le_refl _) _).alloc (by simp) _
  obtain ⟨hP, hR, -, -⟩ := box2 (w := w5) (X := .cells #[.int .i64 5, .int .i64 6] 23) (Y := .cells #[.string ⟨#[52, 47, 54]⟩, .string ⟨#[45, 48]⟩, .string ⟨#[49, 47, 49]⟩] 9) (Below.refl _ _)
  have B6 := hide (B5.out.trans (hb6.mono B5.out.size))
  have HT6 := hide (keep HT5.out hb6)
  have HS6 := hide (keep HS5.out hb6)
  have HQ6 := hide (keep HQ.out hb6)
  have HX6 := hide (keep HX.out hb6)
  have HP := hide hP
  have HR := hide hR
  clear hb6 hP hR HT5 HS5 HQ HX
  generalize ((w5.alloc (.cells #[.int .i64 5, .int .i64 6] 23)).alloc (.cells #[.string ⟨#[52, 47, 54]⟩, .string ⟨#[45, 48]⟩, .string ⟨#[49, 47, 49]⟩] 9)) = w6 at *
  go_loopw [47] (fun v47 wr => ∃ j : Nat, j ≤ 3 ∧ v47 = .int .i64 j ∧ Below w6.heap.size w6 wr) (fun v47 _ => 3 - (intOf v47).toNat)
  case atStart => exact ⟨0, by decide, rfl, Below.refl _ _⟩
  case round =>
    obtain ⟨j, hj, rfl, hbr⟩ := hrel
    have hR := keep HR.out hbr
    have r0 := cell_of_row wr (w5.heap.size + 1) 0 _ _ _ hR
    have r1 := cell_of_row wr (w5.heap.size + 1) 1 _ _ _ hR
    have r2 := cell_of_row wr (w5.heap.size + 1) 2 _ _ _ hR
    simp only [List.getElem?_toArray, List.getElem?_cons_succ, List.getElem?_cons_zero] at r0 r1 r2
    have HBR := hide hbr
    have hEr := hE.out.kept (B6.out.trans (hbr.mono B6.out.size))
    have HEr := hide hEr
    clear hR hbr hEr
    have h4 : j = 0 ∨ j = 1 ∨ j = 2 ∨ j = 3 := by omega
    rcases h4 with rfl | rfl | rfl | rfl
    · rw [show ((0 : Nat) : Int) = 0 from rfl]
      go_wp2_with fail
      refine (P2.out _ HEr.out).mono ?_
      rintro e w7 ⟨rfl, hb⟩
      have HB7 := hide (HBR.out.trans (hb.mono HBR.out.size))
      clear hb
      go_wp2_with fail
      go_roundw
      case rel => exact ⟨1, by decide, rfl, HB7.out.alloc HB7.out.size _⟩
      case measure => simp [intOf]
    · rw [show ((1 : Nat) : Int) = 1 from rfl]
      go_wp2_with fail
      refine (P3.out _ HEr.out).mono ?_
      rintro e w7 ⟨rfl, hb⟩
      have HB7 := hide (HBR.out.trans (hb.mono HBR.out.size))
      clear hb
      go_wp2_with fail
      go_roundw
      case rel => exact ⟨2, by decide, rfl, HB7.out.alloc HB7.out.size _⟩
      case measure => simp [intOf]
    · rw [show ((2 : Nat) : Int) = 2 from rfl]
      go_wp2_with fail
      refine (P4.out _ HEr.out).mono ?_
      rintro e w7 ⟨rfl, hb⟩
      have HB7 := hide (HBR.out.trans (hb.mono HBR.out.size))
      clear hb
      go_wp2_with fail
      go_roundw
      case rel => exact ⟨3, by decide, rfl, HB7.out.alloc HB7.out.size _⟩
      case measure => simp [intOf]
    · rw [show ((3 : Nat) : Int) = 3 from rfl]
      have T7 := hide (keep HT6.out HBR.out)
      have S7 := hide (keep HS6.out HBR.out)
      have Q7 := hide (keep HQ6.out HBR.out)
      have X7 := hide (keep HX6.out HBR.out)
      have A7 := hide (keep HP.out HBR.out)
      have B7 := hide (B6.out.trans (HBR.out.mono B6.out.size))
      clear HT6 HS6 HQ6 HX6 HP HR r0 r1 r2 HBR B6 P1 P2 P3 P4 H1 H2 H3 H4
      have hEw := hide (fun (w' : World) (h : Below w.heap.size w w') => hE.out.kept h)
      have ST1 := hide (fun (w : World) (h : Env w) => string_any 5 6 w h)
      have ST2 := hide (fun (w : World) (h : Env w) => string_any 3 2 w h)
      have FL := hide (fun (w : World) => floor_any (-3) 2 w)
      have CE := hide (fun (w : World) => ceil_any (-3) 2 w)
      have CM := hide (fun (w : World) => cmp_any 1 3 2 5 w)
      rw [aw_s1] at ST1
      rw [aw_s2] at ST2
      rw [aw_fl] at FL
      rw [aw_ce] at CE
      rw [aw_cm] at CM
      go_wp2_with fail
      refine (text_64 wr (hide (hEw.out _ B7.out))).mono ?_
      rintro e w8 ⟨rfl, hb⟩
      obtain ⟨c0, c1, -, -, -⟩ := two_of (keep S7.out hb)
      have Q8 := hide (keep Q7.out hb)
      have X8 := hide (keep X7.out hb)
      have T8 := hide (keep T7.out hb)
      have A8 := hide (keep A7.out hb)
      have B8 := hide (B7.out.trans (hb.mono B7.out.size))
      clear hb S7 Q7 X7 T7 A7 B7
      go_wp2_with fail
      refine (ST1.out w8 (hEw.out _ B8.out)).mono ?_
      rintro e w9 ⟨rfl, hb⟩
      obtain ⟨q0, q1, -, -, -⟩ := two_of (keep Q8.out hb)
      have X9 := hide (keep X8.out hb)
      have T9 := hide (keep T8.out hb)
      have A9 := hide (keep A8.out hb)
      have B9 := hide (B8.out.trans (hb.mono B8.out.size))
      clear hb Q8 X8 T8 A8 B8 c0 c1
      go_wp2_with fail
      refine (ST2.out w9 (hEw.out _ B9.out)).mono ?_
      rintro e w10 ⟨rfl, hb⟩
      obtain ⟨x0, x1, -, -, -⟩ := two_of (keep X9.out hb)
      have X10 := hide (keep X9.out hb)
      have T10 := hide (keep T9.out hb)
      have A10 := hide (keep A9.out hb)
      have B10 := hide (B9.out.trans (hb.mono B9.out.size))
      clear hb X9 T9 A9 B9 q0 q1
      go_wp2_with fail
      refine (FL.out w10).mono ?_
      rintro e w11 ⟨rfl, hb⟩
      obtain ⟨x0, x1, -, -, -⟩ := two_of (keep X10.out hb)
      have T11 := hide (keep T10.out hb)
      have A11 := hide (keep A10.out hb)
      have B11 := hide (B10.out.trans (hb.mono B10.out.size))
      clear hb X10 T10 A10 B10
      go_wp2_with fail
      refine (CE.out w11).mono ?_
      rintro e w12 ⟨rfl, hb⟩
      obtain ⟨t0, t1, -, -, -⟩ := two_of (keep T11.out hb)
      have A12 := hide (keep A11.out hb)
      have B12 := hide (B11.out.trans (hb.mono B11.out.size))
      clear hb T11 A11 B11
      go_wp2_with fail
      refine (CM.out w12).mono ?_
      rintro e w13 ⟨rfl, hb⟩
      obtain ⟨a0, a1, -, -, -⟩ := two_of (keep A12.out hb)
      have B13 := hide (B12.out.trans (hb.mono B12.out.size))
      clear hb A12 B12
      go_wp2_with fail
      go_ret
      exact ⟨rfl, B13.out⟩
end Go.Proofs.YtdjenpccgaojgaaDoor
