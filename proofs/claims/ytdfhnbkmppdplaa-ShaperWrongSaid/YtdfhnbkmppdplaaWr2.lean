/-
  ShaperWrong: the walk.
-/
import Derived.Test.YtdfhnbkmppdplaaWr1
namespace Go.Proofs.Ytdfhnbkmppdplaa
open Go.RowKit
theorem ints_block {w : World} {g : Nat} {zs : List Int} {F : Nat → Prop} (h : w.heap[g]? = some (.cells (ints zs).toArray 3 (0, 0))) (hF : ¬ F g) : Ints w (some ⟨g, 0, none⟩) zs.length zs F :=
  ⟨rfl, fun _ => ⟨g, 0, rfl, hF, blk_in h, fun i z hz => by
    rw [Nat.zero_add, cell_of_row w g i _ _ _ h, List.getElem?_toArray]
    unfold ints
    rw [List.getElem?_map, hz]; rfl⟩⟩
def zs17 : List Int := List.replicate 17 0
theorem made17 : madeCells (Value.cells (.int .i64 0)) (Int.toNat 17 * 1) = (ints zs17).toArray := by kernel_rfl
theorem make17' (W : World) : (Instr.makeSlice 22 (.int .i64 17) (.int .i64 17)).run Try.prog W = .ok (.slice (some ⟨W.heap.size, 0, none⟩) 17 17) (W.alloc (.cells (ints zs17).toArray 3)) := by
  obtain ⟨i0, hi, hz0, hz1, hz2⟩ := info_parts intInfo
  have := run_make (P := Try.prog) W 22 3 i0 (.int .i64 0) Try.underlying22 hi hz0 .i64 .i64 17 17 (by decide) (by decide) (by rw [hz2]; decide) (by decide)
  rw [hz1, made17] at this
  exact this
set_option maxRecDepth 100000 in
set_option maxHeartbeats 4000000 in
theorem wrong_main (bag t vl : Int) (w : World) :
    Calls Try.prog 8 #[.int .i64 bag, .int .i64 t, .int .i64 vl] w fun e w' => e = .returned (.bool true) ∧ Below w.heap.size w w' := by
  obtain ⟨p0, p1⟩ := pick_bd bag 200 (by decide)
  obtain ⟨q0, q1⟩ := pick_bd t 1000 (by decide)
  obtain ⟨q, hq⟩ : ∃ q, pick bag 200 = q := ⟨_, rfl⟩
  obtain ⟨T, hT⟩ : ∃ T, pick t 1000 = T := ⟨_, rfl⟩
  obtain ⟨B, hB⟩ : ∃ B, 1 + q = B := ⟨_, rfl⟩
  rw [hq] at p0 p1
  rw [hT] at q0 q1
  have HQ := hide hq
  have HT := hide hT
  have HB := hide hB
  have b1 : 1 ≤ B := by omega
  have b2 : B ≤ 200 := by omega
  have t2 : T ≤ 999 := by omega
  clear hq hT hB
  have hmk := make17'
  go_enter Try.func8, Try.ntmps8
  go_wp2_with fail
  refine (awake_any w).mono ?_
  rintro e w1 ⟨rfl, hb1⟩
  have HB1 := hide hb1
  clear hb1
  go_wp2_with fail
  go_loopw [7] (fun v7 wr => ∃ k : Nat, k ≤ 2 ∧ v7 = .int .i64 k ∧ Below w.heap.size w wr) (fun v7 _ => 2 - (intOf v7).toNat)
  case atStart => exact ⟨0, by omega, rfl, HB1.out⟩
  case round =>
    obtain ⟨k, hk, rfl, hbr⟩ := hrel
    have HBR := hide hbr
    have hsz := hbr.size
    clear hbr
    have hk3 : k = 0 ∨ k = 1 ∨ k = 2 := by omega
    rcases hk3 with rfl | rfl | rfl
    · go_wp2_with fail
      refine (next_nil 0 t _).mono ?_
      rintro e w2 ⟨rfl, hb2⟩
      have H2 := hide ((((HBR.out.alloc hsz _).alloc (by simp; omega) _)).trans (hb2.mono (by simp; omega)))
      clear hb2
      go_wp2_with fail
      refine (when_nil 0 _).mono ?_
      rintro e w3 ⟨rfl, rfl⟩
      go_wp2_with fail
      refine (offer_nil 0 t 0 0 0 _).mono ?_
      rintro e w3 ⟨rfl, hb3⟩
      have x0 := hb3.cell (p := ⟨w2.heap.size, 0, none⟩) (by simp)
      have x1 := hb3.cell (p := ⟨w2.heap.size, 1, none⟩) (by simp)
      have x2 := hb3.cell (p := ⟨w2.heap.size, 2, none⟩) (by simp)
      have x3 := hb3.cell (p := ⟨w2.heap.size, 3, none⟩) (by simp)
      simp [go_sem] at x0 x1 x2 x3
      have H3 := hide ((H2.out.alloc H2.out.size _).trans (hb3.mono (by simp; have := H2.out.size; omega)))
      clear hb3
      go_wp2_with fail
      refine (sameFrame_nums 0 0 0 none none 0 0 0 0 [] [] (fun _ => False) (fun _ => False) _ (by decide) (by decide) (Bts.nil _ _) (Bts.nil _ _)).mono ?_
      rintro e w4 ⟨rfl, hb4⟩
      have H4 := hide (H3.out.trans (hb4.mono H3.out.size))
      clear hb4
      go_wp2_with fail
      refine (waiting_nil vl _).mono ?_
      rintro e w5 ⟨rfl, rfl⟩
      go_wp2_with fail
      go_roundw
      case rel => exact ⟨1, by omega, rfl, H4.out⟩
      case measure => simp [intOf]
    · go_wp2_with fail
      obtain ⟨z, hz⟩ : ∃ z, z = wr.heap.size := ⟨_, rfl⟩
      have H1 := hide (((HBR.out.alloc hsz (.cells #[.int .i64 0, .slice none 0 0, .bool false] 57)).alloc (by simp; omega) (.cells #[.pointer none, .pointer (some ⟨wr.heap.size, 0, none⟩)] 35)))
      have hzb : ((wr.alloc (.cells #[.int .i64 0, .slice none 0 0, .bool false] 57)).alloc (.cells #[.pointer none, .pointer (some ⟨wr.heap.size, 0, none⟩)] 35)).heap[z]? = some (.cells #[.int .i64 0, .slice none 0 0, .bool false] 57 (0, 0)) := by
        rw [hz]; exact (Below.heap_alloc _ _ _ (by simp)).trans (heap_alloc_new wr _)
      rw [← hz] at hzb H1 ⊢
      generalize (wr.alloc (.cells #[.int .i64 0, .slice none 0 0, .bool false] 57)).alloc (.cells #[.pointer none, .pointer (some ⟨z, 0, none⟩)] 35) = W1 at *
      have HZ1 := hide hzb
      clear hzb hz
      refine (next_zero z t _ (cell_of_row _ z 2 _ _ _ HZ1.out) (blk_in HZ1.out)).mono ?_
      rintro e w2 ⟨rfl, hb2⟩
      have H2 := hide (H1.out.trans (hb2.mono H1.out.size))
      have HZ2 := hide ((hb2.block z (blk_in HZ1.out)).trans HZ1.out)
      clear hb2 HZ1
      go_wp2_with fail
      have HZ3 := hide ((Below.heap_alloc w2 (.cells #[.int .i64 0, .int .i64 0, .int .i64 0, .slice none 0 0] 42) z (blk_in HZ2.out)).trans HZ2.out)
      refine (when_zero z _ (cell_of_row _ z 2 _ _ _ HZ3.out) (blk_in HZ3.out)).mono ?_
      rintro e w3 ⟨rfl, rfl⟩
      go_wp2_with fail
      refine (offer_zero z t 0 0 0 _ (cell_of_row _ z 2 _ _ _ HZ3.out) (blk_in HZ3.out)).mono ?_
      rintro e w3 ⟨rfl, hb3⟩
      have x0 := hb3.cell (p := ⟨w2.heap.size, 0, none⟩) (by simp)
      have x1 := hb3.cell (p := ⟨w2.heap.size, 1, none⟩) (by simp)
      have x2 := hb3.cell (p := ⟨w2.heap.size, 2, none⟩) (by simp)
      have x3 := hb3.cell (p := ⟨w2.heap.size, 3, none⟩) (by simp)
      simp [go_sem] at x0 x1 x2 x3
      have H3 := hide ((H2.out.alloc H2.out.size _).trans (hb3.mono (by simp; have := H2.out.size; omega)))
      have HZ4 := hide ((hb3.block z (blk_in HZ3.out)).trans HZ3.out)
      clear hb3 HZ2 HZ3
      go_wp2_with fail
      refine (sameFrame_nums 0 0 0 none none 0 0 0 0 [] [] (fun _ => False) (fun _ => False) _ (by decide) (by decide) (Bts.nil _ _) (Bts.nil _ _)).mono ?_
      rintro e w4 ⟨rfl, hb4⟩
      have H4 := hide (H3.out.trans (hb4.mono H3.out.size))
      have HZ5 := hide ((hb4.block z (blk_in HZ4.out)).trans HZ4.out)
      clear hb4 HZ4
      go_wp2_with fail
      refine (waiting_zero z vl _ (cell_of_row _ z 1 _ _ _ HZ5.out)).mono ?_
      rintro e w5 ⟨rfl, rfl⟩
      go_wp2_with fail
      go_roundw
      case rel => exact ⟨2, by omega, rfl, H4.out⟩
      case measure => simp [intOf]
    · have hv3 : (0 ≤ vl ∧ vl < 2) ∨ vl < 0 ∨ 2 ≤ vl := by omega
      rcases hv3 with ⟨hv, hv2⟩ | hv | hv
      ·
        go_wp2_with fail
        refine (pick_any bag 200 wr (by decide) (by decide)).mono ?_
        rw [HQ.out]
        rintro e w2 ⟨rfl, rfl⟩
        go_wp2_with fail
        rw [HB.out]
        refine (pick_any t 1000 _ (by decide) (by decide)).mono ?_
        rw [HT.out]
        rintro e w2 ⟨rfl, rfl⟩
        go_wp2_with fail
        refine (new_fine _ 2 2 [B, B] (fun _ => False) _ (hide (ints2 _ B B _ (fun h => h))) (by decide) (hide (by simp [bagB]; omega))).mono ?_
        rw [ws_new]
        rintro e w2 ⟨a, P, rfl, hs, hP, hb⟩
        have HO : Hid (OwnSh w.heap.size w w2 a (ws0 B) P) := ⟨hs, fun k hk => by have := hP k hk; simp at this; omega, (HBR.out.alloc hsz _).trans (hb.mono (by simp; omega))⟩
        clear hs hP hb
        go_wp2_with fail
        refine (offer_any a (ws0 B) P T 1 0 5 none 0 0 [] _ (hide HO.out.at_) (by decide) (hide (Bts.nil _ _).rb)).mono ?_
        rw [ws_offer B T q0 t2]
        rintro e w3 ⟨rfl, hk3, P3, hs, hP⟩
        have HO3 := hide (HO.out.kept (HO.out.size (Nat.le_refl _)) hk3 hs (fun k hk => (hP k hk).imp id (·.1)))
        clear HO hk3 hs hP
        go_wp2_with fail
        refine (next_no a (ws1 B T) P3 (T - 1) _ (hide HO3.out.at_) (hide (by rw [ws_no B T (T - 1) (by omega)]))).mono ?_
        rw [ws_no B T (T - 1) (by omega)]
        unfold zeroFrame
        rintro e w4 ⟨rfl, hs, hk⟩
        have HO4 := hide (HO3.out.kept (HO3.out.size (Nat.le_refl _)) hk hs (fun k hk => .inl hk))
        clear HO3 hs hk
        go_wp2_with fail
        have HO5 := hide (HO4.out.next (HO4.out.size (Nat.le_refl _)) ((Below.refl _ _).alloc (Nat.le_refl _) (.cells #[.int .i64 0, .int .i64 0, .int .i64 0, .slice none 0 0] 42)))
        clear HO4
        refine (next_no a (ws1 B T) P3 1073741825 _ (hide HO5.out.at_) (hide (by rw [ws_no B T 1073741825 (by omega)]))).mono ?_
        rw [ws_no B T 1073741825 (by omega)]
        unfold zeroFrame
        rintro e w5 ⟨rfl, hs, hk⟩
        have HO6 := hide (HO5.out.kept (HO5.out.size (Nat.le_refl _)) hk hs (fun k hk => .inl hk))
        clear HO5 hs hk
        go_wp2_with fail
        have HO7 := hide (HO6.out.next (HO6.out.size (Nat.le_refl _)) ((Below.refl _ _).alloc (Nat.le_refl _) (.cells #[.int .i64 0, .int .i64 0, .int .i64 0, .slice none 0 0] 42)))
        clear HO6
        have hi2 := ints2 (w5.alloc (.cells #[.int .i64 0, .int .i64 0, .int .i64 0, .slice none 0 0] 42)) B 12801 (fun _ => False) (fun h => h)
        rw [World.size_alloc] at hi2
        refine (new_wrong _ 2 2 [B, 12801] (fun _ => False) _ (by decide) (hide hi2) (hide (by simp [bagB]))).mono ?_
        rintro e w6 ⟨rfl, rfl⟩
        have HO8 := hide (HO7.out.next (HO7.out.size (Nat.le_refl _)) ((Below.refl _ _).alloc (Nat.le_refl _) (.cells #[.int .i64 B, .int .i64 12801] 3)))
        clear HO7 hi2
        generalize hW6 : (w5.alloc (.cells #[.int .i64 0, .int .i64 0, .int .i64 0, .slice none 0 0] 42)).alloc (.cells #[.int .i64 B, .int .i64 12801] 3) = w6 at *
        have cc0 : w6.cell? ⟨w5.heap.size, 0, none⟩ = some (.int .i64 0) := by rw [← hW6]; exact cell_of_row _ _ 0 _ _ _ ((Below.heap_alloc _ _ _ (by simp)).trans (heap_alloc_new w5 _))
        clear hW6
        go_wp2_with fail
        refine (new_wrong _ 17 17 zs17 (fun _ => False) _ (by decide) (hide (ints_block (heap_alloc_new w6 _) (fun h => h))) (hide rfl)).mono ?_
        rintro e w7 ⟨rfl, rfl⟩
        have HO9 := hide (HO8.out.next (HO8.out.size (Nat.le_refl _)) ((Below.refl _ _).alloc (Nat.le_refl _) (.cells (ints zs17).toArray 3)))
        clear HO8
        go_wp2_with fail
        refine (offer_any a (ws1 B T) P3 (T - 1) 0 0 0 none 0 0 [] _ (hide HO9.out.at_) (by decide) (hide (Bts.nil _ _).rb)).mono ?_
        rw [ws_off0 B T]
        rintro e w8 ⟨rfl, hk3, P4, hs, hP⟩
        have HOa := hide (HO9.out.kept (HO9.out.size (Nat.le_refl _)) hk3 hs (fun k hk => (hP k hk).imp id (·.1)))
        clear HO9 hk3 hs hP
        go_wp2_with fail
        refine (offer_any a (ws1 B T) P4 T 2 0 0 none 0 0 [] _ (hide HOa.out.at_) (by decide) (hide (Bts.nil _ _).rb)).mono ?_
        rw [ws_offv B T 2 (by omega)]
        rintro e w9 ⟨rfl, hk3, P5, hs, hP⟩
        have HOb := hide (HOa.out.kept (HOa.out.size (Nat.le_refl _)) hk3 hs (fun k hk => (hP k hk).imp id (·.1)))
        clear HOa hk3 hs hP
        go_wp2_with fail
        refine (waiting_any a (ws1 B T) P5 0 _ (hide HOb.out.at_)).mono ?_
        rw [ws_w0]
        rintro e wz ⟨rfl, rfl⟩
        go_wp2_with fail
        refine (waiting_any a (ws1 B T) P5 1 _ (hide HOb.out.at_)).mono ?_
        rw [ws_w1]
        rintro e wz ⟨rfl, rfl⟩
        go_wp2_with fail
        refine (waiting_any a (ws1 B T) P5 2 _ (hide HOb.out.at_)).mono ?_
        rw [ws_wv B T 2 (by omega)]
        rintro e wz ⟨rfl, rfl⟩
        go_wp2_with fail
        obtain ⟨S9, hy⟩ := ws_yes B T q0 t2
        have HY := hide hy
        clear hy
        refine (next_yes a (ws1 B T) P5 T (wit T) _ (hide HOb.out.at_) (hide (by rw [HY.out]))).mono ?_
        simp only [wit, List.length_nil]
        rintro e wa ⟨g, rfl, hg, hgb, hs, hk⟩
        have HBe := hide (HOb.out.bel.trans (hk.below (HOb.out.size (Nat.le_refl _)) (fun i hi hp => by have := HOb.out.own i hp; omega)))
        clear HOb hg hgb hs hk HY
        go_wp2_with fail
        refine (shape_wrong 0 none 0 0 [] (fun _ => False) _ (by decide) (hide ⟨rfl, fun h => by omega⟩) (hide rfl)).mono ?_
        rintro e wb ⟨rfl, d1, rfl⟩
        go_wp2_with fail
        refine (conforms_any 0 none 0 0 [] (fun _ => False) _ (by decide) (hide ⟨rfl, fun h => by omega⟩)).mono ?_
        rw [show conformsB 0 [] = false from rfl]
        rintro e wb ⟨rfl, hbz⟩
        have HBf := hide ((below_drewN (HBe.out.alloc HBe.out.size (.cells #[.int .i64 1, .int .i64 0, .int .i64 5, .slice (some ⟨g, 0, none⟩) 0 0] 42)) d1).trans (hbz.mono (by simp; have := HBe.out.size; omega)))
        clear hbz
        go_wp2_with fail
        go_ret
        exact ⟨rfl, HBf.out⟩
      · have hv2 : decide (0 ≤ vl) = false := by simp; omega
        go_wp2_with fail
        refine (pick_any bag 200 wr (by decide) (by decide)).mono ?_
        rw [HQ.out]
        rintro e w2 ⟨rfl, rfl⟩
        go_wp2_with fail
        rw [HB.out]
        refine (pick_any t 1000 _ (by decide) (by decide)).mono ?_
        rw [HT.out]
        rintro e w2 ⟨rfl, rfl⟩
        go_wp2_with fail
        refine (new_fine _ 2 2 [B, B] (fun _ => False) _ (hide (ints2 _ B B _ (fun h => h))) (by decide) (hide (by simp [bagB]; omega))).mono ?_
        rw [ws_new]
        rintro e w2 ⟨a, P, rfl, hs, hP, hb⟩
        have HO : Hid (OwnSh w.heap.size w w2 a (ws0 B) P) := ⟨hs, fun k hk => by have := hP k hk; simp at this; omega, (HBR.out.alloc hsz _).trans (hb.mono (by simp; omega))⟩
        clear hs hP hb
        go_wp2_with fail
        refine (offer_any a (ws0 B) P T 1 0 5 none 0 0 [] _ (hide HO.out.at_) (by decide) (hide (Bts.nil _ _).rb)).mono ?_
        rw [ws_offer B T q0 t2]
        rintro e w3 ⟨rfl, hk3, P3, hs, hP⟩
        have HO3 := hide (HO.out.kept (HO.out.size (Nat.le_refl _)) hk3 hs (fun k hk => (hP k hk).imp id (·.1)))
        clear HO hk3 hs hP
        go_wp2_with fail
        refine (next_no a (ws1 B T) P3 (T - 1) _ (hide HO3.out.at_) (hide (by rw [ws_no B T (T - 1) (by omega)]))).mono ?_
        rw [ws_no B T (T - 1) (by omega)]
        unfold zeroFrame
        rintro e w4 ⟨rfl, hs, hk⟩
        have HO4 := hide (HO3.out.kept (HO3.out.size (Nat.le_refl _)) hk hs (fun k hk => .inl hk))
        clear HO3 hs hk
        go_wp2_with fail
        have HO5 := hide (HO4.out.next (HO4.out.size (Nat.le_refl _)) ((Below.refl _ _).alloc (Nat.le_refl _) (.cells #[.int .i64 0, .int .i64 0, .int .i64 0, .slice none 0 0] 42)))
        clear HO4
        refine (next_no a (ws1 B T) P3 1073741825 _ (hide HO5.out.at_) (hide (by rw [ws_no B T 1073741825 (by omega)]))).mono ?_
        rw [ws_no B T 1073741825 (by omega)]
        unfold zeroFrame
        rintro e w5 ⟨rfl, hs, hk⟩
        have HO6 := hide (HO5.out.kept (HO5.out.size (Nat.le_refl _)) hk hs (fun k hk => .inl hk))
        clear HO5 hs hk
        go_wp2_with fail
        have HO7 := hide (HO6.out.next (HO6.out.size (Nat.le_refl _)) ((Below.refl _ _).alloc (Nat.le_refl _) (.cells #[.int .i64 0, .int .i64 0, .int .i64 0, .slice none 0 0] 42)))
        clear HO6
        have hi2 := ints2 (w5.alloc (.cells #[.int .i64 0, .int .i64 0, .int .i64 0, .slice none 0 0] 42)) B 12801 (fun _ => False) (fun h => h)
        rw [World.size_alloc] at hi2
        refine (new_wrong _ 2 2 [B, 12801] (fun _ => False) _ (by decide) (hide hi2) (hide (by simp [bagB]))).mono ?_
        rintro e w6 ⟨rfl, rfl⟩
        have HO8 := hide (HO7.out.next (HO7.out.size (Nat.le_refl _)) ((Below.refl _ _).alloc (Nat.le_refl _) (.cells #[.int .i64 B, .int .i64 12801] 3)))
        clear HO7 hi2
        generalize hW6 : (w5.alloc (.cells #[.int .i64 0, .int .i64 0, .int .i64 0, .slice none 0 0] 42)).alloc (.cells #[.int .i64 B, .int .i64 12801] 3) = w6 at *
        have cc0 : w6.cell? ⟨w5.heap.size, 0, none⟩ = some (.int .i64 0) := by rw [← hW6]; exact cell_of_row _ _ 0 _ _ _ ((Below.heap_alloc _ _ _ (by simp)).trans (heap_alloc_new w5 _))
        clear hW6
        go_wp2_with fail
        refine (new_wrong _ 17 17 zs17 (fun _ => False) _ (by decide) (hide (ints_block (heap_alloc_new w6 _) (fun h => h))) (hide rfl)).mono ?_
        rintro e w7 ⟨rfl, rfl⟩
        have HO9 := hide (HO8.out.next (HO8.out.size (Nat.le_refl _)) ((Below.refl _ _).alloc (Nat.le_refl _) (.cells (ints zs17).toArray 3)))
        clear HO8
        go_wp2_with fail
        refine (offer_any a (ws1 B T) P3 (T - 1) 0 0 0 none 0 0 [] _ (hide HO9.out.at_) (by decide) (hide (Bts.nil _ _).rb)).mono ?_
        rw [ws_off0 B T]
        rintro e w8 ⟨rfl, hk3, P4, hs, hP⟩
        have HOa := hide (HO9.out.kept (HO9.out.size (Nat.le_refl _)) hk3 hs (fun k hk => (hP k hk).imp id (·.1)))
        clear HO9 hk3 hs hP
        go_wp2_with fail
        refine (offer_any a (ws1 B T) P4 T vl 0 0 none 0 0 [] _ (hide HOa.out.at_) (by decide) (hide (Bts.nil _ _).rb)).mono ?_
        rw [ws_offv B T vl (by omega)]
        rintro e w9 ⟨rfl, hk3, P5, hs, hP⟩
        have HOb := hide (HOa.out.kept (HOa.out.size (Nat.le_refl _)) hk3 hs (fun k hk => (hP k hk).imp id (·.1)))
        clear HOa hk3 hs hP
        go_wp2_with fail
        refine (waiting_any a (ws1 B T) P5 0 _ (hide HOb.out.at_)).mono ?_
        rw [ws_w0]
        rintro e wz ⟨rfl, rfl⟩
        go_wp2_with fail
        refine (waiting_any a (ws1 B T) P5 1 _ (hide HOb.out.at_)).mono ?_
        rw [ws_w1]
        rintro e wz ⟨rfl, rfl⟩
        go_wp2_with fail
        refine (waiting_any a (ws1 B T) P5 vl _ (hide HOb.out.at_)).mono ?_
        rw [ws_wv B T vl (by omega)]
        rintro e wz ⟨rfl, rfl⟩
        go_wp2_with fail
        obtain ⟨S9, hy⟩ := ws_yes B T q0 t2
        have HY := hide hy
        clear hy
        refine (next_yes a (ws1 B T) P5 T (wit T) _ (hide HOb.out.at_) (hide (by rw [HY.out]))).mono ?_
        simp only [wit, List.length_nil]
        rintro e wa ⟨g, rfl, hg, hgb, hs, hk⟩
        have HBe := hide (HOb.out.bel.trans (hk.below (HOb.out.size (Nat.le_refl _)) (fun i hi hp => by have := HOb.out.own i hp; omega)))
        clear HOb hg hgb hs hk HY
        go_wp2_with fail
        refine (shape_wrong 0 none 0 0 [] (fun _ => False) _ (by decide) (hide ⟨rfl, fun h => by omega⟩) (hide rfl)).mono ?_
        rintro e wb ⟨rfl, d1, rfl⟩
        go_wp2_with fail
        refine (conforms_any 0 none 0 0 [] (fun _ => False) _ (by decide) (hide ⟨rfl, fun h => by omega⟩)).mono ?_
        rw [show conformsB 0 [] = false from rfl]
        rintro e wb ⟨rfl, hbz⟩
        have HBf := hide ((below_drewN (HBe.out.alloc HBe.out.size (.cells #[.int .i64 1, .int .i64 0, .int .i64 5, .slice (some ⟨g, 0, none⟩) 0 0] 42)) d1).trans (hbz.mono (by simp; have := HBe.out.size; omega)))
        clear hbz
        go_wp2_with fail
        go_ret
        exact ⟨rfl, HBf.out⟩
      · have hv0 : 0 ≤ vl := by omega
        go_wp2_with fail
        refine (pick_any bag 200 wr (by decide) (by decide)).mono ?_
        rw [HQ.out]
        rintro e w2 ⟨rfl, rfl⟩
        go_wp2_with fail
        rw [HB.out]
        refine (pick_any t 1000 _ (by decide) (by decide)).mono ?_
        rw [HT.out]
        rintro e w2 ⟨rfl, rfl⟩
        go_wp2_with fail
        refine (new_fine _ 2 2 [B, B] (fun _ => False) _ (hide (ints2 _ B B _ (fun h => h))) (by decide) (hide (by simp [bagB]; omega))).mono ?_
        rw [ws_new]
        rintro e w2 ⟨a, P, rfl, hs, hP, hb⟩
        have HO : Hid (OwnSh w.heap.size w w2 a (ws0 B) P) := ⟨hs, fun k hk => by have := hP k hk; simp at this; omega, (HBR.out.alloc hsz _).trans (hb.mono (by simp; omega))⟩
        clear hs hP hb
        go_wp2_with fail
        refine (offer_any a (ws0 B) P T 1 0 5 none 0 0 [] _ (hide HO.out.at_) (by decide) (hide (Bts.nil _ _).rb)).mono ?_
        rw [ws_offer B T q0 t2]
        rintro e w3 ⟨rfl, hk3, P3, hs, hP⟩
        have HO3 := hide (HO.out.kept (HO.out.size (Nat.le_refl _)) hk3 hs (fun k hk => (hP k hk).imp id (·.1)))
        clear HO hk3 hs hP
        go_wp2_with fail
        refine (next_no a (ws1 B T) P3 (T - 1) _ (hide HO3.out.at_) (hide (by rw [ws_no B T (T - 1) (by omega)]))).mono ?_
        rw [ws_no B T (T - 1) (by omega)]
        unfold zeroFrame
        rintro e w4 ⟨rfl, hs, hk⟩
        have HO4 := hide (HO3.out.kept (HO3.out.size (Nat.le_refl _)) hk hs (fun k hk => .inl hk))
        clear HO3 hs hk
        go_wp2_with fail
        have HO5 := hide (HO4.out.next (HO4.out.size (Nat.le_refl _)) ((Below.refl _ _).alloc (Nat.le_refl _) (.cells #[.int .i64 0, .int .i64 0, .int .i64 0, .slice none 0 0] 42)))
        clear HO4
        refine (next_no a (ws1 B T) P3 1073741825 _ (hide HO5.out.at_) (hide (by rw [ws_no B T 1073741825 (by omega)]))).mono ?_
        rw [ws_no B T 1073741825 (by omega)]
        unfold zeroFrame
        rintro e w5 ⟨rfl, hs, hk⟩
        have HO6 := hide (HO5.out.kept (HO5.out.size (Nat.le_refl _)) hk hs (fun k hk => .inl hk))
        clear HO5 hs hk
        go_wp2_with fail
        have HO7 := hide (HO6.out.next (HO6.out.size (Nat.le_refl _)) ((Below.refl _ _).alloc (Nat.le_refl _) (.cells #[.int .i64 0, .int .i64 0, .int .i64 0, .slice none 0 0] 42)))
        clear HO6
        have hi2 := ints2 (w5.alloc (.cells #[.int .i64 0, .int .i64 0, .int .i64 0, .slice none 0 0] 42)) B 12801 (fun _ => False) (fun h => h)
        rw [World.size_alloc] at hi2
        refine (new_wrong _ 2 2 [B, 12801] (fun _ => False) _ (by decide) (hide hi2) (hide (by simp [bagB]))).mono ?_
        rintro e w6 ⟨rfl, rfl⟩
        have HO8 := hide (HO7.out.next (HO7.out.size (Nat.le_refl _)) ((Below.refl _ _).alloc (Nat.le_refl _) (.cells #[.int .i64 B, .int .i64 12801] 3)))
        clear HO7 hi2
        generalize hW6 : (w5.alloc (.cells #[.int .i64 0, .int .i64 0, .int .i64 0, .slice none 0 0] 42)).alloc (.cells #[.int .i64 B, .int .i64 12801] 3) = w6 at *
        have cc0 : w6.cell? ⟨w5.heap.size, 0, none⟩ = some (.int .i64 0) := by rw [← hW6]; exact cell_of_row _ _ 0 _ _ _ ((Below.heap_alloc _ _ _ (by simp)).trans (heap_alloc_new w5 _))
        clear hW6
        go_wp2_with fail
        refine (new_wrong _ 17 17 zs17 (fun _ => False) _ (by decide) (hide (ints_block (heap_alloc_new w6 _) (fun h => h))) (hide rfl)).mono ?_
        rintro e w7 ⟨rfl, rfl⟩
        have HO9 := hide (HO8.out.next (HO8.out.size (Nat.le_refl _)) ((Below.refl _ _).alloc (Nat.le_refl _) (.cells (ints zs17).toArray 3)))
        clear HO8
        go_wp2_with fail
        refine (offer_any a (ws1 B T) P3 (T - 1) 0 0 0 none 0 0 [] _ (hide HO9.out.at_) (by decide) (hide (Bts.nil _ _).rb)).mono ?_
        rw [ws_off0 B T]
        rintro e w8 ⟨rfl, hk3, P4, hs, hP⟩
        have HOa := hide (HO9.out.kept (HO9.out.size (Nat.le_refl _)) hk3 hs (fun k hk => (hP k hk).imp id (·.1)))
        clear HO9 hk3 hs hP
        go_wp2_with fail
        refine (offer_any a (ws1 B T) P4 T vl 0 0 none 0 0 [] _ (hide HOa.out.at_) (by decide) (hide (Bts.nil _ _).rb)).mono ?_
        rw [ws_offv B T vl (by omega)]
        rintro e w9 ⟨rfl, hk3, P5, hs, hP⟩
        have HOb := hide (HOa.out.kept (HOa.out.size (Nat.le_refl _)) hk3 hs (fun k hk => (hP k hk).imp id (·.1)))
        clear HOa hk3 hs hP
        go_wp2_with fail
        refine (waiting_any a (ws1 B T) P5 0 _ (hide HOb.out.at_)).mono ?_
        rw [ws_w0]
        rintro e wz ⟨rfl, rfl⟩
        go_wp2_with fail
        refine (waiting_any a (ws1 B T) P5 1 _ (hide HOb.out.at_)).mono ?_
        rw [ws_w1]
        rintro e wz ⟨rfl, rfl⟩
        go_wp2_with fail
        refine (waiting_any a (ws1 B T) P5 vl _ (hide HOb.out.at_)).mono ?_
        rw [ws_wv B T vl (by omega)]
        rintro e wz ⟨rfl, rfl⟩
        go_wp2_with fail
        obtain ⟨S9, hy⟩ := ws_yes B T q0 t2
        have HY := hide hy
        clear hy
        refine (next_yes a (ws1 B T) P5 T (wit T) _ (hide HOb.out.at_) (hide (by rw [HY.out]))).mono ?_
        simp only [wit, List.length_nil]
        rintro e wa ⟨g, rfl, hg, hgb, hs, hk⟩
        have HBe := hide (HOb.out.bel.trans (hk.below (HOb.out.size (Nat.le_refl _)) (fun i hi hp => by have := HOb.out.own i hp; omega)))
        clear HOb hg hgb hs hk HY
        go_wp2_with fail
        refine (shape_wrong 0 none 0 0 [] (fun _ => False) _ (by decide) (hide ⟨rfl, fun h => by omega⟩) (hide rfl)).mono ?_
        rintro e wb ⟨rfl, d1, rfl⟩
        go_wp2_with fail
        refine (conforms_any 0 none 0 0 [] (fun _ => False) _ (by decide) (hide ⟨rfl, fun h => by omega⟩)).mono ?_
        rw [show conformsB 0 [] = false from rfl]
        rintro e wb ⟨rfl, hbz⟩
        have HBf := hide ((below_drewN (HBe.out.alloc HBe.out.size (.cells #[.int .i64 1, .int .i64 0, .int .i64 5, .slice (some ⟨g, 0, none⟩) 0 0] 42)) d1).trans (hbz.mono (by simp; have := HBe.out.size; omega)))
        clear hbz
        go_wp2_with fail
        go_ret
        exact ⟨rfl, HBf.out⟩
end Go.Proofs.Ytdfhnbkmppdplaa
