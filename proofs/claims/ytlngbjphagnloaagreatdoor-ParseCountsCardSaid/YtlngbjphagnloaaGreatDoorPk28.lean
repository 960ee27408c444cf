/-
  Merged texts: parse: awake: the examples of the chapter. | parse: the frame of the laws: what a row gives to its walk.
-/
import Derived.Test.YtlngbjphagnloaaGreatDoorPk27
import Derived.Test.YtlngbjphagnloaaGreatDoorPk9
import Derived.Test.YtlngbjphagnloaaGreatDoorRows
import Derived.Test.YtlngbjphagnloaaGreatDoorCards
import Derived.Test.YtlngbjphagnloaaGreatDoorTie
import Derived.SevenTiedAt
import Derived.Lib.LaidTab
import Derived.Lib.SmallJoins
import Derived.Stop.LaidErr
import Derived.Shelf.Vars
namespace Go.Proofs.YtlngbjphagnloaaGreatDoor
open Go.RowKit
attribute [local go_sem] Later.cell
set_option maxRecDepth 100000 in
set_option maxHeartbeats 4000000 in
theorem awake_any (W : World) (hE : Hid (Env W)) (hP : Hid (EnvP W)) : Calls Tryz.prog 10 #[] W fun e w' => e = .returned (.bool true) ∧ Below W.heap.size W w' := by
  have HA := hide (fun V hE hP => parse_call exA wantC 0 0 exA_p V hE hP)
  have HB := hide (fun V hE hP => parse_call exB rowsC 0 0 exB_p V hE hP)
  have HC := hide (fun V hE hP => parse_call exC CfgD.none 40 80 exC_p V hE hP)
  have HQ := hide exE_call
  have HD := hide (fun V hE hP => parse_call exD CfgD.none 0 80 exD_p V hE hP)
  go_enter Tryz.func10, Tryz.ntmps10
  go_wp2_with fail
  have hb0 := allocs_below (wOb W.heap.size) W
  have hw0 := want_at W
  have hx0 := allocs_at (wOb W.heap.size) W 9 _ rfl
  have hz0 : (allocs W (wOb W.heap.size)).heap.size = W.heap.size + 10 := allocs_size (wOb W.heap.size) W
  change Calls _ _ _ (allocs W (wOb W.heap.size)) _
  generalize allocs W (wOb W.heap.size) = V at *
  have HE0 := hide (hE.out.kept hb0)
  have HP0 := hide (hP.out.below hb0)
  refine (HA.out V HE0 HP0).mono ?_
  rintro e w1 ⟨A1, q1, rfl, hb1, hD1⟩
  have HB1 := hide (hb0.trans (hb1.mono hb0.size))
  have HW1 := hide (hw0.below hb1)
  have HX1 := hide ((hb1.block (W.heap.size + 9) (by omega)).trans hx0)
  have HE1 := hide (HE0.out.kept hb1)
  have HP1 := hide (HP0.out.below hb1)
  have HD1 := hide hD1
  have hz1 : W.heap.size + 10 ≤ w1.heap.size := by have := hb1.size; omega
  clear hb0 hw0 hx0 hb1 hD1 HE0 HP0 HA
  rw [show (cfgVal A1 q1 wantC).toArray = #[.slice (A1 0) 1 (q1 0), .slice (A1 1) 0 (q1 1), .slice (A1 2) 1 (q1 2), .slice (A1 3) 1 (q1 3), .slice (A1 4) 0 (q1 4), .slice (A1 5) 0 (q1 5), .slice (A1 6) 0 (q1 6), .slice (A1 7) 0 (q1 7)] from rfl]
  go_wp2_with fail
  have hY2 := heap_alloc_new w1 (.cells #[.slice (A1 0) 1 (q1 0), .slice (A1 1) 0 (q1 1), .slice (A1 2) 1 (q1 2), .slice (A1 3) 1 (q1 3), .slice (A1 4) 0 (q1 4), .slice (A1 5) 0 (q1 5), .slice (A1 6) 0 (q1 6), .slice (A1 7) 0 (q1 7)] 32)
  have hb2 := (Below.refl w1.heap.size w1).alloc (Nat.le_refl _) (.cells #[.slice (A1 0) 1 (q1 0), .slice (A1 1) 0 (q1 1), .slice (A1 2) 1 (q1 2), .slice (A1 3) 1 (q1 3), .slice (A1 4) 0 (q1 4), .slice (A1 5) 0 (q1 5), .slice (A1 6) 0 (q1 6), .slice (A1 7) 0 (q1 7)] 32)
  have hz2 := World.size_alloc w1 (.cells #[.slice (A1 0) 1 (q1 0), .slice (A1 1) 0 (q1 1), .slice (A1 2) 1 (q1 2), .slice (A1 3) 1 (q1 3), .slice (A1 4) 0 (q1 4), .slice (A1 5) 0 (q1 5), .slice (A1 6) 0 (q1 6), .slice (A1 7) 0 (q1 7)] 32)
  generalize w1.alloc (.cells #[.slice (A1 0) 1 (q1 0), .slice (A1 1) 0 (q1 1), .slice (A1 2) 1 (q1 2), .slice (A1 3) 1 (q1 3), .slice (A1 4) 0 (q1 4), .slice (A1 5) 0 (q1 5), .slice (A1 6) 0 (q1 6), .slice (A1 7) 0 (q1 7)] 32) = w2 at *
  have HE2 := hide (HE1.out.kept hb2)
  have HP2 := hide (HP1.out.below hb2)
  refine (HB.out w2 HE2 HP2).mono ?_
  rintro e w3 ⟨A3, q3, rfl, hb3, hD3⟩
  have hb23 := hb2.trans (hb3.mono hb2.size)
  have HB3 := hide (HB1.out.trans (hb23.mono HB1.out.size))
  have HW3 := hide (HW1.out.below hb23)
  have HX3 := hide ((hb23.block (W.heap.size + 9) (by omega)).trans HX1.out)
  have HY3 := hide ((hb3.block w1.heap.size (by omega)).trans hY2)
  have HE3 := hide (HE2.out.kept hb3)
  have HP3 := hide (HP2.out.below hb3)
  have HD3 := hide hD3
  have HD13 := hide (HD1.out.below hb23)
  have hz3 : w1.heap.size + 1 ≤ w3.heap.size := by have := hb3.size; omega
  clear HB1 HW1 HX1 HE1 HP1 HD1 HE2 HP2 hY2 hb2 hb3 hb23 hD3 hz2 HB
  rw [show (cfgVal A3 q3 rowsC).toArray = #[.slice (A3 0) 0 (q3 0), .slice (A3 1) 0 (q3 1), .slice (A3 2) 0 (q3 2), .slice (A3 3) 0 (q3 3), .slice (A3 4) 0 (q3 4), .slice (A3 5) 1 (q3 5), .slice (A3 6) 1 (q3 6), .slice (A3 7) 0 (q3 7)] from rfl]
  go_wp2_with fail
  have hb4 := allocs_below (rOb w3.heap.size (.cells #[.slice (A3 0) 0 (q3 0), .slice (A3 1) 0 (q3 1), .slice (A3 2) 0 (q3 2), .slice (A3 3) 0 (q3 3), .slice (A3 4) 0 (q3 4), .slice (A3 5) 1 (q3 5), .slice (A3 6) 1 (q3 6), .slice (A3 7) 0 (q3 7)] 32)) w3
  have hw4 := rows_at w3 (.cells #[.slice (A3 0) 0 (q3 0), .slice (A3 1) 0 (q3 1), .slice (A3 2) 0 (q3 2), .slice (A3 3) 0 (q3 3), .slice (A3 4) 0 (q3 4), .slice (A3 5) 1 (q3 5), .slice (A3 6) 1 (q3 6), .slice (A3 7) 0 (q3 7)] 32)
  have hx4 := allocs_at (rOb w3.heap.size (.cells #[.slice (A3 0) 0 (q3 0), .slice (A3 1) 0 (q3 1), .slice (A3 2) 0 (q3 2), .slice (A3 3) 0 (q3 3), .slice (A3 4) 0 (q3 4), .slice (A3 5) 1 (q3 5), .slice (A3 6) 1 (q3 6), .slice (A3 7) 0 (q3 7)] 32)) w3 5 _ rfl
  have hc4 := allocs_at (rOb w3.heap.size (.cells #[.slice (A3 0) 0 (q3 0), .slice (A3 1) 0 (q3 1), .slice (A3 2) 0 (q3 2), .slice (A3 3) 0 (q3 3), .slice (A3 4) 0 (q3 4), .slice (A3 5) 1 (q3 5), .slice (A3 6) 1 (q3 6), .slice (A3 7) 0 (q3 7)] 32)) w3 0 _ rfl
  have hz4 : (allocs w3 (rOb w3.heap.size (.cells #[.slice (A3 0) 0 (q3 0), .slice (A3 1) 0 (q3 1), .slice (A3 2) 0 (q3 2), .slice (A3 3) 0 (q3 3), .slice (A3 4) 0 (q3 4), .slice (A3 5) 1 (q3 5), .slice (A3 6) 1 (q3 6), .slice (A3 7) 0 (q3 7)] 32))).heap.size = w3.heap.size + 6 := allocs_size _ w3
  change Calls _ _ _ (allocs w3 (rOb w3.heap.size (.cells #[.slice (A3 0) 0 (q3 0), .slice (A3 1) 0 (q3 1), .slice (A3 2) 0 (q3 2), .slice (A3 3) 0 (q3 3), .slice (A3 4) 0 (q3 4), .slice (A3 5) 1 (q3 5), .slice (A3 6) 1 (q3 6), .slice (A3 7) 0 (q3 7)] 32))) _
  generalize (allocs w3 (rOb w3.heap.size (.cells #[.slice (A3 0) 0 (q3 0), .slice (A3 1) 0 (q3 1), .slice (A3 2) 0 (q3 2), .slice (A3 3) 0 (q3 3), .slice (A3 4) 0 (q3 4), .slice (A3 5) 1 (q3 5), .slice (A3 6) 1 (q3 6), .slice (A3 7) 0 (q3 7)] 32))) = w4 at *
  have HE4 := hide (HE3.out.kept hb4)
  have HP4 := hide (HP3.out.below hb4)
  refine (HC.out w4 HE4 HP4).mono ?_
  rintro e w5 ⟨A5, q5, rfl, hb5, -⟩
  have hb45 := hb4.trans (hb5.mono hb4.size)
  have HB5 := hide (HB3.out.trans (hb45.mono HB3.out.size))
  have HW5 := hide (HW3.out.below hb45)
  have HX5 := hide ((hb45.block (W.heap.size + 9) (by omega)).trans HX3.out)
  have HY5 := hide ((hb45.block w1.heap.size (by omega)).trans HY3.out)
  have HD5 := hide (HD13.out.below hb45)
  have HE5 := hide (HE4.out.kept hb5)
  have HP5 := hide (HP4.out.below hb5)
  have HV5 := hide (hw4.below hb5)
  have HX6 := hide ((hb5.block (w3.heap.size + 5) (by omega)).trans hx4)
  have HY6 := hide ((hb5.block (w3.heap.size + 0) (by omega)).trans hc4)
  have HD6 := hide (HD3.out.below hb45)
  have hz5 : w3.heap.size + 6 ≤ w5.heap.size := by have := hb5.size; omega
  clear HB3 HW3 HX3 HE3 HP3 HD3 HE4 HP4 HY3 HD13 hb4 hb5 hb45 hw4 hx4 hc4 HC
  rw [show (cfgVal A5 q5 CfgD.none).toArray = #[.slice (A5 0) 0 (q5 0), .slice (A5 1) 0 (q5 1), .slice (A5 2) 0 (q5 2), .slice (A5 3) 0 (q5 3), .slice (A5 4) 0 (q5 4), .slice (A5 5) 0 (q5 5), .slice (A5 6) 0 (q5 6), .slice (A5 7) 0 (q5 7)] from rfl]
  go_wp2_with fail
  have hb6 := (Below.refl w5.heap.size w5).alloc (Nat.le_refl _) (.cells #[.slice (A5 0) 0 (q5 0), .slice (A5 1) 0 (q5 1), .slice (A5 2) 0 (q5 2), .slice (A5 3) 0 (q5 3), .slice (A5 4) 0 (q5 4), .slice (A5 5) 0 (q5 5), .slice (A5 6) 0 (q5 6), .slice (A5 7) 0 (q5 7)] 32)
  generalize w5.alloc (.cells #[.slice (A5 0) 0 (q5 0), .slice (A5 1) 0 (q5 1), .slice (A5 2) 0 (q5 2), .slice (A5 3) 0 (q5 3), .slice (A5 4) 0 (q5 4), .slice (A5 5) 0 (q5 5), .slice (A5 6) 0 (q5 6), .slice (A5 7) 0 (q5 7)] 32) = w6 at *
  have HE6 := hide (HE5.out.kept hb6)
  have HP6 := hide (HP5.out.below hb6)
  refine (HD.out w6 HE6 HP6).mono ?_
  rintro e w7 ⟨A7, q7, rfl, hb7, -⟩
  have HE7 := hide (HE6.out.kept hb7)
  have HP7 := hide (HP6.out.below hb7)
  rw [show (cfgVal A7 q7 CfgD.none).toArray = #[.slice (A7 0) 0 (q7 0), .slice (A7 1) 0 (q7 1), .slice (A7 2) 0 (q7 2), .slice (A7 3) 0 (q7 3), .slice (A7 4) 0 (q7 4), .slice (A7 5) 0 (q7 5), .slice (A7 6) 0 (q7 6), .slice (A7 7) 0 (q7 7)] from rfl]
  have HB7 := hide (hb6.trans (hb7.mono hb6.size))
  clear hb6 hb7 HD
  go_wp2_with fail
  have hb8 := (Below.refl w7.heap.size w7).alloc (Nat.le_refl _) (.cells #[.slice (A7 0) 0 (q7 0), .slice (A7 1) 0 (q7 1), .slice (A7 2) 0 (q7 2), .slice (A7 3) 0 (q7 3), .slice (A7 4) 0 (q7 4), .slice (A7 5) 0 (q7 5), .slice (A7 6) 0 (q7 6), .slice (A7 7) 0 (q7 7)] 32)
  generalize w7.alloc (.cells #[.slice (A7 0) 0 (q7 0), .slice (A7 1) 0 (q7 1), .slice (A7 2) 0 (q7 2), .slice (A7 3) 0 (q7 3), .slice (A7 4) 0 (q7 4), .slice (A7 5) 0 (q7 5), .slice (A7 6) 0 (q7 6), .slice (A7 7) 0 (q7 7)] 32) = w8 at *
  have HE8 := hide (HE7.out.kept hb8)
  have HP8 := hide (HP7.out.below hb8)
  refine (HQ.out w8 HE8 HP8).mono ?_
  rintro e w9 ⟨A9, q9, rfl, hb9⟩
  have hb59 := HB7.out.trans ((hb8.trans (hb9.mono hb8.size)).mono HB7.out.size)
  have HB9 := hide (HB5.out.trans (hb59.mono HB5.out.size))
  have HW9 := hide (HW5.out.below hb59)
  have HX9 := hide ((hb59.block (W.heap.size + 9) (by omega)).trans HX5.out)
  have HY9 := hide ((hb59.block w1.heap.size (by omega)).trans HY5.out)
  have HD9 := hide (HD5.out.below hb59)
  have HV9 := hide (HV5.out.below hb59)
  have HXa := hide ((hb59.block (w3.heap.size + 5) (by omega)).trans HX6.out)
  have HYa := hide ((hb59.block (w3.heap.size + 0) (by omega)).trans HY6.out)
  have HDa := hide (HD6.out.below hb59)
  have hz9 : w5.heap.size ≤ w9.heap.size := hb59.size
  clear HB5 HW5 HX5 HY5 HD5 HV5 HX6 HY6 HD6 HE5 HP5 HE6 HP6 HE7 HP7 HE8 HP8 hb59 hb8 hb9 HB7 HQ
  have c0 := cell_of_row w9 (w1.heap.size) 0 _ _ _ HY9.out
  have c1 := cell_of_row w9 (w1.heap.size) 1 _ _ _ HY9.out
  have c2 := cell_of_row w9 (w1.heap.size) 2 _ _ _ HY9.out
  have c3 := cell_of_row w9 (w1.heap.size) 3 _ _ _ HY9.out
  have c4 := cell_of_row w9 (w1.heap.size) 4 _ _ _ HY9.out
  have c5 := cell_of_row w9 (w1.heap.size) 5 _ _ _ HY9.out
  have c6 := cell_of_row w9 (w1.heap.size) 6 _ _ _ HY9.out
  have c7 := cell_of_row w9 (w1.heap.size) 7 _ _ _ HY9.out
  have d0 : w9.cell? ⟨W.heap.size + 1 + 1 + 1 + 1 + 1 + 1 + 1 + 1 + 1, 0, none⟩ = some (.slice (some ⟨W.heap.size + 1 + 1 + 1 + 1 + 1 + 1, 0, none⟩) 1 1) := cell_of_row w9 (W.heap.size + 9) 0 _ _ _ HX9.out
  have d1 : w9.cell? ⟨W.heap.size + 1 + 1 + 1 + 1 + 1 + 1 + 1 + 1 + 1, 1, none⟩ = some (.slice none 0 0) := cell_of_row w9 (W.heap.size + 9) 1 _ _ _ HX9.out
  have d2 : w9.cell? ⟨W.heap.size + 1 + 1 + 1 + 1 + 1 + 1 + 1 + 1 + 1, 2, none⟩ = some (.slice (some ⟨W.heap.size + 1 + 1 + 1 + 1 + 1 + 1 + 1, 0, none⟩) 1 1) := cell_of_row w9 (W.heap.size + 9) 2 _ _ _ HX9.out
  have d3 : w9.cell? ⟨W.heap.size + 1 + 1 + 1 + 1 + 1 + 1 + 1 + 1 + 1, 3, none⟩ = some (.slice (some ⟨W.heap.size + 1 + 1 + 1 + 1 + 1 + 1 + 1 + 1, 0, none⟩) 1 1) := cell_of_row w9 (W.heap.size + 9) 3 _ _ _ HX9.out
  have d4 : w9.cell? ⟨W.heap.size + 1 + 1 + 1 + 1 + 1 + 1 + 1 + 1 + 1, 4, none⟩ = some (.slice none 0 0) := cell_of_row w9 (W.heap.size + 9) 4 _ _ _ HX9.out
  have d5 : w9.cell? ⟨W.heap.size + 1 + 1 + 1 + 1 + 1 + 1 + 1 + 1 + 1, 5, none⟩ = some (.slice none 0 0) := cell_of_row w9 (W.heap.size + 9) 5 _ _ _ HX9.out
  have d6 : w9.cell? ⟨W.heap.size + 1 + 1 + 1 + 1 + 1 + 1 + 1 + 1 + 1, 6, none⟩ = some (.slice none 0 0) := cell_of_row w9 (W.heap.size + 9) 6 _ _ _ HX9.out
  have d7 : w9.cell? ⟨W.heap.size + 1 + 1 + 1 + 1 + 1 + 1 + 1 + 1 + 1, 7, none⟩ = some (.slice none 0 0) := cell_of_row w9 (W.heap.size + 9) 7 _ _ _ HX9.out
  go_wp2_with fail
  refine (same_cfg wantC wantC _ _ _ _ _ _ _ _ _ _ _ _ _ _ _ _ w9 (HD9.out.mono (fun _ _ _ => trivial)) HW9.out wantC_sm wantC_sm).mono ?_
  rintro e wa ⟨rfl, hba⟩
  rw [eqB_yes rfl]
  have HBa := hide (HB9.out.trans (hba.mono HB9.out.size))
  have HVa := hide (HV9.out.below hba)
  have HXb := hide ((hba.block (w3.heap.size + 5) (by omega)).trans HXa.out)
  have HYb := hide ((hba.block (w3.heap.size + 0) (by omega)).trans HYa.out)
  have HDb := hide (HDa.out.below hba)
  clear HB9 HW9 HX9 HY9 HD9 HV9 HXa HYa HDa hba
  clear c0 c1 c2 c3 c4 c5 c6 c7 d0 d1 d2 d3 d4 d5 d6 d7
  have c0 := cell_of_row wa w3.heap.size 0 _ _ _ HYb.out
  have c1 := cell_of_row wa w3.heap.size 1 _ _ _ HYb.out
  have c2 := cell_of_row wa w3.heap.size 2 _ _ _ HYb.out
  have c3 := cell_of_row wa w3.heap.size 3 _ _ _ HYb.out
  have c4 := cell_of_row wa w3.heap.size 4 _ _ _ HYb.out
  have c5 := cell_of_row wa w3.heap.size 5 _ _ _ HYb.out
  have c6 := cell_of_row wa w3.heap.size 6 _ _ _ HYb.out
  have c7 := cell_of_row wa w3.heap.size 7 _ _ _ HYb.out
  have d0 : wa.cell? ⟨w3.heap.size + 1 + 1 + 1 + 1 + 1, 0, none⟩ = some (.slice none 0 0) := cell_of_row wa (w3.heap.size + 5) 0 _ _ _ HXb.out
  have d1 : wa.cell? ⟨w3.heap.size + 1 + 1 + 1 + 1 + 1, 1, none⟩ = some (.slice none 0 0) := cell_of_row wa (w3.heap.size + 5) 1 _ _ _ HXb.out
  have d2 : wa.cell? ⟨w3.heap.size + 1 + 1 + 1 + 1 + 1, 2, none⟩ = some (.slice none 0 0) := cell_of_row wa (w3.heap.size + 5) 2 _ _ _ HXb.out
  have d3 : wa.cell? ⟨w3.heap.size + 1 + 1 + 1 + 1 + 1, 3, none⟩ = some (.slice none 0 0) := cell_of_row wa (w3.heap.size + 5) 3 _ _ _ HXb.out
  have d4 : wa.cell? ⟨w3.heap.size + 1 + 1 + 1 + 1 + 1, 4, none⟩ = some (.slice none 0 0) := cell_of_row wa (w3.heap.size + 5) 4 _ _ _ HXb.out
  have d5 : wa.cell? ⟨w3.heap.size + 1 + 1 + 1 + 1 + 1, 5, none⟩ = some (.slice (some ⟨w3.heap.size + 1, 0, none⟩) 1 1) := cell_of_row wa (w3.heap.size + 5) 5 _ _ _ HXb.out
  have d6 : wa.cell? ⟨w3.heap.size + 1 + 1 + 1 + 1 + 1, 6, none⟩ = some (.slice (some ⟨w3.heap.size + 1 + 1 + 1 + 1, 0, none⟩) 1 1) := cell_of_row wa (w3.heap.size + 5) 6 _ _ _ HXb.out
  have d7 : wa.cell? ⟨w3.heap.size + 1 + 1 + 1 + 1 + 1, 7, none⟩ = some (.slice none 0 0) := cell_of_row wa (w3.heap.size + 5) 7 _ _ _ HXb.out
  go_wp2_with fail
  refine (same_cfg rowsC rowsC _ _ _ _ _ _ _ _ _ _ _ _ _ _ _ _ wa (HDb.out.mono (fun _ _ _ => trivial)) HVa.out rowsC_sm rowsC_sm).mono ?_
  rintro e wb ⟨rfl, hbb⟩
  rw [eqB_yes rfl]
  have HBb := hide (HBa.out.trans (hbb.mono HBa.out.size))
  clear HBa HXb HYb HDb HVa hbb c0 c1 c2 c3 c4 c5 c6 c7 d0 d1 d2 d3 d4 d5 d6 d7
  go_wp2_with fail
  go_ret
  exact ⟨rfl, HBb.out⟩
end Go.Proofs.YtlngbjphagnloaaGreatDoor
namespace Go.Proofs.YtlngbjphagnloaaGreatDoor
open Go.RowKit
theorem own : ownKnob Tryz.prog.godebug = none := by kernel_rfl
theorem laidOut : laidOutB Tryz.prog = true := by kernel_rfl
theorem gTabTy : (Tryz.prog.globals[5]?).map (·.type) = some 274 := by kernel_rfl
theorem gSpTy : (Tryz.prog.globals[0]?).map (·.type) = some 185 := by kernel_rfl
theorem gErrRTy : (Tryz.prog.globals[4]?).map (·.type) = some 165 := by kernel_rfl
theorem gErrSTy : (Tryz.prog.globals[3]?).map (·.type) = some 165 := by kernel_rfl
theorem cellsES : Tryz.prog.cellsOf 272 = 1 := by kernel_rfl
theorem cellsStr : Tryz.prog.cellsOf 9 = 1 := by kernel_rfl
theorem starES : "*" ++ "errors.errorString" = "*errors.errorString" := by decide
theorem rowES (u : TypeId) (h : Tryz.prog.typeName? 3 u = some "*errors.errorString") : u = 270 :=
  typeName_ptr_named (nm := "errors.errorString") (by rw [starES]; kernel_rfl) (by kernel_rfl) (by decide) u (by rw [starES]; exact h)
def laidL : List (String × DataW Unit) := Rows.parseAppendsRow.laid
theorem door_met (os : Os) (args : Array Value) : laidMetH Tryz.prog laidL ((World.doorLaid Tryz.prog 400 os).forCall (fun _ _ => 0) ⟨#[], args, []⟩).memory :=
  laidMetH_of_parts3 (fuel := 8) (laidMet_of_run' 8 (by kernel_rfl) (by kernel_rfl)) (by kernel_rfl) (by kernel_rfl)
theorem var_lt {W : World} {n : String} {g : Nat} {cs : Array Value} {v : Value} (hg : Tryz.prog.globalNamed n = some g) (hv : W.var? Tryz.prog n = some cs) (h0 : cs[0]? = some v) : g < W.heap.size := by
  have hc := World.var?_cell hg hv 0
  exact World.block_lt_of_cell? W ⟨g, 0, none⟩ (hc.trans h0)
theorem env_of {W : World} (h : laidMetH Tryz.prog laidL W) (_hs : W.ShapedOpen Tryz.prog) : Env W := by
  rw [MakeChecks.laidMetH_plain _ _ _ (by kernel_rfl)] at h
  have h2 := laidMet.tail (laidMet.tail h)
  have ht : Lib.TabIs Tryz.prog W "internal/strconv.uint64pow10" .u64 Lib.pow10Tab := Lib.tabIs_of_head (n := 20) gTab gTabTy Tryz.underlying274 Tryz.underlying257 (by kernel_rfl) (by kernel_rfl) h2
  have h3 := laidMet.tail h2
  obtain ⟨a1, s1, v1, -, -, -⟩ := laid_sentinel h3 gErrR gErrRTy Tryz.underlying165 rowES Tryz.underlying270 Tryz.underlying272 rfl rfl Tryz.underlying9 cellsES cellsStr
  obtain ⟨a2, s2, v2, -, -, -⟩ := laid_sentinel (laidMet.tail h3) gErrS gErrSTy Tryz.underlying165 rowES Tryz.underlying270 Tryz.underlying272 rfl rfl Tryz.underlying9 cellsES cellsStr
  exact ⟨ht, ⟨_, _, v2⟩, ⟨_, _, v1⟩, var_lt gTab ht (v := .int .u64 1) rfl, var_lt gErrS v2 rfl, var_lt gErrR v1 rfl⟩
set_option maxRecDepth 100000 in
theorem envp_of {W : World} (h : laidMetH Tryz.prog laidL W) (hs : W.ShapedOpen Tryz.prog) : EnvP W := by
  rw [MakeChecks.laidMetH_plain _ _ _ (by kernel_rfl)] at h
  have h6 := laidMet.tail (laidMet.tail (laidMet.tail (laidMet.tail (laidMet.tail (laidMet.tail h)))))
  have ht : Lib.TabIs Tryz.prog W "strings.asciiSpace" .u8 Lib.asciiSpaceTab := Lib.tabIs_of_head (n := 256) gSp gSpTy Tryz.underlying185 Tryz.underlying5 (by kernel_rfl) (by kernel_rfl) h6
  obtain ⟨m, hm⟩ := cell_of_shapedOpen_int (g := 2) (t := 3) (zero := #[.int .i64 0]) hs (of_decide_eq_true (by kernel_rfl)) (by kernel_rfl) rfl (by kernel_rfl) (by kernel_rfl) Tryz.underlying3
  have h1 := var_lt gSp ht (v := .int .u8 0) rfl
  have h2 := World.block_lt_of_cell? W ⟨2, 0, none⟩ hm
  refine ⟨ht, ⟨m, hm⟩, ?_⟩
  show 3 ≤ _
  change 0 < _ at h1
  change 2 < _ at h2
  omega
end Go.Proofs.YtlngbjphagnloaaGreatDoor
