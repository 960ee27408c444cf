/-
  nacellekit: mark, markIns.
-/
import Derived.Test.YtgbfaompondolaaGreatDoorFRg
import Derived.Laws.MakeOwn
namespace Go.Proofs.YtgbfaompondolaaGreatDoor
open Go.RowKit
attribute [local go_sem] Later.cell
def mkI (k i : Int) : Int := 1000003 * (k + 7) + i
set_option maxRecDepth 100000 in
set_option maxHeartbeats 400000 in
theorem mark_any (k i : Int) (w : World) (k0 : 0 ≤ k) (k1 : k ≤ 1000) (i0 : 0 ≤ i) (i1 : i ≤ 281474976710656) : Calls Tryz.prog 190 #[.int .i64 k, .int .i64 i] w fun e w' => e = .returned (.int .i64 (mkI k i)) ∧ w = w' := by
  have HM : Hid (mkI k i = 1000003 * (k + 7) + i) := rfl
  go_enter Tryz.func190, Tryz.ntmps190
  go_wp2_with fail
  go_ret
  exact ⟨by rw [HM.out]; rfl, rfl⟩
def insM (i : Int) : InsD := ⟨0, mkI 1 i, 0, 0⟩
def insVs (x : InsD) : List Value := [.int .u8 (x.op : Int), .int .i64 x.a, .int .i64 x.b, .int .i64 x.c]
set_option maxRecDepth 100000 in
set_option maxHeartbeats 400000 in
theorem markIns_any (i : Int) (w : World) (i0 : 0 ≤ i) (i1 : i ≤ 281474976710656) : Calls Tryz.prog 109 #[.int .i64 1, .int .i64 i] w fun e w' => e = .returned (.agg #[.int .u8 0, .int .i64 (mkI 1 i), .int .i64 0, .int .i64 0]) ∧ Below w.heap.size w w' := by
  have HM := hide (fun w => mark_any 1 i w (by omega) (by omega) i0 i1)
  generalize mkI 1 i = m at *
  have HB := hide ((Below.refl w.heap.size w).alloc (Nat.le_refl _) (.cells #[.int .u8 0, .int .i64 0, .int .i64 0, .int .i64 0] 78))
  have HX := hide (heap_alloc_new w (.cells #[.int .u8 0, .int .i64 0, .int .i64 0, .int .i64 0] 78))
  go_enter Tryz.func109, Tryz.ntmps109
  go_wp2_with fail
  generalize w.alloc (.cells #[.int .u8 0, .int .i64 0, .int .i64 0, .int .i64 0] 78) = w0 at *
  refine (HM.out w0).mono ?_
  rintro e w' ⟨rfl, rfl⟩
  have hlt := (Array.getElem?_eq_some_iff.1 HX.out).1
  have c0 := cell_of_row _ _ 0 _ _ _ HX.out
  have c1 := cell_of_row _ _ 1 _ _ _ HX.out
  have c2 := cell_of_row _ _ 2 _ _ _ HX.out
  have c3 := cell_of_row _ _ 3 _ _ _ HX.out
  have f0 := frozen_of_row _ _ 0 _ _ HX.out
  have f1 := frozen_of_row _ _ 1 _ _ HX.out
  have f2 := frozen_of_row _ _ 2 _ _ HX.out
  have f3 := frozen_of_row _ _ 3 _ _ HX.out
  go_wp2_with fail
  refine bodyPost_ret (v := .agg #[.int .u8 0, .int .i64 m, .int .i64 0, .int .i64 0]) (by simp [results, Tryz.results109, go_sem, c0, c1, c2, c3]) rfl ⟨rfl, ?_⟩
  exact (((HB.out.setCell (p := ⟨w.heap.size, 0, none⟩) (Nat.le_refl _) _).setCell (p := ⟨w.heap.size, 1, none⟩) (Nat.le_refl _) _).setCell (p := ⟨w.heap.size, 2, none⟩) (Nat.le_refl _) _).setCell (p := ⟨w.heap.size, 3, none⟩) (Nat.le_refl _) _
end Go.Proofs.YtgbfaompondolaaGreatDoor
