/-
  RatField: the closures.
-/
import Derived.Test.YtdjenpccgaojgaaDoorOrd2
import Derived.Deep.RegionHeld3
namespace Go.Proofs.YtdjenpccgaojgaaDoor
open Go.RowKit
theorem setCell_same {w : World} {b : Nat} {v : Value} {t : TypeId} (h : w.heap[b]? = some (.cells #[v] t (0, 0))) : w.setCell ⟨b, 0, none⟩ v = w := by
  have e : (w.setCell ⟨b, 0, none⟩ v).heap = w.heap := by
    refine Array.ext_getElem? fun i => ?_
    unfold World.setCell
    simp only [Array.getElem?_modify]
    by_cases hi : b = i
    · subst hi; rw [h]; simp
    · simp [hi]
  have e2 : w.setCell ⟨b, 0, none⟩ v = { w with heap := (w.setCell ⟨b, 0, none⟩ v).heap } := rfl
  rw [e2, e]
theorem below_same {B : Nat} {a w : World} {b : Nat} {v : Value} {t : TypeId} (hb : Below B a w) (h : w.heap[b]? = some (.cells #[v] t (0, 0))) : Below B a (w.setCell ⟨b, 0, none⟩ v) := by
  rw [setCell_same h]; exact hb
set_option maxRecDepth 100000 in
set_option maxHeartbeats 400000 in
theorem clo_op (r1 r2 : Int) (bb : Nat) (w : World) (hb : Hid (w.heap[bb]? = some (.cells #[.int .i64 0] 26 (0, 0)))) :
    Calls Tryd.prog 26 #[.agg #[.int .i64 r1, .int .i64 r2], .int .i64 0, .pointer (some ⟨bb, 0, none⟩)] w fun e w' => e = .returned (.agg #[.int .i64 r1, .int .i64 r2]) ∧ Below w.heap.size w w' := by
  have hc := cell_of_row w bb 0 _ _ _ hb.out
  have hf := frozen_of_row w bb 0 _ _ hb.out
  have hl := blk_in hb.out
  go_enter Tryd.func26, Tryd.ntmps26
  go_wp2_with fail
  rw [setCell_same hb.out]
  refine bodyPost_ret (v := .agg #[.int .i64 r1, .int .i64 r2]) (by simp [results, Tryd.results26, go_sem]) rfl ⟨rfl, ?_⟩
  exact ((Below.refl _ _).alloc (Nat.le_refl _) _).alloc (by simp) _
theorem heldC {B : Nat} {W w' : World} {bx ky bo : Nat} {c0 c1 d0 d1 f : Value} {tx t_y to : TypeId} (hX : W.heap[bx]? = some (.cells #[c0, c1] tx (0, 0))) (hY : W.heap[ky]? = some (.cells #[d0, d1] t_y (0, 0)))
    (hO : W.heap[bo]? = some (.cells #[f] to (0, 0))) (hl : B ≤ W.heap.size) (hB : Below W.heap.size W w') :
    Below B W w' ∧ w'.cell? ⟨bo, 0, none⟩ = some f ∧ w'.cell? ⟨bx, 0, none⟩ = some c0 ∧ w'.cell? ⟨bx, 1, none⟩ = some c1 ∧ w'.cell? ⟨ky, 0, none⟩ = some d0 ∧ w'.cell? ⟨ky, 1, none⟩ = some d1 := by
  have kX := keep hX hB
  have kY := keep hY hB
  have kO := keep hO hB
  exact ⟨hB.mono hl, cell_of_row _ _ 0 _ _ _ kO, cell_of_row _ _ 0 _ _ _ kX, cell_of_row _ _ 1 _ _ _ kX, cell_of_row _ _ 0 _ _ _ kY, cell_of_row _ _ 1 _ _ _ kY⟩
theorem heldS {B : Nat} {W w' : World} {bx ky kz bo : Nat} {c0 c1 d0 d1 f u0 u1 : Value} {tx t_y to : TypeId} (hX : W.heap[bx]? = some (.cells #[c0, c1] tx (0, 0))) (hY : W.heap[ky]? = some (.cells #[d0, d1] t_y (0, 0)))
    (hO : W.heap[bo]? = some (.cells #[f] to (0, 0))) (hl : B ≤ W.heap.size) (hB : Below W.heap.size W w') (hz : B ≤ kz) (nx : bx ≠ kz) (ny : ky ≠ kz) (no : bo ≠ kz) :
    Below B W ((w'.setCell ⟨kz, 0, none⟩ u0).setCell ⟨kz, 1, none⟩ u1) ∧ ((w'.setCell ⟨kz, 0, none⟩ u0).setCell ⟨kz, 1, none⟩ u1).cell? ⟨bo, 0, none⟩ = some f ∧ ((w'.setCell ⟨kz, 0, none⟩ u0).setCell ⟨kz, 1, none⟩ u1).cell? ⟨bx, 0, none⟩ = some c0 ∧ ((w'.setCell ⟨kz, 0, none⟩ u0).setCell ⟨kz, 1, none⟩ u1).cell? ⟨bx, 1, none⟩ = some c1 ∧
      ((w'.setCell ⟨kz, 0, none⟩ u0).setCell ⟨kz, 1, none⟩ u1).cell? ⟨ky, 0, none⟩ = some d0 ∧ ((w'.setCell ⟨kz, 0, none⟩ u0).setCell ⟨kz, 1, none⟩ u1).cell? ⟨ky, 1, none⟩ = some d1 := by
  have far : ∀ k o, k ≠ kz → (((w'.setCell ⟨kz, 0, none⟩ u0).setCell ⟨kz, 1, none⟩ u1).heap[k]? = some o ↔ w'.heap[k]? = some o) := by
    intro k o hk
    rw [Below.heap_setCell _ _ _ _ hk, Below.heap_setCell _ _ _ _ hk]
  have kX := (far _ _ nx).2 (keep hX hB)
  have kY := (far _ _ ny).2 (keep hY hB)
  have kO := (far _ _ no).2 (keep hO hB)
  exact ⟨((hB.mono hl).setCell (p := ⟨kz, 0, none⟩) hz _).setCell (p := ⟨kz, 1, none⟩) hz _, cell_of_row _ _ 0 _ _ _ kO, cell_of_row _ _ 0 _ _ _ kX, cell_of_row _ _ 1 _ _ _ kX, cell_of_row _ _ 0 _ _ _ kY, cell_of_row _ _ 1 _ _ _ kY⟩
set_option maxRecDepth 100000 in
set_option maxHeartbeats 1000000 in
theorem clo_add (x1 x2 y1 y2 r1 r2 : Int) (bo bb : Nat) (w : World) (hr : Hid (opR 0 x1 x2 y1 y2 = ⟨r1, r2, 0⟩)) (hb : Hid (w.heap[bb]? = some (.cells #[.int .i64 0] 26 (0, 0))))
    (ho : Hid (w.heap[bo]? = some (.cells #[.func (.func 26) #[] #[.pointer (some ⟨bb, 0, none⟩)]] 43 (0, 0)))) :
    Calls Tryd.prog 27 #[.agg #[.int .i64 x1, .int .i64 x2], .agg #[.int .i64 y1, .int .i64 y2], .pointer (some ⟨bo, 0, none⟩)] w fun e w' => e = .returned (.agg #[.int .i64 r1, .int .i64 r2]) ∧ Below w.heap.size w w' := by
  have HO := hide (fun w => op_0 x1 x2 y1 y2 w)
  rw [hr.out] at HO
  unfold MR.val at HO
  simp only at HO
  have HP := hide (fun w h => clo_op r1 r2 bb w h)
  have hlb := blk_in hb.out
  have hlo := blk_in ho.out
  go_enter Tryd.func27, Tryd.ntmps27
  go_wp2_with fail
  have hb0 := (((Below.refl w.heap.size w).alloc (Nat.le_refl _) (.cells #[.int .i64 x1, .int .i64 x2] 23)).alloc (by simp) (.cells #[.int .i64 y1, .int .i64 y2] 23)).alloc (by simp; omega) (.cells #[.int .i64 0, .int .i64 0] 23)
  obtain ⟨hX, hY, hZ, hsz, -⟩ := box3 (w := w) (X := .cells #[.int .i64 x1, .int .i64 x2] 23) (Y := .cells #[.int .i64 y1, .int .i64 y2] 23) (Z := .cells #[.int .i64 0, .int .i64 0] 23) (Below.refl _ _)
  have hO := (hb0.block _ hlo).trans ho.out
  have hB := (hb0.block _ hlb).trans hb.out
  generalize ((w.alloc (.cells #[.int .i64 x1, .int .i64 x2] 23)).alloc (.cells #[.int .i64 y1, .int .i64 y2] 23)).alloc (.cells #[.int .i64 0, .int .i64 0] 23) = W at *
  have HB0 := hide hb0
  have HX := hide hX
  have HY := hide hY
  have HZ := hide hZ
  have HOO := hide hO
  have HBB := hide hB
  have hlb2 := blk_in hB
  clear hb0 hX hY hZ hO hB hlb
  have hno : bo ≠ w.heap.size + 1 + 1 := by omega
  clear hlo
  go_region_held3 (fun w' => Below w.heap.size W w' ∧ w'.cell? ⟨bo, 0, none⟩ = some (.func (.func 26) #[] #[.pointer (some ⟨bb, 0, none⟩)]) ∧ w'.cell? ⟨w.heap.size, 0, none⟩ = some (.int .i64 x1) ∧ w'.cell? ⟨w.heap.size, 1, none⟩ = some (.int .i64 x2) ∧ w'.cell? ⟨w.heap.size + 1, 0, none⟩ = some (.int .i64 y1) ∧ w'.cell? ⟨w.heap.size + 1, 1, none⟩ = some (.int .i64 y2))
    (first | assumption | exact heldS HX.out HY.out HOO.out (by omega) hbc (by omega) (by omega) (by omega) hno | exact heldC HX.out HY.out HOO.out (by omega) (by first | exact Below.refl _ _ | assumption | go_grown))
    (first
      | (go_at_call 10; with_reducible refine (HO.out _).mono ?_; rintro e w2 ⟨rfl, hb2⟩; have hbb : Below W.heap.size W w2 := Below.trans (by first | exact Below.refl _ _ | assumption | go_grown) (hb2.mono (Below.size (B := W.heap.size) (by first | exact Below.refl _ _ | assumption | go_grown))))
      | (go_at_call 26; refine (HP.out _ (hide ((Below.block (by first | assumption | go_grown) _ hlb2).trans HBB.out))).mono ?_; rintro e w3 ⟨rfl, hb3⟩; have hbc : Below W.heap.size W w3 := Below.trans (by first | exact Below.refl _ _ | assumption | go_grown) (hb3.mono (Below.size (B := W.heap.size) (by first | exact Below.refl _ _ | assumption | go_grown))); obtain ⟨z0, z1, zf0, zf1, zl⟩ := two_of (keep HZ.out hbc)))
  obtain ⟨c0, c1, f0, f1, hlt⟩ := two_of (keep HZ.out hbc)
  go_wp2_with fail
  refine bodyPost_ret (v := .agg #[.int .i64 r1, .int .i64 r2]) (by simp [results, Tryd.results27, go_sem, c0, c1, hlt]) rfl ⟨rfl, ?_⟩
  exact ((HB0.out.trans (hbc.mono HB0.out.size)).setCell (p := ⟨w.heap.size + 1 + 1, 0, none⟩) (by simp; omega) _).setCell (p := ⟨w.heap.size + 1 + 1, 1, none⟩) (by simp; omega) _
set_option maxRecDepth 100000 in
set_option maxHeartbeats 1000000 in
theorem clo_mul (x1 x2 y1 y2 r1 r2 : Int) (bo bb : Nat) (w : World) (hr : Hid (opR 2 x1 x2 y1 y2 = ⟨r1, r2, 0⟩)) (hb : Hid (w.heap[bb]? = some (.cells #[.int .i64 0] 26 (0, 0))))
    (ho : Hid (w.heap[bo]? = some (.cells #[.func (.func 26) #[] #[.pointer (some ⟨bb, 0, none⟩)]] 43 (0, 0)))) :
    Calls Tryd.prog 28 #[.agg #[.int .i64 x1, .int .i64 x2], .agg #[.int .i64 y1, .int .i64 y2], .pointer (some ⟨bo, 0, none⟩)] w fun e w' => e = .returned (.agg #[.int .i64 r1, .int .i64 r2]) ∧ Below w.heap.size w w' := by
  have HO := hide (fun w => op_2 x1 x2 y1 y2 w)
  rw [hr.out] at HO
  unfold MR.val at HO
  simp only at HO
  have HP := hide (fun w h => clo_op r1 r2 bb w h)
  have hlb := blk_in hb.out
  have hlo := blk_in ho.out
  go_enter Tryd.func28, Tryd.ntmps28
  go_wp2_with fail
  have hb0 := (((Below.refl w.heap.size w).alloc (Nat.le_refl _) (.cells #[.int .i64 x1, .int .i64 x2] 23)).alloc (by simp) (.cells #[.int .i64 y1, .int .i64 y2] 23)).alloc (by simp; omega) (.cells #[.int .i64 0, .int .i64 0] 23)
  obtain ⟨hX, hY, hZ, hsz, -⟩ := box3 (w := w) (X := .cells #[.int .i64 x1, .int .i64 x2] 23) (Y := .cells #[.int .i64 y1, .int .i64 y2] 23) (Z := .cells #[.int .i64 0, .int .i64 0] 23) (Below.refl _ _)
  have hO := (hb0.block _ hlo).trans ho.out
  have hB := (hb0.block _ hlb).trans hb.out
  generalize ((w.alloc (.cells #[.int .i64 x1, .int .i64 x2] 23)).alloc (.cells #[.int .i64 y1, .int .i64 y2] 23)).alloc (.cells #[.int .i64 0, .int .i64 0] 23) = W at *
  have HB0 := hide hb0
  have HX := hide hX
  have HY := hide hY
  have HZ := hide hZ
  have HOO := hide hO
  have HBB := hide hB
  have hlb2 := blk_in hB
  clear hb0 hX hY hZ hO hB hlb
  have hno : bo ≠ w.heap.size + 1 + 1 := by omega
  clear hlo
  go_region_held3 (fun w' => Below w.heap.size W w' ∧ w'.cell? ⟨bo, 0, none⟩ = some (.func (.func 26) #[] #[.pointer (some ⟨bb, 0, none⟩)]) ∧ w'.cell? ⟨w.heap.size, 0, none⟩ = some (.int .i64 x1) ∧ w'.cell? ⟨w.heap.size, 1, none⟩ = some (.int .i64 x2) ∧ w'.cell? ⟨w.heap.size + 1, 0, none⟩ = some (.int .i64 y1) ∧ w'.cell? ⟨w.heap.size + 1, 1, none⟩ = some (.int .i64 y2))
    (first | assumption | exact heldS HX.out HY.out HOO.out (by omega) hbc (by omega) (by omega) (by omega) hno | exact heldC HX.out HY.out HOO.out (by omega) (by first | exact Below.refl _ _ | assumption | go_grown))
    (first
      | (go_at_call 18; with_reducible refine (HO.out _).mono ?_; rintro e w2 ⟨rfl, hb2⟩; have hbb : Below W.heap.size W w2 := Below.trans (by first | exact Below.refl _ _ | assumption | go_grown) (hb2.mono (Below.size (B := W.heap.size) (by first | exact Below.refl _ _ | assumption | go_grown))))
      | (go_at_call 26; refine (HP.out _ (hide ((Below.block (by first | assumption | go_grown) _ hlb2).trans HBB.out))).mono ?_; rintro e w3 ⟨rfl, hb3⟩; have hbc : Below W.heap.size W w3 := Below.trans (by first | exact Below.refl _ _ | assumption | go_grown) (hb3.mono (Below.size (B := W.heap.size) (by first | exact Below.refl _ _ | assumption | go_grown))); obtain ⟨z0, z1, zf0, zf1, zl⟩ := two_of (keep HZ.out hbc)))
  obtain ⟨c0, c1, f0, f1, hlt⟩ := two_of (keep HZ.out hbc)
  go_wp2_with fail
  refine bodyPost_ret (v := .agg #[.int .i64 r1, .int .i64 r2]) (by simp [results, Tryd.results28, go_sem, c0, c1, hlt]) rfl ⟨rfl, ?_⟩
  exact ((HB0.out.trans (hbc.mono HB0.out.size)).setCell (p := ⟨w.heap.size + 1 + 1, 0, none⟩) (by simp; omega) _).setCell (p := ⟨w.heap.size + 1 + 1, 1, none⟩) (by simp; omega) _
end Go.Proofs.YtdjenpccgaojgaaDoor
