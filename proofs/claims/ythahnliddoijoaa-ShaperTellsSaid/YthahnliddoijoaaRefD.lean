/-
  nacelleref18: Next: nothing leaves.
-/
import Derived.Test.YthahnliddoijoaaRefC2
namespace Go.Proofs.Ythahnliddoijoaa
open Go.RowKit
def itZero : It := ⟨0, 0, 0, 0, []⟩
/-- The state behind a call, and the frame that has left. -/
def NxtR (w w' : World) (R' : RS) (o : Option It) (e : Ending) (err : Int) (bA : Option Addr) (bc : Nat) (F : Nat → Prop) : Prop :=
  ∃ lA lc iA ic ps dA dc, e = .returned (.tuple #[RSV R' bA lA iA bc lc ic, frameV (o.getD itZero).vl (o.getD itZero).net (o.getD itZero).seq dA (o.getD itZero).bytes.length dc, .bool o.isSome, .int .i64 err]) ∧
    RAt w' R' bA lA iA ps F ∧ Bts w' dA (o.getD itZero).bytes.length (o.getD itZero).bytes F ∧ Below w.heap.size w w' ∧ R'.items.length ≤ ic
theorem bts_nil (w : World) (F : Nat → Prop) : Bts w none 0 [] F := ⟨rfl, fun h => by omega⟩
theorem bestTo_clock (R : RS) (t : Int) : ∀ k, (⟨R.bags, t, R.left, R.items⟩ : RS).bestTo k = R.bestTo k
  | 0 => rfl
  | k + 1 => by
    rw [RS.bestTo, RS.bestTo, bestTo_clock R t k]
    rfl
theorem best_clock (R : RS) (t : Int) : (⟨R.bags, t, R.left, R.items⟩ : RS).best = R.best := bestTo_clock R t _
set_option maxRecDepth 100000 in
set_option maxHeartbeats 1000000 in
theorem rnext_late (R : RS) (bA lA iA : Option Addr) (bc lc ic : Nat) (ps : List (It × Value)) (F : Nat → Prop) (t : Int) (w : World) (h : Hid (RAt w R bA lA iA ps F)) (hic : Hid (R.items.length ≤ ic)) (hlate : Hid (R.late t = true)) :
    Calls Try.prog 38 #[RSV R bA lA iA bc lc ic, .int .i64 t] w fun e w' => NxtR w w' R none e 2 bA bc F := by
  have HR : Hid (∀ w', Below w.heap.size w w' → NxtR w w' R none (.returned (.tuple #[RSV R bA lA iA bc lc ic, frameV 0 0 0 none 0 0, .bool false, .int .i64 2])) 2 bA bc F) := fun w' hb => ⟨lA, lc, iA, ic, ps, none, 0, rfl, h.out.below hb, bts_nil _ _, hb, hic.out⟩
  unfold RSV frameV at HR
  have HE := hide (fun W => early_any R bA lA iA bc lc ic t W)
  unfold RSV at HE ⊢
  generalize R.bags.length = nb at *
  generalize R.left.length = nl at *
  generalize hni : R.items.length = ni at *
  have HNI := hide hni
  clear hni
  generalize R.clock = ck at *
  rw [hlate.out] at HE
  go_enter Try.func38, Try.ntmps38
  go_wp2_with fail
  refine (HE.out _).mono ?_
  rintro e w1 ⟨rfl, hb⟩
  obtain ⟨hX, hY, hZ, hsz, hb⟩ := box3 hb
  have HB := hide hb
  have HX := hide hX
  have HY := hide hY
  have HZ := hide hZ
  obtain ⟨x0, x1, x2, x3, xl⟩ := four_of hX
  obtain ⟨y0, y1, y2, y3, yl⟩ := four_of hY
  obtain ⟨z0, z1, z2, z3, zl⟩ := four_of hZ
  have f1 := frozen_of_row w1 w.heap.size 1 _ _ hX
  have g0 := frozen_of_row w1 (w.heap.size + 1) 0 _ _ HY.out
  have g1 := frozen_of_row w1 (w.heap.size + 1) 1 _ _ HY.out
  have g2 := frozen_of_row w1 (w.heap.size + 1) 2 _ _ HY.out
  have g3 := frozen_of_row w1 (w.heap.size + 1) 3 _ _ HY.out
  have k0 := frozen_of_row w1 (w.heap.size + 1 + 1) 0 _ _ HZ.out
  have k1 := frozen_of_row w1 (w.heap.size + 1 + 1) 1 _ _ HZ.out
  have k2 := frozen_of_row w1 (w.heap.size + 1 + 1) 2 _ _ HZ.out
  have k3 := frozen_of_row w1 (w.heap.size + 1 + 1) 3 _ _ HZ.out
  clear hb hX hY hZ
  go_wp2_with fail
  refine bodyPost_ret (v := .tuple #[.agg #[.slice bA nb bc, .int .i64 ck, .slice lA nl lc, .slice iA ni ic], .agg #[.int .i64 0, .int .i64 0, .int .i64 0, .slice none 0 0], .bool false, .int .i64 2]) (by simp [results, Try.results38, go_sem, y0, y1, y2, y3, yl, z0, z1, z2, z3, zl]) rfl (HR.out _ ?_)
  refine Below.setCell (Below.setCell (Below.setCell (Below.setCell (Below.setCell (Below.setCell (Below.setCell (Below.setCell HB.out ?_ _) ?_ _) ?_ _) ?_ _) ?_ _) ?_ _) ?_ _) ?_ _
  all_goals (simp only; omega)
set_option maxRecDepth 100000 in
set_option maxHeartbeats 2000000 in
theorem rnext_none (R : RS) (bA lA iA : Option Addr) (bc lc ic : Nat) (ps : List (It × Value)) (F : Nat → Prop) (t : Int) (w : World) (h : Hid (RAt w R bA lA iA ps F)) (hic : Hid (R.items.length ≤ ic)) (hlate : Hid (R.late t = false)) (t0 : 0 ≤ t) (t1 : t ≤ 1073741824) (hno : Hid (R.best.2 < 0 ∨ t < R.best.1)) :
    Calls Try.prog 38 #[RSV R bA lA iA bc lc ic, .int .i64 t] w fun e w' => NxtR w w' ⟨R.bags, t, R.left, R.items⟩ none e 0 bA bc F := by
  have HR : Hid (∀ w', Below w.heap.size w w' → NxtR w w' ⟨R.bags, t, R.left, R.items⟩ none (.returned (.tuple #[RSV ⟨R.bags, t, R.left, R.items⟩ bA lA iA bc lc ic, frameV 0 0 0 none 0 0, .bool false, .int .i64 0])) 0 bA bc F) := fun w' hb => ⟨lA, lc, iA, ic, ps, none, 0, rfl, (h.out.below hb).clock t0 t1, bts_nil _ _, hb, hic.out⟩
  have HBS := hide (fun W (hW : Hid (RAt W ⟨R.bags, t, R.left, R.items⟩ bA lA iA ps F)) => best_r ⟨R.bags, t, R.left, R.items⟩ bA lA iA bc lc ic ps F W hW)
  have HBE : Hid ((⟨R.bags, t, R.left, R.items⟩ : RS).best = R.best) := best_clock R t
  rw [HBE.out] at HBS
  unfold RSV frameV at HR
  unfold RSV pairV at HBS
  dsimp only at HR HBS
  have hno2 := hno.out
  generalize R.best = bst at *
  obtain ⟨lst, at_⟩ := bst
  simp only at HBS hno2
  have HE := hide (fun W => early_any R bA lA iA bc lc ic t W)
  unfold RSV at HE ⊢
  generalize R.bags.length = nb at *
  generalize R.left.length = nl at *
  generalize hni : R.items.length = ni at *
  have HNI := hide hni
  clear hni
  generalize R.clock = ck at *
  rw [hlate.out] at HE
  go_enter Try.func38, Try.ntmps38
  go_wp2_with fail
  refine (HE.out _).mono ?_
  rintro e w1 ⟨rfl, hb⟩
  obtain ⟨hX, hY, hZ, hsz, hb⟩ := box3 hb
  have HB := hide hb
  have HX := hide hX
  have HY := hide hY
  have HZ := hide hZ
  obtain ⟨x0, x1, x2, x3, xl⟩ := four_of hX
  obtain ⟨y0, y1, y2, y3, yl⟩ := four_of hY
  obtain ⟨z0, z1, z2, z3, zl⟩ := four_of hZ
  have f1 := frozen_of_row w1 w.heap.size 1 _ _ hX
  have HX1 : Hid ((w1.setCell ⟨w.heap.size, 1, none⟩ (.int .i64 t)).heap[w.heap.size]? = some (.cells #[.slice bA nb bc, .int .i64 t, .slice lA nl lc, .slice iA ni ic] 45 (0, 0))) := set_blk hX
  have HY1 := hide (set_far (x := w.heap.size) (j := 1) (u := .int .i64 t) hY (by omega))
  have HZ1 := hide (set_far (x := w.heap.size) (j := 1) (u := .int .i64 t) hZ (by omega))
  have HB1 := hide (HB.out.setCell (p := ⟨w.heap.size, 1, none⟩) (Nat.le_refl _) (.int .i64 t))
  have hsz1 : w.heap.size + 3 ≤ (w1.setCell ⟨w.heap.size, 1, none⟩ (.int .i64 t)).heap.size := by simpa [World.setCell] using hsz
  clear hb hX hY hZ HX HY HZ HB
  go_wp2_with fail
  generalize w1.setCell ⟨w.heap.size, 1, none⟩ (.int .i64 t) = W1 at *
  clear x0 x1 x2 x3 xl y0 y1 y2 y3 yl z0 z1 z2 z3 zl f1 hsz
  refine (HBS.out W1 (hide ((h.out.below HB1.out).clock t0 t1))).mono ?_
  rintro e w2 ⟨rfl, hb⟩
  have HX := hide (keep HX1.out hb)
  have HY := hide (keep HY1.out hb)
  have HZ := hide (keep HZ1.out hb)
  have HB := hide (HB1.out.trans (hb.mono HB1.out.size))
  have hsz : w.heap.size + 3 ≤ w2.heap.size := Nat.le_trans hsz1 hb.size
  obtain ⟨x0, x1, x2, x3, xl⟩ := four_of HX.out
  obtain ⟨y0, y1, y2, y3, yl⟩ := four_of HY.out
  obtain ⟨z0, z1, z2, z3, zl⟩ := four_of HZ.out
  have g0 := frozen_of_row w2 (w.heap.size + 1) 0 _ _ HY.out
  have g1 := frozen_of_row w2 (w.heap.size + 1) 1 _ _ HY.out
  have g2 := frozen_of_row w2 (w.heap.size + 1) 2 _ _ HY.out
  have g3 := frozen_of_row w2 (w.heap.size + 1) 3 _ _ HY.out
  have k0 := frozen_of_row w2 (w.heap.size + 1 + 1) 0 _ _ HZ.out
  have k1 := frozen_of_row w2 (w.heap.size + 1 + 1) 1 _ _ HZ.out
  have k2 := frozen_of_row w2 (w.heap.size + 1 + 1) 2 _ _ HZ.out
  have k3 := frozen_of_row w2 (w.heap.size + 1 + 1) 3 _ _ HZ.out
  clear hb HX1 HY1 HZ1 HB1 hsz1
  by_cases hat : at_ < 0
  case' neg =>
    have hlt : t < lst := hno2.resolve_left hat
  all_goals
    clear hno2 hno
    go_wp2_with fail
    refine bodyPost_ret (v := .tuple #[.agg #[.slice bA nb bc, .int .i64 t, .slice lA nl lc, .slice iA ni ic], .agg #[.int .i64 0, .int .i64 0, .int .i64 0, .slice none 0 0], .bool false, .int .i64 0]) (by simp [results, Try.results38, go_sem, y0, y1, y2, y3, yl, z0, z1, z2, z3, zl]) rfl (HR.out _ ?_)
    refine Below.setCell (Below.setCell (Below.setCell (Below.setCell (Below.setCell (Below.setCell (Below.setCell (Below.setCell HB.out ?_ _) ?_ _) ?_ _) ?_ _) ?_ _) ?_ _) ?_ _) ?_ _
    all_goals (simp only; omega)
end Go.Proofs.Ythahnliddoijoaa
