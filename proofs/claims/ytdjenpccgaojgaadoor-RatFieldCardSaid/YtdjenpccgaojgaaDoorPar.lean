/-
  rat: Parse, at the chapter's examples; text.
-/
import Derived.Test.YtdjenpccgaojgaaDoorStr
namespace Go.Proofs.YtdjenpccgaojgaaDoor
open Go.RowKit
theorem cut_any (s sep sn sd : ByteArray) (f : Bool) (w : World) (hE : Env w) (hs : s.size < 4294967281) (hc : Lib.cut s.data.toList sep.data.toList = (sn.data.toList, sd.data.toList, f)) : Calls Tryd.prog 41 #[.string s, .string sep] w fun e w' => e = .returned (.tuple #[.string sn, .string sd, .bool f]) ∧ ∃ n, w' = w.drewN n := by
  obtain ⟨m, hm⟩ := hE.cut
  have := Tryd.strings_Cut s sep m w hs hm
  rw [hc] at this
  exact this
theorem set1 {w : World} {x : Nat} {a b c : Value} {t : TypeId} (h : w.heap[x]? = some (.cells #[a, b] t (0, 0))) : (w.setCell ⟨x, 1, none⟩ c).heap[x]? = some (.cells #[a, c] t (0, 0)) := by
  simp only [World.setCell, Array.getElem?_modify]
  rw [if_pos trivial, h]
  rfl
theorem set1_far {w : World} {x z : Nat} {c : Value} {o : Obj} (h : w.heap[z]? = some o) (hne : z ≠ x) : (w.setCell ⟨x, 1, none⟩ c).heap[z]? = some o := (Below.heap_setCell _ _ _ _ (fun e => hne e)).trans h
theorem parse_56_cut : Lib.cut ((⟨#[53, 47, 54]⟩ : ByteArray).data.toList) ((⟨#[47]⟩ : ByteArray).data.toList) = ((⟨#[53]⟩ : ByteArray).data.toList, (⟨#[54]⟩ : ByteArray).data.toList, true) := by decide +kernel
theorem parse_56_n : Lib.atoiAll (⟨#[53]⟩ : ByteArray).data.toList = .ok 5 := by decide +kernel
theorem parse_56_d : Lib.atoiAll (⟨#[54]⟩ : ByteArray).data.toList = .ok 6 := by decide +kernel
theorem parse_56_str : strL 5 6 = [53, 47, 54] := by decide +kernel
set_option maxRecDepth 100000 in
set_option maxHeartbeats 400000 in
theorem parse_56 (w : World) (hE : Hid (Env w)) : Calls Tryd.prog 32 #[.string ⟨#[53, 47, 54]⟩] w fun e w' => e = .returned (MR.val ⟨5, 6, 0⟩) ∧ Below w.heap.size w w' := by
  have HC := hide (fun (w : World) (h : Env w) => cut_any ⟨#[53, 47, 54]⟩ ⟨#[47]⟩ ⟨#[53]⟩ ⟨#[54]⟩ true w h (by decide) parse_56_cut)
  have HN := hide (fun w => number_ok ⟨#[53]⟩ 5 w (by decide) parse_56_n)
  have HM := hide (fun w => number_ok ⟨#[54]⟩ 6 w (by decide) parse_56_d)
  have HS := hide (fun (w : World) (h : Env w) => string_any 5 6 w h)
  rw [parse_56_str] at HS
  go_enter Tryd.func32, Tryd.ntmps32
  go_wp2_with fail
  refine (HC.out _ (hE.out.kept ((Below.refl _ _).alloc (Nat.le_refl _) _))).mono ?_
  rintro e w1 ⟨rfl, d, rfl⟩
  go_wp2_with fail
  refine (HN.out _).mono ?_
  rintro e w2 ⟨rfl, hb⟩
  go_wp2_with fail
  have hZ2 : w2.heap[w.heap.size]? = some (.cells #[.int .i64 0, .int .i64 0] 23 (0, 0)) := (hb.block _ (by show _ < (w.alloc _).heap.size; simp)).trans (heap_alloc_new w _)
  have hbl : Below w.heap.size w w2 := (below_drewN ((Below.refl _ _).alloc (Nat.le_refl _) _) d).trans (hb.mono (by show w.heap.size ≤ (w.alloc _).heap.size; simp))
  clear hb
  refine (HM.out _).mono ?_
  rintro e w3 ⟨rfl, hb⟩
  obtain ⟨hX3, hsz3, hbl3⟩ := box1 hb
  have hZ3 := (hbl3.block _ (blk_in hZ2)).trans hZ2
  have hne : w.heap.size ≠ w2.heap.size := by have := blk_in hZ2; omega
  have hB3 := hbl.trans (hbl3.mono hbl.size)
  obtain ⟨x0, x1, y0, y1, xl⟩ := two_of hX3
  have hle : w.heap.size ≤ w2.heap.size := hbl.size
  have HX := hide (set1 (c := .int .i64 6) hX3)
  have HZ := hide (set1_far (c := .int .i64 6) (x := w2.heap.size) hZ3 hne)
  have HB := hide (hB3.setCell (p := ⟨w2.heap.size, 1, none⟩) hle (.int .i64 6))
  have HNE := hide hne
  clear hb hbl hbl3 hX3 hZ3 hZ2 hB3 hne
  generalize w2.heap.size = xb at *
  go_wp2_with fail
  refine (HS.out _ (hE.out.kept HB.out)).mono ?_
  rintro e w4 ⟨rfl, hb⟩
  obtain ⟨x0, x1, -, -, xl⟩ := two_of ((hb.block _ (blk_in HX.out)).trans HX.out)
  obtain ⟨z0, z1, fz0, fz1, zl⟩ := two_of ((hb.block _ (blk_in HZ.out)).trans HZ.out)
  have HB4 := hide (HB.out.trans (hb.mono HB.out.size))
  clear hb HX HZ HB
  go_wp2_with fail
  refine bodyPost_ret (v := .tuple #[.agg #[.int .i64 5, .int .i64 6], .int .i64 0]) (by simp [results, Tryd.results32, go_sem, z0, z1, zl]) rfl ⟨rfl, ?_⟩
  exact (HB4.out.setCell (p := ⟨w.heap.size, 0, none⟩) (by simp) _).setCell (p := ⟨w.heap.size, 1, none⟩) (by simp) _
theorem parse_46_cut : Lib.cut ((⟨#[52, 47, 54]⟩ : ByteArray).data.toList) ((⟨#[47]⟩ : ByteArray).data.toList) = ((⟨#[52]⟩ : ByteArray).data.toList, (⟨#[54]⟩ : ByteArray).data.toList, true) := by decide +kernel
theorem parse_46_n : Lib.atoiAll (⟨#[52]⟩ : ByteArray).data.toList = .ok 4 := by decide +kernel
theorem parse_46_d : Lib.atoiAll (⟨#[54]⟩ : ByteArray).data.toList = .ok 6 := by decide +kernel
theorem parse_46_str : strL 4 6 = [] := by decide +kernel
set_option maxRecDepth 100000 in
set_option maxHeartbeats 400000 in
theorem parse_46 (w : World) (hE : Hid (Env w)) : Calls Tryd.prog 32 #[.string ⟨#[52, 47, 54]⟩] w fun e w' => e = .returned (MR.val ⟨0, 0, 2⟩) ∧ Below w.heap.size w w' := by
  have HC := hide (fun (w : World) (h : Env w) => cut_any ⟨#[52, 47, 54]⟩ ⟨#[47]⟩ ⟨#[52]⟩ ⟨#[54]⟩ true w h (by decide) parse_46_cut)
  have HN := hide (fun w => number_ok ⟨#[52]⟩ 4 w (by decide) parse_46_n)
  have HM := hide (fun w => number_ok ⟨#[54]⟩ 6 w (by decide) parse_46_d)
  have HS := hide (fun (w : World) (h : Env w) => string_any 4 6 w h)
  rw [parse_46_str] at HS
  go_enter Tryd.func32, Tryd.ntmps32
  go_wp2_with fail
  refine (HC.out _ (hE.out.kept ((Below.refl _ _).alloc (Nat.le_refl _) _))).mono ?_
  rintro e w1 ⟨rfl, d, rfl⟩
  go_wp2_with fail
  refine (HN.out _).mono ?_
  rintro e w2 ⟨rfl, hb⟩
  go_wp2_with fail
  have hZ2 : w2.heap[w.heap.size]? = some (.cells #[.int .i64 0, .int .i64 0] 23 (0, 0)) := (hb.block _ (by show _ < (w.alloc _).heap.size; simp)).trans (heap_alloc_new w _)
  have hbl : Below w.heap.size w w2 := (below_drewN ((Below.refl _ _).alloc (Nat.le_refl _) _) d).trans (hb.mono (by show w.heap.size ≤ (w.alloc _).heap.size; simp))
  clear hb
  refine (HM.out _).mono ?_
  rintro e w3 ⟨rfl, hb⟩
  obtain ⟨hX3, hsz3, hbl3⟩ := box1 hb
  have hZ3 := (hbl3.block _ (blk_in hZ2)).trans hZ2
  have hne : w.heap.size ≠ w2.heap.size := by have := blk_in hZ2; omega
  have hB3 := hbl.trans (hbl3.mono hbl.size)
  obtain ⟨x0, x1, y0, y1, xl⟩ := two_of hX3
  have hle : w.heap.size ≤ w2.heap.size := hbl.size
  have HX := hide (set1 (c := .int .i64 6) hX3)
  have HZ := hide (set1_far (c := .int .i64 6) (x := w2.heap.size) hZ3 hne)
  have HB := hide (hB3.setCell (p := ⟨w2.heap.size, 1, none⟩) hle (.int .i64 6))
  have HNE := hide hne
  clear hb hbl hbl3 hX3 hZ3 hZ2 hB3 hne
  generalize w2.heap.size = xb at *
  go_wp2_with fail
  refine (HS.out _ (hE.out.kept HB.out)).mono ?_
  rintro e w4 ⟨rfl, hb⟩
  obtain ⟨x0, x1, -, -, xl⟩ := two_of ((hb.block _ (blk_in HX.out)).trans HX.out)
  obtain ⟨z0, z1, fz0, fz1, zl⟩ := two_of ((hb.block _ (blk_in HZ.out)).trans HZ.out)
  have HB4 := hide (HB.out.trans (hb.mono HB.out.size))
  clear hb HX HZ HB
  go_wp2_with fail
  refine bodyPost_ret (v := .tuple #[.agg #[.int .i64 0, .int .i64 0], .int .i64 2]) (by simp [results, Tryd.results32, go_sem, z0, z1, zl]) rfl ⟨rfl, ?_⟩
  exact (HB4.out.setCell (p := ⟨w.heap.size, 0, none⟩) (by simp) _).setCell (p := ⟨w.heap.size, 1, none⟩) (by simp) _
theorem parse_11_cut : Lib.cut ((⟨#[49, 47, 49]⟩ : ByteArray).data.toList) ((⟨#[47]⟩ : ByteArray).data.toList) = ((⟨#[49]⟩ : ByteArray).data.toList, (⟨#[49]⟩ : ByteArray).data.toList, true) := by decide +kernel
theorem parse_11_n : Lib.atoiAll (⟨#[49]⟩ : ByteArray).data.toList = .ok 1 := by decide +kernel
theorem parse_11_d : Lib.atoiAll (⟨#[49]⟩ : ByteArray).data.toList = .ok 1 := by decide +kernel
theorem parse_11_str : strL 1 1 = [49] := by decide +kernel
set_option maxRecDepth 100000 in
set_option maxHeartbeats 400000 in
theorem parse_11 (w : World) (hE : Hid (Env w)) : Calls Tryd.prog 32 #[.string ⟨#[49, 47, 49]⟩] w fun e w' => e = .returned (MR.val ⟨0, 0, 2⟩) ∧ Below w.heap.size w w' := by
  have HC := hide (fun (w : World) (h : Env w) => cut_any ⟨#[49, 47, 49]⟩ ⟨#[47]⟩ ⟨#[49]⟩ ⟨#[49]⟩ true w h (by decide) parse_11_cut)
  have HN := hide (fun w => number_ok ⟨#[49]⟩ 1 w (by decide) parse_11_n)
  have HM := hide (fun w => number_ok ⟨#[49]⟩ 1 w (by decide) parse_11_d)
  have HS := hide (fun (w : World) (h : Env w) => string_any 1 1 w h)
  rw [parse_11_str] at HS
  go_enter Tryd.func32, Tryd.ntmps32
  go_wp2_with fail
  refine (HC.out _ (hE.out.kept ((Below.refl _ _).alloc (Nat.le_refl _) _))).mono ?_
  rintro e w1 ⟨rfl, d, rfl⟩
  go_wp2_with fail
  refine (HN.out _).mono ?_
  rintro e w2 ⟨rfl, hb⟩
  go_wp2_with fail
  have hZ2 : w2.heap[w.heap.size]? = some (.cells #[.int .i64 0, .int .i64 0] 23 (0, 0)) := (hb.block _ (by show _ < (w.alloc _).heap.size; simp)).trans (heap_alloc_new w _)
  have hbl : Below w.heap.size w w2 := (below_drewN ((Below.refl _ _).alloc (Nat.le_refl _) _) d).trans (hb.mono (by show w.heap.size ≤ (w.alloc _).heap.size; simp))
  clear hb
  refine (HM.out _).mono ?_
  rintro e w3 ⟨rfl, hb⟩
  obtain ⟨hX3, hsz3, hbl3⟩ := box1 hb
  have hZ3 := (hbl3.block _ (blk_in hZ2)).trans hZ2
  have hne : w.heap.size ≠ w2.heap.size := by have := blk_in hZ2; omega
  have hB3 := hbl.trans (hbl3.mono hbl.size)
  obtain ⟨x0, x1, y0, y1, xl⟩ := two_of hX3
  have hle : w.heap.size ≤ w2.heap.size := hbl.size
  have HX := hide (set1 (c := .int .i64 1) hX3)
  have HZ := hide (set1_far (c := .int .i64 1) (x := w2.heap.size) hZ3 hne)
  have HB := hide (hB3.setCell (p := ⟨w2.heap.size, 1, none⟩) hle (.int .i64 1))
  have HNE := hide hne
  clear hb hbl hbl3 hX3 hZ3 hZ2 hB3 hne
  generalize w2.heap.size = xb at *
  go_wp2_with fail
  refine (HS.out _ (hE.out.kept HB.out)).mono ?_
  rintro e w4 ⟨rfl, hb⟩
  obtain ⟨x0, x1, -, -, xl⟩ := two_of ((hb.block _ (blk_in HX.out)).trans HX.out)
  obtain ⟨z0, z1, fz0, fz1, zl⟩ := two_of ((hb.block _ (blk_in HZ.out)).trans HZ.out)
  have HB4 := hide (HB.out.trans (hb.mono HB.out.size))
  clear hb HX HZ HB
  go_wp2_with fail
  refine bodyPost_ret (v := .tuple #[.agg #[.int .i64 0, .int .i64 0], .int .i64 2]) (by simp [results, Tryd.results32, go_sem, z0, z1, zl]) rfl ⟨rfl, ?_⟩
  exact (HB4.out.setCell (p := ⟨w.heap.size, 0, none⟩) (by simp) _).setCell (p := ⟨w.heap.size, 1, none⟩) (by simp) _
theorem p0_cut : Lib.cut ((⟨#[45, 48]⟩ : ByteArray).data.toList) ((⟨#[47]⟩ : ByteArray).data.toList) = ((⟨#[45, 48]⟩ : ByteArray).data.toList, (⟨#[]⟩ : ByteArray).data.toList, false) := by decide +kernel
theorem p0_n : Lib.atoiAll (⟨#[45, 48]⟩ : ByteArray).data.toList = .ok 0 := by decide +kernel
theorem p0_str : strL 0 1 = [48] := by decide +kernel
set_option maxRecDepth 100000 in
set_option maxHeartbeats 400000 in
theorem parse_m0 (w : World) (hE : Hid (Env w)) : Calls Tryd.prog 32 #[.string ⟨#[45, 48]⟩] w fun e w' => e = .returned (MR.val ⟨0, 0, 2⟩) ∧ Below w.heap.size w w' := by
  have HC := hide (fun (w : World) (h : Env w) => cut_any ⟨#[45, 48]⟩ ⟨#[47]⟩ ⟨#[45, 48]⟩ ⟨#[]⟩ false w h (by decide) p0_cut)
  have HN := hide (fun w => number_ok ⟨#[45, 48]⟩ 0 w (by decide) p0_n)
  have HS := hide (fun (w : World) (h : Env w) => string_any 0 1 w h)
  rw [p0_str] at HS
  go_enter Tryd.func32, Tryd.ntmps32
  go_wp2_with fail
  refine (HC.out _ (hE.out.kept ((Below.refl _ _).alloc (Nat.le_refl _) _))).mono ?_
  rintro e w1 ⟨rfl, d, rfl⟩
  go_wp2_with fail
  refine (HN.out _).mono ?_
  rintro e w2 ⟨rfl, hb⟩
  have hZ2 : w2.heap[w.heap.size]? = some (.cells #[.int .i64 0, .int .i64 0] 23 (0, 0)) := (hb.block _ (by show _ < (w.alloc _).heap.size; simp)).trans (heap_alloc_new w _)
  have hbl : Below w.heap.size w w2 := (below_drewN ((Below.refl _ _).alloc (Nat.le_refl _) _) d).trans (hb.mono (by show w.heap.size ≤ (w.alloc _).heap.size; simp))
  clear hb
  have HZ := hide hZ2
  have HB := hide hbl
  clear hZ2 hbl
  go_wp2_with fail
  refine (HS.out _ (hE.out.kept (HB.out.alloc HB.out.size _))).mono ?_
  rintro e w4 ⟨rfl, hb⟩
  obtain ⟨hX4, hsz4, hbl4⟩ := box1 hb
  obtain ⟨z0, z1, fz0, fz1, zl⟩ := two_of ((hbl4.block _ (blk_in HZ.out)).trans HZ.out)
  have HB4 := hide (HB.out.trans (hbl4.mono HB.out.size))
  clear hb HZ HB hX4 hbl4
  go_wp2_with fail
  refine bodyPost_ret (v := .tuple #[.agg #[.int .i64 0, .int .i64 0], .int .i64 2]) (by simp [results, Tryd.results32, go_sem, z0, z1, zl]) rfl ⟨rfl, ?_⟩
  exact (HB4.out.setCell (p := ⟨w.heap.size, 0, none⟩) (by simp) _).setCell (p := ⟨w.heap.size, 1, none⟩) (by simp) _
theorem t64_mk : (mkR 6 (-4)).n = -3 ∧ (mkR 6 (-4)).d = 2 ∧ (mkR 6 (-4)).e = 0 := by decide +kernel
theorem t64_mk' : mkR 6 (-4) = ⟨-3, 2, 0⟩ := by obtain ⟨h1, h2, h3⟩ := t64_mk; cases h : mkR 6 (-4); rw [h] at h1 h2 h3; simp only at h1 h2 h3; subst h1 h2 h3; rfl
theorem t64_str : strL (-3) 2 = [45, 51, 47, 50] := by decide +kernel
set_option maxRecDepth 100000 in
set_option maxHeartbeats 400000 in
theorem text_64 (w : World) (hE : Hid (Env w)) : Calls Tryd.prog 33 #[.int .i64 6, .int .i64 (-4)] w fun e w' => e = .returned (.string ⟨#[45, 51, 47, 50]⟩) ∧ Below w.heap.size w w' := by
  have HM := hide (fun w => make_any 6 (-4) w (by decide) (by decide) (by decide) (by decide))
  rw [t64_mk'] at HM
  unfold MR.val at HM
  simp only at HM
  have HS := hide (fun (w : World) (h : Env w) => string_any (-3) 2 w h)
  rw [t64_str] at HS
  go_enter Tryd.func33, Tryd.ntmps33
  go_wp2_with fail
  refine (HM.out _).mono ?_
  rintro e w1 ⟨rfl, hb⟩
  have HB := hide hb
  clear hb
  go_wp2_with fail
  refine (HS.out _ (hE.out.kept (HB.out.alloc HB.out.size _))).mono ?_
  rintro e w2 ⟨rfl, hb⟩
  have HB2 := hide (HB.out.trans ((box1 hb).2.2.mono HB.out.size))
  clear hb
  go_wp2_with fail
  go_ret
  exact ⟨rfl, HB2.out⟩
end Go.Proofs.YtdjenpccgaojgaaDoor
