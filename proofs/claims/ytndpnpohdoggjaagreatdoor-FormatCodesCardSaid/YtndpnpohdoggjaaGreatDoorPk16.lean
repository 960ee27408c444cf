/-
  Merged texts: format: Same of configurations that say the same (printed by tools/mksame.py). | format: the builder's methods at the head of the printer's block. | format: String at the head of the printer's block. | format: refText, netText, fits. | format: say.
-/
import Derived.Test.YtndpnpohdoggjaaGreatDoorPk15
import Derived.Test.YtndpnpohdoggjaaGreatDoorPk14
import Derived.Test.YtndpnpohdoggjaaGreatDoorShelf
import Derived.Lib.Builder
import Derived.Lib.AppendStr
import Derived.Shelf.Strings.Builder1
namespace Go.Proofs.YtndpnpohdoggjaaGreatDoor
open Go.RowKit
attribute [local go_sem] Later.cell
def allocS (W : World) (l : List Obj) : World := l.foldl World.alloc W
theorem allocS_size : ∀ (l : List Obj) (W : World), (allocS W l).heap.size = W.heap.size + l.length
  | [], W => rfl
  | o :: l, W => by
    show (allocS (W.alloc o) l).heap.size = _
    rw [allocS_size l (W.alloc o), World.size_alloc, List.length_cons]
    omega
theorem allocS_below : ∀ (l : List Obj) (W : World), Below W.heap.size W (allocS W l)
  | [], W => Below.refl _ _
  | o :: l, W => ((Below.refl W.heap.size W).alloc (Nat.le_refl _) o).trans ((allocS_below l (W.alloc o)).mono (by simp))
theorem allocS_at : ∀ (l : List Obj) (W : World) (i : Nat) (o : Obj), l[i]? = some o → (allocS W l).heap[W.heap.size + i]? = some o
  | [], W, i, o, h => by simp at h
  | p :: l, W, 0, o, h => by
    have h : p = o := by simpa using h
    subst h
    have hb := (allocS_below l (W.alloc p)).block W.heap.size (by simp)
    rw [Nat.add_zero]
    exact hb.trans (heap_alloc_new W p)
  | p :: l, W, i + 1, o, h => by
    have := allocS_at l (W.alloc p) i o (by simpa using h)
    rw [World.size_alloc] at this
    rw [show W.heap.size + (i + 1) = W.heap.size + 1 + i by omega]
    exact this
def sOb (z : Nat) (us vs : List Value) : List Obj := [.cells us.toArray 49, .cells vs.toArray 49, .cells #[.func (.func 50) #[] #[]] 140, .cells #[.func (.func 52) #[] #[.pointer (some ⟨z + 1 + 1, 0, none⟩)]] 144]
set_option maxRecDepth 100000 in
set_option maxHeartbeats 4000000 in
theorem same_cfg (x : CfgD) (us vs : List Value) (W : World) (ha : Hid (DCells W (fun _ => True) us x.cells)) (hb : Hid (DCells W (fun _ => True) vs x.cells)) (hl : CfgFit x) :
    Calls Tryz.prog 11 #[.agg us.toArray, .agg vs.toArray] W fun e w' => e = .returned (.bool true) ∧ Below W.heap.size W w' := by
  have hd := ha.out
  have he := hb.out
  obtain ⟨u0, us, rfl, h0, hd⟩ := dcells_cons hd
  obtain ⟨v0, vs, rfl, i0, he⟩ := dcells_cons he
  obtain ⟨u1, us, rfl, h1, hd⟩ := dcells_cons hd
  obtain ⟨v1, vs, rfl, i1, he⟩ := dcells_cons he
  obtain ⟨u2, us, rfl, h2, hd⟩ := dcells_cons hd
  obtain ⟨v2, vs, rfl, i2, he⟩ := dcells_cons he
  obtain ⟨u3, us, rfl, h3, hd⟩ := dcells_cons hd
  obtain ⟨v3, vs, rfl, i3, he⟩ := dcells_cons he
  obtain ⟨u4, us, rfl, h4, hd⟩ := dcells_cons hd
  obtain ⟨v4, vs, rfl, i4, he⟩ := dcells_cons he
  obtain ⟨u5, us, rfl, h5, hd⟩ := dcells_cons hd
  obtain ⟨v5, vs, rfl, i5, he⟩ := dcells_cons he
  obtain ⟨u6, us, rfl, h6, hd⟩ := dcells_cons hd
  obtain ⟨v6, vs, rfl, i6, he⟩ := dcells_cons he
  obtain ⟨u7, us, rfl, h7, hd⟩ := dcells_cons hd
  obtain ⟨v7, vs, rfl, i7, he⟩ := dcells_cons he
  obtain rfl := dcells_nil hd
  obtain rfl := dcells_nil he
  have HU0 := hide h0
  have HV0 := hide i0
  obtain ⟨A0, p0, rfl, -⟩ := h0.slice
  obtain ⟨B0, r0, rfl, -⟩ := i0.slice
  simp only [List.length_map] at HU0 HV0 ⊢
  have HU1 := hide h1
  have HV1 := hide i1
  obtain ⟨A1, p1, rfl, -⟩ := h1.slice
  obtain ⟨B1, r1, rfl, -⟩ := i1.slice
  simp only [List.length_map] at HU1 HV1 ⊢
  have HU2 := hide h2
  have HV2 := hide i2
  obtain ⟨A2, p2, rfl, -⟩ := h2.slice
  obtain ⟨B2, r2, rfl, -⟩ := i2.slice
  simp only [List.length_map] at HU2 HV2 ⊢
  have HU3 := hide h3
  have HV3 := hide i3
  obtain ⟨A3, p3, rfl, -⟩ := h3.slice
  obtain ⟨B3, r3, rfl, -⟩ := i3.slice
  simp only [List.length_map] at HU3 HV3 ⊢
  have HU4 := hide h4
  have HV4 := hide i4
  obtain ⟨A4, p4, rfl, -⟩ := h4.slice
  obtain ⟨B4, r4, rfl, -⟩ := i4.slice
  simp only [List.length_map] at HU4 HV4 ⊢
  have HU5 := hide h5
  have HV5 := hide i5
  obtain ⟨A5, p5, rfl, -⟩ := h5.slice
  obtain ⟨B5, r5, rfl, -⟩ := i5.slice
  simp only [List.length_map] at HU5 HV5 ⊢
  have HU6 := hide h6
  have HV6 := hide i6
  obtain ⟨A6, p6, rfl, -⟩ := h6.slice
  obtain ⟨B6, r6, rfl, -⟩ := i6.slice
  simp only [List.length_map] at HU6 HV6 ⊢
  have HU7 := hide h7
  have HV7 := hide i7
  obtain ⟨A7, p7, rfl, -⟩ := h7.slice
  obtain ⟨B7, r7, rfl, -⟩ := i7.slice
  simp only [List.length_map] at HU7 HV7 ⊢
  clear ha hb hd he h0 i0 h1 i1 h2 i2 h3 i3 h4 i4 h5 i5 h6 i6 h7 i7
  go_enter Tryz.func11, Tryz.ntmps11
  go_wp2_with fail
  have hb0 := allocS_below (sOb W.heap.size [.slice A0 x.modules.length p0, .slice A1 x.channels.length p1, .slice A2 x.switches.length p2, .slice A3 x.links.length p3, .slice A4 x.vls.length p4, .slice A5 x.health.length p5, .slice A6 x.causes.length p6, .slice A7 x.versions.length p7] [.slice B0 x.modules.length r0, .slice B1 x.channels.length r1, .slice B2 x.switches.length r2, .slice B3 x.links.length r3, .slice B4 x.vls.length r4, .slice B5 x.health.length r5, .slice B6 x.causes.length r6, .slice B7 x.versions.length r7]) W
  have HX := hide (allocS_at (sOb W.heap.size [.slice A0 x.modules.length p0, .slice A1 x.channels.length p1, .slice A2 x.switches.length p2, .slice A3 x.links.length p3, .slice A4 x.vls.length p4, .slice A5 x.health.length p5, .slice A6 x.causes.length p6, .slice A7 x.versions.length p7] [.slice B0 x.modules.length r0, .slice B1 x.channels.length r1, .slice B2 x.switches.length r2, .slice B3 x.links.length r3, .slice B4 x.vls.length r4, .slice B5 x.health.length r5, .slice B6 x.causes.length r6, .slice B7 x.versions.length r7]) W 0 _ rfl)
  have HY := hide (allocS_at (sOb W.heap.size [.slice A0 x.modules.length p0, .slice A1 x.channels.length p1, .slice A2 x.switches.length p2, .slice A3 x.links.length p3, .slice A4 x.vls.length p4, .slice A5 x.health.length p5, .slice A6 x.causes.length p6, .slice A7 x.versions.length p7] [.slice B0 x.modules.length r0, .slice B1 x.channels.length r1, .slice B2 x.switches.length r2, .slice B3 x.links.length r3, .slice B4 x.vls.length r4, .slice B5 x.health.length r5, .slice B6 x.causes.length r6, .slice B7 x.versions.length r7]) W 1 _ rfl)
  have HQ := hide (allocS_at (sOb W.heap.size [.slice A0 x.modules.length p0, .slice A1 x.channels.length p1, .slice A2 x.switches.length p2, .slice A3 x.links.length p3, .slice A4 x.vls.length p4, .slice A5 x.health.length p5, .slice A6 x.causes.length p6, .slice A7 x.versions.length p7] [.slice B0 x.modules.length r0, .slice B1 x.channels.length r1, .slice B2 x.switches.length r2, .slice B3 x.links.length r3, .slice B4 x.vls.length r4, .slice B5 x.health.length r5, .slice B6 x.causes.length r6, .slice B7 x.versions.length r7]) W 2 _ rfl)
  have HR := hide (allocS_at (sOb W.heap.size [.slice A0 x.modules.length p0, .slice A1 x.channels.length p1, .slice A2 x.switches.length p2, .slice A3 x.links.length p3, .slice A4 x.vls.length p4, .slice A5 x.health.length p5, .slice A6 x.causes.length p6, .slice A7 x.versions.length p7] [.slice B0 x.modules.length r0, .slice B1 x.channels.length r1, .slice B2 x.switches.length r2, .slice B3 x.links.length r3, .slice B4 x.vls.length r4, .slice B5 x.health.length r5, .slice B6 x.causes.length r6, .slice B7 x.versions.length r7]) W 3 _ rfl)
  change Calls _ _ _ (allocS W (sOb W.heap.size [.slice A0 x.modules.length p0, .slice A1 x.channels.length p1, .slice A2 x.switches.length p2, .slice A3 x.links.length p3, .slice A4 x.vls.length p4, .slice A5 x.health.length p5, .slice A6 x.causes.length p6, .slice A7 x.versions.length p7] [.slice B0 x.modules.length r0, .slice B1 x.channels.length r1, .slice B2 x.switches.length r2, .slice B3 x.links.length r3, .slice B4 x.vls.length r4, .slice B5 x.health.length r5, .slice B6 x.causes.length r6, .slice B7 x.versions.length r7])) _
  generalize allocS W (sOb W.heap.size [.slice A0 x.modules.length p0, .slice A1 x.channels.length p1, .slice A2 x.switches.length p2, .slice A3 x.links.length p3, .slice A4 x.vls.length p4, .slice A5 x.health.length p5, .slice A6 x.causes.length p6, .slice A7 x.versions.length p7] [.slice B0 x.modules.length r0, .slice B1 x.channels.length r1, .slice B2 x.switches.length r2, .slice B3 x.links.length r3, .slice B4 x.vls.length r4, .slice B5 x.health.length r5, .slice B6 x.causes.length r6, .slice B7 x.versions.length r7]) = w0 at *
  have HB := hide hb0
  clear hb0
  have HC := hide (same_mods (W.heap.size + 3) (W.heap.size + 2) _ _ x.modules w0 (hide (HU0.out.later HB.out)) (hide (HV0.out.later HB.out)) hl.nm hl.m (by rw [cell_of_row _ _ 0 _ _ _ HR.out]; rfl) (by rw [cell_of_row _ _ 0 _ _ _ HQ.out]; rfl))
  refine HC.out.mono ?_
  rintro e w1 ⟨rfl, hb⟩
  have HBn := hide (HB.out.trans (hb.mono HB.out.size))
  have HXn := hide ((hb.block _ (Array.getElem?_eq_some_iff.1 HX.out).1).trans HX.out)
  have HYn := hide ((hb.block _ (Array.getElem?_eq_some_iff.1 HY.out).1).trans HY.out)
  clear HB HX HY hb HC
  have HB := HBn
  have HX := HXn
  have HY := HYn
  clear HBn HXn HYn
  have a0 := cell_of_row _ _ 0 _ _ _ HX.out
  have b0 := cell_of_row _ _ 0 _ _ _ HY.out
  have a1 := cell_of_row _ _ 1 _ _ _ HX.out
  have b1 := cell_of_row _ _ 1 _ _ _ HY.out
  have a2 := cell_of_row _ _ 2 _ _ _ HX.out
  have b2 := cell_of_row _ _ 2 _ _ _ HY.out
  have a3 := cell_of_row _ _ 3 _ _ _ HX.out
  have b3 := cell_of_row _ _ 3 _ _ _ HY.out
  have a4 := cell_of_row _ _ 4 _ _ _ HX.out
  have b4 := cell_of_row _ _ 4 _ _ _ HY.out
  have a5 := cell_of_row _ _ 5 _ _ _ HX.out
  have b5 := cell_of_row _ _ 5 _ _ _ HY.out
  have a6 := cell_of_row _ _ 6 _ _ _ HX.out
  have b6 := cell_of_row _ _ 6 _ _ _ HY.out
  have a7 := cell_of_row _ _ 7 _ _ _ HX.out
  have b7 := cell_of_row _ _ 7 _ _ _ HY.out
  simp only [Nat.add_zero] at a0 a1 a2 a3 a4 a5 a6 a7
  go_wp2_with fail
  clear a0 b0 a1 b1 a2 b2 a3 b3 a4 b4 a5 b5 a6 b6 a7 b7
  have HC := hide (same_chans _ _ x.channels w1 (hide (HU1.out.later HB.out)) (hide (HV1.out.later HB.out)) hl.nc hl.c)
  refine HC.out.mono ?_
  rintro e w2 ⟨rfl, hb⟩
  have HBn := hide (HB.out.trans (hb.mono HB.out.size))
  have HXn := hide ((hb.block _ (Array.getElem?_eq_some_iff.1 HX.out).1).trans HX.out)
  have HYn := hide ((hb.block _ (Array.getElem?_eq_some_iff.1 HY.out).1).trans HY.out)
  clear HB HX HY hb HC
  have HB := HBn
  have HX := HXn
  have HY := HYn
  clear HBn HXn HYn
  have a0 := cell_of_row _ _ 0 _ _ _ HX.out
  have b0 := cell_of_row _ _ 0 _ _ _ HY.out
  have a1 := cell_of_row _ _ 1 _ _ _ HX.out
  have b1 := cell_of_row _ _ 1 _ _ _ HY.out
  have a2 := cell_of_row _ _ 2 _ _ _ HX.out
  have b2 := cell_of_row _ _ 2 _ _ _ HY.out
  have a3 := cell_of_row _ _ 3 _ _ _ HX.out
  have b3 := cell_of_row _ _ 3 _ _ _ HY.out
  have a4 := cell_of_row _ _ 4 _ _ _ HX.out
  have b4 := cell_of_row _ _ 4 _ _ _ HY.out
  have a5 := cell_of_row _ _ 5 _ _ _ HX.out
  have b5 := cell_of_row _ _ 5 _ _ _ HY.out
  have a6 := cell_of_row _ _ 6 _ _ _ HX.out
  have b6 := cell_of_row _ _ 6 _ _ _ HY.out
  have a7 := cell_of_row _ _ 7 _ _ _ HX.out
  have b7 := cell_of_row _ _ 7 _ _ _ HY.out
  simp only [Nat.add_zero] at a0 a1 a2 a3 a4 a5 a6 a7
  go_wp2_with fail
  clear a0 b0 a1 b1 a2 b2 a3 b3 a4 b4 a5 b5 a6 b6 a7 b7
  have HC := hide (same_sws _ _ x.switches w2 (hide (HU2.out.later HB.out)) (hide (HV2.out.later HB.out)) hl.ns)
  refine HC.out.mono ?_
  rintro e w3 ⟨rfl, hb⟩
  have HBn := hide (HB.out.trans (hb.mono HB.out.size))
  have HXn := hide ((hb.block _ (Array.getElem?_eq_some_iff.1 HX.out).1).trans HX.out)
  have HYn := hide ((hb.block _ (Array.getElem?_eq_some_iff.1 HY.out).1).trans HY.out)
  clear HB HX HY hb HC
  have HB := HBn
  have HX := HXn
  have HY := HYn
  clear HBn HXn HYn
  have a0 := cell_of_row _ _ 0 _ _ _ HX.out
  have b0 := cell_of_row _ _ 0 _ _ _ HY.out
  have a1 := cell_of_row _ _ 1 _ _ _ HX.out
  have b1 := cell_of_row _ _ 1 _ _ _ HY.out
  have a2 := cell_of_row _ _ 2 _ _ _ HX.out
  have b2 := cell_of_row _ _ 2 _ _ _ HY.out
  have a3 := cell_of_row _ _ 3 _ _ _ HX.out
  have b3 := cell_of_row _ _ 3 _ _ _ HY.out
  have a4 := cell_of_row _ _ 4 _ _ _ HX.out
  have b4 := cell_of_row _ _ 4 _ _ _ HY.out
  have a5 := cell_of_row _ _ 5 _ _ _ HX.out
  have b5 := cell_of_row _ _ 5 _ _ _ HY.out
  have a6 := cell_of_row _ _ 6 _ _ _ HX.out
  have b6 := cell_of_row _ _ 6 _ _ _ HY.out
  have a7 := cell_of_row _ _ 7 _ _ _ HX.out
  have b7 := cell_of_row _ _ 7 _ _ _ HY.out
  simp only [Nat.add_zero] at a0 a1 a2 a3 a4 a5 a6 a7
  go_wp2_with fail
  clear a0 b0 a1 b1 a2 b2 a3 b3 a4 b4 a5 b5 a6 b6 a7 b7
  have HC := hide (same_links _ _ x.links w3 (hide (HU3.out.later HB.out)) (hide (HV3.out.later HB.out)) hl.nl)
  refine HC.out.mono ?_
  rintro e w4 ⟨rfl, hb⟩
  have HBn := hide (HB.out.trans (hb.mono HB.out.size))
  have HXn := hide ((hb.block _ (Array.getElem?_eq_some_iff.1 HX.out).1).trans HX.out)
  have HYn := hide ((hb.block _ (Array.getElem?_eq_some_iff.1 HY.out).1).trans HY.out)
  clear HB HX HY hb HC
  have HB := HBn
  have HX := HXn
  have HY := HYn
  clear HBn HXn HYn
  have a0 := cell_of_row _ _ 0 _ _ _ HX.out
  have b0 := cell_of_row _ _ 0 _ _ _ HY.out
  have a1 := cell_of_row _ _ 1 _ _ _ HX.out
  have b1 := cell_of_row _ _ 1 _ _ _ HY.out
  have a2 := cell_of_row _ _ 2 _ _ _ HX.out
  have b2 := cell_of_row _ _ 2 _ _ _ HY.out
  have a3 := cell_of_row _ _ 3 _ _ _ HX.out
  have b3 := cell_of_row _ _ 3 _ _ _ HY.out
  have a4 := cell_of_row _ _ 4 _ _ _ HX.out
  have b4 := cell_of_row _ _ 4 _ _ _ HY.out
  have a5 := cell_of_row _ _ 5 _ _ _ HX.out
  have b5 := cell_of_row _ _ 5 _ _ _ HY.out
  have a6 := cell_of_row _ _ 6 _ _ _ HX.out
  have b6 := cell_of_row _ _ 6 _ _ _ HY.out
  have a7 := cell_of_row _ _ 7 _ _ _ HX.out
  have b7 := cell_of_row _ _ 7 _ _ _ HY.out
  simp only [Nat.add_zero] at a0 a1 a2 a3 a4 a5 a6 a7
  go_wp2_with fail
  clear a0 b0 a1 b1 a2 b2 a3 b3 a4 b4 a5 b5 a6 b6 a7 b7
  have HC := hide (same_vls _ _ x.vls w4 (hide (HU4.out.later HB.out)) (hide (HV4.out.later HB.out)) hl.nv hl.v)
  refine HC.out.mono ?_
  rintro e w5 ⟨rfl, hb⟩
  have HBn := hide (HB.out.trans (hb.mono HB.out.size))
  have HXn := hide ((hb.block _ (Array.getElem?_eq_some_iff.1 HX.out).1).trans HX.out)
  have HYn := hide ((hb.block _ (Array.getElem?_eq_some_iff.1 HY.out).1).trans HY.out)
  clear HB HX HY hb HC
  have HB := HBn
  have HX := HXn
  have HY := HYn
  clear HBn HXn HYn
  have a0 := cell_of_row _ _ 0 _ _ _ HX.out
  have b0 := cell_of_row _ _ 0 _ _ _ HY.out
  have a1 := cell_of_row _ _ 1 _ _ _ HX.out
  have b1 := cell_of_row _ _ 1 _ _ _ HY.out
  have a2 := cell_of_row _ _ 2 _ _ _ HX.out
  have b2 := cell_of_row _ _ 2 _ _ _ HY.out
  have a3 := cell_of_row _ _ 3 _ _ _ HX.out
  have b3 := cell_of_row _ _ 3 _ _ _ HY.out
  have a4 := cell_of_row _ _ 4 _ _ _ HX.out
  have b4 := cell_of_row _ _ 4 _ _ _ HY.out
  have a5 := cell_of_row _ _ 5 _ _ _ HX.out
  have b5 := cell_of_row _ _ 5 _ _ _ HY.out
  have a6 := cell_of_row _ _ 6 _ _ _ HX.out
  have b6 := cell_of_row _ _ 6 _ _ _ HY.out
  have a7 := cell_of_row _ _ 7 _ _ _ HX.out
  have b7 := cell_of_row _ _ 7 _ _ _ HY.out
  simp only [Nat.add_zero] at a0 a1 a2 a3 a4 a5 a6 a7
  go_wp2_with fail
  clear a0 b0 a1 b1 a2 b2 a3 b3 a4 b4 a5 b5 a6 b6 a7 b7
  have HC := hide (same_healths _ _ x.health w5 (hide (HU5.out.later HB.out)) (hide (HV5.out.later HB.out)) hl.nh)
  refine HC.out.mono ?_
  rintro e w6 ⟨rfl, hb⟩
  have HBn := hide (HB.out.trans (hb.mono HB.out.size))
  have HXn := hide ((hb.block _ (Array.getElem?_eq_some_iff.1 HX.out).1).trans HX.out)
  have HYn := hide ((hb.block _ (Array.getElem?_eq_some_iff.1 HY.out).1).trans HY.out)
  clear HB HX HY hb HC
  have HB := HBn
  have HX := HXn
  have HY := HYn
  clear HBn HXn HYn
  have a0 := cell_of_row _ _ 0 _ _ _ HX.out
  have b0 := cell_of_row _ _ 0 _ _ _ HY.out
  have a1 := cell_of_row _ _ 1 _ _ _ HX.out
  have b1 := cell_of_row _ _ 1 _ _ _ HY.out
  have a2 := cell_of_row _ _ 2 _ _ _ HX.out
  have b2 := cell_of_row _ _ 2 _ _ _ HY.out
  have a3 := cell_of_row _ _ 3 _ _ _ HX.out
  have b3 := cell_of_row _ _ 3 _ _ _ HY.out
  have a4 := cell_of_row _ _ 4 _ _ _ HX.out
  have b4 := cell_of_row _ _ 4 _ _ _ HY.out
  have a5 := cell_of_row _ _ 5 _ _ _ HX.out
  have b5 := cell_of_row _ _ 5 _ _ _ HY.out
  have a6 := cell_of_row _ _ 6 _ _ _ HX.out
  have b6 := cell_of_row _ _ 6 _ _ _ HY.out
  have a7 := cell_of_row _ _ 7 _ _ _ HX.out
  have b7 := cell_of_row _ _ 7 _ _ _ HY.out
  simp only [Nat.add_zero] at a0 a1 a2 a3 a4 a5 a6 a7
  go_wp2_with fail
  clear a0 b0 a1 b1 a2 b2 a3 b3 a4 b4 a5 b5 a6 b6 a7 b7
  have HC := hide (same_causes _ _ x.causes w6 (hide (HU6.out.later HB.out)) (hide (HV6.out.later HB.out)) hl.nk hl.k)
  refine HC.out.mono ?_
  rintro e w7 ⟨rfl, hb⟩
  have HBn := hide (HB.out.trans (hb.mono HB.out.size))
  have HXn := hide ((hb.block _ (Array.getElem?_eq_some_iff.1 HX.out).1).trans HX.out)
  have HYn := hide ((hb.block _ (Array.getElem?_eq_some_iff.1 HY.out).1).trans HY.out)
  clear HB HX HY hb HC
  have HB := HBn
  have HX := HXn
  have HY := HYn
  clear HBn HXn HYn
  have a0 := cell_of_row _ _ 0 _ _ _ HX.out
  have b0 := cell_of_row _ _ 0 _ _ _ HY.out
  have a1 := cell_of_row _ _ 1 _ _ _ HX.out
  have b1 := cell_of_row _ _ 1 _ _ _ HY.out
  have a2 := cell_of_row _ _ 2 _ _ _ HX.out
  have b2 := cell_of_row _ _ 2 _ _ _ HY.out
  have a3 := cell_of_row _ _ 3 _ _ _ HX.out
  have b3 := cell_of_row _ _ 3 _ _ _ HY.out
  have a4 := cell_of_row _ _ 4 _ _ _ HX.out
  have b4 := cell_of_row _ _ 4 _ _ _ HY.out
  have a5 := cell_of_row _ _ 5 _ _ _ HX.out
  have b5 := cell_of_row _ _ 5 _ _ _ HY.out
  have a6 := cell_of_row _ _ 6 _ _ _ HX.out
  have b6 := cell_of_row _ _ 6 _ _ _ HY.out
  have a7 := cell_of_row _ _ 7 _ _ _ HX.out
  have b7 := cell_of_row _ _ 7 _ _ _ HY.out
  simp only [Nat.add_zero] at a0 a1 a2 a3 a4 a5 a6 a7
  go_wp2_with fail
  clear a0 b0 a1 b1 a2 b2 a3 b3 a4 b4 a5 b5 a6 b6 a7 b7
  have HC := hide (same_vers _ _ x.versions w7 (hide (HU7.out.later HB.out)) (hide (HV7.out.later HB.out)) hl.nr)
  refine HC.out.mono ?_
  rintro e w8 ⟨rfl, hb⟩
  have HBn := hide (HB.out.trans (hb.mono HB.out.size))
  have HXn := hide ((hb.block _ (Array.getElem?_eq_some_iff.1 HX.out).1).trans HX.out)
  have HYn := hide ((hb.block _ (Array.getElem?_eq_some_iff.1 HY.out).1).trans HY.out)
  clear HB HX HY hb HC
  have HB := HBn
  have HX := HXn
  have HY := HYn
  clear HBn HXn HYn
  go_wp2_with fail
  go_ret
  exact ⟨rfl, HB.out⟩
end Go.Proofs.YtndpnpohdoggjaaGreatDoor
namespace Go.Proofs.YtndpnpohdoggjaaGreatDoor
open Go.RowKit
attribute [local go_sem] Later.cell
theorem bld_size : (Tryz.prog.info? 116).map (·.size) = some 2 := by kernel_rfl
theorem bld_lies : liesAt Tryz.prog Tryz.prog.depth 120 (10 / Tryz.prog.cellsOf 120) 0 116 1 = true := by kernel_rfl
set_option maxRecDepth 100000 in
set_option maxHeartbeats 4000000 in
theorem check_used (b : Nat) (w : World) (h0 : w.cell? ⟨b, 0, none⟩ = some (.pointer (some ⟨b, 0, none⟩))) :
    Calls Tryz.prog 141 #[.pointer (some ⟨b, 0, none⟩)] w fun e w' => e = .returned (.tuple #[]) ∧ w' = w := by
  obtain ⟨j, hj, _⟩ := Option.map_eq_some_iff.1 bld_size
  go_enter Tryz.func141, Tryz.ntmps141
  go_wp2_with fail
  rw [Lib.run_neq_ptr_same w _ Tryz.underlying113 hj]
  go_wp2_with fail
  go_end0
  exact ⟨rfl, rfl⟩
set_option maxRecDepth 100000 in
set_option maxHeartbeats 4000000 in
theorem check_fresh (b : Nat) (w : World) (h0 : w.cell? ⟨b, 0, none⟩ = some (.pointer none)) (hsh : w.shape? b = some (120, 10)) (hfz : w.frozen? ⟨b, 0, none⟩ = false) :
    Calls Tryz.prog 141 #[.pointer (some ⟨b, 0, none⟩)] w fun e w' => e = .returned (.tuple #[]) ∧ w' = w.setCell ⟨b, 0, none⟩ (.pointer (some ⟨b, 0, none⟩)) := by
  obtain ⟨j, hj, hjs⟩ := Option.map_eq_some_iff.1 bld_size
  go_enter Tryz.func141, Tryz.ntmps141
  go_wp2_with fail
  rw [Lib.run_to_unsafe w ⟨b, 0, none⟩ Tryz.underlying113 Tryz.underlying246 hj (by rw [hjs]; decide) hsh (Nat.zero_lt_succ 9)]
  simp only [Result.andThen]
  rw [Oper.upon_value]
  go_wp2_with fail
  rw [run_callFunc_extern Tryz.func182 (by kernel_rfl) (by kernel_rfl) (by kernel_rfl) (e := Extern.AbiNoEscape.same) (by kernel_rfl)]
  rw [Lib.run_noEscape]
  simp only [Result.andThen]
  rw [Oper.upon_value]
  go_wp2_with fail
  rw [Lib.run_from_unsafe w ⟨b, 0, none⟩ Tryz.underlying246 Tryz.underlying113 hj hsh bld_lies]
  simp only [Result.andThen]
  rw [Oper.upon_value]
  go_wp2_with fail
  go_end0
  exact ⟨rfl, rfl⟩
structure C8 where
  c0 : Value
  c1 : Value
  c2 : Value
  c3 : Value
  c4 : Value
  c5 : Value
  c6 : Value
  c7 : Value
def C8.row (k : C8) (p v : Value) : Array Value := #[p, v, k.c0, k.c1, k.c2, k.c3, k.c4, k.c5, k.c6, k.c7]
/-- The printer's block: the builder holds L, p is its own address or nothing yet. -/
def PrU (B b : Nat) (k : C8) (p : Value) (L : List UInt8) (w : World) : Prop := B ≤ b ∧ ∃ v, w.heap[b]? = some (.cells (k.row p v) 120 (0, 0)) ∧ w.ownsRow B 5 1 v L.length (Lib.byteCells L)
def PrAt (B b : Nat) (k : C8) (L : List UInt8) (w : World) : Prop := PrU B b k (.pointer none) L w ∨ PrU B b k (.pointer (some ⟨b, 0, none⟩)) L w
theorem PrU.lt {B b : Nat} {k : C8} {p : Value} {L : List UInt8} {w : World} (h : PrU B b k p L w) : b < w.heap.size := by
  obtain ⟨_, v, hb, _⟩ := h
  exact (Array.getElem?_eq_some_iff.1 hb).1
theorem PrU.put {B b : Nat} {k : C8} {p v v' : Value} {L : List UInt8} {w : World} (hB : B ≤ b) (hb : w.heap[b]? = some (.cells (k.row p v) 120 (0, 0))) (hown : w.ownsRow B 5 1 v' L.length (Lib.byteCells L)) : PrU B b k p L (w.setCell ⟨b, 1, none⟩ v') := by
  have hne := Lib.ownBlock_ne hown hb (by decide)
  refine ⟨hB, v', ?_, ?_⟩
  · simp [World.setCell, Array.getElem?_modify, hb, C8.row]
  · exact hown.kept (row := some b) ⟨rfl, rfl, rfl, by simp [World.setCell], fun k _ hk => Below.heap_setCell _ _ _ _ (fun e => hk (by simp [e]))⟩ (Or.inr hne)
theorem PrU.used {B b : Nat} {k : C8} {p : Value} {L : List UInt8} {w : World} (h : PrU B b k p L w) (q : Value) : PrU B b k q L (w.setCell ⟨b, 0, none⟩ q) := by
  obtain ⟨hB, v, hb, hown⟩ := h
  have hne := Lib.ownBlock_ne hown hb (by decide)
  refine ⟨hB, v, ?_, ?_⟩
  · simp [World.setCell, Array.getElem?_modify, hb, C8.row]
  · exact hown.kept (row := some b) ⟨rfl, rfl, rfl, by simp [World.setCell], fun k _ hk => Below.heap_setCell _ _ _ _ (fun e => hk (by simp [e]))⟩ (Or.inr hne)
/-- What the printer's writing leaves: every block but its own and those of bytes. -/
def Oth (w : World) (g : Nat) : Prop := ∃ cs T fr, w.heap[g]? = some (.cells cs T fr) ∧ T ≠ 5
structure PrK (b : Nat) (w w' : World) : Prop where
  size : w.heap.size ≤ w'.heap.size
  block : ∀ g, g ≠ b → Oth w g → w'.heap[g]? = w.heap[g]?
theorem PrK.refl (b : Nat) (w : World) : PrK b w w := ⟨Nat.le_refl _, fun _ _ _ => rfl⟩
theorem PrK.trans {b : Nat} {w w' w'' : World} (h : PrK b w w') (k : PrK b w' w'') : PrK b w w'' :=
  ⟨Nat.le_trans h.size k.size, fun g hg ho => (k.block g hg (by obtain ⟨cs, T, fr, h1, h2⟩ := ho; exact ⟨cs, T, fr, (h.block g hg ⟨cs, T, fr, h1, h2⟩).trans h1, h2⟩)).trans (h.block g hg ho)⟩
theorem PrK.set (b j : Nat) (w : World) (x : Value) : PrK b w (w.setCell ⟨b, j, none⟩ x) :=
  ⟨by simp [World.setCell], fun g hg _ => Below.heap_setCell _ _ _ _ hg⟩
theorem PrK.grown {b B n : Nat} {w w' : World} {v : Value} {xs : List Value} (hg : w.grownBy w' v.ownBlock) (ho : w.ownsRow B 5 1 v n xs) : PrK b w w' :=
  ⟨hg.size, fun g _ ⟨_, _, _, h1, h2⟩ => hg.block g (Array.getElem?_eq_some_iff.1 h1).1 (fun e => Lib.ownBlock_ne ho h1 h2 e.symm)⟩
theorem PrK.alloc (b : Nat) (w : World) (o : Obj) : PrK b w (w.alloc o) :=
  ⟨by simp, fun g _ ⟨_, _, _, h1, _⟩ => Lib.alloc_old w o g (Array.getElem?_eq_some_iff.1 h1).1⟩
theorem pr_check (B b : Nat) (k : C8) (L : List UInt8) (w : World) (h : PrAt B b k L w) :
    Calls Tryz.prog 141 #[.pointer (some ⟨b, 0, none⟩)] w fun e w' => e = .returned (.tuple #[]) ∧ PrU B b k (.pointer (some ⟨b, 0, none⟩)) L w' ∧ Below B w w' ∧ PrK b w w' := by
  rcases h with h | h
  · obtain ⟨hB, v, hb, hown⟩ := id h
    refine (check_fresh b w (by rw [Lib.cell_of_heap hb]; rfl) (by simp [World.shape?, hb, C8.row]) (Lib.frozen_of_heap hb 0)).mono ?_
    rintro e w' ⟨rfl, rfl⟩
    exact ⟨rfl, h.used _, (Below.refl B w).setCell (p := ⟨b, 0, none⟩) hB _, .set _ _ _ _⟩
  · obtain ⟨hB, v, hb, hown⟩ := id h
    refine (check_used b w (by rw [Lib.cell_of_heap hb]; rfl)).mono ?_
    rintro e w' ⟨rfl, rfl⟩
    exact ⟨rfl, h, Below.refl B _, .refl _ _⟩
theorem u8_info : (Tryz.prog.info? 5).map (fun i => (i.zero, i.size, i.bytes)) = some (some (.int .u8 0), 1, 1) := by kernel_rfl
set_option maxRecDepth 100000 in
set_option maxHeartbeats 4000000 in
theorem pr_str (B b : Nat) (k : C8) (L : List UInt8) (s : ByteArray) (w : World) (h : Hid (PrAt B b k L w)) (hlen : L.length + s.size ≤ 140737488355328) (hBw : B ≤ w.heap.size) :
    Calls Tryz.prog 88 #[.pointer (some ⟨b, 0, none⟩), .string s] w fun e w' => e = .returned (.tuple #[.int .i64 s.size, .nilIface]) ∧ PrAt B b k (L ++ s.data.toList) w' ∧ Below B w w' ∧ PrK b w w' := by
  obtain ⟨i0, hi, hz0, hz1, hz2⟩ := info_parts u8_info
  have HC := hide (pr_check B b k L w h.out)
  go_enter Tryz.func88, Tryz.ntmps88
  go_wp2_with fail
  refine HC.out.mono ?_
  rintro e w1 ⟨rfl, h1, hb1, hk1⟩
  obtain ⟨hB, v, hbk, hown⟩ := id h1
  have hlt := h1.lt
  have HB := hide hb1
  have HQ := hide hk1
  have HK := hide hbk
  have HO := hide hown
  have c1 : w1.cell? ⟨b, 1, none⟩ = some v := by rw [Lib.cell_of_heap hbk]; rfl
  clear h1 hb1 hk1 hbk hown HC h
  go_wp2_with (at_builtin; apply Hid.out)
  refine hide ?_
  have hl : (Lib.byteCells L).length = L.length := by simp [Lib.byteCells]
  refine Lib.wpList_append_own_string _ rfl _ _ 114 9 rfl B 5 i0 Tryz.underlying114 Tryz.underlying9 hi hz0 hz1 hz2 _ _ _ rfl HO.out s rfl ?c3 ?c4 ?c5 ?_
  case c3 => unfold maxLen; omega
  case c4 => omega
  case c5 => have := HB.out.size; omega
  intro v' w2 hown' hgrow _
  obtain ⟨ao, n', cap, rfl⟩ : ∃ ao n' cap, v' = .slice ao n' cap := by
    rcases hown'.2 with ⟨hv, _⟩ | ⟨g, cap, cur, hv, _⟩
    · exact ⟨_, _, _, hv⟩
    · exact ⟨_, _, _, hv⟩
  have hne := Lib.ownBlock_ne HO.out HK.out (by decide)
  have hb2 := (hgrow.block b hlt (fun e => hne e.symm)).trans HK.out
  have d1 : w2.cell? ⟨b, 1, none⟩ = some v := by rw [Lib.cell_of_heap hb2]; rfl
  have f1 : w2.frozen? ⟨b, 1, none⟩ = false := Lib.frozen_of_heap hb2 1
  have HB2 := hide ((HB.out.grown hgrow (by have := HB.out.size; omega) (fun k hk => (HO.out.lt k hk).1)).setCell (p := ⟨b, 1, none⟩) hB (.slice ao n' cap))
  have HQ2 := hide ((HQ.out.trans (.grown hgrow HO.out)).trans (.set b 1 _ (.slice ao n' cap)))
  have HP := hide (PrU.put (v' := .slice ao n' cap) (L := L ++ s.data.toList) hB hb2 (by
    rw [Lib.strCells_eq] at hown'
    have e1 : Lib.byteCells (L ++ s.data.toList) = Lib.byteCells L ++ Lib.byteCells s.data.toList := by simp [Lib.byteCells]
    have e2 : (L ++ s.data.toList).length = L.length + s.size := by rw [List.length_append, Array.length_toList]; rfl
    rw [e1, e2]
    exact hown'))
  clear c1 hown' hgrow hb2 HB HK HO HQ
  go_wp2_with fail
  go_ret2
  exact ⟨rfl, .inr HP.out, HB2.out, HQ2.out⟩
set_option maxRecDepth 100000 in
set_option maxHeartbeats 4000000 in
theorem pr_byte (B b : Nat) (k : C8) (L : List UInt8) (c : UInt8) (w : World) (h : Hid (PrAt B b k L w)) (hlen : L.length + 1 ≤ 140737488355328) (hBw : B ≤ w.heap.size) :
    Calls Tryz.prog 194 #[.pointer (some ⟨b, 0, none⟩), .int .u8 (c.toNat : Int)] w fun e w' => e = .returned .nilIface ∧ PrAt B b k (L ++ [c]) w' ∧ Below B w w' ∧ PrK b w w' := by
  obtain ⟨i0, hi, hz0, hz1, hz2⟩ := info_parts u8_info
  have HC := hide (pr_check B b k L w h.out)
  go_enter Tryz.func194, Tryz.ntmps194
  go_wp2_with fail
  refine HC.out.mono ?_
  rintro e w1 ⟨rfl, h1, hb1, hk1⟩
  obtain ⟨hB, v, hbk, hown⟩ := id h1
  have hlt := h1.lt
  have HB := hide hb1
  have HQ := hide hk1
  have HK := hide hbk
  have HO := hide hown
  have c1 : w1.cell? ⟨b, 1, none⟩ = some v := by rw [Lib.cell_of_heap hbk]; rfl
  clear h1 hb1 hk1 hbk hown HC h
  go_wp2_with (at_builtin; apply Hid.out)
  refine hide ?_
  have hl : (Lib.byteCells L).length = L.length := by simp [Lib.byteCells]
  refine wpList_append_own _ rfl _ _ 114 rfl B 5 i0 (.int .u8 0) 1 1 Tryz.underlying114 hi hz0 hz1 hz2 rfl (by decide) _ _ _ rfl (HO.out.alloc _) ⟨w1.heap.size, 0, none⟩ 1 1 [.int .u8 (c.toNat : Int)] rfl rfl ?c1 ?c2 ?c3 ?c4 ?c5 ?_
  case c1 =>
    intro j u hj
    exact World.news_of_block (heap_alloc_new w1 _) j u hj
  case c2 => intro u hu; simp at hu; subst hu; rfl
  case c3 => unfold maxLen; omega
  case c4 => omega
  case c5 => have := HB.out.size; simp; omega
  intro v' w2 hown' hgrow _
  obtain ⟨ao, n', cap, rfl⟩ : ∃ ao n' cap, v' = .slice ao n' cap := by
    rcases hown'.2 with ⟨hv, _⟩ | ⟨g, cap, cur, hv, _⟩
    · exact ⟨_, _, _, hv⟩
    · exact ⟨_, _, _, hv⟩
  have hne := Lib.ownBlock_ne HO.out HK.out (by decide)
  have hb2 := (hgrow.block b (by simp; omega) (fun e => hne e.symm)).trans ((Lib.alloc_old w1 _ b hlt).trans HK.out)
  have d1 : w2.cell? ⟨b, 1, none⟩ = some v := by rw [Lib.cell_of_heap hb2]; rfl
  have f1 : w2.frozen? ⟨b, 1, none⟩ = false := Lib.frozen_of_heap hb2 1
  have HB2 := hide (((HB.out.alloc (by have := HB.out.size; omega) (.cells #[.int .u8 (c.toNat : Int)] 5)).grown hgrow (by have := HB.out.size; simp; omega) (fun k hk => (HO.out.lt k hk).1)).setCell (p := ⟨b, 1, none⟩) hB (.slice ao n' cap))
  have HQ2 := hide (((HQ.out.trans (.alloc b _ (.cells #[.int .u8 (c.toNat : Int)] 5))).trans (.grown hgrow (HO.out.alloc _))).trans (.set b 1 _ (.slice ao n' cap)))
  have HP := hide (PrU.put (v' := .slice ao n' cap) (L := L ++ [c]) hB hb2 (by
    have e1 : Lib.byteCells (L ++ [c]) = Lib.byteCells L ++ [.int .u8 (c.toNat : Int)] := by simp [Lib.byteCells]
    rw [e1, List.length_append]
    exact hown'))
  clear c1 hown' hgrow hb2 HB HK HO HQ
  go_wp2_with fail
  go_ret
  exact ⟨rfl, .inr HP.out, HB2.out, HQ2.out⟩
end Go.Proofs.YtndpnpohdoggjaaGreatDoor
namespace Go.Proofs.YtndpnpohdoggjaaGreatDoor
open Go.RowKit
attribute [local go_sem] Later.cell
theorem u8_cells : Tryz.prog.cellsOf 5 = 1 := by kernel_rfl
set_option maxRecDepth 100000 in
set_option maxHeartbeats 4000000 in
theorem pr_string_some (B b : Nat) (k : C8) (p : Value) (l : List UInt8) (w : World) (h : Hid (PrU B b k p l w)) (h0 : l ≠ []) :
    Calls Tryz.prog 44 #[.pointer (some ⟨b, 0, none⟩)] w fun e w' => e = .returned (.string ⟨l.toArray⟩) ∧ Below B w w' := by
  obtain ⟨hB, v, hbk, hown⟩ := h.out
  have hl0 : l.length ≠ 0 := by simpa using h0
  obtain ⟨g, cap, cur, rfl, hbg, hg, hnc, hcm, hcs, htake⟩ : ∃ g cap cur, v = .slice (some ⟨g, 0, none⟩) l.length cap ∧ B ≤ g ∧ w.heap[g]? = some (.cells cur 5 (0, 0)) ∧ l.length ≤ cap ∧ cap ≤ maxLen ∧ cur.size = cap * 1 ∧ cur.toList.take (l.length * 1) = Lib.byteCells l := by
    rcases hown.2 with ⟨_, hz⟩ | ⟨g, cap, cur, hv, r⟩
    · exact absurd hz hl0
    · exact ⟨g, cap, cur, hv, r⟩
  have c1 : w.drew.cell? ⟨b, 1, none⟩ = some (.slice (some ⟨g, 0, none⟩) l.length cap) := by
    have : w.drew.heap[b]? = some (.cells (k.row p (.slice (some ⟨g, 0, none⟩) l.length cap)) 120 (0, 0)) := hbk
    rw [Lib.cell_of_heap this]; rfl
  have hSD : (Builtin.unsafeSliceData_ #[114] 197 #[.slice (some ⟨g, 0, none⟩) l.length cap]).run Tryz.prog w.drew = .ok (.pointer (some ⟨g, 0, none⟩)) w.drew :=
    Lib.run_unsafeSliceData_row _ _ _ _ _ _ (by omega)
  have hUS : (Builtin.unsafeString_ #[197, 3] 9 #[.pointer (some ⟨g, 0, none⟩), .int .i64 l.length]).run Tryz.prog w.drew = .ok (.string ⟨l.toArray⟩) (w.drew.freeze ⟨g, 0, none⟩ l.length) := by
    refine Lib.run_unsafeString_row w.drew 197 3 9 5 Tryz.underlying197 u8_cells g cur.size (by have hg' : w.drew.heap[g]? = some (.cells cur 5 (0, 0)) := hg; simp [World.shape?, hg']) l h0 (by omega) (by unfold maxLen at hcm; omega) ?_
    intro j x hx
    exact hown.cells (g := g) rfl j (.int .u8 x.toNat) (by simp [Lib.byteCells, hx])
  clear hown hbk hg htake h
  have mixed : Tryz.prog.follows Departure.mixedOrders = true := by kernel_rfl
  go_enter Tryz.func44, Tryz.ntmps44
  go_wp2_with fail
  go_region_o
  all_goals (go_wp2_with fail; go_ret; exact ⟨rfl, Lib.below_freeze (Below.drew (Below.refl B w)) (p := ⟨g, 0, none⟩) hbg _⟩)
set_option maxRecDepth 100000 in
set_option maxHeartbeats 4000000 in
theorem pr_string_nil (B b : Nat) (k : C8) (p : Value) (w : World) (hbk : w.heap[b]? = some (.cells (k.row p (.slice none 0 0)) 120 (0, 0))) :
    Calls Tryz.prog 44 #[.pointer (some ⟨b, 0, none⟩)] w fun e w' => e = .returned (.string ⟨#[]⟩) ∧ Below B w w' := by
  have hUS : ∀ (W : World) (q : Option Addr), (Builtin.unsafeString_ #[197, 3] 9 #[.pointer q, .int .i64 0]).run Tryz.prog W = .ok (.string .empty) W := fun W q => Lib.run_unsafeString_none W _ _ _ q
  have c1 : w.drew.cell? ⟨b, 1, none⟩ = some (.slice none 0 0) := by
    have : w.drew.heap[b]? = some (.cells (k.row p (.slice none 0 0)) 120 (0, 0)) := hbk
    rw [Lib.cell_of_heap this]; rfl
  have hSD : (Builtin.unsafeSliceData_ #[114] 197 #[.slice none 0 0]).run Tryz.prog w.drew = .ok (.pointer none) w.drew := rfl
  have mixed : Tryz.prog.follows Departure.mixedOrders = true := by kernel_rfl
  go_enter Tryz.func44, Tryz.ntmps44
  go_wp2_with fail
  go_region_o
  all_goals (go_wp2_with fail; go_ret; exact ⟨rfl, Below.drew (Below.refl B w)⟩)
set_option maxRecDepth 100000 in
set_option maxHeartbeats 4000000 in
theorem pr_string_room (B b g cap : Nat) (k : C8) (p : Value) (w : World) (hc0 : cap ≠ 0) (hbk : w.heap[b]? = some (.cells (k.row p (.slice (some ⟨g, 0, none⟩) 0 cap)) 120 (0, 0))) :
    Calls Tryz.prog 44 #[.pointer (some ⟨b, 0, none⟩)] w fun e w' => e = .returned (.string ⟨#[]⟩) ∧ Below B w w' := by
  have hUS : ∀ (W : World) (q : Option Addr), (Builtin.unsafeString_ #[197, 3] 9 #[.pointer q, .int .i64 0]).run Tryz.prog W = .ok (.string .empty) W := fun W q => Lib.run_unsafeString_none W _ _ _ q
  have c1 : w.drew.cell? ⟨b, 1, none⟩ = some (.slice (some ⟨g, 0, none⟩) 0 cap) := by
    have : w.drew.heap[b]? = some (.cells (k.row p (.slice (some ⟨g, 0, none⟩) 0 cap)) 120 (0, 0)) := hbk
    rw [Lib.cell_of_heap this]; rfl
  have hSD : (Builtin.unsafeSliceData_ #[114] 197 #[.slice (some ⟨g, 0, none⟩) 0 cap]).run Tryz.prog w.drew = .ok (.pointer (some ⟨g, 0, none⟩)) w.drew :=
    Lib.run_unsafeSliceData_row _ _ _ _ _ _ hc0
  clear hc0
  have mixed : Tryz.prog.follows Departure.mixedOrders = true := by kernel_rfl
  go_enter Tryz.func44, Tryz.ntmps44
  go_wp2_with fail
  go_region_o
  all_goals (go_wp2_with fail; go_ret; exact ⟨rfl, Below.drew (Below.refl B w)⟩)
set_option maxRecDepth 100000 in
set_option maxHeartbeats 4000000 in
theorem pr_string_noroom (B b g : Nat) (k : C8) (p : Value) (w : World) (cur : Array Value) (hBw : B ≤ w.heap.size) (hbk : w.heap[b]? = some (.cells (k.row p (.slice (some ⟨g, 0, none⟩) 0 0)) 120 (0, 0))) (hg : w.heap[g]? = some (.cells cur 5 (0, 0))) :
    Calls Tryz.prog 44 #[.pointer (some ⟨b, 0, none⟩)] w fun e w' => e = .returned (.string ⟨#[]⟩) ∧ Below B w w' := by
  have hUS : ∀ (W : World) (q : Option Addr), (Builtin.unsafeString_ #[197, 3] 9 #[.pointer q, .int .i64 0]).run Tryz.prog W = .ok (.string .empty) W := fun W q => Lib.run_unsafeString_none W _ _ _ q
  have c1 : w.drew.cell? ⟨b, 1, none⟩ = some (.slice (some ⟨g, 0, none⟩) 0 0) := by
    have : w.drew.heap[b]? = some (.cells (k.row p (.slice (some ⟨g, 0, none⟩) 0 0)) 120 (0, 0)) := hbk
    rw [Lib.cell_of_heap this]; rfl
  have hlt : b < w.heap.size := (Array.getElem?_eq_some_iff.1 hbk).1
  have hSD : (Builtin.unsafeSliceData_ #[114] 197 #[.slice (some ⟨g, 0, none⟩) 0 0]).run Tryz.prog w.drew = .ok (.pointer (some ⟨w.drew.heap.size, 0, none⟩)) (w.drew.alloc (.view ⟨g, 0, none⟩ 5)) :=
    Lib.run_unsafeSliceData_zero w.drew _ _ 5 Tryz.underlying197 ⟨g, 0, none⟩ 0 (5, cur.size) (by have hg' : w.drew.heap[g]? = some (.cells cur 5 (0, 0)) := hg; simp [World.shape?, hg'])
  have c2 : (w.drew.alloc (.view ⟨g, 0, none⟩ 5)).cell? ⟨b, 1, none⟩ = some (.slice (some ⟨g, 0, none⟩) 0 0) := by
    have : (w.drew.alloc (.view ⟨g, 0, none⟩ 5)).heap[b]? = _ := (Lib.alloc_old w.drew _ b hlt).trans hbk
    rw [Lib.cell_of_heap this]; rfl
  have c3 : (w.alloc (.view ⟨g, 0, none⟩ 5)).drew.cell? ⟨b, 1, none⟩ = some (.slice (some ⟨g, 0, none⟩) 0 0) := c2
  have c0 : w.cell? ⟨b, 1, none⟩ = some (.slice (some ⟨g, 0, none⟩) 0 0) := c1
  have mixed : Tryz.prog.follows Departure.mixedOrders = true := by kernel_rfl
  go_enter Tryz.func44, Tryz.ntmps44
  go_wp2_with fail
  go_region_o
  all_goals (go_wp2_with fail; go_ret; exact ⟨rfl, (Below.drew (Below.refl B w)).alloc hBw _⟩)
theorem pr_string (B b : Nat) (k : C8) (l : List UInt8) (w : World) (h : PrAt B b k l w) (hBw : B ≤ w.heap.size) :
    Calls Tryz.prog 44 #[.pointer (some ⟨b, 0, none⟩)] w fun e w' => e = .returned (.string ⟨l.toArray⟩) ∧ Below B w w' := by
  obtain ⟨p, hp⟩ : ∃ p, PrU B b k p l w := by
    rcases h with h | h
    · exact ⟨_, h⟩
    · exact ⟨_, h⟩
  cases l with
  | cons x r => exact pr_string_some B b k p (x :: r) w (hide hp) (by simp)
  | nil =>
    obtain ⟨hB, v, hbk, hown⟩ := hp
    rcases hown.2 with ⟨rfl, _⟩ | ⟨g, cap, cur, rfl, hbg, hg, _, _, _, _⟩
    · exact pr_string_nil B b k p w hbk
    · by_cases hc0 : cap = 0
      · subst hc0
        exact pr_string_noroom B b g k p w cur hBw hbk hg
      · exact pr_string_room B b g cap k p w hc0 hbk
end Go.Proofs.YtndpnpohdoggjaaGreatDoor
namespace Go.Proofs.YtndpnpohdoggjaaGreatDoor
open Go.RowKit
attribute [local go_sem] Later.cell
def refT (x : RefD) : List UInt8 := x.m ++ [46] ++ x.p ++ [46] ++ x.o
set_option maxRecDepth 100000 in
set_option maxHeartbeats 4000000 in
theorem ref_text (x : RefD) (us : List Value) (W : World) (l0 : x.m.length ≤ 1000000) (l1 : x.p.length ≤ 1000000) (l2 : x.o.length ≤ 1000000) (hd : Hid (DCells W (fun _ => True) us x.cells)) :
    Calls Tryz.prog 118 #[.agg us.toArray] W fun e w' => e = .returned (.string ⟨(refT x).toArray⟩) ∧ Below W.heap.size W w' := by
  have hd := hd.out
  obtain ⟨u0, us, rfl, h0, hd⟩ := dcells_cons hd
  obtain ⟨u1, us, rfl, h1, hd⟩ := dcells_cons hd
  obtain ⟨u2, us, rfl, h2, hd⟩ := dcells_cons hd
  obtain rfl := dcells_nil hd
  obtain rfl := h0.leaf_eq
  obtain rfl := h1.leaf_eq
  obtain rfl := h2.leaf_eq
  clear hd h0 h1 h2
  simp only [strV]
  have HB := hide ((Below.refl W.heap.size W).alloc (Nat.le_refl _) (.cells #[.string ⟨x.m.toArray⟩, .string ⟨x.p.toArray⟩, .string ⟨x.o.toArray⟩] 57))
  have HT : (⟨x.m.toArray⟩ ++ ⟨#[46]⟩ ++ ⟨x.p.toArray⟩ ++ ⟨#[46]⟩ ++ ⟨x.o.toArray⟩ : ByteArray) = ⟨(refT x).toArray⟩ := by
    apply ByteArray.ext
    simp [refT, ByteArray.data_append]
  have k1 : ¬ 9223372036854775807 < x.m.length + 1 := by omega
  have k2 : ¬ 9223372036854775807 < x.m.length + 1 + x.p.length := by omega
  have k3 : ¬ 9223372036854775807 < x.m.length + 1 + x.p.length + 1 := by omega
  have k4 : ¬ 9223372036854775807 < x.m.length + 1 + x.p.length + 1 + x.o.length := by omega
  go_enter Tryz.func118, Tryz.ntmps118
  go_wp2_with fail
  go_ret
  exact ⟨by rw [← HT]; rfl, HB.out⟩
def netT (n : Int) : List UInt8 := if n = 0 then [97] else [98]
set_option maxRecDepth 100000 in
theorem net_text (n : Int) (W : World) (h : n / 2 = 0) :
    Calls Tryz.prog 120 #[.int .i64 n] W fun e w' => e = .returned (.string ⟨(netT n).toArray⟩) ∧ w' = W := by
  rcases (by omega : n = 0 ∨ n = 1) with rfl | rfl
  · go_enter Tryz.func120, Tryz.ntmps120
    go_wp2_with fail
    go_ret
    exact ⟨rfl, rfl⟩
  · go_enter Tryz.func120, Tryz.ntmps120
    go_wp2_with fail
    go_ret
    exact ⟨rfl, rfl⟩
/-- What fits says of a source. -/
def fitsE (s : ByteArray) : Value := if 65536 < s.size then .tuple #[.string ⟨#[]⟩, .int .i64 3] else .tuple #[.string s, .int .i64 0]
set_option maxRecDepth 100000 in
theorem fits_any (s : ByteArray) (W : World) (hs : s.size ≤ 140737488355328) :
    Calls Tryz.prog 18 #[.string s] W fun e w' => e = .returned (fitsE s) ∧ w' = W := by
  by_cases h : 65536 < s.size
  · have h1 : (65536 : Int) < (s.size : Int) := by omega
    have e : fitsE s = .tuple #[.string ⟨#[]⟩, .int .i64 3] := if_pos h
    go_enter Tryz.func18, Tryz.ntmps18
    go_wp2_with fail
    go_ret2
    exact ⟨by first | rfl | (rw [e]; rfl), rfl⟩
  · have h1 : ¬ (65536 : Int) < (s.size : Int) := by omega
    have e : fitsE s = .tuple #[.string s, .int .i64 0] := if_neg h
    go_enter Tryz.func18, Tryz.ntmps18
    go_wp2_with fail
    go_ret2
    exact ⟨by first | rfl | (rw [e]; rfl), rfl⟩
end Go.Proofs.YtndpnpohdoggjaaGreatDoor
namespace Go.Proofs.YtndpnpohdoggjaaGreatDoor
open Go.RowKit
attribute [local go_sem] Later.cell
inductive Arg where
  | s (l : List UInt8)
  | n (x : Int)
def Arg.val : Arg → Value
  | .s l => .iface 9 (.string ⟨l.toArray⟩)
  | .n x => .iface 3 (.int .i64 x)
def Arg.txt : Arg → List UInt8
  | .s l => l
  | .n x => Lib.itoa x
def Arg.ok : Arg → Prop
  | .s _ => True
  | .n x => -9223372036854775808 ≤ x ∧ x ≤ 9223372036854775807
def anyRows (l : List Arg) : List (List Dat) := l.map fun a => [Dat.leaf a.val]
def sayT : List Arg → List UInt8
  | [] => []
  | a :: l => a.txt ++ (l.map fun b => 32 :: b.txt).flatten
theorem sayT_step {l : List Arg} {k : Nat} {x : Arg} (h : l[k]? = some x) : sayT (l.take (k + 1)) = sayT (l.take k) ++ (if k = 0 then [] else [32]) ++ x.txt := by
  cases l with
  | nil => simp at h
  | cons a l =>
    cases k with
    | zero =>
      simp only [List.getElem?_cons_zero, Option.some.injEq] at h
      subst h
      simp [sayT]
    | succ k =>
      simp only [List.getElem?_cons_succ] at h
      have e : l.take (k + 1) = l.take k ++ [x] := by rw [List.take_add_one, h]; rfl
      simp [sayT, e]
theorem sayT_le {l : List Arg} {k : Nat} : (sayT (l.take k)).length ≤ (sayT l).length := by
  cases l with
  | nil => simp
  | cons a l =>
    cases k with
    | zero => simp [sayT]
    | succ k =>
      simp only [List.take_succ_cons, sayT, List.length_append]
      have e : (l.map fun b => (32 : UInt8) :: b.txt).flatten = ((l.take k).map fun b => (32 : UInt8) :: b.txt).flatten ++ ((l.drop k).map fun b => (32 : UInt8) :: b.txt).flatten := by
        rw [← List.flatten_append, ← List.map_append, List.take_append_drop]
      rw [e, List.length_append]
      omega
theorem any_slice {w : World} {G : Nat → Prop} {v : Value} {l : List Arg} (h : DAt w G v (.row 1 (anyRows l))) : ∃ A c, v = .slice A l.length c ∧ ∀ k x, l[k]? = some x → ∃ g off, A = some ⟨g, off, none⟩ ∧ G g ∧ g < w.heap.size ∧ w.cell? ⟨g, off + k, none⟩ = some x.val := by
  generalize hd : Dat.row 1 (anyRows l) = d at h
  cases h with
  | leaf v => cases hd
  | nil A' c size =>
    injection hd with _ h1
    have : l = [] := by cases l with
      | nil => rfl
      | cons a l => simp [anyRows] at h1
    subst this
    exact ⟨A', c, rfl, fun k x h => by simp at h⟩
  | row g off c size m es val hn hG hb hc hdd =>
    injection hd with h0 h1
    subst h0 h1
    have hl : l.length = m := by rw [← hn]; simp [anyRows]
    subst hl
    refine ⟨_, c, rfl, fun k x hx => ⟨g, off, rfl, hG, hb, ?_⟩⟩
    have he : (anyRows l)[k]? = some [Dat.leaf x.val] := by unfold anyRows; rw [List.getElem?_map, hx]; rfl
    have h5 := hc k 0 _ _ he rfl
    have h6 := (hdd k 0 _ _ he rfl).leaf_eq
    rw [h6] at h5
    rw [Nat.mul_one, Nat.add_zero] at h5
    exact h5
theorem PrU.later {B b : Nat} {k : C8} {p : Value} {L : List UInt8} {w w' : World} (h : PrU B b k p L w) (hb : Below w.heap.size w w') : PrU B b k p L w' := by
  obtain ⟨hB, v, h1, ho⟩ := h
  exact ⟨hB, v, (hb.block b (Array.getElem?_eq_some_iff.1 h1).1).trans h1, own_keep ho (fun g e _ => hb.block g (own_lt ho e).2)⟩
theorem PrAt.later {B b : Nat} {k : C8} {L : List UInt8} {w w' : World} (h : PrAt B b k L w) (hb : Below w.heap.size w w') : PrAt B b k L w' := h.elim (fun h => .inl (h.later hb)) (fun h => .inr (h.later hb))
theorem PrK.later {b : Nat} {w w' : World} (hb : Below w.heap.size w w') : PrK b w w' := ⟨hb.size, fun g _ ⟨_, _, _, h1, _⟩ => hb.block g (Array.getElem?_eq_some_iff.1 h1).1⟩
@[local go_sem] theorem ta_ss (s : ByteArray) (w : World) : (Instr.typeAssert (.iface 9 (.string s)) 20 9 true).run Tryz.prog w = .ok (.tuple #[.string s, .bool true]) w := by kernel_rfl
@[local go_sem] theorem ta_is (n : Int) (w : World) : (Instr.typeAssert (.iface 3 (.int .i64 n)) 20 9 true).run Tryz.prog w = .ok (.tuple #[.string ⟨#[]⟩, .bool false]) w := by kernel_rfl
@[local go_sem] theorem ta_ii (n : Int) (w : World) : (Instr.typeAssert (.iface 3 (.int .i64 n)) 20 3 true).run Tryz.prog w = .ok (.tuple #[.int .i64 n, .bool true]) w := by kernel_rfl
set_option maxRecDepth 100000 in
set_option maxHeartbeats 4000000 in
theorem say_any (B b : Nat) (k8 : C8) (L : List UInt8) (v : Value) (l : List Arg) (W : World) (h : Hid (PrAt B b k8 L W)) (hv : Hid (DAt W (fun g => g ≠ b ∧ Oth W g) v (.row 1 (anyRows l)))) (hok : Hid (∀ a ∈ l, a.ok)) (hl : l.length ≤ 1000) (hlen : L.length + (sayT l).length ≤ 1000000000000) (hBw : B ≤ W.heap.size) (hGB : 6 ≤ B) (hE : Hid (Env W)) :
    Calls Tryz.prog 165 #[.pointer (some ⟨b, 0, none⟩), v] W fun e w' => e = .returned (.tuple #[]) ∧ PrAt B b k8 (L ++ sayT l) w' ∧ Below B W w' ∧ PrK b W w' := by
  obtain ⟨A, c, rfl, hA⟩ := any_slice hv.out
  have HA := hide hA
  clear hA hv
  go_enter Tryz.func165, Tryz.ntmps165
  go_wp2_with fail
  go_loopw [10] (fun v4 wr => ∃ k : Nat, k ≤ l.length ∧ v4 = .int .i64 k ∧ PrAt B b k8 (L ++ sayT (l.take k)) wr ∧ Below B W wr ∧ PrK b W wr) (fun v4 _ => l.length - (intOf v4).toNat)
  case atStart => exact ⟨0, by omega, rfl, by rw [List.take_zero, sayT, List.append_nil]; exact h.out, Below.refl _ _, .refl _ _⟩
  case round =>
    obtain ⟨k, hk, rfl, hp, hbr, hkr⟩ := hrel
    have HP := hide hp
    have HBR := hide hbr
    have HKR := hide hkr
    clear hp hbr hkr h
    by_cases hlt : k < l.length
    rotate_left
    · obtain rfl : k = l.length := by omega
      rw [List.take_length] at HP
      clear hlt
      go_wp2_with fail
      go_end0
      exact ⟨rfl, HP.out, HBR.out, HKR.out⟩
    obtain ⟨x, hx⟩ : ∃ x, l[k]? = some x := ⟨_, List.getElem?_eq_getElem hlt⟩
    obtain ⟨g, off, rfl, hG, hg, hc⟩ := HA.out k x hx
    have c0 : wr.cell? ⟨g, off + k, none⟩ = some x.val := (World.cell?_of_block (HKR.out.block g hG.1 hG.2)).trans hc
    have k0 : (0 : Int) ≤ (k : Int) ∧ (k : Int) < ((l.length : Nat) : Int) := by omega
    have HX := hide hx
    have HS := hide (sayT_step hx)
    have hle := sayT_le (l := l) (k := k)
    have hle1 := sayT_le (l := l) (k := k + 1)
    rw [HS.out, List.length_append, List.length_append] at hle1
    clear hx hc
    cases x with
    | s t =>
      change wr.cell? ⟨g, off + k, none⟩ = some (.iface 9 (.string ⟨t.toArray⟩)) at c0
      have hts : (Arg.s t).txt = t := rfl
      rw [hts] at HS hle1
      by_cases hk0 : k = 0
      · subst hk0
        simp only [Nat.add_zero] at c0
        have e1 : L ++ sayT (l.take 1) = L ++ sayT (l.take 0) ++ t := by rw [show (1 : Nat) = 0 + 1 from rfl, HS.out]; simp
        go_wp2_with fail
        have HC := hide (pr_str B b k8 _ ⟨t.toArray⟩ wr HP (by rw [List.length_append]; show _ + t.length ≤ _; omega) (Nat.le_trans hBw HBR.out.size))
        refine HC.out.mono ?_
        rintro e w2 ⟨rfl, h1, h2, h3⟩
        have HP2 := hide h1
        have HB2 := hide (HBR.out.trans h2)
        have HK2 := hide (HKR.out.trans h3)
        clear h1 h2 h3 HC
        go_wp2_with fail
        go_roundw
        case rel => exact ⟨1, by omega, by go_num, by rw [e1]; exact HP2.out, HB2.out, HK2.out⟩
        case measure => simp [intOf]; omega
      · have k1 : (0 : Int) < (k : Int) := by omega
        have e1 : L ++ sayT (l.take (k + 1)) = L ++ sayT (l.take k) ++ [32] ++ t := by rw [HS.out, if_neg hk0]; simp
        rw [if_neg hk0] at hle1
        go_wp2_with fail
        have HC := hide (pr_byte B b k8 _ 32 wr HP (by rw [List.length_append]; omega) (Nat.le_trans hBw HBR.out.size))
        refine HC.out.mono ?_
        rintro e w1 ⟨rfl, h1, h2, h3⟩
        have HP1 := hide h1
        have HB1 := hide (HBR.out.trans h2)
        have HK1 := hide (HKR.out.trans h3)
        clear h1 h2 h3 HC
        go_wp2_with fail
        have HC := hide (pr_str B b k8 _ ⟨t.toArray⟩ w1 HP1 (by rw [List.length_append, List.length_append]; show _ + _ + t.length ≤ _; simp at hle1 ⊢; omega) (Nat.le_trans hBw HB1.out.size))
        refine HC.out.mono ?_
        rintro e w2 ⟨rfl, h1, h2, h3⟩
        have HP2 := hide h1
        have HB2 := hide (HB1.out.trans h2)
        have HK2 := hide (HK1.out.trans h3)
        clear h1 h2 h3 HC
        go_wp2_with fail
        go_roundw
        case rel => exact ⟨k + 1, by omega, by go_num, by rw [e1]; exact HP2.out, HB2.out, HK2.out⟩
        case measure => simp [intOf]; omega
    | n z =>
      change wr.cell? ⟨g, off + k, none⟩ = some (.iface 3 (.int .i64 z)) at c0
      have hts : (Arg.n z).txt = Lib.itoa z := rfl
      rw [hts] at HS hle1
      have hok1 : -9223372036854775808 ≤ z ∧ z ≤ 9223372036854775807 := hok.out _ (List.mem_of_getElem? HX.out)
      by_cases hk0 : k = 0
      · subst hk0
        simp only [Nat.add_zero] at c0
        have e1 : L ++ sayT (l.take 1) = L ++ sayT (l.take 0) ++ Lib.itoa z := by rw [show (1 : Nat) = 0 + 1 from rfl, HS.out]; simp
        go_wp2_with fail
        have HPd := hide (show PrAt B b k8 _ wr.drew from HP.out)
        have HBd := hide HBR.out.drew
        have HKd := hide (show PrK b W wr.drew from ⟨HKR.out.size, HKR.out.block⟩)
        refine wp_region_tail (S := fun _ => True) 5 (by kernel_rfl) (by kernel_rfl) trivial (fun hHeld => ?_)
        clear c0
        generalize wr.drew = U at *
        refine tk 0 33 rfl (by kernel_rfl) (fun _ _ _ h => h) rfl (fun _ _ => by go_simp; with_reducible rfl) hHeld ?_
        (try simp only [Act.put, putA, putB, putC])
        refine tk 1 34 rfl (by kernel_rfl) (fun _ _ _ h => h) rfl (fun _ _ => by go_simp; with_reducible rfl) hHeld ?_
        (try simp only [Act.put, putA, putB, putC])
        refine tk 2 35 rfl (by kernel_rfl) (fun _ _ _ h => h) rfl (fun _ _ => by go_simp; with_reducible rfl) hHeld ?_
        (try simp only [Act.put, putA, putB, putC])
        refine tk 3 36 rfl (by kernel_rfl) (fun _ _ _ h => h) rfl (fun _ _ => by go_simp; with_reducible rfl) hHeld ?_
        (try simp only [Act.put, putA, putB, putC])
        refine wpAnyT_ready (rs := [4]) (by kernel_rfl) (by simp) (by rfl) (AllT.cons rfl (fun K hK => ?_) AllT.nil)
        go_simp
        have HI := hide (itoa_any z U (hE.out.keptB HBd.out hGB) hok1.1 hok1.2)
        refine HI.out.mono ?_
        rintro e w5 ⟨rfl, h1⟩
        have HP5 := hide (HPd.out.later h1)
        have HB5 := hide (HBd.out.trans (h1.mono (Nat.le_trans hBw HBd.out.size)))
        have HK5 := hide (HKd.out.trans (.later h1))
        clear h1 HI
        go_wp2_with fail
        refine hK.out _ _ trivial (fun hHeld => ?_)
        clear hK K
        (try simp only [Act.put, putA, putB, putC])
        refine wpAnyT_done (by kernel_rfl) ?_
        simp only [List.drop_succ_cons, List.drop_zero]
        go_wp2_with fail
        have HC := hide (pr_str B b k8 _ ⟨(Lib.itoa z).toArray⟩ w5 HP5 (by simp only [List.length_append]; show _ + (Lib.itoa z).length ≤ _; simp at hle1 ⊢; omega) (Nat.le_trans hBw HB5.out.size))
        refine HC.out.mono ?_
        rintro e w6 ⟨rfl, h1, h2, h3⟩
        have HP6 := hide h1
        have HB6 := hide (HB5.out.trans h2)
        have HK6 := hide (HK5.out.trans h3)
        clear h1 h2 h3 HC
        go_wp2_with fail
        go_roundw
        case rel => exact ⟨1, by omega, by go_num, by rw [e1]; exact HP6.out, HB6.out, HK6.out⟩
        case measure => simp [intOf]; omega
      · have k1 : (0 : Int) < (k : Int) := by omega
        have e1 : L ++ sayT (l.take (k + 1)) = L ++ sayT (l.take k) ++ [32] ++ Lib.itoa z := by rw [HS.out, if_neg hk0]; simp
        rw [if_neg hk0] at hle1
        go_wp2_with fail
        have HC := hide (pr_byte B b k8 _ 32 wr HP (by rw [List.length_append]; omega) (Nat.le_trans hBw HBR.out.size))
        refine HC.out.mono ?_
        rintro e w1 ⟨rfl, h1, h2, h3⟩
        have HP1 := hide h1
        have HB1 := hide (HBR.out.trans h2)
        have HK1 := hide (HKR.out.trans h3)
        clear h1 h2 h3 HC
        go_wp2_with fail
        have HPd := hide (show PrAt B b k8 _ w1.drew from HP1.out)
        have HBd := hide HB1.out.drew
        have HKd := hide (show PrK b W w1.drew from ⟨HK1.out.size, HK1.out.block⟩)
        refine wp_region_tail (S := fun _ => True) 5 (by kernel_rfl) (by kernel_rfl) trivial (fun hHeld => ?_)
        clear c0
        generalize w1.drew = U at *
        refine tk 0 33 rfl (by kernel_rfl) (fun _ _ _ h => h) rfl (fun _ _ => by go_simp; with_reducible rfl) hHeld ?_
        (try simp only [Act.put, putA, putB, putC])
        refine tk 1 34 rfl (by kernel_rfl) (fun _ _ _ h => h) rfl (fun _ _ => by go_simp; with_reducible rfl) hHeld ?_
        (try simp only [Act.put, putA, putB, putC])
        refine tk 2 35 rfl (by kernel_rfl) (fun _ _ _ h => h) rfl (fun _ _ => by go_simp; with_reducible rfl) hHeld ?_
        (try simp only [Act.put, putA, putB, putC])
        refine tk 3 36 rfl (by kernel_rfl) (fun _ _ _ h => h) rfl (fun _ _ => by go_simp; with_reducible rfl) hHeld ?_
        (try simp only [Act.put, putA, putB, putC])
        refine wpAnyT_ready (rs := [4]) (by kernel_rfl) (by simp) (by rfl) (AllT.cons rfl (fun K hK => ?_) AllT.nil)
        go_simp
        have HI := hide (itoa_any z U (hE.out.keptB HBd.out hGB) hok1.1 hok1.2)
        refine HI.out.mono ?_
        rintro e w5 ⟨rfl, h1⟩
        have HP5 := hide (HPd.out.later h1)
        have HB5 := hide (HBd.out.trans (h1.mono (Nat.le_trans hBw HBd.out.size)))
        have HK5 := hide (HKd.out.trans (.later h1))
        clear h1 HI
        go_wp2_with fail
        refine hK.out _ _ trivial (fun hHeld => ?_)
        clear hK K
        (try simp only [Act.put, putA, putB, putC])
        refine wpAnyT_done (by kernel_rfl) ?_
        simp only [List.drop_succ_cons, List.drop_zero]
        go_wp2_with fail
        have HC := hide (pr_str B b k8 _ ⟨(Lib.itoa z).toArray⟩ w5 HP5 (by simp only [List.length_append]; show _ + (Lib.itoa z).length ≤ _; simp at hle1 ⊢; omega) (Nat.le_trans hBw HB5.out.size))
        refine HC.out.mono ?_
        rintro e w6 ⟨rfl, h1, h2, h3⟩
        have HP6 := hide h1
        have HB6 := hide (HB5.out.trans h2)
        have HK6 := hide (HK5.out.trans h3)
        clear h1 h2 h3 HC
        go_wp2_with fail
        go_roundw
        case rel => exact ⟨k + 1, by omega, by go_num, by rw [e1]; exact HP6.out, HB6.out, HK6.out⟩
        case measure => simp [intOf]; omega
end Go.Proofs.YtndpnpohdoggjaaGreatDoor
