/-
  format.Same: yes if and only if equal (printed by tools/mkeq.py).
-/
import Derived.Test.YtgbfaompondolaaGreatDoorFEb
import Derived.Test.YtgbfaompondolaaGreatDoorPk12
namespace Go.Proofs.YtgbfaompondolaaGreatDoor
open Go.RowKit
attribute [local go_sem] Later.cell
set_option maxRecDepth 100000 in
set_option maxHeartbeats 4000000 in
theorem eq_cfg (x y : CfgD) (p_ : Prop) (hp_ : Hid (p_ ↔ x = y)) (us vs : List Value) (W : World) (ha : Hid (DCells W (fun _ => True) us x.cells)) (hb : Hid (DCells W (fun _ => True) vs y.cells)) (hl : CfgFit x) (hm : CfgFit y) :
    Calls Tryz.prog 13 #[.agg us.toArray, .agg vs.toArray] W fun e w' => SayQ p_ W.heap.size W e w' := by
  obtain ⟨x0, x1, x2, x3, x4, x5, x6, x7⟩ := x
  obtain ⟨y0, y1, y2, y3, y4, y5, y6, y7⟩ := y
  have hd := ha.out
  have he := hb.out
  obtain ⟨u0, us, rfl, h0, hd⟩ := dcells_cons hd
  obtain ⟨v0, vs, rfl, i0, he⟩ := dcells_cons he
  obtain ⟨u1, us, rfl, h1, hd⟩ := dcells_cons hd
  obtain ⟨v1, vs, rfl, i1, he⟩ := dcells_cons he
  obtain ⟨u2, us, rfl, h2, hd⟩ := dcells_cons hd
  obtain ⟨v2, vs, rfl, i2, he⟩ := dcells_cons he
  obtain ⟨u3, us, rfl, h3, hd⟩ := dcells_cons hd
  obtain ⟨v3, vs, rfl, i3, he⟩ := dcells_cons he
  obtain ⟨u4, us, rfl, h4, hd⟩ := dcells_cons hd
  obtain ⟨v4, vs, rfl, i4, he⟩ := dcells_cons he
  obtain ⟨u5, us, rfl, h5, hd⟩ := dcells_cons hd
  obtain ⟨v5, vs, rfl, i5, he⟩ := dcells_cons he
  obtain ⟨u6, us, rfl, h6, hd⟩ := dcells_cons hd
  obtain ⟨v6, vs, rfl, i6, he⟩ := dcells_cons he
  obtain ⟨u7, us, rfl, h7, hd⟩ := dcells_cons hd
  obtain ⟨v7, vs, rfl, i7, he⟩ := dcells_cons he
  obtain rfl := dcells_nil hd
  obtain rfl := dcells_nil he
  have HU0 := hide h0
  have HV0 := hide i0
  obtain ⟨A0, p0, rfl, -⟩ := h0.slice
  obtain ⟨B0, r0, rfl, -⟩ := i0.slice
  simp only [List.length_map] at HU0 HV0 ⊢
  have HU1 := hide h1
  have HV1 := hide i1
  obtain ⟨A1, p1, rfl, -⟩ := h1.slice
  obtain ⟨B1, r1, rfl, -⟩ := i1.slice
  simp only [List.length_map] at HU1 HV1 ⊢
  have HU2 := hide h2
  have HV2 := hide i2
  obtain ⟨A2, p2, rfl, -⟩ := h2.slice
  obtain ⟨B2, r2, rfl, -⟩ := i2.slice
  simp only [List.length_map] at HU2 HV2 ⊢
  have HU3 := hide h3
  have HV3 := hide i3
  obtain ⟨A3, p3, rfl, -⟩ := h3.slice
  obtain ⟨B3, r3, rfl, -⟩ := i3.slice
  simp only [List.length_map] at HU3 HV3 ⊢
  have HU4 := hide h4
  have HV4 := hide i4
  obtain ⟨A4, p4, rfl, -⟩ := h4.slice
  obtain ⟨B4, r4, rfl, -⟩ := i4.slice
  simp only [List.length_map] at HU4 HV4 ⊢
  have HU5 := hide h5
  have HV5 := hide i5
  obtain ⟨A5, p5, rfl, -⟩ := h5.slice
  obtain ⟨B5, r5, rfl, -⟩ := i5.slice
  simp only [List.length_map] at HU5 HV5 ⊢
  have HU6 := hide h6
  have HV6 := hide i6
  obtain ⟨A6, p6, rfl, -⟩ := h6.slice
  obtain ⟨B6, r6, rfl, -⟩ := i6.slice
  simp only [List.length_map] at HU6 HV6 ⊢
  have HU7 := hide h7
  have HV7 := hide i7
  obtain ⟨A7, p7, rfl, -⟩ := h7.slice
  obtain ⟨B7, r7, rfl, -⟩ := i7.slice
  simp only [List.length_map] at HU7 HV7 ⊢
  clear ha hb hd he h0 i0 h1 i1 h2 i2 h3 i3 h4 i4 h5 i5 h6 i6 h7 i7
  go_enter Tryz.func13, Tryz.ntmps13
  go_wp2_with fail
  have hb0 := allocS_below (sOb W.heap.size [.slice A0 x0.length p0, .slice A1 x1.length p1, .slice A2 x2.length p2, .slice A3 x3.length p3, .slice A4 x4.length p4, .slice A5 x5.length p5, .slice A6 x6.length p6, .slice A7 x7.length p7] [.slice B0 y0.length r0, .slice B1 y1.length r1, .slice B2 y2.length r2, .slice B3 y3.length r3, .slice B4 y4.length r4, .slice B5 y5.length r5, .slice B6 y6.length r6, .slice B7 y7.length r7]) W
  have HX := hide (allocS_at (sOb W.heap.size [.slice A0 x0.length p0, .slice A1 x1.length p1, .slice A2 x2.length p2, .slice A3 x3.length p3, .slice A4 x4.length p4, .slice A5 x5.length p5, .slice A6 x6.length p6, .slice A7 x7.length p7] [.slice B0 y0.length r0, .slice B1 y1.length r1, .slice B2 y2.length r2, .slice B3 y3.length r3, .slice B4 y4.length r4, .slice B5 y5.length r5, .slice B6 y6.length r6, .slice B7 y7.length r7]) W 0 _ rfl)
  have HY := hide (allocS_at (sOb W.heap.size [.slice A0 x0.length p0, .slice A1 x1.length p1, .slice A2 x2.length p2, .slice A3 x3.length p3, .slice A4 x4.length p4, .slice A5 x5.length p5, .slice A6 x6.length p6, .slice A7 x7.length p7] [.slice B0 y0.length r0, .slice B1 y1.length r1, .slice B2 y2.length r2, .slice B3 y3.length r3, .slice B4 y4.length r4, .slice B5 y5.length r5, .slice B6 y6.length r6, .slice B7 y7.length r7]) W 1 _ rfl)
  have HQ := hide (allocS_at (sOb W.heap.size [.slice A0 x0.length p0, .slice A1 x1.length p1, .slice A2 x2.length p2, .slice A3 x3.length p3, .slice A4 x4.length p4, .slice A5 x5.length p5, .slice A6 x6.length p6, .slice A7 x7.length p7] [.slice B0 y0.length r0, .slice B1 y1.length r1, .slice B2 y2.length r2, .slice B3 y3.length r3, .slice B4 y4.length r4, .slice B5 y5.length r5, .slice B6 y6.length r6, .slice B7 y7.length r7]) W 2 _ rfl)
  have HR := hide (allocS_at (sOb W.heap.size [.slice A0 x0.length p0, .slice A1 x1.length p1, .slice A2 x2.length p2, .slice A3 x3.length p3, .slice A4 x4.length p4, .slice A5 x5.length p5, .slice A6 x6.length p6, .slice A7 x7.length p7] [.slice B0 y0.length r0, .slice B1 y1.length r1, .slice B2 y2.length r2, .slice B3 y3.length r3, .slice B4 y4.length r4, .slice B5 y5.length r5, .slice B6 y6.length r6, .slice B7 y7.length r7]) W 3 _ rfl)
  change Calls _ _ _ (allocS W (sOb W.heap.size [.slice A0 x0.length p0, .slice A1 x1.length p1, .slice A2 x2.length p2, .slice A3 x3.length p3, .slice A4 x4.length p4, .slice A5 x5.length p5, .slice A6 x6.length p6, .slice A7 x7.length p7] [.slice B0 y0.length r0, .slice B1 y1.length r1, .slice B2 y2.length r2, .slice B3 y3.length r3, .slice B4 y4.length r4, .slice B5 y5.length r5, .slice B6 y6.length r6, .slice B7 y7.length r7])) _
  generalize allocS W (sOb W.heap.size [.slice A0 x0.length p0, .slice A1 x1.length p1, .slice A2 x2.length p2, .slice A3 x3.length p3, .slice A4 x4.length p4, .slice A5 x5.length p5, .slice A6 x6.length p6, .slice A7 x7.length p7] [.slice B0 y0.length r0, .slice B1 y1.length r1, .slice B2 y2.length r2, .slice B3 y3.length r3, .slice B4 y4.length r4, .slice B5 y5.length r5, .slice B6 y6.length r6, .slice B7 y7.length r7]) = w0 at *
  have HB := hide hb0
  clear hb0
  have HC := hide (eq_mods (W.heap.size + 3) (W.heap.size + 2) _ _ x0 y0 w0 (hide (HU0.out.later HB.out)) (hide (HV0.out.later HB.out)) hl.nm hm.nm hl.m hm.m (by rw [cell_of_row _ _ 0 _ _ _ HR.out]; rfl) (by rw [cell_of_row _ _ 0 _ _ _ HQ.out]; rfl))
  refine HC.out.mono ?_
  rintro e w1 ⟨z, rfl, hz, hb⟩
  have HBn := hide (HB.out.trans (hb.mono HB.out.size))
  have HXn := hide ((hb.block _ (Array.getElem?_eq_some_iff.1 HX.out).1).trans HX.out)
  have HYn := hide ((hb.block _ (Array.getElem?_eq_some_iff.1 HY.out).1).trans HY.out)
  clear HB HX HY hb HC
  have HB := HBn
  have HX := HXn
  have HY := HYn
  clear HBn HXn HYn
  have HZ := hide hz
  clear hz
  cases z with
  | false => as_aux_lemma =>
      have HN2 := hide (show ¬ (x0 = y0) from fun h => by cases HZ.out.2 h)
      clear HZ
      go_wp2_with fail
      go_ret
      exact SayQ.mk false rfl ⟨(fun h => by cases h), fun h => absurd (congrArg CfgD.modules (hp_.out.1 h)) HN2.out⟩ HB.out
  | true =>
    have e_ := HZ.out.1 rfl
    clear HZ
    subst e_
    have a0 := cell_of_row _ _ 0 _ _ _ HX.out
    have b0 := cell_of_row _ _ 0 _ _ _ HY.out
    have a1 := cell_of_row _ _ 1 _ _ _ HX.out
    have b1 := cell_of_row _ _ 1 _ _ _ HY.out
    have a2 := cell_of_row _ _ 2 _ _ _ HX.out
    have b2 := cell_of_row _ _ 2 _ _ _ HY.out
    have a3 := cell_of_row _ _ 3 _ _ _ HX.out
    have b3 := cell_of_row _ _ 3 _ _ _ HY.out
    have a4 := cell_of_row _ _ 4 _ _ _ HX.out
    have b4 := cell_of_row _ _ 4 _ _ _ HY.out
    have a5 := cell_of_row _ _ 5 _ _ _ HX.out
    have b5 := cell_of_row _ _ 5 _ _ _ HY.out
    have a6 := cell_of_row _ _ 6 _ _ _ HX.out
    have b6 := cell_of_row _ _ 6 _ _ _ HY.out
    have a7 := cell_of_row _ _ 7 _ _ _ HX.out
    have b7 := cell_of_row _ _ 7 _ _ _ HY.out
    simp only [Nat.add_zero] at a0 a1 a2 a3 a4 a5 a6 a7
    go_wp2_with fail
    clear a0 b0 a1 b1 a2 b2 a3 b3 a4 b4 a5 b5 a6 b6 a7 b7
    have HC := hide (eq_chans _ _ x1 y1 w1 (hide (HU1.out.later HB.out)) (hide (HV1.out.later HB.out)) hl.nc hm.nc hl.c hm.c)
    refine HC.out.mono ?_
    rintro e w2 ⟨z, rfl, hz, hb⟩
    have HBn := hide (HB.out.trans (hb.mono HB.out.size))
    have HXn := hide ((hb.block _ (Array.getElem?_eq_some_iff.1 HX.out).1).trans HX.out)
    have HYn := hide ((hb.block _ (Array.getElem?_eq_some_iff.1 HY.out).1).trans HY.out)
    clear HB HX HY hb HC
    have HB := HBn
    have HX := HXn
    have HY := HYn
    clear HBn HXn HYn
    have HZ := hide hz
    clear hz
    cases z with
    | false => as_aux_lemma =>
        have HN2 := hide (show ¬ (x1 = y1) from fun h => by cases HZ.out.2 h)
        clear HZ
        go_wp2_with fail
        go_ret
        exact SayQ.mk false rfl ⟨(fun h => by cases h), fun h => absurd (congrArg CfgD.channels (hp_.out.1 h)) HN2.out⟩ HB.out
    | true =>
      have e_ := HZ.out.1 rfl
      clear HZ
      subst e_
      have a0 := cell_of_row _ _ 0 _ _ _ HX.out
      have b0 := cell_of_row _ _ 0 _ _ _ HY.out
      have a1 := cell_of_row _ _ 1 _ _ _ HX.out
      have b1 := cell_of_row _ _ 1 _ _ _ HY.out
      have a2 := cell_of_row _ _ 2 _ _ _ HX.out
      have b2 := cell_of_row _ _ 2 _ _ _ HY.out
      have a3 := cell_of_row _ _ 3 _ _ _ HX.out
      have b3 := cell_of_row _ _ 3 _ _ _ HY.out
      have a4 := cell_of_row _ _ 4 _ _ _ HX.out
      have b4 := cell_of_row _ _ 4 _ _ _ HY.out
      have a5 := cell_of_row _ _ 5 _ _ _ HX.out
      have b5 := cell_of_row _ _ 5 _ _ _ HY.out
      have a6 := cell_of_row _ _ 6 _ _ _ HX.out
      have b6 := cell_of_row _ _ 6 _ _ _ HY.out
      have a7 := cell_of_row _ _ 7 _ _ _ HX.out
      have b7 := cell_of_row _ _ 7 _ _ _ HY.out
      simp only [Nat.add_zero] at a0 a1 a2 a3 a4 a5 a6 a7
      go_wp2_with fail
      clear a0 b0 a1 b1 a2 b2 a3 b3 a4 b4 a5 b5 a6 b6 a7 b7
      have HC := hide (eq_sws _ _ x2 y2 w2 (hide (HU2.out.later HB.out)) (hide (HV2.out.later HB.out)) hl.ns hm.ns)
      refine HC.out.mono ?_
      rintro e w3 ⟨z, rfl, hz, hb⟩
      have HBn := hide (HB.out.trans (hb.mono HB.out.size))
      have HXn := hide ((hb.block _ (Array.getElem?_eq_some_iff.1 HX.out).1).trans HX.out)
      have HYn := hide ((hb.block _ (Array.getElem?_eq_some_iff.1 HY.out).1).trans HY.out)
      clear HB HX HY hb HC
      have HB := HBn
      have HX := HXn
      have HY := HYn
      clear HBn HXn HYn
      have HZ := hide hz
      clear hz
      cases z with
      | false => as_aux_lemma =>
          have HN2 := hide (show ¬ (x2 = y2) from fun h => by cases HZ.out.2 h)
          clear HZ
          go_wp2_with fail
          go_ret
          exact SayQ.mk false rfl ⟨(fun h => by cases h), fun h => absurd (congrArg CfgD.switches (hp_.out.1 h)) HN2.out⟩ HB.out
      | true =>
        have e_ := HZ.out.1 rfl
        clear HZ
        subst e_
        have a0 := cell_of_row _ _ 0 _ _ _ HX.out
        have b0 := cell_of_row _ _ 0 _ _ _ HY.out
        have a1 := cell_of_row _ _ 1 _ _ _ HX.out
        have b1 := cell_of_row _ _ 1 _ _ _ HY.out
        have a2 := cell_of_row _ _ 2 _ _ _ HX.out
        have b2 := cell_of_row _ _ 2 _ _ _ HY.out
        have a3 := cell_of_row _ _ 3 _ _ _ HX.out
        have b3 := cell_of_row _ _ 3 _ _ _ HY.out
        have a4 := cell_of_row _ _ 4 _ _ _ HX.out
        have b4 := cell_of_row _ _ 4 _ _ _ HY.out
        have a5 := cell_of_row _ _ 5 _ _ _ HX.out
        have b5 := cell_of_row _ _ 5 _ _ _ HY.out
        have a6 := cell_of_row _ _ 6 _ _ _ HX.out
        have b6 := cell_of_row _ _ 6 _ _ _ HY.out
        have a7 := cell_of_row _ _ 7 _ _ _ HX.out
        have b7 := cell_of_row _ _ 7 _ _ _ HY.out
        simp only [Nat.add_zero] at a0 a1 a2 a3 a4 a5 a6 a7
        go_wp2_with fail
        clear a0 b0 a1 b1 a2 b2 a3 b3 a4 b4 a5 b5 a6 b6 a7 b7
        have HC := hide (eq_links _ _ x3 y3 w3 (hide (HU3.out.later HB.out)) (hide (HV3.out.later HB.out)) hl.nl hm.nl)
        refine HC.out.mono ?_
        rintro e w4 ⟨z, rfl, hz, hb⟩
        have HBn := hide (HB.out.trans (hb.mono HB.out.size))
        have HXn := hide ((hb.block _ (Array.getElem?_eq_some_iff.1 HX.out).1).trans HX.out)
        have HYn := hide ((hb.block _ (Array.getElem?_eq_some_iff.1 HY.out).1).trans HY.out)
        clear HB HX HY hb HC
        have HB := HBn
        have HX := HXn
        have HY := HYn
        clear HBn HXn HYn
        have HZ := hide hz
        clear hz
        cases z with
        | false => as_aux_lemma =>
            have HN2 := hide (show ¬ (x3 = y3) from fun h => by cases HZ.out.2 h)
            clear HZ
            go_wp2_with fail
            go_ret
            exact SayQ.mk false rfl ⟨(fun h => by cases h), fun h => absurd (congrArg CfgD.links (hp_.out.1 h)) HN2.out⟩ HB.out
        | true =>
          have e_ := HZ.out.1 rfl
          clear HZ
          subst e_
          have a0 := cell_of_row _ _ 0 _ _ _ HX.out
          have b0 := cell_of_row _ _ 0 _ _ _ HY.out
          have a1 := cell_of_row _ _ 1 _ _ _ HX.out
          have b1 := cell_of_row _ _ 1 _ _ _ HY.out
          have a2 := cell_of_row _ _ 2 _ _ _ HX.out
          have b2 := cell_of_row _ _ 2 _ _ _ HY.out
          have a3 := cell_of_row _ _ 3 _ _ _ HX.out
          have b3 := cell_of_row _ _ 3 _ _ _ HY.out
          have a4 := cell_of_row _ _ 4 _ _ _ HX.out
          have b4 := cell_of_row _ _ 4 _ _ _ HY.out
          have a5 := cell_of_row _ _ 5 _ _ _ HX.out
          have b5 := cell_of_row _ _ 5 _ _ _ HY.out
          have a6 := cell_of_row _ _ 6 _ _ _ HX.out
          have b6 := cell_of_row _ _ 6 _ _ _ HY.out
          have a7 := cell_of_row _ _ 7 _ _ _ HX.out
          have b7 := cell_of_row _ _ 7 _ _ _ HY.out
          simp only [Nat.add_zero] at a0 a1 a2 a3 a4 a5 a6 a7
          go_wp2_with fail
          clear a0 b0 a1 b1 a2 b2 a3 b3 a4 b4 a5 b5 a6 b6 a7 b7
          have HC := hide (eq_vls _ _ x4 y4 w4 (hide (HU4.out.later HB.out)) (hide (HV4.out.later HB.out)) hl.nv hm.nv hl.v hm.v)
          refine HC.out.mono ?_
          rintro e w5 ⟨z, rfl, hz, hb⟩
          have HBn := hide (HB.out.trans (hb.mono HB.out.size))
          have HXn := hide ((hb.block _ (Array.getElem?_eq_some_iff.1 HX.out).1).trans HX.out)
          have HYn := hide ((hb.block _ (Array.getElem?_eq_some_iff.1 HY.out).1).trans HY.out)
          clear HB HX HY hb HC
          have HB := HBn
          have HX := HXn
          have HY := HYn
          clear HBn HXn HYn
          have HZ := hide hz
          clear hz
          cases z with
          | false => as_aux_lemma =>
              have HN2 := hide (show ¬ (x4 = y4) from fun h => by cases HZ.out.2 h)
              clear HZ
              go_wp2_with fail
              go_ret
              exact SayQ.mk false rfl ⟨(fun h => by cases h), fun h => absurd (congrArg CfgD.vls (hp_.out.1 h)) HN2.out⟩ HB.out
          | true =>
            have e_ := HZ.out.1 rfl
            clear HZ
            subst e_
            have a0 := cell_of_row _ _ 0 _ _ _ HX.out
            have b0 := cell_of_row _ _ 0 _ _ _ HY.out
            have a1 := cell_of_row _ _ 1 _ _ _ HX.out
            have b1 := cell_of_row _ _ 1 _ _ _ HY.out
            have a2 := cell_of_row _ _ 2 _ _ _ HX.out
            have b2 := cell_of_row _ _ 2 _ _ _ HY.out
            have a3 := cell_of_row _ _ 3 _ _ _ HX.out
            have b3 := cell_of_row _ _ 3 _ _ _ HY.out
            have a4 := cell_of_row _ _ 4 _ _ _ HX.out
            have b4 := cell_of_row _ _ 4 _ _ _ HY.out
            have a5 := cell_of_row _ _ 5 _ _ _ HX.out
            have b5 := cell_of_row _ _ 5 _ _ _ HY.out
            have a6 := cell_of_row _ _ 6 _ _ _ HX.out
            have b6 := cell_of_row _ _ 6 _ _ _ HY.out
            have a7 := cell_of_row _ _ 7 _ _ _ HX.out
            have b7 := cell_of_row _ _ 7 _ _ _ HY.out
            simp only [Nat.add_zero] at a0 a1 a2 a3 a4 a5 a6 a7
            go_wp2_with fail
            clear a0 b0 a1 b1 a2 b2 a3 b3 a4 b4 a5 b5 a6 b6 a7 b7
            have HC := hide (eq_healths _ _ x5 y5 w5 (hide (HU5.out.later HB.out)) (hide (HV5.out.later HB.out)) hl.nh hm.nh)
            refine HC.out.mono ?_
            rintro e w6 ⟨z, rfl, hz, hb⟩
            have HBn := hide (HB.out.trans (hb.mono HB.out.size))
            have HXn := hide ((hb.block _ (Array.getElem?_eq_some_iff.1 HX.out).1).trans HX.out)
            have HYn := hide ((hb.block _ (Array.getElem?_eq_some_iff.1 HY.out).1).trans HY.out)
            clear HB HX HY hb HC
            have HB := HBn
            have HX := HXn
            have HY := HYn
            clear HBn HXn HYn
            have HZ := hide hz
            clear hz
            cases z with
            | false => as_aux_lemma =>
                have HN2 := hide (show ¬ (x5 = y5) from fun h => by cases HZ.out.2 h)
                clear HZ
                go_wp2_with fail
                go_ret
                exact SayQ.mk false rfl ⟨(fun h => by cases h), fun h => absurd (congrArg CfgD.health (hp_.out.1 h)) HN2.out⟩ HB.out
            | true =>
              have e_ := HZ.out.1 rfl
              clear HZ
              subst e_
              have a0 := cell_of_row _ _ 0 _ _ _ HX.out
              have b0 := cell_of_row _ _ 0 _ _ _ HY.out
              have a1 := cell_of_row _ _ 1 _ _ _ HX.out
              have b1 := cell_of_row _ _ 1 _ _ _ HY.out
              have a2 := cell_of_row _ _ 2 _ _ _ HX.out
              have b2 := cell_of_row _ _ 2 _ _ _ HY.out
              have a3 := cell_of_row _ _ 3 _ _ _ HX.out
              have b3 := cell_of_row _ _ 3 _ _ _ HY.out
              have a4 := cell_of_row _ _ 4 _ _ _ HX.out
              have b4 := cell_of_row _ _ 4 _ _ _ HY.out
              have a5 := cell_of_row _ _ 5 _ _ _ HX.out
              have b5 := cell_of_row _ _ 5 _ _ _ HY.out
              have a6 := cell_of_row _ _ 6 _ _ _ HX.out
              have b6 := cell_of_row _ _ 6 _ _ _ HY.out
              have a7 := cell_of_row _ _ 7 _ _ _ HX.out
              have b7 := cell_of_row _ _ 7 _ _ _ HY.out
              simp only [Nat.add_zero] at a0 a1 a2 a3 a4 a5 a6 a7
              go_wp2_with fail
              clear a0 b0 a1 b1 a2 b2 a3 b3 a4 b4 a5 b5 a6 b6 a7 b7
              have HC := hide (eq_causes _ _ x6 y6 w6 (hide (HU6.out.later HB.out)) (hide (HV6.out.later HB.out)) hl.nk hm.nk hl.k hm.k)
              refine HC.out.mono ?_
              rintro e w7 ⟨z, rfl, hz, hb⟩
              have HBn := hide (HB.out.trans (hb.mono HB.out.size))
              have HXn := hide ((hb.block _ (Array.getElem?_eq_some_iff.1 HX.out).1).trans HX.out)
              have HYn := hide ((hb.block _ (Array.getElem?_eq_some_iff.1 HY.out).1).trans HY.out)
              clear HB HX HY hb HC
              have HB := HBn
              have HX := HXn
              have HY := HYn
              clear HBn HXn HYn
              have HZ := hide hz
              clear hz
              cases z with
              | false => as_aux_lemma =>
                  have HN2 := hide (show ¬ (x6 = y6) from fun h => by cases HZ.out.2 h)
                  clear HZ
                  go_wp2_with fail
                  go_ret
                  exact SayQ.mk false rfl ⟨(fun h => by cases h), fun h => absurd (congrArg CfgD.causes (hp_.out.1 h)) HN2.out⟩ HB.out
              | true =>
                have e_ := HZ.out.1 rfl
                clear HZ
                subst e_
                have a0 := cell_of_row _ _ 0 _ _ _ HX.out
                have b0 := cell_of_row _ _ 0 _ _ _ HY.out
                have a1 := cell_of_row _ _ 1 _ _ _ HX.out
                have b1 := cell_of_row _ _ 1 _ _ _ HY.out
                have a2 := cell_of_row _ _ 2 _ _ _ HX.out
                have b2 := cell_of_row _ _ 2 _ _ _ HY.out
                have a3 := cell_of_row _ _ 3 _ _ _ HX.out
                have b3 := cell_of_row _ _ 3 _ _ _ HY.out
                have a4 := cell_of_row _ _ 4 _ _ _ HX.out
                have b4 := cell_of_row _ _ 4 _ _ _ HY.out
                have a5 := cell_of_row _ _ 5 _ _ _ HX.out
                have b5 := cell_of_row _ _ 5 _ _ _ HY.out
                have a6 := cell_of_row _ _ 6 _ _ _ HX.out
                have b6 := cell_of_row _ _ 6 _ _ _ HY.out
                have a7 := cell_of_row _ _ 7 _ _ _ HX.out
                have b7 := cell_of_row _ _ 7 _ _ _ HY.out
                simp only [Nat.add_zero] at a0 a1 a2 a3 a4 a5 a6 a7
                go_wp2_with fail
                clear a0 b0 a1 b1 a2 b2 a3 b3 a4 b4 a5 b5 a6 b6 a7 b7
                have HC := hide (eq_vers _ _ x7 y7 w7 (hide (HU7.out.later HB.out)) (hide (HV7.out.later HB.out)) hl.nr hm.nr)
                refine HC.out.mono ?_
                rintro e w8 ⟨z, rfl, hz, hb⟩
                have HBn := hide (HB.out.trans (hb.mono HB.out.size))
                have HXn := hide ((hb.block _ (Array.getElem?_eq_some_iff.1 HX.out).1).trans HX.out)
                have HYn := hide ((hb.block _ (Array.getElem?_eq_some_iff.1 HY.out).1).trans HY.out)
                clear HB HX HY hb HC
                have HB := HBn
                have HX := HXn
                have HY := HYn
                clear HBn HXn HYn
                have HZ := hide hz
                clear hz
                cases z with
                | false => as_aux_lemma =>
                    have HN2 := hide (show ¬ (x7 = y7) from fun h => by cases HZ.out.2 h)
                    clear HZ
                    go_wp2_with fail
                    go_ret
                    exact SayQ.mk false rfl ⟨(fun h => by cases h), fun h => absurd (congrArg CfgD.versions (hp_.out.1 h)) HN2.out⟩ HB.out
                | true =>
                  have e_ := HZ.out.1 rfl
                  clear HZ
                  subst e_
                  go_wp2_with fail
                  go_ret
                  exact SayQ.mk true rfl ⟨fun _ => hp_.out.2 (by first | rfl | trivial), fun _ => rfl⟩ HB.out
end Go.Proofs.YtgbfaompondolaaGreatDoor
