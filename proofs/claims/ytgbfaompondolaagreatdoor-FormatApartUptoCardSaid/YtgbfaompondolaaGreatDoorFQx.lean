/-
  nacellelaw09: FormatApart.
-/
import Derived.Test.YtgbfaompondolaaGreatDoorFSj
import Derived.Test.YtgbfaompondolaaGreatDoorFEc
import Derived.Test.YtgbfaompondolaaGreatDoorFUb
import Derived.Test.YtgbfaompondolaaGreatDoorPk17
namespace Go.Proofs.YtgbfaompondolaaGreatDoor
open Go.RowKit
attribute [local go_sem] Later.cell
theorem small_len2 {x : CfgD} (h : cfgF x = true) (hs : cfgN x + cfgC x / 8 ≤ 400) : (cfgT x).length ≤ 65536 := by
  have := cfgT_len h
  omega
def ApartCase (x y : CfgD) (sa sb : ByteArray) (ea eb : Int) : Prop := ea = 2 ∨ (ea = 0 ∧ eb = 2) ∨ (ea = 0 ∧ eb = 0 ∧ ∀ z : Bool, (z = true ↔ x = y) → (sa.toList == sb.toList) = z)
theorem cfgE_is {x : CfgD} (hs : cfgN x + cfgC x / 8 ≤ 400) : (cfgF x = true ∧ cfgE x = .tuple #[.string ⟨(cfgT x).toArray⟩, .int .i64 0]) ∨ cfgE x = .tuple #[.string ⟨#[]⟩, .int .i64 2] := by
  unfold cfgE
  cases h : cfgF x with
  | false => exact .inr (if_neg (by simp))
  | true =>
    refine .inl ⟨rfl, ?_⟩
    have := small_len2 h hs
    unfold fitsE
    rw [if_pos rfl, if_neg (by show ¬ 65536 < (cfgT x).length; omega)]
theorem apart_case {x y : CfgD} (hx : cfgN x + cfgC x / 8 ≤ 400) (hy : cfgN y + cfgC y / 8 ≤ 400) : ∃ sa sb ea eb, cfgE x = .tuple #[.string sa, .int .i64 ea] ∧ cfgE y = .tuple #[.string sb, .int .i64 eb] ∧ ApartCase x y sa sb ea eb := by
  rcases cfgE_is hx with ⟨fx, ex⟩ | ex <;> rcases cfgE_is hy with ⟨fy, ey⟩ | ey
  · refine ⟨_, _, _, _, ex, ey, .inr (.inr ⟨rfl, rfl, fun z hz => ?_⟩)⟩
    cases z with
    | true =>
      rw [hz.1 rfl]
      simp
    | false =>
      rw [ByteArray.toList_eq, ByteArray.toList_eq]
      exact list_ne fun h => by cases hz.2 (cfg_uq x y fx fy h)
  · exact ⟨_, _, _, _, ex, ey, .inr (.inl ⟨rfl, rfl⟩)⟩
  · exact ⟨_, _, _, _, ex, ey, .inl rfl⟩
  · exact ⟨_, _, _, _, ex, ey, .inl rfl⟩
set_option maxRecDepth 100000 in
set_option maxHeartbeats 4000000 in
theorem formatApart_true (x y : CfgD) (us vs : List Value) (W : World) (hE : Hid (Env W)) (hP : Hid (EnvP W)) (hd : Hid (DCells W (fun _ => True) us x.cells)) (he : Hid (DCells W (fun _ => True) vs y.cells)) (hl : CfgFit x) (hm : CfgFit y) (hn : cfgN x + cfgC x ≤ 1000000000) (hn2 : cfgN y + cfgC y ≤ 1000000000) :
    Calls Tryz.prog 6 #[.agg us.toArray, .agg vs.toArray] W fun e w' => e = .returned (.bool true) ∧ Below W.heap.size W w' := by
  have HA := hide (fun V hE hP => awake_any V hE hP)
  have HZ := hide (fun V hd => size_any x us V hd hn)
  have HZ2 := hide (fun V hd => size_any y vs V hd hn2)
  have HD := hd
  have HD2 := he
  have hlx : cfgN x + cfgC x / 8 ≤ 400 → cfgF x = true → (cfgT x).length ≤ 1000000 := fun h1 h2 => by have := small_len2 h2 h1; omega
  have hly : cfgN y + cfgC y / 8 ≤ 400 → cfgF y = true → (cfgT y).length ≤ 1000000 := fun h1 h2 => by have := small_len2 h2 h1; omega
  have HCX := hide (fun V hE hP hd h => config_any x us V hE hP hd hl (hlx h))
  have HCY := hide (fun V hE hP hd h => config_any y vs V hE hP hd hm (hly h))
  have HS := hide (fun V hd he => eq_cfg x y (x = y) (hide Iff.rfl) us vs V hd he hl hm)
  have hd := hd.out
  have he := he.out
  obtain ⟨u0, us, rfl, h0, hd⟩ := dcells_cons hd
  obtain ⟨u1, us, rfl, h1, hd⟩ := dcells_cons hd
  obtain ⟨u2, us, rfl, h2, hd⟩ := dcells_cons hd
  obtain ⟨u3, us, rfl, h3, hd⟩ := dcells_cons hd
  obtain ⟨u4, us, rfl, h4, hd⟩ := dcells_cons hd
  obtain ⟨u5, us, rfl, h5, hd⟩ := dcells_cons hd
  obtain ⟨u6, us, rfl, h6, hd⟩ := dcells_cons hd
  obtain ⟨u7, us, rfl, h7, hd⟩ := dcells_cons hd
  obtain rfl := dcells_nil hd
  clear hd h0 h1 h2 h3 h4 h5 h6 h7
  obtain ⟨v0, vs, rfl, i0, he⟩ := dcells_cons he
  obtain ⟨v1, vs, rfl, i1, he⟩ := dcells_cons he
  obtain ⟨v2, vs, rfl, i2, he⟩ := dcells_cons he
  obtain ⟨v3, vs, rfl, i3, he⟩ := dcells_cons he
  obtain ⟨v4, vs, rfl, i4, he⟩ := dcells_cons he
  obtain ⟨v5, vs, rfl, i5, he⟩ := dcells_cons he
  obtain ⟨v6, vs, rfl, i6, he⟩ := dcells_cons he
  obtain ⟨v7, vs, rfl, i7, he⟩ := dcells_cons he
  obtain rfl := dcells_nil he
  clear he i0 i1 i2 i3 i4 i5 i6 i7
  clear hl hm hn hn2 hlx hly
  have HX0 := hide ((Below.heap_alloc (W.alloc (.cells #[u0, u1, u2, u3, u4, u5, u6, u7] 31)) (.cells #[v0, v1, v2, v3, v4, v5, v6, v7] 31) W.heap.size (by simp)).trans (heap_alloc_new W (.cells #[u0, u1, u2, u3, u4, u5, u6, u7] 31)))
  have HY0 := hide (heap_alloc_new (W.alloc (.cells #[u0, u1, u2, u3, u4, u5, u6, u7] 31)) (.cells #[v0, v1, v2, v3, v4, v5, v6, v7] 31))
  rw [World.size_alloc] at HY0
  have HB0 := hide (((Below.refl W.heap.size W).alloc (Nat.le_refl _) (.cells #[u0, u1, u2, u3, u4, u5, u6, u7] 31)).alloc (by simp) (.cells #[v0, v1, v2, v3, v4, v5, v6, v7] 31))
  have HAC := hide (fun (h1 : cfgN x + cfgC x / 8 ≤ 400) (h2 : cfgN y + cfgC y / 8 ≤ 400) => apart_case h1 h2)
  have H4 := hide (show ¬ cfgN x + cfgC x / 8 ≤ 400 → (400 : Int) < ((cfgN x + cfgC x / 8 : Nat) : Int) by omega)
  have H5 := hide (show cfgN x + cfgC x / 8 ≤ 400 → ¬ (400 : Int) < ((cfgN x + cfgC x / 8 : Nat) : Int) by omega)
  have H6 := hide (show ¬ cfgN y + cfgC y / 8 ≤ 400 → (400 : Int) < ((cfgN y + cfgC y / 8 : Nat) : Int) by omega)
  have H7 := hide (show cfgN y + cfgC y / 8 ≤ 400 → ¬ (400 : Int) < ((cfgN y + cfgC y / 8 : Nat) : Int) by omega)
  generalize cfgN x + cfgC x / 8 = zx at *
  generalize cfgN y + cfgC y / 8 = zy at *
  go_enter Tryz.func6, Tryz.ntmps6
  go_wp2_with fail
  generalize (W.alloc (.cells #[u0, u1, u2, u3, u4, u5, u6, u7] 31)).alloc (.cells #[v0, v1, v2, v3, v4, v5, v6, v7] 31) = w0 at *
  refine (HA.out w0 (hide (hE.out.kept HB0.out)) (hide (hP.out.below HB0.out))).mono ?_
  rintro e w1 ⟨rfl, hb⟩
  have HB1 := hide (HB0.out.trans (hb.mono HB0.out.size))
  have HX1 := hide ((hb.block _ (Array.getElem?_eq_some_iff.1 HX0.out).1).trans HX0.out)
  have HY1 := hide ((hb.block _ (Array.getElem?_eq_some_iff.1 HY0.out).1).trans HY0.out)
  clear hb HA HB0 HX0 HY0
  have c0 := cell_of_row _ _ 0 _ _ _ HX1.out
  have c1 := cell_of_row _ _ 1 _ _ _ HX1.out
  have c2 := cell_of_row _ _ 2 _ _ _ HX1.out
  have c3 := cell_of_row _ _ 3 _ _ _ HX1.out
  have c4 := cell_of_row _ _ 4 _ _ _ HX1.out
  have c5 := cell_of_row _ _ 5 _ _ _ HX1.out
  have c6 := cell_of_row _ _ 6 _ _ _ HX1.out
  have c7 := cell_of_row _ _ 7 _ _ _ HX1.out
  by_cases hs : zx ≤ 400
  rotate_left
  · have h4 := H4.out hs
    clear hs
    go_wp2_with fail
    refine (HZ.out w1 (hide (HD.out.below HB1.out))).mono ?_
    rintro e w2 ⟨rfl, hb⟩
    have HB2 := hide (HB1.out.trans (hb.mono HB1.out.size))
    have HX2 := hide ((hb.block _ (Array.getElem?_eq_some_iff.1 HX1.out).1).trans HX1.out)
    have HY2 := hide ((hb.block _ (Array.getElem?_eq_some_iff.1 HY1.out).1).trans HY1.out)
    clear hb
    go_wp2_with fail
    go_ret
    exact ⟨rfl, HB2.out⟩
  have h5 := H5.out hs
  go_wp2_with fail
  refine (HZ.out w1 (hide (HD.out.below HB1.out))).mono ?_
  rintro e w2 ⟨rfl, hb⟩
  have HB2 := hide (HB1.out.trans (hb.mono HB1.out.size))
  have HX2 := hide ((hb.block _ (Array.getElem?_eq_some_iff.1 HX1.out).1).trans HX1.out)
  have HY2 := hide ((hb.block _ (Array.getElem?_eq_some_iff.1 HY1.out).1).trans HY1.out)
  clear hb HZ HB1 HX1 HY1 c0 c1 c2 c3 c4 c5 c6 c7
  have c0 := cell_of_row _ _ 0 _ _ _ HY2.out
  have c1 := cell_of_row _ _ 1 _ _ _ HY2.out
  have c2 := cell_of_row _ _ 2 _ _ _ HY2.out
  have c3 := cell_of_row _ _ 3 _ _ _ HY2.out
  have c4 := cell_of_row _ _ 4 _ _ _ HY2.out
  have c5 := cell_of_row _ _ 5 _ _ _ HY2.out
  have c6 := cell_of_row _ _ 6 _ _ _ HY2.out
  have c7 := cell_of_row _ _ 7 _ _ _ HY2.out
  by_cases hs2 : zy ≤ 400
  rotate_left
  · have h6 := H6.out hs2
    clear hs hs2
    go_wp2_with fail
    refine (HZ2.out w2 (hide (HD2.out.below HB2.out))).mono ?_
    rintro e w3 ⟨rfl, hb⟩
    have HB3 := hide (HB2.out.trans (hb.mono HB2.out.size))
    have HX3 := hide ((hb.block _ (Array.getElem?_eq_some_iff.1 HX2.out).1).trans HX2.out)
    have HY3 := hide ((hb.block _ (Array.getElem?_eq_some_iff.1 HY2.out).1).trans HY2.out)
    clear hb
    go_wp2_with fail
    go_ret
    exact ⟨rfl, HB3.out⟩
  have h7 := H7.out hs2
  go_wp2_with fail
  refine (HZ2.out w2 (hide (HD2.out.below HB2.out))).mono ?_
  rintro e w3 ⟨rfl, hb⟩
  have HB3 := hide (HB2.out.trans (hb.mono HB2.out.size))
  have HX3 := hide ((hb.block _ (Array.getElem?_eq_some_iff.1 HX2.out).1).trans HX2.out)
  have HY3 := hide ((hb.block _ (Array.getElem?_eq_some_iff.1 HY2.out).1).trans HY2.out)
  clear hb HZ2 HB2 HX2 HY2 c0 c1 c2 c3 c4 c5 c6 c7
  obtain ⟨sa, sb, ea, eb, h1, h2, hcase⟩ := HAC.out hs hs2
  have HK := hide hcase
  have HCX := hide (fun V hE hP hd => HCX.out V hE hP hd hs)
  have HCY := hide (fun V hE hP hd => HCY.out V hE hP hd hs2)
  rw [h1] at HCX
  rw [h2] at HCY
  clear h1 h2 hcase hs hs2 HAC H4 H5 H6 H7
  have c0 := cell_of_row _ _ 0 _ _ _ HX3.out
  have c1 := cell_of_row _ _ 1 _ _ _ HX3.out
  have c2 := cell_of_row _ _ 2 _ _ _ HX3.out
  have c3 := cell_of_row _ _ 3 _ _ _ HX3.out
  have c4 := cell_of_row _ _ 4 _ _ _ HX3.out
  have c5 := cell_of_row _ _ 5 _ _ _ HX3.out
  have c6 := cell_of_row _ _ 6 _ _ _ HX3.out
  have c7 := cell_of_row _ _ 7 _ _ _ HX3.out
  go_wp2_with fail
  refine (HCX.out w3 (hide (hE.out.kept HB3.out)) (hide (hP.out.below HB3.out)) (hide (HD.out.below HB3.out))).mono ?_
  rintro e w4 ⟨rfl, hb⟩
  have HB4 := hide (HB3.out.trans (hb.mono HB3.out.size))
  have HX4 := hide ((hb.block _ (Array.getElem?_eq_some_iff.1 HX3.out).1).trans HX3.out)
  have HY4 := hide ((hb.block _ (Array.getElem?_eq_some_iff.1 HY3.out).1).trans HY3.out)
  clear hb HCX HB3 HX3 HY3 c0 c1 c2 c3 c4 c5 c6 c7 h5 h7
  have c0 := cell_of_row _ _ 0 _ _ _ HY4.out
  have c1 := cell_of_row _ _ 1 _ _ _ HY4.out
  have c2 := cell_of_row _ _ 2 _ _ _ HY4.out
  have c3 := cell_of_row _ _ 3 _ _ _ HY4.out
  have c4 := cell_of_row _ _ 4 _ _ _ HY4.out
  have c5 := cell_of_row _ _ 5 _ _ _ HY4.out
  have c6 := cell_of_row _ _ 6 _ _ _ HY4.out
  have c7 := cell_of_row _ _ 7 _ _ _ HY4.out
  go_wp2_with fail
  refine (HCY.out w4 (hide (hE.out.kept HB4.out)) (hide (hP.out.below HB4.out)) (hide (HD2.out.below HB4.out))).mono ?_
  rintro e w5 ⟨rfl, hb⟩
  have HB5 := hide (HB4.out.trans (hb.mono HB4.out.size))
  have HX5 := hide ((hb.block _ (Array.getElem?_eq_some_iff.1 HX4.out).1).trans HX4.out)
  have HY5 := hide ((hb.block _ (Array.getElem?_eq_some_iff.1 HY4.out).1).trans HY4.out)
  clear hb HCY HB4 HX4 HY4 c0 c1 c2 c3 c4 c5 c6 c7
  rcases HK.out with rfl | ⟨rfl, rfl⟩ | ⟨rfl, rfl, hq⟩
  · go_wp2_with fail
    go_ret
    exact ⟨rfl, HB5.out⟩
  · go_wp2_with fail
    go_ret
    exact ⟨rfl, HB5.out⟩
  have HQ := hide hq
  clear hq
  have c0 := cell_of_row _ _ 0 _ _ _ HX5.out
  have c1 := cell_of_row _ _ 1 _ _ _ HX5.out
  have c2 := cell_of_row _ _ 2 _ _ _ HX5.out
  have c3 := cell_of_row _ _ 3 _ _ _ HX5.out
  have c4 := cell_of_row _ _ 4 _ _ _ HX5.out
  have c5 := cell_of_row _ _ 5 _ _ _ HX5.out
  have c6 := cell_of_row _ _ 6 _ _ _ HX5.out
  have c7 := cell_of_row _ _ 7 _ _ _ HX5.out
  have d0 := cell_of_row _ _ 0 _ _ _ HY5.out
  have d1 := cell_of_row _ _ 1 _ _ _ HY5.out
  have d2 := cell_of_row _ _ 2 _ _ _ HY5.out
  have d3 := cell_of_row _ _ 3 _ _ _ HY5.out
  have d4 := cell_of_row _ _ 4 _ _ _ HY5.out
  have d5 := cell_of_row _ _ 5 _ _ _ HY5.out
  have d6 := cell_of_row _ _ 6 _ _ _ HY5.out
  have d7 := cell_of_row _ _ 7 _ _ _ HY5.out
  go_wp2_with fail
  refine (HS.out w5 (hide (HD.out.below HB5.out)) (hide (HD2.out.below HB5.out))).mono ?_
  rintro e w6 ⟨z, rfl, hz, hb⟩
  have HB6 := hide (HB5.out.trans (hb.mono HB5.out.size))
  have HX6 := hide ((hb.block _ (Array.getElem?_eq_some_iff.1 HX5.out).1).trans HX5.out)
  have HY6 := hide ((hb.block _ (Array.getElem?_eq_some_iff.1 HY5.out).1).trans HY5.out)
  have hq := HQ.out z hz
  clear hb hz HS HB5 HX5 HY5 c0 c1 c2 c3 c4 c5 c6 c7 d0 d1 d2 d3 d4 d5 d6 d7
  cases z with
  | true =>
    go_wp2_with fail
    go_ret
    exact ⟨rfl, HB6.out⟩
  | false =>
    go_wp2_with fail
    go_ret
    exact ⟨rfl, HB6.out⟩
end Go.Proofs.YtgbfaompondolaaGreatDoor
