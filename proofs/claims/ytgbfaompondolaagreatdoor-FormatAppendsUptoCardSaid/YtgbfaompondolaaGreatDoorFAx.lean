/-
  nacellelaw09: FormatAppends.
-/
import Derived.Test.YtgbfaompondolaaGreatDoorFSj
import Derived.Test.YtgbfaompondolaaGreatDoorPk17
namespace Go.Proofs.YtgbfaompondolaaGreatDoor
open Go.RowKit
attribute [local go_sem] Later.cell
def firstD (x : CfgD) : CfgD := ⟨x.modules, x.channels, x.switches, [], [], [], [], []⟩
def restD (x : CfgD) : CfgD := ⟨[], [], [], x.links, x.vls, x.health, x.causes, x.versions⟩
theorem cfgF_parts (x : CfgD) : cfgF x = (cfgF (firstD x) && cfgF (restD x)) := by simp [cfgF, firstD, restD, Bool.and_assoc]
theorem cfgT_parts (x : CfgD) : cfgT x = cfgT (firstD x) ++ cfgT (restD x) := by simp [cfgT, firstD, restD, catT]
theorem first_fit {x : CfgD} (h : CfgFit x) : CfgFit (firstD x) where
  nm := h.nm
  m := h.m
  nc := h.nc
  c := h.c
  ns := h.ns
  nl := by show 0 ≤ _; omega
  nv := by show 0 ≤ _; omega
  v := fun y hy => by cases hy
  nh := by show 0 ≤ _; omega
  h := fun y hy => by cases hy
  nk := by show 0 ≤ _; omega
  k := fun y hy => by cases hy
  nr := by show 0 ≤ _; omega
theorem rest_fit {x : CfgD} (h : CfgFit x) : CfgFit (restD x) where
  nm := by show 0 ≤ _; omega
  m := fun y hy => by cases hy
  nc := by show 0 ≤ _; omega
  c := fun y hy => by cases hy
  ns := by show 0 ≤ _; omega
  nl := h.nl
  nv := h.nv
  v := h.v
  nh := h.nh
  h := h.h
  nk := h.nk
  k := h.k
  nr := h.nr
theorem cfgE_yes {x : CfgD} (h : cfgF x = true) (hl : (cfgT x).length ≤ 65536) : cfgE x = .tuple #[.string ⟨(cfgT x).toArray⟩, .int .i64 0] := by
  unfold cfgE fitsE
  rw [if_pos h, if_neg (by show ¬ 65536 < (cfgT x).length; omega)]
theorem cfgE_no {x : CfgD} (h : cfgF x = false) : cfgE x = .tuple #[.string ⟨#[]⟩, .int .i64 2] := by
  unfold cfgE
  rw [if_neg (by simp [h])]
theorem small_len {x : CfgD} (h : cfgF x = true) (hs : cfgN x + cfgC x / 8 ≤ 400) : (cfgT x).length ≤ 65536 := by
  have := cfgT_len h
  omega
theorem bytes_app (a b : List UInt8) : (⟨(a ++ b).toArray⟩ : ByteArray) = (⟨a.toArray⟩ : ByteArray) ++ (⟨b.toArray⟩ : ByteArray) := by
  apply ByteArray.ext
  simp
def AppCase (sa sb sc : ByteArray) (ea eb ec : Int) : Prop := (ea = 0 ∧ eb = 0 ∧ ec = 0 ∧ sa = sb ++ sc ∧ sb.size + sc.size ≤ 65536) ∨ (ea = 2 ∧ eb = 2 ∧ ec = 0) ∨ (ea = 2 ∧ eb = 0 ∧ ec = 2) ∨ (ea = 2 ∧ eb = 2 ∧ ec = 2)
theorem app_case {x : CfgD} (hs : cfgN x + cfgC x / 8 ≤ 400) : ∃ sa sb sc ea eb ec, cfgE x = .tuple #[.string sa, .int .i64 ea] ∧ cfgE (firstD x) = .tuple #[.string sb, .int .i64 eb] ∧ cfgE (restD x) = .tuple #[.string sc, .int .i64 ec] ∧ AppCase sa sb sc ea eb ec := by
  have hp := cfgF_parts x
  have ht := cfgT_parts x
  have hlen : cfgF x = true → (cfgT (firstD x)).length + (cfgT (restD x)).length ≤ 65536 := fun h => by
    have := small_len h hs
    rw [ht, List.length_append] at this
    exact this
  have hn1 : cfgN (firstD x) + cfgC (firstD x) / 8 ≤ 400 := by
    simp [cfgN, cfgC, firstD, sumLen] at hs ⊢
    omega
  have hn2 : cfgN (restD x) + cfgC (restD x) / 8 ≤ 400 := by
    simp [cfgN, cfgC, restD, sumLen] at hs ⊢
    omega
  cases h1 : cfgF (firstD x) <;> cases h2 : cfgF (restD x) <;> rw [h1, h2] at hp
  · exact ⟨_, _, _, _, _, _, cfgE_no hp, cfgE_no h1, cfgE_no h2, .inr (.inr (.inr ⟨rfl, rfl, rfl⟩))⟩
  · exact ⟨_, _, _, _, _, _, cfgE_no hp, cfgE_no h1, cfgE_yes h2 (small_len h2 hn2), .inr (.inl ⟨rfl, rfl, rfl⟩)⟩
  · exact ⟨_, _, _, _, _, _, cfgE_no hp, cfgE_yes h1 (small_len h1 hn1), cfgE_no h2, .inr (.inr (.inl ⟨rfl, rfl, rfl⟩))⟩
  · exact ⟨_, _, _, _, _, _, cfgE_yes hp (small_len hp hs), cfgE_yes h1 (small_len h1 hn1), cfgE_yes h2 (small_len h2 hn2), .inl ⟨rfl, rfl, rfl, by rw [ht, bytes_app], hlen hp⟩⟩
set_option maxRecDepth 100000 in
set_option maxHeartbeats 4000000 in
theorem formatAppends_true (x : CfgD) (us : List Value) (W : World) (hE : Hid (Env W)) (hP : Hid (EnvP W)) (hd : Hid (DCells W (fun _ => True) us x.cells)) (hl : CfgFit x) (hn : cfgN x + cfgC x ≤ 1000000000) :
    Calls Tryz.prog 7 #[.agg us.toArray] W fun e w' => e = .returned (.bool true) ∧ Below W.heap.size W w' := by
  have HA := hide (fun V hE hP => awake_any V hE hP)
  have HZ := hide (fun V hd => size_any x us V hd hn)
  have HD := hd
  have hlx : cfgN x + cfgC x / 8 ≤ 400 → cfgF x = true → (cfgT x).length ≤ 1000000 := fun h1 h2 => by have := small_len h2 h1; omega
  have hlf : cfgN x + cfgC x / 8 ≤ 400 → cfgF (firstD x) = true → (cfgT (firstD x)).length ≤ 1000000 := fun h1 h2 => by
    have := small_len h2 (by simp [cfgN, cfgC, firstD, sumLen] at h1 ⊢; omega)
    omega
  have hlr : cfgN x + cfgC x / 8 ≤ 400 → cfgF (restD x) = true → (cfgT (restD x)).length ≤ 1000000 := fun h1 h2 => by
    have := small_len h2 (by simp [cfgN, cfgC, restD, sumLen] at h1 ⊢; omega)
    omega
  have HCA := hide (fun V hE hP hd h => config_any x us V hE hP hd hl (hlx h))
  have hd := hd.out
  obtain ⟨u0, us, rfl, h0, hd⟩ := dcells_cons hd
  obtain ⟨u1, us, rfl, h1, hd⟩ := dcells_cons hd
  obtain ⟨u2, us, rfl, h2, hd⟩ := dcells_cons hd
  obtain ⟨u3, us, rfl, h3, hd⟩ := dcells_cons hd
  obtain ⟨u4, us, rfl, h4, hd⟩ := dcells_cons hd
  obtain ⟨u5, us, rfl, h5, hd⟩ := dcells_cons hd
  obtain ⟨u6, us, rfl, h6, hd⟩ := dcells_cons hd
  obtain ⟨u7, us, rfl, h7, hd⟩ := dcells_cons hd
  obtain rfl := dcells_nil hd
  obtain ⟨A0, p0, rfl, -⟩ := h0.slice
  generalize (List.map ModD.cells x.modules).length = n0 at *
  obtain ⟨A1, p1, rfl, -⟩ := h1.slice
  generalize (List.map ChanD.cells x.channels).length = n1 at *
  obtain ⟨A2, p2, rfl, -⟩ := h2.slice
  generalize (List.map SwD.cells x.switches).length = n2 at *
  obtain ⟨A3, p3, rfl, -⟩ := h3.slice
  generalize (List.map LinkD.cells x.links).length = n3 at *
  obtain ⟨A4, p4, rfl, -⟩ := h4.slice
  generalize (List.map VlD.cells x.vls).length = n4 at *
  obtain ⟨A5, p5, rfl, -⟩ := h5.slice
  generalize (List.map HealthD.cells x.health).length = n5 at *
  obtain ⟨A6, p6, rfl, -⟩ := h6.slice
  generalize (List.map CauseD.cells x.causes).length = n6 at *
  obtain ⟨A7, p7, rfl, -⟩ := h7.slice
  generalize (List.map VerD.cells x.versions).length = n7 at *
  have HDF : Hid (DCells W (fun _ => True) [.slice A0 n0 p0, .slice A1 n1 p1, .slice A2 n2 p2, .slice none 0 0, .slice none 0 0, .slice none 0 0, .slice none 0 0, .slice none 0 0] (firstD x).cells) := hide (DCells.cons h0 (DCells.cons h1 (DCells.cons h2 (DCells.cons (.nil _ _ _) (DCells.cons (.nil _ _ _) (DCells.cons (.nil _ _ _) (DCells.cons (.nil _ _ _) (DCells.cons (.nil _ _ _) DCells.nil))))))))
  have HDR : Hid (DCells W (fun _ => True) [.slice none 0 0, .slice none 0 0, .slice none 0 0, .slice A3 n3 p3, .slice A4 n4 p4, .slice A5 n5 p5, .slice A6 n6 p6, .slice A7 n7 p7] (restD x).cells) := hide (DCells.cons (.nil _ _ _) (DCells.cons (.nil _ _ _) (DCells.cons (.nil _ _ _) (DCells.cons h3 (DCells.cons h4 (DCells.cons h5 (DCells.cons h6 (DCells.cons h7 DCells.nil))))))))
  have HCF := hide (fun V hE hP hd h => config_any (firstD x) [.slice A0 n0 p0, .slice A1 n1 p1, .slice A2 n2 p2, .slice none 0 0, .slice none 0 0, .slice none 0 0, .slice none 0 0, .slice none 0 0] V hE hP hd (first_fit hl) (hlf h))
  have HCR := hide (fun V hE hP hd h => config_any (restD x) [.slice none 0 0, .slice none 0 0, .slice none 0 0, .slice A3 n3 p3, .slice A4 n4 p4, .slice A5 n5 p5, .slice A6 n6 p6, .slice A7 n7 p7] V hE hP hd (rest_fit hl) (hlr h))
  clear hd h0 h1 h2 h3 h4 h5 h6 h7 hl hn hlx hlf hlr
  have HX0 := hide (heap_alloc_new W (.cells #[.slice A0 n0 p0, .slice A1 n1 p1, .slice A2 n2 p2, .slice A3 n3 p3, .slice A4 n4 p4, .slice A5 n5 p5, .slice A6 n6 p6, .slice A7 n7 p7] 31))
  have HB0 := hide ((Below.refl W.heap.size W).alloc (Nat.le_refl _) (.cells #[.slice A0 n0 p0, .slice A1 n1 p1, .slice A2 n2 p2, .slice A3 n3 p3, .slice A4 n4 p4, .slice A5 n5 p5, .slice A6 n6 p6, .slice A7 n7 p7] 31))
  have hac : ∀ hs : cfgN x + cfgC x / 8 ≤ 400, _ := fun hs => app_case hs
  have hz4 : ¬ cfgN x + cfgC x / 8 ≤ 400 → (400 : Int) < ((cfgN x + cfgC x / 8 : Nat) : Int) := by omega
  have hz5 : cfgN x + cfgC x / 8 ≤ 400 → ¬ (400 : Int) < ((cfgN x + cfgC x / 8 : Nat) : Int) := by omega
  have HAC := hide hac
  have H4 := hide hz4
  have H5 := hide hz5
  clear hac hz4 hz5
  generalize cfgN x + cfgC x / 8 = z at *
  go_enter Tryz.func7, Tryz.ntmps7
  go_wp2_with fail
  generalize W.alloc (.cells #[.slice A0 n0 p0, .slice A1 n1 p1, .slice A2 n2 p2, .slice A3 n3 p3, .slice A4 n4 p4, .slice A5 n5 p5, .slice A6 n6 p6, .slice A7 n7 p7] 31) = w0 at *
  refine (HA.out w0 (hide (hE.out.kept HB0.out)) (hide (hP.out.below HB0.out))).mono ?_
  rintro e w1 ⟨rfl, hb⟩
  have HB1 := hide (HB0.out.trans (hb.mono HB0.out.size))
  have HX1 := hide ((hb.block _ (Array.getElem?_eq_some_iff.1 HX0.out).1).trans HX0.out)
  clear hb HA HB0 HX0
  have c0 := cell_of_row _ _ 0 _ _ _ HX1.out
  have c1 := cell_of_row _ _ 1 _ _ _ HX1.out
  have c2 := cell_of_row _ _ 2 _ _ _ HX1.out
  have c3 := cell_of_row _ _ 3 _ _ _ HX1.out
  have c4 := cell_of_row _ _ 4 _ _ _ HX1.out
  have c5 := cell_of_row _ _ 5 _ _ _ HX1.out
  have c6 := cell_of_row _ _ 6 _ _ _ HX1.out
  have c7 := cell_of_row _ _ 7 _ _ _ HX1.out
  go_wp2_with fail
  refine (HZ.out w1 (hide (HD.out.below HB1.out))).mono ?_
  rintro e w2 ⟨rfl, hb⟩
  have HB2 := hide (HB1.out.trans (hb.mono HB1.out.size))
  have HX2 := hide ((hb.block _ (Array.getElem?_eq_some_iff.1 HX1.out).1).trans HX1.out)
  clear hb HZ HB1 HX1 c0 c1 c2 c3 c4 c5 c6 c7
  by_cases hs : z ≤ 400
  rotate_left
  · have h4 := H4.out hs
    clear hs
    go_wp2_with fail
    go_ret
    exact ⟨rfl, HB2.out⟩
  have h5 := H5.out hs
  obtain ⟨sa, sb, sc, ea, eb, ec, ha, hb, hc, hcase⟩ := HAC.out hs
  have HK := hide hcase
  have HCA := hide (fun V hE hP hd => HCA.out V hE hP hd hs)
  have HCF := hide (fun V hE hP hd => HCF.out V hE hP hd hs)
  have HCR := hide (fun V hE hP hd => HCR.out V hE hP hd hs)
  rw [ha] at HCA
  rw [hb] at HCF
  rw [hc] at HCR
  clear ha hb hc hcase hs HAC H4 H5
  have HF3 := hide ((Below.heap_alloc (w2.alloc (.cells #[.slice A0 n0 p0, .slice A1 n1 p1, .slice A2 n2 p2, .slice none 0 0, .slice none 0 0, .slice none 0 0, .slice none 0 0, .slice none 0 0] 31)) (.cells #[.slice none 0 0, .slice none 0 0, .slice none 0 0, .slice A3 n3 p3, .slice A4 n4 p4, .slice A5 n5 p5, .slice A6 n6 p6, .slice A7 n7 p7] 31) w2.heap.size (by simp)).trans (heap_alloc_new w2 (.cells #[.slice A0 n0 p0, .slice A1 n1 p1, .slice A2 n2 p2, .slice none 0 0, .slice none 0 0, .slice none 0 0, .slice none 0 0, .slice none 0 0] 31)))
  have HR3 := hide (heap_alloc_new (w2.alloc (.cells #[.slice A0 n0 p0, .slice A1 n1 p1, .slice A2 n2 p2, .slice none 0 0, .slice none 0 0, .slice none 0 0, .slice none 0 0, .slice none 0 0] 31)) (.cells #[.slice none 0 0, .slice none 0 0, .slice none 0 0, .slice A3 n3 p3, .slice A4 n4 p4, .slice A5 n5 p5, .slice A6 n6 p6, .slice A7 n7 p7] 31))
  rw [World.size_alloc] at HR3
  have hb := ((Below.refl w2.heap.size w2).alloc (Nat.le_refl _) (.cells #[.slice A0 n0 p0, .slice A1 n1 p1, .slice A2 n2 p2, .slice none 0 0, .slice none 0 0, .slice none 0 0, .slice none 0 0, .slice none 0 0] 31)).alloc (by simp) (.cells #[.slice none 0 0, .slice none 0 0, .slice none 0 0, .slice A3 n3 p3, .slice A4 n4 p4, .slice A5 n5 p5, .slice A6 n6 p6, .slice A7 n7 p7] 31)
  have HB3 := hide (HB2.out.trans (hb.mono HB2.out.size))
  have HX3 := hide ((hb.block _ (Array.getElem?_eq_some_iff.1 HX2.out).1).trans HX2.out)
  clear hb
  have c0 := cell_of_row _ _ 0 _ _ _ HX2.out
  have c1 := cell_of_row _ _ 1 _ _ _ HX2.out
  have c2 := cell_of_row _ _ 2 _ _ _ HX2.out
  have c3 := cell_of_row _ _ 3 _ _ _ HX2.out
  have c4 := cell_of_row _ _ 4 _ _ _ HX2.out
  have c5 := cell_of_row _ _ 5 _ _ _ HX2.out
  have c6 := cell_of_row _ _ 6 _ _ _ HX2.out
  have c7 := cell_of_row _ _ 7 _ _ _ HX2.out
  have hz2 := (Array.getElem?_eq_some_iff.1 HX2.out).1
  go_upto_region 7 with fail
  clear c0 c1 c2 c3 c4 c5 c6 c7 h5 HB2 HX2 hz2
  generalize (w2.alloc (.cells #[.slice A0 n0 p0, .slice A1 n1 p1, .slice A2 n2 p2, .slice none 0 0, .slice none 0 0, .slice none 0 0, .slice none 0 0, .slice none 0 0] 31)).alloc (.cells #[.slice none 0 0, .slice none 0 0, .slice none 0 0, .slice A3 n3 p3, .slice A4 n4 p4, .slice A5 n5 p5, .slice A6 n6 p6, .slice A7 n7 p7] 31) = w3 at *
  have c0 := cell_of_row _ _ 0 _ _ _ HX3.out
  have c1 := cell_of_row _ _ 1 _ _ _ HX3.out
  have c2 := cell_of_row _ _ 2 _ _ _ HX3.out
  have c3 := cell_of_row _ _ 3 _ _ _ HX3.out
  have c4 := cell_of_row _ _ 4 _ _ _ HX3.out
  have c5 := cell_of_row _ _ 5 _ _ _ HX3.out
  have c6 := cell_of_row _ _ 6 _ _ _ HX3.out
  have c7 := cell_of_row _ _ 7 _ _ _ HX3.out
  go_wp2_with fail
  refine (HCA.out w3 (hide (hE.out.kept HB3.out)) (hide (hP.out.below HB3.out)) (hide (HD.out.below HB3.out))).mono ?_
  rintro e w4 ⟨rfl, hb⟩
  have HB4 := hide (HB3.out.trans (hb.mono HB3.out.size))
  have HX4 := hide ((hb.block _ (Array.getElem?_eq_some_iff.1 HX3.out).1).trans HX3.out)
  have HF4 := hide ((hb.block _ (Array.getElem?_eq_some_iff.1 HF3.out).1).trans HF3.out)
  have HR4 := hide ((hb.block _ (Array.getElem?_eq_some_iff.1 HR3.out).1).trans HR3.out)
  clear hb HCA HB3 HX3 HF3 HR3 c0 c1 c2 c3 c4 c5 c6 c7
  have c0 := cell_of_row _ _ 0 _ _ _ HF4.out
  have c1 := cell_of_row _ _ 1 _ _ _ HF4.out
  have c2 := cell_of_row _ _ 2 _ _ _ HF4.out
  have c3 := cell_of_row _ _ 3 _ _ _ HF4.out
  have c4 := cell_of_row _ _ 4 _ _ _ HF4.out
  have c5 := cell_of_row _ _ 5 _ _ _ HF4.out
  have c6 := cell_of_row _ _ 6 _ _ _ HF4.out
  have c7 := cell_of_row _ _ 7 _ _ _ HF4.out
  go_wp2_with fail
  refine (HCF.out w4 (hide (hE.out.kept HB4.out)) (hide (hP.out.below HB4.out)) (hide (HDF.out.below HB4.out))).mono ?_
  rintro e w5 ⟨rfl, hb⟩
  have HB5 := hide (HB4.out.trans (hb.mono HB4.out.size))
  have HX5 := hide ((hb.block _ (Array.getElem?_eq_some_iff.1 HX4.out).1).trans HX4.out)
  have HR5 := hide ((hb.block _ (Array.getElem?_eq_some_iff.1 HR4.out).1).trans HR4.out)
  clear hb HCF HB4 HX4 HF4 HR4 c0 c1 c2 c3 c4 c5 c6 c7
  have c0 := cell_of_row _ _ 0 _ _ _ HR5.out
  have c1 := cell_of_row _ _ 1 _ _ _ HR5.out
  have c2 := cell_of_row _ _ 2 _ _ _ HR5.out
  have c3 := cell_of_row _ _ 3 _ _ _ HR5.out
  have c4 := cell_of_row _ _ 4 _ _ _ HR5.out
  have c5 := cell_of_row _ _ 5 _ _ _ HR5.out
  have c6 := cell_of_row _ _ 6 _ _ _ HR5.out
  have c7 := cell_of_row _ _ 7 _ _ _ HR5.out
  go_wp2_with fail
  refine (HCR.out w5 (hide (hE.out.kept HB5.out)) (hide (hP.out.below HB5.out)) (hide (HDR.out.below HB5.out))).mono ?_
  rintro e w6 ⟨rfl, hb⟩
  have HB6 := hide (HB5.out.trans (hb.mono HB5.out.size))
  have HX6 := hide ((hb.block _ (Array.getElem?_eq_some_iff.1 HX5.out).1).trans HX5.out)
  clear hb HCR HB5 HX5 HR5 c0 c1 c2 c3 c4 c5 c6 c7
  rcases HK.out with ⟨rfl, rfl, rfl, rfl, hsz⟩ | ⟨rfl, rfl, rfl⟩ | ⟨rfl, rfl, rfl⟩ | ⟨rfl, rfl, rfl⟩
  · have hpp : (sb ++ sc == sb ++ sc) = true := by show ((sb ++ sc).data == (sb ++ sc).data) = true; simp
    have hsz2 : ¬ 9223372036854775807 < sb.size + sc.size := by omega
    go_wp2_with fail
    go_ret
    exact ⟨rfl, HB6.out⟩
  · go_wp2_with fail
    go_ret
    exact ⟨rfl, HB6.out⟩
  · go_wp2_with fail
    go_ret
    exact ⟨rfl, HB6.out⟩
  · go_wp2_with fail
    go_ret
    exact ⟨rfl, HB6.out⟩
end Go.Proofs.YtgbfaompondolaaGreatDoor
