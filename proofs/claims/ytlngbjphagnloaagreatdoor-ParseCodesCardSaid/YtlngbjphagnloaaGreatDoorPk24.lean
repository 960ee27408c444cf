/-
  Merged texts: parse: items (printed by tools/pi.py): vl. | parse: items (printed by tools/pi.py): cause.
-/
import Derived.Test.YtlngbjphagnloaaGreatDoorPk1
import Derived.Test.YtlngbjphagnloaaGreatDoorPk11
import Derived.Deep.DeepCutAuto
namespace Go.Proofs.YtlngbjphagnloaaGreatDoor
open Go.RowKit
attribute [local go_sem] Later.cell
attribute [local go_sem] refVal repVal
theorem vl_any_info : (Tryz.prog.info? 136).map (fun i => (i.zero, i.size, i.bytes)) = some (some (.agg #[Value.string ⟨#[]⟩, Value.string ⟨#[]⟩, Value.string ⟨#[]⟩, Value.string ⟨#[]⟩, Value.int .i64 0, Value.int .i64 0, Value.slice none 0 0]), 7, 104) := by kernel_rfl
set_option maxRecDepth 100000 in
set_option maxHeartbeats 4000000 in
theorem vl_any (pb j B : Nat) (ts : List Tok) (c : CfgD) (W : World) (H : Hid (PSt pb ts j c B W)) (hts : ts.length ≤ 1000000) (hj : j ≤ ts.length) (hg : Hid (Good ts)) (_hE : Hid (EnvP W)) (_hpE : 3 ≤ pb) (hfew : c.vls.length ≤ ts.length) :
    Calls Tryz.prog 61 #[.pointer (some ⟨pb, 0, none⟩)] W fun e W' => EndsC pb ts W B ((vlP >>= fun x => pure { c with vls := c.vls ++ [x] }) (ts.drop j)) e W' := by
  have hpb := H.out.cur.lt
  have hts' : ts.length ≤ 1099511627776 := by omega
  obtain ⟨i0, hi0, hz0, hz1, hz2⟩ := info_parts vl_any_info
  obtain ⟨vs, hvs, hcell⟩ := H.out.at_
  have HVS := hide hvs
  have HCELL := hide hcell
  clear hvs hcell
  have HA0 := hide (AtJ.start H.out.cur.now H.out.cur.free)
  go_enter Tryz.func61, Tryz.ntmps61
  go_wp2_with fail
  refine (name_any pb j ts _ (hide (H.out.cur.to HA0.out)) hts' hj).mono ?_
  rintro e w1 hE1
  rcases hE1.split with ⟨a1, j1, hr, hj1, hA, rfl⟩ | ⟨n, jn, hr, hjn, hA, rfl⟩
  rotate_left
  · have HX := hide (EndsC.mk_bad (B := B) (res := ((vlP >>= fun x => pure { c with vls := c.vls ++ [x] }) (ts.drop j))) (bnd_bad ((rfl : vlP (ts.drop j) = vlP (ts.drop j)).trans (bnd_bad hr))) hjn (HA0.out.trans hA).kp (H.out.cur.to (HA0.out.trans hA)))
    clear hA hr hE1
    go_wp2_with fail
    exact ⟨rfl, HX.out⟩
  have HB1 := hide (HA0.out.trans hA)
  have HR1 := hide ((rfl : vlP (ts.drop j) = vlP (ts.drop j)).trans (bnd_ok hr))
  clear hA hr hE1 HA0
  have HT1 : Hid ((w1.alloc (Obj.cells #[Value.string ⟨a1.toArray⟩, Value.string ⟨#[]⟩, Value.string ⟨#[]⟩, Value.string ⟨#[]⟩, Value.int .i64 0, Value.int .i64 0, Value.slice none 0 0] 136)).heap[w1.heap.size]? = some (Obj.cells #[Value.string ⟨a1.toArray⟩, Value.string ⟨#[]⟩, Value.string ⟨#[]⟩, Value.string ⟨#[]⟩, Value.int .i64 0, Value.int .i64 0, Value.slice none 0 0] 136 (0, 0))) := hide (heap_alloc_new w1 _)
  have HA1 := hide (HB1.out.below hpb ((Below.refl w1.heap.size w1).alloc (Nat.le_refl _) (Obj.cells #[Value.string ⟨a1.toArray⟩, Value.string ⟨#[]⟩, Value.string ⟨#[]⟩, Value.string ⟨#[]⟩, Value.int .i64 0, Value.int .i64 0, Value.slice none 0 0] 136)))
  have hgx : W.heap.size ≤ w1.heap.size := HB1.out.kept.size
  clear HB1
  go_wp2_with fail
  have hzz1 : (w1.alloc (Obj.cells #[Value.string ⟨a1.toArray⟩, Value.string ⟨#[]⟩, Value.string ⟨#[]⟩, Value.string ⟨#[]⟩, Value.int .i64 0, Value.int .i64 0, Value.slice none 0 0] 136)).heap.size = w1.heap.size + 1 := by simp
  generalize w1.heap.size = xb at *
  generalize w1.alloc (Obj.cells #[Value.string ⟨a1.toArray⟩, Value.string ⟨#[]⟩, Value.string ⟨#[]⟩, Value.string ⟨#[]⟩, Value.int .i64 0, Value.int .i64 0, Value.slice none 0 0] 136) = V1 at *
  refine (must_new pb j1 _ ts ⟨#[102, 114, 111, 109]⟩ _ (hide (H.out.cur.to HA1.out)) hts' hj1 (by decide) (by first | rfl | exact hzz1.symm | simp [go_sem])).mono ?_
  rintro e w2 hE2
  rcases hE2.split with ⟨a2, j2, hr, hj2, hA, rfl⟩ | ⟨n, jn, hr, hjn, hA, rfl⟩
  rotate_left
  · have HX := hide (EndsC.mk_bad (B := B) (res := ((vlP >>= fun x => pure { c with vls := c.vls ++ [x] }) (ts.drop j))) (bnd_bad (HR1.out.trans (bnd_bad hr))) hjn (HA1.out.trans hA).kp (H.out.cur.to (HA1.out.trans hA)))
    clear hA hr hE2
    go_wp2_with fail
    exact ⟨rfl, HX.out⟩
  have HB2 := hide (HA1.out.trans hA)
  have HR2 := hide (HR1.out.trans (bnd_ok hr))
  clear HR1
  have HS2 := hide ((hA.kept.block _ (Array.getElem?_eq_some_iff.1 HT1.out).1 (by omega)).trans HT1.out)
  clear hA hr hE2 HA1 HT1
  have HT2 := hide HS2.out
  have HA2 := hide HB2.out
  clear HS2 HB2
  go_wp2_with fail
  refine (ref_any pb j2 ts _ (hide (H.out.cur.to HA2.out)) hts' hj2).mono ?_
  rintro e w3 hE3
  rcases hE3.split with ⟨a3, j3, hr, hj3, hA, rfl⟩ | ⟨n, jn, hr, hjn, hA, rfl⟩
  rotate_left
  · have HX := hide (EndsC.mk_bad (B := B) (res := ((vlP >>= fun x => pure { c with vls := c.vls ++ [x] }) (ts.drop j))) (bnd_bad (HR2.out.trans (bnd_bad hr))) hjn (HA2.out.trans hA).kp (H.out.cur.to (HA2.out.trans hA)))
    clear hA hr hE3
    go_wp2_with fail
    exact ⟨rfl, HX.out⟩
  have HB3 := hide (HA2.out.trans hA)
  have HR3 := hide (HR2.out.trans (bnd_ok hr))
  clear HR2
  have HS3 := hide ((hA.kept.block _ (Array.getElem?_eq_some_iff.1 HT2.out).1 (by omega)).trans HT2.out)
  clear hA hr hE3 HA2 HT2
  obtain ⟨c0, c1, c2, c3, c4, c5, c6, f0, f1, f2, f3, f4, f5, f6⟩ := row7 HS3.out rfl
  have hl := (Array.getElem?_eq_some_iff.1 HS3.out).1
  have HT3 : Hid ((((w3.setCell ⟨xb, 1, none⟩ (Value.string ⟨a3.m.toArray⟩)).setCell ⟨xb, 2, none⟩ (Value.string ⟨a3.p.toArray⟩)).setCell ⟨xb, 3, none⟩ (Value.string ⟨a3.o.toArray⟩)).heap[xb]? = some (Obj.cells #[Value.string ⟨a1.toArray⟩, Value.string ⟨a3.m.toArray⟩, Value.string ⟨a3.p.toArray⟩, Value.string ⟨a3.o.toArray⟩, Value.int .i64 0, Value.int .i64 0, Value.slice none 0 0] 136 (0, 0))) := hide (heap_setCell_same _ xb 3 _ _ _ (heap_setCell_same _ xb 2 _ _ _ (heap_setCell_same _ xb 1 _ _ _ HS3.out)))
  have HA3 := hide (AtJ.fresh (AtJ.fresh (AtJ.fresh HB3.out hpb (p := ⟨xb, 1, none⟩) (by show xb ≠ pb; omega) hgx (Value.string ⟨a3.m.toArray⟩)) hpb (p := ⟨xb, 2, none⟩) (by show xb ≠ pb; omega) hgx (Value.string ⟨a3.p.toArray⟩)) hpb (p := ⟨xb, 3, none⟩) (by show xb ≠ pb; omega) hgx (Value.string ⟨a3.o.toArray⟩))
  go_wp2_with fail
  clear hl c0 f0 c1 f1 c2 f2 c3 f3 c4 f4 c5 f5 c6 f6
  have hzz3 : (((w3.setCell ⟨xb, 1, none⟩ (Value.string ⟨a3.m.toArray⟩)).setCell ⟨xb, 2, none⟩ (Value.string ⟨a3.p.toArray⟩)).setCell ⟨xb, 3, none⟩ (Value.string ⟨a3.o.toArray⟩)).heap.size = w3.heap.size := by simp [World.setCell]
  clear HS3 HB3
  generalize (((w3.setCell ⟨xb, 1, none⟩ (Value.string ⟨a3.m.toArray⟩)).setCell ⟨xb, 2, none⟩ (Value.string ⟨a3.p.toArray⟩)).setCell ⟨xb, 3, none⟩ (Value.string ⟨a3.o.toArray⟩)) = V3 at *
  refine wp_region_tail (S := fun _ => True) 10 (by kernel_rfl) (by kernel_rfl) trivial (fun hHeld => ?_)
  have HT3' : Hid (V3.drew.heap[xb]? = some (Obj.cells #[Value.string ⟨a1.toArray⟩, Value.string ⟨a3.m.toArray⟩, Value.string ⟨a3.p.toArray⟩, Value.string ⟨a3.o.toArray⟩, Value.int .i64 0, Value.int .i64 0, Value.slice none 0 0] 136 (0, 0))) := HT3
  have HA3' := hide HA3.out.drew
  clear HT3 HA3
  have HT3 := HT3'
  have HA3 := HA3'
  clear HT3' HA3'
  have hzd3 : V3.drew.heap.size = V3.heap.size := rfl
  generalize V3.drew = U3 at *
  (try rw [← hzd3] at hxV)
  refine tk 0 18 rfl (by kernel_rfl) (fun _ _ _ h => h) rfl (fun _ _ => by go_simp; with_reducible rfl) hHeld ?_
  refine tk 1 19 rfl (by kernel_rfl) (fun _ _ _ h => h) rfl (fun _ _ => by go_simp; with_reducible rfl) hHeld ?_
  refine tk 2 20 rfl (by kernel_rfl) (fun _ _ _ h => h) rfl (fun _ _ => by go_simp; with_reducible rfl) hHeld ?_
  refine tk 4 22 rfl (by kernel_rfl) (fun _ _ _ h => h) rfl (fun _ _ => by go_simp; with_reducible rfl) hHeld ?_
  refine tk 5 23 rfl (by kernel_rfl) (fun _ _ _ h => h) rfl (fun _ _ => by go_simp; with_reducible rfl) hHeld ?_
  refine tk 6 24 rfl (by kernel_rfl) (fun _ _ _ h => h) rfl (fun _ _ => by go_simp; with_reducible rfl) hHeld ?_
  (try simp only [Act.put, putA, putB, putC])
  refine wpAnyT_ready (rs := [3]) (by kernel_rfl) (by simp) (by rfl) (AllT.cons rfl (fun K hK => ?_) AllT.nil)
  go_simp
  refine (after_any pb j3 ts ⟨#[98, 97, 103]⟩ _ (hide (H.out.cur.to HA3.out)) hts' hj3 hg (by decide)).mono ?_
  rintro e w4 hE4
  rcases hE4.split with ⟨a4, j4, hr, hj4, hA, rfl⟩ | ⟨n, jn, hr, hjn, hA, rfl⟩
  rotate_left
  · have HX := hide (EndsC.mk_bad (B := B) (res := ((vlP >>= fun x => pure { c with vls := c.vls ++ [x] }) (ts.drop j))) (bnd_bad (HR3.out.trans (bnd_bad hr))) hjn (HA3.out.trans hA).kp (H.out.cur.to (HA3.out.trans hA)))
    clear hA hr hE4
    go_wp2_with fail
    exact ⟨rfl, HX.out⟩
  have HB4 := hide (HA3.out.trans hA)
  have HR4 := hide (HR3.out.trans (bnd_ok hr))
  clear HR3
  have HS4 := hide ((hA.kept.block _ (Array.getElem?_eq_some_iff.1 HT3.out).1 (by omega)).trans HT3.out)
  clear hA hr hE4 HA3 HT3
  have HT4 := hide HS4.out
  have HA4 := hide HB4.out
  clear HS4 HB4
  go_wp2_with fail
  refine hK.out _ _ trivial (fun _ => ?_)
  clear hK K
  refine tk 8 26 rfl (by kernel_rfl) (fun _ _ _ h => h) rfl (fun _ _ => by go_simp; with_reducible rfl) hHeld ?_
  (try simp only [Act.put, putA, putB, putC])
  refine wpAnyT_ready (rs := [7]) (by kernel_rfl) (by simp) (by rfl) (AllT.cons rfl (fun K hK => ?_) AllT.nil)
  go_simp
  refine (after_any pb j4 ts ⟨#[109, 97, 120]⟩ _ (hide (H.out.cur.to HA4.out)) hts' hj4 hg (by decide)).mono ?_
  rintro e w5 hE5
  rcases hE5.split with ⟨a5, j5, hr, hj5, hA, rfl⟩ | ⟨n, jn, hr, hjn, hA, rfl⟩
  rotate_left
  · have HX := hide (EndsC.mk_bad (B := B) (res := ((vlP >>= fun x => pure { c with vls := c.vls ++ [x] }) (ts.drop j))) (bnd_bad (HR4.out.trans (bnd_bad hr))) hjn (HA4.out.trans hA).kp (H.out.cur.to (HA4.out.trans hA)))
    clear hA hr hE5
    go_wp2_with fail
    exact ⟨rfl, HX.out⟩
  have HB5 := hide (HA4.out.trans hA)
  have HR5 := hide (HR4.out.trans (bnd_ok hr))
  clear HR4
  have HS5 := hide ((hA.kept.block _ (Array.getElem?_eq_some_iff.1 HT4.out).1 (by omega)).trans HT4.out)
  clear hA hr hE5 HA4 HT4
  have HT5 := hide HS5.out
  have HA5 := hide HB5.out
  clear HS5 HB5
  go_wp2_with fail
  refine hK.out _ _ trivial (fun _ => ?_)
  clear hK K
  (try simp only [Act.put, putA, putB, putC])
  obtain ⟨c0, c1, c2, c3, c4, c5, c6, f0, f1, f2, f3, f4, f5, f6⟩ := row7 HT5.out rfl
  have hl := (Array.getElem?_eq_some_iff.1 HT5.out).1
  refine wpAnyT_ready (rs := [9]) (by kernel_rfl) (by simp) (by rfl) (AllT.cons rfl (fun K hK => ?_) AllT.nil)
  go_simp
  refine hK.out _ _ trivial (fun _ => ?_)
  clear hK K
  (try simp only [Act.put, putA, putB, putC])
  refine wpAnyT_done (by kernel_rfl) ?_
  simp only [List.drop_succ_cons, List.drop_zero]
  have HS5 := HT5
  have HB5 := HA5
  clear HT5 HA5
  have HT5 : Hid (((w5.setCell ⟨xb, 4, none⟩ (Value.int .i64 a4)).setCell ⟨xb, 5, none⟩ (Value.int .i64 a5)).heap[xb]? = some (Obj.cells #[Value.string ⟨a1.toArray⟩, Value.string ⟨a3.m.toArray⟩, Value.string ⟨a3.p.toArray⟩, Value.string ⟨a3.o.toArray⟩, Value.int .i64 a4, Value.int .i64 a5, Value.slice none 0 0] 136 (0, 0))) := hide (heap_setCell_same _ xb 5 _ _ _ (heap_setCell_same _ xb 4 _ _ _ HS5.out))
  have HA5 := hide (AtJ.fresh (AtJ.fresh HB5.out hpb (p := ⟨xb, 4, none⟩) (by show xb ≠ pb; omega) hgx (Value.int .i64 a4)) hpb (p := ⟨xb, 5, none⟩) (by show xb ≠ pb; omega) hgx (Value.int .i64 a5))
  go_wp2_with fail
  clear hl c0 f0 c1 f1 c2 f2 c3 f3 c4 f4 c5 f5 c6 f6
  have hzz5 : ((w5.setCell ⟨xb, 4, none⟩ (Value.int .i64 a4)).setCell ⟨xb, 5, none⟩ (Value.int .i64 a5)).heap.size = w5.heap.size := by simp [World.setCell]
  clear HS5 HB5
  generalize ((w5.setCell ⟨xb, 4, none⟩ (Value.int .i64 a4)).setCell ⟨xb, 5, none⟩ (Value.int .i64 a5)) = V5 at *
  refine (must_new pb j5 _ ts ⟨#[116, 111]⟩ _ (hide (H.out.cur.to HA5.out)) hts' hj5 (by decide) (by first | rfl | exact hzz5.symm | simp [go_sem])).mono ?_
  rintro e w6 hE6
  rcases hE6.split with ⟨a6, j6, hr, hj6, hA, rfl⟩ | ⟨n, jn, hr, hjn, hA, rfl⟩
  rotate_left
  · have HX := hide (EndsC.mk_bad (B := B) (res := ((vlP >>= fun x => pure { c with vls := c.vls ++ [x] }) (ts.drop j))) (bnd_bad (HR5.out.trans (bnd_bad hr))) hjn (HA5.out.trans hA).kp (H.out.cur.to (HA5.out.trans hA)))
    clear hA hr hE6
    go_wp2_with fail
    exact ⟨rfl, HX.out⟩
  have HB6 := hide (HA5.out.trans hA)
  have HR6 := hide (HR5.out.trans (bnd_ok hr))
  clear HR5
  have HS6 := hide ((hA.kept.block _ (Array.getElem?_eq_some_iff.1 HT5.out).1 (by omega)).trans HT5.out)
  clear hA hr hE6 HA5 HT5
  have HT6 := hide HS6.out
  have HA6 := hide HB6.out
  clear HS6 HB6
  go_wp2_with fail
  have hxV : xb < w6.heap.size := (Array.getElem?_eq_some_iff.1 HT6.out).1
  refine wp_region_tail (S := fun _ => True) 7 (by kernel_rfl) (by kernel_rfl) trivial (fun hHeld => ?_)
  have HT6' : Hid (w6.drew.heap[xb]? = some (Obj.cells #[Value.string ⟨a1.toArray⟩, Value.string ⟨a3.m.toArray⟩, Value.string ⟨a3.p.toArray⟩, Value.string ⟨a3.o.toArray⟩, Value.int .i64 a4, Value.int .i64 a5, Value.slice none 0 0] 136 (0, 0))) := HT6
  have HA6' := hide HA6.out.drew
  clear HT6 HA6
  have HT6 := HT6'
  have HA6 := HA6'
  clear HT6' HA6'
  have hzd6 : w6.drew.heap.size = w6.heap.size := rfl
  generalize w6.drew = U6 at *
  (try rw [← hzd6] at hxV)
  refine tk 0 33 rfl (by kernel_rfl) (fun _ _ _ h => h) rfl (fun _ _ => by go_simp; with_reducible rfl) hHeld ?_
  refine tk 1 34 rfl (by kernel_rfl) (fun _ _ _ h => h) rfl (fun _ _ => by go_simp; with_reducible rfl) hHeld ?_
  refine tk 2 35 rfl (by kernel_rfl) (fun _ _ _ h => h) rfl (fun _ _ => by go_simp; with_reducible rfl) hHeld ?_
  refine tk 3 36 rfl (by kernel_rfl) (fun _ _ _ h => h) rfl (fun _ _ => by go_simp; with_reducible rfl) hHeld ?_
  refine tk 4 37 rfl (by kernel_rfl) (fun _ _ _ h => h) rfl (fun _ _ => by go_simp; with_reducible rfl) hHeld ?_
  refine tk 5 38 rfl (by kernel_rfl) (fun _ _ _ h => h) rfl (fun _ _ => by go_simp; with_reducible rfl) hHeld ?_
  refine tk 6 39 rfl (by kernel_rfl) (fun _ _ _ h => h) rfl (fun _ _ => by go_simp; with_reducible rfl) hHeld ?_
  (try simp only [Act.put, putA, putB, putC])
  refine wpAnyT_done (by kernel_rfl) ?_
  simp only [List.drop_succ_cons, List.drop_zero]
  go_wp2_with fail
  refine (listref_any pb j6 ts _ (hide (H.out.cur.to HA6.out)) hts' hj6).mono ?_
  rintro e w7 hE7
  rcases hE7.split with ⟨a7, j7, v7, hr, hj7, hA, hO, rfl⟩ | ⟨n, jn, hr, hjn, hA, rfl⟩
  rotate_left
  · have HX := hide (EndsC.mk_bad (B := B) (res := ((vlP >>= fun x => pure { c with vls := c.vls ++ [x] }) (ts.drop j))) (bnd_bad (HR6.out.trans (bnd_bad hr))) hjn (HA6.out.trans hA).kp (H.out.cur.to (HA6.out.trans hA)))
    clear hA hr hE7
    go_wp2_with fail
    exact ⟨rfl, HX.out⟩
  have HB7 := hide (HA6.out.trans hA)
  have HR7 := hide (HR6.out.trans (bnd_ok hr))
  clear HR6
  have HO7 := hide hO
  have hq7 : U6.heap.size ≤ w7.heap.size := hA.kept.size
  clear hO
  have HS7 := hide ((hA.kept.block _ (Array.getElem?_eq_some_iff.1 HT6.out).1 (by omega)).trans HT6.out)
  clear hA hr hE7 HA6 HT6
  obtain ⟨A7, q7, rfl⟩ := own_form HO7.out
  have HD7 := hide ((own_leaf (cells := (fun r : RefD => [Value.string ⟨r.m.toArray⟩, Value.string ⟨r.p.toArray⟩, Value.string ⟨r.o.toArray⟩])) (fun _ => rfl) HO7.out).mono (H := fun b => xb < b) (fun b hb _ => Nat.lt_of_lt_of_le hxV hb))
  clear HO7
  obtain ⟨c0, c1, c2, c3, c4, c5, c6, f0, f1, f2, f3, f4, f5, f6⟩ := row7 HS7.out rfl
  have hl := (Array.getElem?_eq_some_iff.1 HS7.out).1
  have HT7 : Hid ((w7.setCell ⟨xb, 6, none⟩ (Value.slice A7 a7.length q7)).heap[xb]? = some (Obj.cells #[Value.string ⟨a1.toArray⟩, Value.string ⟨a3.m.toArray⟩, Value.string ⟨a3.p.toArray⟩, Value.string ⟨a3.o.toArray⟩, Value.int .i64 a4, Value.int .i64 a5, Value.slice A7 a7.length q7] 136 (0, 0))) := hide (heap_setCell_same _ xb 6 _ _ _ HS7.out)
  have HA7 := hide (AtJ.fresh HB7.out hpb (p := ⟨xb, 6, none⟩) (by show xb ≠ pb; omega) hgx (Value.slice A7 a7.length q7))
  have HD7' : Hid (DAt (w7.setCell ⟨xb, 6, none⟩ (Value.slice A7 a7.length q7)) (fun b => xb < b) (.slice A7 a7.length q7) _) := hide (DAt.keep HD7.out (by simp [World.setCell]) (fun b hb _ => Below.heap_setCell _ _ _ _ (by show b ≠ xb; omega)))
  clear HD7
  have HD7 := HD7'
  clear HD7'
  go_wp2_with fail
  clear hl c0 f0 c1 f1 c2 f2 c3 f3 c4 f4 c5 f5 c6 f6
  have hzz7 : (w7.setCell ⟨xb, 6, none⟩ (Value.slice A7 a7.length q7)).heap.size = w7.heap.size := by simp [World.setCell]
  clear HS7 HB7
  generalize (w7.setCell ⟨xb, 6, none⟩ (Value.slice A7 a7.length q7)) = V7 at *
  refine (must_new pb j7 _ ts ⟨#[59]⟩ _ (hide (H.out.cur.to HA7.out)) hts' hj7 (by decide) (by first | rfl | exact hzz7.symm | simp [go_sem])).mono ?_
  rintro e w8 hE8
  rcases hE8.split with ⟨a8, j8, hr, hj8, hA, rfl⟩ | ⟨n, jn, hr, hjn, hA, rfl⟩
  rotate_left
  · have HX := hide (EndsC.mk_bad (B := B) (res := ((vlP >>= fun x => pure { c with vls := c.vls ++ [x] }) (ts.drop j))) (bnd_bad (HR7.out.trans (bnd_bad hr))) hjn (HA7.out.trans hA).kp (H.out.cur.to (HA7.out.trans hA)))
    clear hA hr hE8
    go_wp2_with fail
    exact ⟨rfl, HX.out⟩
  have HB8 := hide (HA7.out.trans hA)
  have HR8 := hide (HR7.out.trans (bnd_ok hr))
  clear HR7
  have HD7' := hide (HD7.out.keep hA.kept.size (fun b hb _ => hA.kept.block b ‹_› (by omega)))
  clear HD7
  have HD7 := HD7'
  clear HD7'
  have HS8 := hide ((hA.kept.block _ (Array.getElem?_eq_some_iff.1 HT7.out).1 (by omega)).trans HT7.out)
  clear hA hr hE8 HA7 HT7
  have HT8 := hide HS8.out
  have HA8 := hide HB8.out
  clear HS8 HB8
  go_wp2_with fail
  have hvk := HVS.out.kept HA8.out.kept (fun b hb e => by have := H.out.low; omega)
  have hck : ∀ (i : Nat) u, vs[i]? = some u → w8.cell? ⟨pb, 2 + i, none⟩ = some u := fun i u hu => (HA8.out.rest (2 + i) (by omega)).trans (HCELL.out i u hu)
  have hv : vs[4]? = some (vs[4]'(by rw [HVS.out.len]; exact (by decide : 4 < 8))) := List.getElem?_eq_getElem _
  generalize vs[4]'(by rw [HVS.out.len]; exact (by decide : 4 < 8)) = v at hv
  obtain ⟨cs, ho, hc⟩ := hvk.own 4 v ⟨136, 7, c.vls.map VlD.cells⟩ hv rfl
  dsimp only at ho hc
  obtain ⟨A, q, rfl⟩ := own_form ho
  have hcK : w8.cell? ⟨pb, 6, none⟩ = _ := hck 4 _ hv
  have hfK := (H.out.to HA8.out).free 6 (by decide)
  have hnl : (c.vls.map VlD.cells).length ≤ 1000000 := by simp; omega
  have hOB : ∀ g, (Value.slice A (c.vls.map VlD.cells).length q).ownBlock = some g → B ≤ g ∧ g < W.heap.size := fun g hg => by
    obtain ⟨cs', ho', _⟩ := HVS.out.own 4 _ _ hv rfl
    exact own_lt ho' hg
  have hBp := H.out.low
  have HVK := hide hvk
  have HCK := hide hck
  have HC := hide hc
  have HO := hide ho
  have HOB := hide hOB
  have HV := hide hv
  clear hvk hck hc ho hOB hv
  generalize hnn : (c.vls.map VlD.cells).length = m at *
  have HNN := hide hnn
  clear hnn
  obtain ⟨c0, c1, c2, c3, c4, c5, c6, f0, f1, f2, f3, f4, f5, f6⟩ := row7 HT8.out rfl
  have hl := (Array.getElem?_eq_some_iff.1 HT8.out).1
  have hpV : pb < w8.heap.size := Nat.lt_of_lt_of_le hpb HA8.out.kept.size
  have HBel := hide ((Below.refl w8.heap.size w8).drew)
  refine wp_region_tail (S := fun w' => w'.heap[pb]? = w8.heap[pb]? ∧ w'.heap[xb]? = w8.heap[xb]?) 9 (by kernel_rfl) (by kernel_rfl) ⟨rfl, rfl⟩ (fun hHeld => ?_)
  generalize w8.drew = V0 at *
  refine tk 0 47 rfl (by kernel_rfl) (fun _ _ _ h => h) rfl (fun _ _ => by go_simp; with_reducible rfl) hHeld ?_
  refine tk 1 48 rfl (by kernel_rfl) (fun _ _ _ h => h) rfl (fun _ _ => by go_simp; with_reducible rfl) hHeld ?_
  refine tk 2 49 rfl (by kernel_rfl) (fun _ _ _ h => h) rfl (fun _ _ => by go_simp; with_reducible rfl) hHeld ?_
  refine tk 3 50 rfl (by kernel_rfl) (fun _ _ _ h => h) rfl (fun _ _ => by go_simp; with_reducible rfl) hHeld ?_
  refine tk 4 51 rfl (by kernel_rfl) (fun _ _ _ h => h) rfl (fun _ _ => by go_simp; with_reducible rfl) hHeld ?_
  (try simp only [Act.put, putA, putB, putC])
  refine wpAnyT_take (i := 5) (oi := ⟨some 52, _, _, _, _, _⟩) (v := ?_) rfl (by kernel_rfl) (fun _ _ _ h => h) (Or.inl ⟨by rfl, ?_⟩) hHeld ?_
  rotate_left
  · intro v hS
    have e0 := (World.cell?_of_block (a := ⟨pb, 6, none⟩) hS.1).trans hcK
    go_simp
    with_reducible rfl
  (try simp only [Act.put, putA, putB, putC])
  refine wpAnyT_take (i := 6) (oi := ⟨some 53, _, _, _, _, _⟩) (v := ?_) rfl (by kernel_rfl) (fun _ _ _ h => h) (Or.inl ⟨by rfl, ?_⟩) hHeld ?_
  rotate_left
  · intro v hS
    have e0 := (World.cell?_of_block (a := ⟨xb, 0, none⟩) hS.2).trans c0
    have e1 := (World.cell?_of_block (a := ⟨xb, 1, none⟩) hS.2).trans c1
    have e2 := (World.cell?_of_block (a := ⟨xb, 2, none⟩) hS.2).trans c2
    have e3 := (World.cell?_of_block (a := ⟨xb, 3, none⟩) hS.2).trans c3
    have e4 := (World.cell?_of_block (a := ⟨xb, 4, none⟩) hS.2).trans c4
    have e5 := (World.cell?_of_block (a := ⟨xb, 5, none⟩) hS.2).trans c5
    have e6 := (World.cell?_of_block (a := ⟨xb, 6, none⟩) hS.2).trans c6
    go_simp
    with_reducible rfl
  (try simp only [Act.put, putA, putB, putC])
  refine wpAnyT_ready (rs := [7]) (by kernel_rfl) (by simp) (by rfl) (AllT.cons rfl (fun K hK => ?_) AllT.nil)
  go_simp
  have hpV0 : pb < V0.heap.size := Nat.lt_of_lt_of_le hpV HBel.out.size
  have hxV0 : xb < V0.heap.size := Nat.lt_of_lt_of_le hl HBel.out.size
  refine hK.out _ _ ⟨(Below.heap_alloc V0 _ pb hpV0).trans hHeld.1, (Below.heap_alloc V0 _ xb hxV0).trans hHeld.2⟩ (fun hHeld1 => ?_)
  clear hK K hHeld
  have hHeld := hHeld1
  clear hHeld1
  have XN := hide (heap_alloc_new V0 (Obj.cells #[Value.string ⟨a1.toArray⟩, Value.string ⟨a3.m.toArray⟩, Value.string ⟨a3.p.toArray⟩, Value.string ⟨a3.o.toArray⟩, Value.int .i64 a4, Value.int .i64 a5, Value.slice A7 a7.length q7] 136))
  have HB1 := hide (HBel.out.alloc HBel.out.size (Obj.cells #[Value.string ⟨a1.toArray⟩, Value.string ⟨a3.m.toArray⟩, Value.string ⟨a3.p.toArray⟩, Value.string ⟨a3.o.toArray⟩, Value.int .i64 a4, Value.int .i64 a5, Value.slice A7 a7.length q7] 136))
  have hzV : w8.heap.size ≤ V0.heap.size := HBel.out.size
  clear HBel
  have hz1' : V0.heap.size < (V0.alloc (Obj.cells #[Value.string ⟨a1.toArray⟩, Value.string ⟨a3.m.toArray⟩, Value.string ⟨a3.p.toArray⟩, Value.string ⟨a3.o.toArray⟩, Value.int .i64 a4, Value.int .i64 a5, Value.slice A7 a7.length q7] 136)).heap.size := by simp
  generalize V0.heap.size = nb at *
  generalize V0.alloc (Obj.cells #[Value.string ⟨a1.toArray⟩, Value.string ⟨a3.m.toArray⟩, Value.string ⟨a3.p.toArray⟩, Value.string ⟨a3.o.toArray⟩, Value.int .i64 a4, Value.int .i64 a5, Value.slice A7 a7.length q7] 136) = V1 at *
  clear V0
  (try simp only [Act.put, putA, putB, putC])
  refine wpAnyT_ready (rs := [8]) (by kernel_rfl) (by simp) (by rfl) (AllT.cons rfl (fun K hK => ?_) AllT.nil)
  have hO1 := own_keep (w' := V1) HO.out (fun g hg _ => HB1.out.block g (own_lt HO.out hg).2)
  have HO1 := hide hO1
  clear hO1
  have hBV : B ≤ V1.heap.size := by have := H.out.big; have := HA8.out.kept.size; have := HB1.out.size; omega
  refine step_append_any _ rfl (.tmp 52) (.tmp 54) 27 rfl B 136 i0 _ 7 104 Tryz.underlying27 hi0 hz0 hz1 hz2 rfl (by decide) (.slice A m q) m cs rfl HO1.out _ (some ⟨nb, 0, none⟩) 1 1 [Value.string ⟨a1.toArray⟩, Value.string ⟨a3.m.toArray⟩, Value.string ⟨a3.p.toArray⟩, Value.string ⟨a3.o.toArray⟩, Value.int .i64 a4, Value.int .i64 a5, Value.slice A7 a7.length q7] rfl (reads_blk XN.out rfl) (by simp [Value.oneCell']) (by unfold maxLen; omega) (by omega) hBV ?_
  intro v5 wz hown5 hg5 hat5
  obtain ⟨Az, qz, rfl⟩ := own_form hown5
  have hp5 := hg5.block pb (by omega) (fun e => by have := (HOB.out pb e.symm).1; omega)
  have hx5 := hg5.block xb (by omega) (fun e => by have := (HOB.out xb e.symm).2; omega)
  refine hK.out _ _ ⟨hp5.trans hHeld.1, hx5.trans hHeld.2⟩ (fun hHeld1 => ?_)
  clear hK K
  have q0 := (World.cell?_of_block (a := ⟨pb, 6, none⟩) hHeld1.1).trans hcK
  have q1 := (World.frozen?_of_block (a := ⟨pb, 6, none⟩) hHeld1.1).trans hfK
  have hFIN := (H.out.to HA8.out).push (c' := { c with vls := c.vls ++ [⟨a1, a3, a4, a5, a7⟩] }) HVK.out HCK.out HV.out rfl HC.out (f := VlD.cells (⟨a1, a3, a4, a5, a7⟩)) rfl HB1.out (news := [Value.string ⟨a1.toArray⟩, Value.string ⟨a3.m.toArray⟩, Value.string ⟨a3.p.toArray⟩, Value.string ⟨a3.o.toArray⟩, Value.int .i64 a4, Value.int .i64 a5, Value.slice A7 a7.length q7]) ?_ (by rw [HNN.out]; exact hown5) hg5 hat5 (by simp [cfgRows])
  rotate_left
  · have hFR : ∀ b, W.heap.size ≤ b → OwnSet B vs b := fun b hb => ⟨by have := H.out.big; omega, fun u hu e => by
      obtain ⟨i, hi⟩ := List.getElem?_of_mem hu
      have hi2 : i < (cfgRows c).length := by rw [← HVS.out.len]; exact (List.getElem?_eq_some_iff.1 hi).1
      obtain ⟨cs', ho', _⟩ := HVS.out.own i u _ hi (List.getElem?_eq_getElem hi2)
      have := (own_lt ho' e).2
      omega⟩
    exact DCells.cons (.leaf _) (DCells.cons (.leaf _) (DCells.cons (.leaf _) (DCells.cons (.leaf _) (DCells.cons (.leaf _) (DCells.cons (.leaf _) (DCells.cons ((HD7.out.later HB1.out).mono (fun b hb _ => hFR b (by omega))) (DCells.nil)))))))
  have HFIN := hide hFIN
  have HEND := hide ((bnd_ok (HR8.out.trans rfl)).trans rfl : ((vlP >>= fun x => pure { c with vls := c.vls ++ [x] }) (ts.drop j)) = .ok { c with vls := c.vls ++ [⟨a1, a3, a4, a5, a7⟩] } (ts.drop j8))
  clear hFIN hp5 hx5 hown5 hg5 hat5 hHeld hHeld1 XN HO1 HR8
  clear hl c0 f0 c1 f1 c2 f2 c3 f3 c4 f4 c5 f5 c6 f6
  refine wpAnyT_done (by kernel_rfl) ?_
  simp only [List.drop_succ_cons, List.drop_zero]
  go_wp2_with fail
  go_end0
  exact EndsC.mk_ok HEND.out hj8 (HA8.out.kp.trans HFIN.out.2) HFIN.out.1
end Go.Proofs.YtlngbjphagnloaaGreatDoor
namespace Go.Proofs.YtlngbjphagnloaaGreatDoor
open Go.RowKit
attribute [local go_sem] Later.cell
attribute [local go_sem] refVal repVal
theorem cause_any_info : (Tryz.prog.info? 82).map (fun i => (i.zero, i.size, i.bytes)) = some (some (.agg #[Value.string ⟨#[]⟩, Value.slice none 0 0, Value.slice none 0 0]), 3, 64) := by kernel_rfl
set_option maxRecDepth 100000 in
set_option maxHeartbeats 4000000 in
theorem cause_any (pb j B : Nat) (ts : List Tok) (c : CfgD) (W : World) (H : Hid (PSt pb ts j c B W)) (hts : ts.length ≤ 1000000) (hj : j ≤ ts.length) (hg : Hid (Good ts)) (_hE : Hid (EnvP W)) (_hpE : 3 ≤ pb) (hfew : c.causes.length ≤ ts.length) :
    Calls Tryz.prog 63 #[.pointer (some ⟨pb, 0, none⟩)] W fun e W' => EndsC pb ts W B ((causeP >>= fun x => pure { c with causes := c.causes ++ [x] }) (ts.drop j)) e W' := by
  have hpb := H.out.cur.lt
  have hts' : ts.length ≤ 1099511627776 := by omega
  obtain ⟨i0, hi0, hz0, hz1, hz2⟩ := info_parts cause_any_info
  obtain ⟨vs, hvs, hcell⟩ := H.out.at_
  have HVS := hide hvs
  have HCELL := hide hcell
  clear hvs hcell
  have HA0 := hide (AtJ.start H.out.cur.now H.out.cur.free)
  go_enter Tryz.func63, Tryz.ntmps63
  go_wp2_with fail
  refine (name_any pb j ts _ (hide (H.out.cur.to HA0.out)) hts' hj).mono ?_
  rintro e w1 hE1
  rcases hE1.split with ⟨a1, j1, hr, hj1, hA, rfl⟩ | ⟨n, jn, hr, hjn, hA, rfl⟩
  rotate_left
  · have HX := hide (EndsC.mk_bad (B := B) (res := ((causeP >>= fun x => pure { c with causes := c.causes ++ [x] }) (ts.drop j))) (bnd_bad ((rfl : causeP (ts.drop j) = causeP (ts.drop j)).trans (bnd_bad hr))) hjn (HA0.out.trans hA).kp (H.out.cur.to (HA0.out.trans hA)))
    clear hA hr hE1
    go_wp2_with fail
    exact ⟨rfl, HX.out⟩
  have HB1 := hide (HA0.out.trans hA)
  have HR1 := hide ((rfl : causeP (ts.drop j) = causeP (ts.drop j)).trans (bnd_ok hr))
  clear hA hr hE1 HA0
  have HT1 : Hid ((w1.alloc (Obj.cells #[Value.string ⟨a1.toArray⟩, Value.slice none 0 0, Value.slice none 0 0] 82)).heap[w1.heap.size]? = some (Obj.cells #[Value.string ⟨a1.toArray⟩, Value.slice none 0 0, Value.slice none 0 0] 82 (0, 0))) := hide (heap_alloc_new w1 _)
  have HA1 := hide (HB1.out.below hpb ((Below.refl w1.heap.size w1).alloc (Nat.le_refl _) (Obj.cells #[Value.string ⟨a1.toArray⟩, Value.slice none 0 0, Value.slice none 0 0] 82)))
  have hgx : W.heap.size ≤ w1.heap.size := HB1.out.kept.size
  clear HB1
  go_wp2_with fail
  have hzz1 : (w1.alloc (Obj.cells #[Value.string ⟨a1.toArray⟩, Value.slice none 0 0, Value.slice none 0 0] 82)).heap.size = w1.heap.size + 1 := by simp
  generalize w1.heap.size = xb at *
  generalize w1.alloc (Obj.cells #[Value.string ⟨a1.toArray⟩, Value.slice none 0 0, Value.slice none 0 0] 82) = V1 at *
  refine (must_new pb j1 _ ts ⟨#[110, 101, 101, 100, 115]⟩ _ (hide (H.out.cur.to HA1.out)) hts' hj1 (by decide) (by first | rfl | exact hzz1.symm | simp [go_sem])).mono ?_
  rintro e w2 hE2
  rcases hE2.split with ⟨a2, j2, hr, hj2, hA, rfl⟩ | ⟨n, jn, hr, hjn, hA, rfl⟩
  rotate_left
  · have HX := hide (EndsC.mk_bad (B := B) (res := ((causeP >>= fun x => pure { c with causes := c.causes ++ [x] }) (ts.drop j))) (bnd_bad (HR1.out.trans (bnd_bad hr))) hjn (HA1.out.trans hA).kp (H.out.cur.to (HA1.out.trans hA)))
    clear hA hr hE2
    go_wp2_with fail
    exact ⟨rfl, HX.out⟩
  have HB2 := hide (HA1.out.trans hA)
  have HR2 := hide (HR1.out.trans (bnd_ok hr))
  clear HR1
  have HS2 := hide ((hA.kept.block _ (Array.getElem?_eq_some_iff.1 HT1.out).1 (by omega)).trans HT1.out)
  clear hA hr hE2 HA1 HT1
  have HT2 := hide HS2.out
  have HA2 := hide HB2.out
  clear HS2 HB2
  go_wp2_with fail
  have hxV : xb < w2.heap.size := (Array.getElem?_eq_some_iff.1 HT2.out).1
  refine (listrep_any pb j2 ts _ (hide (H.out.cur.to HA2.out)) hts' hj2 hg).mono ?_
  rintro e w3 hE3
  rcases hE3.split with ⟨a3, j3, v3, hr, hj3, hA, hO, rfl⟩ | ⟨n, jn, hr, hjn, hA, rfl⟩
  rotate_left
  · have HX := hide (EndsC.mk_bad (B := B) (res := ((causeP >>= fun x => pure { c with causes := c.causes ++ [x] }) (ts.drop j))) (bnd_bad (HR2.out.trans (bnd_bad hr))) hjn (HA2.out.trans hA).kp (H.out.cur.to (HA2.out.trans hA)))
    clear hA hr hE3
    go_wp2_with fail
    exact ⟨rfl, HX.out⟩
  have HB3 := hide (HA2.out.trans hA)
  have HR3 := hide (HR2.out.trans (bnd_ok hr))
  clear HR2
  have HO3 := hide hO
  have hq3 : w2.heap.size ≤ w3.heap.size := hA.kept.size
  clear hO
  have HS3 := hide ((hA.kept.block _ (Array.getElem?_eq_some_iff.1 HT2.out).1 (by omega)).trans HT2.out)
  clear hA hr hE3 HA2 HT2
  obtain ⟨A3, q3, rfl⟩ := own_form HO3.out
  have HD3 := hide ((own_leaf (cells := (fun r : RepD => [Value.string ⟨r.unit.toArray⟩, Value.int .i64 r.code])) (fun _ => rfl) HO3.out).mono (H := fun b => xb < b) (fun b hb _ => Nat.lt_of_lt_of_le hxV hb))
  clear HO3
  obtain ⟨c0, c1, c2, f0, f1, f2⟩ := row3 HS3.out rfl
  have hl := (Array.getElem?_eq_some_iff.1 HS3.out).1
  have HT3 : Hid ((w3.setCell ⟨xb, 1, none⟩ (Value.slice A3 a3.length q3)).heap[xb]? = some (Obj.cells #[Value.string ⟨a1.toArray⟩, Value.slice A3 a3.length q3, Value.slice none 0 0] 82 (0, 0))) := hide (heap_setCell_same _ xb 1 _ _ _ HS3.out)
  have HA3 := hide (AtJ.fresh HB3.out hpb (p := ⟨xb, 1, none⟩) (by show xb ≠ pb; omega) hgx (Value.slice A3 a3.length q3))
  have HD3' : Hid (DAt (w3.setCell ⟨xb, 1, none⟩ (Value.slice A3 a3.length q3)) (fun b => xb < b) (.slice A3 a3.length q3) _) := hide (DAt.keep HD3.out (by simp [World.setCell]) (fun b hb _ => Below.heap_setCell _ _ _ _ (by show b ≠ xb; omega)))
  clear HD3
  have HD3 := HD3'
  clear HD3'
  go_wp2_with fail
  clear hl c0 f0 c1 f1 c2 f2
  have hzz3 : (w3.setCell ⟨xb, 1, none⟩ (Value.slice A3 a3.length q3)).heap.size = w3.heap.size := by simp [World.setCell]
  clear HS3 HB3
  generalize (w3.setCell ⟨xb, 1, none⟩ (Value.slice A3 a3.length q3)) = V3 at *
  refine (takes_any pb j3 ts ⟨#[117, 110, 108, 101, 115, 115]⟩ _ (hide (H.out.cur.to HA3.out)) hts' hj3 (by decide)).mono ?_
  rintro e w4 hE4
  rcases hE4.split with ⟨a4, j4, hr, hj4, hA, rfl⟩ | ⟨n, jn, hr, hjn, hA, rfl⟩
  rotate_left
  · exact absurd hr (takes_ne _ _)
  have HB4 := hide (HA3.out.trans hA)
  have hr4 := hide hr
  have HD3' := hide (HD3.out.keep hA.kept.size (fun b hb _ => hA.kept.block b ‹_› (by omega)))
  clear HD3
  have HD3 := HD3'
  clear HD3'
  have HS4 := hide ((hA.kept.block _ (Array.getElem?_eq_some_iff.1 HT3.out).1 (by omega)).trans HT3.out)
  clear hA hr hE4 HA3 HT3
  have HT4 := hide HS4.out
  have HA4 := hide HB4.out
  clear HS4 HB4
  cases a4
  · have HR4 := hide (HR3.out.trans (bnd_ok (opt_no hr4.out)))
    clear hr4 HR3
    go_wp2_with fail
    refine (must_new pb j4 _ ts ⟨#[59]⟩ _ (hide (H.out.cur.to HA4.out)) hts' hj4 (by decide) (by first | rfl | exact hzz4.symm | simp [go_sem])).mono ?_
    rintro e w5 hE5
    rcases hE5.split with ⟨a5, j5, hr, hj5, hA, rfl⟩ | ⟨n, jn, hr, hjn, hA, rfl⟩
    rotate_left
    · have HX := hide (EndsC.mk_bad (B := B) (res := ((causeP >>= fun x => pure { c with causes := c.causes ++ [x] }) (ts.drop j))) (bnd_bad (HR4.out.trans (bnd_bad hr))) hjn (HA4.out.trans hA).kp (H.out.cur.to (HA4.out.trans hA)))
      clear hA hr hE5
      go_wp2_with fail
      exact ⟨rfl, HX.out⟩
    have HB5 := hide (HA4.out.trans hA)
    have HR5 := hide (HR4.out.trans (bnd_ok hr))
    clear HR4
    have HD3' := hide (HD3.out.keep hA.kept.size (fun b hb _ => hA.kept.block b ‹_› (by omega)))
    clear HD3
    have HD3 := HD3'
    clear HD3'
    have HS5 := hide ((hA.kept.block _ (Array.getElem?_eq_some_iff.1 HT4.out).1 (by omega)).trans HT4.out)
    clear hA hr hE5 HA4 HT4
    have HT5 := hide HS5.out
    have HA5 := hide HB5.out
    clear HS5 HB5
    go_wp2_with fail
    have hvk := HVS.out.kept HA5.out.kept (fun b hb e => by have := H.out.low; omega)
    have hck : ∀ (i : Nat) u, vs[i]? = some u → w5.cell? ⟨pb, 2 + i, none⟩ = some u := fun i u hu => (HA5.out.rest (2 + i) (by omega)).trans (HCELL.out i u hu)
    have hv : vs[6]? = some (vs[6]'(by rw [HVS.out.len]; exact (by decide : 6 < 8))) := List.getElem?_eq_getElem _
    generalize vs[6]'(by rw [HVS.out.len]; exact (by decide : 6 < 8)) = v at hv
    obtain ⟨cs, ho, hc⟩ := hvk.own 6 v ⟨82, 3, c.causes.map CauseD.cells⟩ hv rfl
    dsimp only at ho hc
    obtain ⟨A, q, rfl⟩ := own_form ho
    have hcK : w5.cell? ⟨pb, 8, none⟩ = _ := hck 6 _ hv
    have hfK := (H.out.to HA5.out).free 8 (by decide)
    have hnl : (c.causes.map CauseD.cells).length ≤ 1000000 := by simp; omega
    have hOB : ∀ g, (Value.slice A (c.causes.map CauseD.cells).length q).ownBlock = some g → B ≤ g ∧ g < W.heap.size := fun g hg => by
      obtain ⟨cs', ho', _⟩ := HVS.out.own 6 _ _ hv rfl
      exact own_lt ho' hg
    have hBp := H.out.low
    have HVK := hide hvk
    have HCK := hide hck
    have HC := hide hc
    have HO := hide ho
    have HOB := hide hOB
    have HV := hide hv
    clear hvk hck hc ho hOB hv
    generalize hnn : (c.causes.map CauseD.cells).length = m at *
    have HNN := hide hnn
    clear hnn
    obtain ⟨c0, c1, c2, f0, f1, f2⟩ := row3 HT5.out rfl
    have hl := (Array.getElem?_eq_some_iff.1 HT5.out).1
    have hpV : pb < w5.heap.size := Nat.lt_of_lt_of_le hpb HA5.out.kept.size
    have HBel := hide ((Below.refl w5.heap.size w5).drew)
    refine wp_region_tail (S := fun w' => w'.heap[pb]? = w5.heap[pb]? ∧ w'.heap[xb]? = w5.heap[xb]?) 9 (by kernel_rfl) (by kernel_rfl) ⟨rfl, rfl⟩ (fun hHeld => ?_)
    generalize w5.drew = V0 at *
    refine tk 0 38 rfl (by kernel_rfl) (fun _ _ _ h => h) rfl (fun _ _ => by go_simp; with_reducible rfl) hHeld ?_
    refine tk 1 39 rfl (by kernel_rfl) (fun _ _ _ h => h) rfl (fun _ _ => by go_simp; with_reducible rfl) hHeld ?_
    refine tk 2 40 rfl (by kernel_rfl) (fun _ _ _ h => h) rfl (fun _ _ => by go_simp; with_reducible rfl) hHeld ?_
    refine tk 3 41 rfl (by kernel_rfl) (fun _ _ _ h => h) rfl (fun _ _ => by go_simp; with_reducible rfl) hHeld ?_
    refine tk 4 42 rfl (by kernel_rfl) (fun _ _ _ h => h) rfl (fun _ _ => by go_simp; with_reducible rfl) hHeld ?_
    (try simp only [Act.put, putA, putB, putC])
    refine wpAnyT_take (i := 5) (oi := ⟨some 43, _, _, _, _, _⟩) (v := ?_) rfl (by kernel_rfl) (fun _ _ _ h => h) (Or.inl ⟨by rfl, ?_⟩) hHeld ?_
    rotate_left
    · intro v hS
      have e0 := (World.cell?_of_block (a := ⟨pb, 8, none⟩) hS.1).trans hcK
      go_simp
      with_reducible rfl
    (try simp only [Act.put, putA, putB, putC])
    refine wpAnyT_take (i := 6) (oi := ⟨some 44, _, _, _, _, _⟩) (v := ?_) rfl (by kernel_rfl) (fun _ _ _ h => h) (Or.inl ⟨by rfl, ?_⟩) hHeld ?_
    rotate_left
    · intro v hS
      have e0 := (World.cell?_of_block (a := ⟨xb, 0, none⟩) hS.2).trans c0
      have e1 := (World.cell?_of_block (a := ⟨xb, 1, none⟩) hS.2).trans c1
      have e2 := (World.cell?_of_block (a := ⟨xb, 2, none⟩) hS.2).trans c2
      go_simp
      with_reducible rfl
    (try simp only [Act.put, putA, putB, putC])
    refine wpAnyT_ready (rs := [7]) (by kernel_rfl) (by simp) (by rfl) (AllT.cons rfl (fun K hK => ?_) AllT.nil)
    go_simp
    have hpV0 : pb < V0.heap.size := Nat.lt_of_lt_of_le hpV HBel.out.size
    have hxV0 : xb < V0.heap.size := Nat.lt_of_lt_of_le hl HBel.out.size
    refine hK.out _ _ ⟨(Below.heap_alloc V0 _ pb hpV0).trans hHeld.1, (Below.heap_alloc V0 _ xb hxV0).trans hHeld.2⟩ (fun hHeld1 => ?_)
    clear hK K hHeld
    have hHeld := hHeld1
    clear hHeld1
    have XN := hide (heap_alloc_new V0 (Obj.cells #[Value.string ⟨a1.toArray⟩, Value.slice A3 a3.length q3, Value.slice none 0 0] 82))
    have HB1 := hide (HBel.out.alloc HBel.out.size (Obj.cells #[Value.string ⟨a1.toArray⟩, Value.slice A3 a3.length q3, Value.slice none 0 0] 82))
    have hzV : w5.heap.size ≤ V0.heap.size := HBel.out.size
    clear HBel
    have hz1' : V0.heap.size < (V0.alloc (Obj.cells #[Value.string ⟨a1.toArray⟩, Value.slice A3 a3.length q3, Value.slice none 0 0] 82)).heap.size := by simp
    generalize V0.heap.size = nb at *
    generalize V0.alloc (Obj.cells #[Value.string ⟨a1.toArray⟩, Value.slice A3 a3.length q3, Value.slice none 0 0] 82) = V1 at *
    clear V0
    (try simp only [Act.put, putA, putB, putC])
    refine wpAnyT_ready (rs := [8]) (by kernel_rfl) (by simp) (by rfl) (AllT.cons rfl (fun K hK => ?_) AllT.nil)
    have hO1 := own_keep (w' := V1) HO.out (fun g hg _ => HB1.out.block g (own_lt HO.out hg).2)
    have HO1 := hide hO1
    clear hO1
    have hBV : B ≤ V1.heap.size := by have := H.out.big; have := HA5.out.kept.size; have := HB1.out.size; omega
    refine step_append_any _ rfl (.tmp 43) (.tmp 45) 29 rfl B 82 i0 _ 3 64 Tryz.underlying29 hi0 hz0 hz1 hz2 rfl (by decide) (.slice A m q) m cs rfl HO1.out _ (some ⟨nb, 0, none⟩) 1 1 [Value.string ⟨a1.toArray⟩, Value.slice A3 a3.length q3, Value.slice none 0 0] rfl (reads_blk XN.out rfl) (by simp [Value.oneCell']) (by unfold maxLen; omega) (by omega) hBV ?_
    intro v5 wz hown5 hg5 hat5
    obtain ⟨Az, qz, rfl⟩ := own_form hown5
    have hp5 := hg5.block pb (by omega) (fun e => by have := (HOB.out pb e.symm).1; omega)
    have hx5 := hg5.block xb (by omega) (fun e => by have := (HOB.out xb e.symm).2; omega)
    refine hK.out _ _ ⟨hp5.trans hHeld.1, hx5.trans hHeld.2⟩ (fun hHeld1 => ?_)
    clear hK K
    have q0 := (World.cell?_of_block (a := ⟨pb, 8, none⟩) hHeld1.1).trans hcK
    have q1 := (World.frozen?_of_block (a := ⟨pb, 8, none⟩) hHeld1.1).trans hfK
    have hFIN := (H.out.to HA5.out).push (c' := { c with causes := c.causes ++ [⟨a1, a3, []⟩] }) HVK.out HCK.out HV.out rfl HC.out (f := CauseD.cells (⟨a1, a3, []⟩)) rfl HB1.out (news := [Value.string ⟨a1.toArray⟩, Value.slice A3 a3.length q3, Value.slice none 0 0]) ?_ (by rw [HNN.out]; exact hown5) hg5 hat5 (by simp [cfgRows])
    rotate_left
    · have hFR : ∀ b, W.heap.size ≤ b → OwnSet B vs b := fun b hb => ⟨by have := H.out.big; omega, fun u hu e => by
        obtain ⟨i, hi⟩ := List.getElem?_of_mem hu
        have hi2 : i < (cfgRows c).length := by rw [← HVS.out.len]; exact (List.getElem?_eq_some_iff.1 hi).1
        obtain ⟨cs', ho', _⟩ := HVS.out.own i u _ hi (List.getElem?_eq_getElem hi2)
        have := (own_lt ho' e).2
        omega⟩
      exact DCells.cons (.leaf _) (DCells.cons ((HD3.out.later HB1.out).mono (fun b hb _ => hFR b (by omega))) (DCells.cons (.nil none 0 _) (DCells.nil)))
    have HFIN := hide hFIN
    have HEND := hide ((bnd_ok (HR5.out.trans rfl)).trans rfl : ((causeP >>= fun x => pure { c with causes := c.causes ++ [x] }) (ts.drop j)) = .ok { c with causes := c.causes ++ [⟨a1, a3, []⟩] } (ts.drop j5))
    clear hFIN hp5 hx5 hown5 hg5 hat5 hHeld hHeld1 XN HO1 HR5
    clear hl c0 f0 c1 f1 c2 f2
    refine wpAnyT_done (by kernel_rfl) ?_
    simp only [List.drop_succ_cons, List.drop_zero]
    go_wp2_with fail
    go_end0
    exact EndsC.mk_ok HEND.out hj5 (HA5.out.kp.trans HFIN.out.2) HFIN.out.1
  · go_wp2_with fail
    have hxV : xb < w4.heap.size := (Array.getElem?_eq_some_iff.1 HT4.out).1
    refine wp_region_tail (S := fun _ => True) 7 (by kernel_rfl) (by kernel_rfl) trivial (fun hHeld => ?_)
    have HT4' : Hid (w4.drew.heap[xb]? = some (Obj.cells #[Value.string ⟨a1.toArray⟩, Value.slice A3 a3.length q3, Value.slice none 0 0] 82 (0, 0))) := HT4
    have HA4' := hide HA4.out.drew
    clear HT4 HA4
    have HT4 := HT4'
    have HA4 := HA4'
    clear HT4' HA4'
    have HD3' : Hid (DAt w4.drew (fun b => xb < b) (.slice A3 a3.length q3) _) := hide (HD3.out.keep (Nat.le_refl _) (fun _ _ _ => rfl))
    clear HD3
    have HD3 := HD3'
    clear HD3'
    have hzd4 : w4.drew.heap.size = w4.heap.size := rfl
    generalize w4.drew = U4 at *
    (try rw [← hzd4] at hxV)
    refine tk 0 24 rfl (by kernel_rfl) (fun _ _ _ h => h) rfl (fun _ _ => by go_simp; with_reducible rfl) hHeld ?_
    refine tk 1 25 rfl (by kernel_rfl) (fun _ _ _ h => h) rfl (fun _ _ => by go_simp; with_reducible rfl) hHeld ?_
    refine tk 2 26 rfl (by kernel_rfl) (fun _ _ _ h => h) rfl (fun _ _ => by go_simp; with_reducible rfl) hHeld ?_
    refine tk 3 27 rfl (by kernel_rfl) (fun _ _ _ h => h) rfl (fun _ _ => by go_simp; with_reducible rfl) hHeld ?_
    refine tk 4 28 rfl (by kernel_rfl) (fun _ _ _ h => h) rfl (fun _ _ => by go_simp; with_reducible rfl) hHeld ?_
    refine tk 5 29 rfl (by kernel_rfl) (fun _ _ _ h => h) rfl (fun _ _ => by go_simp; with_reducible rfl) hHeld ?_
    refine tk 6 30 rfl (by kernel_rfl) (fun _ _ _ h => h) rfl (fun _ _ => by go_simp; with_reducible rfl) hHeld ?_
    (try simp only [Act.put, putA, putB, putC])
    refine wpAnyT_done (by kernel_rfl) ?_
    simp only [List.drop_succ_cons, List.drop_zero]
    go_wp2_with fail
    refine (liststr_any pb j4 ts _ (hide (H.out.cur.to HA4.out)) hts' hj4).mono ?_
    rintro e w5 hE5
    rcases hE5.split with ⟨a5, j5, v5, hr, hj5, hA, hO, rfl⟩ | ⟨n, jn, hr, hjn, hA, rfl⟩
    rotate_left
    · have HX := hide (EndsC.mk_bad (B := B) (res := ((causeP >>= fun x => pure { c with causes := c.causes ++ [x] }) (ts.drop j))) (bnd_bad (HR3.out.trans (bnd_bad (opt_bad hr4.out hr)))) hjn (HA4.out.trans hA).kp (H.out.cur.to (HA4.out.trans hA)))
      clear hA hr hE5
      go_wp2_with fail
      exact ⟨rfl, HX.out⟩
    have HB5 := hide (HA4.out.trans hA)
    have HR5 := hide (HR3.out.trans (bnd_ok (opt_yes hr4.out hr)))
    clear HR3
    have HO5 := hide hO
    have hq5 : U4.heap.size ≤ w5.heap.size := hA.kept.size
    clear hO
    have HD3' := hide (HD3.out.keep hA.kept.size (fun b hb _ => hA.kept.block b ‹_› (by omega)))
    clear HD3
    have HD3 := HD3'
    clear HD3'
    have HS5 := hide ((hA.kept.block _ (Array.getElem?_eq_some_iff.1 HT4.out).1 (by omega)).trans HT4.out)
    clear hA hr hE5 HA4 HT4
    obtain ⟨A5, q5, rfl⟩ := own_form HO5.out
    have HD5 := hide ((own_leaf (cells := (fun s : List UInt8 => [Value.string ⟨s.toArray⟩])) (fun _ => rfl) HO5.out).mono (H := fun b => xb < b) (fun b hb _ => Nat.lt_of_lt_of_le hxV hb))
    clear HO5
    obtain ⟨c0, c1, c2, f0, f1, f2⟩ := row3 HS5.out rfl
    have hl := (Array.getElem?_eq_some_iff.1 HS5.out).1
    have HT5 : Hid ((w5.setCell ⟨xb, 2, none⟩ (Value.slice A5 a5.length q5)).heap[xb]? = some (Obj.cells #[Value.string ⟨a1.toArray⟩, Value.slice A3 a3.length q3, Value.slice A5 a5.length q5] 82 (0, 0))) := hide (heap_setCell_same _ xb 2 _ _ _ HS5.out)
    have HA5 := hide (AtJ.fresh HB5.out hpb (p := ⟨xb, 2, none⟩) (by show xb ≠ pb; omega) hgx (Value.slice A5 a5.length q5))
    have HD3' : Hid (DAt (w5.setCell ⟨xb, 2, none⟩ (Value.slice A5 a5.length q5)) (fun b => xb < b) (.slice A3 a3.length q3) _) := hide (DAt.keep HD3.out (by simp [World.setCell]) (fun b hb _ => Below.heap_setCell _ _ _ _ (by show b ≠ xb; omega)))
    clear HD3
    have HD3 := HD3'
    clear HD3'
    have HD5' : Hid (DAt (w5.setCell ⟨xb, 2, none⟩ (Value.slice A5 a5.length q5)) (fun b => xb < b) (.slice A5 a5.length q5) _) := hide (DAt.keep HD5.out (by simp [World.setCell]) (fun b hb _ => Below.heap_setCell _ _ _ _ (by show b ≠ xb; omega)))
    clear HD5
    have HD5 := HD5'
    clear HD5'
    go_wp2_with fail
    clear hl c0 f0 c1 f1 c2 f2
    have hzz5 : (w5.setCell ⟨xb, 2, none⟩ (Value.slice A5 a5.length q5)).heap.size = w5.heap.size := by simp [World.setCell]
    clear HS5 HB5
    generalize (w5.setCell ⟨xb, 2, none⟩ (Value.slice A5 a5.length q5)) = V5 at *
    refine (must_new pb j5 _ ts ⟨#[59]⟩ _ (hide (H.out.cur.to HA5.out)) hts' hj5 (by decide) (by first | rfl | exact hzz5.symm | simp [go_sem])).mono ?_
    rintro e w6 hE6
    rcases hE6.split with ⟨a6, j6, hr, hj6, hA, rfl⟩ | ⟨n, jn, hr, hjn, hA, rfl⟩
    rotate_left
    · have HX := hide (EndsC.mk_bad (B := B) (res := ((causeP >>= fun x => pure { c with causes := c.causes ++ [x] }) (ts.drop j))) (bnd_bad (HR5.out.trans (bnd_bad hr))) hjn (HA5.out.trans hA).kp (H.out.cur.to (HA5.out.trans hA)))
      clear hA hr hE6
      go_wp2_with fail
      exact ⟨rfl, HX.out⟩
    have HB6 := hide (HA5.out.trans hA)
    have HR6 := hide (HR5.out.trans (bnd_ok hr))
    clear HR5
    have HD3' := hide (HD3.out.keep hA.kept.size (fun b hb _ => hA.kept.block b ‹_› (by omega)))
    clear HD3
    have HD3 := HD3'
    clear HD3'
    have HD5' := hide (HD5.out.keep hA.kept.size (fun b hb _ => hA.kept.block b ‹_› (by omega)))
    clear HD5
    have HD5 := HD5'
    clear HD5'
    have HS6 := hide ((hA.kept.block _ (Array.getElem?_eq_some_iff.1 HT5.out).1 (by omega)).trans HT5.out)
    clear hA hr hE6 HA5 HT5
    have HT6 := hide HS6.out
    have HA6 := hide HB6.out
    clear HS6 HB6
    go_wp2_with fail
    have hvk := HVS.out.kept HA6.out.kept (fun b hb e => by have := H.out.low; omega)
    have hck : ∀ (i : Nat) u, vs[i]? = some u → w6.cell? ⟨pb, 2 + i, none⟩ = some u := fun i u hu => (HA6.out.rest (2 + i) (by omega)).trans (HCELL.out i u hu)
    have hv : vs[6]? = some (vs[6]'(by rw [HVS.out.len]; exact (by decide : 6 < 8))) := List.getElem?_eq_getElem _
    generalize vs[6]'(by rw [HVS.out.len]; exact (by decide : 6 < 8)) = v at hv
    obtain ⟨cs, ho, hc⟩ := hvk.own 6 v ⟨82, 3, c.causes.map CauseD.cells⟩ hv rfl
    dsimp only at ho hc
    obtain ⟨A, q, rfl⟩ := own_form ho
    have hcK : w6.cell? ⟨pb, 8, none⟩ = _ := hck 6 _ hv
    have hfK := (H.out.to HA6.out).free 8 (by decide)
    have hnl : (c.causes.map CauseD.cells).length ≤ 1000000 := by simp; omega
    have hOB : ∀ g, (Value.slice A (c.causes.map CauseD.cells).length q).ownBlock = some g → B ≤ g ∧ g < W.heap.size := fun g hg => by
      obtain ⟨cs', ho', _⟩ := HVS.out.own 6 _ _ hv rfl
      exact own_lt ho' hg
    have hBp := H.out.low
    have HVK := hide hvk
    have HCK := hide hck
    have HC := hide hc
    have HO := hide ho
    have HOB := hide hOB
    have HV := hide hv
    clear hvk hck hc ho hOB hv
    generalize hnn : (c.causes.map CauseD.cells).length = m at *
    have HNN := hide hnn
    clear hnn
    obtain ⟨c0, c1, c2, f0, f1, f2⟩ := row3 HT6.out rfl
    have hl := (Array.getElem?_eq_some_iff.1 HT6.out).1
    have hpV : pb < w6.heap.size := Nat.lt_of_lt_of_le hpb HA6.out.kept.size
    have HBel := hide ((Below.refl w6.heap.size w6).drew)
    refine wp_region_tail (S := fun w' => w'.heap[pb]? = w6.heap[pb]? ∧ w'.heap[xb]? = w6.heap[xb]?) 9 (by kernel_rfl) (by kernel_rfl) ⟨rfl, rfl⟩ (fun hHeld => ?_)
    generalize w6.drew = V0 at *
    refine tk 0 38 rfl (by kernel_rfl) (fun _ _ _ h => h) rfl (fun _ _ => by go_simp; with_reducible rfl) hHeld ?_
    refine tk 1 39 rfl (by kernel_rfl) (fun _ _ _ h => h) rfl (fun _ _ => by go_simp; with_reducible rfl) hHeld ?_
    refine tk 2 40 rfl (by kernel_rfl) (fun _ _ _ h => h) rfl (fun _ _ => by go_simp; with_reducible rfl) hHeld ?_
    refine tk 3 41 rfl (by kernel_rfl) (fun _ _ _ h => h) rfl (fun _ _ => by go_simp; with_reducible rfl) hHeld ?_
    refine tk 4 42 rfl (by kernel_rfl) (fun _ _ _ h => h) rfl (fun _ _ => by go_simp; with_reducible rfl) hHeld ?_
    (try simp only [Act.put, putA, putB, putC])
    refine wpAnyT_take (i := 5) (oi := ⟨some 43, _, _, _, _, _⟩) (v := ?_) rfl (by kernel_rfl) (fun _ _ _ h => h) (Or.inl ⟨by rfl, ?_⟩) hHeld ?_
    rotate_left
    · intro v hS
      have e0 := (World.cell?_of_block (a := ⟨pb, 8, none⟩) hS.1).trans hcK
      go_simp
      with_reducible rfl
    (try simp only [Act.put, putA, putB, putC])
    refine wpAnyT_take (i := 6) (oi := ⟨some 44, _, _, _, _, _⟩) (v := ?_) rfl (by kernel_rfl) (fun _ _ _ h => h) (Or.inl ⟨by rfl, ?_⟩) hHeld ?_
    rotate_left
    · intro v hS
      have e0 := (World.cell?_of_block (a := ⟨xb, 0, none⟩) hS.2).trans c0
      have e1 := (World.cell?_of_block (a := ⟨xb, 1, none⟩) hS.2).trans c1
      have e2 := (World.cell?_of_block (a := ⟨xb, 2, none⟩) hS.2).trans c2
      go_simp
      with_reducible rfl
    (try simp only [Act.put, putA, putB, putC])
    refine wpAnyT_ready (rs := [7]) (by kernel_rfl) (by simp) (by rfl) (AllT.cons rfl (fun K hK => ?_) AllT.nil)
    go_simp
    have hpV0 : pb < V0.heap.size := Nat.lt_of_lt_of_le hpV HBel.out.size
    have hxV0 : xb < V0.heap.size := Nat.lt_of_lt_of_le hl HBel.out.size
    refine hK.out _ _ ⟨(Below.heap_alloc V0 _ pb hpV0).trans hHeld.1, (Below.heap_alloc V0 _ xb hxV0).trans hHeld.2⟩ (fun hHeld1 => ?_)
    clear hK K hHeld
    have hHeld := hHeld1
    clear hHeld1
    have XN := hide (heap_alloc_new V0 (Obj.cells #[Value.string ⟨a1.toArray⟩, Value.slice A3 a3.length q3, Value.slice A5 a5.length q5] 82))
    have HB1 := hide (HBel.out.alloc HBel.out.size (Obj.cells #[Value.string ⟨a1.toArray⟩, Value.slice A3 a3.length q3, Value.slice A5 a5.length q5] 82))
    have hzV : w6.heap.size ≤ V0.heap.size := HBel.out.size
    clear HBel
    have hz1' : V0.heap.size < (V0.alloc (Obj.cells #[Value.string ⟨a1.toArray⟩, Value.slice A3 a3.length q3, Value.slice A5 a5.length q5] 82)).heap.size := by simp
    generalize V0.heap.size = nb at *
    generalize V0.alloc (Obj.cells #[Value.string ⟨a1.toArray⟩, Value.slice A3 a3.length q3, Value.slice A5 a5.length q5] 82) = V1 at *
    clear V0
    (try simp only [Act.put, putA, putB, putC])
    refine wpAnyT_ready (rs := [8]) (by kernel_rfl) (by simp) (by rfl) (AllT.cons rfl (fun K hK => ?_) AllT.nil)
    have hO1 := own_keep (w' := V1) HO.out (fun g hg _ => HB1.out.block g (own_lt HO.out hg).2)
    have HO1 := hide hO1
    clear hO1
    have hBV : B ≤ V1.heap.size := by have := H.out.big; have := HA6.out.kept.size; have := HB1.out.size; omega
    refine step_append_any _ rfl (.tmp 43) (.tmp 45) 29 rfl B 82 i0 _ 3 64 Tryz.underlying29 hi0 hz0 hz1 hz2 rfl (by decide) (.slice A m q) m cs rfl HO1.out _ (some ⟨nb, 0, none⟩) 1 1 [Value.string ⟨a1.toArray⟩, Value.slice A3 a3.length q3, Value.slice A5 a5.length q5] rfl (reads_blk XN.out rfl) (by simp [Value.oneCell']) (by unfold maxLen; omega) (by omega) hBV ?_
    intro v5 wz hown5 hg5 hat5
    obtain ⟨Az, qz, rfl⟩ := own_form hown5
    have hp5 := hg5.block pb (by omega) (fun e => by have := (HOB.out pb e.symm).1; omega)
    have hx5 := hg5.block xb (by omega) (fun e => by have := (HOB.out xb e.symm).2; omega)
    refine hK.out _ _ ⟨hp5.trans hHeld.1, hx5.trans hHeld.2⟩ (fun hHeld1 => ?_)
    clear hK K
    have q0 := (World.cell?_of_block (a := ⟨pb, 8, none⟩) hHeld1.1).trans hcK
    have q1 := (World.frozen?_of_block (a := ⟨pb, 8, none⟩) hHeld1.1).trans hfK
    have hFIN := (H.out.to HA6.out).push (c' := { c with causes := c.causes ++ [⟨a1, a3, a5⟩] }) HVK.out HCK.out HV.out rfl HC.out (f := CauseD.cells (⟨a1, a3, a5⟩)) rfl HB1.out (news := [Value.string ⟨a1.toArray⟩, Value.slice A3 a3.length q3, Value.slice A5 a5.length q5]) ?_ (by rw [HNN.out]; exact hown5) hg5 hat5 (by simp [cfgRows])
    rotate_left
    · have hFR : ∀ b, W.heap.size ≤ b → OwnSet B vs b := fun b hb => ⟨by have := H.out.big; omega, fun u hu e => by
        obtain ⟨i, hi⟩ := List.getElem?_of_mem hu
        have hi2 : i < (cfgRows c).length := by rw [← HVS.out.len]; exact (List.getElem?_eq_some_iff.1 hi).1
        obtain ⟨cs', ho', _⟩ := HVS.out.own i u _ hi (List.getElem?_eq_getElem hi2)
        have := (own_lt ho' e).2
        omega⟩
      exact DCells.cons (.leaf _) (DCells.cons ((HD3.out.later HB1.out).mono (fun b hb _ => hFR b (by omega))) (DCells.cons ((HD5.out.later HB1.out).mono (fun b hb _ => hFR b (by omega))) (DCells.nil)))
    have HFIN := hide hFIN
    have HEND := hide ((bnd_ok (HR6.out.trans rfl)).trans rfl : ((causeP >>= fun x => pure { c with causes := c.causes ++ [x] }) (ts.drop j)) = .ok { c with causes := c.causes ++ [⟨a1, a3, a5⟩] } (ts.drop j6))
    clear hFIN hp5 hx5 hown5 hg5 hat5 hHeld hHeld1 XN HO1 HR6
    clear hl c0 f0 c1 f1 c2 f2
    refine wpAnyT_done (by kernel_rfl) ?_
    simp only [List.drop_succ_cons, List.drop_zero]
    go_wp2_with fail
    go_end0
    exact EndsC.mk_ok HEND.out hj6 (HA6.out.kp.trans HFIN.out.2) HFIN.out.1
end Go.Proofs.YtlngbjphagnloaaGreatDoor
