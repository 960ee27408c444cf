/-
  Merged texts: parse: items (printed by tools/pi.py): health.
-/
import Derived.Test.YtlngbjphagnloaaGreatDoorPk1
import Derived.Test.YtlngbjphagnloaaGreatDoorPk11
import Derived.Deep.DeepCutAuto
namespace Go.Proofs.YtlngbjphagnloaaGreatDoor
open Go.RowKit
attribute [local go_sem] Later.cell
attribute [local go_sem] refVal repVal
theorem health_any_info : (Tryz.prog.info? 57).map (fun i => (i.zero, i.size, i.bytes)) = some (some (.agg #[Value.string ⟨#[]⟩, Value.string ⟨#[]⟩, Value.int .u8 0, Value.int .u8 0, Value.int .u8 0]), 5, 40) := by kernel_rfl
set_option maxRecDepth 100000 in
set_option maxHeartbeats 4000000 in
theorem health_any (pb j B : Nat) (ts : List Tok) (c : CfgD) (W : World) (H : Hid (PSt pb ts j c B W)) (hts : ts.length ≤ 1000000) (hj : j ≤ ts.length) (_hg : Hid (Good ts)) (hE : Hid (EnvP W)) (hpE : 3 ≤ pb) (hfew : c.health.length ≤ ts.length) :
    Calls Tryz.prog 62 #[.pointer (some ⟨pb, 0, none⟩)] W fun e W' => EndsC pb ts W B ((healthP >>= fun x => pure { c with health := c.health ++ [x] }) (ts.drop j)) e W' := by
  have hpb := H.out.cur.lt
  have hts' : ts.length ≤ 1099511627776 := by omega
  obtain ⟨i0, hi0, hz0, hz1, hz2⟩ := info_parts health_any_info
  obtain ⟨vs, hvs, hcell⟩ := H.out.at_
  have HVS := hide hvs
  have HCELL := hide hcell
  clear hvs hcell
  have HA0 := hide (AtJ.start H.out.cur.now H.out.cur.free)
  go_enter Tryz.func62, Tryz.ntmps62
  go_wp2_with fail
  refine (of_any pb j ts ⟨#[100, 101, 97, 100, 108, 105, 110, 101, 32, 109, 101, 109, 111, 114, 121, 32, 114, 97, 105, 115, 101, 100, 32, 110, 117, 109, 101, 114, 105, 99, 32, 115, 116, 97, 99, 107, 32, 112, 111, 119, 101, 114, 32, 119, 105, 110, 100, 111, 119]⟩ _ faultVoc _ (hide (H.out.cur.to HA0.out)) (hide (hE.out.to hpE HA0.out)) hts' hj).mono ?_
  rintro e w1 hE1
  rcases hE1.split with ⟨a1, j1, hr, hj1, hA, rfl⟩ | ⟨n, jn, hr, hjn, hA, rfl⟩
  rotate_left
  · have HX := hide (EndsC.mk_bad (B := B) (res := ((healthP >>= fun x => pure { c with health := c.health ++ [x] }) (ts.drop j))) (bnd_bad ((rfl : healthP (ts.drop j) = healthP (ts.drop j)).trans (bnd_bad hr))) hjn (HA0.out.trans hA).kp (H.out.cur.to (HA0.out.trans hA)))
    clear hA hr hE1
    go_wp2_with fail
    exact ⟨rfl, HX.out⟩
  have HB1 := hide (HA0.out.trans hA)
  have HR1 := hide ((rfl : healthP (ts.drop j) = healthP (ts.drop j)).trans (bnd_ok hr))
  clear hA hr hE1 HA0
  have HT1 : Hid ((w1.alloc (Obj.cells #[Value.string ⟨#[]⟩, Value.string ⟨#[]⟩, Value.int .u8 ((a1 : Nat) : Int), Value.int .u8 0, Value.int .u8 0] 57)).heap[w1.heap.size]? = some (Obj.cells #[Value.string ⟨#[]⟩, Value.string ⟨#[]⟩, Value.int .u8 ((a1 : Nat) : Int), Value.int .u8 0, Value.int .u8 0] 57 (0, 0))) := hide (heap_alloc_new w1 _)
  have HA1 := hide (HB1.out.below hpb ((Below.refl w1.heap.size w1).alloc (Nat.le_refl _) (Obj.cells #[Value.string ⟨#[]⟩, Value.string ⟨#[]⟩, Value.int .u8 ((a1 : Nat) : Int), Value.int .u8 0, Value.int .u8 0] 57)))
  have hgx : W.heap.size ≤ w1.heap.size := HB1.out.kept.size
  clear HB1
  go_wp2_with fail
  have hzz1 : (w1.alloc (Obj.cells #[Value.string ⟨#[]⟩, Value.string ⟨#[]⟩, Value.int .u8 ((a1 : Nat) : Int), Value.int .u8 0, Value.int .u8 0] 57)).heap.size = w1.heap.size + 1 := by simp
  generalize w1.heap.size = xb at *
  generalize w1.alloc (Obj.cells #[Value.string ⟨#[]⟩, Value.string ⟨#[]⟩, Value.int .u8 ((a1 : Nat) : Int), Value.int .u8 0, Value.int .u8 0] 57) = V1 at *
  refine (takes_any pb j1 ts ⟨#[109, 111, 100, 117, 108, 101]⟩ _ (hide (H.out.cur.to HA1.out)) hts' hj1 (by decide)).mono ?_
  rintro e w2 hE2
  rcases hE2.split with ⟨a2, j2, hr, hj2, hA, rfl⟩ | ⟨n, jn, hr, hjn, hA, rfl⟩
  rotate_left
  · exact absurd hr (takes_ne _ _)
  have HB2 := hide (HA1.out.trans hA)
  have hr2 := hide hr
  have HS2 := hide ((hA.kept.block _ (Array.getElem?_eq_some_iff.1 HT1.out).1 (by omega)).trans HT1.out)
  clear hA hr hE2 HA1 HT1
  have HT2 := hide HS2.out
  have HA2 := hide HB2.out
  clear HS2 HB2
  cases a2
  · have HR2 := hide (HR1.out.trans (bnd_ok (opt_no hr2.out)))
    clear hr2 HR1
    go_wp2_with fail
    refine (takes_any pb j2 ts ⟨#[112, 97, 114, 116]⟩ _ (hide (H.out.cur.to HA2.out)) hts' hj2 (by decide)).mono ?_
    rintro e w3 hE3
    rcases hE3.split with ⟨a3, j3, hr, hj3, hA, rfl⟩ | ⟨n, jn, hr, hjn, hA, rfl⟩
    rotate_left
    · exact absurd hr (takes_ne _ _)
    have HB3 := hide (HA2.out.trans hA)
    have hr3 := hide hr
    have HS3 := hide ((hA.kept.block _ (Array.getElem?_eq_some_iff.1 HT2.out).1 (by omega)).trans HT2.out)
    clear hA hr hE3 HA2 HT2
    have HT3 := hide HS3.out
    have HA3 := hide HB3.out
    clear HS3 HB3
    cases a3
    · have HR3 := hide (HR2.out.trans (bnd_ok (opt_no hr3.out)))
      clear hr3 HR2
      go_wp2_with fail
      refine (must_new pb j3 _ ts ⟨#[108, 101, 118, 101, 108]⟩ _ (hide (H.out.cur.to HA3.out)) hts' hj3 (by decide) (by first | rfl | exact hzz3.symm | simp [go_sem])).mono ?_
      rintro e w4 hE4
      rcases hE4.split with ⟨a4, j4, hr, hj4, hA, rfl⟩ | ⟨n, jn, hr, hjn, hA, rfl⟩
      rotate_left
      · have HX := hide (EndsC.mk_bad (B := B) (res := ((healthP >>= fun x => pure { c with health := c.health ++ [x] }) (ts.drop j))) (bnd_bad (HR3.out.trans (bnd_bad hr))) hjn (HA3.out.trans hA).kp (H.out.cur.to (HA3.out.trans hA)))
        clear hA hr hE4
        go_wp2_with fail
        exact ⟨rfl, HX.out⟩
      have HB4 := hide (HA3.out.trans hA)
      have HR4 := hide (HR3.out.trans (bnd_ok hr))
      clear HR3
      have HS4 := hide ((hA.kept.block _ (Array.getElem?_eq_some_iff.1 HT3.out).1 (by omega)).trans HT3.out)
      clear hA hr hE4 HA3 HT3
      have HT4 := hide HS4.out
      have HA4 := hide HB4.out
      clear HS4 HB4
      go_wp2_with fail
      refine (of_any pb j4 ts ⟨#[112, 114, 111, 99, 101, 115, 115, 32, 112, 97, 114, 116, 32, 109, 111, 100, 117, 108, 101]⟩ _ levelVoc _ (hide (H.out.cur.to HA4.out)) (hide (hE.out.to hpE HA4.out)) hts' hj4).mono ?_
      rintro e w5 hE5
      rcases hE5.split with ⟨a5, j5, hr, hj5, hA, rfl⟩ | ⟨n, jn, hr, hjn, hA, rfl⟩
      rotate_left
      · have HX := hide (EndsC.mk_bad (B := B) (res := ((healthP >>= fun x => pure { c with health := c.health ++ [x] }) (ts.drop j))) (bnd_bad (HR4.out.trans (bnd_bad hr))) hjn (HA4.out.trans hA).kp (H.out.cur.to (HA4.out.trans hA)))
        clear hA hr hE5
        go_wp2_with fail
        exact ⟨rfl, HX.out⟩
      have HB5 := hide (HA4.out.trans hA)
      have HR5 := hide (HR4.out.trans (bnd_ok hr))
      clear HR4
      have HS5 := hide ((hA.kept.block _ (Array.getElem?_eq_some_iff.1 HT4.out).1 (by omega)).trans HT4.out)
      clear hA hr hE5 HA4 HT4
      obtain ⟨c0, c1, c2, c3, c4, f0, f1, f2, f3, f4⟩ := row5 HS5.out rfl
      have hl := (Array.getElem?_eq_some_iff.1 HS5.out).1
      have HT5 : Hid ((w5.setCell ⟨xb, 3, none⟩ (Value.int .u8 ((a5 : Nat) : Int))).heap[xb]? = some (Obj.cells #[Value.string ⟨#[]⟩, Value.string ⟨#[]⟩, Value.int .u8 ((a1 : Nat) : Int), Value.int .u8 ((a5 : Nat) : Int), Value.int .u8 0] 57 (0, 0))) := hide (heap_setCell_same _ xb 3 _ _ _ HS5.out)
      have HA5 := hide (AtJ.fresh HB5.out hpb (p := ⟨xb, 3, none⟩) (by show xb ≠ pb; omega) hgx (Value.int .u8 ((a5 : Nat) : Int)))
      go_wp2_with fail
      clear hl c0 f0 c1 f1 c2 f2 c3 f3 c4 f4
      have hzz5 : (w5.setCell ⟨xb, 3, none⟩ (Value.int .u8 ((a5 : Nat) : Int))).heap.size = w5.heap.size := by simp [World.setCell]
      clear HS5 HB5
      generalize (w5.setCell ⟨xb, 3, none⟩ (Value.int .u8 ((a5 : Nat) : Int))) = V5 at *
      refine (must_new pb j5 _ ts ⟨#[100, 111]⟩ _ (hide (H.out.cur.to HA5.out)) hts' hj5 (by decide) (by first | rfl | exact hzz5.symm | simp [go_sem])).mono ?_
      rintro e w6 hE6
      rcases hE6.split with ⟨a6, j6, hr, hj6, hA, rfl⟩ | ⟨n, jn, hr, hjn, hA, rfl⟩
      rotate_left
      · have HX := hide (EndsC.mk_bad (B := B) (res := ((healthP >>= fun x => pure { c with health := c.health ++ [x] }) (ts.drop j))) (bnd_bad (HR5.out.trans (bnd_bad hr))) hjn (HA5.out.trans hA).kp (H.out.cur.to (HA5.out.trans hA)))
        clear hA hr hE6
        go_wp2_with fail
        exact ⟨rfl, HX.out⟩
      have HB6 := hide (HA5.out.trans hA)
      have HR6 := hide (HR5.out.trans (bnd_ok hr))
      clear HR5
      have HS6 := hide ((hA.kept.block _ (Array.getElem?_eq_some_iff.1 HT5.out).1 (by omega)).trans HT5.out)
      clear hA hr hE6 HA5 HT5
      have HT6 := hide HS6.out
      have HA6 := hide HB6.out
      clear HS6 HB6
      go_wp2_with fail
      refine (of_any pb j6 ts ⟨#[105, 103, 110, 111, 114, 101, 32, 115, 116, 111, 112, 32, 114, 101, 115, 116, 97, 114, 116, 32, 119, 97, 114, 109, 32, 99, 111, 108, 100, 32, 105, 100, 108, 101, 32, 114, 101, 115, 101, 116, 32, 104, 97, 108, 116]⟩ _ actionVoc _ (hide (H.out.cur.to HA6.out)) (hide (hE.out.to hpE HA6.out)) hts' hj6).mono ?_
      rintro e w7 hE7
      rcases hE7.split with ⟨a7, j7, hr, hj7, hA, rfl⟩ | ⟨n, jn, hr, hjn, hA, rfl⟩
      rotate_left
      · have HX := hide (EndsC.mk_bad (B := B) (res := ((healthP >>= fun x => pure { c with health := c.health ++ [x] }) (ts.drop j))) (bnd_bad (HR6.out.trans (bnd_bad hr))) hjn (HA6.out.trans hA).kp (H.out.cur.to (HA6.out.trans hA)))
        clear hA hr hE7
        go_wp2_with fail
        exact ⟨rfl, HX.out⟩
      have HB7 := hide (HA6.out.trans hA)
      have HR7 := hide (HR6.out.trans (bnd_ok hr))
      clear HR6
      have HS7 := hide ((hA.kept.block _ (Array.getElem?_eq_some_iff.1 HT6.out).1 (by omega)).trans HT6.out)
      clear hA hr hE7 HA6 HT6
      obtain ⟨c0, c1, c2, c3, c4, f0, f1, f2, f3, f4⟩ := row5 HS7.out rfl
      have hl := (Array.getElem?_eq_some_iff.1 HS7.out).1
      have HT7 : Hid ((w7.setCell ⟨xb, 4, none⟩ (Value.int .u8 ((a7 : Nat) : Int))).heap[xb]? = some (Obj.cells #[Value.string ⟨#[]⟩, Value.string ⟨#[]⟩, Value.int .u8 ((a1 : Nat) : Int), Value.int .u8 ((a5 : Nat) : Int), Value.int .u8 ((a7 : Nat) : Int)] 57 (0, 0))) := hide (heap_setCell_same _ xb 4 _ _ _ HS7.out)
      have HA7 := hide (AtJ.fresh HB7.out hpb (p := ⟨xb, 4, none⟩) (by show xb ≠ pb; omega) hgx (Value.int .u8 ((a7 : Nat) : Int)))
      go_wp2_with fail
      clear hl c0 f0 c1 f1 c2 f2 c3 f3 c4 f4
      have hzz7 : (w7.setCell ⟨xb, 4, none⟩ (Value.int .u8 ((a7 : Nat) : Int))).heap.size = w7.heap.size := by simp [World.setCell]
      clear HS7 HB7
      generalize (w7.setCell ⟨xb, 4, none⟩ (Value.int .u8 ((a7 : Nat) : Int))) = V7 at *
      refine (must_new pb j7 _ ts ⟨#[59]⟩ _ (hide (H.out.cur.to HA7.out)) hts' hj7 (by decide) (by first | rfl | exact hzz7.symm | simp [go_sem])).mono ?_
      rintro e w8 hE8
      rcases hE8.split with ⟨a8, j8, hr, hj8, hA, rfl⟩ | ⟨n, jn, hr, hjn, hA, rfl⟩
      rotate_left
      · have HX := hide (EndsC.mk_bad (B := B) (res := ((healthP >>= fun x => pure { c with health := c.health ++ [x] }) (ts.drop j))) (bnd_bad (HR7.out.trans (bnd_bad hr))) hjn (HA7.out.trans hA).kp (H.out.cur.to (HA7.out.trans hA)))
        clear hA hr hE8
        go_wp2_with fail
        exact ⟨rfl, HX.out⟩
      have HB8 := hide (HA7.out.trans hA)
      have HR8 := hide (HR7.out.trans (bnd_ok hr))
      clear HR7
      have HS8 := hide ((hA.kept.block _ (Array.getElem?_eq_some_iff.1 HT7.out).1 (by omega)).trans HT7.out)
      clear hA hr hE8 HA7 HT7
      have HT8 := hide HS8.out
      have HA8 := hide HB8.out
      clear HS8 HB8
      go_wp2_with fail
      have hvk := HVS.out.kept HA8.out.kept (fun b hb e => by have := H.out.low; omega)
      have hck : ∀ (i : Nat) u, vs[i]? = some u → w8.cell? ⟨pb, 2 + i, none⟩ = some u := fun i u hu => (HA8.out.rest (2 + i) (by omega)).trans (HCELL.out i u hu)
      have hv : vs[5]? = some (vs[5]'(by rw [HVS.out.len]; exact (by decide : 5 < 8))) := List.getElem?_eq_getElem _
      generalize vs[5]'(by rw [HVS.out.len]; exact (by decide : 5 < 8)) = v at hv
      obtain ⟨cs, ho, hc⟩ := hvk.own 5 v ⟨57, 5, c.health.map HealthD.cells⟩ hv rfl
      dsimp only at ho hc
      obtain ⟨A, q, rfl⟩ := own_form ho
      have hcK : w8.cell? ⟨pb, 7, none⟩ = _ := hck 5 _ hv
      have hfK := (H.out.to HA8.out).free 7 (by decide)
      have hnl : (c.health.map HealthD.cells).length ≤ 1000000 := by simp; omega
      have hOB : ∀ g, (Value.slice A (c.health.map HealthD.cells).length q).ownBlock = some g → B ≤ g ∧ g < W.heap.size := fun g hg => by
        obtain ⟨cs', ho', _⟩ := HVS.out.own 5 _ _ hv rfl
        exact own_lt ho' hg
      have hBp := H.out.low
      have HVK := hide hvk
      have HCK := hide hck
      have HC := hide hc
      have HO := hide ho
      have HOB := hide hOB
      have HV := hide hv
      clear hvk hck hc ho hOB hv
      generalize hnn : (c.health.map HealthD.cells).length = m at *
      have HNN := hide hnn
      clear hnn
      obtain ⟨c0, c1, c2, c3, c4, f0, f1, f2, f3, f4⟩ := row5 HT8.out rfl
      have hl := (Array.getElem?_eq_some_iff.1 HT8.out).1
      have hpV : pb < w8.heap.size := Nat.lt_of_lt_of_le hpb HA8.out.kept.size
      have HBel := hide ((Below.refl w8.heap.size w8).drew)
      refine wp_region_tail (S := fun w' => w'.heap[pb]? = w8.heap[pb]? ∧ w'.heap[xb]? = w8.heap[xb]?) 9 (by kernel_rfl) (by kernel_rfl) ⟨rfl, rfl⟩ (fun hHeld => ?_)
      generalize w8.drew = V0 at *
      refine tk 0 51 rfl (by kernel_rfl) (fun _ _ _ h => h) rfl (fun _ _ => by go_simp; with_reducible rfl) hHeld ?_
      refine tk 1 52 rfl (by kernel_rfl) (fun _ _ _ h => h) rfl (fun _ _ => by go_simp; with_reducible rfl) hHeld ?_
      refine tk 2 53 rfl (by kernel_rfl) (fun _ _ _ h => h) rfl (fun _ _ => by go_simp; with_reducible rfl) hHeld ?_
      refine tk 3 54 rfl (by kernel_rfl) (fun _ _ _ h => h) rfl (fun _ _ => by go_simp; with_reducible rfl) hHeld ?_
      refine tk 4 55 rfl (by kernel_rfl) (fun _ _ _ h => h) rfl (fun _ _ => by go_simp; with_reducible rfl) hHeld ?_
      (try simp only [Act.put, putA, putB, putC])
      refine wpAnyT_take (i := 5) (oi := ⟨some 56, _, _, _, _, _⟩) (v := ?_) rfl (by kernel_rfl) (fun _ _ _ h => h) (Or.inl ⟨by rfl, ?_⟩) hHeld ?_
      rotate_left
      · intro v hS
        have e0 := (World.cell?_of_block (a := ⟨pb, 7, none⟩) hS.1).trans hcK
        go_simp
        with_reducible rfl
      (try simp only [Act.put, putA, putB, putC])
      refine wpAnyT_take (i := 6) (oi := ⟨some 57, _, _, _, _, _⟩) (v := ?_) rfl (by kernel_rfl) (fun _ _ _ h => h) (Or.inl ⟨by rfl, ?_⟩) hHeld ?_
      rotate_left
      · intro v hS
        have e0 := (World.cell?_of_block (a := ⟨xb, 0, none⟩) hS.2).trans c0
        have e1 := (World.cell?_of_block (a := ⟨xb, 1, none⟩) hS.2).trans c1
        have e2 := (World.cell?_of_block (a := ⟨xb, 2, none⟩) hS.2).trans c2
        have e3 := (World.cell?_of_block (a := ⟨xb, 3, none⟩) hS.2).trans c3
        have e4 := (World.cell?_of_block (a := ⟨xb, 4, none⟩) hS.2).trans c4
        go_simp
        with_reducible rfl
      (try simp only [Act.put, putA, putB, putC])
      refine wpAnyT_ready (rs := [7]) (by kernel_rfl) (by simp) (by rfl) (AllT.cons rfl (fun K hK => ?_) AllT.nil)
      go_simp
      have hpV0 : pb < V0.heap.size := Nat.lt_of_lt_of_le hpV HBel.out.size
      have hxV0 : xb < V0.heap.size := Nat.lt_of_lt_of_le hl HBel.out.size
      refine hK.out _ _ ⟨(Below.heap_alloc V0 _ pb hpV0).trans hHeld.1, (Below.heap_alloc V0 _ xb hxV0).trans hHeld.2⟩ (fun hHeld1 => ?_)
      clear hK K hHeld
      have hHeld := hHeld1
      clear hHeld1
      have XN := hide (heap_alloc_new V0 (Obj.cells #[Value.string ⟨#[]⟩, Value.string ⟨#[]⟩, Value.int .u8 ((a1 : Nat) : Int), Value.int .u8 ((a5 : Nat) : Int), Value.int .u8 ((a7 : Nat) : Int)] 57))
      have HB1 := hide (HBel.out.alloc HBel.out.size (Obj.cells #[Value.string ⟨#[]⟩, Value.string ⟨#[]⟩, Value.int .u8 ((a1 : Nat) : Int), Value.int .u8 ((a5 : Nat) : Int), Value.int .u8 ((a7 : Nat) : Int)] 57))
      have hzV : w8.heap.size ≤ V0.heap.size := HBel.out.size
      clear HBel
      have hz1' : V0.heap.size < (V0.alloc (Obj.cells #[Value.string ⟨#[]⟩, Value.string ⟨#[]⟩, Value.int .u8 ((a1 : Nat) : Int), Value.int .u8 ((a5 : Nat) : Int), Value.int .u8 ((a7 : Nat) : Int)] 57)).heap.size := by simp
      generalize V0.heap.size = nb at *
      generalize V0.alloc (Obj.cells #[Value.string ⟨#[]⟩, Value.string ⟨#[]⟩, Value.int .u8 ((a1 : Nat) : Int), Value.int .u8 ((a5 : Nat) : Int), Value.int .u8 ((a7 : Nat) : Int)] 57) = V1 at *
      clear V0
      (try simp only [Act.put, putA, putB, putC])
      refine wpAnyT_ready (rs := [8]) (by kernel_rfl) (by simp) (by rfl) (AllT.cons rfl (fun K hK => ?_) AllT.nil)
      have hO1 := own_keep (w' := V1) HO.out (fun g hg _ => HB1.out.block g (own_lt HO.out hg).2)
      have HO1 := hide hO1
      clear hO1
      have hBV : B ≤ V1.heap.size := by have := H.out.big; have := HA8.out.kept.size; have := HB1.out.size; omega
      refine step_append_any _ rfl (.tmp 56) (.tmp 58) 28 rfl B 57 i0 _ 5 40 Tryz.underlying28 hi0 hz0 hz1 hz2 rfl (by decide) (.slice A m q) m cs rfl HO1.out _ (some ⟨nb, 0, none⟩) 1 1 [Value.string ⟨#[]⟩, Value.string ⟨#[]⟩, Value.int .u8 ((a1 : Nat) : Int), Value.int .u8 ((a5 : Nat) : Int), Value.int .u8 ((a7 : Nat) : Int)] rfl (reads_blk XN.out rfl) (by simp [Value.oneCell']) (by unfold maxLen; omega) (by omega) hBV ?_
      intro v5 wz hown5 hg5 hat5
      obtain ⟨Az, qz, rfl⟩ := own_form hown5
      have hp5 := hg5.block pb (by omega) (fun e => by have := (HOB.out pb e.symm).1; omega)
      have hx5 := hg5.block xb (by omega) (fun e => by have := (HOB.out xb e.symm).2; omega)
      refine hK.out _ _ ⟨hp5.trans hHeld.1, hx5.trans hHeld.2⟩ (fun hHeld1 => ?_)
      clear hK K
      have q0 := (World.cell?_of_block (a := ⟨pb, 7, none⟩) hHeld1.1).trans hcK
      have q1 := (World.frozen?_of_block (a := ⟨pb, 7, none⟩) hHeld1.1).trans hfK
      have hFIN := (H.out.to HA8.out).push (c' := { c with health := c.health ++ [⟨[], [], a1, a5, a7⟩] }) HVK.out HCK.out HV.out rfl HC.out (f := HealthD.cells (⟨[], [], a1, a5, a7⟩)) rfl HB1.out (news := [Value.string ⟨#[]⟩, Value.string ⟨#[]⟩, Value.int .u8 ((a1 : Nat) : Int), Value.int .u8 ((a5 : Nat) : Int), Value.int .u8 ((a7 : Nat) : Int)]) ?_ (by rw [HNN.out]; exact hown5) hg5 hat5 (by simp [cfgRows])
      rotate_left
      · exact dcells_leaf _
      have HFIN := hide hFIN
      have HEND := hide ((bnd_ok (HR8.out.trans rfl)).trans rfl : ((healthP >>= fun x => pure { c with health := c.health ++ [x] }) (ts.drop j)) = .ok { c with health := c.health ++ [⟨[], [], a1, a5, a7⟩] } (ts.drop j8))
      clear hFIN hp5 hx5 hown5 hg5 hat5 hHeld hHeld1 XN HO1 HR8
      clear hl c0 f0 c1 f1 c2 f2 c3 f3 c4 f4
      refine wpAnyT_done (by kernel_rfl) ?_
      simp only [List.drop_succ_cons, List.drop_zero]
      go_wp2_with fail
      go_end0
      exact EndsC.mk_ok HEND.out hj8 (HA8.out.kp.trans HFIN.out.2) HFIN.out.1
    · go_wp2_with fail
      refine (name_any pb j3 ts _ (hide (H.out.cur.to HA3.out)) hts' hj3).mono ?_
      rintro e w4 hE4
      rcases hE4.split with ⟨a4, j4, hr, hj4, hA, rfl⟩ | ⟨n, jn, hr, hjn, hA, rfl⟩
      rotate_left
      · have HX := hide (EndsC.mk_bad (B := B) (res := ((healthP >>= fun x => pure { c with health := c.health ++ [x] }) (ts.drop j))) (bnd_bad (HR2.out.trans (bnd_bad (opt_bad hr3.out hr)))) hjn (HA3.out.trans hA).kp (H.out.cur.to (HA3.out.trans hA)))
        clear hA hr hE4
        go_wp2_with fail
        exact ⟨rfl, HX.out⟩
      have HB4 := hide (HA3.out.trans hA)
      have HR4 := hide (HR2.out.trans (bnd_ok (opt_yes hr3.out hr)))
      clear HR2
      have HS4 := hide ((hA.kept.block _ (Array.getElem?_eq_some_iff.1 HT3.out).1 (by omega)).trans HT3.out)
      clear hA hr hE4 HA3 HT3
      obtain ⟨c0, c1, c2, c3, c4, f0, f1, f2, f3, f4⟩ := row5 HS4.out rfl
      have hl := (Array.getElem?_eq_some_iff.1 HS4.out).1
      have HT4 : Hid ((w4.setCell ⟨xb, 1, none⟩ (Value.string ⟨a4.toArray⟩)).heap[xb]? = some (Obj.cells #[Value.string ⟨#[]⟩, Value.string ⟨a4.toArray⟩, Value.int .u8 ((a1 : Nat) : Int), Value.int .u8 0, Value.int .u8 0] 57 (0, 0))) := hide (heap_setCell_same _ xb 1 _ _ _ HS4.out)
      have HA4 := hide (AtJ.fresh HB4.out hpb (p := ⟨xb, 1, none⟩) (by show xb ≠ pb; omega) hgx (Value.string ⟨a4.toArray⟩))
      go_wp2_with fail
      clear hl c0 f0 c1 f1 c2 f2 c3 f3 c4 f4
      have hzz4 : (w4.setCell ⟨xb, 1, none⟩ (Value.string ⟨a4.toArray⟩)).heap.size = w4.heap.size := by simp [World.setCell]
      clear HS4 HB4
      generalize (w4.setCell ⟨xb, 1, none⟩ (Value.string ⟨a4.toArray⟩)) = V4 at *
      refine (must_new pb j4 _ ts ⟨#[108, 101, 118, 101, 108]⟩ _ (hide (H.out.cur.to HA4.out)) hts' hj4 (by decide) (by first | rfl | exact hzz4.symm | simp [go_sem])).mono ?_
      rintro e w5 hE5
      rcases hE5.split with ⟨a5, j5, hr, hj5, hA, rfl⟩ | ⟨n, jn, hr, hjn, hA, rfl⟩
      rotate_left
      · have HX := hide (EndsC.mk_bad (B := B) (res := ((healthP >>= fun x => pure { c with health := c.health ++ [x] }) (ts.drop j))) (bnd_bad (HR4.out.trans (bnd_bad hr))) hjn (HA4.out.trans hA).kp (H.out.cur.to (HA4.out.trans hA)))
        clear hA hr hE5
        go_wp2_with fail
        exact ⟨rfl, HX.out⟩
      have HB5 := hide (HA4.out.trans hA)
      have HR5 := hide (HR4.out.trans (bnd_ok hr))
      clear HR4
      have HS5 := hide ((hA.kept.block _ (Array.getElem?_eq_some_iff.1 HT4.out).1 (by omega)).trans HT4.out)
      clear hA hr hE5 HA4 HT4
      have HT5 := hide HS5.out
      have HA5 := hide HB5.out
      clear HS5 HB5
      go_wp2_with fail
      refine (of_any pb j5 ts ⟨#[112, 114, 111, 99, 101, 115, 115, 32, 112, 97, 114, 116, 32, 109, 111, 100, 117, 108, 101]⟩ _ levelVoc _ (hide (H.out.cur.to HA5.out)) (hide (hE.out.to hpE HA5.out)) hts' hj5).mono ?_
      rintro e w6 hE6
      rcases hE6.split with ⟨a6, j6, hr, hj6, hA, rfl⟩ | ⟨n, jn, hr, hjn, hA, rfl⟩
      rotate_left
      · have HX := hide (EndsC.mk_bad (B := B) (res := ((healthP >>= fun x => pure { c with health := c.health ++ [x] }) (ts.drop j))) (bnd_bad (HR5.out.trans (bnd_bad hr))) hjn (HA5.out.trans hA).kp (H.out.cur.to (HA5.out.trans hA)))
        clear hA hr hE6
        go_wp2_with fail
        exact ⟨rfl, HX.out⟩
      have HB6 := hide (HA5.out.trans hA)
      have HR6 := hide (HR5.out.trans (bnd_ok hr))
      clear HR5
      have HS6 := hide ((hA.kept.block _ (Array.getElem?_eq_some_iff.1 HT5.out).1 (by omega)).trans HT5.out)
      clear hA hr hE6 HA5 HT5
      obtain ⟨c0, c1, c2, c3, c4, f0, f1, f2, f3, f4⟩ := row5 HS6.out rfl
      have hl := (Array.getElem?_eq_some_iff.1 HS6.out).1
      have HT6 : Hid ((w6.setCell ⟨xb, 3, none⟩ (Value.int .u8 ((a6 : Nat) : Int))).heap[xb]? = some (Obj.cells #[Value.string ⟨#[]⟩, Value.string ⟨a4.toArray⟩, Value.int .u8 ((a1 : Nat) : Int), Value.int .u8 ((a6 : Nat) : Int), Value.int .u8 0] 57 (0, 0))) := hide (heap_setCell_same _ xb 3 _ _ _ HS6.out)
      have HA6 := hide (AtJ.fresh HB6.out hpb (p := ⟨xb, 3, none⟩) (by show xb ≠ pb; omega) hgx (Value.int .u8 ((a6 : Nat) : Int)))
      go_wp2_with fail
      clear hl c0 f0 c1 f1 c2 f2 c3 f3 c4 f4
      have hzz6 : (w6.setCell ⟨xb, 3, none⟩ (Value.int .u8 ((a6 : Nat) : Int))).heap.size = w6.heap.size := by simp [World.setCell]
      clear HS6 HB6
      generalize (w6.setCell ⟨xb, 3, none⟩ (Value.int .u8 ((a6 : Nat) : Int))) = V6 at *
      refine (must_new pb j6 _ ts ⟨#[100, 111]⟩ _ (hide (H.out.cur.to HA6.out)) hts' hj6 (by decide) (by first | rfl | exact hzz6.symm | simp [go_sem])).mono ?_
      rintro e w7 hE7
      rcases hE7.split with ⟨a7, j7, hr, hj7, hA, rfl⟩ | ⟨n, jn, hr, hjn, hA, rfl⟩
      rotate_left
      · have HX := hide (EndsC.mk_bad (B := B) (res := ((healthP >>= fun x => pure { c with health := c.health ++ [x] }) (ts.drop j))) (bnd_bad (HR6.out.trans (bnd_bad hr))) hjn (HA6.out.trans hA).kp (H.out.cur.to (HA6.out.trans hA)))
        clear hA hr hE7
        go_wp2_with fail
        exact ⟨rfl, HX.out⟩
      have HB7 := hide (HA6.out.trans hA)
      have HR7 := hide (HR6.out.trans (bnd_ok hr))
      clear HR6
      have HS7 := hide ((hA.kept.block _ (Array.getElem?_eq_some_iff.1 HT6.out).1 (by omega)).trans HT6.out)
      clear hA hr hE7 HA6 HT6
      have HT7 := hide HS7.out
      have HA7 := hide HB7.out
      clear HS7 HB7
      go_wp2_with fail
      refine (of_any pb j7 ts ⟨#[105, 103, 110, 111, 114, 101, 32, 115, 116, 111, 112, 32, 114, 101, 115, 116, 97, 114, 116, 32, 119, 97, 114, 109, 32, 99, 111, 108, 100, 32, 105, 100, 108, 101, 32, 114, 101, 115, 101, 116, 32, 104, 97, 108, 116]⟩ _ actionVoc _ (hide (H.out.cur.to HA7.out)) (hide (hE.out.to hpE HA7.out)) hts' hj7).mono ?_
      rintro e w8 hE8
      rcases hE8.split with ⟨a8, j8, hr, hj8, hA, rfl⟩ | ⟨n, jn, hr, hjn, hA, rfl⟩
      rotate_left
      · have HX := hide (EndsC.mk_bad (B := B) (res := ((healthP >>= fun x => pure { c with health := c.health ++ [x] }) (ts.drop j))) (bnd_bad (HR7.out.trans (bnd_bad hr))) hjn (HA7.out.trans hA).kp (H.out.cur.to (HA7.out.trans hA)))
        clear hA hr hE8
        go_wp2_with fail
        exact ⟨rfl, HX.out⟩
      have HB8 := hide (HA7.out.trans hA)
      have HR8 := hide (HR7.out.trans (bnd_ok hr))
      clear HR7
      have HS8 := hide ((hA.kept.block _ (Array.getElem?_eq_some_iff.1 HT7.out).1 (by omega)).trans HT7.out)
      clear hA hr hE8 HA7 HT7
      obtain ⟨c0, c1, c2, c3, c4, f0, f1, f2, f3, f4⟩ := row5 HS8.out rfl
      have hl := (Array.getElem?_eq_some_iff.1 HS8.out).1
      have HT8 : Hid ((w8.setCell ⟨xb, 4, none⟩ (Value.int .u8 ((a8 : Nat) : Int))).heap[xb]? = some (Obj.cells #[Value.string ⟨#[]⟩, Value.string ⟨a4.toArray⟩, Value.int .u8 ((a1 : Nat) : Int), Value.int .u8 ((a6 : Nat) : Int), Value.int .u8 ((a8 : Nat) : Int)] 57 (0, 0))) := hide (heap_setCell_same _ xb 4 _ _ _ HS8.out)
      have HA8 := hide (AtJ.fresh HB8.out hpb (p := ⟨xb, 4, none⟩) (by show xb ≠ pb; omega) hgx (Value.int .u8 ((a8 : Nat) : Int)))
      go_wp2_with fail
      clear hl c0 f0 c1 f1 c2 f2 c3 f3 c4 f4
      have hzz8 : (w8.setCell ⟨xb, 4, none⟩ (Value.int .u8 ((a8 : Nat) : Int))).heap.size = w8.heap.size := by simp [World.setCell]
      clear HS8 HB8
      generalize (w8.setCell ⟨xb, 4, none⟩ (Value.int .u8 ((a8 : Nat) : Int))) = V8 at *
      refine (must_new pb j8 _ ts ⟨#[59]⟩ _ (hide (H.out.cur.to HA8.out)) hts' hj8 (by decide) (by first | rfl | exact hzz8.symm | simp [go_sem])).mono ?_
      rintro e w9 hE9
      rcases hE9.split with ⟨a9, j9, hr, hj9, hA, rfl⟩ | ⟨n, jn, hr, hjn, hA, rfl⟩
      rotate_left
      · have HX := hide (EndsC.mk_bad (B := B) (res := ((healthP >>= fun x => pure { c with health := c.health ++ [x] }) (ts.drop j))) (bnd_bad (HR8.out.trans (bnd_bad hr))) hjn (HA8.out.trans hA).kp (H.out.cur.to (HA8.out.trans hA)))
        clear hA hr hE9
        go_wp2_with fail
        exact ⟨rfl, HX.out⟩
      have HB9 := hide (HA8.out.trans hA)
      have HR9 := hide (HR8.out.trans (bnd_ok hr))
      clear HR8
      have HS9 := hide ((hA.kept.block _ (Array.getElem?_eq_some_iff.1 HT8.out).1 (by omega)).trans HT8.out)
      clear hA hr hE9 HA8 HT8
      have HT9 := hide HS9.out
      have HA9 := hide HB9.out
      clear HS9 HB9
      go_wp2_with fail
      have hvk := HVS.out.kept HA9.out.kept (fun b hb e => by have := H.out.low; omega)
      have hck : ∀ (i : Nat) u, vs[i]? = some u → w9.cell? ⟨pb, 2 + i, none⟩ = some u := fun i u hu => (HA9.out.rest (2 + i) (by omega)).trans (HCELL.out i u hu)
      have hv : vs[5]? = some (vs[5]'(by rw [HVS.out.len]; exact (by decide : 5 < 8))) := List.getElem?_eq_getElem _
      generalize vs[5]'(by rw [HVS.out.len]; exact (by decide : 5 < 8)) = v at hv
      obtain ⟨cs, ho, hc⟩ := hvk.own 5 v ⟨57, 5, c.health.map HealthD.cells⟩ hv rfl
      dsimp only at ho hc
      obtain ⟨A, q, rfl⟩ := own_form ho
      have hcK : w9.cell? ⟨pb, 7, none⟩ = _ := hck 5 _ hv
      have hfK := (H.out.to HA9.out).free 7 (by decide)
      have hnl : (c.health.map HealthD.cells).length ≤ 1000000 := by simp; omega
      have hOB : ∀ g, (Value.slice A (c.health.map HealthD.cells).length q).ownBlock = some g → B ≤ g ∧ g < W.heap.size := fun g hg => by
        obtain ⟨cs', ho', _⟩ := HVS.out.own 5 _ _ hv rfl
        exact own_lt ho' hg
      have hBp := H.out.low
      have HVK := hide hvk
      have HCK := hide hck
      have HC := hide hc
      have HO := hide ho
      have HOB := hide hOB
      have HV := hide hv
      clear hvk hck hc ho hOB hv
      generalize hnn : (c.health.map HealthD.cells).length = m at *
      have HNN := hide hnn
      clear hnn
      obtain ⟨c0, c1, c2, c3, c4, f0, f1, f2, f3, f4⟩ := row5 HT9.out rfl
      have hl := (Array.getElem?_eq_some_iff.1 HT9.out).1
      have hpV : pb < w9.heap.size := Nat.lt_of_lt_of_le hpb HA9.out.kept.size
      have HBel := hide ((Below.refl w9.heap.size w9).drew)
      refine wp_region_tail (S := fun w' => w'.heap[pb]? = w9.heap[pb]? ∧ w'.heap[xb]? = w9.heap[xb]?) 9 (by kernel_rfl) (by kernel_rfl) ⟨rfl, rfl⟩ (fun hHeld => ?_)
      generalize w9.drew = V0 at *
      refine tk 0 51 rfl (by kernel_rfl) (fun _ _ _ h => h) rfl (fun _ _ => by go_simp; with_reducible rfl) hHeld ?_
      refine tk 1 52 rfl (by kernel_rfl) (fun _ _ _ h => h) rfl (fun _ _ => by go_simp; with_reducible rfl) hHeld ?_
      refine tk 2 53 rfl (by kernel_rfl) (fun _ _ _ h => h) rfl (fun _ _ => by go_simp; with_reducible rfl) hHeld ?_
      refine tk 3 54 rfl (by kernel_rfl) (fun _ _ _ h => h) rfl (fun _ _ => by go_simp; with_reducible rfl) hHeld ?_
      refine tk 4 55 rfl (by kernel_rfl) (fun _ _ _ h => h) rfl (fun _ _ => by go_simp; with_reducible rfl) hHeld ?_
      (try simp only [Act.put, putA, putB, putC])
      refine wpAnyT_take (i := 5) (oi := ⟨some 56, _, _, _, _, _⟩) (v := ?_) rfl (by kernel_rfl) (fun _ _ _ h => h) (Or.inl ⟨by rfl, ?_⟩) hHeld ?_
      rotate_left
      · intro v hS
        have e0 := (World.cell?_of_block (a := ⟨pb, 7, none⟩) hS.1).trans hcK
        go_simp
        with_reducible rfl
      (try simp only [Act.put, putA, putB, putC])
      refine wpAnyT_take (i := 6) (oi := ⟨some 57, _, _, _, _, _⟩) (v := ?_) rfl (by kernel_rfl) (fun _ _ _ h => h) (Or.inl ⟨by rfl, ?_⟩) hHeld ?_
      rotate_left
      · intro v hS
        have e0 := (World.cell?_of_block (a := ⟨xb, 0, none⟩) hS.2).trans c0
        have e1 := (World.cell?_of_block (a := ⟨xb, 1, none⟩) hS.2).trans c1
        have e2 := (World.cell?_of_block (a := ⟨xb, 2, none⟩) hS.2).trans c2
        have e3 := (World.cell?_of_block (a := ⟨xb, 3, none⟩) hS.2).trans c3
        have e4 := (World.cell?_of_block (a := ⟨xb, 4, none⟩) hS.2).trans c4
        go_simp
        with_reducible rfl
      (try simp only [Act.put, putA, putB, putC])
      refine wpAnyT_ready (rs := [7]) (by kernel_rfl) (by simp) (by rfl) (AllT.cons rfl (fun K hK => ?_) AllT.nil)
      go_simp
      have hpV0 : pb < V0.heap.size := Nat.lt_of_lt_of_le hpV HBel.out.size
      have hxV0 : xb < V0.heap.size := Nat.lt_of_lt_of_le hl HBel.out.size
      refine hK.out _ _ ⟨(Below.heap_alloc V0 _ pb hpV0).trans hHeld.1, (Below.heap_alloc V0 _ xb hxV0).trans hHeld.2⟩ (fun hHeld1 => ?_)
      clear hK K hHeld
      have hHeld := hHeld1
      clear hHeld1
      have XN := hide (heap_alloc_new V0 (Obj.cells #[Value.string ⟨#[]⟩, Value.string ⟨a4.toArray⟩, Value.int .u8 ((a1 : Nat) : Int), Value.int .u8 ((a6 : Nat) : Int), Value.int .u8 ((a8 : Nat) : Int)] 57))
      have HB1 := hide (HBel.out.alloc HBel.out.size (Obj.cells #[Value.string ⟨#[]⟩, Value.string ⟨a4.toArray⟩, Value.int .u8 ((a1 : Nat) : Int), Value.int .u8 ((a6 : Nat) : Int), Value.int .u8 ((a8 : Nat) : Int)] 57))
      have hzV : w9.heap.size ≤ V0.heap.size := HBel.out.size
      clear HBel
      have hz1' : V0.heap.size < (V0.alloc (Obj.cells #[Value.string ⟨#[]⟩, Value.string ⟨a4.toArray⟩, Value.int .u8 ((a1 : Nat) : Int), Value.int .u8 ((a6 : Nat) : Int), Value.int .u8 ((a8 : Nat) : Int)] 57)).heap.size := by simp
      generalize V0.heap.size = nb at *
      generalize V0.alloc (Obj.cells #[Value.string ⟨#[]⟩, Value.string ⟨a4.toArray⟩, Value.int .u8 ((a1 : Nat) : Int), Value.int .u8 ((a6 : Nat) : Int), Value.int .u8 ((a8 : Nat) : Int)] 57) = V1 at *
      clear V0
      (try simp only [Act.put, putA, putB, putC])
      refine wpAnyT_ready (rs := [8]) (by kernel_rfl) (by simp) (by rfl) (AllT.cons rfl (fun K hK => ?_) AllT.nil)
      have hO1 := own_keep (w' := V1) HO.out (fun g hg _ => HB1.out.block g (own_lt HO.out hg).2)
      have HO1 := hide hO1
      clear hO1
      have hBV : B ≤ V1.heap.size := by have := H.out.big; have := HA9.out.kept.size; have := HB1.out.size; omega
      refine step_append_any _ rfl (.tmp 56) (.tmp 58) 28 rfl B 57 i0 _ 5 40 Tryz.underlying28 hi0 hz0 hz1 hz2 rfl (by decide) (.slice A m q) m cs rfl HO1.out _ (some ⟨nb, 0, none⟩) 1 1 [Value.string ⟨#[]⟩, Value.string ⟨a4.toArray⟩, Value.int .u8 ((a1 : Nat) : Int), Value.int .u8 ((a6 : Nat) : Int), Value.int .u8 ((a8 : Nat) : Int)] rfl (reads_blk XN.out rfl) (by simp [Value.oneCell']) (by unfold maxLen; omega) (by omega) hBV ?_
      intro v5 wz hown5 hg5 hat5
      obtain ⟨Az, qz, rfl⟩ := own_form hown5
      have hp5 := hg5.block pb (by omega) (fun e => by have := (HOB.out pb e.symm).1; omega)
      have hx5 := hg5.block xb (by omega) (fun e => by have := (HOB.out xb e.symm).2; omega)
      refine hK.out _ _ ⟨hp5.trans hHeld.1, hx5.trans hHeld.2⟩ (fun hHeld1 => ?_)
      clear hK K
      have q0 := (World.cell?_of_block (a := ⟨pb, 7, none⟩) hHeld1.1).trans hcK
      have q1 := (World.frozen?_of_block (a := ⟨pb, 7, none⟩) hHeld1.1).trans hfK
      have hFIN := (H.out.to HA9.out).push (c' := { c with health := c.health ++ [⟨[], a4, a1, a6, a8⟩] }) HVK.out HCK.out HV.out rfl HC.out (f := HealthD.cells (⟨[], a4, a1, a6, a8⟩)) rfl HB1.out (news := [Value.string ⟨#[]⟩, Value.string ⟨a4.toArray⟩, Value.int .u8 ((a1 : Nat) : Int), Value.int .u8 ((a6 : Nat) : Int), Value.int .u8 ((a8 : Nat) : Int)]) ?_ (by rw [HNN.out]; exact hown5) hg5 hat5 (by simp [cfgRows])
      rotate_left
      · exact dcells_leaf _
      have HFIN := hide hFIN
      have HEND := hide ((bnd_ok (HR9.out.trans rfl)).trans rfl : ((healthP >>= fun x => pure { c with health := c.health ++ [x] }) (ts.drop j)) = .ok { c with health := c.health ++ [⟨[], a4, a1, a6, a8⟩] } (ts.drop j9))
      clear hFIN hp5 hx5 hown5 hg5 hat5 hHeld hHeld1 XN HO1 HR9
      clear hl c0 f0 c1 f1 c2 f2 c3 f3 c4 f4
      refine wpAnyT_done (by kernel_rfl) ?_
      simp only [List.drop_succ_cons, List.drop_zero]
      go_wp2_with fail
      go_end0
      exact EndsC.mk_ok HEND.out hj9 (HA9.out.kp.trans HFIN.out.2) HFIN.out.1
  · go_wp2_with fail
    refine (name_any pb j2 ts _ (hide (H.out.cur.to HA2.out)) hts' hj2).mono ?_
    rintro e w3 hE3
    rcases hE3.split with ⟨a3, j3, hr, hj3, hA, rfl⟩ | ⟨n, jn, hr, hjn, hA, rfl⟩
    rotate_left
    · have HX := hide (EndsC.mk_bad (B := B) (res := ((healthP >>= fun x => pure { c with health := c.health ++ [x] }) (ts.drop j))) (bnd_bad (HR1.out.trans (bnd_bad (opt_bad hr2.out hr)))) hjn (HA2.out.trans hA).kp (H.out.cur.to (HA2.out.trans hA)))
      clear hA hr hE3
      go_wp2_with fail
      exact ⟨rfl, HX.out⟩
    have HB3 := hide (HA2.out.trans hA)
    have HR3 := hide (HR1.out.trans (bnd_ok (opt_yes hr2.out hr)))
    clear HR1
    have HS3 := hide ((hA.kept.block _ (Array.getElem?_eq_some_iff.1 HT2.out).1 (by omega)).trans HT2.out)
    clear hA hr hE3 HA2 HT2
    obtain ⟨c0, c1, c2, c3, c4, f0, f1, f2, f3, f4⟩ := row5 HS3.out rfl
    have hl := (Array.getElem?_eq_some_iff.1 HS3.out).1
    have HT3 : Hid ((w3.setCell ⟨xb, 0, none⟩ (Value.string ⟨a3.toArray⟩)).heap[xb]? = some (Obj.cells #[Value.string ⟨a3.toArray⟩, Value.string ⟨#[]⟩, Value.int .u8 ((a1 : Nat) : Int), Value.int .u8 0, Value.int .u8 0] 57 (0, 0))) := hide (heap_setCell_same _ xb 0 _ _ _ HS3.out)
    have HA3 := hide (AtJ.fresh HB3.out hpb (p := ⟨xb, 0, none⟩) (by show xb ≠ pb; omega) hgx (Value.string ⟨a3.toArray⟩))
    go_wp2_with fail
    clear hl c0 f0 c1 f1 c2 f2 c3 f3 c4 f4
    have hzz3 : (w3.setCell ⟨xb, 0, none⟩ (Value.string ⟨a3.toArray⟩)).heap.size = w3.heap.size := by simp [World.setCell]
    clear HS3 HB3
    generalize (w3.setCell ⟨xb, 0, none⟩ (Value.string ⟨a3.toArray⟩)) = V3 at *
    refine (takes_any pb j3 ts ⟨#[112, 97, 114, 116]⟩ _ (hide (H.out.cur.to HA3.out)) hts' hj3 (by decide)).mono ?_
    rintro e w4 hE4
    rcases hE4.split with ⟨a4, j4, hr, hj4, hA, rfl⟩ | ⟨n, jn, hr, hjn, hA, rfl⟩
    rotate_left
    · exact absurd hr (takes_ne _ _)
    have HB4 := hide (HA3.out.trans hA)
    have hr4 := hide hr
    have HS4 := hide ((hA.kept.block _ (Array.getElem?_eq_some_iff.1 HT3.out).1 (by omega)).trans HT3.out)
    clear hA hr hE4 HA3 HT3
    have HT4 := hide HS4.out
    have HA4 := hide HB4.out
    clear HS4 HB4
    cases a4
    · have HR4 := hide (HR3.out.trans (bnd_ok (opt_no hr4.out)))
      clear hr4 HR3
      go_wp2_with fail
      refine (must_new pb j4 _ ts ⟨#[108, 101, 118, 101, 108]⟩ _ (hide (H.out.cur.to HA4.out)) hts' hj4 (by decide) (by first | rfl | exact hzz4.symm | simp [go_sem])).mono ?_
      rintro e w5 hE5
      rcases hE5.split with ⟨a5, j5, hr, hj5, hA, rfl⟩ | ⟨n, jn, hr, hjn, hA, rfl⟩
      rotate_left
      · have HX := hide (EndsC.mk_bad (B := B) (res := ((healthP >>= fun x => pure { c with health := c.health ++ [x] }) (ts.drop j))) (bnd_bad (HR4.out.trans (bnd_bad hr))) hjn (HA4.out.trans hA).kp (H.out.cur.to (HA4.out.trans hA)))
        clear hA hr hE5
        go_wp2_with fail
        exact ⟨rfl, HX.out⟩
      have HB5 := hide (HA4.out.trans hA)
      have HR5 := hide (HR4.out.trans (bnd_ok hr))
      clear HR4
      have HS5 := hide ((hA.kept.block _ (Array.getElem?_eq_some_iff.1 HT4.out).1 (by omega)).trans HT4.out)
      clear hA hr hE5 HA4 HT4
      have HT5 := hide HS5.out
      have HA5 := hide HB5.out
      clear HS5 HB5
      go_wp2_with fail
      refine (of_any pb j5 ts ⟨#[112, 114, 111, 99, 101, 115, 115, 32, 112, 97, 114, 116, 32, 109, 111, 100, 117, 108, 101]⟩ _ levelVoc _ (hide (H.out.cur.to HA5.out)) (hide (hE.out.to hpE HA5.out)) hts' hj5).mono ?_
      rintro e w6 hE6
      rcases hE6.split with ⟨a6, j6, hr, hj6, hA, rfl⟩ | ⟨n, jn, hr, hjn, hA, rfl⟩
      rotate_left
      · have HX := hide (EndsC.mk_bad (B := B) (res := ((healthP >>= fun x => pure { c with health := c.health ++ [x] }) (ts.drop j))) (bnd_bad (HR5.out.trans (bnd_bad hr))) hjn (HA5.out.trans hA).kp (H.out.cur.to (HA5.out.trans hA)))
        clear hA hr hE6
        go_wp2_with fail
        exact ⟨rfl, HX.out⟩
      have HB6 := hide (HA5.out.trans hA)
      have HR6 := hide (HR5.out.trans (bnd_ok hr))
      clear HR5
      have HS6 := hide ((hA.kept.block _ (Array.getElem?_eq_some_iff.1 HT5.out).1 (by omega)).trans HT5.out)
      clear hA hr hE6 HA5 HT5
      obtain ⟨c0, c1, c2, c3, c4, f0, f1, f2, f3, f4⟩ := row5 HS6.out rfl
      have hl := (Array.getElem?_eq_some_iff.1 HS6.out).1
      have HT6 : Hid ((w6.setCell ⟨xb, 3, none⟩ (Value.int .u8 ((a6 : Nat) : Int))).heap[xb]? = some (Obj.cells #[Value.string ⟨a3.toArray⟩, Value.string ⟨#[]⟩, Value.int .u8 ((a1 : Nat) : Int), Value.int .u8 ((a6 : Nat) : Int), Value.int .u8 0] 57 (0, 0))) := hide (heap_setCell_same _ xb 3 _ _ _ HS6.out)
      have HA6 := hide (AtJ.fresh HB6.out hpb (p := ⟨xb, 3, none⟩) (by show xb ≠ pb; omega) hgx (Value.int .u8 ((a6 : Nat) : Int)))
      go_wp2_with fail
      clear hl c0 f0 c1 f1 c2 f2 c3 f3 c4 f4
      have hzz6 : (w6.setCell ⟨xb, 3, none⟩ (Value.int .u8 ((a6 : Nat) : Int))).heap.size = w6.heap.size := by simp [World.setCell]
      clear HS6 HB6
      generalize (w6.setCell ⟨xb, 3, none⟩ (Value.int .u8 ((a6 : Nat) : Int))) = V6 at *
      refine (must_new pb j6 _ ts ⟨#[100, 111]⟩ _ (hide (H.out.cur.to HA6.out)) hts' hj6 (by decide) (by first | rfl | exact hzz6.symm | simp [go_sem])).mono ?_
      rintro e w7 hE7
      rcases hE7.split with ⟨a7, j7, hr, hj7, hA, rfl⟩ | ⟨n, jn, hr, hjn, hA, rfl⟩
      rotate_left
      · have HX := hide (EndsC.mk_bad (B := B) (res := ((healthP >>= fun x => pure { c with health := c.health ++ [x] }) (ts.drop j))) (bnd_bad (HR6.out.trans (bnd_bad hr))) hjn (HA6.out.trans hA).kp (H.out.cur.to (HA6.out.trans hA)))
        clear hA hr hE7
        go_wp2_with fail
        exact ⟨rfl, HX.out⟩
      have HB7 := hide (HA6.out.trans hA)
      have HR7 := hide (HR6.out.trans (bnd_ok hr))
      clear HR6
      have HS7 := hide ((hA.kept.block _ (Array.getElem?_eq_some_iff.1 HT6.out).1 (by omega)).trans HT6.out)
      clear hA hr hE7 HA6 HT6
      have HT7 := hide HS7.out
      have HA7 := hide HB7.out
      clear HS7 HB7
      go_wp2_with fail
      refine (of_any pb j7 ts ⟨#[105, 103, 110, 111, 114, 101, 32, 115, 116, 111, 112, 32, 114, 101, 115, 116, 97, 114, 116, 32, 119, 97, 114, 109, 32, 99, 111, 108, 100, 32, 105, 100, 108, 101, 32, 114, 101, 115, 101, 116, 32, 104, 97, 108, 116]⟩ _ actionVoc _ (hide (H.out.cur.to HA7.out)) (hide (hE.out.to hpE HA7.out)) hts' hj7).mono ?_
      rintro e w8 hE8
      rcases hE8.split with ⟨a8, j8, hr, hj8, hA, rfl⟩ | ⟨n, jn, hr, hjn, hA, rfl⟩
      rotate_left
      · have HX := hide (EndsC.mk_bad (B := B) (res := ((healthP >>= fun x => pure { c with health := c.health ++ [x] }) (ts.drop j))) (bnd_bad (HR7.out.trans (bnd_bad hr))) hjn (HA7.out.trans hA).kp (H.out.cur.to (HA7.out.trans hA)))
        clear hA hr hE8
        go_wp2_with fail
        exact ⟨rfl, HX.out⟩
      have HB8 := hide (HA7.out.trans hA)
      have HR8 := hide (HR7.out.trans (bnd_ok hr))
      clear HR7
      have HS8 := hide ((hA.kept.block _ (Array.getElem?_eq_some_iff.1 HT7.out).1 (by omega)).trans HT7.out)
      clear hA hr hE8 HA7 HT7
      obtain ⟨c0, c1, c2, c3, c4, f0, f1, f2, f3, f4⟩ := row5 HS8.out rfl
      have hl := (Array.getElem?_eq_some_iff.1 HS8.out).1
      have HT8 : Hid ((w8.setCell ⟨xb, 4, none⟩ (Value.int .u8 ((a8 : Nat) : Int))).heap[xb]? = some (Obj.cells #[Value.string ⟨a3.toArray⟩, Value.string ⟨#[]⟩, Value.int .u8 ((a1 : Nat) : Int), Value.int .u8 ((a6 : Nat) : Int), Value.int .u8 ((a8 : Nat) : Int)] 57 (0, 0))) := hide (heap_setCell_same _ xb 4 _ _ _ HS8.out)
      have HA8 := hide (AtJ.fresh HB8.out hpb (p := ⟨xb, 4, none⟩) (by show xb ≠ pb; omega) hgx (Value.int .u8 ((a8 : Nat) : Int)))
      go_wp2_with fail
      clear hl c0 f0 c1 f1 c2 f2 c3 f3 c4 f4
      have hzz8 : (w8.setCell ⟨xb, 4, none⟩ (Value.int .u8 ((a8 : Nat) : Int))).heap.size = w8.heap.size := by simp [World.setCell]
      clear HS8 HB8
      generalize (w8.setCell ⟨xb, 4, none⟩ (Value.int .u8 ((a8 : Nat) : Int))) = V8 at *
      refine (must_new pb j8 _ ts ⟨#[59]⟩ _ (hide (H.out.cur.to HA8.out)) hts' hj8 (by decide) (by first | rfl | exact hzz8.symm | simp [go_sem])).mono ?_
      rintro e w9 hE9
      rcases hE9.split with ⟨a9, j9, hr, hj9, hA, rfl⟩ | ⟨n, jn, hr, hjn, hA, rfl⟩
      rotate_left
      · have HX := hide (EndsC.mk_bad (B := B) (res := ((healthP >>= fun x => pure { c with health := c.health ++ [x] }) (ts.drop j))) (bnd_bad (HR8.out.trans (bnd_bad hr))) hjn (HA8.out.trans hA).kp (H.out.cur.to (HA8.out.trans hA)))
        clear hA hr hE9
        go_wp2_with fail
        exact ⟨rfl, HX.out⟩
      have HB9 := hide (HA8.out.trans hA)
      have HR9 := hide (HR8.out.trans (bnd_ok hr))
      clear HR8
      have HS9 := hide ((hA.kept.block _ (Array.getElem?_eq_some_iff.1 HT8.out).1 (by omega)).trans HT8.out)
      clear hA hr hE9 HA8 HT8
      have HT9 := hide HS9.out
      have HA9 := hide HB9.out
      clear HS9 HB9
      go_wp2_with fail
      have hvk := HVS.out.kept HA9.out.kept (fun b hb e => by have := H.out.low; omega)
      have hck : ∀ (i : Nat) u, vs[i]? = some u → w9.cell? ⟨pb, 2 + i, none⟩ = some u := fun i u hu => (HA9.out.rest (2 + i) (by omega)).trans (HCELL.out i u hu)
      have hv : vs[5]? = some (vs[5]'(by rw [HVS.out.len]; exact (by decide : 5 < 8))) := List.getElem?_eq_getElem _
      generalize vs[5]'(by rw [HVS.out.len]; exact (by decide : 5 < 8)) = v at hv
      obtain ⟨cs, ho, hc⟩ := hvk.own 5 v ⟨57, 5, c.health.map HealthD.cells⟩ hv rfl
      dsimp only at ho hc
      obtain ⟨A, q, rfl⟩ := own_form ho
      have hcK : w9.cell? ⟨pb, 7, none⟩ = _ := hck 5 _ hv
      have hfK := (H.out.to HA9.out).free 7 (by decide)
      have hnl : (c.health.map HealthD.cells).length ≤ 1000000 := by simp; omega
      have hOB : ∀ g, (Value.slice A (c.health.map HealthD.cells).length q).ownBlock = some g → B ≤ g ∧ g < W.heap.size := fun g hg => by
        obtain ⟨cs', ho', _⟩ := HVS.out.own 5 _ _ hv rfl
        exact own_lt ho' hg
      have hBp := H.out.low
      have HVK := hide hvk
      have HCK := hide hck
      have HC := hide hc
      have HO := hide ho
      have HOB := hide hOB
      have HV := hide hv
      clear hvk hck hc ho hOB hv
      generalize hnn : (c.health.map HealthD.cells).length = m at *
      have HNN := hide hnn
      clear hnn
      obtain ⟨c0, c1, c2, c3, c4, f0, f1, f2, f3, f4⟩ := row5 HT9.out rfl
      have hl := (Array.getElem?_eq_some_iff.1 HT9.out).1
      have hpV : pb < w9.heap.size := Nat.lt_of_lt_of_le hpb HA9.out.kept.size
      have HBel := hide ((Below.refl w9.heap.size w9).drew)
      refine wp_region_tail (S := fun w' => w'.heap[pb]? = w9.heap[pb]? ∧ w'.heap[xb]? = w9.heap[xb]?) 9 (by kernel_rfl) (by kernel_rfl) ⟨rfl, rfl⟩ (fun hHeld => ?_)
      generalize w9.drew = V0 at *
      refine tk 0 51 rfl (by kernel_rfl) (fun _ _ _ h => h) rfl (fun _ _ => by go_simp; with_reducible rfl) hHeld ?_
      refine tk 1 52 rfl (by kernel_rfl) (fun _ _ _ h => h) rfl (fun _ _ => by go_simp; with_reducible rfl) hHeld ?_
      refine tk 2 53 rfl (by kernel_rfl) (fun _ _ _ h => h) rfl (fun _ _ => by go_simp; with_reducible rfl) hHeld ?_
      refine tk 3 54 rfl (by kernel_rfl) (fun _ _ _ h => h) rfl (fun _ _ => by go_simp; with_reducible rfl) hHeld ?_
      refine tk 4 55 rfl (by kernel_rfl) (fun _ _ _ h => h) rfl (fun _ _ => by go_simp; with_reducible rfl) hHeld ?_
      (try simp only [Act.put, putA, putB, putC])
      refine wpAnyT_take (i := 5) (oi := ⟨some 56, _, _, _, _, _⟩) (v := ?_) rfl (by kernel_rfl) (fun _ _ _ h => h) (Or.inl ⟨by rfl, ?_⟩) hHeld ?_
      rotate_left
      · intro v hS
        have e0 := (World.cell?_of_block (a := ⟨pb, 7, none⟩) hS.1).trans hcK
        go_simp
        with_reducible rfl
      (try simp only [Act.put, putA, putB, putC])
      refine wpAnyT_take (i := 6) (oi := ⟨some 57, _, _, _, _, _⟩) (v := ?_) rfl (by kernel_rfl) (fun _ _ _ h => h) (Or.inl ⟨by rfl, ?_⟩) hHeld ?_
      rotate_left
      · intro v hS
        have e0 := (World.cell?_of_block (a := ⟨xb, 0, none⟩) hS.2).trans c0
        have e1 := (World.cell?_of_block (a := ⟨xb, 1, none⟩) hS.2).trans c1
        have e2 := (World.cell?_of_block (a := ⟨xb, 2, none⟩) hS.2).trans c2
        have e3 := (World.cell?_of_block (a := ⟨xb, 3, none⟩) hS.2).trans c3
        have e4 := (World.cell?_of_block (a := ⟨xb, 4, none⟩) hS.2).trans c4
        go_simp
        with_reducible rfl
      (try simp only [Act.put, putA, putB, putC])
      refine wpAnyT_ready (rs := [7]) (by kernel_rfl) (by simp) (by rfl) (AllT.cons rfl (fun K hK => ?_) AllT.nil)
      go_simp
      have hpV0 : pb < V0.heap.size := Nat.lt_of_lt_of_le hpV HBel.out.size
      have hxV0 : xb < V0.heap.size := Nat.lt_of_lt_of_le hl HBel.out.size
      refine hK.out _ _ ⟨(Below.heap_alloc V0 _ pb hpV0).trans hHeld.1, (Below.heap_alloc V0 _ xb hxV0).trans hHeld.2⟩ (fun hHeld1 => ?_)
      clear hK K hHeld
      have hHeld := hHeld1
      clear hHeld1
      have XN := hide (heap_alloc_new V0 (Obj.cells #[Value.string ⟨a3.toArray⟩, Value.string ⟨#[]⟩, Value.int .u8 ((a1 : Nat) : Int), Value.int .u8 ((a6 : Nat) : Int), Value.int .u8 ((a8 : Nat) : Int)] 57))
      have HB1 := hide (HBel.out.alloc HBel.out.size (Obj.cells #[Value.string ⟨a3.toArray⟩, Value.string ⟨#[]⟩, Value.int .u8 ((a1 : Nat) : Int), Value.int .u8 ((a6 : Nat) : Int), Value.int .u8 ((a8 : Nat) : Int)] 57))
      have hzV : w9.heap.size ≤ V0.heap.size := HBel.out.size
      clear HBel
      have hz1' : V0.heap.size < (V0.alloc (Obj.cells #[Value.string ⟨a3.toArray⟩, Value.string ⟨#[]⟩, Value.int .u8 ((a1 : Nat) : Int), Value.int .u8 ((a6 : Nat) : Int), Value.int .u8 ((a8 : Nat) : Int)] 57)).heap.size := by simp
      generalize V0.heap.size = nb at *
      generalize V0.alloc (Obj.cells #[Value.string ⟨a3.toArray⟩, Value.string ⟨#[]⟩, Value.int .u8 ((a1 : Nat) : Int), Value.int .u8 ((a6 : Nat) : Int), Value.int .u8 ((a8 : Nat) : Int)] 57) = V1 at *
      clear V0
      (try simp only [Act.put, putA, putB, putC])
      refine wpAnyT_ready (rs := [8]) (by kernel_rfl) (by simp) (by rfl) (AllT.cons rfl (fun K hK => ?_) AllT.nil)
      have hO1 := own_keep (w' := V1) HO.out (fun g hg _ => HB1.out.block g (own_lt HO.out hg).2)
      have HO1 := hide hO1
      clear hO1
      have hBV : B ≤ V1.heap.size := by have := H.out.big; have := HA9.out.kept.size; have := HB1.out.size; omega
      refine step_append_any _ rfl (.tmp 56) (.tmp 58) 28 rfl B 57 i0 _ 5 40 Tryz.underlying28 hi0 hz0 hz1 hz2 rfl (by decide) (.slice A m q) m cs rfl HO1.out _ (some ⟨nb, 0, none⟩) 1 1 [Value.string ⟨a3.toArray⟩, Value.string ⟨#[]⟩, Value.int .u8 ((a1 : Nat) : Int), Value.int .u8 ((a6 : Nat) : Int), Value.int .u8 ((a8 : Nat) : Int)] rfl (reads_blk XN.out rfl) (by simp [Value.oneCell']) (by unfold maxLen; omega) (by omega) hBV ?_
      intro v5 wz hown5 hg5 hat5
      obtain ⟨Az, qz, rfl⟩ := own_form hown5
      have hp5 := hg5.block pb (by omega) (fun e => by have := (HOB.out pb e.symm).1; omega)
      have hx5 := hg5.block xb (by omega) (fun e => by have := (HOB.out xb e.symm).2; omega)
      refine hK.out _ _ ⟨hp5.trans hHeld.1, hx5.trans hHeld.2⟩ (fun hHeld1 => ?_)
      clear hK K
      have q0 := (World.cell?_of_block (a := ⟨pb, 7, none⟩) hHeld1.1).trans hcK
      have q1 := (World.frozen?_of_block (a := ⟨pb, 7, none⟩) hHeld1.1).trans hfK
      have hFIN := (H.out.to HA9.out).push (c' := { c with health := c.health ++ [⟨a3, [], a1, a6, a8⟩] }) HVK.out HCK.out HV.out rfl HC.out (f := HealthD.cells (⟨a3, [], a1, a6, a8⟩)) rfl HB1.out (news := [Value.string ⟨a3.toArray⟩, Value.string ⟨#[]⟩, Value.int .u8 ((a1 : Nat) : Int), Value.int .u8 ((a6 : Nat) : Int), Value.int .u8 ((a8 : Nat) : Int)]) ?_ (by rw [HNN.out]; exact hown5) hg5 hat5 (by simp [cfgRows])
      rotate_left
      · exact dcells_leaf _
      have HFIN := hide hFIN
      have HEND := hide ((bnd_ok (HR9.out.trans rfl)).trans rfl : ((healthP >>= fun x => pure { c with health := c.health ++ [x] }) (ts.drop j)) = .ok { c with health := c.health ++ [⟨a3, [], a1, a6, a8⟩] } (ts.drop j9))
      clear hFIN hp5 hx5 hown5 hg5 hat5 hHeld hHeld1 XN HO1 HR9
      clear hl c0 f0 c1 f1 c2 f2 c3 f3 c4 f4
      refine wpAnyT_done (by kernel_rfl) ?_
      simp only [List.drop_succ_cons, List.drop_zero]
      go_wp2_with fail
      go_end0
      exact EndsC.mk_ok HEND.out hj9 (HA9.out.kp.trans HFIN.out.2) HFIN.out.1
    · go_wp2_with fail
      refine (name_any pb j4 ts _ (hide (H.out.cur.to HA4.out)) hts' hj4).mono ?_
      rintro e w5 hE5
      rcases hE5.split with ⟨a5, j5, hr, hj5, hA, rfl⟩ | ⟨n, jn, hr, hjn, hA, rfl⟩
      rotate_left
      · have HX := hide (EndsC.mk_bad (B := B) (res := ((healthP >>= fun x => pure { c with health := c.health ++ [x] }) (ts.drop j))) (bnd_bad (HR3.out.trans (bnd_bad (opt_bad hr4.out hr)))) hjn (HA4.out.trans hA).kp (H.out.cur.to (HA4.out.trans hA)))
        clear hA hr hE5
        go_wp2_with fail
        exact ⟨rfl, HX.out⟩
      have HB5 := hide (HA4.out.trans hA)
      have HR5 := hide (HR3.out.trans (bnd_ok (opt_yes hr4.out hr)))
      clear HR3
      have HS5 := hide ((hA.kept.block _ (Array.getElem?_eq_some_iff.1 HT4.out).1 (by omega)).trans HT4.out)
      clear hA hr hE5 HA4 HT4
      obtain ⟨c0, c1, c2, c3, c4, f0, f1, f2, f3, f4⟩ := row5 HS5.out rfl
      have hl := (Array.getElem?_eq_some_iff.1 HS5.out).1
      have HT5 : Hid ((w5.setCell ⟨xb, 1, none⟩ (Value.string ⟨a5.toArray⟩)).heap[xb]? = some (Obj.cells #[Value.string ⟨a3.toArray⟩, Value.string ⟨a5.toArray⟩, Value.int .u8 ((a1 : Nat) : Int), Value.int .u8 0, Value.int .u8 0] 57 (0, 0))) := hide (heap_setCell_same _ xb 1 _ _ _ HS5.out)
      have HA5 := hide (AtJ.fresh HB5.out hpb (p := ⟨xb, 1, none⟩) (by show xb ≠ pb; omega) hgx (Value.string ⟨a5.toArray⟩))
      go_wp2_with fail
      clear hl c0 f0 c1 f1 c2 f2 c3 f3 c4 f4
      have hzz5 : (w5.setCell ⟨xb, 1, none⟩ (Value.string ⟨a5.toArray⟩)).heap.size = w5.heap.size := by simp [World.setCell]
      clear HS5 HB5
      generalize (w5.setCell ⟨xb, 1, none⟩ (Value.string ⟨a5.toArray⟩)) = V5 at *
      refine (must_new pb j5 _ ts ⟨#[108, 101, 118, 101, 108]⟩ _ (hide (H.out.cur.to HA5.out)) hts' hj5 (by decide) (by first | rfl | exact hzz5.symm | simp [go_sem])).mono ?_
      rintro e w6 hE6
      rcases hE6.split with ⟨a6, j6, hr, hj6, hA, rfl⟩ | ⟨n, jn, hr, hjn, hA, rfl⟩
      rotate_left
      · have HX := hide (EndsC.mk_bad (B := B) (res := ((healthP >>= fun x => pure { c with health := c.health ++ [x] }) (ts.drop j))) (bnd_bad (HR5.out.trans (bnd_bad hr))) hjn (HA5.out.trans hA).kp (H.out.cur.to (HA5.out.trans hA)))
        clear hA hr hE6
        go_wp2_with fail
        exact ⟨rfl, HX.out⟩
      have HB6 := hide (HA5.out.trans hA)
      have HR6 := hide (HR5.out.trans (bnd_ok hr))
      clear HR5
      have HS6 := hide ((hA.kept.block _ (Array.getElem?_eq_some_iff.1 HT5.out).1 (by omega)).trans HT5.out)
      clear hA hr hE6 HA5 HT5
      have HT6 := hide HS6.out
      have HA6 := hide HB6.out
      clear HS6 HB6
      go_wp2_with fail
      refine (of_any pb j6 ts ⟨#[112, 114, 111, 99, 101, 115, 115, 32, 112, 97, 114, 116, 32, 109, 111, 100, 117, 108, 101]⟩ _ levelVoc _ (hide (H.out.cur.to HA6.out)) (hide (hE.out.to hpE HA6.out)) hts' hj6).mono ?_
      rintro e w7 hE7
      rcases hE7.split with ⟨a7, j7, hr, hj7, hA, rfl⟩ | ⟨n, jn, hr, hjn, hA, rfl⟩
      rotate_left
      · have HX := hide (EndsC.mk_bad (B := B) (res := ((healthP >>= fun x => pure { c with health := c.health ++ [x] }) (ts.drop j))) (bnd_bad (HR6.out.trans (bnd_bad hr))) hjn (HA6.out.trans hA).kp (H.out.cur.to (HA6.out.trans hA)))
        clear hA hr hE7
        go_wp2_with fail
        exact ⟨rfl, HX.out⟩
      have HB7 := hide (HA6.out.trans hA)
      have HR7 := hide (HR6.out.trans (bnd_ok hr))
      clear HR6
      have HS7 := hide ((hA.kept.block _ (Array.getElem?_eq_some_iff.1 HT6.out).1 (by omega)).trans HT6.out)
      clear hA hr hE7 HA6 HT6
      obtain ⟨c0, c1, c2, c3, c4, f0, f1, f2, f3, f4⟩ := row5 HS7.out rfl
      have hl := (Array.getElem?_eq_some_iff.1 HS7.out).1
      have HT7 : Hid ((w7.setCell ⟨xb, 3, none⟩ (Value.int .u8 ((a7 : Nat) : Int))).heap[xb]? = some (Obj.cells #[Value.string ⟨a3.toArray⟩, Value.string ⟨a5.toArray⟩, Value.int .u8 ((a1 : Nat) : Int), Value.int .u8 ((a7 : Nat) : Int), Value.int .u8 0] 57 (0, 0))) := hide (heap_setCell_same _ xb 3 _ _ _ HS7.out)
      have HA7 := hide (AtJ.fresh HB7.out hpb (p := ⟨xb, 3, none⟩) (by show xb ≠ pb; omega) hgx (Value.int .u8 ((a7 : Nat) : Int)))
      go_wp2_with fail
      clear hl c0 f0 c1 f1 c2 f2 c3 f3 c4 f4
      have hzz7 : (w7.setCell ⟨xb, 3, none⟩ (Value.int .u8 ((a7 : Nat) : Int))).heap.size = w7.heap.size := by simp [World.setCell]
      clear HS7 HB7
      generalize (w7.setCell ⟨xb, 3, none⟩ (Value.int .u8 ((a7 : Nat) : Int))) = V7 at *
      refine (must_new pb j7 _ ts ⟨#[100, 111]⟩ _ (hide (H.out.cur.to HA7.out)) hts' hj7 (by decide) (by first | rfl | exact hzz7.symm | simp [go_sem])).mono ?_
      rintro e w8 hE8
      rcases hE8.split with ⟨a8, j8, hr, hj8, hA, rfl⟩ | ⟨n, jn, hr, hjn, hA, rfl⟩
      rotate_left
      · have HX := hide (EndsC.mk_bad (B := B) (res := ((healthP >>= fun x => pure { c with health := c.health ++ [x] }) (ts.drop j))) (bnd_bad (HR7.out.trans (bnd_bad hr))) hjn (HA7.out.trans hA).kp (H.out.cur.to (HA7.out.trans hA)))
        clear hA hr hE8
        go_wp2_with fail
        exact ⟨rfl, HX.out⟩
      have HB8 := hide (HA7.out.trans hA)
      have HR8 := hide (HR7.out.trans (bnd_ok hr))
      clear HR7
      have HS8 := hide ((hA.kept.block _ (Array.getElem?_eq_some_iff.1 HT7.out).1 (by omega)).trans HT7.out)
      clear hA hr hE8 HA7 HT7
      have HT8 := hide HS8.out
      have HA8 := hide HB8.out
      clear HS8 HB8
      go_wp2_with fail
      refine (of_any pb j8 ts ⟨#[105, 103, 110, 111, 114, 101, 32, 115, 116, 111, 112, 32, 114, 101, 115, 116, 97, 114, 116, 32, 119, 97, 114, 109, 32, 99, 111, 108, 100, 32, 105, 100, 108, 101, 32, 114, 101, 115, 101, 116, 32, 104, 97, 108, 116]⟩ _ actionVoc _ (hide (H.out.cur.to HA8.out)) (hide (hE.out.to hpE HA8.out)) hts' hj8).mono ?_
      rintro e w9 hE9
      rcases hE9.split with ⟨a9, j9, hr, hj9, hA, rfl⟩ | ⟨n, jn, hr, hjn, hA, rfl⟩
      rotate_left
      · have HX := hide (EndsC.mk_bad (B := B) (res := ((healthP >>= fun x => pure { c with health := c.health ++ [x] }) (ts.drop j))) (bnd_bad (HR8.out.trans (bnd_bad hr))) hjn (HA8.out.trans hA).kp (H.out.cur.to (HA8.out.trans hA)))
        clear hA hr hE9
        go_wp2_with fail
        exact ⟨rfl, HX.out⟩
      have HB9 := hide (HA8.out.trans hA)
      have HR9 := hide (HR8.out.trans (bnd_ok hr))
      clear HR8
      have HS9 := hide ((hA.kept.block _ (Array.getElem?_eq_some_iff.1 HT8.out).1 (by omega)).trans HT8.out)
      clear hA hr hE9 HA8 HT8
      obtain ⟨c0, c1, c2, c3, c4, f0, f1, f2, f3, f4⟩ := row5 HS9.out rfl
      have hl := (Array.getElem?_eq_some_iff.1 HS9.out).1
      have HT9 : Hid ((w9.setCell ⟨xb, 4, none⟩ (Value.int .u8 ((a9 : Nat) : Int))).heap[xb]? = some (Obj.cells #[Value.string ⟨a3.toArray⟩, Value.string ⟨a5.toArray⟩, Value.int .u8 ((a1 : Nat) : Int), Value.int .u8 ((a7 : Nat) : Int), Value.int .u8 ((a9 : Nat) : Int)] 57 (0, 0))) := hide (heap_setCell_same _ xb 4 _ _ _ HS9.out)
      have HA9 := hide (AtJ.fresh HB9.out hpb (p := ⟨xb, 4, none⟩) (by show xb ≠ pb; omega) hgx (Value.int .u8 ((a9 : Nat) : Int)))
      go_wp2_with fail
      clear hl c0 f0 c1 f1 c2 f2 c3 f3 c4 f4
      have hzz9 : (w9.setCell ⟨xb, 4, none⟩ (Value.int .u8 ((a9 : Nat) : Int))).heap.size = w9.heap.size := by simp [World.setCell]
      clear HS9 HB9
      generalize (w9.setCell ⟨xb, 4, none⟩ (Value.int .u8 ((a9 : Nat) : Int))) = V9 at *
      refine (must_new pb j9 _ ts ⟨#[59]⟩ _ (hide (H.out.cur.to HA9.out)) hts' hj9 (by decide) (by first | rfl | exact hzz9.symm | simp [go_sem])).mono ?_
      rintro e w10 hE10
      rcases hE10.split with ⟨a10, j10, hr, hj10, hA, rfl⟩ | ⟨n, jn, hr, hjn, hA, rfl⟩
      rotate_left
      · have HX := hide (EndsC.mk_bad (B := B) (res := ((healthP >>= fun x => pure { c with health := c.health ++ [x] }) (ts.drop j))) (bnd_bad (HR9.out.trans (bnd_bad hr))) hjn (HA9.out.trans hA).kp (H.out.cur.to (HA9.out.trans hA)))
        clear hA hr hE10
        go_wp2_with fail
        exact ⟨rfl, HX.out⟩
      have HB10 := hide (HA9.out.trans hA)
      have HR10 := hide (HR9.out.trans (bnd_ok hr))
      clear HR9
      have HS10 := hide ((hA.kept.block _ (Array.getElem?_eq_some_iff.1 HT9.out).1 (by omega)).trans HT9.out)
      clear hA hr hE10 HA9 HT9
      have HT10 := hide HS10.out
      have HA10 := hide HB10.out
      clear HS10 HB10
      go_wp2_with fail
      have hvk := HVS.out.kept HA10.out.kept (fun b hb e => by have := H.out.low; omega)
      have hck : ∀ (i : Nat) u, vs[i]? = some u → w10.cell? ⟨pb, 2 + i, none⟩ = some u := fun i u hu => (HA10.out.rest (2 + i) (by omega)).trans (HCELL.out i u hu)
      have hv : vs[5]? = some (vs[5]'(by rw [HVS.out.len]; exact (by decide : 5 < 8))) := List.getElem?_eq_getElem _
      generalize vs[5]'(by rw [HVS.out.len]; exact (by decide : 5 < 8)) = v at hv
      obtain ⟨cs, ho, hc⟩ := hvk.own 5 v ⟨57, 5, c.health.map HealthD.cells⟩ hv rfl
      dsimp only at ho hc
      obtain ⟨A, q, rfl⟩ := own_form ho
      have hcK : w10.cell? ⟨pb, 7, none⟩ = _ := hck 5 _ hv
      have hfK := (H.out.to HA10.out).free 7 (by decide)
      have hnl : (c.health.map HealthD.cells).length ≤ 1000000 := by simp; omega
      have hOB : ∀ g, (Value.slice A (c.health.map HealthD.cells).length q).ownBlock = some g → B ≤ g ∧ g < W.heap.size := fun g hg => by
        obtain ⟨cs', ho', _⟩ := HVS.out.own 5 _ _ hv rfl
        exact own_lt ho' hg
      have hBp := H.out.low
      have HVK := hide hvk
      have HCK := hide hck
      have HC := hide hc
      have HO := hide ho
      have HOB := hide hOB
      have HV := hide hv
      clear hvk hck hc ho hOB hv
      generalize hnn : (c.health.map HealthD.cells).length = m at *
      have HNN := hide hnn
      clear hnn
      obtain ⟨c0, c1, c2, c3, c4, f0, f1, f2, f3, f4⟩ := row5 HT10.out rfl
      have hl := (Array.getElem?_eq_some_iff.1 HT10.out).1
      have hpV : pb < w10.heap.size := Nat.lt_of_lt_of_le hpb HA10.out.kept.size
      have HBel := hide ((Below.refl w10.heap.size w10).drew)
      refine wp_region_tail (S := fun w' => w'.heap[pb]? = w10.heap[pb]? ∧ w'.heap[xb]? = w10.heap[xb]?) 9 (by kernel_rfl) (by kernel_rfl) ⟨rfl, rfl⟩ (fun hHeld => ?_)
      generalize w10.drew = V0 at *
      refine tk 0 51 rfl (by kernel_rfl) (fun _ _ _ h => h) rfl (fun _ _ => by go_simp; with_reducible rfl) hHeld ?_
      refine tk 1 52 rfl (by kernel_rfl) (fun _ _ _ h => h) rfl (fun _ _ => by go_simp; with_reducible rfl) hHeld ?_
      refine tk 2 53 rfl (by kernel_rfl) (fun _ _ _ h => h) rfl (fun _ _ => by go_simp; with_reducible rfl) hHeld ?_
      refine tk 3 54 rfl (by kernel_rfl) (fun _ _ _ h => h) rfl (fun _ _ => by go_simp; with_reducible rfl) hHeld ?_
      refine tk 4 55 rfl (by kernel_rfl) (fun _ _ _ h => h) rfl (fun _ _ => by go_simp; with_reducible rfl) hHeld ?_
      (try simp only [Act.put, putA, putB, putC])
      refine wpAnyT_take (i := 5) (oi := ⟨some 56, _, _, _, _, _⟩) (v := ?_) rfl (by kernel_rfl) (fun _ _ _ h => h) (Or.inl ⟨by rfl, ?_⟩) hHeld ?_
      rotate_left
      · intro v hS
        have e0 := (World.cell?_of_block (a := ⟨pb, 7, none⟩) hS.1).trans hcK
        go_simp
        with_reducible rfl
      (try simp only [Act.put, putA, putB, putC])
      refine wpAnyT_take (i := 6) (oi := ⟨some 57, _, _, _, _, _⟩) (v := ?_) rfl (by kernel_rfl) (fun _ _ _ h => h) (Or.inl ⟨by rfl, ?_⟩) hHeld ?_
      rotate_left
      · intro v hS
        have e0 := (World.cell?_of_block (a := ⟨xb, 0, none⟩) hS.2).trans c0
        have e1 := (World.cell?_of_block (a := ⟨xb, 1, none⟩) hS.2).trans c1
        have e2 := (World.cell?_of_block (a := ⟨xb, 2, none⟩) hS.2).trans c2
        have e3 := (World.cell?_of_block (a := ⟨xb, 3, none⟩) hS.2).trans c3
        have e4 := (World.cell?_of_block (a := ⟨xb, 4, none⟩) hS.2).trans c4
        go_simp
        with_reducible rfl
      (try simp only [Act.put, putA, putB, putC])
      refine wpAnyT_ready (rs := [7]) (by kernel_rfl) (by simp) (by rfl) (AllT.cons rfl (fun K hK => ?_) AllT.nil)
      go_simp
      have hpV0 : pb < V0.heap.size := Nat.lt_of_lt_of_le hpV HBel.out.size
      have hxV0 : xb < V0.heap.size := Nat.lt_of_lt_of_le hl HBel.out.size
      refine hK.out _ _ ⟨(Below.heap_alloc V0 _ pb hpV0).trans hHeld.1, (Below.heap_alloc V0 _ xb hxV0).trans hHeld.2⟩ (fun hHeld1 => ?_)
      clear hK K hHeld
      have hHeld := hHeld1
      clear hHeld1
      have XN := hide (heap_alloc_new V0 (Obj.cells #[Value.string ⟨a3.toArray⟩, Value.string ⟨a5.toArray⟩, Value.int .u8 ((a1 : Nat) : Int), Value.int .u8 ((a7 : Nat) : Int), Value.int .u8 ((a9 : Nat) : Int)] 57))
      have HB1 := hide (HBel.out.alloc HBel.out.size (Obj.cells #[Value.string ⟨a3.toArray⟩, Value.string ⟨a5.toArray⟩, Value.int .u8 ((a1 : Nat) : Int), Value.int .u8 ((a7 : Nat) : Int), Value.int .u8 ((a9 : Nat) : Int)] 57))
      have hzV : w10.heap.size ≤ V0.heap.size := HBel.out.size
      clear HBel
      have hz1' : V0.heap.size < (V0.alloc (Obj.cells #[Value.string ⟨a3.toArray⟩, Value.string ⟨a5.toArray⟩, Value.int .u8 ((a1 : Nat) : Int), Value.int .u8 ((a7 : Nat) : Int), Value.int .u8 ((a9 : Nat) : Int)] 57)).heap.size := by simp
      generalize V0.heap.size = nb at *
      generalize V0.alloc (Obj.cells #[Value.string ⟨a3.toArray⟩, Value.string ⟨a5.toArray⟩, Value.int .u8 ((a1 : Nat) : Int), Value.int .u8 ((a7 : Nat) : Int), Value.int .u8 ((a9 : Nat) : Int)] 57) = V1 at *
      clear V0
      (try simp only [Act.put, putA, putB, putC])
      refine wpAnyT_ready (rs := [8]) (by kernel_rfl) (by simp) (by rfl) (AllT.cons rfl (fun K hK => ?_) AllT.nil)
      have hO1 := own_keep (w' := V1) HO.out (fun g hg _ => HB1.out.block g (own_lt HO.out hg).2)
      have HO1 := hide hO1
      clear hO1
      have hBV : B ≤ V1.heap.size := by have := H.out.big; have := HA10.out.kept.size; have := HB1.out.size; omega
      refine step_append_any _ rfl (.tmp 56) (.tmp 58) 28 rfl B 57 i0 _ 5 40 Tryz.underlying28 hi0 hz0 hz1 hz2 rfl (by decide) (.slice A m q) m cs rfl HO1.out _ (some ⟨nb, 0, none⟩) 1 1 [Value.string ⟨a3.toArray⟩, Value.string ⟨a5.toArray⟩, Value.int .u8 ((a1 : Nat) : Int), Value.int .u8 ((a7 : Nat) : Int), Value.int .u8 ((a9 : Nat) : Int)] rfl (reads_blk XN.out rfl) (by simp [Value.oneCell']) (by unfold maxLen; omega) (by omega) hBV ?_
      intro v5 wz hown5 hg5 hat5
      obtain ⟨Az, qz, rfl⟩ := own_form hown5
      have hp5 := hg5.block pb (by omega) (fun e => by have := (HOB.out pb e.symm).1; omega)
      have hx5 := hg5.block xb (by omega) (fun e => by have := (HOB.out xb e.symm).2; omega)
      refine hK.out _ _ ⟨hp5.trans hHeld.1, hx5.trans hHeld.2⟩ (fun hHeld1 => ?_)
      clear hK K
      have q0 := (World.cell?_of_block (a := ⟨pb, 7, none⟩) hHeld1.1).trans hcK
      have q1 := (World.frozen?_of_block (a := ⟨pb, 7, none⟩) hHeld1.1).trans hfK
      have hFIN := (H.out.to HA10.out).push (c' := { c with health := c.health ++ [⟨a3, a5, a1, a7, a9⟩] }) HVK.out HCK.out HV.out rfl HC.out (f := HealthD.cells (⟨a3, a5, a1, a7, a9⟩)) rfl HB1.out (news := [Value.string ⟨a3.toArray⟩, Value.string ⟨a5.toArray⟩, Value.int .u8 ((a1 : Nat) : Int), Value.int .u8 ((a7 : Nat) : Int), Value.int .u8 ((a9 : Nat) : Int)]) ?_ (by rw [HNN.out]; exact hown5) hg5 hat5 (by simp [cfgRows])
      rotate_left
      · exact dcells_leaf _
      have HFIN := hide hFIN
      have HEND := hide ((bnd_ok (HR10.out.trans rfl)).trans rfl : ((healthP >>= fun x => pure { c with health := c.health ++ [x] }) (ts.drop j)) = .ok { c with health := c.health ++ [⟨a3, a5, a1, a7, a9⟩] } (ts.drop j10))
      clear hFIN hp5 hx5 hown5 hg5 hat5 hHeld hHeld1 XN HO1 HR10
      clear hl c0 f0 c1 f1 c2 f2 c3 f3 c4 f4
      refine wpAnyT_done (by kernel_rfl) ?_
      simp only [List.drop_succ_cons, List.drop_zero]
      go_wp2_with fail
      go_end0
      exact EndsC.mk_ok HEND.out hj10 (HA10.out.kp.trans HFIN.out.2) HFIN.out.1
end Go.Proofs.YtlngbjphagnloaaGreatDoor
