/-
  Merged texts: parse: items (printed by tools/pi.py): port.
-/
import Derived.Test.YtlngbjphagnloaaGreatDoorPk1
import Derived.Test.YtlngbjphagnloaaGreatDoorPk11
import Derived.Test.YtlngbjphagnloaaGreatDoorPk12
import Derived.Deep.DeepCutAuto
namespace Go.Proofs.YtlngbjphagnloaaGreatDoor
open Go.RowKit
attribute [local go_sem] Later.cell
attribute [local go_sem] refVal repVal
def portVal (x : PortD) : Value := .agg #[strV x.name, .int .u8 (x.kind : Int), .bool x.out, .int .i64 x.size, .int .i64 x.depth, .int .i64 x.refresh]
theorem takes_val {s : List UInt8} {r r' : List Tok} {b : Bool} (h : takesP s r = .ok b r') : b = seesB s r ∧ r' = if seesB s r then r.tail else r := by
  unfold takesP at h
  split at h
  · rename_i hs; injection h with h1 h2; rw [hs]; exact ⟨h1.symm, h2.symm⟩
  · rename_i hs; injection h with h1 h2; rw [Bool.not_eq_true] at hs; rw [hs]; exact ⟨h1.symm, h2.symm⟩
theorem in_out {r : List Tok} (h : seesB [105, 110] r = true) : seesB [111, 117, 116] r = false := by
  unfold seesB at h ⊢
  simp only [Bool.and_eq_true, beq_iff_eq] at h
  rw [h.1]
  rfl
set_option maxRecDepth 100000 in
set_option maxHeartbeats 4000000 in
theorem port_any (pb j : Nat) (ts : List Tok) (W : World) (H : Hid (Cur pb ts j W)) (hts : ts.length ≤ 1000000) (hj : j ≤ ts.length) (hg : Hid (Good ts)) (hE : Hid (EnvP W)) (hpE : 3 ≤ pb) :
    Calls Tryz.prog 163 #[.pointer (some ⟨pb, 0, none⟩)] W fun e W' => Ends pb ts W portVal (portP (ts.drop j)) e W' := by
  have hpb := H.out.lt
  have hts' : ts.length ≤ 1099511627776 := by omega
  obtain ⟨rb, hrb⟩ : ∃ rb, rb = W.heap.size := ⟨_, rfl⟩
  have HU0 : Hid ((W.alloc (Obj.cells #[Value.string ⟨#[]⟩, Value.int .u8 0, Value.bool false, Value.int .i64 0, Value.int .i64 0, Value.int .i64 0] 53)).heap[rb]? = some (Obj.cells #[Value.string ⟨#[]⟩, Value.int .u8 0, Value.bool false, Value.int .i64 0, Value.int .i64 0, Value.int .i64 0] 53 (0, 0))) := hide (by rw [hrb]; exact heap_alloc_new W _)
  have HA0 := hide ((AtJ.start H.out.now H.out.free).below hpb ((Below.refl W.heap.size W).alloc (Nat.le_refl _) (Obj.cells #[Value.string ⟨#[]⟩, Value.int .u8 0, Value.bool false, Value.int .i64 0, Value.int .i64 0, Value.int .i64 0] 53)))
  have hgr : W.heap.size ≤ rb := by omega
  have hzr : (W.alloc (Obj.cells #[Value.string ⟨#[]⟩, Value.int .u8 0, Value.bool false, Value.int .i64 0, Value.int .i64 0, Value.int .i64 0] 53)).heap.size = rb + 1 := by simp [hrb]
  cases hin : seesB [105, 110] (ts.drop j)
  · cases hout : seesB [111, 117, 116] (ts.drop j)
    · have HOUT := hide hout
      have HIN := hide hin
      clear hin hout
      have HS := sees_any pb j ts ⟨#[111, 117, 116]⟩ _ (hide (H.out.to HA0.out)) hts' hj
      rw [show seesB (⟨#[111, 117, 116]⟩ : ByteArray).data.toList (ts.drop j) = false from HOUT.out] at HS
      have HS := hide HS
      have HRB := hide hrb
      clear hrb
      go_enter Tryz.func163, Tryz.ntmps163
      go_wp2_with fail
      rw [← HRB.out]
      refine (HS.out).mono ?_
      rintro e w0 ⟨rfl, hb⟩
      have HAs := hide (HA0.out.below hpb hb)
      have HUs := hide ((hb.block rb (by omega)).trans HU0.out)
      have hz0 := hb.size
      clear hb HA0 HU0 HS
      have HT0 : Hid ((w0.alloc (Obj.cells #[Value.string ⟨#[]⟩, Value.int .u8 0, Value.bool false, Value.int .i64 0, Value.int .i64 0, Value.int .i64 0] 53)).heap[w0.heap.size]? = some (Obj.cells #[Value.string ⟨#[]⟩, Value.int .u8 0, Value.bool false, Value.int .i64 0, Value.int .i64 0, Value.int .i64 0] 53 (0, 0))) := hide (heap_alloc_new w0 _)
      have HA0 := hide (HAs.out.below hpb ((Below.refl w0.heap.size w0).alloc (Nat.le_refl _) (Obj.cells #[Value.string ⟨#[]⟩, Value.int .u8 0, Value.bool false, Value.int .i64 0, Value.int .i64 0, Value.int .i64 0] 53)))
      have HU0 := hide ((Below.heap_alloc w0 (Obj.cells #[Value.string ⟨#[]⟩, Value.int .u8 0, Value.bool false, Value.int .i64 0, Value.int .i64 0, Value.int .i64 0] 53) rb (by omega)).trans HUs.out)
      have hgx : W.heap.size ≤ w0.heap.size := HAs.out.kept.size
      have hrx : rb < w0.heap.size := by omega
      clear HAs HUs
      go_wp2_with fail
      have hzz0 : (w0.alloc (Obj.cells #[Value.string ⟨#[]⟩, Value.int .u8 0, Value.bool false, Value.int .i64 0, Value.int .i64 0, Value.int .i64 0] 53)).heap.size = w0.heap.size + 1 := by simp
      generalize w0.heap.size = xb at *
      generalize w0.alloc (Obj.cells #[Value.string ⟨#[]⟩, Value.int .u8 0, Value.bool false, Value.int .i64 0, Value.int .i64 0, Value.int .i64 0] 53) = V0 at *
      refine wp_region_tail (S := fun _ => True) 13 (by kernel_rfl) (by kernel_rfl) trivial (fun hHeld => ?_)
      have HT0' : Hid (V0.drew.heap[xb]? = some (Obj.cells #[Value.string ⟨#[]⟩, Value.int .u8 0, Value.bool false, Value.int .i64 0, Value.int .i64 0, Value.int .i64 0] 53 (0, 0))) := HT0
      have HA0' := hide HA0.out.drew
      clear HT0 HA0
      have HT0 := HT0'
      have HA0 := HA0'
      clear HT0' HA0'
      have HU0' : Hid (V0.drew.heap[rb]? = some (Obj.cells #[Value.string ⟨#[]⟩, Value.int .u8 0, Value.bool false, Value.int .i64 0, Value.int .i64 0, Value.int .i64 0] 53 (0, 0))) := HU0
      clear HU0
      have HU0 := HU0'
      clear HU0'
      have hzd0 : V0.drew.heap.size = V0.heap.size := rfl
      generalize V0.drew = U0 at *
      (try rw [← hzd0] at hxV)
      refine tk 0 9 rfl (by kernel_rfl) (fun _ _ _ h => h) rfl (fun _ _ => by go_simp; with_reducible rfl) hHeld ?_
      refine tk 1 10 rfl (by kernel_rfl) (fun _ _ _ h => h) rfl (fun _ _ => by go_simp; with_reducible rfl) hHeld ?_
      refine tk 2 11 rfl (by kernel_rfl) (fun _ _ _ h => h) rfl (fun _ _ => by go_simp; with_reducible rfl) hHeld ?_
      refine tk 3 12 rfl (by kernel_rfl) (fun _ _ _ h => h) rfl (fun _ _ => by go_simp; with_reducible rfl) hHeld ?_
      refine tk 4 13 rfl (by kernel_rfl) (fun _ _ _ h => h) rfl (fun _ _ => by go_simp; with_reducible rfl) hHeld ?_
      refine tk 5 14 rfl (by kernel_rfl) (fun _ _ _ h => h) rfl (fun _ _ => by go_simp; with_reducible rfl) hHeld ?_
      (try simp only [Act.put, putA, putB, putC])
      refine wpAnyT_ready (rs := [6]) (by kernel_rfl) (by simp) (by rfl) (AllT.cons rfl (fun K hK => ?_) AllT.nil)
      go_simp
      refine (takes_any pb j ts ⟨#[105, 110]⟩ _ (hide (H.out.to HA0.out)) hts' hj (by decide)).mono ?_
      rintro e w1 hE1
      rcases hE1.split with ⟨a1, j1, hr, hj1, hA, rfl⟩ | ⟨n, jn, hr, hjn, hA, rfl⟩
      rotate_left
      · exact absurd hr (takes_ne _ _)
      have HB1 := hide (HA0.out.trans hA)
      have hr1 := hide hr
      have HS1 := hide ((hA.kept.block _ (Array.getElem?_eq_some_iff.1 HT0.out).1 (by omega)).trans HT0.out)
      have HU1 := hide ((hA.kept.block _ (Array.getElem?_eq_some_iff.1 HU0.out).1 (by omega)).trans HU0.out)
      clear HU0
      clear hA hr hE1 HA0 HT0
      obtain ⟨hv, hd1⟩ := takes_val hr1.out
      rw [HIN.out] at hv hd1
      subst hv
      clear hr1
      have HT1 := hide HS1.out
      have HA1 := hide HB1.out
      clear HS1 HB1
      go_wp2_with fail
      refine hK.out _ _ trivial (fun _ => ?_)
      clear hK K
      refine tk 7 16 rfl (by kernel_rfl) (fun _ _ _ h => h) rfl (fun _ _ => by go_simp; with_reducible rfl) hHeld ?_
      (try simp only [Act.put, putA, putB, putC])
      have hdd : ts.drop j1 = ts.drop j := by rw [hd1]; rfl
      refine tk 8 17 rfl (by kernel_rfl) (fun _ _ _ h => h) rfl (fun _ _ => by go_simp; with_reducible rfl) hHeld ?_
      refine tk 9 18 rfl (by kernel_rfl) (fun _ _ _ h => h) rfl (fun _ _ => by go_simp; with_reducible rfl) hHeld ?_
      refine tk 10 19 rfl (by kernel_rfl) (fun _ _ _ h => h) rfl (fun _ _ => by go_simp; with_reducible rfl) hHeld ?_
      (try simp only [Act.put, putA, putB, putC])
      refine wpAnyT_ready (rs := [11]) (by kernel_rfl) (by simp) (by rfl) (AllT.cons rfl (fun K hK => ?_) AllT.nil)
      go_simp
      refine (takes_any pb j1 ts ⟨#[111, 117, 116]⟩ _ (hide (H.out.to HA1.out)) hts' hj1 (by decide)).mono ?_
      rintro e w2 hE2
      rcases hE2.split with ⟨a2, j2, hr, hj2, hA, rfl⟩ | ⟨n, jn, hr, hjn, hA, rfl⟩
      rotate_left
      · exact absurd hr (takes_ne _ _)
      have HB2 := hide (HA1.out.trans hA)
      have hr2 := hide hr
      have HS2 := hide ((hA.kept.block _ (Array.getElem?_eq_some_iff.1 HT1.out).1 (by omega)).trans HT1.out)
      have HU2 := hide ((hA.kept.block _ (Array.getElem?_eq_some_iff.1 HU1.out).1 (by omega)).trans HU1.out)
      clear HU1
      clear hA hr hE2 HA1 HT1
      obtain ⟨hv, hd2⟩ := takes_val hr2.out
      rw [hdd, HOUT.out] at hv hd2
      subst hv
      clear hr2
      have HT2 := hide HS2.out
      have HA2 := hide HB2.out
      clear HS2 HB2
      go_wp2_with fail
      refine hK.out _ _ trivial (fun _ => ?_)
      clear hK K
      refine tk 12 21 rfl (by kernel_rfl) (fun _ _ _ h => h) rfl (fun _ _ => by go_simp; with_reducible rfl) hHeld ?_
      (try simp only [Act.put, putA, putB, putC])
      refine wpAnyT_done (by kernel_rfl) ?_
      simp only [List.drop_succ_cons, List.drop_zero]
      have hdk : ts.drop j2 = ts.drop j := by rw [hd2]; rfl
      have hway : wayP (ts.drop j) = .bad 80 (ts.drop j2) := by unfold wayP; rw [HIN.out, HOUT.out, hdk]; rfl
      have HX := hide (Ends.mk_bad (conv := portVal) (res := portP (ts.drop j)) (bnd_bad hway) hj2 HA2.out)
      clear hway hdk hd1 hd2 hdd
      go_wp2_with fail
      ((with_reducible refine (check_no _ _ _).mono ?_); rintro e w'' ⟨rfl, rfl⟩)
      go_wp2_with fail
      exact ⟨rfl, HX.out⟩
    · have HOUT := hide hout
      have HIN := hide hin
      clear hin hout
      have HS := sees_any pb j ts ⟨#[111, 117, 116]⟩ _ (hide (H.out.to HA0.out)) hts' hj
      rw [show seesB (⟨#[111, 117, 116]⟩ : ByteArray).data.toList (ts.drop j) = true from HOUT.out] at HS
      have HS := hide HS
      have HRB := hide hrb
      clear hrb
      go_enter Tryz.func163, Tryz.ntmps163
      go_wp2_with fail
      rw [← HRB.out]
      refine (HS.out).mono ?_
      rintro e w0 ⟨rfl, hb⟩
      have HAs := hide (HA0.out.below hpb hb)
      have HUs := hide ((hb.block rb (by omega)).trans HU0.out)
      have hz0 := hb.size
      clear hb HA0 HU0 HS
      have HT0 : Hid ((w0.alloc (Obj.cells #[Value.string ⟨#[]⟩, Value.int .u8 0, Value.bool true, Value.int .i64 0, Value.int .i64 0, Value.int .i64 0] 53)).heap[w0.heap.size]? = some (Obj.cells #[Value.string ⟨#[]⟩, Value.int .u8 0, Value.bool true, Value.int .i64 0, Value.int .i64 0, Value.int .i64 0] 53 (0, 0))) := hide (heap_alloc_new w0 _)
      have HA0 := hide (HAs.out.below hpb ((Below.refl w0.heap.size w0).alloc (Nat.le_refl _) (Obj.cells #[Value.string ⟨#[]⟩, Value.int .u8 0, Value.bool true, Value.int .i64 0, Value.int .i64 0, Value.int .i64 0] 53)))
      have HU0 := hide ((Below.heap_alloc w0 (Obj.cells #[Value.string ⟨#[]⟩, Value.int .u8 0, Value.bool true, Value.int .i64 0, Value.int .i64 0, Value.int .i64 0] 53) rb (by omega)).trans HUs.out)
      have hgx : W.heap.size ≤ w0.heap.size := HAs.out.kept.size
      have hrx : rb < w0.heap.size := by omega
      clear HAs HUs
      go_wp2_with fail
      have hzz0 : (w0.alloc (Obj.cells #[Value.string ⟨#[]⟩, Value.int .u8 0, Value.bool true, Value.int .i64 0, Value.int .i64 0, Value.int .i64 0] 53)).heap.size = w0.heap.size + 1 := by simp
      generalize w0.heap.size = xb at *
      generalize w0.alloc (Obj.cells #[Value.string ⟨#[]⟩, Value.int .u8 0, Value.bool true, Value.int .i64 0, Value.int .i64 0, Value.int .i64 0] 53) = V0 at *
      refine wp_region_tail (S := fun _ => True) 13 (by kernel_rfl) (by kernel_rfl) trivial (fun hHeld => ?_)
      have HT0' : Hid (V0.drew.heap[xb]? = some (Obj.cells #[Value.string ⟨#[]⟩, Value.int .u8 0, Value.bool true, Value.int .i64 0, Value.int .i64 0, Value.int .i64 0] 53 (0, 0))) := HT0
      have HA0' := hide HA0.out.drew
      clear HT0 HA0
      have HT0 := HT0'
      have HA0 := HA0'
      clear HT0' HA0'
      have HU0' : Hid (V0.drew.heap[rb]? = some (Obj.cells #[Value.string ⟨#[]⟩, Value.int .u8 0, Value.bool false, Value.int .i64 0, Value.int .i64 0, Value.int .i64 0] 53 (0, 0))) := HU0
      clear HU0
      have HU0 := HU0'
      clear HU0'
      have hzd0 : V0.drew.heap.size = V0.heap.size := rfl
      generalize V0.drew = U0 at *
      (try rw [← hzd0] at hxV)
      refine tk 0 9 rfl (by kernel_rfl) (fun _ _ _ h => h) rfl (fun _ _ => by go_simp; with_reducible rfl) hHeld ?_
      refine tk 1 10 rfl (by kernel_rfl) (fun _ _ _ h => h) rfl (fun _ _ => by go_simp; with_reducible rfl) hHeld ?_
      refine tk 2 11 rfl (by kernel_rfl) (fun _ _ _ h => h) rfl (fun _ _ => by go_simp; with_reducible rfl) hHeld ?_
      refine tk 3 12 rfl (by kernel_rfl) (fun _ _ _ h => h) rfl (fun _ _ => by go_simp; with_reducible rfl) hHeld ?_
      refine tk 4 13 rfl (by kernel_rfl) (fun _ _ _ h => h) rfl (fun _ _ => by go_simp; with_reducible rfl) hHeld ?_
      refine tk 5 14 rfl (by kernel_rfl) (fun _ _ _ h => h) rfl (fun _ _ => by go_simp; with_reducible rfl) hHeld ?_
      (try simp only [Act.put, putA, putB, putC])
      refine wpAnyT_ready (rs := [6]) (by kernel_rfl) (by simp) (by rfl) (AllT.cons rfl (fun K hK => ?_) AllT.nil)
      go_simp
      refine (takes_any pb j ts ⟨#[105, 110]⟩ _ (hide (H.out.to HA0.out)) hts' hj (by decide)).mono ?_
      rintro e w1 hE1
      rcases hE1.split with ⟨a1, j1, hr, hj1, hA, rfl⟩ | ⟨n, jn, hr, hjn, hA, rfl⟩
      rotate_left
      · exact absurd hr (takes_ne _ _)
      have HB1 := hide (HA0.out.trans hA)
      have hr1 := hide hr
      have HS1 := hide ((hA.kept.block _ (Array.getElem?_eq_some_iff.1 HT0.out).1 (by omega)).trans HT0.out)
      have HU1 := hide ((hA.kept.block _ (Array.getElem?_eq_some_iff.1 HU0.out).1 (by omega)).trans HU0.out)
      clear HU0
      clear hA hr hE1 HA0 HT0
      obtain ⟨hv, hd1⟩ := takes_val hr1.out
      rw [HIN.out] at hv hd1
      subst hv
      clear hr1
      have HT1 := hide HS1.out
      have HA1 := hide HB1.out
      clear HS1 HB1
      go_wp2_with fail
      refine hK.out _ _ trivial (fun _ => ?_)
      clear hK K
      refine tk 7 16 rfl (by kernel_rfl) (fun _ _ _ h => h) rfl (fun _ _ => by go_simp; with_reducible rfl) hHeld ?_
      (try simp only [Act.put, putA, putB, putC])
      have hdd : ts.drop j1 = ts.drop j := by rw [hd1]; rfl
      refine tk 8 17 rfl (by kernel_rfl) (fun _ _ _ h => h) rfl (fun _ _ => by go_simp; with_reducible rfl) hHeld ?_
      refine tk 9 18 rfl (by kernel_rfl) (fun _ _ _ h => h) rfl (fun _ _ => by go_simp; with_reducible rfl) hHeld ?_
      refine tk 10 19 rfl (by kernel_rfl) (fun _ _ _ h => h) rfl (fun _ _ => by go_simp; with_reducible rfl) hHeld ?_
      (try simp only [Act.put, putA, putB, putC])
      refine wpAnyT_ready (rs := [11]) (by kernel_rfl) (by simp) (by rfl) (AllT.cons rfl (fun K hK => ?_) AllT.nil)
      go_simp
      refine (takes_any pb j1 ts ⟨#[111, 117, 116]⟩ _ (hide (H.out.to HA1.out)) hts' hj1 (by decide)).mono ?_
      rintro e w2 hE2
      rcases hE2.split with ⟨a2, j2, hr, hj2, hA, rfl⟩ | ⟨n, jn, hr, hjn, hA, rfl⟩
      rotate_left
      · exact absurd hr (takes_ne _ _)
      have HB2 := hide (HA1.out.trans hA)
      have hr2 := hide hr
      have HS2 := hide ((hA.kept.block _ (Array.getElem?_eq_some_iff.1 HT1.out).1 (by omega)).trans HT1.out)
      have HU2 := hide ((hA.kept.block _ (Array.getElem?_eq_some_iff.1 HU1.out).1 (by omega)).trans HU1.out)
      clear HU1
      clear hA hr hE2 HA1 HT1
      obtain ⟨hv, hd2⟩ := takes_val hr2.out
      rw [hdd, HOUT.out] at hv hd2
      subst hv
      clear hr2
      have HT2 := hide HS2.out
      have HA2 := hide HB2.out
      clear HS2 HB2
      go_wp2_with fail
      refine hK.out _ _ trivial (fun _ => ?_)
      clear hK K
      refine tk 12 21 rfl (by kernel_rfl) (fun _ _ _ h => h) rfl (fun _ _ => by go_simp; with_reducible rfl) hHeld ?_
      (try simp only [Act.put, putA, putB, putC])
      refine wpAnyT_done (by kernel_rfl) ?_
      simp only [List.drop_succ_cons, List.drop_zero]
      have hway : wayP (ts.drop j) = .ok true (ts.drop j2) := by unfold wayP; rw [HIN.out, HOUT.out, hd2]; rfl
      have HR2 := hide ((rfl : portP (ts.drop j) = portP (ts.drop j)).trans (bnd_ok hway))
      clear hway hd1 hd2 hdd
      go_wp2_with fail
      ((with_reducible refine (check_yes _ _ _).mono ?_); rintro e w'' ⟨rfl, rfl⟩)
      have hzzk : True := trivial
      go_wp2_with fail
      refine (name_any pb j2 ts _ (hide (H.out.to HA2.out)) hts' hj2).mono ?_
      rintro e w3 hE3
      rcases hE3.split with ⟨a3, j3, hr, hj3, hA, rfl⟩ | ⟨n, jn, hr, hjn, hA, rfl⟩
      rotate_left
      · have HX := hide (Ends.mk_bad (conv := portVal) (HR2.out.trans (bnd_bad hr)) hjn (HA2.out.trans hA))
        clear hA hr hE3
        go_wp2_with fail
        exact ⟨rfl, HX.out⟩
      have HB3 := hide (HA2.out.trans hA)
      have HR3 := hide (HR2.out.trans (bnd_ok hr))
      clear HR2
      have HS3 := hide ((hA.kept.block _ (Array.getElem?_eq_some_iff.1 HT2.out).1 (by omega)).trans HT2.out)
      have HU3 := hide ((hA.kept.block _ (Array.getElem?_eq_some_iff.1 HU2.out).1 (by omega)).trans HU2.out)
      clear HU2
      clear hA hr hE3 HA2 HT2
      obtain ⟨c0, c1, c2, c3, c4, c5, f0, f1, f2, f3, f4, f5⟩ := row6 HS3.out rfl
      have hl := (Array.getElem?_eq_some_iff.1 HS3.out).1
      have HT3 : Hid ((w3.setCell ⟨xb, 0, none⟩ (Value.string ⟨a3.toArray⟩)).heap[xb]? = some (Obj.cells #[Value.string ⟨a3.toArray⟩, Value.int .u8 0, Value.bool true, Value.int .i64 0, Value.int .i64 0, Value.int .i64 0] 53 (0, 0))) := hide (heap_setCell_same _ xb 0 _ _ _ HS3.out)
      have HA3 := hide (AtJ.fresh HB3.out hpb (p := ⟨xb, 0, none⟩) (by show xb ≠ pb; omega) hgx (Value.string ⟨a3.toArray⟩))
      have HU3' := hide ((Below.heap_setCell _ ⟨xb, 0, none⟩ (Value.string ⟨a3.toArray⟩) rb (by show rb ≠ xb; omega)).trans HU3.out)
      clear HU3
      have HU3 := HU3'
      clear HU3'
      go_wp2_with fail
      clear hl c0 f0 c1 f1 c2 f2 c3 f3 c4 f4 c5 f5
      have hzz3 : (w3.setCell ⟨xb, 0, none⟩ (Value.string ⟨a3.toArray⟩)).heap.size = w3.heap.size := by simp [World.setCell]
      clear HS3 HB3
      generalize (w3.setCell ⟨xb, 0, none⟩ (Value.string ⟨a3.toArray⟩)) = V3 at *
      refine (of_any pb j3 ts ⟨#[115, 97, 109, 112, 108, 105, 110, 103, 32, 113, 117, 101, 117, 105, 110, 103]⟩ _ kindVoc _ (hide (H.out.to HA3.out)) (hide (hE.out.to hpE HA3.out)) hts' hj3).mono ?_
      rintro e w4 hE4
      rcases hE4.split with ⟨a4, j4, hr, hj4, hA, rfl⟩ | ⟨n, jn, hr, hjn, hA, rfl⟩
      rotate_left
      · have HX := hide (Ends.mk_bad (conv := portVal) (HR3.out.trans (bnd_bad hr)) hjn (HA3.out.trans hA))
        clear hA hr hE4
        go_wp2_with fail
        exact ⟨rfl, HX.out⟩
      have HB4 := hide (HA3.out.trans hA)
      have HR4 := hide (HR3.out.trans (bnd_ok hr))
      clear HR3
      have HS4 := hide ((hA.kept.block _ (Array.getElem?_eq_some_iff.1 HT3.out).1 (by omega)).trans HT3.out)
      have HU4 := hide ((hA.kept.block _ (Array.getElem?_eq_some_iff.1 HU3.out).1 (by omega)).trans HU3.out)
      clear HU3
      clear hA hr hE4 HA3 HT3
      obtain ⟨c0, c1, c2, c3, c4, c5, f0, f1, f2, f3, f4, f5⟩ := row6 HS4.out rfl
      have hl := (Array.getElem?_eq_some_iff.1 HS4.out).1
      have HT4 : Hid ((w4.setCell ⟨xb, 1, none⟩ (Value.int .u8 ((a4 : Nat) : Int))).heap[xb]? = some (Obj.cells #[Value.string ⟨a3.toArray⟩, Value.int .u8 ((a4 : Nat) : Int), Value.bool true, Value.int .i64 0, Value.int .i64 0, Value.int .i64 0] 53 (0, 0))) := hide (heap_setCell_same _ xb 1 _ _ _ HS4.out)
      have HA4 := hide (AtJ.fresh HB4.out hpb (p := ⟨xb, 1, none⟩) (by show xb ≠ pb; omega) hgx (Value.int .u8 ((a4 : Nat) : Int)))
      have HU4' := hide ((Below.heap_setCell _ ⟨xb, 1, none⟩ (Value.int .u8 ((a4 : Nat) : Int)) rb (by show rb ≠ xb; omega)).trans HU4.out)
      clear HU4
      have HU4 := HU4'
      clear HU4'
      go_wp2_with fail
      clear hl c0 f0 c1 f1 c2 f2 c3 f3 c4 f4 c5 f5
      have hzz4 : (w4.setCell ⟨xb, 1, none⟩ (Value.int .u8 ((a4 : Nat) : Int))).heap.size = w4.heap.size := by simp [World.setCell]
      clear HS4 HB4
      generalize (w4.setCell ⟨xb, 1, none⟩ (Value.int .u8 ((a4 : Nat) : Int))) = V4 at *
      by_cases hkd : a4 = 1
      · have hkb : ((a4 : Int) == 1) = true := by simp; omega
        have HKD := hide hkd
        clear hkd
        refine (after_any pb j4 ts ⟨#[115, 105, 122, 101]⟩ _ (hide (H.out.to HA4.out)) hts' hj4 hg (by decide)).mono ?_
        rintro e w5 hE5
        rcases hE5.split with ⟨a5, j5, hr, hj5, hA, rfl⟩ | ⟨n, jn, hr, hjn, hA, rfl⟩
        rotate_left
        · have HX := hide (Ends.mk_bad (conv := portVal) (HR4.out.trans (bnd_bad hr)) hjn (HA4.out.trans hA))
          clear hA hr hE5
          go_wp2_with fail
          exact ⟨rfl, HX.out⟩
        have HB5 := hide (HA4.out.trans hA)
        have HR5 := hide (HR4.out.trans (bnd_ok hr))
        clear HR4
        have HS5 := hide ((hA.kept.block _ (Array.getElem?_eq_some_iff.1 HT4.out).1 (by omega)).trans HT4.out)
        have HU5 := hide ((hA.kept.block _ (Array.getElem?_eq_some_iff.1 HU4.out).1 (by omega)).trans HU4.out)
        clear HU4
        clear hA hr hE5 HA4 HT4
        obtain ⟨c0, c1, c2, c3, c4, c5, f0, f1, f2, f3, f4, f5⟩ := row6 HS5.out rfl
        have hl := (Array.getElem?_eq_some_iff.1 HS5.out).1
        have HT5 : Hid ((w5.setCell ⟨xb, 3, none⟩ (Value.int .i64 a5)).heap[xb]? = some (Obj.cells #[Value.string ⟨a3.toArray⟩, Value.int .u8 ((a4 : Nat) : Int), Value.bool true, Value.int .i64 a5, Value.int .i64 0, Value.int .i64 0] 53 (0, 0))) := hide (heap_setCell_same _ xb 3 _ _ _ HS5.out)
        have HA5 := hide (AtJ.fresh HB5.out hpb (p := ⟨xb, 3, none⟩) (by show xb ≠ pb; omega) hgx (Value.int .i64 a5))
        have HU5' := hide ((Below.heap_setCell _ ⟨xb, 3, none⟩ (Value.int .i64 a5) rb (by show rb ≠ xb; omega)).trans HU5.out)
        clear HU5
        have HU5 := HU5'
        clear HU5'
        go_wp2_with fail
        clear hl c0 f0 c1 f1 c2 f2 c3 f3 c4 f4 c5 f5
        have hzz5 : (w5.setCell ⟨xb, 3, none⟩ (Value.int .i64 a5)).heap.size = w5.heap.size := by simp [World.setCell]
        clear HS5 HB5
        generalize (w5.setCell ⟨xb, 3, none⟩ (Value.int .i64 a5)) = V5 at *
        have HR5' := hide (HR5.out.trans (congrFun (if_pos HKD.out) _))
        clear HR5
        have HR5 := HR5'
        clear HR5'
        refine (after_any pb j5 ts ⟨#[114, 101, 102, 114, 101, 115, 104]⟩ _ (hide (H.out.to HA5.out)) hts' hj5 hg (by decide)).mono ?_
        rintro e w6 hE6
        rcases hE6.split with ⟨a6, j6, hr, hj6, hA, rfl⟩ | ⟨n, jn, hr, hjn, hA, rfl⟩
        rotate_left
        · have HX := hide (Ends.mk_bad (conv := portVal) (HR5.out.trans (bnd_bad hr)) hjn (HA5.out.trans hA))
          clear hA hr hE6
          go_wp2_with fail
          exact ⟨rfl, HX.out⟩
        have HB6 := hide (HA5.out.trans hA)
        have HR6 := hide (HR5.out.trans (bnd_ok hr))
        clear HR5
        have HS6 := hide ((hA.kept.block _ (Array.getElem?_eq_some_iff.1 HT5.out).1 (by omega)).trans HT5.out)
        have HU6 := hide ((hA.kept.block _ (Array.getElem?_eq_some_iff.1 HU5.out).1 (by omega)).trans HU5.out)
        clear HU5
        clear hA hr hE6 HA5 HT5
        obtain ⟨c0, c1, c2, c3, c4, c5, f0, f1, f2, f3, f4, f5⟩ := row6 HS6.out rfl
        have hl := (Array.getElem?_eq_some_iff.1 HS6.out).1
        have HT6 : Hid ((w6.setCell ⟨xb, 5, none⟩ (Value.int .i64 a6)).heap[xb]? = some (Obj.cells #[Value.string ⟨a3.toArray⟩, Value.int .u8 ((a4 : Nat) : Int), Value.bool true, Value.int .i64 a5, Value.int .i64 0, Value.int .i64 a6] 53 (0, 0))) := hide (heap_setCell_same _ xb 5 _ _ _ HS6.out)
        have HA6 := hide (AtJ.fresh HB6.out hpb (p := ⟨xb, 5, none⟩) (by show xb ≠ pb; omega) hgx (Value.int .i64 a6))
        have HU6' := hide ((Below.heap_setCell _ ⟨xb, 5, none⟩ (Value.int .i64 a6) rb (by show rb ≠ xb; omega)).trans HU6.out)
        clear HU6
        have HU6 := HU6'
        clear HU6'
        go_wp2_with fail
        clear hl c0 f0 c1 f1 c2 f2 c3 f3 c4 f4 c5 f5
        have hzz6 : (w6.setCell ⟨xb, 5, none⟩ (Value.int .i64 a6)).heap.size = w6.heap.size := by simp [World.setCell]
        clear HS6 HB6
        generalize (w6.setCell ⟨xb, 5, none⟩ (Value.int .i64 a6)) = V6 at *
        refine (must_new pb j6 _ ts ⟨#[59]⟩ _ (hide (H.out.to HA6.out)) hts' hj6 (by decide) (by first | rfl | exact hzz6.symm | simp [go_sem])).mono ?_
        rintro e w7 hE7
        rcases hE7.split with ⟨a7, j7, hr, hj7, hA, rfl⟩ | ⟨n, jn, hr, hjn, hA, rfl⟩
        rotate_left
        · have HX := hide (Ends.mk_bad (conv := portVal) (HR6.out.trans (bnd_bad hr)) hjn (HA6.out.trans hA))
          clear hA hr hE7
          go_wp2_with fail
          exact ⟨rfl, HX.out⟩
        have HB7 := hide (HA6.out.trans hA)
        have HR7 := hide (HR6.out.trans (bnd_ok hr))
        clear HR6
        have HS7 := hide ((hA.kept.block _ (Array.getElem?_eq_some_iff.1 HT6.out).1 (by omega)).trans HT6.out)
        have HU7 := hide ((hA.kept.block _ (Array.getElem?_eq_some_iff.1 HU6.out).1 (by omega)).trans HU6.out)
        clear HU6
        clear hA hr hE7 HA6 HT6
        have HT7 := hide HS7.out
        have HA7 := hide HB7.out
        clear HS7 HB7
        obtain ⟨c0, c1, c2, c3, c4, c5, f0, f1, f2, f3, f4, f5⟩ := row6 HT7.out rfl
        have hl := (Array.getElem?_eq_some_iff.1 HT7.out).1
        obtain ⟨d0, d1, d2, d3, d4, d5, g0, g1, g2, g3, g4, g5⟩ := row6 HU7.out rfl
        have hlr := (Array.getElem?_eq_some_iff.1 HU7.out).1
        go_wp2_with fail
        refine bodyPost_ret (v := portVal ⟨a3, a4, true, a5, 0, a6⟩) (by simp [results, Tryz.results163, go_sem, portVal, strV, d0, d1, d2, d3, d4, d5]) rfl ?_
        exact Ends.mk_ok (a := ⟨a3, a4, true, a5, 0, a6⟩) (HR7.out.trans rfl) hj7 (AtJ.fresh (AtJ.fresh (AtJ.fresh (AtJ.fresh (AtJ.fresh (AtJ.fresh HA7.out hpb (p := ⟨rb, 0, none⟩) (by show rb ≠ pb; omega) hgr _) hpb (p := ⟨rb, 1, none⟩) (by show rb ≠ pb; omega) hgr _) hpb (p := ⟨rb, 2, none⟩) (by show rb ≠ pb; omega) hgr _) hpb (p := ⟨rb, 3, none⟩) (by show rb ≠ pb; omega) hgr _) hpb (p := ⟨rb, 4, none⟩) (by show rb ≠ pb; omega) hgr _) hpb (p := ⟨rb, 5, none⟩) (by show rb ≠ pb; omega) hgr _) rfl
      · have hkb : ((a4 : Int) == 1) = false := by simp; omega
        have HKD := hide hkd
        clear hkd
        refine (after_any pb j4 ts ⟨#[115, 105, 122, 101]⟩ _ (hide (H.out.to HA4.out)) hts' hj4 hg (by decide)).mono ?_
        rintro e w5 hE5
        rcases hE5.split with ⟨a5, j5, hr, hj5, hA, rfl⟩ | ⟨n, jn, hr, hjn, hA, rfl⟩
        rotate_left
        · have HX := hide (Ends.mk_bad (conv := portVal) (HR4.out.trans (bnd_bad hr)) hjn (HA4.out.trans hA))
          clear hA hr hE5
          go_wp2_with fail
          exact ⟨rfl, HX.out⟩
        have HB5 := hide (HA4.out.trans hA)
        have HR5 := hide (HR4.out.trans (bnd_ok hr))
        clear HR4
        have HS5 := hide ((hA.kept.block _ (Array.getElem?_eq_some_iff.1 HT4.out).1 (by omega)).trans HT4.out)
        have HU5 := hide ((hA.kept.block _ (Array.getElem?_eq_some_iff.1 HU4.out).1 (by omega)).trans HU4.out)
        clear HU4
        clear hA hr hE5 HA4 HT4
        obtain ⟨c0, c1, c2, c3, c4, c5, f0, f1, f2, f3, f4, f5⟩ := row6 HS5.out rfl
        have hl := (Array.getElem?_eq_some_iff.1 HS5.out).1
        have HT5 : Hid ((w5.setCell ⟨xb, 3, none⟩ (Value.int .i64 a5)).heap[xb]? = some (Obj.cells #[Value.string ⟨a3.toArray⟩, Value.int .u8 ((a4 : Nat) : Int), Value.bool true, Value.int .i64 a5, Value.int .i64 0, Value.int .i64 0] 53 (0, 0))) := hide (heap_setCell_same _ xb 3 _ _ _ HS5.out)
        have HA5 := hide (AtJ.fresh HB5.out hpb (p := ⟨xb, 3, none⟩) (by show xb ≠ pb; omega) hgx (Value.int .i64 a5))
        have HU5' := hide ((Below.heap_setCell _ ⟨xb, 3, none⟩ (Value.int .i64 a5) rb (by show rb ≠ xb; omega)).trans HU5.out)
        clear HU5
        have HU5 := HU5'
        clear HU5'
        go_wp2_with fail
        clear hl c0 f0 c1 f1 c2 f2 c3 f3 c4 f4 c5 f5
        have hzz5 : (w5.setCell ⟨xb, 3, none⟩ (Value.int .i64 a5)).heap.size = w5.heap.size := by simp [World.setCell]
        clear HS5 HB5
        generalize (w5.setCell ⟨xb, 3, none⟩ (Value.int .i64 a5)) = V5 at *
        have HR5' := hide (HR5.out.trans (congrFun (if_neg HKD.out) _))
        clear HR5
        have HR5 := HR5'
        clear HR5'
        refine (after_any pb j5 ts ⟨#[100, 101, 112, 116, 104]⟩ _ (hide (H.out.to HA5.out)) hts' hj5 hg (by decide)).mono ?_
        rintro e w6 hE6
        rcases hE6.split with ⟨a6, j6, hr, hj6, hA, rfl⟩ | ⟨n, jn, hr, hjn, hA, rfl⟩
        rotate_left
        · have HX := hide (Ends.mk_bad (conv := portVal) (HR5.out.trans (bnd_bad hr)) hjn (HA5.out.trans hA))
          clear hA hr hE6
          go_wp2_with fail
          exact ⟨rfl, HX.out⟩
        have HB6 := hide (HA5.out.trans hA)
        have HR6 := hide (HR5.out.trans (bnd_ok hr))
        clear HR5
        have HS6 := hide ((hA.kept.block _ (Array.getElem?_eq_some_iff.1 HT5.out).1 (by omega)).trans HT5.out)
        have HU6 := hide ((hA.kept.block _ (Array.getElem?_eq_some_iff.1 HU5.out).1 (by omega)).trans HU5.out)
        clear HU5
        clear hA hr hE6 HA5 HT5
        obtain ⟨c0, c1, c2, c3, c4, c5, f0, f1, f2, f3, f4, f5⟩ := row6 HS6.out rfl
        have hl := (Array.getElem?_eq_some_iff.1 HS6.out).1
        have HT6 : Hid ((w6.setCell ⟨xb, 4, none⟩ (Value.int .i64 a6)).heap[xb]? = some (Obj.cells #[Value.string ⟨a3.toArray⟩, Value.int .u8 ((a4 : Nat) : Int), Value.bool true, Value.int .i64 a5, Value.int .i64 a6, Value.int .i64 0] 53 (0, 0))) := hide (heap_setCell_same _ xb 4 _ _ _ HS6.out)
        have HA6 := hide (AtJ.fresh HB6.out hpb (p := ⟨xb, 4, none⟩) (by show xb ≠ pb; omega) hgx (Value.int .i64 a6))
        have HU6' := hide ((Below.heap_setCell _ ⟨xb, 4, none⟩ (Value.int .i64 a6) rb (by show rb ≠ xb; omega)).trans HU6.out)
        clear HU6
        have HU6 := HU6'
        clear HU6'
        go_wp2_with fail
        clear hl c0 f0 c1 f1 c2 f2 c3 f3 c4 f4 c5 f5
        have hzz6 : (w6.setCell ⟨xb, 4, none⟩ (Value.int .i64 a6)).heap.size = w6.heap.size := by simp [World.setCell]
        clear HS6 HB6
        generalize (w6.setCell ⟨xb, 4, none⟩ (Value.int .i64 a6)) = V6 at *
        refine (must_new pb j6 _ ts ⟨#[59]⟩ _ (hide (H.out.to HA6.out)) hts' hj6 (by decide) (by first | rfl | exact hzz6.symm | simp [go_sem])).mono ?_
        rintro e w7 hE7
        rcases hE7.split with ⟨a7, j7, hr, hj7, hA, rfl⟩ | ⟨n, jn, hr, hjn, hA, rfl⟩
        rotate_left
        · have HX := hide (Ends.mk_bad (conv := portVal) (HR6.out.trans (bnd_bad hr)) hjn (HA6.out.trans hA))
          clear hA hr hE7
          go_wp2_with fail
          exact ⟨rfl, HX.out⟩
        have HB7 := hide (HA6.out.trans hA)
        have HR7 := hide (HR6.out.trans (bnd_ok hr))
        clear HR6
        have HS7 := hide ((hA.kept.block _ (Array.getElem?_eq_some_iff.1 HT6.out).1 (by omega)).trans HT6.out)
        have HU7 := hide ((hA.kept.block _ (Array.getElem?_eq_some_iff.1 HU6.out).1 (by omega)).trans HU6.out)
        clear HU6
        clear hA hr hE7 HA6 HT6
        have HT7 := hide HS7.out
        have HA7 := hide HB7.out
        clear HS7 HB7
        obtain ⟨c0, c1, c2, c3, c4, c5, f0, f1, f2, f3, f4, f5⟩ := row6 HT7.out rfl
        have hl := (Array.getElem?_eq_some_iff.1 HT7.out).1
        obtain ⟨d0, d1, d2, d3, d4, d5, g0, g1, g2, g3, g4, g5⟩ := row6 HU7.out rfl
        have hlr := (Array.getElem?_eq_some_iff.1 HU7.out).1
        go_wp2_with fail
        refine bodyPost_ret (v := portVal ⟨a3, a4, true, a5, a6, 0⟩) (by simp [results, Tryz.results163, go_sem, portVal, strV, d0, d1, d2, d3, d4, d5]) rfl ?_
        exact Ends.mk_ok (a := ⟨a3, a4, true, a5, a6, 0⟩) (HR7.out.trans rfl) hj7 (AtJ.fresh (AtJ.fresh (AtJ.fresh (AtJ.fresh (AtJ.fresh (AtJ.fresh HA7.out hpb (p := ⟨rb, 0, none⟩) (by show rb ≠ pb; omega) hgr _) hpb (p := ⟨rb, 1, none⟩) (by show rb ≠ pb; omega) hgr _) hpb (p := ⟨rb, 2, none⟩) (by show rb ≠ pb; omega) hgr _) hpb (p := ⟨rb, 3, none⟩) (by show rb ≠ pb; omega) hgr _) hpb (p := ⟨rb, 4, none⟩) (by show rb ≠ pb; omega) hgr _) hpb (p := ⟨rb, 5, none⟩) (by show rb ≠ pb; omega) hgr _) rfl
  · have hout := in_out hin
    have HOUT := hide hout
    have HIN := hide hin
    clear hin hout
    have HS := sees_any pb j ts ⟨#[111, 117, 116]⟩ _ (hide (H.out.to HA0.out)) hts' hj
    rw [show seesB (⟨#[111, 117, 116]⟩ : ByteArray).data.toList (ts.drop j) = false from HOUT.out] at HS
    have HS := hide HS
    have HRB := hide hrb
    clear hrb
    go_enter Tryz.func163, Tryz.ntmps163
    go_wp2_with fail
    rw [← HRB.out]
    refine (HS.out).mono ?_
    rintro e w0 ⟨rfl, hb⟩
    have HAs := hide (HA0.out.below hpb hb)
    have HUs := hide ((hb.block rb (by omega)).trans HU0.out)
    have hz0 := hb.size
    clear hb HA0 HU0 HS
    have HT0 : Hid ((w0.alloc (Obj.cells #[Value.string ⟨#[]⟩, Value.int .u8 0, Value.bool false, Value.int .i64 0, Value.int .i64 0, Value.int .i64 0] 53)).heap[w0.heap.size]? = some (Obj.cells #[Value.string ⟨#[]⟩, Value.int .u8 0, Value.bool false, Value.int .i64 0, Value.int .i64 0, Value.int .i64 0] 53 (0, 0))) := hide (heap_alloc_new w0 _)
    have HA0 := hide (HAs.out.below hpb ((Below.refl w0.heap.size w0).alloc (Nat.le_refl _) (Obj.cells #[Value.string ⟨#[]⟩, Value.int .u8 0, Value.bool false, Value.int .i64 0, Value.int .i64 0, Value.int .i64 0] 53)))
    have HU0 := hide ((Below.heap_alloc w0 (Obj.cells #[Value.string ⟨#[]⟩, Value.int .u8 0, Value.bool false, Value.int .i64 0, Value.int .i64 0, Value.int .i64 0] 53) rb (by omega)).trans HUs.out)
    have hgx : W.heap.size ≤ w0.heap.size := HAs.out.kept.size
    have hrx : rb < w0.heap.size := by omega
    clear HAs HUs
    go_wp2_with fail
    have hzz0 : (w0.alloc (Obj.cells #[Value.string ⟨#[]⟩, Value.int .u8 0, Value.bool false, Value.int .i64 0, Value.int .i64 0, Value.int .i64 0] 53)).heap.size = w0.heap.size + 1 := by simp
    generalize w0.heap.size = xb at *
    generalize w0.alloc (Obj.cells #[Value.string ⟨#[]⟩, Value.int .u8 0, Value.bool false, Value.int .i64 0, Value.int .i64 0, Value.int .i64 0] 53) = V0 at *
    refine wp_region_tail (S := fun _ => True) 13 (by kernel_rfl) (by kernel_rfl) trivial (fun hHeld => ?_)
    have HT0' : Hid (V0.drew.heap[xb]? = some (Obj.cells #[Value.string ⟨#[]⟩, Value.int .u8 0, Value.bool false, Value.int .i64 0, Value.int .i64 0, Value.int .i64 0] 53 (0, 0))) := HT0
    have HA0' := hide HA0.out.drew
    clear HT0 HA0
    have HT0 := HT0'
    have HA0 := HA0'
    clear HT0' HA0'
    have HU0' : Hid (V0.drew.heap[rb]? = some (Obj.cells #[Value.string ⟨#[]⟩, Value.int .u8 0, Value.bool false, Value.int .i64 0, Value.int .i64 0, Value.int .i64 0] 53 (0, 0))) := HU0
    clear HU0
    have HU0 := HU0'
    clear HU0'
    have hzd0 : V0.drew.heap.size = V0.heap.size := rfl
    generalize V0.drew = U0 at *
    (try rw [← hzd0] at hxV)
    refine tk 0 9 rfl (by kernel_rfl) (fun _ _ _ h => h) rfl (fun _ _ => by go_simp; with_reducible rfl) hHeld ?_
    refine tk 1 10 rfl (by kernel_rfl) (fun _ _ _ h => h) rfl (fun _ _ => by go_simp; with_reducible rfl) hHeld ?_
    refine tk 2 11 rfl (by kernel_rfl) (fun _ _ _ h => h) rfl (fun _ _ => by go_simp; with_reducible rfl) hHeld ?_
    refine tk 3 12 rfl (by kernel_rfl) (fun _ _ _ h => h) rfl (fun _ _ => by go_simp; with_reducible rfl) hHeld ?_
    refine tk 4 13 rfl (by kernel_rfl) (fun _ _ _ h => h) rfl (fun _ _ => by go_simp; with_reducible rfl) hHeld ?_
    refine tk 5 14 rfl (by kernel_rfl) (fun _ _ _ h => h) rfl (fun _ _ => by go_simp; with_reducible rfl) hHeld ?_
    (try simp only [Act.put, putA, putB, putC])
    refine wpAnyT_ready (rs := [6]) (by kernel_rfl) (by simp) (by rfl) (AllT.cons rfl (fun K hK => ?_) AllT.nil)
    go_simp
    refine (takes_any pb j ts ⟨#[105, 110]⟩ _ (hide (H.out.to HA0.out)) hts' hj (by decide)).mono ?_
    rintro e w1 hE1
    rcases hE1.split with ⟨a1, j1, hr, hj1, hA, rfl⟩ | ⟨n, jn, hr, hjn, hA, rfl⟩
    rotate_left
    · exact absurd hr (takes_ne _ _)
    have HB1 := hide (HA0.out.trans hA)
    have hr1 := hide hr
    have HS1 := hide ((hA.kept.block _ (Array.getElem?_eq_some_iff.1 HT0.out).1 (by omega)).trans HT0.out)
    have HU1 := hide ((hA.kept.block _ (Array.getElem?_eq_some_iff.1 HU0.out).1 (by omega)).trans HU0.out)
    clear HU0
    clear hA hr hE1 HA0 HT0
    obtain ⟨hv, hd1⟩ := takes_val hr1.out
    rw [HIN.out] at hv hd1
    subst hv
    clear hr1
    have HT1 := hide HS1.out
    have HA1 := hide HB1.out
    clear HS1 HB1
    go_wp2_with fail
    refine hK.out _ _ trivial (fun _ => ?_)
    clear hK K
    refine tk 7 16 rfl (by kernel_rfl) (fun _ _ _ h => h) rfl (fun _ _ => by go_simp; with_reducible rfl) hHeld ?_
    (try simp only [Act.put, putA, putB, putC])
    refine wpAnyT_take (i := 8) (oi := ⟨some 17, _, _, _, _, _⟩) (v := undef) rfl (by kernel_rfl) (fun _ _ _ h => h) (Or.inr ⟨by rfl, rfl⟩) hHeld ?_
    (try simp only [Act.put, putA, putB, putC])
    refine wpAnyT_take (i := 9) (oi := ⟨some 18, _, _, _, _, _⟩) (v := undef) rfl (by kernel_rfl) (fun _ _ _ h => h) (Or.inr ⟨by rfl, rfl⟩) hHeld ?_
    (try simp only [Act.put, putA, putB, putC])
    refine wpAnyT_take (i := 10) (oi := ⟨some 19, _, _, _, _, _⟩) (v := undef) rfl (by kernel_rfl) (fun _ _ _ h => h) (Or.inr ⟨by rfl, rfl⟩) hHeld ?_
    (try simp only [Act.put, putA, putB, putC])
    refine wpAnyT_take (i := 11) (oi := ⟨some 20, _, _, _, _, _⟩) (v := undef) rfl (by kernel_rfl) (fun _ _ _ h => h) (Or.inr ⟨by rfl, rfl⟩) hHeld ?_
    refine tk 12 21 rfl (by kernel_rfl) (fun _ _ _ h => h) rfl (fun _ _ => by go_simp; with_reducible rfl) hHeld ?_
    (try simp only [Act.put, putA, putB, putC])
    refine wpAnyT_done (by kernel_rfl) ?_
    simp only [List.drop_succ_cons, List.drop_zero]
    have hway : wayP (ts.drop j) = .ok false (ts.drop j1) := by unfold wayP; rw [HIN.out, hd1]; rfl
    have HR1 := hide ((rfl : portP (ts.drop j) = portP (ts.drop j)).trans (bnd_ok hway))
    clear hway hd1
    go_wp2_with fail
    ((with_reducible refine (check_yes _ _ _).mono ?_); rintro e w'' ⟨rfl, rfl⟩)
    have hzzk : True := trivial
    go_wp2_with fail
    refine (name_any pb j1 ts _ (hide (H.out.to HA1.out)) hts' hj1).mono ?_
    rintro e w2 hE2
    rcases hE2.split with ⟨a2, j2, hr, hj2, hA, rfl⟩ | ⟨n, jn, hr, hjn, hA, rfl⟩
    rotate_left
    · have HX := hide (Ends.mk_bad (conv := portVal) (HR1.out.trans (bnd_bad hr)) hjn (HA1.out.trans hA))
      clear hA hr hE2
      go_wp2_with fail
      exact ⟨rfl, HX.out⟩
    have HB2 := hide (HA1.out.trans hA)
    have HR2 := hide (HR1.out.trans (bnd_ok hr))
    clear HR1
    have HS2 := hide ((hA.kept.block _ (Array.getElem?_eq_some_iff.1 HT1.out).1 (by omega)).trans HT1.out)
    have HU2 := hide ((hA.kept.block _ (Array.getElem?_eq_some_iff.1 HU1.out).1 (by omega)).trans HU1.out)
    clear HU1
    clear hA hr hE2 HA1 HT1
    obtain ⟨c0, c1, c2, c3, c4, c5, f0, f1, f2, f3, f4, f5⟩ := row6 HS2.out rfl
    have hl := (Array.getElem?_eq_some_iff.1 HS2.out).1
    have HT2 : Hid ((w2.setCell ⟨xb, 0, none⟩ (Value.string ⟨a2.toArray⟩)).heap[xb]? = some (Obj.cells #[Value.string ⟨a2.toArray⟩, Value.int .u8 0, Value.bool false, Value.int .i64 0, Value.int .i64 0, Value.int .i64 0] 53 (0, 0))) := hide (heap_setCell_same _ xb 0 _ _ _ HS2.out)
    have HA2 := hide (AtJ.fresh HB2.out hpb (p := ⟨xb, 0, none⟩) (by show xb ≠ pb; omega) hgx (Value.string ⟨a2.toArray⟩))
    have HU2' := hide ((Below.heap_setCell _ ⟨xb, 0, none⟩ (Value.string ⟨a2.toArray⟩) rb (by show rb ≠ xb; omega)).trans HU2.out)
    clear HU2
    have HU2 := HU2'
    clear HU2'
    go_wp2_with fail
    clear hl c0 f0 c1 f1 c2 f2 c3 f3 c4 f4 c5 f5
    have hzz2 : (w2.setCell ⟨xb, 0, none⟩ (Value.string ⟨a2.toArray⟩)).heap.size = w2.heap.size := by simp [World.setCell]
    clear HS2 HB2
    generalize (w2.setCell ⟨xb, 0, none⟩ (Value.string ⟨a2.toArray⟩)) = V2 at *
    refine (of_any pb j2 ts ⟨#[115, 97, 109, 112, 108, 105, 110, 103, 32, 113, 117, 101, 117, 105, 110, 103]⟩ _ kindVoc _ (hide (H.out.to HA2.out)) (hide (hE.out.to hpE HA2.out)) hts' hj2).mono ?_
    rintro e w3 hE3
    rcases hE3.split with ⟨a3, j3, hr, hj3, hA, rfl⟩ | ⟨n, jn, hr, hjn, hA, rfl⟩
    rotate_left
    · have HX := hide (Ends.mk_bad (conv := portVal) (HR2.out.trans (bnd_bad hr)) hjn (HA2.out.trans hA))
      clear hA hr hE3
      go_wp2_with fail
      exact ⟨rfl, HX.out⟩
    have HB3 := hide (HA2.out.trans hA)
    have HR3 := hide (HR2.out.trans (bnd_ok hr))
    clear HR2
    have HS3 := hide ((hA.kept.block _ (Array.getElem?_eq_some_iff.1 HT2.out).1 (by omega)).trans HT2.out)
    have HU3 := hide ((hA.kept.block _ (Array.getElem?_eq_some_iff.1 HU2.out).1 (by omega)).trans HU2.out)
    clear HU2
    clear hA hr hE3 HA2 HT2
    obtain ⟨c0, c1, c2, c3, c4, c5, f0, f1, f2, f3, f4, f5⟩ := row6 HS3.out rfl
    have hl := (Array.getElem?_eq_some_iff.1 HS3.out).1
    have HT3 : Hid ((w3.setCell ⟨xb, 1, none⟩ (Value.int .u8 ((a3 : Nat) : Int))).heap[xb]? = some (Obj.cells #[Value.string ⟨a2.toArray⟩, Value.int .u8 ((a3 : Nat) : Int), Value.bool false, Value.int .i64 0, Value.int .i64 0, Value.int .i64 0] 53 (0, 0))) := hide (heap_setCell_same _ xb 1 _ _ _ HS3.out)
    have HA3 := hide (AtJ.fresh HB3.out hpb (p := ⟨xb, 1, none⟩) (by show xb ≠ pb; omega) hgx (Value.int .u8 ((a3 : Nat) : Int)))
    have HU3' := hide ((Below.heap_setCell _ ⟨xb, 1, none⟩ (Value.int .u8 ((a3 : Nat) : Int)) rb (by show rb ≠ xb; omega)).trans HU3.out)
    clear HU3
    have HU3 := HU3'
    clear HU3'
    go_wp2_with fail
    clear hl c0 f0 c1 f1 c2 f2 c3 f3 c4 f4 c5 f5
    have hzz3 : (w3.setCell ⟨xb, 1, none⟩ (Value.int .u8 ((a3 : Nat) : Int))).heap.size = w3.heap.size := by simp [World.setCell]
    clear HS3 HB3
    generalize (w3.setCell ⟨xb, 1, none⟩ (Value.int .u8 ((a3 : Nat) : Int))) = V3 at *
    by_cases hkd : a3 = 1
    · have hkb : ((a3 : Int) == 1) = true := by simp; omega
      have HKD := hide hkd
      clear hkd
      refine (after_any pb j3 ts ⟨#[115, 105, 122, 101]⟩ _ (hide (H.out.to HA3.out)) hts' hj3 hg (by decide)).mono ?_
      rintro e w4 hE4
      rcases hE4.split with ⟨a4, j4, hr, hj4, hA, rfl⟩ | ⟨n, jn, hr, hjn, hA, rfl⟩
      rotate_left
      · have HX := hide (Ends.mk_bad (conv := portVal) (HR3.out.trans (bnd_bad hr)) hjn (HA3.out.trans hA))
        clear hA hr hE4
        go_wp2_with fail
        exact ⟨rfl, HX.out⟩
      have HB4 := hide (HA3.out.trans hA)
      have HR4 := hide (HR3.out.trans (bnd_ok hr))
      clear HR3
      have HS4 := hide ((hA.kept.block _ (Array.getElem?_eq_some_iff.1 HT3.out).1 (by omega)).trans HT3.out)
      have HU4 := hide ((hA.kept.block _ (Array.getElem?_eq_some_iff.1 HU3.out).1 (by omega)).trans HU3.out)
      clear HU3
      clear hA hr hE4 HA3 HT3
      obtain ⟨c0, c1, c2, c3, c4, c5, f0, f1, f2, f3, f4, f5⟩ := row6 HS4.out rfl
      have hl := (Array.getElem?_eq_some_iff.1 HS4.out).1
      have HT4 : Hid ((w4.setCell ⟨xb, 3, none⟩ (Value.int .i64 a4)).heap[xb]? = some (Obj.cells #[Value.string ⟨a2.toArray⟩, Value.int .u8 ((a3 : Nat) : Int), Value.bool false, Value.int .i64 a4, Value.int .i64 0, Value.int .i64 0] 53 (0, 0))) := hide (heap_setCell_same _ xb 3 _ _ _ HS4.out)
      have HA4 := hide (AtJ.fresh HB4.out hpb (p := ⟨xb, 3, none⟩) (by show xb ≠ pb; omega) hgx (Value.int .i64 a4))
      have HU4' := hide ((Below.heap_setCell _ ⟨xb, 3, none⟩ (Value.int .i64 a4) rb (by show rb ≠ xb; omega)).trans HU4.out)
      clear HU4
      have HU4 := HU4'
      clear HU4'
      go_wp2_with fail
      clear hl c0 f0 c1 f1 c2 f2 c3 f3 c4 f4 c5 f5
      have hzz4 : (w4.setCell ⟨xb, 3, none⟩ (Value.int .i64 a4)).heap.size = w4.heap.size := by simp [World.setCell]
      clear HS4 HB4
      generalize (w4.setCell ⟨xb, 3, none⟩ (Value.int .i64 a4)) = V4 at *
      have HR4' := hide (HR4.out.trans (congrFun (if_pos HKD.out) _))
      clear HR4
      have HR4 := HR4'
      clear HR4'
      refine (after_any pb j4 ts ⟨#[114, 101, 102, 114, 101, 115, 104]⟩ _ (hide (H.out.to HA4.out)) hts' hj4 hg (by decide)).mono ?_
      rintro e w5 hE5
      rcases hE5.split with ⟨a5, j5, hr, hj5, hA, rfl⟩ | ⟨n, jn, hr, hjn, hA, rfl⟩
      rotate_left
      · have HX := hide (Ends.mk_bad (conv := portVal) (HR4.out.trans (bnd_bad hr)) hjn (HA4.out.trans hA))
        clear hA hr hE5
        go_wp2_with fail
        exact ⟨rfl, HX.out⟩
      have HB5 := hide (HA4.out.trans hA)
      have HR5 := hide (HR4.out.trans (bnd_ok hr))
      clear HR4
      have HS5 := hide ((hA.kept.block _ (Array.getElem?_eq_some_iff.1 HT4.out).1 (by omega)).trans HT4.out)
      have HU5 := hide ((hA.kept.block _ (Array.getElem?_eq_some_iff.1 HU4.out).1 (by omega)).trans HU4.out)
      clear HU4
      clear hA hr hE5 HA4 HT4
      obtain ⟨c0, c1, c2, c3, c4, c5, f0, f1, f2, f3, f4, f5⟩ := row6 HS5.out rfl
      have hl := (Array.getElem?_eq_some_iff.1 HS5.out).1
      have HT5 : Hid ((w5.setCell ⟨xb, 5, none⟩ (Value.int .i64 a5)).heap[xb]? = some (Obj.cells #[Value.string ⟨a2.toArray⟩, Value.int .u8 ((a3 : Nat) : Int), Value.bool false, Value.int .i64 a4, Value.int .i64 0, Value.int .i64 a5] 53 (0, 0))) := hide (heap_setCell_same _ xb 5 _ _ _ HS5.out)
      have HA5 := hide (AtJ.fresh HB5.out hpb (p := ⟨xb, 5, none⟩) (by show xb ≠ pb; omega) hgx (Value.int .i64 a5))
      have HU5' := hide ((Below.heap_setCell _ ⟨xb, 5, none⟩ (Value.int .i64 a5) rb (by show rb ≠ xb; omega)).trans HU5.out)
      clear HU5
      have HU5 := HU5'
      clear HU5'
      go_wp2_with fail
      clear hl c0 f0 c1 f1 c2 f2 c3 f3 c4 f4 c5 f5
      have hzz5 : (w5.setCell ⟨xb, 5, none⟩ (Value.int .i64 a5)).heap.size = w5.heap.size := by simp [World.setCell]
      clear HS5 HB5
      generalize (w5.setCell ⟨xb, 5, none⟩ (Value.int .i64 a5)) = V5 at *
      refine (must_new pb j5 _ ts ⟨#[59]⟩ _ (hide (H.out.to HA5.out)) hts' hj5 (by decide) (by first | rfl | exact hzz5.symm | simp [go_sem])).mono ?_
      rintro e w6 hE6
      rcases hE6.split with ⟨a6, j6, hr, hj6, hA, rfl⟩ | ⟨n, jn, hr, hjn, hA, rfl⟩
      rotate_left
      · have HX := hide (Ends.mk_bad (conv := portVal) (HR5.out.trans (bnd_bad hr)) hjn (HA5.out.trans hA))
        clear hA hr hE6
        go_wp2_with fail
        exact ⟨rfl, HX.out⟩
      have HB6 := hide (HA5.out.trans hA)
      have HR6 := hide (HR5.out.trans (bnd_ok hr))
      clear HR5
      have HS6 := hide ((hA.kept.block _ (Array.getElem?_eq_some_iff.1 HT5.out).1 (by omega)).trans HT5.out)
      have HU6 := hide ((hA.kept.block _ (Array.getElem?_eq_some_iff.1 HU5.out).1 (by omega)).trans HU5.out)
      clear HU5
      clear hA hr hE6 HA5 HT5
      have HT6 := hide HS6.out
      have HA6 := hide HB6.out
      clear HS6 HB6
      obtain ⟨c0, c1, c2, c3, c4, c5, f0, f1, f2, f3, f4, f5⟩ := row6 HT6.out rfl
      have hl := (Array.getElem?_eq_some_iff.1 HT6.out).1
      obtain ⟨d0, d1, d2, d3, d4, d5, g0, g1, g2, g3, g4, g5⟩ := row6 HU6.out rfl
      have hlr := (Array.getElem?_eq_some_iff.1 HU6.out).1
      go_wp2_with fail
      refine bodyPost_ret (v := portVal ⟨a2, a3, false, a4, 0, a5⟩) (by simp [results, Tryz.results163, go_sem, portVal, strV, d0, d1, d2, d3, d4, d5]) rfl ?_
      exact Ends.mk_ok (a := ⟨a2, a3, false, a4, 0, a5⟩) (HR6.out.trans rfl) hj6 (AtJ.fresh (AtJ.fresh (AtJ.fresh (AtJ.fresh (AtJ.fresh (AtJ.fresh HA6.out hpb (p := ⟨rb, 0, none⟩) (by show rb ≠ pb; omega) hgr _) hpb (p := ⟨rb, 1, none⟩) (by show rb ≠ pb; omega) hgr _) hpb (p := ⟨rb, 2, none⟩) (by show rb ≠ pb; omega) hgr _) hpb (p := ⟨rb, 3, none⟩) (by show rb ≠ pb; omega) hgr _) hpb (p := ⟨rb, 4, none⟩) (by show rb ≠ pb; omega) hgr _) hpb (p := ⟨rb, 5, none⟩) (by show rb ≠ pb; omega) hgr _) rfl
    · have hkb : ((a3 : Int) == 1) = false := by simp; omega
      have HKD := hide hkd
      clear hkd
      refine (after_any pb j3 ts ⟨#[115, 105, 122, 101]⟩ _ (hide (H.out.to HA3.out)) hts' hj3 hg (by decide)).mono ?_
      rintro e w4 hE4
      rcases hE4.split with ⟨a4, j4, hr, hj4, hA, rfl⟩ | ⟨n, jn, hr, hjn, hA, rfl⟩
      rotate_left
      · have HX := hide (Ends.mk_bad (conv := portVal) (HR3.out.trans (bnd_bad hr)) hjn (HA3.out.trans hA))
        clear hA hr hE4
        go_wp2_with fail
        exact ⟨rfl, HX.out⟩
      have HB4 := hide (HA3.out.trans hA)
      have HR4 := hide (HR3.out.trans (bnd_ok hr))
      clear HR3
      have HS4 := hide ((hA.kept.block _ (Array.getElem?_eq_some_iff.1 HT3.out).1 (by omega)).trans HT3.out)
      have HU4 := hide ((hA.kept.block _ (Array.getElem?_eq_some_iff.1 HU3.out).1 (by omega)).trans HU3.out)
      clear HU3
      clear hA hr hE4 HA3 HT3
      obtain ⟨c0, c1, c2, c3, c4, c5, f0, f1, f2, f3, f4, f5⟩ := row6 HS4.out rfl
      have hl := (Array.getElem?_eq_some_iff.1 HS4.out).1
      have HT4 : Hid ((w4.setCell ⟨xb, 3, none⟩ (Value.int .i64 a4)).heap[xb]? = some (Obj.cells #[Value.string ⟨a2.toArray⟩, Value.int .u8 ((a3 : Nat) : Int), Value.bool false, Value.int .i64 a4, Value.int .i64 0, Value.int .i64 0] 53 (0, 0))) := hide (heap_setCell_same _ xb 3 _ _ _ HS4.out)
      have HA4 := hide (AtJ.fresh HB4.out hpb (p := ⟨xb, 3, none⟩) (by show xb ≠ pb; omega) hgx (Value.int .i64 a4))
      have HU4' := hide ((Below.heap_setCell _ ⟨xb, 3, none⟩ (Value.int .i64 a4) rb (by show rb ≠ xb; omega)).trans HU4.out)
      clear HU4
      have HU4 := HU4'
      clear HU4'
      go_wp2_with fail
      clear hl c0 f0 c1 f1 c2 f2 c3 f3 c4 f4 c5 f5
      have hzz4 : (w4.setCell ⟨xb, 3, none⟩ (Value.int .i64 a4)).heap.size = w4.heap.size := by simp [World.setCell]
      clear HS4 HB4
      generalize (w4.setCell ⟨xb, 3, none⟩ (Value.int .i64 a4)) = V4 at *
      have HR4' := hide (HR4.out.trans (congrFun (if_neg HKD.out) _))
      clear HR4
      have HR4 := HR4'
      clear HR4'
      refine (after_any pb j4 ts ⟨#[100, 101, 112, 116, 104]⟩ _ (hide (H.out.to HA4.out)) hts' hj4 hg (by decide)).mono ?_
      rintro e w5 hE5
      rcases hE5.split with ⟨a5, j5, hr, hj5, hA, rfl⟩ | ⟨n, jn, hr, hjn, hA, rfl⟩
      rotate_left
      · have HX := hide (Ends.mk_bad (conv := portVal) (HR4.out.trans (bnd_bad hr)) hjn (HA4.out.trans hA))
        clear hA hr hE5
        go_wp2_with fail
        exact ⟨rfl, HX.out⟩
      have HB5 := hide (HA4.out.trans hA)
      have HR5 := hide (HR4.out.trans (bnd_ok hr))
      clear HR4
      have HS5 := hide ((hA.kept.block _ (Array.getElem?_eq_some_iff.1 HT4.out).1 (by omega)).trans HT4.out)
      have HU5 := hide ((hA.kept.block _ (Array.getElem?_eq_some_iff.1 HU4.out).1 (by omega)).trans HU4.out)
      clear HU4
      clear hA hr hE5 HA4 HT4
      obtain ⟨c0, c1, c2, c3, c4, c5, f0, f1, f2, f3, f4, f5⟩ := row6 HS5.out rfl
      have hl := (Array.getElem?_eq_some_iff.1 HS5.out).1
      have HT5 : Hid ((w5.setCell ⟨xb, 4, none⟩ (Value.int .i64 a5)).heap[xb]? = some (Obj.cells #[Value.string ⟨a2.toArray⟩, Value.int .u8 ((a3 : Nat) : Int), Value.bool false, Value.int .i64 a4, Value.int .i64 a5, Value.int .i64 0] 53 (0, 0))) := hide (heap_setCell_same _ xb 4 _ _ _ HS5.out)
      have HA5 := hide (AtJ.fresh HB5.out hpb (p := ⟨xb, 4, none⟩) (by show xb ≠ pb; omega) hgx (Value.int .i64 a5))
      have HU5' := hide ((Below.heap_setCell _ ⟨xb, 4, none⟩ (Value.int .i64 a5) rb (by show rb ≠ xb; omega)).trans HU5.out)
      clear HU5
      have HU5 := HU5'
      clear HU5'
      go_wp2_with fail
      clear hl c0 f0 c1 f1 c2 f2 c3 f3 c4 f4 c5 f5
      have hzz5 : (w5.setCell ⟨xb, 4, none⟩ (Value.int .i64 a5)).heap.size = w5.heap.size := by simp [World.setCell]
      clear HS5 HB5
      generalize (w5.setCell ⟨xb, 4, none⟩ (Value.int .i64 a5)) = V5 at *
      refine (must_new pb j5 _ ts ⟨#[59]⟩ _ (hide (H.out.to HA5.out)) hts' hj5 (by decide) (by first | rfl | exact hzz5.symm | simp [go_sem])).mono ?_
      rintro e w6 hE6
      rcases hE6.split with ⟨a6, j6, hr, hj6, hA, rfl⟩ | ⟨n, jn, hr, hjn, hA, rfl⟩
      rotate_left
      · have HX := hide (Ends.mk_bad (conv := portVal) (HR5.out.trans (bnd_bad hr)) hjn (HA5.out.trans hA))
        clear hA hr hE6
        go_wp2_with fail
        exact ⟨rfl, HX.out⟩
      have HB6 := hide (HA5.out.trans hA)
      have HR6 := hide (HR5.out.trans (bnd_ok hr))
      clear HR5
      have HS6 := hide ((hA.kept.block _ (Array.getElem?_eq_some_iff.1 HT5.out).1 (by omega)).trans HT5.out)
      have HU6 := hide ((hA.kept.block _ (Array.getElem?_eq_some_iff.1 HU5.out).1 (by omega)).trans HU5.out)
      clear HU5
      clear hA hr hE6 HA5 HT5
      have HT6 := hide HS6.out
      have HA6 := hide HB6.out
      clear HS6 HB6
      obtain ⟨c0, c1, c2, c3, c4, c5, f0, f1, f2, f3, f4, f5⟩ := row6 HT6.out rfl
      have hl := (Array.getElem?_eq_some_iff.1 HT6.out).1
      obtain ⟨d0, d1, d2, d3, d4, d5, g0, g1, g2, g3, g4, g5⟩ := row6 HU6.out rfl
      have hlr := (Array.getElem?_eq_some_iff.1 HU6.out).1
      go_wp2_with fail
      refine bodyPost_ret (v := portVal ⟨a2, a3, false, a4, a5, 0⟩) (by simp [results, Tryz.results163, go_sem, portVal, strV, d0, d1, d2, d3, d4, d5]) rfl ?_
      exact Ends.mk_ok (a := ⟨a2, a3, false, a4, a5, 0⟩) (HR6.out.trans rfl) hj6 (AtJ.fresh (AtJ.fresh (AtJ.fresh (AtJ.fresh (AtJ.fresh (AtJ.fresh HA6.out hpb (p := ⟨rb, 0, none⟩) (by show rb ≠ pb; omega) hgr _) hpb (p := ⟨rb, 1, none⟩) (by show rb ≠ pb; omega) hgr _) hpb (p := ⟨rb, 2, none⟩) (by show rb ≠ pb; omega) hgr _) hpb (p := ⟨rb, 3, none⟩) (by show rb ≠ pb; omega) hgr _) hpb (p := ⟨rb, 4, none⟩) (by show rb ≠ pb; omega) hgr _) hpb (p := ⟨rb, 5, none⟩) (by show rb ≠ pb; omega) hgr _) rfl
end Go.Proofs.YtlngbjphagnloaaGreatDoor
