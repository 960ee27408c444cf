/-
  Merged texts: format: the printing of the health rows and of the causes (printed by tools/mkph.py). | format: the printing of the causes (printed by tools/mkph.py).
-/
import Derived.Test.YtndpnpohdoggjaaGreatDoorPk18
import Derived.Test.YtndpnpohdoggjaaGreatDoorPk14
namespace Go.Proofs.YtndpnpohdoggjaaGreatDoor
open Go.RowKit
attribute [local go_sem] Later.cell
theorem anyif_info : (Tryz.prog.info? 20).map (fun i => (i.zero, i.size, i.bytes)) = some (some .nilIface, 1, 16) := by kernel_rfl
theorem reads_blk1 {w : World} {g m : Nat} {cs : Array Value} {t : TypeId} (h : w.heap[g]? = some (.cells cs t (0, 0))) (hs : cs.size = m) : Reads w w.heap.size 1 (some ⟨g, 0, none⟩) m cs.toList := by
  refine ⟨by simpa using hs, fun _ => ⟨_, rfl, (Array.getElem?_eq_some_iff.1 h).1, fun j u hu => ?_⟩⟩
  have e : (⟨g, 0, none⟩ : Addr).add j = ⟨g, j, none⟩ := by
    unfold Addr.add
    split
    · rename_i hj; rw [hj]
    · simp
  rw [e]
  exact (cell_of_row w g j _ _ _ h).trans (by simpa using hu)
theorem any_own {B b base n : Nat} {k8 : C8} {L : List UInt8} {w : World} {v : Value} {l : List Arg} (h : w.ownsRow base 20 1 v n (l.map Arg.val)) (hp : PrAt B b k8 L w) : DAt w (fun g => g ≠ b ∧ Oth w g) v (.row 1 (anyRows l)) := by
  have hl : (anyRows l).length = n := by
    have := h.1
    simp at this
    simp [anyRows, this]
  have hf : (anyRows l).flatten = (l.map Arg.val).map Dat.leaf := flat_one Arg.val l
  refine (own_dat (G := fun _ => False) hl (fun e he => ?_) h (by rw [hf]; exact dcells_leaves _)).mono (fun g hg _ => ?_)
  · unfold anyRows at he
    obtain ⟨s, _, rfl⟩ := List.mem_map.1 he
    rfl
  · rcases hg with hg | hg
    · exact hg.elim
    · rcases h.2 with ⟨rfl, _⟩ | ⟨g', cap, cur, rfl, _, hh, _⟩
      · cases hg
      · injection hg with hg
        have hg2 : g' = g := hg
        subst hg2
        refine ⟨fun e => ?_, cur, _, _, hh, by decide⟩
        subst e
        obtain ⟨p, v, hr⟩ := hp.row
        rw [hh] at hr
        injection hr with hr
        injection hr with _ ht
        exact absurd ht (by decide)
theorem ok_app {l m : List Arg} (h : ∀ a ∈ l, a.ok) (k : ∀ a ∈ m, a.ok) : ∀ a ∈ l ++ m, a.ok := fun a ha => (List.mem_append.1 ha).elim (h a) (k a)
set_option maxRecDepth 100000 in
set_option maxHeartbeats 4000000 in
theorem p_health (B b : Nat) (k8 : C8) (L : List UInt8) (l : List HealthD) (W : World) (h : Hid (PrAt B b k8 L W)) (hv : Hid (DAt W (fun g => g < B) k8.c5 (.row 5 (l.map HealthD.cells)))) (hF : Hid (l.all healthF = true)) (hlen : L.length + (catT healthT l).length ≤ 1000000) (hnl : l.length ≤ 140737488355328) (hBw : B ≤ W.heap.size) (hGB : 6 ≤ B) (hE : Hid (Env W)) (hGP : 3 ≤ B) (hP : Hid (EnvP W)) (hfit : ∀ y ∈ l, HealthFit y) :
    Calls Tryz.prog 41 #[.pointer (some ⟨b, 0, none⟩)] W fun e w' => e = .returned (.tuple #[]) ∧ PrAt B b k8 (L ++ catT healthT l) w' ∧ Below B W w' ∧ PrK b W w' := by
  obtain ⟨A, c, ek, hA⟩ := hv.out.sliceG
  have HA := hide hA
  rw [List.length_map] at ek
  clear hA hv
  have cb : W.cell? ⟨b, 7, none⟩ = some (.slice A l.length c) := (h.out.cell 5 (by decide)).trans (congrArg some ek)
  clear ek
  have HL := hide hlen
  clear hlen
  go_enter Tryz.func41, Tryz.ntmps41
  go_wp2_with fail
  clear cb
  go_loopw [11] (fun v wr => ∃ k : Nat, k ≤ l.length ∧ v = .int .i64 k ∧ PrAt B b k8 (L ++ catT healthT (l.take k)) wr ∧ Below B W wr ∧ PrK b W wr) (fun v _ => l.length - (intOf v).toNat)
  case atStart => exact ⟨0, by omega, rfl, by rw [catT_zero, List.append_nil]; exact h.out, Below.refl _ _, PrK.refl _ _⟩
  case round =>
    obtain ⟨k, hk, rfl, hp, hbr, hkr⟩ := hrel
    have HP := hide hp
    have HBR := hide hbr
    have HKR := hide hkr
    clear hp hbr hkr h
    by_cases hlt : k < l.length
    rotate_left
    · obtain rfl : k = l.length := by omega
      rw [List.take_length] at HP
      clear hlt
      go_wp2_with fail
      go_end0
      exact ⟨rfl, HP.out, HBR.out, HKR.out⟩
    obtain ⟨x, hx⟩ : ∃ x, l[k]? = some x := ⟨_, List.getElem?_eq_getElem hlt⟩
    obtain ⟨g, off, rfl, hG, hg, hca⟩ := (HA.out.keep HBR.out).at_ hx
    obtain ⟨u0, c0, g0⟩ := hca 0 _ rfl
    obtain rfl := g0.leaf_eq
    obtain ⟨u1, c1, g1⟩ := hca 1 _ rfl
    obtain rfl := g1.leaf_eq
    obtain ⟨u2, c2, g2⟩ := hca 2 _ rfl
    obtain rfl := g2.leaf_eq
    obtain ⟨u3, c3, g3⟩ := hca 3 _ rfl
    obtain rfl := g3.leaf_eq
    obtain ⟨u4, c4, g4⟩ := hca 4 _ rfl
    obtain rfl := g4.leaf_eq
    clear hca g0 g1 g2 g3 g4
    simp only [strV] at c0 c1 c2 c3 c4
    rw [Nat.add_zero] at c0
    have k0 : (0 : Int) ≤ (k : Int) ∧ (k : Int) < ((l.length : Nat) : Int) := by omega
    have HFx := hide (List.all_eq_true.1 hF.out x (List.mem_of_getElem? hx))
    have HX := hide hx
    have hroom := catT_room (f := healthT) hx
    have hL := HL.out
    clear hx
    have HXb := hide (heap_alloc_new wr (.cells #[.string ⟨x.module.toArray⟩, .string ⟨x.part.toArray⟩, .int .u8 (x.fault : Int), .int .u8 (x.level : Int), .int .u8 (x.do_ : Int)] 104))
    have HBA := hide ((Below.refl wr.heap.size wr).alloc (Nat.le_refl _) (.cells #[.string ⟨x.module.toArray⟩, .string ⟨x.part.toArray⟩, .int .u8 (x.fault : Int), .int .u8 (x.level : Int), .int .u8 (x.do_ : Int)] 104))
    have hxl : wr.heap.size < (wr.alloc (.cells #[.string ⟨x.module.toArray⟩, .string ⟨x.part.toArray⟩, .int .u8 (x.fault : Int), .int .u8 (x.level : Int), .int .u8 (x.do_ : Int)] 104)).heap.size := by simp
    have hft := hfit x (List.mem_of_getElem? HX.out)
    go_wp2_with fail
    clear c0 c1 c2 c3 c4
    generalize wr.alloc (.cells #[.string ⟨x.module.toArray⟩, .string ⟨x.part.toArray⟩, .int .u8 (x.fault : Int), .int .u8 (x.level : Int), .int .u8 (x.do_ : Int)] 104) = w0 at *
    have HP0 := hide (HP.out.later HBA.out)
    have HKR0 := hide (HKR.out.trans (.later HBA.out))
    have hBr : B ≤ wr.heap.size := Nat.le_trans hBw HBR.out.size
    have HBR0 := hide (HBR.out.trans (HBA.out.mono hBr))
    have hB0 : B ≤ w0.heap.size := Nat.le_trans hBw HBR0.out.size
    have x0 := cell_of_row _ _ 0 _ _ _ HXb.out
    have x1 := cell_of_row _ _ 1 _ _ _ HXb.out
    have x2 := cell_of_row _ _ 2 _ _ _ HXb.out
    have x3 := cell_of_row _ _ 3 _ _ _ HXb.out
    have x4 := cell_of_row _ _ 4 _ _ _ HXb.out
    have HC := hide (fault_any x.fault w0 (hP.out.keptB HBR0.out hGP) hft.1)
    refine HC.out.mono ?_
    rintro e w1 ⟨rfl, hb⟩
    have HS1 := hide hb
    clear hb HC
    obtain ⟨i0, hi0, hz0, hz1, hz2⟩ := info_parts anyif_info
    have c0 := (HS1.out.cell (p := ⟨wr.heap.size, 0, none⟩) hxl).trans x0
    have c1 := (HS1.out.cell (p := ⟨wr.heap.size, 1, none⟩) hxl).trans x1
    have hz1w := HS1.out.size
    have hA0 : healthA x = [.s [111, 110], .s (wordN faultWords x.fault)] ++ (if x.module = [] then [] else [.s [109, 111, 100, 117, 108, 101], .s x.module]) ++ (if x.part = [] then [] else [.s [112, 97, 114, 116], .s x.part]) ++ [.s [108, 101, 118, 101, 108], .s (wordN levelWords x.level), .s [100, 111], .s (wordN actionWords x.do_)] := rfl
    have HA0 := hide hA0
    clear hA0
    have HO := hide (World.ownsRow_lit (base := w0.heap.size) (e := 20) (size := 1) w1 #[.iface 9 (.string ⟨([111, 110] : List UInt8).toArray⟩), .iface 9 (.string ⟨(wordN faultWords x.fault).toArray⟩)] 2 hz1w (by unfold maxLen; omega) rfl)
    have HS2 := hide (HS1.out.alloc HS1.out.size (.cells #[.iface 9 (.string ⟨([111, 110] : List UInt8).toArray⟩), .iface 9 (.string ⟨(wordN faultWords x.fault).toArray⟩)] 20))
    have HS := HS2
    clear HS2 HS1
    have c0 := (HS.out.cell (p := ⟨wr.heap.size, 0, none⟩) hxl).trans x0
    have c1 := (HS.out.cell (p := ⟨wr.heap.size, 1, none⟩) hxl).trans x1
    go_upto_region 4 with fail
    generalize w1.alloc (.cells #[.iface 9 (.string ⟨([111, 110] : List UInt8).toArray⟩), .iface 9 (.string ⟨(wordN faultWords x.fault).toArray⟩)] 20) = wa at *
    rcases const_ne x.module with ⟨em, hm⟩ | ⟨em, hm⟩
    · have hmo : x.module = [] := by simpa using hm
      rw [em] at x0 c0
      clear em hm
      rcases const_ne x.part with ⟨ep, hp⟩ | ⟨ep, hp⟩
      · have hpa : x.part = [] := by simpa using hp
        rw [ep] at x1 c1
        clear ep hp
        have HMO := hide hmo
        have HPA := hide hpa
        clear hmo hpa
        go_wp2_with fail
        refine wp_region_tail (S := fun w' => Below w0.heap.size w0 w') 16 (by kernel_rfl) (by kernel_rfl) HS.out.drew (fun hHeld => ?_)
        replace HO := hide (show World.ownsRow (World.drew _) _ _ _ _ _ _ from HO.out)
        clear HS
        generalize World.drew _ = U at *
        refine tk 0 41 rfl (by kernel_rfl) (fun _ _ _ h => h) rfl (fun _ _ => by go_simp; with_reducible rfl) hHeld ?_
        (try simp only [Act.put, putA, putB, putC])
        refine tk 1 42 rfl (by kernel_rfl) (fun _ _ _ h => h) rfl (fun _ _ => by go_simp; with_reducible rfl) hHeld ?_
        (try simp only [Act.put, putA, putB, putC])
        refine tk 2 43 rfl (by kernel_rfl) (fun _ _ _ h => h) rfl (fun _ _ => by go_simp; with_reducible rfl) hHeld ?_
        (try simp only [Act.put, putA, putB, putC])
        refine tk 3 44 rfl (by kernel_rfl) (fun _ _ _ h => h) rfl (fun _ _ => by go_simp; with_reducible rfl) hHeld ?_
        (try simp only [Act.put, putA, putB, putC])
        refine tk 4 45 rfl (by kernel_rfl) (fun _ _ _ h => h) rfl (fun _ _ => by go_simp; with_reducible rfl) hHeld ?_
        (try simp only [Act.put, putA, putB, putC])
        refine tk 5 46 rfl (by kernel_rfl) (fun _ _ _ h => h) rfl (fun _ _ => by go_simp; with_reducible rfl) hHeld ?_
        (try simp only [Act.put, putA, putB, putC])
        refine wpAnyT_take (i := 6) (oi := ⟨some 47, _, _, _, _, _⟩) (v := ?_) rfl (by kernel_rfl) (fun _ _ _ h => h) (Or.inl ⟨by rfl, ?_⟩) hHeld ?_
        rotate_left
        · intro v hS
          have e0 := (hS.cell (p := ⟨wr.heap.size, 3, none⟩) hxl).trans x3
          go_simp
          with_reducible rfl
        (try simp only [Act.put, putA, putB, putC])
        refine tk 9 50 rfl (by kernel_rfl) (fun _ _ _ h => h) rfl (fun _ _ => by go_simp; with_reducible rfl) hHeld ?_
        (try simp only [Act.put, putA, putB, putC])
        refine tk 10 51 rfl (by kernel_rfl) (fun _ _ _ h => h) rfl (fun _ _ => by go_simp; with_reducible rfl) hHeld ?_
        (try simp only [Act.put, putA, putB, putC])
        refine wpAnyT_take (i := 11) (oi := ⟨some 52, _, _, _, _, _⟩) (v := ?_) rfl (by kernel_rfl) (fun _ _ _ h => h) (Or.inl ⟨by rfl, ?_⟩) hHeld ?_
        rotate_left
        · intro v hS
          have e0 := (hS.cell (p := ⟨wr.heap.size, 4, none⟩) hxl).trans x4
          go_simp
          with_reducible rfl
        (try simp only [Act.put, putA, putB, putC])
        refine wpAnyT_ready (rs := [7]) (by kernel_rfl) (by simp) (by rfl) (AllT.cons rfl (fun K hK => ?_) AllT.nil)
        go_simp
        have HI := hide (level_any x.level U (hP.out.keptB (HBR0.out.trans (hHeld.mono hB0)) hGP) hft.2.1)
        refine HI.out.mono ?_
        rintro e Ua ⟨rfl, hb⟩
        replace HO := hide (own_keep HO.out (fun g hg hbg => hb.block g (own_lt HO.out hg).2))
        have hSUa := hHeld.trans (hb.mono hHeld.size)
        clear hb HI hHeld
        go_wp2_with fail
        refine hK.out _ _ hSUa (fun hHeld => ?_)
        clear hK K hSUa
        (try simp only [Act.put, putA, putB, putC])
        refine tk 8 49 rfl (by kernel_rfl) (fun _ _ _ h => h) rfl (fun _ _ => by go_simp; with_reducible rfl) hHeld ?_
        (try simp only [Act.put, putA, putB, putC])
        refine wpAnyT_ready (rs := [12]) (by kernel_rfl) (by simp) (by rfl) (AllT.cons rfl (fun K hK => ?_) AllT.nil)
        go_simp
        have HI := hide (action_any x.do_ Ua (hP.out.keptB (HBR0.out.trans (hHeld.mono hB0)) hGP) hft.2.2)
        refine HI.out.mono ?_
        rintro e Uaa ⟨rfl, hb⟩
        replace HO := hide (own_keep HO.out (fun g hg hbg => hb.block g (own_lt HO.out hg).2))
        have hSUaa := hHeld.trans (hb.mono hHeld.size)
        clear hb HI hHeld
        go_wp2_with fail
        refine hK.out _ _ hSUaa (fun hHeld => ?_)
        clear hK K hSUaa
        (try simp only [Act.put, putA, putB, putC])
        refine tk 13 54 rfl (by kernel_rfl) (fun _ _ _ h => h) rfl (fun _ _ => by go_simp; with_reducible rfl) hHeld ?_
        (try simp only [Act.put, putA, putB, putC])
        refine wpAnyT_ready (rs := [14]) (by kernel_rfl) (by simp) (by rfl) (AllT.cons rfl (fun K hK => ?_) AllT.nil)
        go_simp
        have XN := hide (heap_alloc_new Uaa (.cells #[.iface 9 (.string ⟨([108, 101, 118, 101, 108] : List UInt8).toArray⟩), .iface 9 (.string ⟨(wordN levelWords x.level : List UInt8).toArray⟩), .iface 9 (.string ⟨([100, 111] : List UInt8).toArray⟩), .iface 9 (.string ⟨(wordN actionWords x.do_ : List UInt8).toArray⟩)] 20))
        have HOa := hide (HO.out.alloc (.cells #[.iface 9 (.string ⟨([108, 101, 118, 101, 108] : List UInt8).toArray⟩), .iface 9 (.string ⟨(wordN levelWords x.level : List UInt8).toArray⟩), .iface 9 (.string ⟨([100, 111] : List UInt8).toArray⟩), .iface 9 (.string ⟨(wordN actionWords x.do_ : List UInt8).toArray⟩)] 20))
        have hzU := hHeld.size
        refine hK.out _ _ (hHeld.alloc hHeld.size _) (fun hHeld1 => ?_)
        clear hK K hHeld HO
        (try simp only [Act.put, putA, putB, putC])
        refine wpAnyT_ready (rs := [15]) (by kernel_rfl) (by simp) (by rfl) (AllT.cons rfl (fun K hK => ?_) AllT.nil)
        refine step_append_any _ rfl (.tmp 44) (.tmp 55) 194 rfl w0.heap.size 20 i0 _ 1 16 Tryz.underlying194 hi0 hz0 hz1 hz2 rfl (by decide) _ 2 _ rfl HOa.out _ (some ⟨Uaa.heap.size, 0, none⟩) 4 4 [.iface 9 (.string ⟨([108, 101, 118, 101, 108] : List UInt8).toArray⟩), .iface 9 (.string ⟨(wordN levelWords x.level : List UInt8).toArray⟩), .iface 9 (.string ⟨([100, 111] : List UInt8).toArray⟩), .iface 9 (.string ⟨(wordN actionWords x.do_ : List UInt8).toArray⟩)] rfl (reads_blk1 XN.out rfl) (by simp [Value.oneCell']) (by unfold maxLen; omega) (by omega) (by simp; omega) ?_
        intro v5 wz hown5 hg5 hat5
        have hSz := Below.grown hHeld1 hg5 hHeld1.size (fun g e => (own_lt HOa.out e).1)
        have HOz := hide (show wz.ownsRow w0.heap.size 20 1 v5 6 ((([.s [111, 110], .s (wordN faultWords x.fault)] : List Arg) ++ [.s ([108, 101, 118, 101, 108]), .s (wordN levelWords x.level), .s ([100, 111]), .s (wordN actionWords x.do_)] : List Arg).map Arg.val) from hown5)
        clear hown5 hg5 hat5 XN HOa hHeld1
        refine hK.out _ _ hSz (fun hHeld1 => ?_)
        clear hK K hSz
        (try simp only [Act.put, putA])
        refine wpAnyT_done (by kernel_rfl) ?_
        simp only [List.drop_succ_cons, List.drop_zero]
        have HBl := hide (HBR0.out.trans (hHeld1.mono hB0))
        have HKl := hide (HKR0.out.trans (.later hHeld1))
        have HPz := hide (HP0.out.later hHeld1)
        have HC := hide (ln_any B b k8 _ 0 [59] _ (([.s [111, 110], .s (wordN faultWords x.fault)] : List Arg) ++ [.s ([108, 101, 118, 101, 108]), .s (wordN levelWords x.level), .s ([100, 111]), .s (wordN actionWords x.do_)] : List Arg) _ HPz (hide (any_own HOz.out HPz.out)) (hide (ok_app (ok_s (ok_s ok_nil)) (ok_s (ok_s (ok_s (ok_s ok_nil)))))) (by simp) (by omega) (by simp) (by rw [List.length_append]; rw [healthT, lnT_len, HA0.out] at hroom; simp only [List.cons_append, List.nil_append, HMO.out, HPA.out, if_true] at hroom ⊢; omega) (Nat.le_trans hB0 hHeld1.size) hGB (hide (hE.out.keptB HBl.out hGB)))
        clear hHeld1 HOz HPz
        go_wp2_with fail
        refine HC.out.mono ?_
        rintro e w9 ⟨rfl, h1, h2, h3⟩
        have HP9 := hide h1
        have HB9 := hide (HBl.out.trans h2)
        have HK9 := hide (HKl.out.trans h3)
        clear h1 h2 h3 HC
        go_wp2_with fail
        go_roundw
        case rel => exact ⟨k + 1, by omega, by go_num, by rw [catT_step HX.out, ← List.append_assoc, healthT, HA0.out]; simp only [List.append_assoc, List.cons_append, List.nil_append, HMO.out, HPA.out, if_true]; simpa only [List.append_assoc, List.cons_append, List.nil_append] using HP9.out, HB9.out, HK9.out⟩
        case measure => simp [intOf]; omega
      · have hpa : ¬ x.part = [] := by simpa using hp
        have hie1 : x.part.isEmpty = false := by rw [List.isEmpty_eq_false_iff]; exact hpa
        go_wp2_with (at_builtin; apply Hid.out)
        refine hide ?_
        refine wpList_append_own _ rfl _ _ 194 rfl w0.heap.size 20 i0 _ 1 16 Tryz.underlying194 hi0 hz0 hz1 hz2 rfl (by decide) _ 2 _ rfl (HO.out.alloc _) ⟨wa.heap.size, 0, none⟩ 2 2 [.iface 9 (.string ⟨([112, 97, 114, 116] : List UInt8).toArray⟩), .iface 9 (.string ⟨x.part.toArray⟩)] rfl rfl (news_of (by simp)) (by simp [Value.oneCell']) (by unfold maxLen; omega) (by omega) (by simp; have := HS.out.size; omega) ?_
        intro v5 wc hown5 hg5 _
        have hSz := Below.grown (HS.out.alloc HS.out.size _) hg5 (HS.out.alloc HS.out.size _).size (fun g e => (own_lt HO.out e).1)
        have HOz := hide (show wc.ownsRow w0.heap.size 20 1 v5 4 (([.s [111, 110], .s (wordN faultWords x.fault)] ++ [.s [112, 97, 114, 116], .s x.part] : List Arg).map Arg.val) from hown5)
        clear hown5 hg5 HO HS
        have HO := HOz
        have HS := hide hSz
        clear HOz hSz
        have c0 := (HS.out.cell (p := ⟨wr.heap.size, 0, none⟩) hxl).trans x0
        have c1 := (HS.out.cell (p := ⟨wr.heap.size, 1, none⟩) hxl).trans x1
        have HMO := hide hmo
        have HPA := hide hpa
        clear hmo hpa
        go_wp2_with fail
        refine wp_region_tail (S := fun w' => Below w0.heap.size w0 w') 16 (by kernel_rfl) (by kernel_rfl) HS.out.drew (fun hHeld => ?_)
        replace HO := hide (show World.ownsRow (World.drew _) _ _ _ _ _ _ from HO.out)
        clear HS
        generalize World.drew _ = U at *
        refine tk 0 41 rfl (by kernel_rfl) (fun _ _ _ h => h) rfl (fun _ _ => by go_simp; with_reducible rfl) hHeld ?_
        (try simp only [Act.put, putA, putB, putC])
        refine tk 1 42 rfl (by kernel_rfl) (fun _ _ _ h => h) rfl (fun _ _ => by go_simp; with_reducible rfl) hHeld ?_
        (try simp only [Act.put, putA, putB, putC])
        refine tk 2 43 rfl (by kernel_rfl) (fun _ _ _ h => h) rfl (fun _ _ => by go_simp; with_reducible rfl) hHeld ?_
        (try simp only [Act.put, putA, putB, putC])
        refine tk 3 44 rfl (by kernel_rfl) (fun _ _ _ h => h) rfl (fun _ _ => by go_simp; with_reducible rfl) hHeld ?_
        (try simp only [Act.put, putA, putB, putC])
        refine tk 4 45 rfl (by kernel_rfl) (fun _ _ _ h => h) rfl (fun _ _ => by go_simp; with_reducible rfl) hHeld ?_
        (try simp only [Act.put, putA, putB, putC])
        refine tk 5 46 rfl (by kernel_rfl) (fun _ _ _ h => h) rfl (fun _ _ => by go_simp; with_reducible rfl) hHeld ?_
        (try simp only [Act.put, putA, putB, putC])
        refine wpAnyT_take (i := 6) (oi := ⟨some 47, _, _, _, _, _⟩) (v := ?_) rfl (by kernel_rfl) (fun _ _ _ h => h) (Or.inl ⟨by rfl, ?_⟩) hHeld ?_
        rotate_left
        · intro v hS
          have e0 := (hS.cell (p := ⟨wr.heap.size, 3, none⟩) hxl).trans x3
          go_simp
          with_reducible rfl
        (try simp only [Act.put, putA, putB, putC])
        refine tk 9 50 rfl (by kernel_rfl) (fun _ _ _ h => h) rfl (fun _ _ => by go_simp; with_reducible rfl) hHeld ?_
        (try simp only [Act.put, putA, putB, putC])
        refine tk 10 51 rfl (by kernel_rfl) (fun _ _ _ h => h) rfl (fun _ _ => by go_simp; with_reducible rfl) hHeld ?_
        (try simp only [Act.put, putA, putB, putC])
        refine wpAnyT_take (i := 11) (oi := ⟨some 52, _, _, _, _, _⟩) (v := ?_) rfl (by kernel_rfl) (fun _ _ _ h => h) (Or.inl ⟨by rfl, ?_⟩) hHeld ?_
        rotate_left
        · intro v hS
          have e0 := (hS.cell (p := ⟨wr.heap.size, 4, none⟩) hxl).trans x4
          go_simp
          with_reducible rfl
        (try simp only [Act.put, putA, putB, putC])
        refine wpAnyT_ready (rs := [7]) (by kernel_rfl) (by simp) (by rfl) (AllT.cons rfl (fun K hK => ?_) AllT.nil)
        go_simp
        have HI := hide (level_any x.level U (hP.out.keptB (HBR0.out.trans (hHeld.mono hB0)) hGP) hft.2.1)
        refine HI.out.mono ?_
        rintro e Ua ⟨rfl, hb⟩
        replace HO := hide (own_keep HO.out (fun g hg hbg => hb.block g (own_lt HO.out hg).2))
        have hSUa := hHeld.trans (hb.mono hHeld.size)
        clear hb HI hHeld
        go_wp2_with fail
        refine hK.out _ _ hSUa (fun hHeld => ?_)
        clear hK K hSUa
        (try simp only [Act.put, putA, putB, putC])
        refine tk 8 49 rfl (by kernel_rfl) (fun _ _ _ h => h) rfl (fun _ _ => by go_simp; with_reducible rfl) hHeld ?_
        (try simp only [Act.put, putA, putB, putC])
        refine wpAnyT_ready (rs := [12]) (by kernel_rfl) (by simp) (by rfl) (AllT.cons rfl (fun K hK => ?_) AllT.nil)
        go_simp
        have HI := hide (action_any x.do_ Ua (hP.out.keptB (HBR0.out.trans (hHeld.mono hB0)) hGP) hft.2.2)
        refine HI.out.mono ?_
        rintro e Uaa ⟨rfl, hb⟩
        replace HO := hide (own_keep HO.out (fun g hg hbg => hb.block g (own_lt HO.out hg).2))
        have hSUaa := hHeld.trans (hb.mono hHeld.size)
        clear hb HI hHeld
        go_wp2_with fail
        refine hK.out _ _ hSUaa (fun hHeld => ?_)
        clear hK K hSUaa
        (try simp only [Act.put, putA, putB, putC])
        refine tk 13 54 rfl (by kernel_rfl) (fun _ _ _ h => h) rfl (fun _ _ => by go_simp; with_reducible rfl) hHeld ?_
        (try simp only [Act.put, putA, putB, putC])
        refine wpAnyT_ready (rs := [14]) (by kernel_rfl) (by simp) (by rfl) (AllT.cons rfl (fun K hK => ?_) AllT.nil)
        go_simp
        have XN := hide (heap_alloc_new Uaa (.cells #[.iface 9 (.string ⟨([108, 101, 118, 101, 108] : List UInt8).toArray⟩), .iface 9 (.string ⟨(wordN levelWords x.level : List UInt8).toArray⟩), .iface 9 (.string ⟨([100, 111] : List UInt8).toArray⟩), .iface 9 (.string ⟨(wordN actionWords x.do_ : List UInt8).toArray⟩)] 20))
        have HOa := hide (HO.out.alloc (.cells #[.iface 9 (.string ⟨([108, 101, 118, 101, 108] : List UInt8).toArray⟩), .iface 9 (.string ⟨(wordN levelWords x.level : List UInt8).toArray⟩), .iface 9 (.string ⟨([100, 111] : List UInt8).toArray⟩), .iface 9 (.string ⟨(wordN actionWords x.do_ : List UInt8).toArray⟩)] 20))
        have hzU := hHeld.size
        refine hK.out _ _ (hHeld.alloc hHeld.size _) (fun hHeld1 => ?_)
        clear hK K hHeld HO
        (try simp only [Act.put, putA, putB, putC])
        refine wpAnyT_ready (rs := [15]) (by kernel_rfl) (by simp) (by rfl) (AllT.cons rfl (fun K hK => ?_) AllT.nil)
        refine step_append_any _ rfl (.tmp 44) (.tmp 55) 194 rfl w0.heap.size 20 i0 _ 1 16 Tryz.underlying194 hi0 hz0 hz1 hz2 rfl (by decide) _ 4 _ rfl HOa.out _ (some ⟨Uaa.heap.size, 0, none⟩) 4 4 [.iface 9 (.string ⟨([108, 101, 118, 101, 108] : List UInt8).toArray⟩), .iface 9 (.string ⟨(wordN levelWords x.level : List UInt8).toArray⟩), .iface 9 (.string ⟨([100, 111] : List UInt8).toArray⟩), .iface 9 (.string ⟨(wordN actionWords x.do_ : List UInt8).toArray⟩)] rfl (reads_blk1 XN.out rfl) (by simp [Value.oneCell']) (by unfold maxLen; omega) (by omega) (by simp; omega) ?_
        intro v5 wz hown5 hg5 hat5
        have hSz := Below.grown hHeld1 hg5 hHeld1.size (fun g e => (own_lt HOa.out e).1)
        have HOz := hide (show wz.ownsRow w0.heap.size 20 1 v5 8 ((([.s [111, 110], .s (wordN faultWords x.fault)] ++ [.s [112, 97, 114, 116], .s x.part] : List Arg) ++ [.s ([108, 101, 118, 101, 108]), .s (wordN levelWords x.level), .s ([100, 111]), .s (wordN actionWords x.do_)] : List Arg).map Arg.val) from hown5)
        clear hown5 hg5 hat5 XN HOa hHeld1
        refine hK.out _ _ hSz (fun hHeld1 => ?_)
        clear hK K hSz
        (try simp only [Act.put, putA])
        refine wpAnyT_done (by kernel_rfl) ?_
        simp only [List.drop_succ_cons, List.drop_zero]
        have HBl := hide (HBR0.out.trans (hHeld1.mono hB0))
        have HKl := hide (HKR0.out.trans (.later hHeld1))
        have HPz := hide (HP0.out.later hHeld1)
        have HC := hide (ln_any B b k8 _ 0 [59] _ (([.s [111, 110], .s (wordN faultWords x.fault)] ++ [.s [112, 97, 114, 116], .s x.part] : List Arg) ++ [.s ([108, 101, 118, 101, 108]), .s (wordN levelWords x.level), .s ([100, 111]), .s (wordN actionWords x.do_)] : List Arg) _ HPz (hide (any_own HOz.out HPz.out)) (hide (ok_app (ok_s (ok_s (ok_s (ok_s ok_nil)))) (ok_s (ok_s (ok_s (ok_s ok_nil)))))) (by simp) (by omega) (by simp) (by rw [List.length_append]; rw [healthT, lnT_len, HA0.out] at hroom; simp only [List.cons_append, List.nil_append, HMO.out, HPA.out, if_true, if_false] at hroom ⊢; omega) (Nat.le_trans hB0 hHeld1.size) hGB (hide (hE.out.keptB HBl.out hGB)))
        clear hHeld1 HOz HPz
        go_wp2_with fail
        refine HC.out.mono ?_
        rintro e w9 ⟨rfl, h1, h2, h3⟩
        have HP9 := hide h1
        have HB9 := hide (HBl.out.trans h2)
        have HK9 := hide (HKl.out.trans h3)
        clear h1 h2 h3 HC
        go_wp2_with fail
        go_roundw
        case rel => exact ⟨k + 1, by omega, by go_num, by rw [catT_step HX.out, ← List.append_assoc, healthT, HA0.out]; simp only [List.append_assoc, List.cons_append, List.nil_append, HMO.out, HPA.out, if_true, if_false]; simpa only [List.append_assoc, List.cons_append, List.nil_append] using HP9.out, HB9.out, HK9.out⟩
        case measure => simp [intOf]; omega
    · have hmo : ¬ x.module = [] := by simpa using hm
      have hie0 : x.module.isEmpty = false := by rw [List.isEmpty_eq_false_iff]; exact hmo
      rcases const_ne x.part with ⟨ep, hp⟩ | ⟨ep, hp⟩
      · have hpa : x.part = [] := by simpa using hp
        rw [ep] at x1 c1
        clear ep hp
        go_wp2_with (at_builtin; apply Hid.out)
        refine hide ?_
        refine wpList_append_own _ rfl _ _ 194 rfl w0.heap.size 20 i0 _ 1 16 Tryz.underlying194 hi0 hz0 hz1 hz2 rfl (by decide) _ 2 _ rfl (HO.out.alloc _) ⟨wa.heap.size, 0, none⟩ 2 2 [.iface 9 (.string ⟨([109, 111, 100, 117, 108, 101] : List UInt8).toArray⟩), .iface 9 (.string ⟨x.module.toArray⟩)] rfl rfl (news_of (by simp)) (by simp [Value.oneCell']) (by unfold maxLen; omega) (by omega) (by simp; have := HS.out.size; omega) ?_
        intro v5 wb hown5 hg5 _
        have hSz := Below.grown (HS.out.alloc HS.out.size _) hg5 (HS.out.alloc HS.out.size _).size (fun g e => (own_lt HO.out e).1)
        have HOz := hide (show wb.ownsRow w0.heap.size 20 1 v5 4 (([.s [111, 110], .s (wordN faultWords x.fault)] ++ [.s [109, 111, 100, 117, 108, 101], .s x.module] : List Arg).map Arg.val) from hown5)
        clear hown5 hg5 HO HS
        have HO := HOz
        have HS := hide hSz
        clear HOz hSz
        have c0 := (HS.out.cell (p := ⟨wr.heap.size, 0, none⟩) hxl).trans x0
        have c1 := (HS.out.cell (p := ⟨wr.heap.size, 1, none⟩) hxl).trans x1
        have HMO := hide hmo
        have HPA := hide hpa
        clear hmo hpa
        go_wp2_with fail
        refine wp_region_tail (S := fun w' => Below w0.heap.size w0 w') 16 (by kernel_rfl) (by kernel_rfl) HS.out.drew (fun hHeld => ?_)
        replace HO := hide (show World.ownsRow (World.drew _) _ _ _ _ _ _ from HO.out)
        clear HS
        generalize World.drew _ = U at *
        refine tk 0 41 rfl (by kernel_rfl) (fun _ _ _ h => h) rfl (fun _ _ => by go_simp; with_reducible rfl) hHeld ?_
        (try simp only [Act.put, putA, putB, putC])
        refine tk 1 42 rfl (by kernel_rfl) (fun _ _ _ h => h) rfl (fun _ _ => by go_simp; with_reducible rfl) hHeld ?_
        (try simp only [Act.put, putA, putB, putC])
        refine tk 2 43 rfl (by kernel_rfl) (fun _ _ _ h => h) rfl (fun _ _ => by go_simp; with_reducible rfl) hHeld ?_
        (try simp only [Act.put, putA, putB, putC])
        refine tk 3 44 rfl (by kernel_rfl) (fun _ _ _ h => h) rfl (fun _ _ => by go_simp; with_reducible rfl) hHeld ?_
        (try simp only [Act.put, putA, putB, putC])
        refine tk 4 45 rfl (by kernel_rfl) (fun _ _ _ h => h) rfl (fun _ _ => by go_simp; with_reducible rfl) hHeld ?_
        (try simp only [Act.put, putA, putB, putC])
        refine tk 5 46 rfl (by kernel_rfl) (fun _ _ _ h => h) rfl (fun _ _ => by go_simp; with_reducible rfl) hHeld ?_
        (try simp only [Act.put, putA, putB, putC])
        refine wpAnyT_take (i := 6) (oi := ⟨some 47, _, _, _, _, _⟩) (v := ?_) rfl (by kernel_rfl) (fun _ _ _ h => h) (Or.inl ⟨by rfl, ?_⟩) hHeld ?_
        rotate_left
        · intro v hS
          have e0 := (hS.cell (p := ⟨wr.heap.size, 3, none⟩) hxl).trans x3
          go_simp
          with_reducible rfl
        (try simp only [Act.put, putA, putB, putC])
        refine tk 9 50 rfl (by kernel_rfl) (fun _ _ _ h => h) rfl (fun _ _ => by go_simp; with_reducible rfl) hHeld ?_
        (try simp only [Act.put, putA, putB, putC])
        refine tk 10 51 rfl (by kernel_rfl) (fun _ _ _ h => h) rfl (fun _ _ => by go_simp; with_reducible rfl) hHeld ?_
        (try simp only [Act.put, putA, putB, putC])
        refine wpAnyT_take (i := 11) (oi := ⟨some 52, _, _, _, _, _⟩) (v := ?_) rfl (by kernel_rfl) (fun _ _ _ h => h) (Or.inl ⟨by rfl, ?_⟩) hHeld ?_
        rotate_left
        · intro v hS
          have e0 := (hS.cell (p := ⟨wr.heap.size, 4, none⟩) hxl).trans x4
          go_simp
          with_reducible rfl
        (try simp only [Act.put, putA, putB, putC])
        refine wpAnyT_ready (rs := [7]) (by kernel_rfl) (by simp) (by rfl) (AllT.cons rfl (fun K hK => ?_) AllT.nil)
        go_simp
        have HI := hide (level_any x.level U (hP.out.keptB (HBR0.out.trans (hHeld.mono hB0)) hGP) hft.2.1)
        refine HI.out.mono ?_
        rintro e Ua ⟨rfl, hb⟩
        replace HO := hide (own_keep HO.out (fun g hg hbg => hb.block g (own_lt HO.out hg).2))
        have hSUa := hHeld.trans (hb.mono hHeld.size)
        clear hb HI hHeld
        go_wp2_with fail
        refine hK.out _ _ hSUa (fun hHeld => ?_)
        clear hK K hSUa
        (try simp only [Act.put, putA, putB, putC])
        refine tk 8 49 rfl (by kernel_rfl) (fun _ _ _ h => h) rfl (fun _ _ => by go_simp; with_reducible rfl) hHeld ?_
        (try simp only [Act.put, putA, putB, putC])
        refine wpAnyT_ready (rs := [12]) (by kernel_rfl) (by simp) (by rfl) (AllT.cons rfl (fun K hK => ?_) AllT.nil)
        go_simp
        have HI := hide (action_any x.do_ Ua (hP.out.keptB (HBR0.out.trans (hHeld.mono hB0)) hGP) hft.2.2)
        refine HI.out.mono ?_
        rintro e Uaa ⟨rfl, hb⟩
        replace HO := hide (own_keep HO.out (fun g hg hbg => hb.block g (own_lt HO.out hg).2))
        have hSUaa := hHeld.trans (hb.mono hHeld.size)
        clear hb HI hHeld
        go_wp2_with fail
        refine hK.out _ _ hSUaa (fun hHeld => ?_)
        clear hK K hSUaa
        (try simp only [Act.put, putA, putB, putC])
        refine tk 13 54 rfl (by kernel_rfl) (fun _ _ _ h => h) rfl (fun _ _ => by go_simp; with_reducible rfl) hHeld ?_
        (try simp only [Act.put, putA, putB, putC])
        refine wpAnyT_ready (rs := [14]) (by kernel_rfl) (by simp) (by rfl) (AllT.cons rfl (fun K hK => ?_) AllT.nil)
        go_simp
        have XN := hide (heap_alloc_new Uaa (.cells #[.iface 9 (.string ⟨([108, 101, 118, 101, 108] : List UInt8).toArray⟩), .iface 9 (.string ⟨(wordN levelWords x.level : List UInt8).toArray⟩), .iface 9 (.string ⟨([100, 111] : List UInt8).toArray⟩), .iface 9 (.string ⟨(wordN actionWords x.do_ : List UInt8).toArray⟩)] 20))
        have HOa := hide (HO.out.alloc (.cells #[.iface 9 (.string ⟨([108, 101, 118, 101, 108] : List UInt8).toArray⟩), .iface 9 (.string ⟨(wordN levelWords x.level : List UInt8).toArray⟩), .iface 9 (.string ⟨([100, 111] : List UInt8).toArray⟩), .iface 9 (.string ⟨(wordN actionWords x.do_ : List UInt8).toArray⟩)] 20))
        have hzU := hHeld.size
        refine hK.out _ _ (hHeld.alloc hHeld.size _) (fun hHeld1 => ?_)
        clear hK K hHeld HO
        (try simp only [Act.put, putA, putB, putC])
        refine wpAnyT_ready (rs := [15]) (by kernel_rfl) (by simp) (by rfl) (AllT.cons rfl (fun K hK => ?_) AllT.nil)
        refine step_append_any _ rfl (.tmp 44) (.tmp 55) 194 rfl w0.heap.size 20 i0 _ 1 16 Tryz.underlying194 hi0 hz0 hz1 hz2 rfl (by decide) _ 4 _ rfl HOa.out _ (some ⟨Uaa.heap.size, 0, none⟩) 4 4 [.iface 9 (.string ⟨([108, 101, 118, 101, 108] : List UInt8).toArray⟩), .iface 9 (.string ⟨(wordN levelWords x.level : List UInt8).toArray⟩), .iface 9 (.string ⟨([100, 111] : List UInt8).toArray⟩), .iface 9 (.string ⟨(wordN actionWords x.do_ : List UInt8).toArray⟩)] rfl (reads_blk1 XN.out rfl) (by simp [Value.oneCell']) (by unfold maxLen; omega) (by omega) (by simp; omega) ?_
        intro v5 wz hown5 hg5 hat5
        have hSz := Below.grown hHeld1 hg5 hHeld1.size (fun g e => (own_lt HOa.out e).1)
        have HOz := hide (show wz.ownsRow w0.heap.size 20 1 v5 8 ((([.s [111, 110], .s (wordN faultWords x.fault)] ++ [.s [109, 111, 100, 117, 108, 101], .s x.module] : List Arg) ++ [.s ([108, 101, 118, 101, 108]), .s (wordN levelWords x.level), .s ([100, 111]), .s (wordN actionWords x.do_)] : List Arg).map Arg.val) from hown5)
        clear hown5 hg5 hat5 XN HOa hHeld1
        refine hK.out _ _ hSz (fun hHeld1 => ?_)
        clear hK K hSz
        (try simp only [Act.put, putA])
        refine wpAnyT_done (by kernel_rfl) ?_
        simp only [List.drop_succ_cons, List.drop_zero]
        have HBl := hide (HBR0.out.trans (hHeld1.mono hB0))
        have HKl := hide (HKR0.out.trans (.later hHeld1))
        have HPz := hide (HP0.out.later hHeld1)
        have HC := hide (ln_any B b k8 _ 0 [59] _ (([.s [111, 110], .s (wordN faultWords x.fault)] ++ [.s [109, 111, 100, 117, 108, 101], .s x.module] : List Arg) ++ [.s ([108, 101, 118, 101, 108]), .s (wordN levelWords x.level), .s ([100, 111]), .s (wordN actionWords x.do_)] : List Arg) _ HPz (hide (any_own HOz.out HPz.out)) (hide (ok_app (ok_s (ok_s (ok_s (ok_s ok_nil)))) (ok_s (ok_s (ok_s (ok_s ok_nil)))))) (by simp) (by omega) (by simp) (by rw [List.length_append]; rw [healthT, lnT_len, HA0.out] at hroom; simp only [List.cons_append, List.nil_append, HMO.out, HPA.out, if_true, if_false] at hroom ⊢; omega) (Nat.le_trans hB0 hHeld1.size) hGB (hide (hE.out.keptB HBl.out hGB)))
        clear hHeld1 HOz HPz
        go_wp2_with fail
        refine HC.out.mono ?_
        rintro e w9 ⟨rfl, h1, h2, h3⟩
        have HP9 := hide h1
        have HB9 := hide (HBl.out.trans h2)
        have HK9 := hide (HKl.out.trans h3)
        clear h1 h2 h3 HC
        go_wp2_with fail
        go_roundw
        case rel => exact ⟨k + 1, by omega, by go_num, by rw [catT_step HX.out, ← List.append_assoc, healthT, HA0.out]; simp only [List.append_assoc, List.cons_append, List.nil_append, HMO.out, HPA.out, if_true, if_false]; simpa only [List.append_assoc, List.cons_append, List.nil_append] using HP9.out, HB9.out, HK9.out⟩
        case measure => simp [intOf]; omega
      · have hpa : ¬ x.part = [] := by simpa using hp
        have hie1 : x.part.isEmpty = false := by rw [List.isEmpty_eq_false_iff]; exact hpa
        go_wp2_with (at_builtin; apply Hid.out)
        refine hide ?_
        refine wpList_append_own _ rfl _ _ 194 rfl w0.heap.size 20 i0 _ 1 16 Tryz.underlying194 hi0 hz0 hz1 hz2 rfl (by decide) _ 2 _ rfl (HO.out.alloc _) ⟨wa.heap.size, 0, none⟩ 2 2 [.iface 9 (.string ⟨([109, 111, 100, 117, 108, 101] : List UInt8).toArray⟩), .iface 9 (.string ⟨x.module.toArray⟩)] rfl rfl (news_of (by simp)) (by simp [Value.oneCell']) (by unfold maxLen; omega) (by omega) (by simp; have := HS.out.size; omega) ?_
        intro v5 wb hown5 hg5 _
        have hSz := Below.grown (HS.out.alloc HS.out.size _) hg5 (HS.out.alloc HS.out.size _).size (fun g e => (own_lt HO.out e).1)
        have HOz := hide (show wb.ownsRow w0.heap.size 20 1 v5 4 (([.s [111, 110], .s (wordN faultWords x.fault)] ++ [.s [109, 111, 100, 117, 108, 101], .s x.module] : List Arg).map Arg.val) from hown5)
        clear hown5 hg5 HO HS
        have HO := HOz
        have HS := hide hSz
        clear HOz hSz
        have c0 := (HS.out.cell (p := ⟨wr.heap.size, 0, none⟩) hxl).trans x0
        have c1 := (HS.out.cell (p := ⟨wr.heap.size, 1, none⟩) hxl).trans x1
        go_wp2_with (at_builtin; apply Hid.out)
        refine hide ?_
        refine wpList_append_own _ rfl _ _ 194 rfl w0.heap.size 20 i0 _ 1 16 Tryz.underlying194 hi0 hz0 hz1 hz2 rfl (by decide) _ 4 _ rfl (HO.out.alloc _) ⟨wb.heap.size, 0, none⟩ 2 2 [.iface 9 (.string ⟨([112, 97, 114, 116] : List UInt8).toArray⟩), .iface 9 (.string ⟨x.part.toArray⟩)] rfl rfl (news_of (by simp)) (by simp [Value.oneCell']) (by unfold maxLen; omega) (by omega) (by simp; have := HS.out.size; omega) ?_
        intro v5 wc hown5 hg5 _
        have hSz := Below.grown (HS.out.alloc HS.out.size _) hg5 (HS.out.alloc HS.out.size _).size (fun g e => (own_lt HO.out e).1)
        have HOz := hide (show wc.ownsRow w0.heap.size 20 1 v5 6 (([.s [111, 110], .s (wordN faultWords x.fault)] ++ [.s [109, 111, 100, 117, 108, 101], .s x.module] ++ [.s [112, 97, 114, 116], .s x.part] : List Arg).map Arg.val) from hown5)
        clear hown5 hg5 HO HS
        have HO := HOz
        have HS := hide hSz
        clear HOz hSz
        have c0 := (HS.out.cell (p := ⟨wr.heap.size, 0, none⟩) hxl).trans x0
        have c1 := (HS.out.cell (p := ⟨wr.heap.size, 1, none⟩) hxl).trans x1
        have HMO := hide hmo
        have HPA := hide hpa
        clear hmo hpa
        go_wp2_with fail
        refine wp_region_tail (S := fun w' => Below w0.heap.size w0 w') 16 (by kernel_rfl) (by kernel_rfl) HS.out.drew (fun hHeld => ?_)
        replace HO := hide (show World.ownsRow (World.drew _) _ _ _ _ _ _ from HO.out)
        clear HS
        generalize World.drew _ = U at *
        refine tk 0 41 rfl (by kernel_rfl) (fun _ _ _ h => h) rfl (fun _ _ => by go_simp; with_reducible rfl) hHeld ?_
        (try simp only [Act.put, putA, putB, putC])
        refine tk 1 42 rfl (by kernel_rfl) (fun _ _ _ h => h) rfl (fun _ _ => by go_simp; with_reducible rfl) hHeld ?_
        (try simp only [Act.put, putA, putB, putC])
        refine tk 2 43 rfl (by kernel_rfl) (fun _ _ _ h => h) rfl (fun _ _ => by go_simp; with_reducible rfl) hHeld ?_
        (try simp only [Act.put, putA, putB, putC])
        refine tk 3 44 rfl (by kernel_rfl) (fun _ _ _ h => h) rfl (fun _ _ => by go_simp; with_reducible rfl) hHeld ?_
        (try simp only [Act.put, putA, putB, putC])
        refine tk 4 45 rfl (by kernel_rfl) (fun _ _ _ h => h) rfl (fun _ _ => by go_simp; with_reducible rfl) hHeld ?_
        (try simp only [Act.put, putA, putB, putC])
        refine tk 5 46 rfl (by kernel_rfl) (fun _ _ _ h => h) rfl (fun _ _ => by go_simp; with_reducible rfl) hHeld ?_
        (try simp only [Act.put, putA, putB, putC])
        refine wpAnyT_take (i := 6) (oi := ⟨some 47, _, _, _, _, _⟩) (v := ?_) rfl (by kernel_rfl) (fun _ _ _ h => h) (Or.inl ⟨by rfl, ?_⟩) hHeld ?_
        rotate_left
        · intro v hS
          have e0 := (hS.cell (p := ⟨wr.heap.size, 3, none⟩) hxl).trans x3
          go_simp
          with_reducible rfl
        (try simp only [Act.put, putA, putB, putC])
        refine tk 9 50 rfl (by kernel_rfl) (fun _ _ _ h => h) rfl (fun _ _ => by go_simp; with_reducible rfl) hHeld ?_
        (try simp only [Act.put, putA, putB, putC])
        refine tk 10 51 rfl (by kernel_rfl) (fun _ _ _ h => h) rfl (fun _ _ => by go_simp; with_reducible rfl) hHeld ?_
        (try simp only [Act.put, putA, putB, putC])
        refine wpAnyT_take (i := 11) (oi := ⟨some 52, _, _, _, _, _⟩) (v := ?_) rfl (by kernel_rfl) (fun _ _ _ h => h) (Or.inl ⟨by rfl, ?_⟩) hHeld ?_
        rotate_left
        · intro v hS
          have e0 := (hS.cell (p := ⟨wr.heap.size, 4, none⟩) hxl).trans x4
          go_simp
          with_reducible rfl
        (try simp only [Act.put, putA, putB, putC])
        refine wpAnyT_ready (rs := [7]) (by kernel_rfl) (by simp) (by rfl) (AllT.cons rfl (fun K hK => ?_) AllT.nil)
        go_simp
        have HI := hide (level_any x.level U (hP.out.keptB (HBR0.out.trans (hHeld.mono hB0)) hGP) hft.2.1)
        refine HI.out.mono ?_
        rintro e Ua ⟨rfl, hb⟩
        replace HO := hide (own_keep HO.out (fun g hg hbg => hb.block g (own_lt HO.out hg).2))
        have hSUa := hHeld.trans (hb.mono hHeld.size)
        clear hb HI hHeld
        go_wp2_with fail
        refine hK.out _ _ hSUa (fun hHeld => ?_)
        clear hK K hSUa
        (try simp only [Act.put, putA, putB, putC])
        refine tk 8 49 rfl (by kernel_rfl) (fun _ _ _ h => h) rfl (fun _ _ => by go_simp; with_reducible rfl) hHeld ?_
        (try simp only [Act.put, putA, putB, putC])
        refine wpAnyT_ready (rs := [12]) (by kernel_rfl) (by simp) (by rfl) (AllT.cons rfl (fun K hK => ?_) AllT.nil)
        go_simp
        have HI := hide (action_any x.do_ Ua (hP.out.keptB (HBR0.out.trans (hHeld.mono hB0)) hGP) hft.2.2)
        refine HI.out.mono ?_
        rintro e Uaa ⟨rfl, hb⟩
        replace HO := hide (own_keep HO.out (fun g hg hbg => hb.block g (own_lt HO.out hg).2))
        have hSUaa := hHeld.trans (hb.mono hHeld.size)
        clear hb HI hHeld
        go_wp2_with fail
        refine hK.out _ _ hSUaa (fun hHeld => ?_)
        clear hK K hSUaa
        (try simp only [Act.put, putA, putB, putC])
        refine tk 13 54 rfl (by kernel_rfl) (fun _ _ _ h => h) rfl (fun _ _ => by go_simp; with_reducible rfl) hHeld ?_
        (try simp only [Act.put, putA, putB, putC])
        refine wpAnyT_ready (rs := [14]) (by kernel_rfl) (by simp) (by rfl) (AllT.cons rfl (fun K hK => ?_) AllT.nil)
        go_simp
        have XN := hide (heap_alloc_new Uaa (.cells #[.iface 9 (.string ⟨([108, 101, 118, 101, 108] : List UInt8).toArray⟩), .iface 9 (.string ⟨(wordN levelWords x.level : List UInt8).toArray⟩), .iface 9 (.string ⟨([100, 111] : List UInt8).toArray⟩), .iface 9 (.string ⟨(wordN actionWords x.do_ : List UInt8).toArray⟩)] 20))
        have HOa := hide (HO.out.alloc (.cells #[.iface 9 (.string ⟨([108, 101, 118, 101, 108] : List UInt8).toArray⟩), .iface 9 (.string ⟨(wordN levelWords x.level : List UInt8).toArray⟩), .iface 9 (.string ⟨([100, 111] : List UInt8).toArray⟩), .iface 9 (.string ⟨(wordN actionWords x.do_ : List UInt8).toArray⟩)] 20))
        have hzU := hHeld.size
        refine hK.out _ _ (hHeld.alloc hHeld.size _) (fun hHeld1 => ?_)
        clear hK K hHeld HO
        (try simp only [Act.put, putA, putB, putC])
        refine wpAnyT_ready (rs := [15]) (by kernel_rfl) (by simp) (by rfl) (AllT.cons rfl (fun K hK => ?_) AllT.nil)
        refine step_append_any _ rfl (.tmp 44) (.tmp 55) 194 rfl w0.heap.size 20 i0 _ 1 16 Tryz.underlying194 hi0 hz0 hz1 hz2 rfl (by decide) _ 6 _ rfl HOa.out _ (some ⟨Uaa.heap.size, 0, none⟩) 4 4 [.iface 9 (.string ⟨([108, 101, 118, 101, 108] : List UInt8).toArray⟩), .iface 9 (.string ⟨(wordN levelWords x.level : List UInt8).toArray⟩), .iface 9 (.string ⟨([100, 111] : List UInt8).toArray⟩), .iface 9 (.string ⟨(wordN actionWords x.do_ : List UInt8).toArray⟩)] rfl (reads_blk1 XN.out rfl) (by simp [Value.oneCell']) (by unfold maxLen; omega) (by omega) (by simp; omega) ?_
        intro v5 wz hown5 hg5 hat5
        have hSz := Below.grown hHeld1 hg5 hHeld1.size (fun g e => (own_lt HOa.out e).1)
        have HOz := hide (show wz.ownsRow w0.heap.size 20 1 v5 10 ((([.s [111, 110], .s (wordN faultWords x.fault)] ++ [.s [109, 111, 100, 117, 108, 101], .s x.module] ++ [.s [112, 97, 114, 116], .s x.part] : List Arg) ++ [.s ([108, 101, 118, 101, 108]), .s (wordN levelWords x.level), .s ([100, 111]), .s (wordN actionWords x.do_)] : List Arg).map Arg.val) from hown5)
        clear hown5 hg5 hat5 XN HOa hHeld1
        refine hK.out _ _ hSz (fun hHeld1 => ?_)
        clear hK K hSz
        (try simp only [Act.put, putA])
        refine wpAnyT_done (by kernel_rfl) ?_
        simp only [List.drop_succ_cons, List.drop_zero]
        have HBl := hide (HBR0.out.trans (hHeld1.mono hB0))
        have HKl := hide (HKR0.out.trans (.later hHeld1))
        have HPz := hide (HP0.out.later hHeld1)
        have HC := hide (ln_any B b k8 _ 0 [59] _ (([.s [111, 110], .s (wordN faultWords x.fault)] ++ [.s [109, 111, 100, 117, 108, 101], .s x.module] ++ [.s [112, 97, 114, 116], .s x.part] : List Arg) ++ [.s ([108, 101, 118, 101, 108]), .s (wordN levelWords x.level), .s ([100, 111]), .s (wordN actionWords x.do_)] : List Arg) _ HPz (hide (any_own HOz.out HPz.out)) (hide (ok_app (ok_s (ok_s (ok_s (ok_s (ok_s (ok_s ok_nil)))))) (ok_s (ok_s (ok_s (ok_s ok_nil)))))) (by simp) (by omega) (by simp) (by rw [List.length_append]; rw [healthT, lnT_len, HA0.out] at hroom; simp only [List.cons_append, List.nil_append, HMO.out, HPA.out, if_false] at hroom ⊢; omega) (Nat.le_trans hB0 hHeld1.size) hGB (hide (hE.out.keptB HBl.out hGB)))
        clear hHeld1 HOz HPz
        go_wp2_with fail
        refine HC.out.mono ?_
        rintro e w9 ⟨rfl, h1, h2, h3⟩
        have HP9 := hide h1
        have HB9 := hide (HBl.out.trans h2)
        have HK9 := hide (HKl.out.trans h3)
        clear h1 h2 h3 HC
        go_wp2_with fail
        go_roundw
        case rel => exact ⟨k + 1, by omega, by go_num, by rw [catT_step HX.out, ← List.append_assoc, healthT, HA0.out]; simp only [List.append_assoc, List.cons_append, List.nil_append, HMO.out, HPA.out, if_false]; simpa only [List.append_assoc, List.cons_append, List.nil_append] using HP9.out, HB9.out, HK9.out⟩
        case measure => simp [intOf]; omega
end Go.Proofs.YtndpnpohdoggjaaGreatDoor
namespace Go.Proofs.YtndpnpohdoggjaaGreatDoor
open Go.RowKit
attribute [local go_sem] Later.cell
set_option maxRecDepth 100000 in
set_option maxHeartbeats 4000000 in
theorem p_causes (B b : Nat) (k8 : C8) (L : List UInt8) (l : List CauseD) (W : World) (h : Hid (PrAt B b k8 L W)) (hv : Hid (DAt W (fun g => g < B) k8.c6 (.row 3 (l.map CauseD.cells)))) (hF : Hid (l.all causeF = true)) (hlen : L.length + (catT causeT l).length ≤ 1000000) (hnl : l.length ≤ 140737488355328) (hBw : B ≤ W.heap.size) (hGB : 6 ≤ B) (hE : Hid (Env W)) (_hGP : 3 ≤ B) (_hP : Hid (EnvP W)) (hfit : ∀ y ∈ l, CauseFit y) :
    Calls Tryz.prog 42 #[.pointer (some ⟨b, 0, none⟩)] W fun e w' => e = .returned (.tuple #[]) ∧ PrAt B b k8 (L ++ catT causeT l) w' ∧ Below B W w' ∧ PrK b W w' := by
  obtain ⟨A, c, ek, hA⟩ := hv.out.sliceG
  have HA := hide hA
  rw [List.length_map] at ek
  clear hA hv
  have cb : W.cell? ⟨b, 8, none⟩ = some (.slice A l.length c) := (h.out.cell 6 (by decide)).trans (congrArg some ek)
  clear ek
  have HL := hide hlen
  clear hlen
  go_enter Tryz.func42, Tryz.ntmps42
  go_wp2_with fail
  clear cb
  go_loopw [11] (fun v wr => ∃ k : Nat, k ≤ l.length ∧ v = .int .i64 k ∧ PrAt B b k8 (L ++ catT causeT (l.take k)) wr ∧ Below B W wr ∧ PrK b W wr) (fun v _ => l.length - (intOf v).toNat)
  case atStart => exact ⟨0, by omega, rfl, by rw [catT_zero, List.append_nil]; exact h.out, Below.refl _ _, PrK.refl _ _⟩
  case round =>
    obtain ⟨k, hk, rfl, hp, hbr, hkr⟩ := hrel
    have HP := hide hp
    have HBR := hide hbr
    have HKR := hide hkr
    clear hp hbr hkr h
    by_cases hlt : k < l.length
    rotate_left
    · obtain rfl : k = l.length := by omega
      rw [List.take_length] at HP
      clear hlt
      go_wp2_with fail
      go_end0
      exact ⟨rfl, HP.out, HBR.out, HKR.out⟩
    obtain ⟨x, hx⟩ : ∃ x, l[k]? = some x := ⟨_, List.getElem?_eq_getElem hlt⟩
    obtain ⟨g, off, rfl, hG, hg, hca⟩ := (HA.out.keep HBR.out).at_ hx
    obtain ⟨u0, c0, g0⟩ := hca 0 _ rfl
    obtain rfl := g0.leaf_eq
    obtain ⟨u1, c1, g1⟩ := hca 1 _ rfl
    have HG1 := hide g1
    obtain ⟨A1, q1, rfl, -⟩ := g1.sliceG
    rw [List.length_map] at HG1 c1
    obtain ⟨u2, c2, g2⟩ := hca 2 _ rfl
    have HG2 := hide g2
    obtain ⟨A2, q2, rfl, -⟩ := g2.sliceG
    rw [show (strRows x.but).length = x.but.length from by simp [strRows]] at HG2 c2
    clear hca g0 g1 g2
    simp only [strV] at c0 c1 c2
    rw [Nat.add_zero] at c0
    have k0 : (0 : Int) ≤ (k : Int) ∧ (k : Int) < ((l.length : Nat) : Int) := by omega
    have HFx := hide (List.all_eq_true.1 hF.out x (List.mem_of_getElem? hx))
    have HX := hide hx
    have hroom := catT_room (f := causeT) hx
    have hL := HL.out
    clear hx
    have HXb := hide (heap_alloc_new wr (.cells #[.string ⟨x.unit.toArray⟩, .slice A1 x.needs.length q1, .slice A2 x.but.length q2] 68))
    have HBA := hide ((Below.refl wr.heap.size wr).alloc (Nat.le_refl _) (.cells #[.string ⟨x.unit.toArray⟩, .slice A1 x.needs.length q1, .slice A2 x.but.length q2] 68))
    have hxl : wr.heap.size < (wr.alloc (.cells #[.string ⟨x.unit.toArray⟩, .slice A1 x.needs.length q1, .slice A2 x.but.length q2] 68)).heap.size := by simp
    have hft := hfit x (List.mem_of_getElem? HX.out)
    go_wp2_with fail
    clear c0 c1 c2
    generalize wr.alloc (.cells #[.string ⟨x.unit.toArray⟩, .slice A1 x.needs.length q1, .slice A2 x.but.length q2] 68) = w0 at *
    have HP0 := hide (HP.out.later HBA.out)
    have HKR0 := hide (HKR.out.trans (.later HBA.out))
    have hBr : B ≤ wr.heap.size := Nat.le_trans hBw HBR.out.size
    have HBR0 := hide (HBR.out.trans (HBA.out.mono hBr))
    have hB0 : B ≤ w0.heap.size := Nat.le_trans hBw HBR0.out.size
    have x0 := cell_of_row _ _ 0 _ _ _ HXb.out
    have x1 := cell_of_row _ _ 1 _ _ _ HXb.out
    have x2 := cell_of_row _ _ 2 _ _ _ HXb.out
    have hq := HFx.out
    simp only [causeF, Bool.and_eq_true] at hq
    have hr := hide hq.2.2
    clear hq
    have hroom2 := hroom
    rw [causeT, lnT_len, causeA] at hroom2
    have r1 : (repsT x.needs).length ≤ 1000000 ∧ (x.but ≠ [] → (Lib.join x.but sepT).length ≤ 1000000) := by
      split at hroom2 <;> rename_i hbut <;> simp only [sayT, Arg.txt, List.map_cons, List.map_nil, List.flatten_cons, List.flatten_nil, List.length_append, List.length_cons, List.length_nil, List.append_nil, List.cons_append, List.nil_append] at hroom2
      · exact ⟨by omega, fun h => absurd hbut h⟩
      · exact ⟨by omega, fun _ => by omega⟩
    clear hroom2
    obtain ⟨i0, hi0, hz0, hz1, hz2⟩ := info_parts anyif_info
    refine wp_region_tail (S := fun w' => Below w0.heap.size w0 w') 9 (by kernel_rfl) (by kernel_rfl) (Below.refl _ _).drew (fun hHeld => ?_)
    generalize w0.drew = U at *
    refine tk 0 15 rfl (by kernel_rfl) (fun _ _ _ h => h) rfl (fun _ _ => by go_simp; with_reducible rfl) hHeld ?_
    (try simp only [Act.put, putA, putB, putC])
    refine tk 1 16 rfl (by kernel_rfl) (fun _ _ _ h => h) rfl (fun _ _ => by go_simp; with_reducible rfl) hHeld ?_
    (try simp only [Act.put, putA, putB, putC])
    refine wpAnyT_take (i := 2) (oi := ⟨some 17, _, _, _, _, _⟩) (v := ?_) rfl (by kernel_rfl) (fun _ _ _ h => h) (Or.inl ⟨by rfl, ?_⟩) hHeld ?_
    rotate_left
    · intro v hS
      have e0 := (hS.cell (p := ⟨wr.heap.size, 0, none⟩) hxl).trans x0
      go_simp
      with_reducible rfl
    (try simp only [Act.put, putA, putB, putC])
    refine tk 3 18 rfl (by kernel_rfl) (fun _ _ _ h => h) rfl (fun _ _ => by go_simp; with_reducible rfl) hHeld ?_
    (try simp only [Act.put, putA, putB, putC])
    refine tk 4 19 rfl (by kernel_rfl) (fun _ _ _ h => h) rfl (fun _ _ => by go_simp; with_reducible rfl) hHeld ?_
    (try simp only [Act.put, putA, putB, putC])
    refine tk 5 20 rfl (by kernel_rfl) (fun _ _ _ h => h) rfl (fun _ _ => by go_simp; with_reducible rfl) hHeld ?_
    (try simp only [Act.put, putA, putB, putC])
    refine wpAnyT_take (i := 6) (oi := ⟨some 21, _, _, _, _, _⟩) (v := ?_) rfl (by kernel_rfl) (fun _ _ _ h => h) (Or.inl ⟨by rfl, ?_⟩) hHeld ?_
    rotate_left
    · intro v hS
      have e0 := (hS.cell (p := ⟨wr.heap.size, 1, none⟩) hxl).trans x1
      go_simp
      with_reducible rfl
    (try simp only [Act.put, putA, putB, putC])
    refine wpAnyT_ready (rs := [7]) (by kernel_rfl) (by simp) (by rfl) (AllT.cons rfl (fun K hK => ?_) AllT.nil)
    go_simp
    have HI := hide (join_reps (.slice A1 x.needs.length q1) x.needs U (hide (((HG1.out.lateG (HBA.out.mono hBr)).lateG (hHeld.mono hB0)).mono (fun _ _ _ => trivial))) r1.1 hr (Nat.le_trans hGB (Nat.le_trans hB0 hHeld.size)) (hide (hE.out.keptB (HBR0.out.trans (hHeld.mono hB0)) hGB)))
    refine HI.out.mono ?_
    rintro e Ua ⟨rfl, hb⟩
    have hSUa := hHeld.trans (hb.mono hHeld.size)
    clear hb HI hHeld
    go_wp2_with fail
    refine hK.out _ _ hSUa (fun hHeld => ?_)
    clear hK K hSUa
    (try simp only [Act.put, putA, putB, putC])
    refine tk 8 23 rfl (by kernel_rfl) (fun _ _ _ h => h) rfl (fun _ _ => by go_simp; with_reducible rfl) hHeld ?_
    (try simp only [Act.put, putA, putB, putC])
    refine wpAnyT_done (by kernel_rfl) ?_
    simp only [List.drop_succ_cons, List.drop_zero]
    have HS1 := hide hHeld
    clear hHeld
    have HO := hide (World.ownsRow_lit (base := w0.heap.size) (e := 20) (size := 1) Ua #[.iface 9 (.string ⟨([99, 97, 117, 115, 101] : List UInt8).toArray⟩), .iface 9 (.string ⟨(x.unit : List UInt8).toArray⟩), .iface 9 (.string ⟨([110, 101, 101, 100, 115] : List UInt8).toArray⟩), .iface 9 (.string ⟨(repsT x.needs : List UInt8).toArray⟩)] 4 HS1.out.size (by unfold maxLen; omega) rfl)
    have HS := hide (HS1.out.alloc HS1.out.size (.cells #[.iface 9 (.string ⟨([99, 97, 117, 115, 101] : List UInt8).toArray⟩), .iface 9 (.string ⟨(x.unit : List UInt8).toArray⟩), .iface 9 (.string ⟨([110, 101, 101, 100, 115] : List UInt8).toArray⟩), .iface 9 (.string ⟨(repsT x.needs : List UInt8).toArray⟩)] 20))
    have c2 := (HS.out.cell (p := ⟨wr.heap.size, 2, none⟩) hxl).trans x2
    go_upto_region 4 with fail
    generalize Ua.alloc (.cells #[.iface 9 (.string ⟨([99, 97, 117, 115, 101] : List UInt8).toArray⟩), .iface 9 (.string ⟨(x.unit : List UInt8).toArray⟩), .iface 9 (.string ⟨([110, 101, 101, 100, 115] : List UInt8).toArray⟩), .iface 9 (.string ⟨(repsT x.needs : List UInt8).toArray⟩)] 20) = wa at *
    have hzU := HS.out.size
    by_cases hbu : x.but = []
    · have hn0 : x.but.length = 0 := by rw [hbu]; rfl
      rw [hn0] at c2
      go_wp2_with fail
      replace HO := hide (show World.ownsRow _ _ _ _ _ _ (([.s ([99, 97, 117, 115, 101]), .s (x.unit), .s ([110, 101, 101, 100, 115]), .s (repsT x.needs)] : List Arg).map Arg.val) from HO.out)
      have HBl := hide (HBR0.out.trans (HS.out.mono hB0))
      have HKl := hide (HKR0.out.trans (.later HS.out))
      have HPz := hide (HP0.out.later HS.out)
      have HC := hide (ln_any B b k8 _ 0 [59] _ ([.s ([99, 97, 117, 115, 101]), .s (x.unit), .s ([110, 101, 101, 100, 115]), .s (repsT x.needs)] : List Arg) _ HPz (hide (any_own HO.out HPz.out)) (hide (ok_s (ok_s (ok_s (ok_s ok_nil))))) (by simp) (by omega) (by simp) (by rw [List.length_append]; rw [causeT, lnT_len, causeA] at hroom; simp only [List.append_nil, hbu, if_true] at hroom ⊢; omega) (Nat.le_trans hB0 HS.out.size) hGB (hide (hE.out.keptB HBl.out hGB)))
      go_wp2_with fail
      refine HC.out.mono ?_
      rintro e w9 ⟨rfl, h1, h2, h3⟩
      have HP9 := hide h1
      have HB9 := hide (HBl.out.trans h2)
      have HK9 := hide (HKl.out.trans h3)
      clear h1 h2 h3 HC
      go_wp2_with fail
      go_roundw
      case rel => exact ⟨k + 1, by omega, by go_num, by rw [catT_step HX.out, ← List.append_assoc, causeT, causeA]; simp only [List.append_nil, hbu, if_true]; simpa only [List.cons_append, List.nil_append, List.append_nil] using HP9.out, HB9.out, HK9.out⟩
      case measure => simp [intOf]; omega
    · have hn0 : 0 < x.but.length := List.length_pos_iff.2 hbu
      have hn1 : (0 : Int) < (x.but.length : Int) := by omega
      go_wp2_with fail
      have HJ := hide (join_dat sepT (((HG2.out.lateG (HBA.out.mono hBr)).lateG (HS.out.mono hB0)).mono (fun _ _ _ => trivial)) (by have := hft.2; omega) (by have := r1.2 hbu; omega))
      refine HJ.out.mono ?_
      rintro e w3 ⟨rfl, hb⟩
      replace HO := hide (own_keep HO.out (fun g hg hbg => hb.block g (own_lt HO.out hg).2))
      replace HS := hide (HS.out.trans (hb.mono HS.out.size))
      clear hb HJ
      go_wp2_with (at_builtin; apply Hid.out)
      refine hide ?_
      refine wpList_append_own _ rfl _ _ 194 rfl w0.heap.size 20 i0 _ 1 16 Tryz.underlying194 hi0 hz0 hz1 hz2 rfl (by decide) _ 4 _ rfl (HO.out.alloc _) ⟨w3.heap.size, 0, none⟩ 2 2 [.iface 9 (.string ⟨([117, 110, 108, 101, 115, 115] : List UInt8).toArray⟩), .iface 9 (.string ⟨(Lib.join x.but sepT).toArray⟩)] rfl rfl (news_of (by simp)) (by simp [Value.oneCell']) (by unfold maxLen; omega) (by omega) (by simp; have := HS.out.size; omega) ?_
      intro v5 wz hown5 hg5 _
      have hSz := Below.grown (HS.out.alloc HS.out.size _) hg5 (HS.out.alloc HS.out.size _).size (fun g e => (own_lt HO.out e).1)
      have HOz := hide (show wz.ownsRow w0.heap.size 20 1 v5 6 (([.s ([99, 97, 117, 115, 101]), .s (x.unit), .s ([110, 101, 101, 100, 115]), .s (repsT x.needs)] ++ [.s [117, 110, 108, 101, 115, 115], .s (Lib.join x.but sepT)] : List Arg).map Arg.val) from hown5)
      clear hown5 hg5 HO HS
      have HO := HOz
      have HS := hide hSz
      clear HOz hSz
      go_wp2_with fail
      have HBl := hide (HBR0.out.trans (HS.out.mono hB0))
      have HKl := hide (HKR0.out.trans (.later HS.out))
      have HPz := hide (HP0.out.later HS.out)
      have HC := hide (ln_any B b k8 _ 0 [59] _ ([.s ([99, 97, 117, 115, 101]), .s (x.unit), .s ([110, 101, 101, 100, 115]), .s (repsT x.needs)] ++ [.s [117, 110, 108, 101, 115, 115], .s (Lib.join x.but sepT)] : List Arg) _ HPz (hide (any_own HO.out HPz.out)) (hide (ok_s (ok_s (ok_s (ok_s (ok_s (ok_s ok_nil))))))) (by simp) (by omega) (by simp) (by rw [List.length_append]; rw [causeT, lnT_len, causeA] at hroom; simp only [List.cons_append, List.nil_append, hbu, if_false] at hroom ⊢; omega) (Nat.le_trans hB0 HS.out.size) hGB (hide (hE.out.keptB HBl.out hGB)))
      go_wp2_with fail
      refine HC.out.mono ?_
      rintro e w9 ⟨rfl, h1, h2, h3⟩
      have HP9 := hide h1
      have HB9 := hide (HBl.out.trans h2)
      have HK9 := hide (HKl.out.trans h3)
      clear h1 h2 h3 HC
      go_wp2_with fail
      go_roundw
      case rel => exact ⟨k + 1, by omega, by go_num, by rw [catT_step HX.out, ← List.append_assoc, causeT, causeA]; simp only [List.cons_append, List.nil_append, hbu, if_false]; simpa only [List.cons_append, List.nil_append, List.append_nil] using HP9.out, HB9.out, HK9.out⟩
      case measure => simp [intOf]; omega
end Go.Proofs.YtndpnpohdoggjaaGreatDoor
