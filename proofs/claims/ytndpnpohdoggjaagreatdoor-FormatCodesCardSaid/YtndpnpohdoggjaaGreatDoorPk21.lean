/-
  Merged texts: format: Config. | format: the examples of the chapter, as plain data and as laid by awake. | format: awake: the examples of the chapter. | format: the frame of the laws: what a row gives to its walk. | Opening deep data: what is read of a value lies in memory as data, and is not smaller than its measure.
-/
import Derived.Test.YtndpnpohdoggjaaGreatDoorPk19
import Derived.Test.YtndpnpohdoggjaaGreatDoorPk20
import Derived.Test.YtndpnpohdoggjaaGreatDoorPk17
import Derived.Test.YtndpnpohdoggjaaGreatDoorPk16
import Derived.Test.YtndpnpohdoggjaaGreatDoorPk9
import Derived.Test.YtndpnpohdoggjaaGreatDoorRows
import Derived.Test.YtndpnpohdoggjaaGreatDoorCards
import Derived.Test.YtndpnpohdoggjaaGreatDoorTie
import Derived.SevenTiedAt
import Derived.Lib.LaidTab
import Derived.Lib.SmallJoins
import Derived.Stop.LaidErr
import Derived.Shelf.Vars
namespace Go.Proofs.YtndpnpohdoggjaaGreatDoor
open Go.RowKit
attribute [local go_sem] Later.cell
def cfgTs (x : CfgD) : List (List UInt8) := [catT modT x.modules, catT chanT x.channels, catT swT x.switches, catT linkT x.links, catT vlT x.vls, catT healthT x.health, catT causeT x.causes, catT verT x.versions]
theorem cfgT_eq (x : CfgD) : cfgT x = catT id (cfgTs x) := by simp [cfgT, cfgTs, catT]
noncomputable def cfgE (x : CfgD) : Value := if cfgF x = true then fitsE ⟨(cfgT x).toArray⟩ else .tuple #[.string ⟨#[]⟩, .int .i64 2]
set_option maxRecDepth 100000 in
theorem bsf8 (f0 f1 f2 f3 f4 f5 f6 f7 : Fn) (a0 a1 a2 a3 a4 a5 a6 a7 : Array Value) (w : World) : (Instr.buildSlice 121 8 #[(0, .func f0 a0 #[]), (1, .func f1 a1 #[]), (2, .func f2 a2 #[]), (3, .func f3 a3 #[]), (4, .func f4 a4 #[]), (5, .func f5 a5 #[]), (6, .func f6 a6 #[]), (7, .func f7 a7 #[])]).run Tryz.prog w = .ok (.slice (some ⟨w.heap.size, 0, none⟩) 8 8) (w.alloc (.cells #[.func f0 a0 #[], .func f1 a1 #[], .func f2 a2 #[], .func f3 a3 #[], .func f4 a4 #[], .func f5 a5 #[], .func f6 a6 #[], .func f7 a7 #[]] 1)) := by kernel_rfl
set_option maxRecDepth 100000 in
set_option maxHeartbeats 4000000 in
theorem config_any (x : CfgD) (us : List Value) (W : World) (hE : Hid (Env W)) (hP : Hid (EnvP W)) (hd : Hid (DCells W (fun _ => True) us x.cells)) (hl : CfgFit x) (hlen : cfgF x = true → (cfgT x).length ≤ 1000000) :
    Calls Tryz.prog 9 #[.agg us.toArray] W fun e w' => e = .returned (cfgE x) ∧ Below W.heap.size W w' := by
  have HV := hide (fun V (hE : Hid (Env V)) (hP : Hid (EnvP V)) hd => f_cfg x us V hE hd hP hl)
  have HD := hd
  have hd := hd.out
  obtain ⟨u0, us, rfl, h0, hd⟩ := dcells_cons hd
  obtain ⟨u1, us, rfl, h1, hd⟩ := dcells_cons hd
  obtain ⟨u2, us, rfl, h2, hd⟩ := dcells_cons hd
  obtain ⟨u3, us, rfl, h3, hd⟩ := dcells_cons hd
  obtain ⟨u4, us, rfl, h4, hd⟩ := dcells_cons hd
  obtain ⟨u5, us, rfl, h5, hd⟩ := dcells_cons hd
  obtain ⟨u6, us, rfl, h6, hd⟩ := dcells_cons hd
  obtain ⟨u7, us, rfl, h7, hd⟩ := dcells_cons hd
  obtain rfl := dcells_nil hd
  have H0 := hide (h0.mono (H := fun g => g < W.heap.size) (fun _ _ h => h))
  have H1 := hide (h1.mono (H := fun g => g < W.heap.size) (fun _ _ h => h))
  have H2 := hide (h2.mono (H := fun g => g < W.heap.size) (fun _ _ h => h))
  have H3 := hide (h3.mono (H := fun g => g < W.heap.size) (fun _ _ h => h))
  have H4 := hide (h4.mono (H := fun g => g < W.heap.size) (fun _ _ h => h))
  have H5 := hide (h5.mono (H := fun g => g < W.heap.size) (fun _ _ h => h))
  have H6 := hide (h6.mono (H := fun g => g < W.heap.size) (fun _ _ h => h))
  have H7 := hide (h7.mono (H := fun g => g < W.heap.size) (fun _ _ h => h))
  clear hd h0 h1 h2 h3 h4 h5 h6 h7
  have hGB : 6 ≤ W.heap.size := by
    obtain ⟨b1, b2, b3⟩ := hE.out.big
    omega
  have hGP : 3 ≤ W.heap.size := hP.out.big
  have HX := hide (heap_alloc_new W (.cells #[u0, u1, u2, u3, u4, u5, u6, u7] 49))
  have HB := hide ((Below.refl W.heap.size W).alloc (Nat.le_refl _) (.cells #[u0, u1, u2, u3, u4, u5, u6, u7] 49))
  go_enter Tryz.func9, Tryz.ntmps9
  go_wp2_with fail
  generalize W.alloc (.cells #[u0, u1, u2, u3, u4, u5, u6, u7] 49) = w0 at *
  have HC := hide (HV.out w0 (hide (hE.out.kept HB.out)) (hide (hP.out.below HB.out)) (hide (HD.out.below HB.out)))
  clear HV HD
  cases hv : cfgF x with
  | false =>
    have HE := hide (show cfgE x = .tuple #[.string ⟨#[]⟩, .int .i64 2] by unfold cfgE; rw [hv]; rfl)
    rw [hv] at HC
    clear hv
    refine HC.out.mono ?_
    rintro e w1 ⟨rfl, hb⟩
    have HB1 := hide (HB.out.trans (hb.mono HB.out.size))
    clear HC hb
    go_wp2_with fail
    go_ret2
    exact ⟨by rw [HE.out]; rfl, HB1.out⟩
  | true =>
    have HL := hide (hlen hv)
    have HE := hide (show cfgE x = fitsE ⟨(cfgT x).toArray⟩ by unfold cfgE; rw [hv]; rfl)
    have HF := hide (show x.modules.all modF = true ∧ x.channels.all chanF = true ∧ x.switches.all swF = true ∧ x.links.all linkF = true ∧ x.vls.all vlF = true ∧ x.health.all healthF = true ∧ x.causes.all causeF = true ∧ x.versions.all verF = true by unfold cfgF at hv; simpa only [Bool.and_eq_true] using hv)
    rw [hv] at HC
    clear hv hlen
    refine HC.out.mono ?_
    rintro e w1 ⟨rfl, hb⟩
    have HB1 := hide (HB.out.trans (hb.mono HB.out.size))
    have HX1 := hide ((hb.block _ (Array.getElem?_eq_some_iff.1 HX.out).1).trans HX.out)
    clear HC hb HX HB
    have c0 := cell_of_row _ _ 0 _ _ _ HX1.out
    have c1 := cell_of_row _ _ 1 _ _ _ HX1.out
    have c2 := cell_of_row _ _ 2 _ _ _ HX1.out
    have c3 := cell_of_row _ _ 3 _ _ _ HX1.out
    have c4 := cell_of_row _ _ 4 _ _ _ HX1.out
    have c5 := cell_of_row _ _ 5 _ _ _ HX1.out
    have c6 := cell_of_row _ _ 6 _ _ _ HX1.out
    have c7 := cell_of_row _ _ 7 _ _ _ HX1.out
    have HXp := hide (heap_alloc_new w1 (.cells #[.pointer none, .slice none 0 0, u0, u1, u2, u3, u4, u5, u6, u7] 120))
    have HBp := hide ((Below.refl w1.heap.size w1).alloc (Nat.le_refl _) (.cells #[.pointer none, .slice none 0 0, u0, u1, u2, u3, u4, u5, u6, u7] 120))
    have HP2 : Hid (PrAt W.heap.size w1.heap.size ⟨u0, u1, u2, u3, u4, u5, u6, u7⟩ [] (w1.alloc (.cells #[.pointer none, .slice none 0 0, u0, u1, u2, u3, u4, u5, u6, u7] 120))) := hide (.inl ⟨HB1.out.size, .slice none 0 0, HXp.out, World.ownsRow_nil _ _ _ _⟩)
    have hz1 : w1.heap.size < (w1.alloc (.cells #[.pointer none, .slice none 0 0, u0, u1, u2, u3, u4, u5, u6, u7] 120)).heap.size := by simp
    have hzz : w1.heap.size + 1 = (w1.alloc (.cells #[.pointer none, .slice none 0 0, u0, u1, u2, u3, u4, u5, u6, u7] 120)).heap.size := by simp
    have HZZ := hide hzz
    clear hzz
    go_wp2_with fail
    rw [HZZ.out]
    clear HZZ c0 c1 c2 c3 c4 c5 c6 c7 HX1
    have HB2 := hide (HB1.out.trans (HBp.out.mono HB1.out.size))
    clear HBp HXp
    generalize w1.alloc (.cells #[.pointer none, .slice none 0 0, u0, u1, u2, u3, u4, u5, u6, u7] 120) = w2 at *
    generalize w1.heap.size = b at *
    have HXf := hide (heap_alloc_new w2 (.cells #[.func (.func 36) #[.pointer (some ⟨b, 0, none⟩)] #[], .func (.func 37) #[.pointer (some ⟨b, 0, none⟩)] #[], .func (.func 38) #[.pointer (some ⟨b, 0, none⟩)] #[], .func (.func 39) #[.pointer (some ⟨b, 0, none⟩)] #[], .func (.func 40) #[.pointer (some ⟨b, 0, none⟩)] #[], .func (.func 41) #[.pointer (some ⟨b, 0, none⟩)] #[], .func (.func 42) #[.pointer (some ⟨b, 0, none⟩)] #[], .func (.func 43) #[.pointer (some ⟨b, 0, none⟩)] #[]] 1))
    have HBf := hide ((Below.refl w2.heap.size w2).alloc (Nat.le_refl _) (.cells #[.func (.func 36) #[.pointer (some ⟨b, 0, none⟩)] #[], .func (.func 37) #[.pointer (some ⟨b, 0, none⟩)] #[], .func (.func 38) #[.pointer (some ⟨b, 0, none⟩)] #[], .func (.func 39) #[.pointer (some ⟨b, 0, none⟩)] #[], .func (.func 40) #[.pointer (some ⟨b, 0, none⟩)] #[], .func (.func 41) #[.pointer (some ⟨b, 0, none⟩)] #[], .func (.func 42) #[.pointer (some ⟨b, 0, none⟩)] #[], .func (.func 43) #[.pointer (some ⟨b, 0, none⟩)] #[]] 1))
    generalize w2.alloc (.cells #[.func (.func 36) #[.pointer (some ⟨b, 0, none⟩)] #[], .func (.func 37) #[.pointer (some ⟨b, 0, none⟩)] #[], .func (.func 38) #[.pointer (some ⟨b, 0, none⟩)] #[], .func (.func 39) #[.pointer (some ⟨b, 0, none⟩)] #[], .func (.func 40) #[.pointer (some ⟨b, 0, none⟩)] #[], .func (.func 41) #[.pointer (some ⟨b, 0, none⟩)] #[], .func (.func 42) #[.pointer (some ⟨b, 0, none⟩)] #[], .func (.func 43) #[.pointer (some ⟨b, 0, none⟩)] #[]] 1) = w3 at *
    have HP3 := hide (HP2.out.later HBf.out)
    have HB3 := hide (HB2.out.trans (HBf.out.mono HB2.out.size))
    have HO3 : Hid (Oth w3 w2.heap.size) := hide ⟨_, _, _, HXf.out, by decide⟩
    have hne : w2.heap.size ≠ b := by omega
    clear HP2 HB2 HBf
    generalize w2.heap.size = fb at *
    go_loopw [31] (fun v31 wr => ∃ k : Nat, k ≤ 8 ∧ v31 = .int .i64 k ∧ PrAt W.heap.size b ⟨u0, u1, u2, u3, u4, u5, u6, u7⟩ (catT id ((cfgTs x).take k)) wr ∧ Below W.heap.size W wr ∧ PrK b w3 wr) (fun v31 _ => 8 - (intOf v31).toNat)
    case atStart => exact ⟨0, by omega, rfl, by rw [catT_zero]; exact HP3.out, HB3.out, PrK.refl _ _⟩
    case round =>
      obtain ⟨k, hk, rfl, hp, hbr, hkr⟩ := hrel
      have HP' := hide hp
      have HBR := hide hbr
      have HKR := hide hkr
      have HXr := hide ((hkr.block fb hne HO3.out).trans HXf.out)
      have hBw := hbr.size
      clear hp hbr hkr HP3 HB3
      by_cases hlt : k < 8
      rotate_left
      · obtain rfl : k = 8 := by omega
        rw [List.take_of_length_le (by simp [cfgTs]), ← cfgT_eq] at HP'
        have HS := hide (pr_string W.heap.size b _ _ wr HP'.out hBw)
        have hL := HL.out
        clear hlt
        go_wp2_with fail
        refine HS.out.mono ?_
        rintro e w4 ⟨rfl, hb⟩
        have HB4 := hide (HBR.out.trans hb)
        clear hb HS
        go_wp2_with fail
        refine (fits_any ⟨(cfgT x).toArray⟩ w4 (by show (cfgT x).length ≤ _; omega)).mono ?_
        rintro e w5 ⟨rfl, rfl⟩
        rcases (by unfold fitsE; split <;> exact ⟨_, _, rfl⟩ : ∃ p q, fitsE ⟨(cfgT x).toArray⟩ = .tuple #[p, q]) with ⟨p, q, hpq⟩
        rw [hpq] at HE ⊢
        go_wp2_with fail
        go_ret2
        exact ⟨by rw [HE.out]; rfl, HB4.out⟩
      rcases (by omega : k = 0 ∨ k = 1 ∨ k = 2 ∨ k = 3 ∨ k = 4 ∨ k = 5 ∨ k = 6 ∨ k = 7) with rfl | rfl | rfl | rfl | rfl | rfl | rfl | rfl
      · have cf := cell_of_row _ _ 0 _ _ _ HXr.out
        have HT := hide (show (cfgTs x)[0]? = some _ from rfl)
        have hroom := catT_room (f := id) HT.out
        have hL := HL.out
        rw [cfgT_eq] at hL
        have HC := hide (p_modules W.heap.size b _ _ x.modules wr HP' (hide (H0.out.lateG HBR.out)) (hide HF.out.1) (by show (catT id _).length + (id (catT modT x.modules)).length ≤ _; omega) hl.nm hBw hGB (hide (hE.out.kept HBR.out)) hGP (hide (hP.out.below HBR.out)) hl.m)
        go_wp2_with fail
        refine HC.out.mono ?_
        rintro e w9 ⟨rfl, h1, h2, h3⟩
        have HP9 := hide h1
        have HB9 := hide (HBR.out.trans h2)
        have HK9 := hide (HKR.out.trans h3)
        clear h1 h2 h3 HC
        go_wp2_with fail
        go_roundw
        case rel => exact ⟨0 + 1, by omega, by go_num, by rw [catT_step HT.out]; exact HP9.out, HB9.out, HK9.out⟩
        case measure => simp [intOf]
      · have cf := cell_of_row _ _ 1 _ _ _ HXr.out
        have HT := hide (show (cfgTs x)[1]? = some _ from rfl)
        have hroom := catT_room (f := id) HT.out
        have hL := HL.out
        rw [cfgT_eq] at hL
        have HC := hide (p_channels W.heap.size b _ _ x.channels wr HP' (hide (H1.out.lateG HBR.out)) (hide HF.out.2.1) (by show (catT id _).length + (id (catT chanT x.channels)).length ≤ _; omega) hl.nc hBw hGB (hide (hE.out.kept HBR.out)) hGP (hide (hP.out.below HBR.out)))
        go_wp2_with fail
        refine HC.out.mono ?_
        rintro e w9 ⟨rfl, h1, h2, h3⟩
        have HP9 := hide h1
        have HB9 := hide (HBR.out.trans h2)
        have HK9 := hide (HKR.out.trans h3)
        clear h1 h2 h3 HC
        go_wp2_with fail
        go_roundw
        case rel => exact ⟨1 + 1, by omega, by go_num, by rw [catT_step HT.out]; exact HP9.out, HB9.out, HK9.out⟩
        case measure => simp [intOf]
      · have cf := cell_of_row _ _ 2 _ _ _ HXr.out
        have HT := hide (show (cfgTs x)[2]? = some _ from rfl)
        have hroom := catT_room (f := id) HT.out
        have hL := HL.out
        rw [cfgT_eq] at hL
        have HC := hide (p_switches W.heap.size b _ _ x.switches wr HP' (hide (H2.out.lateG HBR.out)) (hide HF.out.2.2.1) (by show (catT id _).length + (id (catT swT x.switches)).length ≤ _; omega) hl.ns hBw hGB (hide (hE.out.kept HBR.out)) hGP (hide (hP.out.below HBR.out)))
        go_wp2_with fail
        refine HC.out.mono ?_
        rintro e w9 ⟨rfl, h1, h2, h3⟩
        have HP9 := hide h1
        have HB9 := hide (HBR.out.trans h2)
        have HK9 := hide (HKR.out.trans h3)
        clear h1 h2 h3 HC
        go_wp2_with fail
        go_roundw
        case rel => exact ⟨2 + 1, by omega, by go_num, by rw [catT_step HT.out]; exact HP9.out, HB9.out, HK9.out⟩
        case measure => simp [intOf]
      · have cf := cell_of_row _ _ 3 _ _ _ HXr.out
        have HT := hide (show (cfgTs x)[3]? = some _ from rfl)
        have hroom := catT_room (f := id) HT.out
        have hL := HL.out
        rw [cfgT_eq] at hL
        have HC := hide (p_links W.heap.size b _ _ x.links wr HP' (hide (H3.out.lateG HBR.out)) (hide HF.out.2.2.2.1) (by show (catT id _).length + (id (catT linkT x.links)).length ≤ _; omega) hl.nl hBw hGB (hide (hE.out.kept HBR.out)) hGP (hide (hP.out.below HBR.out)))
        go_wp2_with fail
        refine HC.out.mono ?_
        rintro e w9 ⟨rfl, h1, h2, h3⟩
        have HP9 := hide h1
        have HB9 := hide (HBR.out.trans h2)
        have HK9 := hide (HKR.out.trans h3)
        clear h1 h2 h3 HC
        go_wp2_with fail
        go_roundw
        case rel => exact ⟨3 + 1, by omega, by go_num, by rw [catT_step HT.out]; exact HP9.out, HB9.out, HK9.out⟩
        case measure => simp [intOf]
      · have cf := cell_of_row _ _ 4 _ _ _ HXr.out
        have HT := hide (show (cfgTs x)[4]? = some _ from rfl)
        have hroom := catT_room (f := id) HT.out
        have hL := HL.out
        rw [cfgT_eq] at hL
        have HC := hide (p_vls W.heap.size b _ _ x.vls wr HP' (hide (H4.out.lateG HBR.out)) (hide HF.out.2.2.2.2.1) (by show (catT id _).length + (id (catT vlT x.vls)).length ≤ _; omega) hl.nv hBw hGB (hide (hE.out.kept HBR.out)) hGP (hide (hP.out.below HBR.out)))
        go_wp2_with fail
        refine HC.out.mono ?_
        rintro e w9 ⟨rfl, h1, h2, h3⟩
        have HP9 := hide h1
        have HB9 := hide (HBR.out.trans h2)
        have HK9 := hide (HKR.out.trans h3)
        clear h1 h2 h3 HC
        go_wp2_with fail
        go_roundw
        case rel => exact ⟨4 + 1, by omega, by go_num, by rw [catT_step HT.out]; exact HP9.out, HB9.out, HK9.out⟩
        case measure => simp [intOf]
      · have cf := cell_of_row _ _ 5 _ _ _ HXr.out
        have HT := hide (show (cfgTs x)[5]? = some _ from rfl)
        have hroom := catT_room (f := id) HT.out
        have hL := HL.out
        rw [cfgT_eq] at hL
        have HC := hide (p_health W.heap.size b _ _ x.health wr HP' (hide (H5.out.lateG HBR.out)) (hide HF.out.2.2.2.2.2.1) (by show (catT id _).length + (id (catT healthT x.health)).length ≤ _; omega) hl.nh hBw hGB (hide (hE.out.kept HBR.out)) hGP (hide (hP.out.below HBR.out)) hl.h)
        go_wp2_with fail
        refine HC.out.mono ?_
        rintro e w9 ⟨rfl, h1, h2, h3⟩
        have HP9 := hide h1
        have HB9 := hide (HBR.out.trans h2)
        have HK9 := hide (HKR.out.trans h3)
        clear h1 h2 h3 HC
        go_wp2_with fail
        go_roundw
        case rel => exact ⟨5 + 1, by omega, by go_num, by rw [catT_step HT.out]; exact HP9.out, HB9.out, HK9.out⟩
        case measure => simp [intOf]
      · have cf := cell_of_row _ _ 6 _ _ _ HXr.out
        have HT := hide (show (cfgTs x)[6]? = some _ from rfl)
        have hroom := catT_room (f := id) HT.out
        have hL := HL.out
        rw [cfgT_eq] at hL
        have HC := hide (p_causes W.heap.size b _ _ x.causes wr HP' (hide (H6.out.lateG HBR.out)) (hide HF.out.2.2.2.2.2.2.1) (by show (catT id _).length + (id (catT causeT x.causes)).length ≤ _; omega) hl.nk hBw hGB (hide (hE.out.kept HBR.out)) hGP (hide (hP.out.below HBR.out)) hl.k)
        go_wp2_with fail
        refine HC.out.mono ?_
        rintro e w9 ⟨rfl, h1, h2, h3⟩
        have HP9 := hide h1
        have HB9 := hide (HBR.out.trans h2)
        have HK9 := hide (HKR.out.trans h3)
        clear h1 h2 h3 HC
        go_wp2_with fail
        go_roundw
        case rel => exact ⟨6 + 1, by omega, by go_num, by rw [catT_step HT.out]; exact HP9.out, HB9.out, HK9.out⟩
        case measure => simp [intOf]
      · have cf := cell_of_row _ _ 7 _ _ _ HXr.out
        have HT := hide (show (cfgTs x)[7]? = some _ from rfl)
        have hroom := catT_room (f := id) HT.out
        have hL := HL.out
        rw [cfgT_eq] at hL
        have HC := hide (p_versions W.heap.size b _ _ x.versions wr HP' (hide (H7.out.lateG HBR.out)) (hide HF.out.2.2.2.2.2.2.2) (by show (catT id _).length + (id (catT verT x.versions)).length ≤ _; omega) hl.nr hBw hGB (hide (hE.out.kept HBR.out)) hGP (hide (hP.out.below HBR.out)))
        go_wp2_with fail
        refine HC.out.mono ?_
        rintro e w9 ⟨rfl, h1, h2, h3⟩
        have HP9 := hide h1
        have HB9 := hide (HBR.out.trans h2)
        have HK9 := hide (HKR.out.trans h3)
        clear h1 h2 h3 HC
        go_wp2_with fail
        go_roundw
        case rel => exact ⟨7 + 1, by omega, by go_num, by rw [catT_step HT.out]; exact HP9.out, HB9.out, HK9.out⟩
        case measure => simp [intOf]
end Go.Proofs.YtndpnpohdoggjaaGreatDoor
namespace Go.Proofs.YtndpnpohdoggjaaGreatDoor
open Go.RowKit
def portA : PortD := ⟨[105], 2, false, 8, 3, 0⟩
def portB : PortD := ⟨[105], 3, false, 8, 3, 0⟩
def portC : PortD := ⟨[105], 1, false, 0, 1, 0⟩
def cfgA (p : PortD) : CfgD := { CfgD.none with modules := [⟨[109], 1, 2, [⟨[112], 2, 1, 0, [], 0, 0, [], [p], []⟩]⟩], vls := [⟨[118], ⟨[109, 49], [112, 49], [111]⟩, 200, 40, [⟨[109, 50], [112, 50], [105]⟩, ⟨[109, 51], [112, 49], [105]⟩]⟩], causes := [⟨[117], [⟨[120], 1⟩, ⟨[121], 2⟩], [[122]]⟩] }
def wantT : ByteArray := ⟨#[109, 111, 100, 117, 108, 101, 32, 109, 32, 109, 101, 109, 32, 49, 32, 102, 114, 97, 109, 101, 32, 50, 32, 123, 10, 9, 112, 97, 114, 116, 32, 112, 32, 112, 101, 114, 105, 111, 100, 32, 50, 32, 108, 101, 110, 103, 116, 104, 32, 49, 32, 109, 101, 109, 32, 48, 32, 123, 10, 9, 9, 105, 110, 32, 105, 32, 113, 117, 101, 117, 105, 110, 103, 32, 115, 105, 122, 101, 32, 56, 32, 100, 101, 112, 116, 104, 32, 51, 59, 10, 9, 125, 10, 125, 10, 118, 108, 32, 118, 32, 102, 114, 111, 109, 32, 109, 49, 46, 112, 49, 46, 111, 32, 98, 97, 103, 32, 50, 48, 48, 32, 109, 97, 120, 32, 52, 48, 32, 116, 111, 32, 109, 50, 46, 112, 50, 46, 105, 44, 32, 109, 51, 46, 112, 49, 46, 105, 59, 10, 99, 97, 117, 115, 101, 32, 117, 32, 110, 101, 101, 100, 115, 32, 120, 58, 49, 44, 32, 121, 58, 50, 32, 117, 110, 108, 101, 115, 115, 32, 122, 59, 10]⟩
def insA : List InsD := [⟨2, 0, 5, 0⟩, ⟨19, 0, 0, 0⟩]
theorem cfgA_yes : cfgF (cfgA portA) = true := by kernel_rfl
theorem cfgB_no : cfgF (cfgA portB) = false := by kernel_rfl
theorem cfgC_no : cfgF (cfgA portC) = false := by kernel_rfl
theorem itoa0 : Lib.itoa 0 = [48] := by rw [show (0 : Int) = ((0 : Nat) : Int) from rfl, Lib.itoa_nonneg]; unfold Lib.decDigits; rfl
theorem itoa1 : Lib.itoa 1 = [49] := by rw [show (1 : Int) = ((1 : Nat) : Int) from rfl, Lib.itoa_nonneg]; unfold Lib.decDigits; rfl
theorem itoa2 : Lib.itoa 2 = [50] := by rw [show (2 : Int) = ((2 : Nat) : Int) from rfl, Lib.itoa_nonneg]; unfold Lib.decDigits; rfl
theorem itoa3 : Lib.itoa 3 = [51] := by rw [show (3 : Int) = ((3 : Nat) : Int) from rfl, Lib.itoa_nonneg]; unfold Lib.decDigits; rfl
theorem itoa5 : Lib.itoa 5 = [53] := by rw [show (5 : Int) = ((5 : Nat) : Int) from rfl, Lib.itoa_nonneg]; unfold Lib.decDigits; rfl
theorem itoa8 : Lib.itoa 8 = [56] := by rw [show (8 : Int) = ((8 : Nat) : Int) from rfl, Lib.itoa_nonneg]; unfold Lib.decDigits; rfl
theorem dd4 : Lib.decDigits 4 = [52] := by unfold Lib.decDigits; rfl
theorem dd2 : Lib.decDigits 2 = [50] := by unfold Lib.decDigits; rfl
theorem dd20 : Lib.decDigits 20 = [50, 48] := by unfold Lib.decDigits; rw [dif_neg (by decide), dd2]; rfl
theorem itoa40 : Lib.itoa 40 = [52, 48] := by rw [show (40 : Int) = ((40 : Nat) : Int) from rfl, Lib.itoa_nonneg]; unfold Lib.decDigits; rw [dif_neg (by decide), dd4]; rfl
theorem itoa200 : Lib.itoa 200 = [50, 48, 48] := by rw [show (200 : Int) = ((200 : Nat) : Int) from rfl, Lib.itoa_nonneg]; unfold Lib.decDigits; rw [dif_neg (by decide), dd20]; rfl
theorem cfgA_t : cfgT (cfgA portA) = wantT.data.toList := by
  simp [cfgT, cfgA, CfgD.none, catT, modT, modH, partT, partH, semasT, eventsT, boardsT, bufsT, portT, wayT, portA, vlT, causeT, causeA, lnT, sayT, Arg.txt, refT, refsT, repsT, repT, sepT, Lib.repeatL, Lib.join, List.intercalate, List.intersperse, itoa0, itoa1, itoa2, itoa3, itoa8, itoa40, itoa200, wantT]
theorem cfgA_fits : cfgE (cfgA portA) = .tuple #[.string wantT, .int .i64 0] := by
  unfold cfgE
  rw [if_pos cfgA_yes, cfgA_t]
  have e : (⟨wantT.data.toList.toArray⟩ : ByteArray) = wantT := by apply ByteArray.ext; simp
  rw [e]
  unfold fitsE
  rw [if_neg (by decide +kernel)]
theorem cfgB_e : cfgE (cfgA portB) = .tuple #[.string ⟨#[]⟩, .int .i64 2] := by
  unfold cfgE
  rw [if_neg (by rw [cfgB_no]; decide)]
theorem cfgC_e : cfgE (cfgA portC) = .tuple #[.string ⟨#[]⟩, .int .i64 2] := by
  unfold cfgE
  rw [if_neg (by rw [cfgC_no]; decide)]
theorem insA_yes : insA.all insF = true := by kernel_rfl
theorem insA_t : codesT insA = [115, 101, 116, 32, 48, 32, 53, 59, 32, 110, 101, 120, 116, 59] := by
  have h1 : insT ⟨2, 0, 5, 0⟩ = [115, 101, 116, 32, 48, 32, 53, 59] := by
    rw [insT_eq, show opsOf ⟨2, 0, 5, 0⟩ = [0, 5] from rfl, show wordN insWords (InsD.op ⟨2, 0, 5, 0⟩) = [115, 101, 116] from rfl]
    simp [catT, opT, itoa0, itoa5]
  have h2 : insT ⟨19, 0, 0, 0⟩ = [110, 101, 120, 116, 59] := by
    rw [insT_eq, show opsOf ⟨19, 0, 0, 0⟩ = [] from rfl, show wordN insWords (InsD.op ⟨19, 0, 0, 0⟩) = [110, 101, 120, 116] from rfl]
    simp [catT]
  unfold codesT insA
  rw [List.map_cons, List.map_cons, List.map_nil, h1, h2]
  rfl
theorem insA_e : codeE insA = .tuple #[.string ⟨#[115, 101, 116, 32, 48, 32, 53, 59, 32, 110, 101, 120, 116, 59]⟩, .int .i64 0] := by
  unfold codeE
  rw [if_pos insA_yes, insA_t]
  unfold fitsE
  rw [if_neg (by decide)]
theorem cfgA_fit (p : PortD) : CfgFit (cfgA p) := by
  constructor <;> simp [cfgA, CfgD.none, ModFit, PartFit, CauseFit]
/-- What awake lays. -/
def aVs (z : Nat) : List Value := [.slice (some ⟨z + 1 + 1 + 1 + 1, 0, none⟩) 1 1, .slice none 0 0, .slice none 0 0, .slice none 0 0, .slice (some ⟨z + 1 + 1 + 1 + 1 + 1 + 1, 0, none⟩) 1 1, .slice none 0 0, .slice (some ⟨z + 1 + 1 + 1 + 1 + 1 + 1 + 1 + 1 + 1, 0, none⟩) 1 1, .slice none 0 0]
def portVs (p : PortD) : Array Value := #[.string ⟨p.name.toArray⟩, .int .u8 (p.kind : Int), .bool p.out, .int .i64 p.size, .int .i64 p.depth, .int .i64 p.refresh]
def aOb (z : Nat) (p : Array Value) : List Obj := [
  .cells #[.string ⟨#[109, 50]⟩, .string ⟨#[112, 50]⟩, .string ⟨#[105]⟩] 57,
  .cells #[.string ⟨#[109, 51]⟩, .string ⟨#[112, 49]⟩, .string ⟨#[105]⟩] 57,
  .cells p 59,
  .cells #[.string ⟨#[112]⟩, .int .i64 2, .int .i64 1, .int .i64 0, .slice none 0 0, .int .i64 0, .int .i64 0, .slice none 0 0, .slice (some ⟨z + 1 + 1, 0, none⟩) 1 1, .slice none 0 0] 36,
  .cells #[.string ⟨#[109]⟩, .int .i64 1, .int .i64 2, .slice (some ⟨z + 1 + 1 + 1, 0, none⟩) 1 1] 39,
  .cells #[.string ⟨#[109, 50]⟩, .string ⟨#[112, 50]⟩, .string ⟨#[105]⟩, .string ⟨#[109, 51]⟩, .string ⟨#[112, 49]⟩, .string ⟨#[105]⟩] 57,
  .cells #[.string ⟨#[118]⟩, .string ⟨#[109, 49]⟩, .string ⟨#[112, 49]⟩, .string ⟨#[111]⟩, .int .i64 200, .int .i64 40, .slice (some ⟨z + 1 + 1 + 1 + 1 + 1, 0, none⟩) 2 2] 62,
  .cells #[.string ⟨#[120]⟩, .int .i64 1, .string ⟨#[121]⟩, .int .i64 2] 64,
  .cells #[.string ⟨#[122]⟩] 9,
  .cells #[.string ⟨#[117]⟩, .slice (some ⟨z + 1 + 1 + 1 + 1 + 1 + 1 + 1, 0, none⟩) 2 2, .slice (some ⟨z + 1 + 1 + 1 + 1 + 1 + 1 + 1 + 1, 0, none⟩) 1 1] 68,
  .cells (aVs z).toArray 49]
/-- The blocks stand in w. -/
def AAt (w : World) (z : Nat) (p : PortD) : Prop := ∀ (i : Nat) (o : Obj), (aOb z (portVs p))[i]? = some o → w.heap[z + i]? = some o
theorem AAt.below {w w' : World} {z : Nat} {p : PortD} (h : AAt w z p) (hb : Below w.heap.size w w') : AAt w' z p := fun i o ho => (hb.block _ (Array.getElem?_eq_some_iff.1 (h i o ho)).1).trans (h i o ho)
theorem AAt.cfg {V : World} {z : Nat} {p : PortD} (hat : AAt V z p) : DCells V (fun _ => True) (aVs z) (cfgA p).cells := by
  have d0 : DAt V (fun _ => True) (.slice (some ⟨z + 1 + 1, 0, none⟩) 1 1) (.row 6 [PortD.cells p]) :=
    DAt.block (hat 2 _ rfl) rfl (by simp [PortD.cells]) (by (show DCells V _ [_, _, _, _, _, _] _; (repeat (refine DCells.cons ?_ ?_; first | exact .leaf _ | exact .nil _ _ _ | assumption)); exact DCells.nil)) trivial
  have d1 : DAt V (fun _ => True) (.slice (some ⟨z + 1 + 1 + 1, 0, none⟩) 1 1) (.row 10 [PartD.cells ⟨[112], 2, 1, 0, [], 0, 0, [], [p], []⟩]) :=
    DAt.block (hat 3 _ rfl) rfl (by simp [PartD.cells]) (by ((repeat (refine DCells.cons ?_ ?_; first | exact .leaf _ | exact .nil _ _ _ | assumption)); exact DCells.nil)) trivial
  have d2 : DAt V (fun _ => True) (.slice (some ⟨z + 1 + 1 + 1 + 1, 0, none⟩) 1 1) (.row 4 ((cfgA p).modules.map ModD.cells)) :=
    DAt.block (hat 4 _ rfl) rfl (by simp [cfgA, ModD.cells]) (by ((repeat (refine DCells.cons ?_ ?_; first | exact .leaf _ | exact .nil _ _ _ | assumption)); exact DCells.nil)) trivial
  have d3 : DAt V (fun _ => True) (.slice (some ⟨z + 1 + 1 + 1 + 1 + 1, 0, none⟩) 2 2) (.row 3 [RefD.cells ⟨[109, 50], [112, 50], [105]⟩, RefD.cells ⟨[109, 51], [112, 49], [105]⟩]) :=
    DAt.block (hat 5 _ rfl) rfl (by simp [RefD.cells]) (by ((repeat (refine DCells.cons ?_ ?_; first | exact .leaf _ | exact .nil _ _ _ | assumption)); exact DCells.nil)) trivial
  have d4 : DAt V (fun _ => True) (.slice (some ⟨z + 1 + 1 + 1 + 1 + 1 + 1, 0, none⟩) 1 1) (.row 7 ((cfgA p).vls.map VlD.cells)) :=
    DAt.block (hat 6 _ rfl) rfl (by simp [cfgA, VlD.cells, RefD.cells]) (by ((repeat (refine DCells.cons ?_ ?_; first | exact .leaf _ | exact .nil _ _ _ | assumption)); exact DCells.nil)) trivial
  have d5 : DAt V (fun _ => True) (.slice (some ⟨z + 1 + 1 + 1 + 1 + 1 + 1 + 1, 0, none⟩) 2 2) (.row 2 [RepD.cells ⟨[120], 1⟩, RepD.cells ⟨[121], 2⟩]) :=
    DAt.block (hat 7 _ rfl) rfl (by simp [RepD.cells]) (by ((repeat (refine DCells.cons ?_ ?_; first | exact .leaf _ | exact .nil _ _ _ | assumption)); exact DCells.nil)) trivial
  have d6 : DAt V (fun _ => True) (.slice (some ⟨z + 1 + 1 + 1 + 1 + 1 + 1 + 1 + 1, 0, none⟩) 1 1) (.row 1 (strRows [[122]])) :=
    DAt.block (hat 8 _ rfl) rfl (by simp [strRows]) (by ((repeat (refine DCells.cons ?_ ?_; first | exact .leaf _ | exact .nil _ _ _ | assumption)); exact DCells.nil)) trivial
  have d7 : DAt V (fun _ => True) (.slice (some ⟨z + 1 + 1 + 1 + 1 + 1 + 1 + 1 + 1 + 1, 0, none⟩) 1 1) (.row 3 ((cfgA p).causes.map CauseD.cells)) :=
    DAt.block (hat 9 _ rfl) rfl (by simp [cfgA, CauseD.cells]) (by ((repeat (refine DCells.cons ?_ ?_; first | exact .leaf _ | exact .nil _ _ _ | assumption)); exact DCells.nil)) trivial
  ((repeat (refine DCells.cons ?_ ?_; first | exact .leaf _ | exact .nil _ _ _ | assumption)); exact DCells.nil)
end Go.Proofs.YtndpnpohdoggjaaGreatDoor
namespace Go.Proofs.YtndpnpohdoggjaaGreatDoor
open Go.RowKit
attribute [local go_sem] Later.cell
theorem AAt.put {w : World} {z j : Nat} {p q : PortD} {v : Value} (h : AAt w z p) (hq : portVs q = (portVs p).setIfInBounds j v) : AAt (w.setCell ⟨z + 1 + 1, j, none⟩ v) z q := by
  intro i o ho
  by_cases hi : i = 2
  · subst hi
    have e : o = .cells (portVs q) 59 := by simpa [aOb] using ho.symm
    subst e
    rw [hq]
    exact heap_setCell_same w (z + 2) j _ _ v (h 2 _ rfl)
  · have e : (aOb z (portVs p))[i]? = some o := by
      rw [← ho]
      match i, hi with
      | 0, _ => rfl
      | 1, _ => rfl
      | i + 3, _ => rfl
    exact (Below.heap_setCell w _ _ _ (by show z + i ≠ z + 1 + 1; omega)).trans (h i o e)
theorem AAt.cfgcell {w : World} {z : Nat} {p : PortD} (h : AAt w z p) (j : Nat) : w.cell? ⟨z + 1 + 1 + 1 + 1 + 1 + 1 + 1 + 1 + 1 + 1, j, none⟩ = (aVs z).toArray[j]? := cell_of_row _ _ j _ _ _ (h 10 _ rfl)
def portB1 : PortD := ⟨[105], 3, false, 8, 3, 0⟩
set_option maxRecDepth 100000 in
set_option maxHeartbeats 8000000 in
theorem awake_any (W : World) (hE : Hid (Env W)) (hP : Hid (EnvP W)) : Calls Tryz.prog 4 #[] W fun e w' => e = .returned (.bool true) ∧ Below W.heap.size W w' := by
  have HA := hide (fun V hE hP hd => config_any (cfgA portA) (aVs W.heap.size) V hE hP hd (cfgA_fit _) (fun _ => by rw [cfgA_t]; decide +kernel))
  have HB := hide (fun V hE hP hd => config_any (cfgA portB) (aVs W.heap.size) V hE hP hd (cfgA_fit _) (fun h => by rw [cfgB_no] at h; cases h))
  have HC := hide (fun V hE hP hd => config_any (cfgA portC) (aVs W.heap.size) V hE hP hd (cfgA_fit _) (fun h => by rw [cfgC_no] at h; cases h))
  rw [cfgA_fits] at HA
  unfold wantT at HA
  rw [cfgB_e] at HB
  rw [cfgC_e] at HC
  have HD := hide (fun v V hv hE hP => codesrc_any v insA V hv (by decide) (by decide) hE hP)
  rw [insA_e] at HD
  have HS := hide (fun V ha => same_cfg (cfgA portC) (aVs W.heap.size) (aVs W.heap.size) V ha ha (cfgA_fit _))
  go_enter Tryz.func4, Tryz.ntmps4
  go_wp2_with fail
  have hb0 := allocS_below (aOb W.heap.size (portVs portA)) W
  have HT0 := hide (show AAt (allocS W (aOb W.heap.size (portVs portA))) W.heap.size portA from fun i o ho => allocS_at _ W i o ho)
  change Calls _ _ _ (allocS W (aOb W.heap.size (portVs portA))) _
  generalize allocS W (aOb W.heap.size (portVs portA)) = w0 at *
  refine (HA.out w0 (hide (hE.out.kept hb0)) (hide (hP.out.below hb0)) (hide HT0.out.cfg)).mono ?_
  rintro e w1 ⟨rfl, hb1⟩
  have HB1 := hide (hb0.trans (hb1.mono hb0.size))
  have HT1 := hide (HT0.out.below hb1)
  clear hb0 hb1 HT0 HA
  have hz1 : W.heap.size + 11 ≤ w1.heap.size := (Array.getElem?_eq_some_iff.1 (HT1.out 10 _ rfl)).1
  go_wp2_with fail
  have HD0 := hide (show DAt (w1.alloc (.cells #[.int .u8 2, .int .i64 0, .int .i64 5, .int .i64 0, .int .u8 19, .int .i64 0, .int .i64 0, .int .i64 0] 70)) (fun _ => True) (.slice (some ⟨w1.heap.size, 0, none⟩) 2 2) (.row 4 (insA.map InsD.cells)) from DAt.block (heap_alloc_new w1 _) rfl (by simp [insA, InsD.cells]) (by ((repeat (refine DCells.cons ?_ ?_; first | exact .leaf _ | exact .nil _ _ _ | assumption)); exact DCells.nil)) trivial)
  have hb2 := HB1.out.alloc HB1.out.size (.cells #[.int .u8 2, .int .i64 0, .int .i64 5, .int .i64 0, .int .u8 19, .int .i64 0, .int .i64 0, .int .i64 0] 70)
  have HT2 := hide (HT1.out.below ((Below.refl w1.heap.size w1).alloc (Nat.le_refl _) (.cells #[.int .u8 2, .int .i64 0, .int .i64 5, .int .i64 0, .int .u8 19, .int .i64 0, .int .i64 0, .int .i64 0] 70)))
  refine (HD.out _ _ HD0 (hide (hE.out.kept hb2)) (hide (hP.out.below hb2))).mono ?_
  rintro e w3 ⟨rfl, hb3⟩
  have HB3 := hide (hb2.trans (hb3.mono hb2.size))
  have HT3 := hide (HT2.out.below hb3)
  clear hb2 hb3 HT1 HT2 HB1 HD0 HD hz1
  have c0 : w3.cell? ⟨W.heap.size + 1 + 1 + 1 + 1 + 1 + 1 + 1 + 1 + 1 + 1, 0, none⟩ = some (.slice (some ⟨W.heap.size + 1 + 1 + 1 + 1, 0, none⟩) 1 1) := HT3.out.cfgcell 0
  have c1 : w3.cell? ⟨W.heap.size + 1 + 1 + 1 + 1, 3, none⟩ = some (.slice (some ⟨W.heap.size + 1 + 1 + 1, 0, none⟩) 1 1) := cell_of_row _ _ 3 _ _ _ (HT3.out 4 _ rfl)
  have c2 : w3.cell? ⟨W.heap.size + 1 + 1 + 1, 8, none⟩ = some (.slice (some ⟨W.heap.size + 1 + 1, 0, none⟩) 1 1) := cell_of_row _ _ 8 _ _ _ (HT3.out 3 _ rfl)
  have c3 : w3.cell? ⟨W.heap.size + 1 + 1, 1, none⟩ = some (.int .u8 2) := cell_of_row _ _ 1 _ _ _ (HT3.out 2 _ rfl)
  have f3 : w3.frozen? ⟨W.heap.size + 1 + 1, 1, none⟩ = false := frozen_of_row _ _ 1 _ _ (HT3.out 2 _ rfl)
  go_upto_region 8 with fail
  have HT4 := hide (HT3.out.put (q := portB) (j := 1) (v := .int .u8 3) rfl)
  have hb4 := HB3.out.setCell (p := ⟨W.heap.size + 1 + 1, 1, none⟩) (by show W.heap.size ≤ W.heap.size + 1 + 1; omega) (.int .u8 3)
  clear c0 c1 c2 c3 f3
  generalize w3.setCell ⟨W.heap.size + 1 + 1, 1, none⟩ (.int .u8 3) = w4 at *
  have q0 : w4.cell? ⟨W.heap.size + 1 + 1 + 1 + 1 + 1 + 1 + 1 + 1 + 1 + 1, 0, none⟩ = some (.slice (some ⟨W.heap.size + 1 + 1 + 1 + 1, 0, none⟩) 1 1) := HT4.out.cfgcell 0
  have q1 : w4.cell? ⟨W.heap.size + 1 + 1 + 1 + 1 + 1 + 1 + 1 + 1 + 1 + 1, 1, none⟩ = some (.slice none 0 0) := HT4.out.cfgcell 1
  have q2 : w4.cell? ⟨W.heap.size + 1 + 1 + 1 + 1 + 1 + 1 + 1 + 1 + 1 + 1, 2, none⟩ = some (.slice none 0 0) := HT4.out.cfgcell 2
  have q3 : w4.cell? ⟨W.heap.size + 1 + 1 + 1 + 1 + 1 + 1 + 1 + 1 + 1 + 1, 3, none⟩ = some (.slice none 0 0) := HT4.out.cfgcell 3
  have q4 : w4.cell? ⟨W.heap.size + 1 + 1 + 1 + 1 + 1 + 1 + 1 + 1 + 1 + 1, 4, none⟩ = some (.slice (some ⟨W.heap.size + 1 + 1 + 1 + 1 + 1 + 1, 0, none⟩) 1 1) := HT4.out.cfgcell 4
  have q5 : w4.cell? ⟨W.heap.size + 1 + 1 + 1 + 1 + 1 + 1 + 1 + 1 + 1 + 1, 5, none⟩ = some (.slice none 0 0) := HT4.out.cfgcell 5
  have q6 : w4.cell? ⟨W.heap.size + 1 + 1 + 1 + 1 + 1 + 1 + 1 + 1 + 1 + 1, 6, none⟩ = some (.slice (some ⟨W.heap.size + 1 + 1 + 1 + 1 + 1 + 1 + 1 + 1 + 1, 0, none⟩) 1 1) := HT4.out.cfgcell 6
  have q7 : w4.cell? ⟨W.heap.size + 1 + 1 + 1 + 1 + 1 + 1 + 1 + 1 + 1 + 1, 7, none⟩ = some (.slice none 0 0) := HT4.out.cfgcell 7
  go_wp2_with fail
  clear q0 q1 q2 q3 q4 q5 q6 q7
  refine (HB.out w4 (hide (hE.out.kept hb4)) (hide (hP.out.below hb4)) (hide HT4.out.cfg)).mono ?_
  rintro e w5 ⟨rfl, hb5⟩
  have HB5 := hide (hb4.trans (hb5.mono hb4.size))
  have HT5 := hide (HT4.out.below hb5)
  clear hb4 hb5 HT3 HT4 HB3 HB
  have c0 : w5.cell? ⟨W.heap.size + 1 + 1 + 1 + 1 + 1 + 1 + 1 + 1 + 1 + 1, 0, none⟩ = some (.slice (some ⟨W.heap.size + 1 + 1 + 1 + 1, 0, none⟩) 1 1) := HT5.out.cfgcell 0
  have c1 : w5.cell? ⟨W.heap.size + 1 + 1 + 1 + 1, 3, none⟩ = some (.slice (some ⟨W.heap.size + 1 + 1 + 1, 0, none⟩) 1 1) := cell_of_row _ _ 3 _ _ _ (HT5.out 4 _ rfl)
  have c2 : w5.cell? ⟨W.heap.size + 1 + 1 + 1, 8, none⟩ = some (.slice (some ⟨W.heap.size + 1 + 1, 0, none⟩) 1 1) := cell_of_row _ _ 8 _ _ _ (HT5.out 3 _ rfl)
  have p0 := cell_of_row _ _ 0 _ _ _ (HT5.out 2 _ rfl)
  have f0 := frozen_of_row _ _ 0 _ _ (HT5.out 2 _ rfl)
  have p1 := cell_of_row _ _ 1 _ _ _ (HT5.out 2 _ rfl)
  have f1 := frozen_of_row _ _ 1 _ _ (HT5.out 2 _ rfl)
  have p2 := cell_of_row _ _ 2 _ _ _ (HT5.out 2 _ rfl)
  have f2 := frozen_of_row _ _ 2 _ _ (HT5.out 2 _ rfl)
  have p3 := cell_of_row _ _ 3 _ _ _ (HT5.out 2 _ rfl)
  have f3 := frozen_of_row _ _ 3 _ _ (HT5.out 2 _ rfl)
  have p4 := cell_of_row _ _ 4 _ _ _ (HT5.out 2 _ rfl)
  have f4 := frozen_of_row _ _ 4 _ _ (HT5.out 2 _ rfl)
  have p5 := cell_of_row _ _ 5 _ _ _ (HT5.out 2 _ rfl)
  have f5 := frozen_of_row _ _ 5 _ _ (HT5.out 2 _ rfl)
  simp only [portVs] at p0 p1 p2 p3 p4 p5
  have HT6 := hide ((((((HT5.out.put (q := ⟨[105], 3, false, 8, 3, 0⟩) (j := 0) (v := .string ⟨#[105]⟩) rfl).put (q := ⟨[105], 1, false, 8, 3, 0⟩) (j := 1) (v := .int .u8 1) rfl).put (q := ⟨[105], 1, false, 8, 3, 0⟩) (j := 2) (v := .bool false) rfl).put (q := ⟨[105], 1, false, 0, 3, 0⟩) (j := 3) (v := .int .i64 0) rfl).put (q := ⟨[105], 1, false, 0, 1, 0⟩) (j := 4) (v := .int .i64 1) rfl).put (q := portC) (j := 5) (v := .int .i64 0) rfl)
  have hb6 := (((((HB5.out.setCell (p := ⟨W.heap.size + 1 + 1, 0, none⟩) (by show W.heap.size ≤ W.heap.size + 1 + 1; omega) (.string ⟨#[105]⟩)).setCell (p := ⟨W.heap.size + 1 + 1, 1, none⟩) (by show W.heap.size ≤ W.heap.size + 1 + 1; omega) (.int .u8 1)).setCell (p := ⟨W.heap.size + 1 + 1, 2, none⟩) (by show W.heap.size ≤ W.heap.size + 1 + 1; omega) (.bool false)).setCell (p := ⟨W.heap.size + 1 + 1, 3, none⟩) (by show W.heap.size ≤ W.heap.size + 1 + 1; omega) (.int .i64 0)).setCell (p := ⟨W.heap.size + 1 + 1, 4, none⟩) (by show W.heap.size ≤ W.heap.size + 1 + 1; omega) (.int .i64 1)).setCell (p := ⟨W.heap.size + 1 + 1, 5, none⟩) (by show W.heap.size ≤ W.heap.size + 1 + 1; omega) (.int .i64 0)
  go_upto_region 10 with fail
  clear c0 c1 c2 p0 p1 p2 p3 p4 p5 f0 f1 f2 f3 f4 f5
  generalize (((((w5.setCell ⟨W.heap.size + 1 + 1, 0, none⟩ (.string ⟨#[105]⟩)).setCell ⟨W.heap.size + 1 + 1, 1, none⟩ (.int .u8 1)).setCell ⟨W.heap.size + 1 + 1, 2, none⟩ (.bool false)).setCell ⟨W.heap.size + 1 + 1, 3, none⟩ (.int .i64 0)).setCell ⟨W.heap.size + 1 + 1, 4, none⟩ (.int .i64 1)).setCell ⟨W.heap.size + 1 + 1, 5, none⟩ (.int .i64 0) = w6 at *
  have q0 : w6.cell? ⟨W.heap.size + 1 + 1 + 1 + 1 + 1 + 1 + 1 + 1 + 1 + 1, 0, none⟩ = some (.slice (some ⟨W.heap.size + 1 + 1 + 1 + 1, 0, none⟩) 1 1) := HT6.out.cfgcell 0
  have q1 : w6.cell? ⟨W.heap.size + 1 + 1 + 1 + 1 + 1 + 1 + 1 + 1 + 1 + 1, 1, none⟩ = some (.slice none 0 0) := HT6.out.cfgcell 1
  have q2 : w6.cell? ⟨W.heap.size + 1 + 1 + 1 + 1 + 1 + 1 + 1 + 1 + 1 + 1, 2, none⟩ = some (.slice none 0 0) := HT6.out.cfgcell 2
  have q3 : w6.cell? ⟨W.heap.size + 1 + 1 + 1 + 1 + 1 + 1 + 1 + 1 + 1 + 1, 3, none⟩ = some (.slice none 0 0) := HT6.out.cfgcell 3
  have q4 : w6.cell? ⟨W.heap.size + 1 + 1 + 1 + 1 + 1 + 1 + 1 + 1 + 1 + 1, 4, none⟩ = some (.slice (some ⟨W.heap.size + 1 + 1 + 1 + 1 + 1 + 1, 0, none⟩) 1 1) := HT6.out.cfgcell 4
  have q5 : w6.cell? ⟨W.heap.size + 1 + 1 + 1 + 1 + 1 + 1 + 1 + 1 + 1 + 1, 5, none⟩ = some (.slice none 0 0) := HT6.out.cfgcell 5
  have q6 : w6.cell? ⟨W.heap.size + 1 + 1 + 1 + 1 + 1 + 1 + 1 + 1 + 1 + 1, 6, none⟩ = some (.slice (some ⟨W.heap.size + 1 + 1 + 1 + 1 + 1 + 1 + 1 + 1 + 1, 0, none⟩) 1 1) := HT6.out.cfgcell 6
  have q7 : w6.cell? ⟨W.heap.size + 1 + 1 + 1 + 1 + 1 + 1 + 1 + 1 + 1 + 1, 7, none⟩ = some (.slice none 0 0) := HT6.out.cfgcell 7
  go_wp2_with fail
  clear q0 q1 q2 q3 q4 q5 q6 q7
  refine (HC.out w6 (hide (hE.out.kept hb6)) (hide (hP.out.below hb6)) (hide HT6.out.cfg)).mono ?_
  rintro e w7 ⟨rfl, hb7⟩
  have HB7 := hide (hb6.trans (hb7.mono hb6.size))
  have HT7 := hide (HT6.out.below hb7)
  clear hb6 hb7 HT5 HT6 HB5 HC
  have q0 : w7.cell? ⟨W.heap.size + 1 + 1 + 1 + 1 + 1 + 1 + 1 + 1 + 1 + 1, 0, none⟩ = some (.slice (some ⟨W.heap.size + 1 + 1 + 1 + 1, 0, none⟩) 1 1) := HT7.out.cfgcell 0
  have q1 : w7.cell? ⟨W.heap.size + 1 + 1 + 1 + 1 + 1 + 1 + 1 + 1 + 1 + 1, 1, none⟩ = some (.slice none 0 0) := HT7.out.cfgcell 1
  have q2 : w7.cell? ⟨W.heap.size + 1 + 1 + 1 + 1 + 1 + 1 + 1 + 1 + 1 + 1, 2, none⟩ = some (.slice none 0 0) := HT7.out.cfgcell 2
  have q3 : w7.cell? ⟨W.heap.size + 1 + 1 + 1 + 1 + 1 + 1 + 1 + 1 + 1 + 1, 3, none⟩ = some (.slice none 0 0) := HT7.out.cfgcell 3
  have q4 : w7.cell? ⟨W.heap.size + 1 + 1 + 1 + 1 + 1 + 1 + 1 + 1 + 1 + 1, 4, none⟩ = some (.slice (some ⟨W.heap.size + 1 + 1 + 1 + 1 + 1 + 1, 0, none⟩) 1 1) := HT7.out.cfgcell 4
  have q5 : w7.cell? ⟨W.heap.size + 1 + 1 + 1 + 1 + 1 + 1 + 1 + 1 + 1 + 1, 5, none⟩ = some (.slice none 0 0) := HT7.out.cfgcell 5
  have q6 : w7.cell? ⟨W.heap.size + 1 + 1 + 1 + 1 + 1 + 1 + 1 + 1 + 1 + 1, 6, none⟩ = some (.slice (some ⟨W.heap.size + 1 + 1 + 1 + 1 + 1 + 1 + 1 + 1 + 1, 0, none⟩) 1 1) := HT7.out.cfgcell 6
  have q7 : w7.cell? ⟨W.heap.size + 1 + 1 + 1 + 1 + 1 + 1 + 1 + 1 + 1 + 1, 7, none⟩ = some (.slice none 0 0) := HT7.out.cfgcell 7
  go_wp2_with fail
  refine (HS.out w7 (hide HT7.out.cfg)).mono ?_
  rintro e w8 ⟨rfl, hb8⟩
  have HB8 := hide (HB7.out.trans (hb8.mono HB7.out.size))
  clear hb8
  go_wp2_with fail
  go_ret
  exact ⟨rfl, HB8.out⟩
end Go.Proofs.YtndpnpohdoggjaaGreatDoor
namespace Go.Proofs.YtndpnpohdoggjaaGreatDoor
open Go.RowKit
theorem own : ownKnob Tryz.prog.godebug = none := by kernel_rfl
theorem laidOut : laidOutB Tryz.prog = true := by kernel_rfl
theorem gTabTy : (Tryz.prog.globals[5]?).map (·.type) = some 296 := by kernel_rfl
theorem gSpTy : (Tryz.prog.globals[0]?).map (·.type) = some 204 := by kernel_rfl
theorem gErrRTy : (Tryz.prog.globals[4]?).map (·.type) = some 180 := by kernel_rfl
theorem gErrSTy : (Tryz.prog.globals[3]?).map (·.type) = some 180 := by kernel_rfl
theorem cellsES : Tryz.prog.cellsOf 302 = 1 := by kernel_rfl
theorem cellsStr : Tryz.prog.cellsOf 9 = 1 := by kernel_rfl
theorem starES : "*" ++ "errors.errorString" = "*errors.errorString" := by decide
theorem rowES (u : TypeId) (h : Tryz.prog.typeName? 3 u = some "*errors.errorString") : u = 300 :=
  typeName_ptr_named (nm := "errors.errorString") (by rw [starES]; kernel_rfl) (by kernel_rfl) (by decide) u (by rw [starES]; exact h)
def laidL : List (String × DataW Unit) := Rows.formatCodesRow.laid
theorem door_met (os : Os) (args : Array Value) : laidMetH Tryz.prog laidL ((World.doorLaid Tryz.prog 400 os).forCall (fun _ _ => 0) ⟨#[], args, []⟩).memory :=
  laidMetH_of_parts3 (fuel := 8) (laidMet_of_run' 8 (by kernel_rfl) (by kernel_rfl)) (by kernel_rfl) (by kernel_rfl)
theorem var_lt {W : World} {n : String} {g : Nat} {cs : Array Value} {v : Value} (hg : Tryz.prog.globalNamed n = some g) (hv : W.var? Tryz.prog n = some cs) (h0 : cs[0]? = some v) : g < W.heap.size := by
  have hc := World.var?_cell hg hv 0
  exact World.block_lt_of_cell? W ⟨g, 0, none⟩ (hc.trans h0)
theorem env_of {W : World} (h : laidMetH Tryz.prog laidL W) (_hs : W.ShapedOpen Tryz.prog) : Env W := by
  rw [MakeChecks.laidMetH_plain _ _ _ (by kernel_rfl)] at h
  have h2 := laidMet.tail (laidMet.tail h)
  have ht : Lib.TabIs Tryz.prog W "internal/strconv.uint64pow10" .u64 Lib.pow10Tab := Lib.tabIs_of_head (n := 20) gTab gTabTy Tryz.underlying296 Tryz.underlying273 (by kernel_rfl) (by kernel_rfl) h2
  have h3 := laidMet.tail h2
  obtain ⟨a1, s1, v1, -, -, -⟩ := laid_sentinel h3 gErrR gErrRTy Tryz.underlying180 rowES Tryz.underlying300 Tryz.underlying302 rfl rfl Tryz.underlying9 cellsES cellsStr
  obtain ⟨a2, s2, v2, -, -, -⟩ := laid_sentinel (laidMet.tail h3) gErrS gErrSTy Tryz.underlying180 rowES Tryz.underlying300 Tryz.underlying302 rfl rfl Tryz.underlying9 cellsES cellsStr
  exact ⟨ht, ⟨_, _, v2⟩, ⟨_, _, v1⟩, var_lt gTab ht (v := .int .u64 1) rfl, var_lt gErrS v2 rfl, var_lt gErrR v1 rfl⟩
set_option maxRecDepth 100000 in
theorem envp_of {W : World} (h : laidMetH Tryz.prog laidL W) (hs : W.ShapedOpen Tryz.prog) : EnvP W := by
  rw [MakeChecks.laidMetH_plain _ _ _ (by kernel_rfl)] at h
  have h6 := laidMet.tail (laidMet.tail (laidMet.tail (laidMet.tail (laidMet.tail (laidMet.tail h)))))
  have ht : Lib.TabIs Tryz.prog W "strings.asciiSpace" .u8 Lib.asciiSpaceTab := Lib.tabIs_of_head (n := 256) gSp gSpTy Tryz.underlying204 Tryz.underlying5 (by kernel_rfl) (by kernel_rfl) h6
  obtain ⟨m, hm⟩ := cell_of_shapedOpen_int (g := 2) (t := 3) (zero := #[.int .i64 0]) hs (of_decide_eq_true (by kernel_rfl)) (by kernel_rfl) rfl (by kernel_rfl) (by kernel_rfl) Tryz.underlying3
  have h1 := var_lt gSp ht (v := .int .u8 0) rfl
  have h2 := World.block_lt_of_cell? W ⟨2, 0, none⟩ hm
  refine ⟨ht, ⟨m, hm⟩, ?_⟩
  show 3 ≤ _
  change 0 < _ at h1
  change 2 < _ at h2
  omega
end Go.Proofs.YtndpnpohdoggjaaGreatDoor
namespace Go.Proofs.YtndpnpohdoggjaaGreatDoor
open Go.ChangeShapes Go.WideShapes Go.Deep Go.RowKit
/-- Whatever is read at the type says some x, of which Q. -/
def Opn {α : Type} (H : Type) (enc : TypeId × Value → H) (W : World) (t : TypeId) (cells : α → List Dat) (Q : α → DataW H → Prop) : Prop :=
  ∀ (fuel : Nat) (us : List Value) (d : DataW H) (p : List MemPlace), DataW.trod enc Tryz.prog W 0 (fun _ => true) true fuel t us = some (d, p) → ∃ x : α, DCells W (fun _ => True) us (cells x) ∧ Q x d
section
variable {H : Type} {enc : TypeId × Value → H} {W : World}
theorem opn_str {t : TypeId} (ht : Tryz.prog.underlying t = some .string) : Opn H enc W t (fun l : List UInt8 => [lS l]) (fun l d => d = .lit (.string l)) := by
  intro fuel us d p h
  obtain ⟨s, rfl, hx, -⟩ := DataW.trod_string ht h
  simp only [Prod.mk.injEq] at hx
  exact ⟨s.data.toList, DCells.cons (.leaf _) .nil, hx.1⟩
theorem opn_int {t : TypeId} (ht : Tryz.prog.underlying t = some (.int .i64)) : Opn H enc W t (fun n : Int => [lI n]) (fun n _ => -9223372036854775808 ≤ n ∧ n ≤ 9223372036854775807) := by
  intro fuel us d p h
  obtain ⟨n, rfl, hx, hw⟩ := DataW.trod_int ht h
  exact ⟨n, DCells.cons (.leaf _) .nil, i64_bd hw⟩
theorem opn_u8 {t : TypeId} (ht : Tryz.prog.underlying t = some (.int .u8)) : Opn H enc W t (fun n : Nat => [lU n]) (fun n _ => n ≤ 255) := by
  intro fuel us d p h
  obtain ⟨n, rfl, hx, hw⟩ := DataW.trod_int ht h
  obtain ⟨h0, h1⟩ := u8_bd hw
  refine ⟨n.toNat, DCells.cons ?_ .nil, by omega⟩
  have e : (n.toNat : Int) = n := by omega
  show DAt _ _ _ (.leaf (.int .u8 (n.toNat : Int)))
  rw [e]
  exact .leaf _
theorem opn_bool {t : TypeId} (ht : Tryz.prog.underlying t = some .bool) : Opn H enc W t (fun b : Bool => [lB b]) (fun _ _ => True) := by
  intro fuel us d p h
  obtain ⟨b, rfl, hx⟩ := DataW.trod_bool ht h
  exact ⟨b, DCells.cons (.leaf _) .nil, trivial⟩
/-- What is read of a struct, field by field. -/
def Flds (H : Type) (enc : TypeId × Value → H) (W : World) (fs : List (TypeId × Nat)) (us : List Value) (ds : List (DataW H)) : Prop :=
  ds.length = fs.length ∧ us.length = (fs.map (·.2)).sum ∧ ∀ (i : Nat) (t k : Nat) (d : DataW H), fs[i]? = some (t, k) → ds[i]? = some d → ∃ fuel p, DataW.trod enc Tryz.prog W 0 (fun _ => true) true fuel t ((us.drop ((fs.take i).map (·.2)).sum).take k) = some (d, p)
theorem Flds.nil {us : List Value} {ds : List (DataW H)} (h : Flds H enc W [] us ds) : us = [] ∧ ds = [] := ⟨List.eq_nil_of_length_eq_zero h.2.1, List.eq_nil_of_length_eq_zero h.1⟩
theorem Flds.cons {α : Type} {t k : Nat} {cells : α → List Dat} {Q : α → DataW H → Prop} {fs : List (TypeId × Nat)} {us : List Value} {ds : List (DataW H)} (ho : Opn H enc W t cells Q) (h : Flds H enc W ((t, k) :: fs) us ds) :
    ∃ x vs us' d ds', us = vs ++ us' ∧ ds = d :: ds' ∧ DCells W (fun _ => True) vs (cells x) ∧ Q x d ∧ Flds H enc W fs us' ds' := by
  obtain ⟨h1, h2, h3⟩ := h
  cases ds with
  | nil => simp at h1
  | cons d ds =>
    obtain ⟨fuel, p, h4⟩ := h3 0 t k d rfl rfl
    simp only [List.take_zero, List.map_nil, List.sum_nil, List.drop_zero] at h4
    obtain ⟨x, hx, hq⟩ := ho _ _ _ _ h4
    simp only [List.map_cons, List.sum_cons] at h2
    refine ⟨x, us.take k, us.drop k, d, ds, (List.take_append_drop k us).symm, rfl, hx, hq, by simpa using h1, by rw [List.length_drop]; omega, fun i t' k' d' hi hd => ?_⟩
    obtain ⟨fuel', p', h5⟩ := h3 (i + 1) t' k' d' hi hd
    refine ⟨fuel', p', ?_⟩
    rw [List.drop_drop]
    rw [List.take_succ_cons, List.map_cons, List.sum_cons] at h5
    exact h5
theorem opn_struct {α : Type} {t : TypeId} {fs : Array Field} {cells : α → List Dat} {Q : α → DataW H → Prop} (fl : List (TypeId × Nat)) (ht : Tryz.prog.underlying t = some (.struct fs)) (hfl : (fs.toList.map fun f => (f.type, Tryz.prog.cellsOf f.type)) = fl)
    (hoff : fs.toList.zipIdx.all (fun f => f.1.offset == ((fl.take f.2).map (·.2)).sum) = true) (hsz : Tryz.prog.cellsOf t = (fl.map (·.2)).sum)
    (ho : ∀ us ds, Flds H enc W fl us ds → ∃ x : α, DCells W (fun _ => True) us (cells x) ∧ Q x (.agg ds)) : Opn H enc W t cells Q := by
  intro fuel us d p h
  obtain ⟨xs, n, -, hx, hl, hxl, hf⟩ := DataW.trod_struct ht h
  simp only [Prod.mk.injEq] at hx
  obtain ⟨rfl, -⟩ := hx
  refine ho us _ ⟨by rw [List.length_map, hxl, ← hfl]; simp, by rw [hl, hsz], fun i t' k d hi hd => ?_⟩
  rw [← hfl, List.getElem?_map] at hi
  obtain ⟨f, hfi, he⟩ := Option.map_eq_some_iff.1 hi
  simp only [Prod.mk.injEq] at he
  obtain ⟨rfl, rfl⟩ := he
  have h6 := hf i f (by simpa using hfi)
  rw [List.getElem?_map] at hd
  obtain ⟨y, hy, rfl⟩ := Option.map_eq_some_iff.1 hd
  have ho' := List.all_eq_true.1 hoff (f, i) (by rw [List.mem_zipIdx_iff_getElem?]; exact hfi)
  simp only [beq_iff_eq] at ho'
  refine ⟨n, y.2, ?_⟩
  rw [ho', hy] at h6
  exact h6
/-- A list's elements, one by one, of what is read of a slice. -/
def SlQ {α : Type} (Q : α → DataW H → Prop) (l : List α) (d : DataW H) : Prop :=
  l.length ≤ 9223372036854775807 ∧ (d = .nil ∧ l = [] ∨ ∃ ds spare, d = .slice ds spare ∧ ds.length = l.length ∧ ∀ (i : Nat) x y, l[i]? = some x → ds[i]? = some y → Q x y)
theorem opn_slice {α : Type} {t e : TypeId} {size : Nat} {cells : α → List Dat} {Q : α → DataW H → Prop} (ht : Tryz.prog.underlying t = some (.slice e)) (hc : Tryz.prog.cellsOf e = size) (hs : 0 < size) (hw : ∀ x, (cells x).length = size) (ho : Opn H enc W e cells Q) :
    Opn H enc W t (fun l : List α => [Dat.row size (l.map cells)]) (SlQ Q) := by
  intro fuel us d p h
  rcases open_slice ht h with ⟨rfl, hx⟩ | ⟨a, len, cap, m, n, D, Pl, rfl, -, hl, hm, hmm, hx, hi⟩
  · simp only [Prod.mk.injEq] at hx
    exact ⟨[], DCells.cons (.nil none 0 size) .nil, by simp, .inl ⟨hx.1, rfl⟩⟩
  · simp only [Prod.mk.injEq] at hx
    rw [hc] at hi
    unfold maxLen at hm
    have hml : len ≤ m := by rw [hmm]; simp; omega
    have hone : ∀ i : Fin len, ∃ x : α, (∃ cs', W.cells? 0 (a.add (i.1 * size)) size = some cs' ∧ DCells W (fun _ => True) cs' (cells x)) ∧ Q x (D i.1) := by
      intro i
      obtain ⟨cs', h1, h2⟩ := hi i.1 (by omega)
      obtain ⟨x, h3, h4⟩ := ho _ _ _ _ h2
      exact ⟨x, ⟨cs', h1, h3⟩, h4⟩
    have hget : ∀ (i : Nat) x, (List.ofFn fun i : Fin len => Classical.choose (hone i))[i]? = some x → i < len ∧ (∃ cs', W.cells? 0 (a.add (i * size)) size = some cs' ∧ DCells W (fun _ => True) cs' (cells x)) ∧ Q x (D i) := by
      intro i x hr
      obtain ⟨hin, hr⟩ := List.getElem?_eq_some_iff.1 hr
      simp only [List.length_ofFn] at hin
      rw [List.getElem_ofFn] at hr
      have := Classical.choose_spec (hone ⟨i, hin⟩)
      rw [hr] at this
      exact ⟨hin, this⟩
    have hlen : (List.ofFn fun i : Fin len => Classical.choose (hone i)).length = len := by simp
    generalize (List.ofFn fun i : Fin len => Classical.choose (hone i)) = l at hget hlen
    clear hone
    refine ⟨l, DCells.cons ?_ .nil, ?_, .inr ⟨_, _, hx.1, by simp [hlen], fun i x y hx' hy => ?_⟩⟩
    · rcases Nat.eq_zero_or_pos len with h0 | h0
      · subst h0
        obtain rfl := List.eq_nil_of_length_eq_zero hlen
        exact .nil _ _ _
      · obtain ⟨b, off, spot⟩ := a
        have hcell : ∀ (i j : Nat) e d, (l.map cells)[i]? = some e → e[j]? = some d → ∃ u, W.cell? (Addr.add ⟨b, off, spot⟩ (i * size + j)) = some u ∧ DAt W (fun _ => True) u d := by
          intro i j e d he hd
          rw [List.getElem?_map] at he
          obtain ⟨x, hx', rfl⟩ := Option.map_eq_some_iff.1 he
          obtain ⟨hin, ⟨cs', h1, h2⟩, -⟩ := hget i x hx'
          obtain ⟨_, hcl, hat⟩ := World.cells?_some h1
          have hj : j < size := by rw [← hw x]; exact (List.getElem?_eq_some_iff.1 hd).1
          have hv : cs'[j]? = some (cs'[j]'(by omega)) := List.getElem?_eq_getElem (by omega)
          refine ⟨_, ?_, h2.2 j _ d hv hd⟩
          rw [← Go.Deep.add_add, hat j hj, hv]
        obtain ⟨x0, hx0⟩ : ∃ x0, l[0]? = some x0 := ⟨_, List.getElem?_eq_getElem (by omega)⟩
        have hd0 : (cells x0)[0]? = some ((cells x0)[0]'(by rw [hw]; exact hs)) := List.getElem?_eq_getElem _
        obtain ⟨u0, hu0, -⟩ := hcell 0 0 _ _ (by rw [List.getElem?_map, hx0]; rfl) hd0
        have hspot : spot = none := by
          simpa [Addr.add] using World.cell?_spot hu0
        subst hspot
        have hadd : ∀ j, (Addr.add ⟨b, off, none⟩ j) = ⟨b, off + j, none⟩ := by
          intro j; unfold Addr.add; split
          · rename_i hj; subst hj; rfl
          · rfl
        simp only [hadd] at hcell hu0
        have hcell' : ∃ val : Nat → Nat → Value, ∀ i j e d, (l.map cells)[i]? = some e → e[j]? = some d → W.cell? ⟨b, off + (i * size + j), none⟩ = some (val i j) ∧ DAt W (fun _ => True) (val i j) d := by
          refine ⟨fun i j => (W.cell? ⟨b, off + (i * size + j), none⟩).getD (.bool false), fun i j e d he hd => ?_⟩
          obtain ⟨u, hu, hdu⟩ := hcell i j e d he hd
          simp only [hu, Option.getD_some]
          exact ⟨trivial, hdu⟩
        obtain ⟨val, hval⟩ := hcell'
        refine .row b off cap size len _ val (by rw [List.length_map]; exact hlen) trivial (lt_of_cell hu0) (fun i j e d he hd => ?_) (fun i j e d he hd => (hval i j e d he hd).2) hl
        rw [Nat.add_assoc]
        exact (hval i j e d he hd).1
    · rw [hlen]
      omega
    · obtain ⟨hin, -, hq⟩ := hget i x hx'
      rw [List.getElem?_map, List.getElem?_range hin] at hy
      simp only [Option.map_some, Option.some.injEq] at hy
      subst hy
      exact hq
end
end Go.Proofs.YtndpnpohdoggjaaGreatDoor
