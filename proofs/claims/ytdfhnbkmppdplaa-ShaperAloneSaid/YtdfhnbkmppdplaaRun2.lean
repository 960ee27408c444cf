/-
  run: the walk.
-/
import Derived.Test.YtdfhnbkmppdplaaRun1
import Derived.Deep.DeepCutAuto
namespace Go.Proofs.Ytdfhnbkmppdplaa
open Go.RowKit
theorem madeT (n : Nat) : madeCells (Value.cells (.slice none 0 0)) (n * 1) = (tcells (fun _ => .slice none 0 0) n).toArray := by
  unfold madeCells tcells Value.cells
  refine Array.ext (by simp) fun i h1 h2 => ?_
  simp [Nat.mod_one]
theorem makeT (n : Nat) (h : n ≤ 1000000) (W : World) : (Instr.makeSlice 28 (.int .i64 n) (.int .i64 n)).run Try.prog W = .ok (.slice (some ⟨W.heap.size, 0, none⟩) n n) (W.alloc (.cells (tcells (fun _ => .slice none 0 0) n).toArray 31)) := by
  obtain ⟨i0, hi, hz0, hz1, hz2⟩ := info_parts rowInfo18
  have := run_make (P := Try.prog) W 28 31 i0 (.slice none 0 0) Try.underlying28 hi hz0 .i64 .i64 n n (by omega) (by omega) (by rw [hz2]; omega) (by omega)
  rw [hz1, Int.toNat_natCast, madeT] at this
  exact this
theorem pair_made (w1 : World) (B n : Nat) (hB : B ≤ w1.heap.size) :
    Tab ((w1.alloc (.cells (tcells (fun _ => .slice none 0 0) n).toArray 31)).alloc (.cells (tcells (fun _ => .slice none 0 0) n).toArray 31)).drew B w1.heap.size n (fun _ => []) (fun k => k = w1.heap.size) ∧
    Tab ((w1.alloc (.cells (tcells (fun _ => .slice none 0 0) n).toArray 31)).alloc (.cells (tcells (fun _ => .slice none 0 0) n).toArray 31)).drew B (w1.heap.size + 1) n (fun _ => []) (fun k => k = w1.heap.size + 1) := by
  have h1 := (Tab.made (w := w1) (n := n) hB).below (((Below.refl _ _).alloc (Nat.le_refl _) (.cells (tcells (fun _ => .slice none 0 0) n).toArray 31)))
  have h2 := Tab.made (w := w1.alloc (.cells (tcells (fun _ => .slice none 0 0) n).toArray 31)) (n := n) (B := B) (by simp; omega)
  rw [World.size_alloc] at h2
  exact ⟨h1.frame (F := fun _ => False) ((Kept.refl _ _).drew) (fun _ _ h => h), h2.frame (F := fun _ => False) ((Kept.refl _ _).drew) (fun _ _ h => h)⟩
theorem Mem3.start {w w1 w2 : World} {a ta tl n : Nat} {S : AS} {P : Nat → Prop} (h : OwnSh w.heap.size w w1 a S P) (hb : Below w1.heap.size w1 w2) (h1 : Tab w2 w.heap.size ta n (fun _ => []) (fun k => k = ta)) (h2 : Tab w2 w.heap.size tl n (fun _ => []) (fun k => k = tl)) (ht : w1.heap.size ≤ ta) (hl : w1.heap.size ≤ tl) (hne : ta ≠ tl) :
    Mem3 w.heap.size w w2 a ta tl n S (fun _ => []) (fun _ => []) P (fun k => k = ta) (fun k => k = tl) :=
  ⟨⟨h.next h.bel.size hb, h2, fun k hp hq => by have := h.at_.inn k hp; omega, Nat.le_trans h.bel.size hb.size⟩, h1, fun k hp hq => by have := h.at_.inn k hp; omega, fun k hp hq => hne (by omega)⟩
def RunPost (w w' : World) (e : Ending) (m : Nat) (bs gs ls : List Int) : Prop :=
  ∃ ta tl O L Q1 Q2, e = .returned (.tuple #[.slice (some ⟨ta, 0, none⟩) m m, .slice (some ⟨tl, 0, none⟩) m m, .bool true]) ∧ Tab w' w.heap.size ta m O Q1 ∧ Tab w' w.heap.size tl m L Q2 ∧ Below w.heap.size w w' ∧ Fin bs gs ls O L
theorem whenS (t : Int) : whenV (some t) = .tuple #[.int .i64 t, .bool true] := rfl
theorem whenN : whenV none = .tuple #[.int .i64 0, .bool false] := rfl
theorem AS.waiting_nat {S : AS} {k : Nat} (hk : k < S.qs.length) : S.waiting (k : Int) = (S.at k).items.length := by
  unfold AS.waiting
  have : S.has (k : Int) = true := by unfold AS.has; simp; omega
  rw [this, Int.toNat_natCast]; rfl
theorem news2' (W : World) (t : TypeId) (x y : Value) : ∀ j u, [x, y][j]? = some u → (W.alloc (.cells #[x, y] t)).cell? ((⟨W.heap.size, 0, none⟩ : Addr).add j) = some u :=
  World.news_of_block (w := (W.alloc (.cells #[x, y] t))) (cs := #[x, y]) (heap_alloc_new W _)
set_option maxRecDepth 100000 in
set_option maxHeartbeats 4000000 in
theorem run_any (Ab A2 A3 : Option Addr) (m cb n2 c2 n3 c3 : Nat) (bs gs ls : List Int) (F : Nat → Prop) (w : World) (hm1 : 1 ≤ m) (hm2 : m ≤ 16) (hn2 : n2 ≤ 9223372036854775807) (hn3 : n3 ≤ 9223372036854775807) (HM : Hid (bs.length = m))
    (HB : Hid (∀ b ∈ bs, 1 ≤ b ∧ b ≤ 200)) (h1 : Hid (Ints w Ab m bs F)) (h2 : Hid (Ints w A2 n2 gs F)) (h3 : Hid (Ints w A3 n3 ls F)) :
    Calls Try.prog 13 #[.slice Ab m cb, .slice A2 n2 c2, .slice A3 n3 c3] w fun e w' => RunPost w w' e m bs gs ls := by
  obtain ⟨i0, hi0, hz0, hz1, hz2⟩ := info_parts evInfo
  have hall : bs.all bagB = true := by
    rw [List.all_eq_true]; intro b hb; have := HB.out b hb; unfold bagB; simp; omega
  have HA := hide hall
  have hmk := makeT m (by omega)
  clear hall
  go_enter Try.func13, Try.ntmps13
  go_wp2_with fail
  refine (new_fine Ab m cb bs F w h1 hm2 HA).mono ?_
  rintro e w1 ⟨a, P, rfl, hs, hP, hbl⟩
  have HO : Hid (OwnSh w.heap.size w w1 a (AS.new bs) P) := ⟨hs, hP, hbl⟩
  clear hs hP hbl
  go_upto_region 4 with fail
  go_cut [6, 7] (fun s6 s7 wx => ∃ ta tl : Nat, s6 = .slice (some ⟨ta, 0, none⟩) m m ∧ s7 = .slice (some ⟨tl, 0, none⟩) m m ∧ Hid (Mem3 w.heap.size w wx a ta tl m (AS.new bs) (fun _ => []) (fun _ => []) P (fun k => k = ta) (fun k => k = tl)))
  case first =>
    obtain ⟨hp1, hp2⟩ := pair_made w1 w.heap.size m HO.out.bel.size
    have hbb := ((((Below.refl w1.heap.size w1).alloc (Nat.le_refl _) (.cells (tcells (fun _ => .slice none 0 0) m).toArray 31)).alloc (by simp) (.cells (tcells (fun _ => .slice none 0 0) m).toArray 31))).drew
    have hM1 := hide (Mem3.start HO.out hbb hp1 hp2 (Nat.le_refl _) (by omega) (by omega))
    have hM2 := hide (Mem3.start HO.out hbb hp2 hp1 (by omega) (Nat.le_refl _) (by omega))
    clear hp1 hp2 hbb
    go_region
    all_goals
      first | apply_assumption | (refine Met.intro ?_; apply_assumption)
      first | apply_assumption | (refine Met.intro ?_; apply_assumption)
      repeat apply Exists.intro
      first | exact ⟨⟨_, _, rfl, rfl, hM1⟩, rfl⟩ | exact ⟨⟨_, _, rfl, rfl, hM2⟩, rfl⟩
  case rest =>
    obtain ⟨ta, tl, rfl, rfl, hM⟩ := hcut
    go_wp2_with fail
    go_loopw [6, 7, 11, 12] (fun v6 v7 v11 v12 wr => v6 = .slice (some ⟨ta, 0, none⟩) m m ∧ v7 = .slice (some ⟨tl, 0, none⟩) m m ∧ ∃ (k : Nat) (S : AS) (O L : Nat → List Ev) (P Q1 Q2 : Nat → Prop), k ≤ n2 ∧ k ≤ 60 ∧ v12 = .int .i64 k ∧ v11 = .int .i64 (tm60 gs k) ∧ Mem3 w.heap.size w wr a ta tl m S O L P Q1 Q2 ∧ SI bs S O L (tm60 gs k) (tm60 gs k) (tm60 gs k) ∧ Took bs gs ls O k) (fun _ _ _ v12 _ => n2 - (intOf v12).toNat)
    case atStart => exact ⟨rfl, rfl, 0, _, _, _, _, _, _, by omega, by omega, rfl, rfl, hM.out, SI.new bs HB.out, ⟨fun i hi => rfl, fun i hi => Nat.le_refl _⟩⟩
    case round =>
      clear hM
      obtain ⟨rfl, rfl, k, S, O, L, P, Q1, Q2, hk, hk6, rfl, rfl, hm, hs, ht⟩ := hrel
      have HMM := hide hm
      have HSI := hide hs
      have HT := hide ht
      clear hm hs ht
      have hk0 : (0 : Int) ≤ (k : Int) := by omega
      obtain ⟨tb0, tb1⟩ := tm60_bd gs k
      by_cases hlt : k < n2 ∧ k < 60
      · obtain ⟨hlt, hlt6⟩ := hlt
        have hkn : (k : Int) < (n2 : Int) := by omega
        have hk60 : (k : Int) < 60 := by omega
        obtain ⟨bg, og, hAg, -⟩ := h2.out.2 (by omega)
        subst hAg
        have hcg := (h2.out.below HMM.out.mem.sh.bel).cell rfl hlt
        have HTS : Hid (tm60 gs (k + 1) = tm60 gs k + pick (gs.getD k 0) 60) := rfl
        have hstep := tm60_step gs k
        obtain ⟨tc0, tc1⟩ := tm60_bd gs (k + 1)
        obtain ⟨r0, r1⟩ := pick_bd (gs.getD k 0) 60 (by decide)
        have HP := hide (fun w => pick_any (gs.getD k 0) 60 w (by decide) (by decide))
        have HL60 := hide (fun i hi => Nat.le_trans (HT.out.len i hi) (show k ≤ 60 by omega))
        rw [HM.out] at HL60
        generalize hT0 : tm60 gs k = T0 at *
        generalize hT1 : tm60 gs (k + 1) = T1 at *
        generalize gs.getD k 0 = z at *
        generalize pick z 60 = pz at *
        have HT1 := hide hT1
        clear hT0 hT1
        have t3 : T0 ≤ 3600 := by omega
        have t4 : T1 ≤ 3600 := by omega
        go_wp2_with fail
        refine (HP.out _).mono ?_
        rintro e w4 ⟨rfl, rfl⟩
        go_wp2_with fail
        rw [← HTS.out]
        obtain ⟨wo, rfl⟩ : ∃ wo : World, wo = wr := ⟨_, rfl⟩
        go_loopw [6, 7, 11] (fun v6 v7 v11 wi => v6 = .slice (some ⟨ta, 0, none⟩) m m ∧ v7 = .slice (some ⟨tl, 0, none⟩) m m ∧ ∃ (s : Int) (S : AS) (L : Nat → List Ev) (P Q2 : Nat → Prop), T0 ≤ s ∧ s ≤ T1 ∧ v11 = .int .i64 s ∧ Mem3 w.heap.size w wi a ta tl m S O L P Q1 Q2 ∧ SI bs S O L s s T0) (fun _ _ v11 _ => (T1 - intOf v11).toNat)
        case atStart => exact ⟨rfl, rfl, T0, S, L, P, Q2, Int.le_refl _, by omega, rfl, HMM.out, HSI.out⟩
        case round =>
          clear HMM HSI
          obtain ⟨rfl, rfl, s, S, L, P, Q2, hs0, hs1, rfl, hm, hs⟩ := hrel
          have HMM := hide hm
          have HSI := hide hs
          clear hm hs
          by_cases hst : s < T1
          · go_wp2_with fail
            refine (drain_any w.heap.size w _ a tl m bs S O L P Q2 s T0 HM hm2 (by omega) (by omega) (hide HMM.out.mem) HSI HL60).mono ?_
            rintro e w5 ⟨rfl, hd⟩
            have hdd := hide (HMM.out.drain hd)
            clear hd HMM HSI
            go_wp2_with fail
            go_roundw
            case rel =>
              obtain ⟨S', L', P', Q', hm', hs'⟩ := hdd.out
              exact ⟨rfl, rfl, s + 1, S', L', P', Q', by omega, by omega, rfl, hm', hs'⟩
            case measure => simp [intOf]; omega
          · obtain rfl : T1 = s := by omega
            by_cases hl : k < n3
            · obtain ⟨bl, ol, hAl, -⟩ := h3.out.2 (by omega)
              subst hAl
              have hcl := (h3.out.below HMM.out.mem.sh.bel).cell rfl hl
              have hl1 : (k : Int) < (n3 : Int) := by omega
              have HPL := hide (fun w => pick_any (ls.getD k 0) m w (by omega) (by omega))
              have HVM : Hid (vlo ls m k < m) := vlo_lt ls m k (by omega)
              have HVV : Hid (vlo ls bs.length k = vlo ls m k) := by rw [HM.out]; exact rfl
              have hpv : pick (ls.getD k 0) m = (vlo ls m k : Int) := by
                have := pick_bd (ls.getD k 0) m (by omega)
                unfold vlo; rw [if_pos (by rw [h3.out.1]; exact hl)]; omega
              rw [hpv] at HPL
              clear hpv
              generalize ls.getD k 0 = zl at *
              generalize vlo ls m k = v at *
              go_wp2_with fail
              refine (HPL.out _).mono ?_
              rintro e w4 ⟨rfl, rfl⟩
              have hVm : v < m := HVM.out
              obtain ⟨hofull, hotake⟩ := HSI.out.offer (show T0 ≤ T1 by omega) (show 0 ≤ T1 by omega) (show T1 ≤ 1073741824 by omega) (k := v) (by rw [HM.out]; exact hVm) k
              have HWT : Hid (S.waiting (v : Int) = (S.at v).items.length) := AS.waiting_nat (k := v) (by rw [HSI.out.len, HM.out]; exact hVm)
              obtain ⟨q, hq⟩ : ∃ q, (S.at v).items.length = q := ⟨_, rfl⟩
              have HQQ := hide hq
              rw [hq] at HWT hofull hotake
              clear hq
              go_wp2_with fail
              refine (waiting_any a S P (v : Int) _ (hide HMM.out.mem.sh.at_)).mono ?_
              rw [HWT.out]
              rintro e w5 ⟨rfl, rfl⟩
              by_cases hf : q = 16
              · have hbf : ((q : Int) == 16) = true := by simp [hf]
                obtain ⟨ho, hsi⟩ := hofull hf
                have HO2 : Hid (S.offer T1 (v : Int) 0 k [] = _) := ho
                have HS2 := hide hsi
                have HFF := hide (HQQ.out.trans hf)
                clear ho hsi hofull hotake hf
                go_wp2_with fail
                refine (offer_any a S P T1 (v : Int) 0 k none 0 0 [] _ (hide HMM.out.mem.sh.at_) (by decide) (hide (Bts.nil _ _).rb)).mono ?_
                rw [HO2.out]
                rintro e w6 ⟨rfl, hk6, P6, hs6, hP6⟩
                have HM6 := hide (HMM.out.sh hk6 hs6 (fun k hk => (hP6 k hk).imp id (·.1)))
                clear hk6 hs6 hP6
                go_wp2_with fail
                go_roundw
                case rel => exact ⟨rfl, rfl, k + 1, _, O, L, P6, Q1, Q2, by omega, by omega, by go_num, by rw [HT1.out], HM6.out, by rw [HT1.out]; exact HS2.out, HT.out.full HSI.out HT1.out.symm (by rw [HVV.out, HM.out]; exact hVm) (by rw [HVV.out]; exact HFF.out)⟩
                case measure => simp [intOf]; omega
              · have hbf : ((q : Int) == 16) = false := by simp; omega
                obtain ⟨S1, ho, hsi⟩ := hotake hf
                have HO2 : Hid (S.offer T1 (v : Int) 0 k [] = _) := ho
                have HS2 := hide hsi
                have HFF := hide (fun h : (S.at v).items.length = 16 => hf (HQQ.out.symm.trans h))
                have hOl : (O v).length ≤ 60 := HL60.out v hVm
                clear ho hsi hofull hotake hf
                go_wp2_with fail
                refine (offer_any a S P T1 (v : Int) 0 k none 0 0 [] _ (hide HMM.out.mem.sh.at_) (by decide) (hide (Bts.nil _ _).rb)).mono ?_
                rw [HO2.out]
                rintro e w6 ⟨rfl, hk6, P6, hs6, hP6⟩
                have HM6 := hide (HMM.out.sh hk6 hs6 (fun k hk => (hP6 k hk).imp id (·.1)))
                clear hk6 hs6 hP6
                obtain ⟨W, hV⟩ := HM6.out.off
                have HV := hide hV
                have cV := hV.cell hVm
                have HR := hide (hV.row v hVm)
                have tl1 := hV.inn ta hV.qt
                have hBW := HM6.out.mem.bs
                have hVm2 : (v : Int) < (m : Int) := by omega
                have hVm0 : (0 : Int) ≤ (v : Int) := by omega
                clear hV
                go_wp2_with (at_builtin; refine wpList_append_lies _ rfl _ _ 31 rfl w.heap.size 33 i0 _ 2 16 Try.underlying31 hi0 hz0 hz1 hz2 rfl (by decide) (W v) (O v).length (evs (O v)) rfl (HR.out.alloc _) ⟨w6.heap.size, 0, none⟩ 1 1 [.int .i64 T1, .int .i64 k] rfl rfl (news2' _ _ _ _) (by simp [Value.oneCell']) (by decide) (by unfold maxLen; omega) (by omega) (by simp; omega) _ rfl ?_; intro g cap w7 hown hgrow hat hlt7; obtain ⟨c3, f3, l3⟩ := (HV.out.alloc _).after hVm hgrow; have HM7 := hide (HM6.out.push HV.out hVm (T1, (k : Int)) rfl (evs_snoc _ _) hown hgrow hat hlt7); clear hown hgrow hat hlt7)
                try go_wp2
                go_roundw
                case rel => exact ⟨rfl, rfl, k + 1, S1, _, L, P6, _, Q2, by omega, by omega, by go_num, by rw [HT1.out], HM7.out, by rw [HT1.out]; exact HS2.out, by have := HT.out.take (id := (k : Int)) HSI.out HT1.out.symm (by rw [HVV.out]; exact HFF.out); rw [HVV.out] at this; exact this⟩
                case measure => simp [intOf]; omega
            · have HVM : Hid (0 < m) := hm1
              have HVV : Hid (vlo ls bs.length k = 0) := by unfold vlo; rw [if_neg (by rw [h3.out.1]; exact hl)]; exact rfl
              have hl1 : (n3 : Int) ≤ (k : Int) := by omega
              have hl2 : decide ((k : Int) < (n3 : Int)) = false := by simp; omega
              go_wp2_with fail
              have hVm : 0 < m := HVM.out
              obtain ⟨hofull, hotake⟩ := HSI.out.offer (show T0 ≤ T1 by omega) (show 0 ≤ T1 by omega) (show T1 ≤ 1073741824 by omega) (k := 0) (by rw [HM.out]; exact hVm) k
              have HWT : Hid (S.waiting 0 = (S.at 0).items.length) := AS.waiting_nat (k := 0) (by rw [HSI.out.len, HM.out]; exact hVm)
              obtain ⟨q, hq⟩ : ∃ q, (S.at 0).items.length = q := ⟨_, rfl⟩
              have HQQ := hide hq
              rw [hq] at HWT hofull hotake
              clear hq
              go_wp2_with fail
              refine (waiting_any a S P 0 _ (hide HMM.out.mem.sh.at_)).mono ?_
              rw [HWT.out]
              rintro e w5 ⟨rfl, rfl⟩
              by_cases hf : q = 16
              · have hbf : ((q : Int) == 16) = true := by simp [hf]
                obtain ⟨ho, hsi⟩ := hofull hf
                have HO2 : Hid (S.offer T1 0 0 k [] = _) := ho
                have HS2 := hide hsi
                have HFF := hide (HQQ.out.trans hf)
                clear ho hsi hofull hotake hf
                go_wp2_with fail
                refine (offer_any a S P T1 0 0 k none 0 0 [] _ (hide HMM.out.mem.sh.at_) (by decide) (hide (Bts.nil _ _).rb)).mono ?_
                rw [HO2.out]
                rintro e w6 ⟨rfl, hk6, P6, hs6, hP6⟩
                have HM6 := hide (HMM.out.sh hk6 hs6 (fun k hk => (hP6 k hk).imp id (·.1)))
                clear hk6 hs6 hP6
                go_wp2_with fail
                go_roundw
                case rel => exact ⟨rfl, rfl, k + 1, _, O, L, P6, Q1, Q2, by omega, by omega, by go_num, by rw [HT1.out], HM6.out, by rw [HT1.out]; exact HS2.out, HT.out.full HSI.out HT1.out.symm (by rw [HVV.out, HM.out]; exact hVm) (by rw [HVV.out]; exact HFF.out)⟩
                case measure => simp [intOf]; omega
              · have hbf : ((q : Int) == 16) = false := by simp; omega
                obtain ⟨S1, ho, hsi⟩ := hotake hf
                have HO2 : Hid (S.offer T1 0 0 k [] = _) := ho
                have HS2 := hide hsi
                have HFF := hide (fun h : (S.at 0).items.length = 16 => hf (HQQ.out.symm.trans h))
                have hOl : (O 0).length ≤ 60 := HL60.out 0 hVm
                clear ho hsi hofull hotake hf
                go_wp2_with fail
                refine (offer_any a S P T1 0 0 k none 0 0 [] _ (hide HMM.out.mem.sh.at_) (by decide) (hide (Bts.nil _ _).rb)).mono ?_
                rw [HO2.out]
                rintro e w6 ⟨rfl, hk6, P6, hs6, hP6⟩
                have HM6 := hide (HMM.out.sh hk6 hs6 (fun k hk => (hP6 k hk).imp id (·.1)))
                clear hk6 hs6 hP6
                obtain ⟨W, hV⟩ := HM6.out.off
                have HV := hide hV
                have cV := hV.cell hVm
                have HR := hide (hV.row 0 hVm)
                have tl1 := hV.inn ta hV.qt
                have hBW := HM6.out.mem.bs
                have hVm2 : (0 : Int) < (m : Int) := by omega
                have hVm0 : (0 : Int) ≤ (0 : Int) := by omega
                clear hV
                go_wp2_with (at_builtin; refine wpList_append_lies _ rfl _ _ 31 rfl w.heap.size 33 i0 _ 2 16 Try.underlying31 hi0 hz0 hz1 hz2 rfl (by decide) (W 0) (O 0).length (evs (O 0)) rfl (HR.out.alloc _) ⟨w6.heap.size, 0, none⟩ 1 1 [.int .i64 T1, .int .i64 k] rfl rfl (news2' _ _ _ _) (by simp [Value.oneCell']) (by decide) (by unfold maxLen; omega) (by omega) (by simp; omega) _ rfl ?_; intro g cap w7 hown hgrow hat hlt7; obtain ⟨c3, f3, l3⟩ := (HV.out.alloc _).after hVm hgrow; have HM7 := hide (HM6.out.push HV.out hVm (T1, (k : Int)) rfl (evs_snoc _ _) hown hgrow hat hlt7); clear hown hgrow hat hlt7)
                try go_wp2
                go_roundw
                case rel => exact ⟨rfl, rfl, k + 1, S1, _, L, P6, _, Q2, by omega, by omega, by go_num, by rw [HT1.out], HM7.out, by rw [HT1.out]; exact HS2.out, by have := HT.out.take (id := (k : Int)) HSI.out HT1.out.symm (by rw [HVV.out]; exact HFF.out); rw [HVV.out] at this; exact this⟩
                case measure => simp [intOf]; omega
      · have HK := hide (show k = min gs.length 60 by rw [h2.out.1]; omega)
        have HL60 := hide (fun i hi => Nat.le_trans (HT.out.len i hi) hk6)
        have HL61 := hide (fun i (hi : i < m) => HL60.out i (by rw [HM.out]; exact hi))
        have t3 : tm60 gs k ≤ 3600 := by omega
        have hpar : (decide ((k : Int) < n2) = false) ∨ (k < n2 ∧ k = 60) := by
          by_cases h : k < n2
          · exact .inr ⟨h, by omega⟩
          · exact .inl (by simp; omega)
        clear hlt tb1
        rcases hpar with hp | ⟨hp1, hp2⟩
        case' inr => have hp3 : (k : Int) < (n2 : Int) := by omega
        case' inr => have hp4 : decide ((k : Int) < 60) = false := by simp; omega
        case' inr => have hp5 : (60 : Int) ≤ (k : Int) := by omega
        case' inr => clear hp1 hp2
        case' inl => have hp5 : (n2 : Int) ≤ (k : Int) := by simpa using hp
        all_goals
          generalize hT0 : tm60 gs k = T0 at *
          have HT0 := hide hT0
          clear hT0
          go_wp2_with fail
          go_loopw [6, 7, 11, 17] (fun v6 v7 v11 v17 wr => v6 = .slice (some ⟨ta, 0, none⟩) m m ∧ v7 = .slice (some ⟨tl, 0, none⟩) m m ∧ ∃ (j : Nat) (S : AS) (L : Nat → List Ev) (P Q2 : Nat → Prop), j ≤ 12000 ∧ v17 = .int .i64 j ∧ v11 = .int .i64 (T0 + j) ∧ Mem3 w.heap.size w wr a ta tl m S O L P Q1 Q2 ∧ SI bs S O L (T0 + j) (T0 + j) T0) (fun _ _ _ v17 _ => 20000 - (intOf v17).toNat)
          case atStart => exact ⟨rfl, rfl, 0, S, L, P, Q2, by omega, rfl, by simp, HMM.out, by simpa using HSI.out⟩
          case round =>
            clear HMM HSI
            obtain ⟨rfl, rfl, j, S, L, P, Q2, hj, rfl, rfl, hm, hs⟩ := hrel
            have HMM := hide hm
            have HSI := hide hs
            clear hm hs
            have hj0 : (0 : Int) ≤ (j : Int) := by omega
            have hj2 : (j : Int) < 20000 := by omega
            go_wp2_with fail
            refine (drain_any w.heap.size w _ a tl m bs S O L P Q2 (T0 + j) T0 HM hm2 (by omega) (by omega) (hide HMM.out.mem) HSI HL61).mono ?_
            rintro e w5 ⟨rfl, hd⟩
            obtain ⟨S', L', P', Q', hm', hs'⟩ := HMM.out.drain hd
            have HM5 := hide hm'
            have HS5 := hide hs'
            clear hd HMM HSI hm' hs'
            cases hw : S'.when with
            | none =>
              have HW := hide hw
              have HF := hide (SI.fin (u := T0 + j + 1) (by rw [HT0.out]; exact HS5.out) HK.out HT.out hw)
              clear hw
              go_wp2_with fail
              refine (when_any a S' P' w5 (hide HM5.out.mem.sh.at_)).mono ?_
              rw [HW.out, whenN]
              rintro e w6 ⟨rfl, d, rfl⟩
              go_wp2_with fail
              go_ret3
              exact ⟨ta, tl, O, L', Q1, Q', rfl, (HM5.out.below (below_drewN (Below.refl _ _) d)).off, (HM5.out.below (below_drewN (Below.refl _ _) d)).mem.tab, (HM5.out.below (below_drewN (Below.refl _ _) d)).mem.sh.bel, HF.out⟩
            | some x =>
              have HW := hide hw
              have hj3 := HS5.out.wait HL60.out hw
              have hj4 : j + 1 ≤ 12000 := by omega
              clear hw hj3
              go_wp2_with fail
              refine (when_any a S' P' w5 (hide HM5.out.mem.sh.at_)).mono ?_
              rw [HW.out, whenS]
              rintro e w6 ⟨rfl, d, rfl⟩
              go_wp2_with fail
              go_roundw
              case rel => exact ⟨rfl, rfl, j + 1, S', L', P', Q', hj4, by go_num, by rw [show T0 + (j : Int) + 1 = T0 + ((j + 1 : Nat) : Int) by omega], HM5.out.below (below_drewN (Below.refl _ _) d), by have := HS5.out; rw [show T0 + (j : Int) + 1 = T0 + ((j + 1 : Nat) : Int) by omega] at this; exact this⟩
              case measure => simp [intOf]; omega
end Go.Proofs.Ytdfhnbkmppdplaa
