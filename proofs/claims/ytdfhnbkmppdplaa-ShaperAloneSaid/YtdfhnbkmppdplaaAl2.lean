/-
  ShaperAlone: the walk.
-/
import Derived.Test.YtdfhnbkmppdplaaAl1
namespace Go.Proofs.Ytdfhnbkmppdplaa
open Go.RowKit
def zrs (n : Nat) : List Int := List.replicate n 0
theorem zs_snoc (q : Nat) : ints (zrs q) ++ [.int .i64 0] = ints (zrs (q + 1)) := by unfold ints zrs; rw [List.replicate_succ', List.map_append]; rfl
theorem zrs_len (q : Nat) : (zrs q).length = q := List.length_replicate
theorem ints_snoc2 (zs : List Int) (z : Int) : ints zs ++ [.int .i64 z] = ints (zs ++ [z]) := by unfold ints; simp
set_option maxRecDepth 100000 in
set_option maxHeartbeats 4000000 in
theorem alone_main (A A2 A3 : Option Addr) (n cap n2 cap2 n3 cap3 : Nat) (gs gaps links : List Int) (which : Int) (w : World) (hn : n ≤ 9223372036854775807) (hn2 : n2 ≤ 9223372036854775807) (hn3 : n3 ≤ 9223372036854775807) (h : Hid (Ints w A n gs (fun _ => False))) (g2 : Hid (Ints w A2 n2 gaps (fun _ => False))) (g3 : Hid (Ints w A3 n3 links (fun _ => False))) :
    Calls Try.prog 4 #[.slice A n cap, .slice A2 n2 cap2, .slice A3 n3 cap3, .int .i64 which] w fun e w' => e = .returned (.bool true) ∧ Below w.heap.size w w' := by
  obtain ⟨i0, hi0, hz0, hz1, hz2⟩ := info_parts intInfo
  obtain ⟨bs, hbs⟩ : ∃ bs, bagsL gs = bs := ⟨_, rfl⟩
  have HL := bagsL_len gs
  have HBS := hide hbs
  have HB : Hid (∀ b ∈ bs, 1 ≤ b ∧ b ≤ 200) := by rw [← hbs]; exact bagsTo_bd gs _
  rw [hbs] at HL
  obtain ⟨m, hm⟩ : ∃ m, bs.length = m := ⟨_, rfl⟩
  rw [hm] at HL
  obtain ⟨hm1, hm6⟩ := HL
  have HM := hide hm
  obtain ⟨me, hme, hmlt⟩ : ∃ me : Nat, pick which m = me ∧ me < m := by
    have := pick_bd which m (by omega)
    exact ⟨(pick which m).toNat, by omega, by omega⟩
  have HME := hide (fun w => pick_any which m w (by omega) (by omega))
  rw [hme] at HME
  clear hm hbs hme
  go_enter Try.func4, Try.ntmps4
  go_wp2_with fail
  refine (awake_any w).mono ?_
  rintro e w1 ⟨rfl, hb1⟩
  have HB1 := hide hb1
  have HI1 := hide (h.out.below hb1)
  have HG2 := hide (g2.out.below hb1)
  have HG3 := hide (g3.out.below hb1)
  clear hb1
  go_wp2_with fail
  refine (bags_any A n cap gs _ w1 hn HI1).mono ?_
  rw [HBS.out, HM.out]
  rintro e w2 ⟨v, rfl, hown, hbl⟩
  obtain ⟨Ab, cb, hv, hcb, hib⟩ := ints_own (F := fun _ => False) hown HM.out (fun _ _ h => h)
  subst hv
  have HIB := hide hib
  have HB2 := hide (HB1.out.trans (hbl.mono HB1.out.size))
  have HG22 := hide (HG2.out.below hbl)
  have HG32 := hide (HG3.out.below hbl)
  clear hown hbl hib HI1 HG2 HG3
  go_wp2_with fail
  refine (HME.out _).mono ?_
  rintro e w2' ⟨rfl, rfl⟩
  go_wp2_with fail
  refine (run_any Ab A2 A3 m cb n2 cap2 n3 cap3 bs gaps links _ w2 hm1 (by omega) hn2 hn3 HM HB HIB HG22 HG32).mono ?_
  rintro e w3 ⟨ta, tl, O, L, Q1, Q2, rfl, hto, htl, hbl, hfin⟩
  have HIB3 := hide (HIB.out.below hbl)
  have HG23 := hide (HG22.out.below hbl)
  have HG33 := hide (HG32.out.below hbl)
  have HB3 := hide (HB2.out.trans (hbl.mono HB2.out.size))
  have HTL := hide htl
  have HF := hide hfin
  clear hto htl hbl hfin HIB HG22 HG32 h g2 g3
  go_wp2_with fail
  go_loopw [14, 15, 16, 17] (fun v14 v15 v16 v17 wr => ∃ k : Nat, k ≤ n2 ∧ k ≤ 60 ∧ v17 = .int .i64 k ∧ v16 = .int .i64 (al gaps links m me k).2 ∧ wr.ownsRow w3.heap.size 3 1 v14 (al gaps links m me k).1.length (ints (al gaps links m me k).1) ∧ wr.ownsRow w3.heap.size 3 1 v15 (al gaps links m me k).1.length (ints (zrs (al gaps links m me k).1.length)) ∧ Apart2 v14 v15 ∧ Below w3.heap.size w3 wr) (fun _ _ _ v17 _ => n2 - (intOf v17).toNat)
  case atStart => exact ⟨0, by omega, by omega, rfl, rfl, World.ownsRow_nil _ _ _ _, World.ownsRow_nil _ _ _ _, (by intro k h; simp [Value.ownBlock] at h), Below.refl _ _⟩
  case round =>
    obtain ⟨k, hk, hk6, rfl, rfl, hown14, hown15, hap, hbr⟩ := hrel
    have HO14 := hide hown14
    have HO15 := hide hown15
    have HAP := hide hap
    have HBR := hide hbr
    have hszr := hbr.size
    clear hown14 hown15 hap hbr
    have hk0 : (0 : Int) ≤ (k : Int) := by omega
    have hql := al_len gaps links m me k
    obtain ⟨⟨ht0, ht1⟩, hxs⟩ := al_bd gaps links m me k
    by_cases hlt : k < n2 ∧ k < 60
    · obtain ⟨hlt, hlt6⟩ := hlt
      have hkn : (k : Int) < (n2 : Int) := by omega
      have hk60 : (k : Int) < 60 := by omega
      obtain ⟨bg, og, hAg, -⟩ := HG23.out.2 (by omega)
      subst hAg
      have hcg := (HG23.out.below HBR.out).cell rfl hlt
      have HAS : Hid (al gaps links m me (k + 1) = if vlo links m k = me then ((al gaps links m me k).1 ++ [(al gaps links m me k).2 + pick (gaps.getD k 0) 60], 0) else ((al gaps links m me k).1, (al gaps links m me k).2 + pick (gaps.getD k 0) 60)) := rfl
      obtain ⟨r0, r1⟩ := pick_bd (gaps.getD k 0) 60 (by decide)
      have HP := hide (fun w => pick_any (gaps.getD k 0) 60 w (by decide) (by decide))
      clear hxs
      generalize (al gaps links m me k).1 = l at *
      generalize (al gaps links m me k).2 = t at *
      obtain ⟨q, hq⟩ : ∃ q, l.length = q := ⟨_, rfl⟩
      rw [hq] at HO14 HO15 hql
      have HQ := hide hq
      clear hq
      generalize gaps.getD k 0 = z at *
      generalize pick z 60 = pz at *
      go_wp2_with fail
      refine (HP.out _).mono ?_
      rintro e w4 ⟨rfl, rfl⟩
      by_cases hl : k < n3
      · obtain ⟨bl, ol, hAl, -⟩ := HG33.out.2 (by omega)
        subst hAl
        have hcl := (HG33.out.below HBR.out).cell rfl hl
        have hl1 : (k : Int) < (n3 : Int) := by omega
        have HPL := hide (fun w => pick_any (links.getD k 0) m w (by omega) (by omega))
        have hpv : pick (links.getD k 0) m = (vlo links m k : Int) := by
          have := pick_bd (links.getD k 0) m (by omega)
          unfold vlo; rw [if_pos (by rw [HG33.out.1]; exact hl)]; omega
        rw [hpv] at HPL
        clear hpv
        generalize vlo links m k = v at HAS HPL
        generalize links.getD k 0 = zl at *
        go_wp2_with fail
        refine (HPL.out _).mono ?_
        rintro e w4 ⟨rfl, rfl⟩
        have hq60 : q ≤ 60 := by omega
        by_cases hvm : v = me
        · have hb : ((((v : Int) : Int)) == (me : Int)) = true := by simp; omega
          have HAS2 : Hid (al gaps links m me (k + 1) = (l ++ [t + pz], 0)) := by rw [HAS.out, if_pos hvm]; exact rfl
          clear hvm
          go_wp2_with (first
            | (at_builtin; refine wpList_append_lies _ rfl (.tmp 73) (.tmp 75) 22 rfl w3.heap.size 3 i0 _ 1 8 Try.underlying22 hi0 hz0 hz1 hz2 rfl (by decide) u14 q (ints l) rfl (HO14.out.alloc _) ⟨wr.heap.size, 0, none⟩ 1 1 [.int .i64 (t + pz)] rfl rfl (news_blk (heap_alloc_new _ _)) (by simp [Value.oneCell']) (by decide) (by unfold maxLen; omega) (by omega) (by simp; omega) _ rfl ?_; intro g1 cap1 w5 hown1 hgrow1 hat1 hlt1; obtain ⟨k15, ap1⟩ := two_step (n := q + 1) (c := cap1) (HO15.out.alloc _) HAP.out hgrow1 hat1; have HB5 := hide (Below.grown (HBR.out.alloc hszr _) hgrow1 (by simp; omega) (fun g hg => (HO14.out.lt g hg).1)); have hs5 := HB5.out.size; have HO14 := hide hown1; have HO15 := hide k15; have HAP := hide ap1; clear hown1 hgrow1 hat1 k15 ap1)
            | (at_builtin; refine wpList_append_lies _ rfl (.tmp 77) (.tmp 78) 22 rfl w3.heap.size 3 i0 _ 1 8 Try.underlying22 hi0 hz0 hz1 hz2 rfl (by decide) u15 q (ints (zrs q)) rfl (HO15.out.alloc _) ⟨w5.heap.size, 0, none⟩ 1 1 [.int .i64 0] rfl rfl (news_blk (heap_alloc_new _ _)) (by simp [Value.oneCell']) (by decide) (by unfold maxLen; omega) (by omega) (by simp; omega) _ rfl ?_; intro g2 cap2' w6 hown2 hgrow2 hat2 hlt2; obtain ⟨k14, ap2⟩ := two_step (n := q + 1) (c := cap2') (HO14.out.alloc _) HAP.out.symm hgrow2 hat2; have HB6 := hide (Below.grown (HB5.out.alloc hs5 _) hgrow2 (by simp; omega) (fun g hg => (HO15.out.lt g hg).1)); have HO15 := hide hown2; have HO14 := hide k14; have HAP := hide ap2.symm; clear hown2 hgrow2 hat2 k14 ap2))
          try go_wp2
          go_roundw
          case rel => exact ⟨k + 1, by omega, by omega, by go_num, by rw [HAS2.out], by rw [HAS2.out]; simp only [List.length_append, List.length_cons, List.length_nil, Nat.zero_add]; rw [← ints_snoc2, HQ.out]; exact HO14.out, by rw [HAS2.out]; simp only [List.length_append, List.length_cons, List.length_nil, Nat.zero_add]; rw [HQ.out, ← zs_snoc]; exact HO15.out, HAP.out, HB6.out⟩
          case measure => simp [intOf]; omega
        · have hb : ((((v : Int) : Int)) == (me : Int)) = false := by simp; omega
          have HAS2 : Hid (al gaps links m me (k + 1) = (l, t + pz)) := by rw [HAS.out, if_neg hvm]; exact rfl
          clear hvm
          go_wp2_with fail
          go_roundw
          case rel => exact ⟨k + 1, by omega, by omega, by go_num, by rw [HAS2.out], by rw [HAS2.out, HQ.out]; exact HO14.out, by rw [HAS2.out, HQ.out]; exact HO15.out, HAP.out, HBR.out⟩
          case measure => simp [intOf]; omega
      · have HVV : Hid (vlo links m k = 0) := by unfold vlo; rw [if_neg (by rw [HG33.out.1]; exact hl)]; exact rfl
        rw [HVV.out] at HAS
        clear HVV
        have hl1 : (n3 : Int) ≤ (k : Int) := by omega
        have hl2 : decide ((k : Int) < (n3 : Int)) = false := by simp; omega
        have hq60 : q ≤ 60 := by omega
        by_cases hvm : 0 = me
        · have hb : (((0 : Int)) == (me : Int)) = true := by simp; omega
          have HAS2 : Hid (al gaps links m me (k + 1) = (l ++ [t + pz], 0)) := by rw [HAS.out, if_pos hvm]; exact rfl
          clear hvm
          go_wp2_with (first
            | (at_builtin; refine wpList_append_lies _ rfl (.tmp 73) (.tmp 75) 22 rfl w3.heap.size 3 i0 _ 1 8 Try.underlying22 hi0 hz0 hz1 hz2 rfl (by decide) u14 q (ints l) rfl (HO14.out.alloc _) ⟨wr.heap.size, 0, none⟩ 1 1 [.int .i64 (t + pz)] rfl rfl (news_blk (heap_alloc_new _ _)) (by simp [Value.oneCell']) (by decide) (by unfold maxLen; omega) (by omega) (by simp; omega) _ rfl ?_; intro g1 cap1 w5 hown1 hgrow1 hat1 hlt1; obtain ⟨k15, ap1⟩ := two_step (n := q + 1) (c := cap1) (HO15.out.alloc _) HAP.out hgrow1 hat1; have HB5 := hide (Below.grown (HBR.out.alloc hszr _) hgrow1 (by simp; omega) (fun g hg => (HO14.out.lt g hg).1)); have hs5 := HB5.out.size; have HO14 := hide hown1; have HO15 := hide k15; have HAP := hide ap1; clear hown1 hgrow1 hat1 k15 ap1)
            | (at_builtin; refine wpList_append_lies _ rfl (.tmp 77) (.tmp 78) 22 rfl w3.heap.size 3 i0 _ 1 8 Try.underlying22 hi0 hz0 hz1 hz2 rfl (by decide) u15 q (ints (zrs q)) rfl (HO15.out.alloc _) ⟨w5.heap.size, 0, none⟩ 1 1 [.int .i64 0] rfl rfl (news_blk (heap_alloc_new _ _)) (by simp [Value.oneCell']) (by decide) (by unfold maxLen; omega) (by omega) (by simp; omega) _ rfl ?_; intro g2 cap2' w6 hown2 hgrow2 hat2 hlt2; obtain ⟨k14, ap2⟩ := two_step (n := q + 1) (c := cap2') (HO14.out.alloc _) HAP.out.symm hgrow2 hat2; have HB6 := hide (Below.grown (HB5.out.alloc hs5 _) hgrow2 (by simp; omega) (fun g hg => (HO15.out.lt g hg).1)); have HO15 := hide hown2; have HO14 := hide k14; have HAP := hide ap2.symm; clear hown2 hgrow2 hat2 k14 ap2))
          try go_wp2
          go_roundw
          case rel => exact ⟨k + 1, by omega, by omega, by go_num, by rw [HAS2.out], by rw [HAS2.out]; simp only [List.length_append, List.length_cons, List.length_nil, Nat.zero_add]; rw [← ints_snoc2, HQ.out]; exact HO14.out, by rw [HAS2.out]; simp only [List.length_append, List.length_cons, List.length_nil, Nat.zero_add]; rw [HQ.out, ← zs_snoc]; exact HO15.out, HAP.out, HB6.out⟩
          case measure => simp [intOf]; omega
        · have hb : (((0 : Int)) == (me : Int)) = false := by simp; omega
          have HAS2 : Hid (al gaps links m me (k + 1) = (l, t + pz)) := by rw [HAS.out, if_neg hvm]; exact rfl
          clear hvm
          go_wp2_with fail
          go_roundw
          case rel => exact ⟨k + 1, by omega, by omega, by go_num, by rw [HAS2.out], by rw [HAS2.out, HQ.out]; exact HO14.out, by rw [HAS2.out, HQ.out]; exact HO15.out, HAP.out, HBR.out⟩
          case measure => simp [intOf]; omega
    · have HK := hide (show k = min gaps.length 60 by rw [HG23.out.1]; omega)
      have hpar : (decide ((k : Int) < n2) = false) ∨ (k < n2 ∧ k = 60) := by
        by_cases h : k < n2
        · exact .inr ⟨h, by omega⟩
        · exact .inl (by simp; omega)
      have HAl := hide (fun (hs : ∀ x ∈ (al gaps links m me k).1, x < 60) z O' L' (h' : Fin [bs.getD me 0] (al gaps links m me k).1 z O' L') => HF.out.alone (O' := O') (L' := L') (z := z) (by rw [HM.out]; exact hmlt) (by rw [HM.out, ← HK.out]; exact hs) (by rw [HM.out, ← HK.out]; exact h'))
      have HQZ := hide (zrs_len (al gaps links m me k).1.length)
      clear hlt ht1 ht0
      generalize (al gaps links m me k).1 = l at *
      generalize (al gaps links m me k).2 = t at *
      obtain ⟨q, hq⟩ : ∃ q, l.length = q := ⟨_, rfl⟩
      rw [hq] at HO14 HO15 HQZ hql
      obtain ⟨A14, c14, e14, hc14, hi14⟩ := ints_own (F := fun _ => False) HO14.out hq (fun _ _ h => h)
      obtain ⟨A15, c15, e15, hc15, hi15⟩ := ints_own (F := fun _ => False) HO15.out HQZ.out (fun _ _ h => h)
      have HI14 := hide hi14
      have HI15 := hide hi15
      have HQ := hide hq
      subst e14 e15
      clear hi14 hi15 HO14 HO15 HAP hq
      have hxs2 : ∀ i : Nat, i < q → 0 ≤ l.getD i 0 ∧ l.getD i 0 ≤ 3600 := fun i hi => by
        have := hxs (l.getD i 0) (by rw [List.getD_eq_getElem?_getD, List.getElem?_eq_getElem (by rw [HQ.out]; exact hi)]; exact List.getElem_mem _)
        omega
      have HXS := hide hxs2
      clear hxs hxs2
      rcases hpar with hp | ⟨hp1, hp2⟩
      case' inr => have hp3 : (k : Int) < (n2 : Int) := by omega
      case' inr => have hp4 : decide ((k : Int) < 60) = false := by simp; omega
      case' inr => have hp5 : (60 : Int) ≤ (k : Int) := by omega
      case' inr => clear hp1 hp2
      case' inl => have hp5 : (n2 : Int) ≤ (k : Int) := by simpa using hp
      all_goals
        go_wp2_with fail
        obtain ⟨wo, rfl⟩ : ∃ wo : World, wo = wr := ⟨_, rfl⟩
        go_loopw [19] (fun v19 wx => ∃ j : Nat, j ≤ q ∧ v19 = .int .i64 j ∧ (∀ i : Nat, i < j → l.getD i 0 < 60) ∧ wx = wo) (fun v19 _ => q - (intOf v19).toNat)
        case atStart => exact ⟨0, Nat.zero_le _, rfl, (fun i hi => by omega), rfl⟩
        case round =>
          obtain ⟨j, hj, rfl, hall, rfl⟩ := hrel
          have HALL := hide hall
          have hj0 : (0 : Int) ≤ (j : Int) := by omega
          clear hall
          by_cases hjq : j < q
          · have hjq1 : (j : Int) < (q : Int) := by omega
            obtain ⟨bl, ol, hAl, -⟩ := HI14.out.2 (by omega)
            subst hAl
            have cl := HI14.out.cell rfl hjq
            obtain ⟨lx, hlx⟩ : ∃ lx, l.getD j 0 = lx := ⟨_, rfl⟩
            have HLX := hide hlx
            rw [hlx] at cl
            clear hlx
            by_cases hbig : 60 ≤ lx
            · go_wp2_with fail
              go_ret
              exact ⟨rfl, HB3.out.trans (HBR.out.mono HB3.out.size)⟩
            · have hbig2 : decide (60 ≤ lx) = false := decide_eq_false hbig
              have HLY := hide (show l.getD j 0 < 60 by rw [HLX.out]; omega)
              go_wp2_with fail
              go_roundw
              case rel => exact ⟨j + 1, by omega, by go_num, (fun i hi => by
                by_cases hij : i = j
                · subst hij; exact HLY.out
                · exact HALL.out i (by omega)), by trivial⟩
              case measure => simp [intOf]; omega
          · obtain rfl : q = j := by omega
            have hs60 : Hid (∀ x ∈ l, x < 60) := fun x hx => by
              obtain ⟨i, hi, rfl⟩ := List.getElem_of_mem hx
              have := HALL.out i (by rw [← HQ.out]; exact hi)
              rw [List.getD_eq_getElem?_getD, List.getElem?_eq_getElem hi] at this
              exact this
            clear HALL hjq
            obtain ⟨bb, ob, hAb, -⟩ := HIB3.out.2 (by omega)
            subst hAb
            have cb3 := (HIB3.out.below HBR.out).cell rfl hmlt
            have hme0 : (0 : Int) ≤ (me : Int) := by omega
            have hme1 : (me : Int) + 1 ≤ (cb : Int) := by omega
            have hme2 : (me : Int) < (cb : Int) := by omega
            have hme3 : ¬ cb = me := by omega
            go_wp2_with fail
            have HIB4 : Hid (Ints wr (some ⟨bb, ob + me, none⟩) 1 [bs.getD me 0] (fun _ => False)) := ⟨rfl, fun _ => ⟨bb, ob + me, rfl, fun h => h, cell_lt cb3, fun i z hz => by
              match i, hz with
              | 0, hz => injection hz with hz; subst hz; exact cb3
              | i + 1, hz => simp at hz⟩⟩
            have HBO : Hid (∀ b ∈ [bs.getD me 0], 1 ≤ b ∧ b ≤ 200) := fun b hb => by
              rw [List.mem_singleton] at hb
              subst hb
              exact HB.out _ (by rw [List.getD_eq_getElem?_getD, List.getElem?_eq_getElem (by rw [HM.out]; exact hmlt)]; exact List.getElem_mem _)
            refine (run_any (some ⟨bb, ob + me, none⟩) A14 A15 1 (cb - me) q c14 q c15 [bs.getD me 0] l (zrs q) _ wr (Nat.le_refl 1) (by omega) (by omega) (by omega) (hide rfl) HBO HIB4 HI14 HI15).mono ?_
            rintro e w4 ⟨ta2, tl2, O2, L2, Q3, Q4, rfl, hto2, htl2, hbl2, hfin2⟩
            have heq := HAl.out hs60.out (zrs q) O2 L2 hfin2
            have hb4 := HBR.out.trans (hbl2.mono hszr)
            have HB4 := hide hb4
            obtain ⟨V2, hV2⟩ := htl2
            obtain ⟨VL, hVL⟩ := HTL.out.below hb4
            obtain ⟨AX, cX, eX, evX⟩ := hV2.event (i := 0) (by decide)
            obtain ⟨AY, cY, eY, evY⟩ := hVL.event hmlt
            have cTX := hV2.cell (i := 0) (by decide)
            have cTY := hVL.cell hmlt
            obtain ⟨r, hr⟩ : ∃ r, (L2 0).length = r := ⟨_, rfl⟩
            have hr2 : (L me).length = r := by have := congrArg List.length heq; simp only [List.length_map] at this; omega
            rw [eX, hr] at cTX
            rw [eY, hr2] at cTY
            have htX : tl2 < w4.heap.size := hV2.inn _ hV2.qt
            have hr60 : r ≤ 9223372036854775807 := by
              have h1 := HF.out.ids me (by rw [HM.out]; exact hmlt)
              have h2 := HF.out.len me (by rw [HM.out]; exact hmlt)
              have h3 := congrArg List.length h1
              simp only [List.length_map] at h3
              omega
            have HEQ := hide heq
            have HEX := hide evX
            have HEY := hide evY
            have HR := hide hr
            have HR2 := hide hr2
            clear hto2 hbl2 hfin2 heq hb4 hV2 hVL eX eY evX evY hr hr2 HAl HTL HF HIB4 HI14 HI15 HBR hszr cb3
            go_wp2_with fail
            go_quiet (fail)
            go_wp2_with fail
            change w4.cell? ⟨tl2, 0, none⟩ = _ at cTX
            obtain ⟨wo, rfl⟩ : ∃ wo : World, wo = w4 := ⟨_, rfl⟩
            go_loopw [23] (fun v23 wx => ∃ j : Nat, j ≤ r ∧ v23 = .int .i64 j ∧ ∃ d, wx = wo.drewN d) (fun v23 _ => r - (intOf v23).toNat)
            case atStart => exact ⟨0, Nat.zero_le _, rfl, _, rfl⟩
            case round =>
              obtain ⟨j, hj, rfl, d, rfl⟩ := hrel
              have hj0 : (0 : Int) ≤ (j : Int) := by omega
              by_cases hjr : j < r
              · have hjr1 : (j : Int) < (r : Int) := by omega
                have hj1 : j < (L2 0).length := by rw [HR.out]; exact hjr
                have hj2 : j < (L me).length := by rw [HR2.out]; exact hjr
                obtain ⟨gX, hAX, x0, x1⟩ := HEX.out j _ (List.getElem?_eq_getElem hj1)
                obtain ⟨gY, hAY, y0, y1⟩ := HEY.out j _ (List.getElem?_eq_getElem hj2)
                have hxy : (L2 0)[j].1 = (L me)[j].1 := by
                  have := congrArg (fun l => l[j]?) HEQ.out
                  simp only [List.getElem?_map, List.getElem?_eq_getElem hj1, List.getElem?_eq_getElem hj2, Option.map_some, Option.some.injEq] at this
                  exact this
                subst hAX hAY
                rw [hxy] at x0
                rw [Nat.mul_comm] at x0 y0
                clear x1 y1 hxy
                generalize (L me)[j].1 = y at *
                go_wp2_with fail
                go_quiet (fail)
                go_wp2_with fail
                go_roundw
                case rel => exact ⟨j + 1, by omega, by go_num, _, rfl⟩
                case measure => simp [intOf]; omega
              · have hjr2 : (r : Int) ≤ (j : Int) := by omega
                go_wp2_with fail
                go_ret
                exact ⟨rfl, below_drewN (HB3.out.trans (HB4.out.mono HB3.out.size)) _⟩
end Go.Proofs.Ytdfhnbkmppdplaa
