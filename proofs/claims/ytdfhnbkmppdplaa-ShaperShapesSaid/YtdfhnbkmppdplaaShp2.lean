/-
  ShaperShapes: the walk.
-/
import Derived.Test.YtdfhnbkmppdplaaShp1
import Derived.Deep.DeepCutAuto
namespace Go.Proofs.Ytdfhnbkmppdplaa
open Go.RowKit
theorem tms_zero (gs : List Int) : tms gs 0 = [] := rfl
theorem ints_snoc (zs : List Int) (z : Int) : ints zs ++ [.int .i64 z] = ints (zs ++ [z]) := by unfold ints; simp
theorem own_below {w w' : World} {base e size n : Nat} {v : Value} {xs : List Value} (h : w.ownsRow base e size v n xs) (hb : Below w.heap.size w w') : w'.ownsRow base e size v n xs := by
  obtain ⟨h1, h2⟩ := h
  refine ⟨h1, ?_⟩
  rcases h2 with h2 | ⟨g, cap, cur, hv, hg, hh, r⟩
  · exact .inl h2
  · exact .inr ⟨g, cap, cur, hv, hg, (hb.block g (blk_in hh)).trans hh, r⟩
set_option maxRecDepth 100000 in
set_option maxHeartbeats 2000000 in
theorem shapes_main (bag : Int) (A : Option Addr) (n cap : Nat) (gs : List Int) (less : Int) (w : World) (hn : n ≤ 9223372036854775807) (h : Hid (Ints w A n gs (fun _ => False))) (l0 : 0 ≤ less) (l1 : less ≤ 255) :
    Calls Try.prog 7 #[.int .i64 bag, .slice A n cap, .int .u8 less] w fun e w' => e = .returned (.bool true) ∧ Below w.heap.size w w' := by
  obtain ⟨i0, hi0, hz0, hz1, hz2⟩ := info_parts intInfo
  obtain ⟨p0, p1⟩ := pick_bd bag 500 (by decide)
  obtain ⟨B, hB⟩ : ∃ B, 1 + pick bag 500 = B := ⟨_, rfl⟩
  have b1 : 1 ≤ B := by omega
  have b2 : B ≤ 500 := by omega
  have HBB := hide hB
  obtain ⟨q, hq⟩ : ∃ q, pick bag 500 = q := ⟨_, rfl⟩
  have HQ := hide hq
  rw [hq] at p0 p1 hB
  have HBq := hide hB
  clear hq hB
  go_enter Try.func7, Try.ntmps7
  go_wp2_with fail
  refine (awake_any w).mono ?_
  rintro e w1 ⟨rfl, hb1⟩
  have HB1 := hide hb1
  clear hb1
  go_wp2_with fail
  refine (pick_any bag 500 w1 (by decide) (by decide)).mono ?_
  rw [HQ.out]
  rintro e w2 ⟨rfl, rfl⟩
  go_wp2_with fail
  rw [HBq.out]
  go_loopw [7, 8, 9] (fun v7 v8 v9 wr => ∃ k : Nat, k ≤ n ∧ k ≤ 100 ∧ v9 = .int .i64 k ∧ v8 = .int .i64 (tm gs k) ∧ wr.ownsRow w.heap.size 3 1 v7 k (ints (tms gs k)) ∧ Below w.heap.size w wr) (fun _ _ v9 _ => n - (intOf v9).toNat)
  case atStart => exact ⟨0, by omega, by omega, rfl, rfl, World.ownsRow_nil _ _ _ _, HB1.out⟩
  case round =>
    obtain ⟨k, hk, hk2, rfl, rfl, hown, hbr⟩ := hrel
    have HOW := hide hown
    have HBR := hide hbr
    have hsz := hbr.size
    clear hown hbr
    by_cases hlt : k < n ∧ k < 100
    · obtain ⟨hlt, hlt2⟩ := hlt
      obtain ⟨b, off, hA, -⟩ := h.out.2 (by omega)
      subst hA
      have hc := (h.out.below HBR.out).cell rfl hlt
      have HT : Hid (tm gs (k + 1) = tm gs k + pick (gs.getD k 0) 500) := rfl
      have HS := hide (tms_succ gs k)
      obtain ⟨r0, r1⟩ := pick_bd (gs.getD k 0) 500 (by decide)
      obtain ⟨t0, t1⟩ := tm_bd gs k
      have hk0 : (0 : Int) ≤ (k : Int) := by omega
      have hk1 : (k : Int) < (n : Int) := by omega
      have hk3 : (k : Int) < 100 := by omega
      have t2 : tm gs k ≤ 50000 := by omega
      have HP := hide (fun w => pick_any (gs.getD k 0) 500 w (by decide) (by decide))
      generalize gs.getD k 0 = z at *
      generalize pick z 500 = pz at *
      generalize tm gs k = T at *
      clear t1
      go_wp2_with fail
      refine (HP.out _).mono ?_
      rintro e w2 ⟨rfl, rfl⟩
      go_wp2_with (at_builtin; refine wpList_append_own _ rfl _ _ 22 rfl w.heap.size 3 i0 _ 1 8 Try.underlying22 hi0 hz0 hz1 hz2 rfl (by decide) _ _ _ rfl (HOW.out.alloc _) ⟨wr.heap.size, 0, none⟩ 1 1 [_] rfl rfl (new1 wr _ _ _ rfl) (by simp [Value.oneCell']) (by unfold maxLen; omega) (by omega) (by simp; omega) ?_; intro v' w1 hown' hgrow _)
      rw [ints_snoc, ← HT.out, ← HS.out] at hown'
      have HG := hide (Below.grown ((Below.refl w.heap.size wr).alloc (by omega) _) hgrow (by simp; omega) (fun g hg => (HOW.out.lt g hg).1))
      have HO := hide hown'
      clear hown' hgrow
      try go_wp2
      go_roundw
      case rel => exact ⟨k + 1, by omega, by omega, by go_num, by rw [HT.out], HO.out, HBR.out.trans HG.out⟩
      case measure => simp [intOf]; omega
    · have HK := hide hk2
      have HO1 := hide (tms_order gs k hk2)
      have HO2 := hide (shape_order B b1 b2 gs k hk2)
      have HTL := hide (tms_len gs k)
      have HBG : Hid (bagB B = true) := by unfold bagB Hid; simp; omega
      have HID := hide (shape_idem B (tms gs k))
      have HGE := hide (fun i hi => shape_ge B (tms gs k) i hi)
      have HC1 : Hid (conformsB B (shapeL B (tms gs k)) = true) := by unfold conformsB Hid; rw [HBG.out, HO2.out, HID.out]; simp
      have HC2 : Hid (conformsB B (tms gs k) = (shapeL B (tms gs k) == tms gs k)) := by unfold conformsB Hid; rw [HBG.out, HO1.out]; simp
      have HSL := hide ((shapeL_length B (tms gs k)).trans HTL.out)
      have HBD : Hid (∀ i : Nat, i < k → 0 ≤ (tms gs k).getD i 0 ∧ (tms gs k).getD i 0 ≤ 60000 ∧ 0 ≤ (shapeL B (tms gs k)).getD i 0 ∧ (shapeL B (tms gs k)).getD i 0 ≤ 200000) := by
        intro i hi
        have h1 := tms_at gs k i hi
        have h2 := tm_bd gs (i + 1)
        have hz : ∀ j : Nat, j < (tms gs k).length → 0 ≤ (tms gs k).getD j 0 ∧ (tms gs k).getD j 0 ≤ 50000 := fun j hj => by
          rw [tms_len] at hj
          rw [tms_at gs k j hj]
          have := tm_bd gs (j + 1)
          omega
        have h3 := shape_bound B (by omega) 50000 k (tms gs k) (by rw [tms_len]; omega) hz i hi
        rw [List.take_of_length_le (by rw [tms_len]; omega)] at h3
        have h4 : (i : Int) * B ≤ 100 * 500 := Int.mul_le_mul (by omega) b2 (by omega) (by omega)
        omega
      generalize tms gs k = T at *
      obtain ⟨A7, c7, hv7, hc7, hi7⟩ := ints_own (F := fun b => b < w.heap.size) HOW.out HTL.out (fun _ h1 h2 => by omega)
      subst hv7
      have HI7 := hide hi7
      clear hi7 HOW
      generalize hO : shapeL B T = O at *
      have HO := hide hO
      clear hO
      have hpar : (decide ((k : Int) < n) = false) ∨ (k < n ∧ k = 100) := by
        by_cases h1 : k < n
        · exact .inr ⟨h1, by omega⟩
        · exact .inl (by simp; omega)
      clear hlt
      have HSH := hide (fun W hI => shape_fine B A7 k c7 T (fun b => b < w.heap.size) W (by have := HK.out; omega) hI HBG HO1)
      rw [HO.out] at HSH
      clear p0 p1 HQ
      have hkN : Hid (k = 100 → 0 < k) := fun h => by omega
      rcases hpar with hp | ⟨hp1, hp2⟩
      case' inr => have hp3 : (k : Int) < (n : Int) := by omega
      case' inr => have hp4 : decide ((k : Int) < 100) = false := by simp; omega
      case' inr => have hp5 : (100 : Int) ≤ (k : Int) := by omega
      case' inr => clear hp1 hp2
      case' inl => have hp5 : (n : Int) ≤ (k : Int) := by simpa using hp
      all_goals
        go_wp2_with fail
        refine (HSH.out wr HI7).mono ?_
        rintro e w2 ⟨v10, rfl, hown, hbl⟩
        obtain ⟨A10, c10, hv10, hc10, hi10⟩ := ints_own (F := fun b => b < wr.heap.size) hown HSL.out (fun _ h1 h2 => by omega)
        subst hv10
        have HI10 := hide hi10
        have HOW10 := hide hown
        have HB2 := hide (HBR.out.trans (hbl.mono hsz))
        have HI72 := hide (HI7.out.below hbl)
        clear hi10 hown hbl HSH
        go_wp2_with fail
        refine (shape_fine B A10 k c10 O _ w2 (by have := HK.out; omega) HI10 HBG HO2).mono ?_
        rw [HID.out]
        rintro e w3 ⟨v12, rfl, hown, hbl⟩
        obtain ⟨A12, c12, hv12, hc12, hi12⟩ := ints_own (F := fun b => False) hown HSL.out (fun _ h1 h2 => h2)
        subst hv12
        have HI12 := hide hi12
        have HI103 := hide (HI10.out.below hbl)
        have HI73 := hide (HI72.out.below hbl)
        have HB3 := hide (HB2.out.trans (hbl.mono HB2.out.size))
        have HOW3 := hide (own_below HOW10.out hbl)
        clear HOW10 hi12 hown hbl HI72 HI10
        go_wp2_with fail
        refine (conforms_any B A10 k c10 O _ w3 (by have := HK.out; omega) HI103).mono ?_
        rw [HC1.out]
        rintro e w4 ⟨rfl, hbl⟩
        have HI124 := hide (HI12.out.below hbl)
        have HI104 := hide (HI103.out.below hbl)
        have HI74 := hide (HI73.out.below hbl)
        have HOW4 := hide (own_below HOW3.out hbl)
        have HB4 := hide (HB3.out.trans (hbl.mono HB3.out.size))
        clear hbl HI12 HI103 HI73 HOW3
        go_wp2_with fail
        refine (sameInts_any A12 A10 k k c12 c10 O O _ _ w4 (by have := HK.out; omega) (by have := HK.out; omega) HI124 HI104).mono ?_
        rw [show (O == O) = true from by simp]
        rintro e w5 ⟨rfl, d5, rfl⟩
        go_wp2_with fail
        refine (conforms_any B A7 k c7 T (fun b => b < w.heap.size) (w4.drewN d5) (by have := HK.out; omega) (hide (HI74.out.drewN d5))).mono ?_
        rw [HC2.out]
        rintro e w6 ⟨rfl, hbl0⟩
        have hbl : Below w4.heap.size w4 w6 := (below_drewN (Below.refl _ _) d5).trans hbl0
        have HI106 := hide (HI104.out.below hbl)
        have HI76 := hide (HI74.out.below hbl)
        have HOW6 := hide (own_below HOW4.out hbl)
        have HB6 := hide (HB4.out.trans (hbl.mono HB4.out.size))
        clear hbl hbl0 HI124 HI104 HI74 HOW4
        go_wp2_with fail
        refine (sameInts_any A10 A7 k k c10 c7 O T _ _ w6 (by have := HK.out; omega) (by have := HK.out; omega) HI106 HI76).mono ?_
        obtain ⟨eb, heb⟩ : ∃ eb, (O == T) = eb := ⟨_, rfl⟩
        rw [heb]
        rintro e w7 ⟨rfl, d7, rfl⟩
        clear heb
        have HI10 := hide (HI106.out.drewN d7)
        have HI7W := hide (HI76.out.drewN d7)
        have HOW := hide (own_below HOW6.out (below_drewN (Below.refl _ _) d7))
        have HBW := hide (below_drewN HB6.out d7)
        generalize w6.drewN d7 = W at *
        clear HI106 HI76 HOW6 HB6 w6
        cases eb
        all_goals
          go_wp2_with fail
          go_loopw [14] (fun v14 wr => ∃ j : Nat, j ≤ k ∧ v14 = .int .i64 j ∧ ∃ d, wr = W.drewN d) (fun v14 _ => k - (intOf v14).toNat)
          case atStart => exact ⟨0, by omega, rfl, 0, rfl⟩
          case round =>
            obtain ⟨j, hj, rfl, d, rfl⟩ := hrel
            by_cases hlt : j < k
            · obtain ⟨bO, oO, hAO, -⟩ := HI10.out.2 (by omega)
              obtain ⟨bT, oT, hAT, -⟩ := HI7W.out.2 (by omega)
              subst hAO hAT
              have cO := (HI10.out.drewN d).cell rfl hlt
              have cT := (HI7W.out.drewN d).cell rfl hlt
              have hge := HGE.out j (by rw [HTL.out]; exact hlt)
              have hk0 : (0 : Int) ≤ (j : Int) := by omega
              have hk1 : (j : Int) < (k : Int) := by omega
              by_cases hxy : T.getD j 0 = O.getD j 0
              · rw [hxy] at cT
                clear hge hxy
                generalize O.getD j 0 = x at *
                generalize hV : W.drewN d = V at *
                have HV := hide hV
                clear hV
                go_wp2_with fail
                go_quiet (fail)
                go_wp2_with fail
                go_roundw
                case rel => exact ⟨j + 1, by omega, by go_num, _, by rw [← HV.out]; exact World.drewN_drewN _ _ _⟩
                case measure => simp [intOf]; omega
              · obtain ⟨i, rfl⟩ : ∃ i, j = i + 1 := ⟨j - 1, by omega⟩
                have hx2 : O.getD (i + 1) 0 = O.getD i 0 + B := by rcases hge.2 with h | ⟨_, h⟩; exact absurd h hxy; exact h
                have cP := (HI10.out.drewN d).cell rfl (show i < k by omega)
                have hbd := HBD.out i (by omega)
                have hlt2 : T.getD (i + 1) 0 < O.getD i 0 + B := by omega
                rw [hx2] at cO
                have s0 : IntKind.i64.wrap (i : Int) = (i : Int) := by apply IntWalk.i64_in <;> omega
                have s1 : IntKind.i64.wrap (O.getD i 0 + B) = O.getD i 0 + B := by apply IntWalk.i64_in <;> omega
                have hp0 : 0 ≤ O.getD i 0 := hbd.2.2.1
                have hp1 : O.getD i 0 ≤ 200000 := hbd.2.2.2
                clear hge hxy hx2 hbd
                generalize O.getD i 0 = x at *
                generalize T.getD (i + 1) 0 = y at *
                have hj0 : (((i : Int) + 1) == 0) = false := by simp; omega
                have hi0 : (0 : Int) ≤ (i : Int) := by omega
                have hi1 : (i : Int) < (k : Int) := by omega
                have g1 : decide (x + B < y) = false := by simp; omega
                have g2 : decide (y < x + B) = true := by simp; omega
                generalize hV : W.drewN d = V at *
                have HV := hide hV
                clear hV
                go_wp2_with fail
                go_quiet (fail)
                go_wp2_with fail
                go_roundw
                case rel => exact ⟨i + 1 + 1, by omega, by go_num, _, by rw [← HV.out]; exact World.drewN_drewN _ _ _⟩
                case measure => simp [intOf]; omega
            · obtain rfl : j = k := by omega
              have hkk := HK.out
              by_cases h0 : j = 0
              · have hb0 : (((j : Int)) == 0) = true := by simp [h0]
                have hle : (j : Int) ≤ 0 := by omega
                clear h0
                go_wp2_with fail
                go_ret
                exact ⟨rfl, below_drewN HBW.out _⟩
              · have hb0 : (((j : Int)) == 0) = false := by simpa using h0
                obtain ⟨bT, oT, hAT, -, hbT, -⟩ := HI7.out.2 (by omega)
                obtain ⟨bO, oO, hAO, hbO, -⟩ := HI10.out.2 (by omega)
                obtain ⟨r, hr⟩ : ∃ r : Nat, less % (j : Int) = r := ⟨(less % (j : Int)).toNat, by have := Int.emod_nonneg less (show (j : Int) ≠ 0 by omega); omega⟩
                have hrk : r < j := by have := Int.emod_lt_of_pos less (show (0 : Int) < j by omega); omega
                have hr2 : less.tmod (j : Int) = r := by rw [Int.tmod_eq_emod_of_nonneg l0]; exact hr
                have hne : bT ≠ bO := by omega
                have hfr : (W.drewN d).frozen? ⟨bO, oO + r, none⟩ = false := by
                  obtain ⟨_, h2⟩ := HOW.out
                  rcases h2 with ⟨_, hz⟩ | ⟨g, cap', cur, hv, _, hh, _⟩
                  · omega
                  · rw [hAO] at hv
                    injection hv with hv
                    injection hv with hv
                    injection hv with hv hv2
                    subst hv
                    exact frozen_of_row W _ _ _ _ hh
                subst hAT hAO
                have cO := (HI10.out.drewN d).cell rfl hrk
                have cT := (HI7W.out.drewN d).cell rfl hrk
                have hge := HGE.out r (by rw [HTL.out]; exact hrk)
                have hbd := HBD.out r hrk
                have hk0 : (0 : Int) ≤ (r : Int) := by omega
                have hk1 : (r : Int) < (j : Int) := by omega
                have hj1 : (0 : Int) < (j : Int) := by omega
                have hbow : w.heap.size ≤ bO := by omega
                clear h0
                by_cases hxy : T.getD r 0 = O.getD r 0
                · rw [hxy] at cT
                  have hx0 : 0 ≤ O.getD r 0 := hbd.2.2.1
                  have hx1 : O.getD r 0 ≤ 200000 := hbd.2.2.2
                  clear hge hxy hbd
                  generalize O.getD r 0 = x at *
                  generalize hV : W.drewN d = V at *
                  have HV := hide hV
                  clear hV
                  go_wp2_with fail
                  have d0 := cell_set_at (v := .int .i64 (x - 1)) cO (oO + r)
                  rw [if_pos rfl] at d0
                  have dT : (V.setCell ⟨bO, oO + r, none⟩ (.int .i64 (x - 1))).cell? ⟨bT, oT + r, none⟩ = some (.int .i64 x) := (World.cell?_setCell_other _ _ _ _ (by intro he; exact hne (congrArg Addr.block he).symm)).trans cT
                  have hK : Hid (Below w.heap.size w (V.setCell ⟨bO, oO + r, none⟩ (.int .i64 (x - 1)))) := by rw [← HV.out]; exact (below_drewN HBW.out d).setCell hbow _
                  generalize V.setCell ⟨bO, oO + r, none⟩ (.int .i64 (x - 1)) = U at *
                  have g1 : decide (x - 1 < x) = true := by simp; omega
                  clear cO cT hfr
                  go_quiet (fail)
                  go_wp2_with fail
                  go_ret
                  exact ⟨rfl, below_drewN hK.out _⟩
                · obtain ⟨i, rfl⟩ : ∃ i, r = i + 1 := ⟨r - 1, by omega⟩
                  have hx2 : O.getD (i + 1) 0 = O.getD i 0 + B := by rcases hge.2 with h | ⟨_, h⟩; exact absurd h hxy; exact h
                  have cP := (HI10.out.drewN d).cell rfl (show i < j by omega)
                  have hbd2 := HBD.out i (by omega)
                  have hlt2 : T.getD (i + 1) 0 < O.getD i 0 + B := by omega
                  rw [hx2] at cO
                  have hp0 : 0 ≤ O.getD i 0 := hbd2.2.2.1
                  have hp1 : O.getD i 0 ≤ 200000 := hbd2.2.2.2
                  clear hge hxy hx2 hbd hbd2
                  generalize O.getD i 0 = x at *
                  generalize T.getD (i + 1) 0 = y at *
                  generalize hV : W.drewN d = V at *
                  have HV := hide hV
                  clear hV
                  go_wp2_with fail
                  have d0 := cell_set_at (v := .int .i64 (x + B - 1)) cO (oO + (i + 1))
                  rw [if_pos rfl] at d0
                  have d1 := cell_set_at (v := .int .i64 (x + B - 1)) cO (oO + i)
                  rw [if_neg (by omega)] at d1
                  have d2 := d1.trans cP
                  have dT : (V.setCell ⟨bO, oO + (i + 1), none⟩ (.int .i64 (x + B - 1))).cell? ⟨bT, oT + (i + 1), none⟩ = some (.int .i64 y) := (World.cell?_setCell_other _ _ _ _ (by intro he; exact hne (congrArg Addr.block he).symm)).trans cT
                  have hK : Hid (Below w.heap.size w (V.setCell ⟨bO, oO + (i + 1), none⟩ (.int .i64 (x + B - 1)))) := by rw [← HV.out]; exact (below_drewN HBW.out d).setCell hbow _
                  clear d1
                  generalize V.setCell ⟨bO, oO + (i + 1), none⟩ (.int .i64 (x + B - 1)) = U at *
                  have s0 : IntKind.i64.wrap (i : Int) = (i : Int) := by apply IntWalk.i64_in <;> omega
                  have s1 : IntKind.i64.wrap (x + B) = x + B := by apply IntWalk.i64_in <;> omega
                  have g1 : decide (x + B - 1 < y) = false := by simp; omega
                  have g2 : decide (x + B - 1 < x + B) = true := decide_eq_true (by omega)
                  have g3 : decide (0 < (i : Int) + 1) = true := decide_eq_true (by omega)
                  have hi0 : (0 : Int) ≤ (i : Int) := by omega
                  have hi1 : (i : Int) < (j : Int) := by omega
                  clear cO cT cP hfr
                  go_quiet (fail)
                  go_wp2_with fail
                  go_ret
                  exact ⟨rfl, below_drewN hK.out _⟩
end Go.Proofs.Ytdfhnbkmppdplaa
