/-
  HealthOrder: the walk.
-/
import Derived.Test.YtojmcgobihegpaaOrd1
namespace Go.Proofs.Ytojmcgobihegpaa
open Go.RowKit
set_option maxRecDepth 100000 in
set_option maxHeartbeats 4000000 in
theorem ord_main (A : Option Addr) (n cap : Nat) (rs : List HRow) (m p : ByteArray) (f : Int) (w : World) (hn : n ≤ 9223372036854775807) (HL : Hid (rs.length = n)) (hR : Hid (HRows w.heap.size w A rs)) (hf : n ≤ 64) (hcap : n ≤ cap) :
    Calls Try.prog 6 #[.slice A n cap, .string m, .string p, .int .u8 f] w fun e w' => e = .returned (.bool true) ∧ Below w.heap.size w w' := by
  obtain ⟨i0, hi0, hz0, hz1, hz2⟩ := info_parts rowInfo
  go_enter Try.func6, Try.ntmps6
  go_wp2_with (go_at_call 10; refine (few_any _ _ _ _).mono ?_; rintro e w' ⟨rfl, rfl⟩)
  go_loopw [9, 10, 29] (fun v9 v10 v29 wr => ∃ N : Nat, N ≤ 4 ∧ v29 = .int .i64 N ∧ wr.ownsRow w.heap.size 36 5 v9 (upL rs N).length (flat (upL rs N)) ∧ wr.ownsRow w.heap.size 36 5 v10 (dnL rs N).length (flat (dnL rs N)) ∧ Sep v9 v10 ∧ Below w.heap.size w wr)
    (fun _ _ v29 _ => 4 - (intOf v29).toNat)
  case atStart => exact ⟨0, by omega, rfl, World.ownsRow_nil _ _ _ _, World.ownsRow_nil _ _ _ _, (by intro k h; simp [Value.ownBlock] at h), Below.refl _ _⟩
  case round =>
    obtain ⟨N, hN, rfl, ho9, ho10, hsep, hbr⟩ := hrel
    by_cases hlt : N < 4
    case neg =>
      obtain rfl : N = 4 := by omega
      have hsub : ∀ r ∈ rs, r.ok := by
        intro r0 hr0
        obtain ⟨i, hi, he⟩ := List.getElem_of_mem hr0
        rcases hR.out with h | ⟨bl, off, _, _, hc⟩
        · rw [h] at hr0; simp at hr0
        · exact (hc i r0 (by rw [List.getElem?_eq_getElem hi, he])).1
      obtain ⟨a9, c9, hu9, HR9⟩ := hrows_own ho9 rfl (fun r hr => hsub r (upL_sub hr))
      obtain ⟨a10, c10, hu10, HR10⟩ := hrows_own ho10 rfl (fun r hr => hsub r (dnL_sub hr))
      subst hu9 hu10
      have hl9 := upL_len rs 4
      have hl10 := dnL_len rs 4
      rw [HL.out] at hl9 hl10
      have hD9 := hide (upL_dec rs m p f)
      have hD10 := hide (dnL_dec rs m p f)
      have hm9 : (upL rs 4).length ≤ 9223372036854775807 := by omega
      have hm10 : (dnL rs 4).length ≤ 9223372036854775807 := by omega
      generalize hgu : upL rs 4 = U at HR9 hD9 hm9
      generalize hgd : dnL rs 4 = D at HR10 hD10 hm10
      clear hgu hgd hl9 hl10 hsub ho9 ho10 hsep hlt
      have HB := hide hbr
      have HR1 := HRows.next hR hbr
      clear hbr
      go_wp2_with fail
      refine (decide_any _ n cap rs m p f wr hn HL HR1).mono ?_
      rintro e w1 ⟨rfl, hb1⟩
      have B1 := hide (bstep HB.out hb1)
      have HR2 := HRows.next HR9 hb1
      have HR3 := HRows.next HR10 hb1
      clear hb1
      go_wp2_with fail
      refine (decide_any _ _ c9 U m p f w1 hm9 rfl HR2).mono ?_
      rintro e w2 ⟨rfl, hb2⟩
      rw [hD9.out.1, hD9.out.2]
      have B2 := hide (bstep B1.out hb2)
      have HR4 := HRows.next HR3 hb2
      clear hb2
      go_wp2_with fail
      refine (decide_any _ _ c10 D m p f w2 hm10 rfl HR4).mono ?_
      rintro e w3 ⟨rfl, hb3⟩
      rw [hD10.out.1, hD10.out.2]
      have B3 := hide (bstep B2.out hb3)
      clear hb3 HR1 HR2 HR3 HR4 HR9 HR10 hD9 hD10
      go_wp2_with fail
      refine (row_any _ n cap rs m p f w3 hn HL (HRows.next hR B3.out)).mono ?_
      rintro e w4 ⟨rfl, hb4⟩
      have B4 := hide (bstep B3.out hb4)
      clear hb4
      cases hbad : badB p f
      case true =>
        have e1 : rowE p f = 2 := by unfold rowE; rw [hbad]; rfl
        rw [e1]
        clear e1
        go_wp2_with (go_at_call 11; refine (awake_any _).mono ?_; rintro e w' ⟨rfl, hb5⟩)
        go_ret
        exact ⟨rfl, bstep B4.out hb5⟩
      case false =>
        have e1 : rowE p f = 0 := by unfold rowE; rw [hbad]; rfl
        rcases decR_cases rs m p f with ⟨h1, h2⟩ | ⟨k, r, h1, h2, h3⟩
        · have e2 : rowI rs m p f = -1 := by unfold rowI; rw [hbad, h1]; rfl
          rw [e1, e2]
          clear e1 e2 h1 h2 hbad
          go_wp2_with (go_at_call 11; refine (awake_any _).mono ?_; rintro e w' ⟨rfl, hb5⟩)
          go_ret
          exact ⟨rfl, bstep B4.out hb5⟩
        · have e2 : rowI rs m p f = k := by unfold rowI; rw [hbad, h1]; rfl
          have hk : k < n := by rw [← HL.out]; exact (List.getElem?_eq_some_iff.1 h2).1
          have e3 : decL rs m p f = r.l ∧ decD rs m p f = r.d := by unfold decL decD; rw [hbad, h3]; exact ⟨rfl, rfl⟩
          have hcc := decR_concerns h1 h2
          have e4 : decL [r] m p f = r.l ∧ decD [r] m p f = r.d := by unfold decL decD; rw [hbad, decR_single hcc]; exact ⟨rfl, rfl⟩
          rcases hR.out with h | ⟨bl, off, rfl, hbb, hc⟩
          · exfalso; have := HL.out; rw [h] at this; simp at this; omega
          have hone : Hid (HRows w4.heap.size w4 (some ⟨bl, off + k * 5, none⟩) [r]) := by
            refine .inr ⟨bl, off + k * 5, rfl, Nat.lt_of_lt_of_le hbb B4.out.size, fun i r' hr' => ?_⟩
            match i, hr' with
            | 0, hr' =>
              cases hr'
              have hbc := fun o => B4.out.cell (p := ⟨bl, o, none⟩) hbb
              simp only [hbc, Nat.zero_mul, Nat.add_zero]
              exact hc k r h2
            | _ + 1, hr' => simp at hr'
          rw [e1, e2, e3.1, e3.2]
          have E4 := hide e4
          have E1 := hide e1
          clear e1 e2 e3 e4 h1 h2 h3 hbad hcc hc
          have hk1 : ((k : Int) == -1) = false := by simp
          go_wp2_with fail
          refine (decide_any _ 1 (cap - k) [r] m p f w4 (by decide) rfl hone).mono ?_
          rintro e w5 ⟨rfl, hb5⟩
          rw [E4.out.1, E4.out.2, E1.out]
          go_wp2_with (go_at_call 11; refine (awake_any _).mono ?_; rintro e w' ⟨rfl, hb6⟩)
          go_ret
          exact ⟨rfl, bstep (bstep B4.out hb5) hb6⟩
    case pos =>
      obtain ⟨wo, hwo⟩ : ∃ wo : World, wo = wr := ⟨_, rfl⟩
      subst hwo
      have hl9 := upL_len rs N
      have hl10 := dnL_len rs N
      rw [HL.out] at hl9 hl10
      have HO9 := hide ho9
      have HO10 := hide ho10
      have HS := hide hsep
      have HB := hide hbr
      have HM : Hid (4 - (intOf (.int .i64 (N + 1))).toNat < 4 - (intOf (.int .i64 N)).toNat) := by show _ < _; simp [intOf]; omega
      clear ho9 ho10 hsep hbr
      have hdN : decide ((N : Int) < 4) = true := by simp; omega
      go_wp2
      go_loopw [9, 10, 34] (fun v9 v10 v34 wi => ∃ j : Nat, j ≤ n ∧ v34 = .int .i64 j ∧ wi.ownsRow w.heap.size 36 5 v9 (upL rs N ++ rk (rs.take j) N).length (flat (upL rs N ++ rk (rs.take j) N)) ∧
          wi.ownsRow w.heap.size 36 5 v10 (dnL rs N ++ rk (rs.take j) (3 - (N : Int))).length (flat (dnL rs N ++ rk (rs.take j) (3 - (N : Int)))) ∧ Sep v9 v10 ∧ Below w.heap.size w wi)
        (fun _ _ v34 _ => n - (intOf v34).toNat)
      case atStart => exact ⟨0, by omega, rfl, by simpa [rk] using HO9.out, by simpa [rk] using HO10.out, HS.out, HB.out⟩
      case round =>
        obtain ⟨j, hj, rfl, ho9, ho10, hsep, hbi⟩ := hrel
        by_cases hlj : j < n
        case neg =>
          have htk : rs.take j = rs := List.take_of_length_le (by have := HL.out; omega)
          rw [htk] at ho9 ho10
          go_wp2
          go_roundw
          case rel => exact ⟨N + 1, by omega, by go_num, ho9, ho10, hsep, hbi⟩
          case measure => exact HM.out
        case pos =>
          rcases hR.out with h | ⟨bl, off, rfl, hbb, hc⟩
          · exfalso; have := HL.out; rw [h] at this; simp at this; omega
          obtain ⟨r, hr, hok, q0, q1, q2, q3, q4⟩ := rs_at hbb HL hc (fun o => hbi.cell (p := ⟨bl, o, none⟩) hbb) hlj
          clear hc
          have hk9 := hide (rk_take hr.out (N : Int))
          have hk10 := hide (rk_take hr.out (3 - (N : Int)))
          have hq9 : (upL rs N ++ rk (rs.take j) N).length ≤ N * n + j := by
            have := rk_len (rs.take j) N; rw [List.length_append]; simp only [List.length_take] at this; omega
          have hq10 : (dnL rs N ++ rk (rs.take j) (3 - (N : Int))).length ≤ N * n + j := by
            have := rk_len (rs.take j) (3 - (N : Int)); rw [List.length_append]; simp only [List.length_take] at this; omega
          have hNn : N * n ≤ 3 * 64 := Nat.mul_le_mul (by omega) hf
          obtain ⟨L9, hL9⟩ : ∃ L, L = upL rs N ++ rk (rs.take j) N := ⟨_, rfl⟩
          obtain ⟨L10, hL10⟩ : ∃ L, L = dnL rs N ++ rk (rs.take j) (3 - (N : Int)) := ⟨_, rfl⟩
          rw [← hL9] at ho9 hq9
          rw [← hL10] at ho10 hq10
          have HL9 := hide hL9
          have HL10 := hide hL10
          clear hL9 hL10
          have HO9' := hide ho9
          have HO10' := hide ho10
          have HS' := hide hsep
          have HB' := hide hbi
          have hrr := hide (fun w => lrank_any r w)
          have HR9 := hide (flat_snoc L9 r)
          have HR10 := hide (flat_snoc L10 r)
          have hbis := hbi.size
          clear ho9 ho10 hsep hbi hr hok
          obtain ⟨t1, ht1⟩ : ∃ t, (rankZ r == (N : Int)) = t := ⟨_, rfl⟩
          obtain ⟨t2, ht2⟩ : ∃ t, (rankZ r == 3 - (N : Int)) = t := ⟨_, rfl⟩
          have hno : ¬ (t1 = true ∧ t2 = true) := fun ⟨a, b⟩ => by
            rw [a] at ht1; rw [b] at ht2; simp at ht1 ht2; omega
          have hK9 : Hid (upL rs N ++ rk (rs.take (j + 1)) N = if t1 = true then L9 ++ [r] else L9) := by
            show _ = _
            rw [hk9.out, ← List.append_assoc, ← HL9.out]
            cases t1 <;> simp at ht1 <;> simp [ht1]
          have hK10 : Hid (dnL rs N ++ rk (rs.take (j + 1)) (3 - (N : Int)) = if t2 = true then L10 ++ [r] else L10) := by
            show _ = _
            rw [hk10.out, ← List.append_assoc, ← HL10.out]
            cases t2 <;> simp at ht2 <;> simp [ht2]
          obtain ⟨rm, rp, rf, rl, rd⟩ := r
          generalize hgA : rankZ ⟨rm, rp, rf, rl, rd⟩ = ra at hrr ht1 ht2
          clear hgA
          simp only [HRow.val, HRow.cells] at hrr q0 q1 q2 q3 q4 HR9 HR10
          go_wp2_with fail
          refine (hrr.out _).mono ?_
          rintro e w2 ⟨rfl, hb2⟩
          have bx := blk_below (Blk.new wr 36 #[.string rm, .string rp, .int .u8 rf, .int .u8 rl, .int .u8 rd]) hb2
          have hw2 := hide ((HB'.out.alloc hbis _).trans (hb2.mono (by simp; omega)))
          have ho9 := own_below (HO9'.out.alloc _) hb2
          have ho10 := own_below (HO10'.out.alloc _) hb2
          have hi2 : wr.heap.size < w2.heap.size := by have := hb2.size; simp at this; omega
          have n9 : u9.ownBlock ≠ some wr.heap.size := fun e => by have := (HO9'.out.lt _ e).2; omega
          have n10 : u10.ownBlock ≠ some wr.heap.size := fun e => by have := (HO10'.out.lt _ e).2; omega
          clear hb2
          have X := bl5 bx
          obtain ⟨x0, x1, x2, x3, x4⟩ := X
          have H9 := hide ho9
          have H10 := hide ho10
          have BX := hide bx
          clear ho9 ho10 bx
          have hs2 := hw2.out.size
          cases t1
          · -- not of this rank
            go_wp2_with fail
            refine (hrr.out _).mono ?_
            rintro e w3 ⟨rfl, hb3⟩
            have bx3 := blk_below BX.out hb3
            have hw3 := hide (hw2.out.trans (hb3.mono (by omega)))
            have H93 := hide (own_below H9.out hb3)
            have H103 := hide (own_below H10.out hb3)
            have hs3 := hw3.out.size
            have hi3 : wr.heap.size < w3.heap.size := by have := hb3.size; omega
            clear x0 x1 x2 x3 x4 hb3
            obtain ⟨x0, x1, x2, x3, x4⟩ := bl5 bx3
            clear bx3
            cases t2
            · go_wp2
              go_roundw
              case rel =>
                rw [if_neg (by simp)] at hK9 hK10
                first
                  | exact ⟨j + 1, by omega, by go_num, by rw [hK9.out]; exact H93.out, by rw [hK10.out]; exact H103.out, HS'.out, hw3.out⟩
                  | ((repeat apply Exists.intro); exact ⟨⟨j + 1, by omega, by go_num, by rw [hK9.out]; exact H93.out, by rw [hK10.out]; exact H103.out, HS'.out, hw3.out⟩, rfl⟩)
              case measure => simp [intOf]; omega
            · skip
              go_wp2_with (first
                | (at_builtin; refine wpList_append_own_at _ rfl (.tmp 51) (.tmp 53) 22 rfl w.heap.size 36 i0 _ 5 40 Try.underlying22 hi0 hz0 hz1 hz2 rfl (by decide) _ _ _ rfl (H103.out.alloc _) ⟨w3.heap.size, 0, none⟩ 1 1 [.string rm, .string rp, .int .u8 rf, .int .u8 rl, .int .u8 rd] rfl rfl (news_plain w3 _ _ _ rfl) (by simp [Value.oneCell']) (by unfold maxLen; omega) (by omega) (by simp; omega) ?_; intro vn wn hown' hgrow _ hat; skip))
              have G10 := hide hown'
              have G9 := hide ((H93.out.alloc _).kept hgrow (HS'.out.symm.ne))
              have GS := hide (((HS'.out.symm.step (H93.out.alloc _) hat)).symm)
              have GB := hide ((hw3.out.alloc (by omega) _).grown hgrow (by simp; omega) (fun g hg => (H103.out.lt g hg).1))
              clear hown' hgrow hat
              try go_wp2
              go_roundw
              case rel =>
                rw [if_neg (by simp)] at hK9
                first | rw [if_pos rfl] at hK10 | rw [if_pos trivial] at hK10
                first
                  | exact ⟨j + 1, by omega, by go_num, by rw [hK9.out]; exact G9.out, by rw [hK10.out, HR10.out, List.length_append]; exact G10.out, GS.out, GB.out⟩
                  | ((repeat apply Exists.intro); exact ⟨⟨j + 1, by omega, by go_num, by rw [hK9.out]; exact G9.out, by rw [hK10.out, HR10.out, List.length_append]; exact G10.out, GS.out, GB.out⟩, rfl⟩)
              case measure => simp [intOf]; omega
          · obtain rfl : t2 = false := by cases t2 <;> simp_all
            go_wp2_with (first
              | (at_builtin; refine wpList_append_own_at _ rfl (.tmp 42) (.tmp 44) 22 rfl w.heap.size 36 i0 _ 5 40 Try.underlying22 hi0 hz0 hz1 hz2 rfl (by decide) _ _ _ rfl (H9.out.alloc _) ⟨w2.heap.size, 0, none⟩ 1 1 [.string rm, .string rp, .int .u8 rf, .int .u8 rl, .int .u8 rd] rfl rfl (news_plain w2 _ _ _ rfl) (by simp [Value.oneCell']) (by unfold maxLen; omega) (by omega) (by simp; omega) ?_; intro vn wn hown' hgrow _ hat; have bxn := bl5 (blk_grown (blk_alloc BX.out _) hgrow n9); obtain ⟨z0, z1, z2, z3, z4⟩ := bxn))
            have G9 := hide hown'
            have G10 := hide ((H10.out.alloc _).kept hgrow (HS'.out.ne))
            have GS := hide (HS'.out.step (H10.out.alloc _) hat)
            have GB := hide ((hw2.out.alloc (by omega) _).grown hgrow (by simp; omega) (fun g hg => (H9.out.lt g hg).1))
            have hsn := GB.out.size
            clear hown' hgrow hat
            refine (hrr.out _).mono ?_
            rintro e w3 ⟨rfl, hb3⟩
            go_wp2
            go_roundw
            case rel =>
              first | rw [if_pos rfl] at hK9 | rw [if_pos trivial] at hK9
              rw [if_neg (by simp)] at hK10
              first
                | exact ⟨j + 1, by omega, by go_num, by rw [hK9.out, HR9.out, List.length_append]; exact own_below G9.out hb3, by rw [hK10.out]; exact own_below G10.out hb3, GS.out, GB.out.trans (hb3.mono (by omega))⟩
                | ((repeat apply Exists.intro); exact ⟨⟨j + 1, by omega, by go_num, by rw [hK9.out, HR9.out, List.length_append]; exact own_below G9.out hb3, by rw [hK10.out]; exact own_below G10.out hb3, GS.out, GB.out.trans (hb3.mono (by omega))⟩, rfl⟩)
            case measure => simp [intOf]; omega
set_option maxRecDepth 100000 in
set_option maxHeartbeats 1000000 in
theorem ord_any (A : Option Addr) (n cap : Nat) (rs : List HRow) (m p : ByteArray) (f : Int) (w : World) (hn : n ≤ 9223372036854775807) (HL : Hid (rs.length = n)) (hR : Hid (HRows w.heap.size w A rs)) (hcap : n ≤ cap) :
    Calls Try.prog 6 #[.slice A n cap, .string m, .string p, .int .u8 f] w fun e w' => e = .returned (.bool true) ∧ Below w.heap.size w w' := by
  by_cases hf : n ≤ 64
  case neg =>
    go_enter Try.func6, Try.ntmps6
    go_wp2_with (first
      | (go_at_call 10; refine (few_any _ _ _ _).mono ?_; rintro e w' ⟨rfl, rfl⟩)
      | (go_at_call 11; refine (awake_any _).mono ?_; rintro e w' ⟨rfl, hb⟩))
    go_ret
    exact ⟨rfl, hb⟩
  case pos => exact ord_main A n cap rs m p f w hn HL hR hf hcap
end Go.Proofs.Ytojmcgobihegpaa
