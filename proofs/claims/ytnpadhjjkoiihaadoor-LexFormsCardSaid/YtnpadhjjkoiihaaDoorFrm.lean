/-
  LexForms: the walk.
-/
import Derived.Test.YtnpadhjjkoiihaaDoorFormP
import Derived.Test.YtnpadhjjkoiihaaDoorSpl
import Derived.Deep.DeepCutAuto
import Derived.IntWalk
namespace Go.Proofs.YtnpadhjjkoiihaaDoor
open Go.RowKit
/-- What is known of a source's tokens. -/
structure FormsOk (l : List Tok) : Prop where
  form : ∀ t ∈ l, FormT t
  adj : Adj 0 false l
  ends : ∀ t ∈ l, t.at_ + t.text.length ≤ 4000
theorem forms_ok (src : ByteArray) (h : src.size ≤ 4000) : FormsOk (lexR src.data.toList).1 := by
  have hl : src.data.toList.length = src.size := by simp
  have hx := (lex_ok src.data.toList).texts
  rw [lexR_small _ (by omega)] at hx ⊢
  split
  · rename_i h0
    rw [if_pos h0] at hx
    exact ⟨form_all 0 _, adj_of 0 _ false (fun h => by cases h), fun t ht => by have := (hx t ht).2.2.2; omega⟩
  · exact ⟨fun t ht => by simp at ht, trivial, fun t ht => by simp at ht⟩
theorem sign_bool {tk ta : Nat} {T : ByteArray} (h : FormT ⟨tk, T.data.toList, ta⟩) (h3 : tk = 3) : (T.toList == [123] || T.toList == [125] || T.toList == [59] || T.toList == [44] || T.toList == [46] || T.toList == [58]) = true := by
  obtain ⟨b, e, hb⟩ := h.sign h3
  simp only at e
  rw [ByteArray.toList_eq, e]
  unfold signB at hb
  simp only [Bool.or_eq_true, beq_iff_eq] at hb
  rcases hb with ((((rfl | rfl) | rfl) | rfl) | rfl) | rfl <;> rfl
theorem num_parts {T : ByteArray} {ta : Nat} (h : FormT ⟨2, T.data.toList, ta⟩) : Hid (∀ (k : Nat) (h : k < T.size), 48 ≤ T[k].toNat ∧ T[k].toNat ≤ 57) ∧ ∃ z1 : 0 < T.size, Hid (T.size < 10 ∨ (T.size = 10 ∧ (Op.bytesLess T.data.toList limL || T.data.toList == limL) = true)) ∧ Hid ((T[0]'z1).toNat ≠ 48 ∨ T = ⟨#[48]⟩) := by
  obtain ⟨h1, h2, h3, h4⟩ := num_form _ (h.num rfl)
  simp only at h1 h2 h3 h4
  have hl : T.data.toList.length = T.size := by simp
  rw [hl] at h2 h3
  refine ⟨fun k hk => (digitB_iff _).1 (h1 _ (List.getElem_mem (by rw [hl]; exact hk))), h2, h3, ?_⟩
  rcases h4 with h4 | h4
  · refine .inl (fun e => h4 ?_)
    rw [List.getElem?_eq_getElem (by rw [hl]; exact h2)]
    exact congrArg some (UInt8.toNat_inj.1 e)
  · refine .inr ?_
    obtain ⟨⟨D⟩⟩ := T
    simp only at h4
    rw [h4]
theorem inner_way {b : UInt8} (h : innerB b = true) : (97 ≤ b.toNat ∧ b.toNat ≤ 122) ∨ (65 ≤ b.toNat ∧ b.toNat ≤ 90) ∨ (48 ≤ b.toNat ∧ b.toNat ≤ 57) ∨ b.toNat = 95 := by
  unfold innerB letterB digitB at h
  simp only [Bool.or_eq_true, Bool.and_eq_true, decide_eq_true_eq, beq_iff_eq] at h
  rcases h with ((h | h) | h) | h
  · exact .inl h
  · exact .inr (.inl h)
  · exact .inr (.inr (.inl h))
  · exact .inr (.inr (.inr (by rw [h]; rfl)))
theorem letter_way {b : UInt8} (h : letterB b = true) : (97 ≤ b.toNat ∧ b.toNat ≤ 122) ∨ (65 ≤ b.toNat ∧ b.toNat ≤ 90) := by
  unfold letterB at h
  simp only [Bool.or_eq_true, Bool.and_eq_true, decide_eq_true_eq] at h
  exact h
theorem word_form {T : ByteArray} {ta : Nat} (h : FormT ⟨1, T.data.toList, ta⟩) : Hid (∀ (k : Nat) (h : k < T.size), (0 < k ∧ innerB T[k] = true) ∨ (k = 0 ∧ letterB T[k] = true)) ∧ 0 < T.size ∧ T.size ≤ 24 := by
  obtain ⟨b0, r0, etx, hl0, hin, hlen⟩ := h.word rfl
  simp only at etx
  obtain ⟨⟨D⟩⟩ := T
  simp only at etx
  subst etx
  refine ⟨?_, by simp [ByteArray.size], by simp [ByteArray.size] at hlen ⊢; omega⟩
  intro k h
  rcases Nat.eq_zero_or_pos k with rfl | hp
  · exact .inr ⟨rfl, hl0⟩
  · refine .inl ⟨hp, hin _ ?_⟩
    obtain ⟨k', rfl⟩ : ∃ k', k = k' + 1 := ⟨k - 1, by omega⟩
    exact List.getElem_mem _
set_option maxRecDepth 100000 in
set_option maxHeartbeats 4000000 in
theorem forms_any (src : ByteArray) (w : World) (hE : Hid (Env w)) : Calls Tryd.prog 9 #[.string src] w fun e w' => e = .returned (.bool true) ∧ Below w.heap.size w w' := by
  have HA := hide (awake_any w hE)
  by_cases hl : 4000 < src.size
  · have h1 : (4000 : Int) < (src.size : Int) := by omega
    go_enter Tryd.func9, Tryd.ntmps9
    go_wp2_with fail
    refine HA.out.mono ?_
    rintro e w1 ⟨rfl, hb1⟩
    have HB1 := hide hb1
    clear hb1
    go_wp2_with fail
    go_ret
    exact ⟨rfl, HB1.out⟩
  have h1 : (src.size : Int) ≤ 4000 := by omega
  have HL := hide (fun (w : World) (hE : Env w) => lex_call src w hE)
  have HF := hide (forms_ok src (by omega))
  have hcnt := (lex_ok src.data.toList).count.1
  have HN := hide (show (toksZ src.data.toList).length = (lexR src.data.toList).1.length by simp [toksZ])
  have HTZ : Hid (toksZ src.data.toList = (lexR src.data.toList).1.map Tok.toZ) := rfl
  generalize toksZ src.data.toList = ts at *
  generalize ((lexR src.data.toList).2.1 : Int) = p at *
  generalize ((lexR src.data.toList).2.2 : Int) = er at *
  generalize (lexR src.data.toList).1 = l at *
  generalize hnn : l.length = n at *
  have HLn := hide hnn
  clear hnn
  go_enter Tryd.func9, Tryd.ntmps9
  go_wp2_with fail
  refine HA.out.mono ?_
  rintro e w1 ⟨rfl, hb1⟩
  have HB1 := hide hb1
  clear hb1
  go_wp2_with fail
  refine (HL.out _ (hE.out.kept HB1.out)).mono ?_
  rintro e w2 ⟨A2, c2, rfl, hT2, hb2⟩
  have HT2 := hide hT2
  have HB2 := hide (HB1.out.trans (hb2.mono HB1.out.size))
  clear hT2 hb2
  go_wp2_with fail
  go_loopw [6] (fun v6 wr => ∃ i : Nat, i ≤ n ∧ v6 = .int .i64 i ∧ Below w2.heap.size w2 wr) (fun v6 _ => n - (intOf v6).toNat)
  case atStart => exact ⟨0, by omega, rfl, Below.refl _ _⟩
  case round =>
    obtain ⟨i, hi, rfl, hbr⟩ := hrel
    have HBR := hide hbr
    have hz := hbr.size
    clear hbr
    by_cases hlt : i < n
    case neg =>
      go_wp2_with fail
      go_ret
      exact ⟨rfl, HB2.out.trans (HBR.out.mono HB2.out.size)⟩
    case pos =>
      have ht0 := HTZ.out
      obtain ⟨b, off, t, rfl, hbb, ht, q0, q1, q2⟩ := trow_at HN HT2 HBR.out hlt
      have hb' : b < wr.heap.size := by omega
      have ht' := ht.out
      rw [ht0, List.getElem?_map] at ht'
      obtain ⟨t', e1, rfl⟩ := Option.map_eq_some_iff.1 ht'
      have HFt := hide (HF.out.form t' (List.mem_of_getElem? e1))
      have hend := HF.out.ends t' (List.mem_of_getElem? e1)
      have HE1 := hide e1
      obtain ⟨tk, tx, ta⟩ := t'
      simp only [Tok.toZ] at q0 q1 q2
      simp only at hend
      obtain ⟨T, hT⟩ : ∃ T : ByteArray, T = ⟨tx.toArray⟩ := ⟨_, rfl⟩
      rw [← hT] at q1
      obtain rfl : tx = T.data.toList := by rw [hT]
      have hTs : T.data.toList.length = T.size := by simp
      rw [hTs] at hend
      clear ht0 ht' e1 hT hTs
      have i0 : (0 : Int) ≤ (i : Int) := by omega
      have i1 : (i : Int) < (n : Int) := by omega
      go_upto_region 10 with fail
      go_cut [8] (fun v8 wx => (∃ x : Bool, v8 = .bool x ∧ (tk = 3 → x = true)) ∧ wx = wr)
      case first => as_aux_lemma =>
        go_wp2_with fail
        all_goals
          go_meet
          case rel =>
            first
              | exact ⟨⟨_, rfl, fun _ => rfl⟩, rfl⟩
              | exact ⟨⟨_, rfl, fun h3 => sign_bool HFt.out h3⟩, rfl⟩
      case rest =>
        obtain ⟨⟨x8, rfl, hx8⟩, rfl⟩ := hcut
        have HX8 := hide hx8
        clear hx8
        go_upto_if 61 with fail
        go_cut [8] (fun v8 wx => v8 = .bool true ∧ Hid (Below wc.heap.size wc wx))
        case first => as_aux_lemma =>
          rcases HFt.out.kind with hk | hk | hk
          · simp only at hk
            subst hk
            obtain ⟨HIn, z1, z2⟩ := word_form HFt.out
            have ht1 : (0 : Int) < (T.size : Int) := by omega
            have ht2 : (T.size : Int) ≤ 24 := by omega
            go_wp2_with fail
            go_loop [8, 9] (fun v8 v9 => ∃ k : Nat, k ≤ T.size ∧ v9 = .int .i64 k ∧ v8 = .bool true) (fun _ v9 => T.size - (intOf v9).toNat)
            case atStart => exact ⟨0, by omega, rfl, rfl⟩
            case round => as_aux_lemma =>
              obtain ⟨k, hk, rfl, rfl⟩ := hrel
              have k0 : (0 : Int) ≤ (k : Int) := by omega
              by_cases hlt : k < T.size
              case neg =>
                go_wp2_with fail
                go_meet
                case rel => exact ⟨rfl, Below.refl _ _⟩
              case pos =>
                rcases HIn.out k hlt with ⟨hp, hb⟩ | ⟨hp, hb⟩
                · have kp : (0 : Int) < (k : Int) := by omega
                  rcases inner_way hb with ⟨h1, h2⟩ | ⟨h1, h2⟩ | ⟨h1, h2⟩ | h1
                  · have e1 : (97 : Int) ≤ (T[k].toNat : Int) := by omega
                    have e2 : (T[k].toNat : Int) ≤ 122 := by omega
                    clear h1 h2 hb
                    as_aux_lemma =>
                      go_wp2_with fail
                      go_round
                      case rel => exact ⟨k + 1, by omega, by go_num⟩
                      case measure => simp [intOf]; omega
                  · have e1 : (65 : Int) ≤ (T[k].toNat : Int) := by omega
                    have e2 : (T[k].toNat : Int) ≤ 90 := by omega
                    clear h1 h2 hb
                    as_aux_lemma =>
                      go_wp2_with fail
                      go_round
                      case rel => exact ⟨k + 1, by omega, by go_num⟩
                      case measure => simp [intOf]; omega
                  · have e1 : (48 : Int) ≤ (T[k].toNat : Int) := by omega
                    have e2 : (T[k].toNat : Int) ≤ 57 := by omega
                    clear h1 h2 hb
                    as_aux_lemma =>
                      go_wp2_with fail
                      go_round
                      case rel => exact ⟨k + 1, by omega, by go_num⟩
                      case measure => simp [intOf]; omega
                  · have e1 : (95 : Int) ≤ (T[k].toNat : Int) := by omega
                    have e2 : (T[k].toNat : Int) ≤ 95 := by omega
                    have e3 : ((T[k].toNat : Int) == 95) = true := by rw [beq_iff_eq]; omega
                    clear h1 hb
                    as_aux_lemma =>
                      go_wp2_with fail
                      go_round
                      case rel => exact ⟨k + 1, by omega, by go_num⟩
                      case measure => simp [intOf]; omega
                · subst hp
                  rcases letter_way hb with ⟨h1, h2⟩ | ⟨h1, h2⟩
                  · have e1 : (97 : Int) ≤ (T[0].toNat : Int) := by omega
                    have e2 : (T[0].toNat : Int) ≤ 122 := by omega
                    clear h1 h2 hb
                    go_wp2_with fail
                    go_round
                    case rel => exact ⟨1, by omega, rfl⟩
                    case measure => simp [intOf]; try omega
                  · have e1 : (65 : Int) ≤ (T[0].toNat : Int) := by omega
                    have e2 : (T[0].toNat : Int) ≤ 90 := by omega
                    clear h1 h2 hb
                    go_wp2_with fail
                    go_round
                    case rel => exact ⟨1, by omega, rfl⟩
                    case measure => simp [intOf]; try omega
          · simp only at hk
            subst hk
            obtain ⟨HIn, z1, HSz, HZ0⟩ := num_parts HFt.out
            have ht1 : (0 : Int) < (T.size : Int) := by omega
            go_wp2_with fail
            go_loop [8, 9] (fun v8 v9 => ∃ k : Nat, k ≤ T.size ∧ v9 = .int .i64 k ∧ v8 = .bool true) (fun _ v9 => T.size - (intOf v9).toNat)
            case atStart => exact ⟨0, by omega, rfl, rfl⟩
            case round => as_aux_lemma =>
              obtain ⟨k, hk, rfl, rfl⟩ := hrel
              have k0 : (0 : Int) ≤ (k : Int) := by omega
              by_cases hlt : k < T.size
              case neg =>
                rcases HZ0.out with h0 | h0
                · have n0 : ¬ ((T[0]'z1).toNat : Int) = 48 := by omega
                  rcases HSz.out with h10 | ⟨h10, hle⟩
                  · have q10 : (T.size : Int) < 10 := by omega
                    clear h0
                    go_wp2_with fail
                    all_goals
                      go_meet
                      case rel =>
                        first
                          | exact ⟨rfl, Below.refl _ _⟩
                          | exact absurd (by assumption) n0
                  · have q10 : (T.size : Int) = 10 := by omega
                    have HLe : Hid ((Op.bytesLess T.toList [49, 48, 55, 51, 55, 52, 49, 56, 50, 52] || T.toList == [49, 48, 55, 51, 55, 52, 49, 56, 50, 52]) = true) := by
                      show _ = _
                      rw [ByteArray.toList_eq]
                      exact hle
                    have HLo : Hid (Op.bytesLess T.toList [49, 48, 55, 51, 55, 52, 49, 56, 50, 52] = true ∨ T.toList = [49, 48, 55, 51, 55, 52, 49, 56, 50, 52]) := by
                      have h := HLe.out
                      rw [Bool.or_eq_true, beq_iff_eq] at h
                      exact h
                    clear h0 hle
                    go_wp2_with fail
                    all_goals
                      go_meet
                      case rel =>
                        first
                          | exact ⟨rfl, Below.refl _ _⟩
                          | exact ⟨congrArg Value.bool HLe.out, Below.refl _ _⟩
                          | exact absurd (by assumption) n0
                          | exact absurd HLo.out (by assumption)
                · subst h0
                  go_wp2_with fail
                  go_meet
                  case rel => exact ⟨rfl, Below.refl _ _⟩
              case pos =>
                obtain ⟨h1, h2⟩ := HIn.out k hlt
                have e1 : (48 : Int) ≤ (T[k].toNat : Int) := by omega
                have e2 : (T[k].toNat : Int) ≤ 57 := by omega
                clear h1 h2
                go_wp2_with fail
                go_round
                case rel => exact ⟨k + 1, by omega, by go_num⟩
                case measure => simp [intOf]; omega
          · simp only at hk
            have hx := HX8.out hk
            subst hk
            subst hx
            go_wp2_with fail
            go_meet
            case rel => exact ⟨rfl, Below.refl _ _⟩
        case rest => as_aux_lemma =>
          obtain ⟨rfl, HBx⟩ := hcut
          have HBR2 := hide (HBR.out.trans (HBx.out.mono HBR.out.size))
          have q0' := (HBx.out.cell (p := ⟨b, off + i * 3, none⟩) hb').trans q0
          have q2' := (HBx.out.cell (p := ⟨b, off + i * 3 + 2, none⟩) hb').trans q2
          have hb2 : b < wc.heap.size := by have := HBx.out.size; omega
          rcases Nat.eq_zero_or_pos i with rfl | hp
          · go_wp2_with fail
            refine wp_region_quiet_lit (by kernel_rfl) (by kernel_rfl) ?_
            repeat (go_big_quiet_step (fail))
            refine wpQuiet_nil ?_
            intro _ hw'
            obtain ⟨nq, hw''⟩ := hw'
            subst hw''
            go_wp2_with fail
            go_roundw
            case rel => exact ⟨1, by omega, rfl, below_drewN HBR2.out _⟩
            case measure => simp [intOf]; try omega
          · obtain ⟨j, hj⟩ : ∃ j, i = j + 1 := ⟨i - 1, by omega⟩
            obtain ⟨ob, ooff, u, eA, hbu, hu, r0, r1, r2⟩ := trow_at HN HT2 HBR2.out (show j < n by omega)
            simp only [Option.some.injEq, Addr.mk.injEq, and_true] at eA
            obtain ⟨rfl, rfl⟩ := eA
            have e2 := hu.out
            rw [HTZ.out, List.getElem?_map] at e2
            obtain ⟨u', e3, rfl⟩ := Option.map_eq_some_iff.1 e2
            have hendu := HF.out.ends u' (List.mem_of_getElem? e3)
            have hadj := adj_at l 0 false j u' ⟨tk, T.data.toList, ta⟩ HF.out.adj e3 (by rw [← hj]; exact HE1.out)
            obtain ⟨uk, ux, ua⟩ := u'
            simp only [Tok.toZ] at r0 r1 r2 hadj hendu
            obtain ⟨U, hU⟩ : ∃ U : ByteArray, U = ⟨ux.toArray⟩ := ⟨_, rfl⟩
            rw [← hU] at r1
            obtain rfl : ux = U.data.toList := by rw [hU]
            have hUs : U.data.toList.length = U.size := by simp
            rw [hUs] at hadj hendu
            have s1 : IntKind.i64.wrap ((i : Int) - 1) = (j : Int) := by rw [show (i : Int) - 1 = (j : Int) from by omega]; exact IntWalk.i64_in _ (by omega)
            have s2 : IntKind.i64.wrap ((ua : Int) + (U.size : Int)) = (ua : Int) + (U.size : Int) := IntWalk.i64_in _ (by omega)
            have j0 : (0 : Int) ≤ (j : Int) := by omega
            have j1 : (j : Int) < (n : Int) := by omega
            have i2 : (0 : Int) < (i : Int) := by omega
            clear e2 e3 hU hUs hj
            by_cases hk3 : tk = 3
            · subst hk3
              clear hadj
              as_aux_lemma =>
                go_wp2_with fail
                refine wp_region_quiet_lit (by kernel_rfl) (by kernel_rfl) ?_
                repeat (go_big_quiet_step (fail))
                refine wpQuiet_nil ?_
                intro _ hw'
                obtain ⟨nq, hw''⟩ := hw'
                subst hw''
                clear s1 s2
                go_wp2_with fail
                go_roundw
                case rel => exact ⟨i + 1, by omega, by go_num, below_drewN HBR2.out _⟩
                case measure => simp [intOf]; omega
            · have hkz : ((tk : Int) != 3) = true := by rw [bne_iff_ne]; omega
              by_cases hu3 : uk = 3
              · subst hu3
                clear hadj
                as_aux_lemma =>
                  go_wp2_with fail
                  refine wp_region_quiet_lit (by kernel_rfl) (by kernel_rfl) ?_
                  repeat (go_big_quiet_step (fail))
                  refine wpQuiet_nil ?_
                  intro _ hw'
                  obtain ⟨nq, hw''⟩ := hw'
                  subst hw''
                  clear s1 s2
                  go_wp2_with fail
                  go_roundw
                  case rel => exact ⟨i + 1, by omega, by go_num, below_drewN HBR2.out _⟩
                  case measure => simp [intOf]; omega
              · have huz : ((uk : Int) != 3) = true := by rw [bne_iff_ne]; omega
                have hne := hadj hu3 hk3
                have haz : ((ua : Int) + (U.size : Int) == (ta : Int)) = false := by rw [beq_eq_false_iff_ne]; omega
                clear hadj hne
                as_aux_lemma =>
                  go_wp2_with fail
                  refine wp_region_quiet_lit (by kernel_rfl) (by kernel_rfl) ?_
                  repeat (go_big_quiet_step (fail))
                  refine wpQuiet_nil ?_
                  intro _ hw'
                  obtain ⟨nq, hw''⟩ := hw'
                  subst hw''
                  clear s1 s2
                  go_wp2_with fail
                  go_roundw
                  case rel => exact ⟨i + 1, by omega, by go_num, below_drewN HBR2.out _⟩
                  case measure => simp [intOf]; omega
end Go.Proofs.YtnpadhjjkoiihaaDoor
