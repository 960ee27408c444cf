/-
  lex: the reference's Lex.
-/
import Derived.Test.YtlngbjphagnloaaGreatDoorRLexP
import Derived.Test.YtlngbjphagnloaaGreatDoorPk2
import Derived.Deep.LoopGhost
namespace Go.Proofs.YtlngbjphagnloaaGreatDoor
open Go.RowKit
def toksI (l : List Tok) : List Value := flatT .i64 (l.map Tok.toZ)
/-- The result of the reference's Lex in memory. -/
def RLexR (w : World) (src : ByteArray) (e : Ending) (w' : World) : Prop :=
  ∃ v, e = .returned (.tuple #[v, .int .i64 ((lexR src.data.toList).2.1 : Int), .int .i64 ((lexR src.data.toList).2.2 : Int)]) ∧ w'.ownsRow w.heap.size 192 3 v (lexR src.data.toList).1.length (toksI (lexR src.data.toList).1) ∧ Below w.heap.size w w'
theorem rlex_bad {w w' : World} {src : ByteArray} {p er : Nat} (h : lexR src.data.toList = ([], p, er)) (hb : Below w.heap.size w w') : RLexR w src (.returned (.tuple #[.slice none 0 0, .int .i64 (p : Int), .int .i64 (er : Int)])) w' :=
  ⟨.slice none 0 0, by rw [h], by rw [h]; exact ⟨rfl, .inl ⟨rfl, rfl⟩⟩, hb⟩
theorem rlex_fine {w w' : World} {src : ByteArray} {pre : List Tok} {v : Value} (h : lexR src.data.toList = (pre, 0, 0)) (ho : w'.ownsRow w.heap.size 192 3 v pre.length (toksI pre)) (hb : Below w.heap.size w w') : RLexR w src (.returned (.tuple #[v, .int .i64 0, .int .i64 0])) w' :=
  ⟨v, by rw [h]; rfl, by rw [h]; exact ho, hb⟩
theorem toksI_snoc (pre : List Tok) (t : Tok) : toksI (pre ++ [t]) = toksI pre ++ [.int .i64 (t.kind : Int), .string ⟨t.text.toArray⟩, .int .i64 (t.at_ : Int)] := by
  unfold toksI
  rw [List.map_append]
  exact flatT_snoc _ _ _
set_option maxRecDepth 100000 in
set_option maxHeartbeats 400000 in
theorem rlex_long (src : ByteArray) (w : World) (hl : 65536 < src.size) : Calls Tryz.prog 120 #[.string src] w (RLexR w src) := by
  have HR : Hid (lexR src.data.toList = ([], 0, 3)) := by show _ = _; unfold lexR; rw [if_pos (by simpa using hl)]
  have h1 : (65536 : Int) < (src.size : Int) := by omega
  go_enter Tryz.func120, Tryz.ntmps120
  go_wp2_with fail
  refine bodyPost_ret (v := .tuple #[.slice none 0 0, .int .i64 0, .int .i64 3]) (by simp [results, Tryz.results120, go_sem]) rfl (rlex_bad HR.out (Below.refl _ _))
theorem toksI_text (pre : List Tok) (kd p : Nat) (T : ByteArray) (l : List UInt8) (z : Int) (hz : (kd : Int) = z) (h : T.data.toList = l) : toksI (pre ++ [⟨kd, l, p⟩]) = toksI pre ++ [.int .i64 z, .string T, .int .i64 (p : Int)] := by
  subst h hz
  exact toksI_snoc _ _
theorem run_stop_end (p : UInt8 → Bool) (src : ByteArray) (j q : Nat) (h : runTo p src q = runTo p src j) (hq : src.size ≤ q) : runTo p src j = q := by
  rw [← h]; exact runTo_end p src q hq
theorem run_stop_no (p : UInt8 → Bool) (src : ByteArray) (j q : Nat) (h : runTo p src q = runTo p src j) (hq : q < src.size) (hn : p src[q] = false) : runTo p src j = q := by
  rw [← h]; exact runTo_no p src q hq hn
/-- A word or number of the source, as the reference meets it. -/
structure TokAt (src T : ByteArray) (p q : Nat) : Prop where
  size : T.size = q - p
  list : T.data.toList = ((toksL src).drop p).take (q - p)
  first : ∃ (h1 : p < src.size) (h2 : 0 < T.size), T[0] = src[p]
  inner : ∀ (k : Nat) (h : k < T.size), 1 ≤ k → innerB T[k] = true
  run : runTo innerB src (p + 1) = q
theorem tokAt (src : ByteArray) (p q : Nat) (hp : p < q) (hq : q ≤ src.size) (hr : runTo innerB src (p + 1) = q) : TokAt src (src.extract p q) p q := by
  obtain ⟨h1, h2, h3⟩ := piece src p q hp hq
  refine ⟨h1, h2, ⟨by omega, by omega, ?_⟩, fun k hk hk1 => ?_, hr⟩
  · obtain ⟨_, e⟩ := h3 0 (by omega)
    simpa using e
  · obtain ⟨_, e⟩ := h3 k hk
    rw [e]
    exact (run_inner innerB src (p + 1) (p + k) (by omega) (by omega)).2
theorem sign_not (b : UInt8) (h : letterB b = true ∨ digitB b = true) : signB b = false := by
  rw [Bool.eq_false_iff]
  intro hs
  unfold signB at hs
  simp only [Bool.or_eq_true, beq_iff_eq] at hs
  rcases hs with ((((rfl | rfl) | rfl) | rfl) | rfl) | rfl <;> revert h <;> decide
theorem inner_of_letter (b : UInt8) (h : letterB b = true) : innerB b = true := by unfold innerB; rw [h]; rfl
theorem TokAt.word {src T : ByteArray} {p q : Nat} (h : TokAt src T p q) (hl : letterB (src[p]'h.first.1) = true) : (∀ (k : Nat) (hk : k < T.size), innerB T[k] = true) ∧ (∃ h0 : 0 < T.size, letterB T[0] = true) ∧ tokN ((toksL src).drop p) = (1, q - p, if 24 < T.size then 71 else 0) := by
  obtain ⟨h1, h2, h3⟩ := h.first
  refine ⟨fun k hk => ?_, ⟨h2, by rw [h3]; exact hl⟩, ?_⟩
  · rcases Nat.eq_zero_or_pos k with rfl | hk1
    · rw [h3]; exact inner_of_letter _ hl
    · exact h.inner k hk hk1
  · rw [tok_word src p h1 hl, h.run, h.size]
theorem TokAt.num {src T : ByteArray} {p q : Nat} (h : TokAt src T p q) (hl : letterB (src[p]'h.first.1) = false) (hd : digitB (src[p]'h.first.1) = true) : tokN ((toksL src).drop p) = (2, q - p, if numB T.data.toList then 0 else 72) := by
  obtain ⟨h1, h2, h3⟩ := h.first
  have hn := tok_num src p h1 hl hd
  rw [h.run] at hn
  rw [hn]
  have e : src[p] :: ((toksL src).drop (p + 1)).take (runN ((toksL src).drop (p + 1))) = T.data.toList := by
    have hq : q = p + 1 + runN ((toksL src).drop (p + 1)) := by rw [← h.run, run_to]
    rw [h.list, hq, show p + 1 + runN ((toksL src).drop (p + 1)) - p = runN ((toksL src).drop (p + 1)) + 1 from by omega]
    conv => rhs; rw [toksL_drop src p h1]
    rw [List.take_succ_cons]
  rw [e]
set_option maxRecDepth 100000 in
set_option maxHeartbeats 8000000 in
theorem rlex_fineW (src : ByteArray) (w : World) (hl : src.size ≤ 65536) : Calls Tryz.prog 120 #[.string src] w (RLexR w src) := by
  obtain ⟨i0, hi0, hz0, hz1, hz2⟩ := info_parts rtokInfo
  have h1 : (src.size : Int) ≤ 65536 := by omega
  go_enter Tryz.func120, Tryz.ntmps120
  go_wp2_with fail
  go_loopw [5, 6] (fun v5 v6 wr => ∃ (p : Nat) (pre : List Tok), v6 = .int .i64 p ∧ wr.ownsRow w.heap.size 192 3 v5 pre.length (toksI pre) ∧ Below w.heap.size w wr ∧ RAt src p pre ∧ pre.length ≤ p) (fun _ v6 _ => src.size - (intOf v6).toNat)
  case atStart => exact ⟨0, [], rfl, World.ownsRow_nil _ _ _ _, Below.refl _ _, RAt.start src, Nat.le_refl _⟩
  case round =>
    obtain ⟨p, pre, rfl, ho, hbr, hA, hpp⟩ := hrel
    have hp := hA.1
    have HA := hide hA
    have HO := hide ho
    have HB := hide hbr
    have hz := hbr.size
    clear hA ho hbr
    have p0 : (0 : Int) ≤ (p : Int) := by omega
    by_cases hlt : p < src.size
    case neg =>
      have HR := hide (HA.out.done hl (by omega))
      go_wp2_with fail
      go_ret3
      exact rlex_fine HR.out HO.out HB.out
    case pos =>
      have E1 : Hid (((src[p].toNat : Int) == 32) = (src[p] == 32)) := byte_eq src[p] 32
      have E2 : Hid (((src[p].toNat : Int) == 9) = (src[p] == 9)) := byte_eq src[p] 9
      have E3 : Hid (((src[p].toNat : Int) == 10) = (src[p] == 10)) := byte_eq src[p] 10
      have E4 : Hid (((src[p].toNat : Int) == 13) = (src[p] == 13)) := byte_eq src[p] 13
      have E5 : Hid (((src[p].toNat : Int) == 35) = (src[p] == 35)) := byte_eq src[p] 35
      have HBlank : Hid (blankB src[p] = (src[p] == 32 || src[p] == 9 || src[p] == 10 || src[p] == 13)) := rfl
      cases u1 : (src[p] == 32)
      case true =>
        have HBk := hide (HA.out.blank hlt (by rw [HBlank.out, u1]; rfl))
        have f1 := E1.out.trans u1
        clear u1
        go_wp2_with fail
        go_roundw
        case rel => exact ⟨p + 1, pre, by go_num, HO.out, HB.out, HBk.out, by omega⟩
        case measure => simp [intOf]; omega
      have f1 := E1.out.trans u1
      cases u2 : (src[p] == 9)
      case true =>
        have HBk := hide (HA.out.blank hlt (by rw [HBlank.out, u1, u2]; rfl))
        have f2 := E2.out.trans u2
        clear u1 u2
        go_wp2_with fail
        go_roundw
        case rel => exact ⟨p + 1, pre, by go_num, HO.out, HB.out, HBk.out, by omega⟩
        case measure => simp [intOf]; omega
      have f2 := E2.out.trans u2
      cases u3 : (src[p] == 10)
      case true =>
        have HBk := hide (HA.out.blank hlt (by rw [HBlank.out, u1, u2, u3]; rfl))
        have f3 := E3.out.trans u3
        clear u1 u2 u3
        go_wp2_with fail
        go_roundw
        case rel => exact ⟨p + 1, pre, by go_num, HO.out, HB.out, HBk.out, by omega⟩
        case measure => simp [intOf]; omega
      have f3 := E3.out.trans u3
      cases u4 : (src[p] == 13)
      case true =>
        have HBk := hide (HA.out.blank hlt (by rw [HBlank.out, u1, u2, u3, u4]; rfl))
        have f4 := E4.out.trans u4
        clear u1 u2 u3 u4
        go_wp2_with fail
        go_roundw
        case rel => exact ⟨p + 1, pre, by go_num, HO.out, HB.out, HBk.out, by omega⟩
        case measure => simp [intOf]; omega
      have f4 := E4.out.trans u4
      have HBl : Hid (blankB src[p] = false) := hide (by rw [HBlank.out, u1, u2, u3, u4]; rfl)
      clear u1 u2 u3 u4 HBlank
      cases u5 : (src[p] == 35)
      case true =>
        have f5 := E5.out.trans u5
        have HH := hide (HA.out.hash hlt (by simpa using u5))
        clear u5
        go_wp2_with fail
        go_loop [6] (fun v6 => ∃ q : Nat, p ≤ q ∧ q ≤ src.size ∧ v6 = .int .i64 q ∧ runTo lineT src q = runTo lineT src p) (fun v6 => src.size - (intOf v6).toNat)
        case atStart => exact ⟨p, Nat.le_refl _, hp, rfl, rfl⟩
        case round =>
          obtain ⟨q, hq1, hq2, rfl, hr⟩ := hrel
          have HRn := hide hr
          clear hr
          have q0 : (0 : Int) ≤ (q : Int) := by omega
          by_cases hq : q < src.size
          · have EL : Hid (((src[q].toNat : Int) == 10) = (src[q] == 10)) := byte_eq src[q] 10
            cases hl10 : (src[q] == 10)
            · have HN := hide (runTo_yes lineT src q hq (by unfold lineT; rw [bne, hl10]; rfl))
              have g1 : ((src[q].toNat : Int) != 10) = true := by rw [bne, EL.out, hl10]; rfl
              clear hl10
              go_wp2_with fail
              go_round
              case rel => exact ⟨q + 1, by omega, by omega, by go_num, HN.out.trans HRn.out⟩
              case measure => simp [intOf]; omega
            · have HN := hide (run_stop_no lineT src p q HRn.out hq (by unfold lineT; rw [bne, hl10]; rfl))
              have g1 : ((src[q].toNat : Int) != 10) = false := by rw [bne, EL.out, hl10]; rfl
              clear hl10
              go_wp2_with fail
              have hpq : p < q := by have := HH.out.2; rw [HN.out] at this; exact this
              have hA2 := HH.out.1
              rw [HN.out] at hA2
              have HA2 := hide hA2
              clear hA2
              go_roundw
              case rel => exact ⟨q, pre, rfl, HO.out, HB.out, HA2.out, by omega⟩
              case measure => simp [intOf]; omega
          · have HN := hide (run_stop_end lineT src p q HRn.out (by omega))
            have g1 : decide (q < src.size) = false := by simp; omega
            go_wp2_with fail
            have hpq : p < q := by have := HH.out.2; rw [HN.out] at this; exact this
            have hA2 := HH.out.1
            rw [HN.out] at hA2
            have HA2 := hide hA2
            clear hA2
            go_roundw
            case rel => exact ⟨q, pre, rfl, HO.out, HB.out, HA2.out, by omega⟩
            case measure => simp [intOf]; omega
      have f5 := E5.out.trans u5
      have H35 := hide u5
      clear u5 E1 E2 E3 E4 E5
      cases hsg : signB src[p]
      case true =>
        have HSg := hide (fun w => sgn_is src[p] w hsg)
        cases hlet : letterB src[p]
        case true => exact absurd hsg (by rw [sign_not src[p] (.inl hlet)]; simp)
        cases hdig : digitB src[p]
        case true => exact absurd hsg (by rw [sign_not src[p] (.inr hdig)]; simp)
        have ht := tok_sign src p hlt hlet hdig (by rw [signT_eq]; exact hsg)
        have HNx := hide (HA.out.tok hlt HBl.out H35.out ht)
        have HSn := hide (toksI_text pre 3 p (src.extract p (p + 1)) _ 3 rfl (by rw [extract_list]))
        have HEq : Hid ((p + 1 : Nat) = p + 1) := rfl
        clear ht hsg hlet hdig
        go_wp2_with (first | (go_at_call 146; refine (HSg.out _).mono ?_; rintro e w' ⟨rfl, rfl⟩) | (at_builtin; apply Hid.out))
        refine hide ?_
        refine wpList_append_own _ rfl _ _ 156 rfl w.heap.size 192 i0 (.agg #[.int .i64 0, .string ⟨#[]⟩, .int .i64 0]) 3 32 Tryz.underlying156 hi0 hz0 hz1 hz2 rfl (by decide) _ _ _ rfl (HO.out.alloc _) ⟨wr.heap.size, 0, none⟩ 1 1 [.int .i64 3, .string (src.extract p (p + 1)), .int .i64 (p : Int)] rfl rfl (news_of (by simp)) (by simp [Value.oneCell']) (by unfold maxLen; omega) (by omega) (by simp; omega) ?_
        intro v' w1 hown' hgrow _
        have HG : Hid (Below w.heap.size wr w1) := hide (Below.grown ((Below.refl _ wr).alloc (by omega) _) hgrow (by simp; omega) (fun g hg => (HO.out.lt g hg).1))
        rw [← HSn.out] at hown'
        have HO2 := hide hown'
        clear hown' hgrow
        try go_wp2
        go_roundw
        case rel => exact ⟨_, _, (by go_num), by rw [List.length_append]; exact HO2.out, HB.out.trans HG.out, HNx.out.1, by rw [List.length_append]; simp; omega⟩
        case measure => simp [intOf]; omega
      have HSg := hide (fun w => sgn_is src[p] w hsg)
      cases hlet : letterB src[p]
      · have HLt := hide (fun w => let_is src[p] w hlet)
        cases hdig : digitB src[p]
        · have HDg := hide (fun w => dig_not src[p] w hdig)
          have ht := tok_bad src p hlt hlet hdig (by rw [signT_eq]; exact hsg)
          have HR := hide (HA.out.bad hl hlt HBl.out H35.out ht (by decide))
          clear ht hsg hlet hdig
          go_wp2_with (first | (go_at_call 146; refine (HSg.out _).mono ?_; rintro e w' ⟨rfl, rfl⟩) | (go_at_call 147; refine (HLt.out _).mono ?_; rintro e w' ⟨rfl, rfl⟩) | (go_at_call 148; refine (HDg.out _).mono ?_; rintro e w' ⟨rfl, rfl⟩))
          go_ret3
          exact rlex_bad HR.out HB.out
        · have HDg := hide (fun w => dig_not src[p] w hdig)
          have HDi := hide hdig
          have HLe := hide hlet
          clear hsg hdig hlet
          go_wp2_with (first | (go_at_call 146; refine (HSg.out _).mono ?_; rintro e w' ⟨rfl, rfl⟩) | (go_at_call 147; refine (HLt.out _).mono ?_; rintro e w' ⟨rfl, rfl⟩) | (go_at_call 148; refine (HDg.out _).mono ?_; rintro e w' ⟨rfl, rfl⟩))
          go_loop [8] (fun v8 => ∃ q : Nat, p < q ∧ q ≤ src.size ∧ v8 = .int .i64 q ∧ runTo innerB src q = runTo innerB src (p + 1)) (fun v8 => src.size - (intOf v8).toNat)
          case atStart => exact ⟨p + 1, by omega, by omega, by go_num, rfl⟩
          case round =>
            obtain ⟨q, hq1, hq2, rfl, hr⟩ := hrel
            have HRn := hide hr
            clear hr
            have q0 : (0 : Int) ≤ (q : Int) := by omega
            by_cases hq : q < src.size
            · cases hin : innerB src[q]
              · have HIn := hide (fun w => inn_is src[q] w hin)
                have HRun := hide (run_stop_no innerB src (p + 1) q HRn.out hq hin)
                clear hin
                go_wp2_with (go_at_call 149; refine (HIn.out _).mono ?_; rintro e w' ⟨rfl, rfl⟩)
                have HT := hide (tokAt src p q (by omega) hq2 HRun.out)
                have hTs : (src.extract p q).size ≤ 65536 := by have := HT.out.size; omega
                have hTp : 0 < (src.extract p q).size := by have := HT.out.size; omega
                have hq0 : (p : Int) ≤ (q : Int) := by omega
                have hq3 : (q : Int) ≤ (src.size : Int) := by omega
                have HEq : Hid ((p + (q - p) : Nat) = q) := hide (by omega)
                have HTT : Hid (∃ T, src.extract p q = T) := ⟨_, rfl⟩
                have ht := HT.out.num HLe.out HDi.out
                have HNum := hide (fun w => rnumber_any (src.extract p q) w (by omega) hTp)
                cases hnb : numB (src.extract p q).data.toList
                · rw [hnb] at ht HNum
                  have HR := hide (HA.out.bad hl hlt HBl.out H35.out ht (by decide))
                  clear hnb ht
                  go_wp2_with (first | (go_at_call 147; refine (HLt.out _).mono ?_; rintro e w' ⟨rfl, rfl⟩) | (go_at_call 148; refine (HDg.out _).mono ?_; rintro e w' ⟨rfl, rfl⟩) | (go_at_call 151; refine (HNum.out _).mono ?_; rintro e w' ⟨nn, rfl, rfl⟩) | (at_builtin; apply Hid.out))
                  go_ret3
                  exact rlex_bad HR.out (HB.out.trans ((Below.refl _ wr).alloc (by omega) _))
                · rw [hnb] at ht HNum
                  have HNx := hide (HA.out.tok hlt HBl.out H35.out ht)
                  have HSn := hide (toksI_text pre 2 p (src.extract p q) _ 2 rfl HT.out.list)
                  clear hnb ht
                  generalize src.extract p q = T at *
                  go_wp2_with (first | (go_at_call 147; refine (HLt.out _).mono ?_; rintro e w' ⟨rfl, rfl⟩) | (go_at_call 148; refine (HDg.out _).mono ?_; rintro e w' ⟨rfl, rfl⟩) | (go_at_call 151; refine (HNum.out _).mono ?_; rintro e w' ⟨nn, rfl, rfl⟩) | (at_builtin; apply Hid.out))
                  refine hide ?_
                  refine wpList_append_own _ rfl _ _ 156 rfl w.heap.size 192 i0 (.agg #[.int .i64 0, .string ⟨#[]⟩, .int .i64 0]) 3 32 Tryz.underlying156 hi0 hz0 hz1 hz2 rfl (by decide) _ _ _ rfl ((HO.out.alloc _).alloc _) ⟨(wr.heap.size + 1), 0, none⟩ 1 1 [.int .i64 2, .string T, .int .i64 (p : Int)] rfl rfl (news_of (by simp)) (by simp [Value.oneCell']) (by unfold maxLen; omega) (by omega) (by simp; omega) ?_
                  intro v' w1 hown' hgrow _
                  have HG : Hid (Below w.heap.size wr w1) := hide (Below.grown (((Below.refl _ wr).alloc (by omega) _).alloc (by simp; omega) _) hgrow (by simp; omega) (fun g hg => (HO.out.lt g hg).1))
                  rw [← HSn.out] at hown'
                  have HO2 := hide hown'
                  clear hown' hgrow
                  try go_wp2
                  go_roundw
                  case rel => exact ⟨_, _, (by rw [HEq.out]), by rw [List.length_append]; exact HO2.out, HB.out.trans HG.out, HNx.out.1, by rw [List.length_append]; simp; omega⟩
                  case measure => simp [intOf]; omega
              · have HIn := hide (fun w => inn_is src[q] w hin)
                have HN := hide (runTo_yes innerB src q hq hin)
                clear hin
                go_wp2_with (go_at_call 149; refine (HIn.out _).mono ?_; rintro e w' ⟨rfl, rfl⟩)
                go_round
                case rel => exact ⟨q + 1, by omega, by omega, by go_num, HN.out.trans HRn.out⟩
                case measure => simp [intOf]; omega
            · have HRun := hide (run_stop_end innerB src (p + 1) q HRn.out (by omega))
              have g1 : decide (q < src.size) = false := by simp; omega
              go_wp2_with fail
              have HT := hide (tokAt src p q (by omega) hq2 HRun.out)
              have hTs : (src.extract p q).size ≤ 65536 := by have := HT.out.size; omega
              have hTp : 0 < (src.extract p q).size := by have := HT.out.size; omega
              have hq0 : (p : Int) ≤ (q : Int) := by omega
              have hq3 : (q : Int) ≤ (src.size : Int) := by omega
              have HEq : Hid ((p + (q - p) : Nat) = q) := hide (by omega)
              have HTT : Hid (∃ T, src.extract p q = T) := ⟨_, rfl⟩
              have ht := HT.out.num HLe.out HDi.out
              have HNum := hide (fun w => rnumber_any (src.extract p q) w (by omega) hTp)
              cases hnb : numB (src.extract p q).data.toList
              · rw [hnb] at ht HNum
                have HR := hide (HA.out.bad hl hlt HBl.out H35.out ht (by decide))
                clear hnb ht
                go_wp2_with (first | (go_at_call 147; refine (HLt.out _).mono ?_; rintro e w' ⟨rfl, rfl⟩) | (go_at_call 148; refine (HDg.out _).mono ?_; rintro e w' ⟨rfl, rfl⟩) | (go_at_call 151; refine (HNum.out _).mono ?_; rintro e w' ⟨nn, rfl, rfl⟩) | (at_builtin; apply Hid.out))
                go_ret3
                exact rlex_bad HR.out (HB.out.trans ((Below.refl _ wr).alloc (by omega) _))
              · rw [hnb] at ht HNum
                have HNx := hide (HA.out.tok hlt HBl.out H35.out ht)
                have HSn := hide (toksI_text pre 2 p (src.extract p q) _ 2 rfl HT.out.list)
                clear hnb ht
                generalize src.extract p q = T at *
                go_wp2_with (first | (go_at_call 147; refine (HLt.out _).mono ?_; rintro e w' ⟨rfl, rfl⟩) | (go_at_call 148; refine (HDg.out _).mono ?_; rintro e w' ⟨rfl, rfl⟩) | (go_at_call 151; refine (HNum.out _).mono ?_; rintro e w' ⟨nn, rfl, rfl⟩) | (at_builtin; apply Hid.out))
                refine hide ?_
                refine wpList_append_own _ rfl _ _ 156 rfl w.heap.size 192 i0 (.agg #[.int .i64 0, .string ⟨#[]⟩, .int .i64 0]) 3 32 Tryz.underlying156 hi0 hz0 hz1 hz2 rfl (by decide) _ _ _ rfl ((HO.out.alloc _).alloc _) ⟨(wr.heap.size + 1), 0, none⟩ 1 1 [.int .i64 2, .string T, .int .i64 (p : Int)] rfl rfl (news_of (by simp)) (by simp [Value.oneCell']) (by unfold maxLen; omega) (by omega) (by simp; omega) ?_
                intro v' w1 hown' hgrow _
                have HG : Hid (Below w.heap.size wr w1) := hide (Below.grown (((Below.refl _ wr).alloc (by omega) _).alloc (by simp; omega) _) hgrow (by simp; omega) (fun g hg => (HO.out.lt g hg).1))
                rw [← HSn.out] at hown'
                have HO2 := hide hown'
                clear hown' hgrow
                try go_wp2
                go_roundw
                case rel => exact ⟨_, _, (by rw [HEq.out]), by rw [List.length_append]; exact HO2.out, HB.out.trans HG.out, HNx.out.1, by rw [List.length_append]; simp; omega⟩
                case measure => simp [intOf]; omega
      · have HLt := hide (fun w => let_is src[p] w hlet)
        have HDg := hide (fun w => rdigit_any src[p] w)
        have HLe := hide hlet
        clear hsg hlet
        go_wp2_with (first | (go_at_call 146; refine (HSg.out _).mono ?_; rintro e w' ⟨rfl, rfl⟩) | (go_at_call 147; refine (HLt.out _).mono ?_; rintro e w' ⟨rfl, rfl⟩) | (go_at_call 148; refine (HDg.out _).mono ?_; rintro e w' ⟨rfl, rfl⟩))
        go_loop [8] (fun v8 => ∃ q : Nat, p < q ∧ q ≤ src.size ∧ v8 = .int .i64 q ∧ runTo innerB src q = runTo innerB src (p + 1)) (fun v8 => src.size - (intOf v8).toNat)
        case atStart => exact ⟨p + 1, by omega, by omega, by go_num, rfl⟩
        case round =>
          obtain ⟨q, hq1, hq2, rfl, hr⟩ := hrel
          have HRn := hide hr
          clear hr
          have q0 : (0 : Int) ≤ (q : Int) := by omega
          by_cases hq : q < src.size
          · cases hin : innerB src[q]
            · have HIn := hide (fun w => inn_is src[q] w hin)
              have HRun := hide (run_stop_no innerB src (p + 1) q HRn.out hq hin)
              clear hin
              go_wp2_with (go_at_call 149; refine (HIn.out _).mono ?_; rintro e w' ⟨rfl, rfl⟩)
              have HT := hide (tokAt src p q (by omega) hq2 HRun.out)
              have hTs : (src.extract p q).size ≤ 65536 := by have := HT.out.size; omega
              have hTp : 0 < (src.extract p q).size := by have := HT.out.size; omega
              have hq0 : (p : Int) ≤ (q : Int) := by omega
              have hq3 : (q : Int) ≤ (src.size : Int) := by omega
              have HEq : Hid ((p + (q - p) : Nat) = q) := hide (by omega)
              have HTT : Hid (∃ T, src.extract p q = T) := ⟨_, rfl⟩
              obtain ⟨hw1, ⟨hw2, hw3⟩, ht⟩ := HT.out.word HLe.out
              by_cases h24 : (src.extract p q).size ≤ 24
              · have HNm := hide (fun w => rname_any (src.extract p q) w (by omega) hTp (hide hw3) (hide hw1) true (hide (by simpa using h24)))
                rw [if_neg (by omega)] at ht
                have HNx := hide (HA.out.tok hlt HBl.out H35.out ht)
                have HSn := hide (toksI_text pre 1 p (src.extract p q) _ 1 rfl HT.out.list)
                clear hw1 hw3 ht h24
                generalize src.extract p q = T at *
                go_wp2_with (first | (go_at_call 147; refine (HLt.out _).mono ?_; rintro e w' ⟨rfl, rfl⟩) | (go_at_call 150; refine (HNm.out _).mono ?_; rintro e w' ⟨rfl, rfl⟩) | (at_builtin; apply Hid.out))
                refine hide ?_
                refine wpList_append_own _ rfl _ _ 156 rfl w.heap.size 192 i0 (.agg #[.int .i64 0, .string ⟨#[]⟩, .int .i64 0]) 3 32 Tryz.underlying156 hi0 hz0 hz1 hz2 rfl (by decide) _ _ _ rfl ((HO.out.alloc _).alloc _) ⟨(wr.heap.size + 1), 0, none⟩ 1 1 [.int .i64 1, .string T, .int .i64 (p : Int)] rfl rfl (news_of (by simp)) (by simp [Value.oneCell']) (by unfold maxLen; omega) (by omega) (by simp; omega) ?_
                intro v' w1 hown' hgrow _
                have HG : Hid (Below w.heap.size wr w1) := hide (Below.grown (((Below.refl _ wr).alloc (by omega) _).alloc (by simp; omega) _) hgrow (by simp; omega) (fun g hg => (HO.out.lt g hg).1))
                rw [← HSn.out] at hown'
                have HO2 := hide hown'
                clear hown' hgrow
                try go_wp2
                go_roundw
                case rel => exact ⟨_, _, (by rw [HEq.out]), by rw [List.length_append]; exact HO2.out, HB.out.trans HG.out, HNx.out.1, by rw [List.length_append]; simp; omega⟩
                case measure => simp [intOf]; omega
              · have HNm := hide (fun w => rname_any (src.extract p q) w (by omega) hTp (hide hw3) (hide hw1) false (hide (by simpa using h24)))
                rw [if_pos (by omega)] at ht
                have HR := hide (HA.out.bad hl hlt HBl.out H35.out ht (by decide))
                clear hw1 hw3 ht h24
                go_wp2_with (first | (go_at_call 147; refine (HLt.out _).mono ?_; rintro e w' ⟨rfl, rfl⟩) | (go_at_call 150; refine (HNm.out _).mono ?_; rintro e w' ⟨rfl, rfl⟩) | (at_builtin; apply Hid.out))
                go_ret3
                exact rlex_bad HR.out (HB.out.trans ((Below.refl _ wr).alloc (by omega) _))
            · have HIn := hide (fun w => inn_is src[q] w hin)
              have HN := hide (runTo_yes innerB src q hq hin)
              clear hin
              go_wp2_with (go_at_call 149; refine (HIn.out _).mono ?_; rintro e w' ⟨rfl, rfl⟩)
              go_round
              case rel => exact ⟨q + 1, by omega, by omega, by go_num, HN.out.trans HRn.out⟩
              case measure => simp [intOf]; omega
          · have HRun := hide (run_stop_end innerB src (p + 1) q HRn.out (by omega))
            have g1 : decide (q < src.size) = false := by simp; omega
            go_wp2_with fail
            have HT := hide (tokAt src p q (by omega) hq2 HRun.out)
            have hTs : (src.extract p q).size ≤ 65536 := by have := HT.out.size; omega
            have hTp : 0 < (src.extract p q).size := by have := HT.out.size; omega
            have hq0 : (p : Int) ≤ (q : Int) := by omega
            have hq3 : (q : Int) ≤ (src.size : Int) := by omega
            have HEq : Hid ((p + (q - p) : Nat) = q) := hide (by omega)
            have HTT : Hid (∃ T, src.extract p q = T) := ⟨_, rfl⟩
            obtain ⟨hw1, ⟨hw2, hw3⟩, ht⟩ := HT.out.word HLe.out
            by_cases h24 : (src.extract p q).size ≤ 24
            · have HNm := hide (fun w => rname_any (src.extract p q) w (by omega) hTp (hide hw3) (hide hw1) true (hide (by simpa using h24)))
              rw [if_neg (by omega)] at ht
              have HNx := hide (HA.out.tok hlt HBl.out H35.out ht)
              have HSn := hide (toksI_text pre 1 p (src.extract p q) _ 1 rfl HT.out.list)
              clear hw1 hw3 ht h24
              generalize src.extract p q = T at *
              go_wp2_with (first | (go_at_call 147; refine (HLt.out _).mono ?_; rintro e w' ⟨rfl, rfl⟩) | (go_at_call 150; refine (HNm.out _).mono ?_; rintro e w' ⟨rfl, rfl⟩) | (at_builtin; apply Hid.out))
              refine hide ?_
              refine wpList_append_own _ rfl _ _ 156 rfl w.heap.size 192 i0 (.agg #[.int .i64 0, .string ⟨#[]⟩, .int .i64 0]) 3 32 Tryz.underlying156 hi0 hz0 hz1 hz2 rfl (by decide) _ _ _ rfl ((HO.out.alloc _).alloc _) ⟨(wr.heap.size + 1), 0, none⟩ 1 1 [.int .i64 1, .string T, .int .i64 (p : Int)] rfl rfl (news_of (by simp)) (by simp [Value.oneCell']) (by unfold maxLen; omega) (by omega) (by simp; omega) ?_
              intro v' w1 hown' hgrow _
              have HG : Hid (Below w.heap.size wr w1) := hide (Below.grown (((Below.refl _ wr).alloc (by omega) _).alloc (by simp; omega) _) hgrow (by simp; omega) (fun g hg => (HO.out.lt g hg).1))
              rw [← HSn.out] at hown'
              have HO2 := hide hown'
              clear hown' hgrow
              try go_wp2
              go_roundw
              case rel => exact ⟨_, _, (by rw [HEq.out]), by rw [List.length_append]; exact HO2.out, HB.out.trans HG.out, HNx.out.1, by rw [List.length_append]; simp; omega⟩
              case measure => simp [intOf]; omega
            · have HNm := hide (fun w => rname_any (src.extract p q) w (by omega) hTp (hide hw3) (hide hw1) false (hide (by simpa using h24)))
              rw [if_pos (by omega)] at ht
              have HR := hide (HA.out.bad hl hlt HBl.out H35.out ht (by decide))
              clear hw1 hw3 ht h24
              go_wp2_with (first | (go_at_call 147; refine (HLt.out _).mono ?_; rintro e w' ⟨rfl, rfl⟩) | (go_at_call 150; refine (HNm.out _).mono ?_; rintro e w' ⟨rfl, rfl⟩) | (at_builtin; apply Hid.out))
              go_ret3
              exact rlex_bad HR.out (HB.out.trans ((Below.refl _ wr).alloc (by omega) _))
theorem rlex_any (src : ByteArray) (w : World) : Calls Tryz.prog 120 #[.string src] w (RLexR w src) := by
  by_cases hl : src.size ≤ 65536
  · exact rlex_fineW src w hl
  · exact rlex_long src w (by omega)
end Go.Proofs.YtlngbjphagnloaaGreatDoor
