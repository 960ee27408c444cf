/-
  LexBack: the walk.
-/
import Derived.Test.YtnpadhjjkoiihaaDoorBackP
import Derived.Test.YtnpadhjjkoiihaaDoorAwk
namespace Go.Proofs.YtnpadhjjkoiihaaDoor
open Go.RowKit
/-- What is known of a source whose tokens are all valid. -/
structure BackOk (src : ByteArray) (l : List Tok) : Prop where
  chain : Chain (toksL src) 0 l
  again : ∃ us : List Tok, lexR (joinL l) = (us, 0, 0) ∧ us.length = l.length ∧ ∀ (i : Nat) (t u : Tok), l[i]? = some t → us[i]? = some u → t.kind = u.kind ∧ t.text = u.text
  small : (joinL l).length ≤ 140737488355328
  count : l.length ≤ 4000
theorem lexR_cases (src : ByteArray) (hl : src.size ≤ 4000) : (∃ l, lexR src.data.toList = (l, 0, 0) ∧ BackOk src l) ∨ ∃ p er, lexR src.data.toList = ([], p, er) ∧ p < src.size ∧ (er = 70 ∨ er = 71 ∨ er = 72) := by
  have hL : (toksL src).length = src.size := by simp [toksL]
  have hll : ¬ 65536 < src.data.toList.length := by simp; show src.size ≤ 65536; omega
  by_cases h0 : (lexA 0 (toksL src)).2.2 = 0
  · have e : lexR src.data.toList = lexA 0 (toksL src) := by unfold lexR; rw [if_neg hll]; exact if_pos h0
    have hz : (lexA 0 (toksL src)).2.1 = 0 := ((lex_els _ 0 (toksL src) (Nat.le_refl _)).1 h0).2
    refine .inl ⟨(lexA 0 (toksL src)).1, by rw [e]; exact Prod.ext rfl (Prod.ext hz h0), ?_⟩
    have hs := lexA_sum 0 (toksL src)
    have hc := (lexA_ok _ 0 (toksL src) (Nat.le_refl _)).2.1
    have hj : (joinL (lexA 0 (toksL src)).1).length ≤ 8000 := by
      rw [← joinT_eq]
      have h1 := joinT_sum ((lexA 0 (toksL src)).1.map Tok.toZ)
      have h2 : sumT ((lexA 0 (toksL src)).1.map Tok.toZ) = ((lexA 0 (toksL src)).1.map (·.text.length)).sum := by
        unfold sumT
        rw [List.map_map]
        congr 1
      rw [h2, List.length_map] at h1
      omega
    refine ⟨chain_of (toksL src) 0 (toksL src) rfl (by omega) h0, ?_, by omega, by omega⟩
    obtain ⟨us, h1, h2, h3⟩ := lex_join (lexA 0 (toksL src)).1 0 (valid_all 0 (toksL src))
    refine ⟨us, ?_, h2, h3⟩
    unfold lexR
    rw [if_neg (by omega), h1]
    rfl
  · have e : lexR src.data.toList = ([], (lexA 0 (toksL src)).2.1, (lexA 0 (toksL src)).2.2) := by unfold lexR; rw [if_neg hll]; exact if_neg h0
    obtain ⟨_, h2, h3⟩ := lexA_err 0 (toksL src) h0
    exact .inr ⟨_, _, e, by omega, h3⟩
theorem chain_drop {L : List UInt8} : ∀ {l : List Tok} {i f : Nat} {t : Tok}, Chain L f (l.drop i) → l[i]? = some t → f ≤ t.at_ ∧ t.at_ + t.text.length ≤ L.length ∧ (L.drop t.at_).take t.text.length = t.text ∧ emptyB false ((L.drop f).take (t.at_ - f)) = true ∧ Chain L (t.at_ + t.text.length) (l.drop (i + 1)) := by
  intro l i f t h ht
  obtain ⟨hi, rfl⟩ := List.getElem?_eq_some_iff.1 ht
  rw [List.drop_eq_getElem_cons hi] at h
  exact h
theorem piece2 (src : ByteArray) (p q : Nat) (_h1 : p ≤ q) (h2 : q ≤ src.size) : (src.extract p q).size = q - p ∧ (src.extract p q).data.toList = ((toksL src).drop p).take (q - p) := by
  have hz : (src.extract p q).size = q - p := by rw [ByteArray.size_extract]; omega
  exact ⟨hz, by rw [Lib.extract_data]; rfl⟩
theorem alike_map {l us : List Tok} (h : ∀ (i : Nat) (t u : Tok), l[i]? = some t → us[i]? = some u → t.kind = u.kind ∧ t.text = u.text) (i : Nat) (t u : TokZ) (h1 : (l.map Tok.toZ)[i]? = some t) (h2 : (us.map Tok.toZ)[i]? = some u) : t.kind = u.kind ∧ t.text = u.text := by
  rw [List.getElem?_map] at h1 h2
  obtain ⟨t', e1, rfl⟩ := Option.map_eq_some_iff.1 h1
  obtain ⟨u', e2, rfl⟩ := Option.map_eq_some_iff.1 h2
  obtain ⟨a, b⟩ := h i t' u' e1 e2
  exact ⟨by unfold Tok.toZ; simp only [a], by unfold Tok.toZ; simp only [b]⟩
theorem quiet_add_left {P : Program} {f : FuncId} {args : Array Value} {w : World} {a n : Nat} {v : Value}
    (h : Calls P f args (w.drewN (a + n)) fun e w' => e = .returned v ∧ w.drewN (a + n) = w') :
    Calls P f args (w.drewN (a + n)) fun e w'' => e = .returned v ∧ ∃ m, w'' = w.drewN (a + m) :=
  h.mono fun _ _ ⟨he, hm⟩ => ⟨he, n, hm.symm⟩
theorem quiet_left {P : Program} {f : FuncId} {args : Array Value} {w : World} {n : Nat} {v : Value}
    (h : Calls P f args (w.drewN n) fun e w' => e = .returned v ∧ w.drewN n = w') : Calls P f args (w.drewN n) fun e w'' => e = .returned v ∧ ∃ m, w'' = w.drewN m :=
  h.mono fun _ _ ⟨he, hm⟩ => ⟨he, n, hm.symm⟩
theorem text_eq (src : ByteArray) (tx : List UInt8) (ta : Nat) (h1 : ta + tx.length ≤ src.size) (h2 : ((toksL src).drop ta).take tx.length = tx) : (⟨tx.toArray⟩ : ByteArray) = src.extract ta (ta + tx.length) := by
  obtain ⟨_, p2⟩ := piece2 src ta (ta + tx.length) (by omega) h1
  rw [show ta + tx.length - ta = tx.length from by omega, h2] at p2
  apply ByteArray.ext
  apply Array.ext'
  rw [p2]
set_option maxRecDepth 100000 in
set_option maxHeartbeats 4000000 in
theorem back_any (src : ByteArray) (w : World) (hE : Hid (Env w)) : Calls Tryd.prog 6 #[.string src] w fun e w' => e = .returned (.bool true) ∧ Below w.heap.size w w' := by
  have HA := hide (awake_any w hE)
  by_cases hl : 4000 < src.size
  · have h1 : (4000 : Int) < (src.size : Int) := by omega
    go_enter Tryd.func6, Tryd.ntmps6
    go_wp2_with fail
    refine HA.out.mono ?_
    rintro e w1 ⟨rfl, hb1⟩
    have HB1 := hide hb1
    clear hb1
    go_wp2_with fail
    go_ret
    exact ⟨rfl, HB1.out⟩
  have h1 : (src.size : Int) ≤ 4000 := by omega
  rcases lexR_cases src (by omega) with ⟨l, hR, hB⟩ | ⟨p, er, hR, hp, her⟩
  · have HL := hide (fun (w : World) (hE : Env w) => lex_at src l l.length 0 0 rfl hR w hE)
    have HBk := hide hB
    obtain ⟨us, hu1, hu2, hu3⟩ := hB.again
    have HU := hide (fun (w : World) (hE : Env w) => lex_at (joinS (l.map Tok.toZ)) us l.length 0 0 hu2 (by show lexR (joinT (l.map Tok.toZ)) = _; rw [joinT_eq]; exact hu1) w hE)
    have HN := hide (show (l.map Tok.toZ).length = l.length by simp)
    have HM := hide (show (us.map Tok.toZ).length = l.length by simpa using hu2)
    have HAl := hide (alike_map hu3)
    have HSm := hide (show (joinT (l.map Tok.toZ)).length ≤ 140737488355328 by rw [joinT_eq]; exact hB.small)
    have hcnt := hB.count
    clear hR hB hu1 hu2 hu3
    generalize hn : l.length = n at *
    have HLn := hide hn
    clear hn
    go_enter Tryd.func6, Tryd.ntmps6
    go_wp2_with fail
    refine HA.out.mono ?_
    rintro e w1 ⟨rfl, hb1⟩
    have HB1 := hide hb1
    clear hb1
    go_wp2_with fail
    refine (HL.out _ (hE.out.kept HB1.out)).mono ?_
    rintro e w2 ⟨A2, c2, rfl, hT2, hb2⟩
    have HT2 := hide hT2
    have HB2 := hide (HB1.out.trans (hb2.mono HB1.out.size))
    clear hT2 hb2
    go_wp2_with fail
    refine (join_call A2 n c2 _ _ HN (by omega) HT2 HSm).mono ?_
    rintro e w3 ⟨rfl, hb3⟩
    have HT3 := hide (HT2.out.below hb3)
    have HB3 := hide (HB2.out.trans (hb3.mono HB2.out.size))
    clear hb3 HT2
    go_wp2_with fail
    refine (HU.out _ (hE.out.kept HB3.out)).mono ?_
    rintro e w4 ⟨A4, c4, rfl, hT4, hb4⟩
    have HT4 := hide hT4
    have HT5 := hide (HT3.out.below hb4)
    have HB4 := hide (HB3.out.trans (hb4.mono HB3.out.size))
    clear hT4 hb4 HT3
    go_wp2_with fail
    refine (alike_yes A2 A4 n c2 c4 _ _ _ HN HM (by omega) HT5 HT4 HAl).mono ?_
    rintro e w5 ⟨rfl, hb5⟩
    have HT6 := hide (HT5.out.below hb5)
    have HB5 := hide (HB4.out.trans (hb5.mono HB4.out.size))
    clear hb5 HT5 HT4
    go_wp2_with fail
    have HC0 := hide HBk.out.chain
    go_loopw [9, 10] (fun v9 v10 wr => ∃ (i f : Nat), i ≤ n ∧ v10 = .int .i64 i ∧ v9 = .int .i64 f ∧ Chain (toksL src) f (l.drop i) ∧ Below w5.heap.size w5 wr) (fun _ v10 _ => n - (intOf v10).toNat)
    case atStart => exact ⟨0, 0, by omega, rfl, rfl, HC0.out, Below.refl _ _⟩
    case round =>
      obtain ⟨i, f, hi, rfl, rfl, hc, hbr⟩ := hrel
      have HC := hide hc
      have HBR := hide hbr
      have hz := hbr.size
      clear hc hbr
      by_cases hlt : i < n
      case neg =>
        obtain rfl : i = n := by omega
        have hend := HC.out
        rw [List.drop_of_length_le (by rw [HLn.out]; omega)] at hend
        have hL : (toksL src).length = src.size := by simp [toksL]
        obtain ⟨f1, f2⟩ := hend
        rw [hL] at f1
        obtain ⟨p1, p2⟩ := piece2 src f src.size f1 (Nat.le_refl _)
        have HEm := hide (fun w => empty_yes (src.extract f src.size) w (by omega) (hide (by rw [p2, List.take_of_length_le (by rw [List.length_drop, hL]; omega)]; exact f2)))
        have f3 : (f : Int) ≤ (src.size : Int) := by omega
        clear p1 p2 f2 hL
        go_wp2_with fail
        refine (HEm.out _).mono ?_
        rintro e w' ⟨rfl, rfl⟩
        go_wp2_with fail
        go_ret
        exact ⟨rfl, HB5.out.trans (HBR.out.mono HB5.out.size)⟩
      case pos =>
        obtain ⟨b, off, t, rfl, hbb, ht, q0, q1, q2⟩ := trow_at HN HT6 HBR.out hlt
        have ht' := ht.out
        rw [List.getElem?_map] at ht'
        obtain ⟨t', e1, rfl⟩ := Option.map_eq_some_iff.1 ht'
        obtain ⟨c1, c2, c3, c4, c5⟩ := chain_drop HC.out e1
        have hL : (toksL src).length = src.size := by simp [toksL]
        rw [hL] at c2
        obtain ⟨tk, tx, ta⟩ := t'
        simp only [Tok.toZ] at q0 q1 q2
        simp only at c1 c2 c3 c4 c5
        rw [text_eq src tx ta c2 c3] at q1
        have HC5 := hide c5
        obtain ⟨e, he⟩ : ∃ e, ta + tx.length = e := ⟨_, rfl⟩
        rw [he] at q1 c2 HC5
        obtain ⟨p1, -⟩ := piece2 src ta e (by omega) c2
        obtain ⟨p3, p4⟩ := piece2 src f ta c1 (by omega)
        have HEm := hide (fun w => empty_yes (src.extract f ta) w (by omega) (hide (by rw [p4]; exact c4)))
        have HTE : Hid (∃ T, T = src.extract ta e) := ⟨_, rfl⟩
        obtain ⟨T, hT⟩ := HTE.out
        rw [← hT] at q1 p1
        have hsum : (ta : Int) + (T.size : Int) = (e : Int) := by omega
        have g1 : (f : Int) ≤ (ta : Int) := by omega
        have g2 : (e : Int) ≤ (src.size : Int) := by omega
        have g3 : (ta : Int) ≤ (e : Int) := by omega
        have g4 : (ta : Int) ≤ (src.size : Int) := by omega
        have i0 : (0 : Int) ≤ (i : Int) := by omega
        have i1 : (i : Int) < (n : Int) := by omega
        have l1 : b < wr.heap.size := by omega
        have HT := hide hT
        clear hT p1 p3 p4 c3 c4 c5 he hL
        go_wp2_with fail
        go_quiet (fail)
        go_wp2_with fail
        have hT := HT.out
        subst hT
        clear hsum
        go_quiet ((go_at_call 20; first | with_reducible exact quiet_left (HEm.out _) | with_reducible exact quiet_add_left (HEm.out _)))
        go_wp2_with fail
        go_roundw
        case rel => exact ⟨i + 1, e, by omega, by go_num, rfl, HC5.out, below_drewN HBR.out _⟩
        case measure => simp [intOf]; omega
  · have HL := hide (fun (w : World) (hE : Env w) => lex_at src [] 0 p er rfl hR w hE)
    have hp2 : (p : Int) < (src.size : Int) := by omega
    have hp0 : (0 : Int) ≤ (p : Int) := by omega
    clear hR
    rcases her with rfl | rfl | rfl
    all_goals
      go_enter Tryd.func6, Tryd.ntmps6
      go_wp2_with fail
      refine HA.out.mono ?_
      rintro e w1 ⟨rfl, hb1⟩
      have HB1 := hide hb1
      clear hb1
      go_wp2_with fail
      refine (HL.out _ (hE.out.kept HB1.out)).mono ?_
      rintro e w2 ⟨A2, c2, rfl, -, hb2⟩
      have HB2 := hide (HB1.out.trans (hb2.mono HB1.out.size))
      clear hb2
      go_wp2_with fail
      go_ret
      exact ⟨rfl, HB2.out⟩
end Go.Proofs.YtnpadhjjkoiihaaDoor
