/-
  LexSplits: the walk.
-/
import Derived.Test.YtnpadhjjkoiihaaDoorSplitP
import Derived.Test.YtnpadhjjkoiihaaDoorBck
import Derived.IntWalk
namespace Go.Proofs.YtnpadhjjkoiihaaDoor
open Go.RowKit
/-- As LexC, with the slice's capacity. -/
def LexD (ts : List TokZ) (n : Nat) (p er : Int) (w : World) (e : Ending) (w' : World) : Prop :=
  ∃ A cap, e = .returned (.tuple #[.slice A n cap, .int .i64 p, .int .i64 er]) ∧ TRows .u8 w' A ts ∧ n ≤ cap ∧ Below w.heap.size w w'
theorem lex_at2 (src : ByteArray) (l : List Tok) (n p er : Nat) (hn : l.length = n) (h : lexR src.data.toList = (l, p, er)) (w : World) (hE : Env w) : Calls Tryd.prog 18 #[.string src] w (LexD (l.map Tok.toZ) n (p : Int) (er : Int) w) := by
  refine (lex_any src w hE).mono ?_
  rintro e w' ⟨v, rfl, ho, -, hb⟩
  rw [h] at ho ⊢
  simp only at ho ⊢
  rw [hn] at ho
  have hc : ∃ a c, v = .slice a n c ∧ n ≤ c := by
    rcases ho.2 with ⟨rfl, rfl⟩ | ⟨g, cap, cur, rfl, _, hg, hnc, _⟩
    · exact ⟨none, 0, rfl, Nat.le_refl _⟩
    · exact ⟨_, cap, rfl, hnc⟩
  obtain ⟨a, c, rfl, hnc⟩ := hc
  obtain ⟨a', c', e', h'⟩ := trows_own (ts := l.map Tok.toZ) ho (by simpa using hn)
  injection e' with e1 _ e3
  subst e1 e3
  exact ⟨a, c, rfl, h', hnc, hb⟩
theorem TRows.take {K : IntKind} {w : World} {A : Option Addr} {ts us : List TokZ} (h : TRows K w A (ts ++ us)) : TRows K w A ts := by
  rcases h with h | ⟨b, off, e, hlt, hc⟩
  · exact .inl (List.append_eq_nil_iff.1 h).1
  · exact .inr ⟨b, off, e, hlt, fun i t ht => hc i t (by rw [List.getElem?_append_left (List.getElem?_eq_some_iff.1 ht).1]; exact ht)⟩
theorem TRows.drop {K : IntKind} {w : World} {A : Option Addr} {ts us : List TokZ} {n : Nat} (hn : ts.length = n) (h : TRows K w A (ts ++ us)) : TRows K w (A.map (·.add (n * 3))) us := by
  rcases h with h | ⟨b, off, rfl, hlt, hc⟩
  · exact .inl (List.append_eq_nil_iff.1 h).2
  · have hadd : (Addr.add ⟨b, off, none⟩ (n * 3)) = ⟨b, off + n * 3, none⟩ := by
      unfold Addr.add; split
      · rename_i hj; rw [hj]; rfl
      · rfl
    refine .inr ⟨b, off + n * 3, by simp only [Option.map_some, hadd], hlt, fun i t ht => ?_⟩
    have := hc (n + i) t (by rw [List.getElem?_append_right (by omega), hn, Nat.add_sub_cancel_left]; exact ht)
    have e : off + (n + i) * 3 = off + n * 3 + i * 3 := by omega
    rw [e] at this
    exact this
theorem TRows.cut {K : IntKind} {w : World} {A : Option Addr} {ts us : List TokZ} {n m c : Nat} (hn : ts.length = n) (hm : us.length = m) (hc : n + m ≤ c) (h : TRows K w A (ts ++ us)) : TRows K w (if c = n then A else A.map (·.add (n * 3))) us := by
  split
  · exact .inl (List.eq_nil_of_length_eq_zero (by omega))
  · exact h.drop hn
theorem lines_list (a b : ByteArray) : (a ++ ⟨#[10]⟩ ++ b).data.toList = a.data.toList ++ 10 :: b.data.toList := by
  obtain ⟨⟨x⟩⟩ := a
  obtain ⟨⟨y⟩⟩ := b
  have e : (⟨#[10]⟩ : ByteArray) = ⟨([10] : List UInt8).toArray⟩ := rfl
  rw [e, ByteArray.mk_append_mk, ByteArray.mk_append_mk]
  simp
theorem lexR_small (l : List UInt8) (h : l.length ≤ 65536) : lexR l = if (lexA 0 l).2.2 = 0 then lexA 0 l else ([], (lexA 0 l).2.1, (lexA 0 l).2.2) := by
  unfold lexR; rw [if_neg (by omega)]
theorem lexR_ok {l : List UInt8} (h : l.length ≤ 65536) {toks : List Tok} {p : Nat} (hr : lexR l = (toks, p, 0)) : lexA 0 l = (toks, 0, 0) ∧ p = 0 := by
  rw [lexR_small l h] at hr
  split at hr
  · rename_i h0
    have hz := ((lex_els _ 0 l (Nat.le_refl _)).1 h0).2
    rw [hr] at hz
    simp only at hz
    rw [hr, hz]
    exact ⟨rfl, rfl⟩
  · rename_i h0
    exact absurd (congrArg (fun q => q.2.2) hr) h0
theorem lexR_er {l : List UInt8} (h : l.length ≤ 65536) {toks : List Tok} {p er : Nat} (hr : lexR l = (toks, p, er)) (he : er ≠ 0) : toks = [] ∧ (lexA 0 l).2 = (p, er) := by
  rw [lexR_small l h] at hr
  split at hr
  · rename_i h0
    rw [hr] at h0
    exact absurd h0 he
  · have h1 := congrArg (fun q => q.1) hr
    have h2 := congrArg (fun q => q.2) hr
    exact ⟨h1.symm, h2⟩
/-- The three cases. -/
theorem splits (a b : List UInt8) (ha : a.length ≤ 2000) (hb : b.length ≤ 2000) {la lb : List Tok} {pa ea pb eb : Nat} (hra : lexR a = (la, pa, ea)) (hrb : lexR b = (lb, pb, eb)) :
    (ea ≠ 0 → lexR (a ++ 10 :: b) = ([], pa, ea)) ∧ (ea = 0 → eb ≠ 0 → lexR (a ++ 10 :: b) = ([], pb + a.length + 1, eb)) ∧ (ea = 0 → eb = 0 → lexR (a ++ 10 :: b) = (la ++ lb.map (shiftT (a.length + 1)), 0, 0) ∧ pa = 0) := by
  have hl : (a ++ 10 :: b).length ≤ 65536 := by rw [List.length_append, List.length_cons]; omega
  have hs := lex_split 0 a b
  have hsh := lexA_shift (a.length + 1) 0 b
  rw [show 0 + (a.length + 1) = 0 + a.length + 1 from by omega] at hsh
  rw [lexR_small _ hl, hs]
  refine ⟨fun he => ?_, fun he he2 => ?_, fun he he2 => ?_⟩
  · obtain ⟨_, h2⟩ := lexR_er (by omega) hra he
    have h3 : (lexA 0 a).2.2 = ea := by rw [h2]
    have h4 : (lexA 0 a).2.1 = pa := by rw [h2]
    have h5 : ¬ (lexA 0 a).2.2 = 0 := by rw [h3]; exact he
    rw [if_neg h5, if_neg h5, h3, h4]
  · subst he
    obtain ⟨h1, _⟩ := lexR_ok (by omega) hra
    obtain ⟨_, h2⟩ := lexR_er (by omega) hrb he2
    have h3 : (lexA 0 b).2.2 = eb := by rw [h2]
    have h4 : (lexA 0 b).2.1 = pb := by rw [h2]
    rw [h1, if_pos rfl, hsh]
    simp only [h3, h4]
    rw [if_neg he2, if_neg he2]
    rfl
  · subst he he2
    obtain ⟨h1, h1'⟩ := lexR_ok (by omega) hra
    obtain ⟨h2, _⟩ := lexR_ok (by omega) hrb
    rw [h1, if_pos rfl, hsh, h2]
    simp [h1']
theorem shift_alike (d : Nat) (lb : List Tok) (i : Nat) (t u : Tok) (h1 : (lb.map (shiftT d))[i]? = some t) (h2 : lb[i]? = some u) : t.kind = u.kind ∧ t.text = u.text := by
  rw [List.getElem?_map, h2] at h1
  simp at h1
  subst h1
  exact ⟨rfl, rfl⟩
theorem same_alike (l : List Tok) (i : Nat) (t u : Tok) (h1 : l[i]? = some t) (h2 : l[i]? = some u) : t.kind = u.kind ∧ t.text = u.text := by
  rw [h1] at h2; cases h2; exact ⟨rfl, rfl⟩
set_option maxRecDepth 100000 in
set_option maxHeartbeats 4000000 in
theorem splits_bad (a b : ByteArray) (w : World) (ha : a.size ≤ 2000) (hb : b.size ≤ 2000) (la lb : List Tok) (na nb pa ea pb eb : Nat) (hna : la.length = na) (hnb : lb.length = nb) (hra : lexR a.data.toList = (la, pa, ea)) (hrb : lexR b.data.toList = (lb, pb, eb))
    (hm : (ea ≠ 0 ∧ lexR (a ++ ⟨#[10]⟩ ++ b).data.toList = ([], pa, ea)) ∨ (ea = 0 ∧ eb ≠ 0 ∧ lexR (a ++ ⟨#[10]⟩ ++ b).data.toList = ([], pb + a.size + 1, eb))) (hpb : pb ≤ 65536) (hE : Hid (Env w)) :
    Calls Tryd.prog 8 #[.string a, .string b] w fun e w' => e = .returned (.bool true) ∧ Below w.heap.size w w' := by
  have HA := hide (awake_any w hE)
  have HLa := hide (fun (w : World) (hE : Env w) => lex_at2 a la na pa ea hna hra w hE)
  have HLb := hide (fun (w : World) (hE : Env w) => lex_at2 b lb nb pb eb hnb hrb w hE)
  have z1 : (a.size : Int) ≤ 2000 := by omega
  have z2 : (b.size : Int) ≤ 2000 := by omega
  have y1 : ¬ 9223372036854775807 < a.size + 1 := by omega
  have y2 : ¬ 9223372036854775807 < a.size + 1 + b.size := by omega
  have y3 : ¬ 9223372036854775807 ≤ a.size := by omega
  have y4 : ¬ 9223372036854775806 < a.size := by omega
  clear hra hrb hna hnb
  rcases hm with ⟨he, hm⟩ | ⟨rfl, he, hm⟩
  · have HLm := hide (fun (w : World) (hE : Env w) => lex_at2 (a ++ ⟨#[10]⟩ ++ b) [] 0 pa ea rfl hm w hE)
    have x1 : ((ea : Int) != 0) = true := by simp; omega
    clear he hm
    go_enter Tryd.func8, Tryd.ntmps8
    go_wp2_with fail
    refine HA.out.mono ?_
    rintro e w1 ⟨rfl, hb1⟩
    have HB1 := hide hb1
    clear hb1
    go_wp2_with fail
    refine (HLa.out _ (hE.out.kept HB1.out)).mono ?_
    rintro e w2 ⟨A2, c2, rfl, hT2, hc2, hb2⟩
    have HT2 := hide hT2
    have HB2 := hide (HB1.out.trans (hb2.mono HB1.out.size))
    clear hT2 hb2
    go_wp2_with fail
    refine (HLb.out _ (hE.out.kept HB2.out)).mono ?_
    rintro e w3 ⟨A3, c3, rfl, hT3, hc3, hb3⟩
    have HT3 := hide hT3
    have HT2b := hide (HT2.out.below hb3)
    have HB3 := hide (HB2.out.trans (hb3.mono HB2.out.size))
    clear hT3 hb3 HT2
    go_wp2_with fail
    refine (HLm.out _ (hE.out.kept HB3.out)).mono ?_
    rintro e w4 ⟨A4, c4, rfl, hT4, hc4, hb4⟩
    have HT4 := hide hT4
    have HT2c := hide (HT2b.out.below hb4)
    have HT3b := hide (HT3.out.below hb4)
    have HB4 := hide (HB3.out.trans (hb4.mono HB3.out.size))
    clear hT4 hb4 HT2b HT3
    go_wp2_with fail
    go_ret
    exact ⟨rfl, HB4.out⟩
  · have HLm := hide (fun (w : World) (hE : Env w) => lex_at2 (a ++ ⟨#[10]⟩ ++ b) [] 0 (pb + a.size + 1) eb rfl hm w hE)
    have ec : (((pb + a.size + 1 : Nat) : Int)) = (pb : Int) + (a.size : Int) + 1 := by omega
    rw [ec] at HLm
    have x1 : ((eb : Int) != 0) = true := by simp; omega
    clear he hm ec
    go_enter Tryd.func8, Tryd.ntmps8
    go_wp2_with fail
    refine HA.out.mono ?_
    rintro e w1 ⟨rfl, hb1⟩
    have HB1 := hide hb1
    clear hb1
    go_wp2_with fail
    refine (HLa.out _ (hE.out.kept HB1.out)).mono ?_
    rintro e w2 ⟨A2, c2, rfl, hT2, hc2, hb2⟩
    have HT2 := hide hT2
    have HB2 := hide (HB1.out.trans (hb2.mono HB1.out.size))
    clear hT2 hb2
    go_wp2_with fail
    refine (HLb.out _ (hE.out.kept HB2.out)).mono ?_
    rintro e w3 ⟨A3, c3, rfl, hT3, hc3, hb3⟩
    have HT3 := hide hT3
    have HT2b := hide (HT2.out.below hb3)
    have HB3 := hide (HB2.out.trans (hb3.mono HB2.out.size))
    clear hT3 hb3 HT2
    go_wp2_with fail
    refine (HLm.out _ (hE.out.kept HB3.out)).mono ?_
    rintro e w4 ⟨A4, c4, rfl, hT4, hc4, hb4⟩
    have HT4 := hide hT4
    have HT2c := hide (HT2b.out.below hb4)
    have HT3b := hide (HT3.out.below hb4)
    have HB4 := hide (HB3.out.trans (hb4.mono HB3.out.size))
    clear hT4 hb4 HT2b HT3
    go_wp2_with fail
    go_ret
    exact ⟨rfl, HB4.out⟩
set_option maxRecDepth 100000 in
set_option maxHeartbeats 4000000 in
theorem splits_fine (a b : ByteArray) (w : World) (ha : a.size ≤ 2000) (hb : b.size ≤ 2000) (la lb : List Tok) (na nb pb : Nat) (hna : la.length = na) (hnb : lb.length = nb) (hra : lexR a.data.toList = (la, 0, 0)) (hrb : lexR b.data.toList = (lb, pb, 0))
    (hm : lexR (a ++ ⟨#[10]⟩ ++ b).data.toList = (la ++ lb.map (shiftT (a.size + 1)), 0, 0)) (hn1 : na ≤ 2000) (hn2 : nb ≤ 2000) (HAt : Hid (∀ t ∈ lb, t.at_ ≤ 2000)) (hE : Hid (Env w)) :
    Calls Tryd.prog 8 #[.string a, .string b] w fun e w' => e = .returned (.bool true) ∧ Below w.heap.size w w' := by
  have HA := hide (awake_any w hE)
  have HLa := hide (fun (w : World) (hE : Env w) => lex_at2 a la na 0 0 hna hra w hE)
  have HLb := hide (fun (w : World) (hE : Env w) => lex_at2 b lb nb pb 0 hnb hrb w hE)
  have hnm : (la ++ lb.map (shiftT (a.size + 1))).length = na + nb := by rw [List.length_append, List.length_map, hna, hnb]
  have HLm := hide (fun (w : World) (hE : Env w) => lex_at2 (a ++ ⟨#[10]⟩ ++ b) _ (na + nb) 0 0 hnm hm w hE)
  have HNa := hide (show (la.map Tok.toZ).length = na by simpa using hna)
  have HNb := hide (show (lb.map Tok.toZ).length = nb by simpa using hnb)
  have HNm := hide (show ((lb.map (shiftT (a.size + 1))).map Tok.toZ).length = nb by simpa using hnb)
  have HNs := hide (show (la.map Tok.toZ ++ (lb.map (shiftT (a.size + 1))).map Tok.toZ).length = na + nb by rw [List.length_append, HNa.out, HNm.out])
  have HAl1 := hide (alike_map (same_alike la))
  have HAl2 := hide (alike_map (shift_alike (a.size + 1) lb))
  have z1 : (a.size : Int) ≤ 2000 := by omega
  have z2 : (b.size : Int) ≤ 2000 := by omega
  have y1 : ¬ 9223372036854775807 < a.size + 1 := by omega
  have y2 : ¬ 9223372036854775807 < a.size + 1 + b.size := by omega
  have y3 : ¬ 9223372036854775807 ≤ a.size := by omega
  have y4 : ¬ 9223372036854775806 < a.size := by omega
  have hc1 : (((na + nb : Nat) : Int)) = (na : Int) + (nb : Int) := by omega
  clear hra hrb hna hnb hm hnm
  go_enter Tryd.func8, Tryd.ntmps8
  go_wp2_with fail
  refine HA.out.mono ?_
  rintro e w1 ⟨rfl, hb1⟩
  have HB1 := hide hb1
  clear hb1
  go_wp2_with fail
  refine (HLa.out _ (hE.out.kept HB1.out)).mono ?_
  rintro e w2 ⟨A2, c2, rfl, hT2, hc2, hb2⟩
  have HT2 := hide hT2
  have HB2 := hide (HB1.out.trans (hb2.mono HB1.out.size))
  clear hT2 hb2
  go_wp2_with fail
  refine (HLb.out _ (hE.out.kept HB2.out)).mono ?_
  rintro e w3 ⟨A3, c3, rfl, hT3, hc3, hb3⟩
  have HT3 := hide hT3
  have HT2b := hide (HT2.out.below hb3)
  have HB3 := hide (HB2.out.trans (hb3.mono HB2.out.size))
  clear hT3 hb3 HT2
  go_wp2_with fail
  refine (HLm.out _ (hE.out.kept HB3.out)).mono ?_
  rintro e w4 ⟨A4, c4, rfl, hT4, hc4, hb4⟩
  have HT4 := hide hT4
  have HT2c := hide (HT2b.out.below hb4)
  have HT3b := hide (HT3.out.below hb4)
  have HB4 := hide (HB3.out.trans (hb4.mono HB3.out.size))
  clear hT4 hb4 HT2b HT3
  rw [List.map_append] at HT4
  have HTk := hide HT4.out.take
  have HDr := hide (HT4.out.cut HNa.out HNm.out hc4)
  go_wp2_with fail
  refine (alike_yes A4 A2 na c4 c2 _ _ _ HNa HNa (by omega) HTk HT2c HAl1).mono ?_
  rintro e w5 ⟨rfl, hb5⟩
  have HT3c := hide (HT3b.out.below hb5)
  have HT2d := hide (HT2c.out.below hb5)
  have HDr2 := hide (HDr.out.below hb5)
  have HT5 := hide (HT4.out.below hb5)
  have HB5 := hide (HB4.out.trans (hb5.mono HB4.out.size))
  clear hb5 HTk HDr HT4 HT3b HT2c
  have hcc : (c4 = na ∧ nb = 0) ∨ ¬ c4 = na := by omega
  rcases hcc with ⟨h1, h2⟩ | h1
  case' inl => have HD : Hid (TRows .u8 w5 A4 (List.map Tok.toZ (List.map (shiftT (a.size + 1)) lb))) := hide (.inl (List.eq_nil_of_length_eq_zero (by rw [HNm.out]; exact h2)))
  case' inr =>
    have HD := HDr2
    rw [if_neg h1] at HD
  all_goals
    clear HDr2
    try clear h2
    go_wp2_with fail
    refine (alike_yes _ A3 nb _ c3 _ _ _ HNm HNb (by omega) HD HT3c HAl2).mono ?_
    rintro e w6 ⟨rfl, hb6⟩
    have HT3d := hide (HT3c.out.below hb6)
    have HT2e := hide (HT2d.out.below hb6)
    have HT6 := hide (HT5.out.below hb6)
    have HB6 := hide (HB5.out.trans (hb6.mono HB5.out.size))
    clear hb6 HD HT3c HT2d HT5 h1
    go_wp2_with fail
    go_loopw [14] (fun v14 wr => ∃ i : Nat, i ≤ na + nb ∧ v14 = .int .i64 i ∧ Below w6.heap.size w6 wr) (fun v14 _ => na + nb - (intOf v14).toNat)
    case atStart => exact ⟨0, by omega, rfl, Below.refl _ _⟩
    case round =>
      obtain ⟨i, hi, rfl, hbr⟩ := hrel
      have HBR := hide hbr
      have hz := hbr.size
      clear hbr
      have i0 : (0 : Int) ≤ (i : Int) := by omega
      by_cases hlt : i < na + nb
      case neg =>
        have hd : decide ((i : Int) < (na : Int) + (nb : Int)) = false := by simp; omega
        go_wp2_with fail
        go_ret
        exact ⟨rfl, HB6.out.trans (HBR.out.mono HB6.out.size)⟩
      case pos =>
        have i1 : (i : Int) < (na : Int) + (nb : Int) := by omega
        obtain ⟨ob, off, t, rfl, hbb, ht, q0, q1, q2⟩ := trow_at HNs HT6 HBR.out hlt
        have l1 : ob < wr.heap.size := by omega
        by_cases hin : i < na
        · obtain ⟨ob', off', u, rfl, hbb', hu, r0, r1, r2⟩ := trow_at HNa HT2e HBR.out hin
          have l2 : ob' < wr.heap.size := by omega
          have e := ht.out
          rw [List.getElem?_append_left (by rw [HNa.out]; exact hin), hu.out] at e
          cases e
          have hge : decide (na ≤ i) = false := by simp; omega
          have i2 : (i : Int) < (na : Int) := by omega
          go_wp2_with fail
          go_quiet (fail)
          go_wp2_with fail
          go_roundw
          case rel => exact ⟨i + 1, by omega, by go_num, below_drewN HBR.out _⟩
          case measure => simp [intOf]; omega
        · obtain ⟨j, hj⟩ : ∃ j, i = na + j := ⟨i - na, by omega⟩
          have hjn : j < nb := by omega
          obtain ⟨ob', off', u, rfl, hbb', hu, r0, r1, r2⟩ := trow_at HNb HT3d HBR.out hjn
          have l2 : ob' < wr.heap.size := by omega
          have e := ht.out
          rw [List.getElem?_append_right (by rw [HNa.out]; omega), HNa.out, show i - na = j from by omega, List.getElem?_map, List.getElem?_map] at e
          have e2 := hu.out
          rw [List.getElem?_map] at e2
          obtain ⟨x, hx, rfl⟩ := Option.map_eq_some_iff.1 e2
          rw [hx] at e
          simp only [Option.map_some, Option.some.injEq] at e
          subst e
          have hxa := HAt.out x (List.mem_of_getElem? hx)
          obtain ⟨xk, xt, xa⟩ := x
          simp only [Tok.toZ, shiftT] at q0 q1 q2 r0 r1 r2 hxa
          have ec : ((xa + (a.size + 1) : Nat) : Int) = (xa : Int) + (a.size : Int) + 1 := by omega
          rw [ec] at q2
          have hlt' : decide (i < na) = false := by simp; omega
          have hge : na ≤ i := by omega
          have s1 : IntKind.i64.wrap ((i : Int) - (na : Int)) = (j : Int) := by rw [show (i : Int) - (na : Int) = (j : Int) from by omega]; exact IntWalk.i64_in _ (by omega)
          have s2 : IntKind.i64.wrap ((xa : Int) + (a.size : Int)) = (xa : Int) + (a.size : Int) := IntWalk.i64_in _ (by omega)
          have s3 : IntKind.i64.wrap ((xa : Int) + (a.size : Int) + 1) = (xa : Int) + (a.size : Int) + 1 := IntWalk.i64_in _ (by omega)
          have j0 : (0 : Int) ≤ (j : Int) := by omega
          have j1 : (j : Int) < (nb : Int) := by omega
          clear hj ec e2 hx
          go_wp2_with fail
          refine wp_region_quiet_lit (by kernel_rfl) (by kernel_rfl) ?_
          iterate 43 (go_big_quiet_step (fail))
          refine wpQuiet_nil ?_
          intro _ hw'
          obtain ⟨nq, hw''⟩ := hw'
          subst hw''
          clear s1 s2 s3
          go_wp2_with fail
          go_roundw
          case rel => exact ⟨i + 1, by omega, by go_num, below_drewN HBR.out _⟩
          case measure => simp [intOf]; omega
set_option maxRecDepth 100000 in
set_option maxHeartbeats 1000000 in
theorem splits_any (a b : ByteArray) (w : World) (hE : Hid (Env w)) :
    Calls Tryd.prog 8 #[.string a, .string b] w fun e w' => e = .returned (.bool true) ∧ Below w.heap.size w w' := by
  by_cases hl : a.size ≤ 2000 ∧ b.size ≤ 2000
  · obtain ⟨ha, hb⟩ := hl
    have hla : a.data.toList.length = a.size := by simp
    have hlb : b.data.toList.length = b.size := by simp
    obtain ⟨⟨la, pa, ea⟩, hra⟩ : ∃ q, lexR a.data.toList = q := ⟨_, rfl⟩
    obtain ⟨⟨lb, pb, eb⟩, hrb⟩ : ∃ q, lexR b.data.toList = q := ⟨_, rfl⟩
    obtain ⟨s1, s2, s3⟩ := splits a.data.toList b.data.toList (by omega) (by omega) hra hrb
    have oka := lex_ok a.data.toList
    have okb := lex_ok b.data.toList
    have hca := oka.count.2
    have hcb := okb.count.2
    have hpb := okb.at_.2
    have htb := okb.texts
    rw [hra] at hca
    rw [hrb] at hcb hpb htb
    simp only at hca hcb hpb htb
    rw [← lines_list a b, hla] at s2 s3
    rw [← lines_list a b] at s1
    by_cases he : ea = 0
    · by_cases he2 : eb = 0
      · subst he he2
        obtain ⟨t1, t2⟩ := s3 rfl rfl
        subst t2
        exact splits_fine a b w ha hb la lb la.length lb.length pb rfl rfl hra hrb t1 (by omega) (by omega) (hide fun t ht => by have := (htb t ht).2.2.2; omega) hE
      · exact splits_bad a b w ha hb la lb la.length lb.length pa ea pb eb rfl rfl hra hrb (.inr ⟨he, he2, s2 he he2⟩) (by omega) hE
    · exact splits_bad a b w ha hb la lb la.length lb.length pa ea pb eb rfl rfl hra hrb (.inl ⟨he, s1 he⟩) (by omega) hE
  · have HA := hide (awake_any w hE)
    have hcases : (2000 : Int) < (a.size : Int) ∨ ((a.size : Int) ≤ 2000 ∧ (2000 : Int) < (b.size : Int)) := by omega
    rcases hcases with h | ⟨h, h2⟩
    all_goals
      go_enter Tryd.func8, Tryd.ntmps8
      go_wp2_with fail
      refine HA.out.mono ?_
      rintro e w1 ⟨rfl, hb1⟩
      have HB1 := hide hb1
      clear hb1
      go_wp2_with fail
      go_ret
      exact ⟨rfl, HB1.out⟩
end Go.Proofs.YtnpadhjjkoiihaaDoor
