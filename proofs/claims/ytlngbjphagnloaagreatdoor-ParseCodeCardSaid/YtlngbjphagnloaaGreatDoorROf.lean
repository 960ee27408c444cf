/-
  parse: the reference's Of and Code.
-/
import Derived.Test.YtlngbjphagnloaaGreatDoorRCd
import Derived.Test.YtlngbjphagnloaaGreatDoorParRC
import Derived.Test.YtlngbjphagnloaaGreatDoorRLex
import Derived.Test.YtlngbjphagnloaaGreatDoorPk27
namespace Go.Proofs.YtlngbjphagnloaaGreatDoor
open Go.RowKit
attribute [local go_sem] Later.cell
theorem numok_of {ts : List Tok} (h : TokOk ts) : NumOk ts := fun t ht hk => ⟨(h.good t ht hk).1, by
  have := (h.good t ht hk).1
  cases hx : t.text with
  | nil => rw [hx] at this; simp [numB] at this
  | cons b r => simp, h.size t ht⟩
set_option maxRecDepth 100000 in
set_option maxHeartbeats 1000000 in
theorem rof_any (src : ByteArray) (W : World) : Calls Tryz.prog 84 #[.string src] W fun e W' => ∃ rb, e = .returned (.pointer (some ⟨rb, 0, none⟩)) ∧ W.heap.size ≤ rb ∧ Below W.heap.size W W' ∧ RIn rb (lexR src.data.toList).1 (refStart (lexR src.data.toList) src.size) W' := by
  have hl := rlex_any src W
  unfold RLexR at hl
  unfold refStart
  generalize lexR src.data.toList = x at *
  obtain ⟨ts, p, er⟩ := x
  dsimp only at hl ⊢
  have HL := hide hl
  clear hl
  go_enter Tryz.func84, Tryz.ntmps84
  go_wp2_with fail
  refine HL.out.mono ?_
  rintro e w1 ⟨v, rfl, ho, hb⟩
  obtain ⟨A, c, rfl, hT⟩ := trows_own ho (by simp)
  have hA : ∀ a, A = some a → a.block < w1.heap.size := fun a ha => (own_lt ho (by rw [ha]; rfl)).2
  have HX := hide (heap_alloc_new w1 (.cells #[.slice A ts.length c, .int .i64 0, .int .i64 (src.size : Int), .int .i64 (p : Int), .int .i64 (er : Int)] 158))
  have hba := (Below.refl w1.heap.size w1).alloc (Nat.le_refl _) (.cells #[.slice A ts.length c, .int .i64 0, .int .i64 (src.size : Int), .int .i64 (p : Int), .int .i64 (er : Int)] 158)
  have HB := hide (hb.trans (hba.mono hb.size))
  have HR := hide (show RIn w1.heap.size ts ⟨ts, src.size, p, er⟩ (w1.alloc (.cells #[.slice A ts.length c, .int .i64 0, .int .i64 (src.size : Int), .int .i64 (p : Int), .int .i64 (er : Int)] 158)) from by
    obtain ⟨c0, c1, c2, c3, c4, f0, f1, f2, f3, f4⟩ := row5 HX.out rfl
    refine ⟨by simp, ⟨A, c, c0, hT.below hba, hA⟩, ⟨0, Nat.zero_le _, rfl, c1⟩, c2, c3, c4, fun o ho => frozen_of_row _ _ o _ _ HX.out⟩)
  have hsz := hb.size
  clear ho hT hA hb hba HX
  go_wp2_with fail
  go_ret
  exact ⟨_, rfl, hsz, HB.out, HR.out⟩
set_option maxRecDepth 100000 in
set_option maxHeartbeats 1000000 in
theorem rcodeall_any (src : ByteArray) (W : World) : Calls Tryz.prog 52 #[.string src] W (CodeR W src) := by
  obtain ⟨hok, hfew⟩ := tokok_lex src.data.toList
  have HT := hide (numok_of hok)
  have hts : (lexR src.data.toList).1.length ≤ 1000000 := by omega
  have hrc := ref_code (lexR src.data.toList) src.size
  have HOF := hide (rof_any src W)
  unfold refCode at hrc
  obtain ⟨⟨l, s1⟩, h1⟩ : ∃ p, codeR (refStart (lexR src.data.toList) src.size) = p := ⟨_, rfl⟩
  rw [h1] at hrc
  dsimp only at hrc
  unfold CodeR
  generalize codeT (lexR src.data.toList) src.size = R at *
  generalize refStart (lexR src.data.toList) src.size = s at *
  generalize (lexR src.data.toList).1 = ts at *
  clear hok hfew
  have H1 := hide h1
  replace hrc := hide hrc
  go_enter Tryz.func52, Tryz.ntmps52
  go_wp2_with fail
  refine HOF.out.mono ?_
  clear HOF
  rintro e w1 ⟨rb, rfl, hrb, hb, hr⟩
  have HB := hide hb
  have HC := hide (rcode_any rb ts s w1 (hide hr) hts HT)
  have hlt := hr.lt
  have hsz := hb.size
  rw [H1.out] at HC
  dsimp only at HC
  clear hb hr
  go_wp2_with fail
  refine HC.out.mono ?_
  clear HC
  rintro e w2 ⟨v, rfl, hr, hk, ho⟩
  obtain ⟨A, q, rfl⟩ := own_form ho
  have HB := hide (HB.out.trans (hk.below HB.out.size (fun i hi e => by omega)))
  have HR := hide hr
  have HO0 := hide ho
  clear hr hk ho H1
  obtain ⟨B, cc, c0, -, -⟩ := HR.out.toks
  obtain ⟨j, hj, hd, c1⟩ := HR.out.now
  have l1 := HR.out.lt
  by_cases hjs : j < ts.length
  · have he : s1.r.isEmpty = false := by
      rw [hd]
      cases h : ts.drop j with
      | nil => have := congrArg List.length h; simp at this; omega
      | cons t r => rfl
    have hrd := hrc.out
    simp only [he, Bool.false_eq_true, if_false] at hrd
    have HRC := hide hrd
    clear hrd
    have k1 : decide (j < ts.length) = true := by simp; exact hjs
    clear hrc hd he
    go_wp2_with fail
    go_quiet (fail)
    go_wp2_with fail
    refine (rfail_any rb 80 ts s1 _ (hide (HR.out.kept ((Kept.refl (fun _ => False) w2).drewN _) (fun _ _ => not_false))) hts).mono ?_
    rintro e w3 ⟨rfl, hr, hk⟩
    have hk2 : Kept (fun k => k = rb) w2 w3 := ((Kept.refl (fun k => k = rb) w2).drewN _).trans hk
    have HB := hide (HB.out.trans (hk2.below HB.out.size (fun i hi e => by omega)))
    have HO := hide (own_base (own_keep HO0.out (fun g hg hb => hk2.block g (own_lt HO0.out hg).2 (by omega))) hsz)
    have HR := hide hr
    clear hr hk hk2 c0 c1 l1 k1
    generalize (failR 80 s1).2 = s2 at *
    have c3 := HR.out.at_
    have c4 := HR.out.err
    have l4 := HR.out.lt
    by_cases h0 : s2.err = 0
    · have e0 := HRC.out
      rw [if_pos h0] at e0
      have E0 := hide e0
      rw [h0] at c4
      clear e0 h0 c3
      go_wp2_with fail
      refine bodyPost_ret (v := .tuple #[.slice A l.length q, .int .i64 0, .int .i64 0]) (by simp [results, Tryz.results52, go_sem]) rfl ?_
      exact ⟨.slice A l.length q, by rw [← E0.out]; rfl, HB.out, by rw [← E0.out]; exact HO.out⟩
    · have e0 := HRC.out
      rw [if_neg h0] at e0
      have E0 := hide e0
      have e1 : ((s2.err : Int) != 0) = true := by simp; omega
      clear e0 h0
      go_wp2_with fail
      go_quiet (fail)
      go_wp2_with fail
      refine bodyPost_ret (v := .tuple #[.slice none 0 0, .int .i64 (s2.at_ : Int), .int .i64 (s2.err : Int)]) (by simp [results, Tryz.results52, go_sem]) rfl ?_
      exact ⟨.slice none 0 0, by rw [← E0.out], HB.out.trans (((Kept.refl (fun _ => False) w3).drewN _).below HB.out.size (fun _ _ => not_false)), by rw [← E0.out]; exact World.ownsRow_nil _ _ _ _⟩
  · have he : s1.r.isEmpty = true := by rw [hd, List.drop_eq_nil_of_le (by omega)]; rfl
    have hrd := hrc.out
    simp only [he, if_true] at hrd
    have HRC := hide hrd
    clear hrd
    have k1 : decide (j < ts.length) = false := by simp; omega
    have HO := hide (own_base HO0.out hsz)
    clear hrc hd he
    go_wp2_with fail
    go_quiet (fail)
    rename_i nq
    have HR := hide (HR.out.kept ((Kept.refl (fun _ => False) w2).drewN nq) (fun _ _ => not_false))
    have HB := hide (HB.out.trans (((Kept.refl (fun _ => False) w2).drewN nq).below HB.out.size (fun _ _ => not_false)))
    have HO := hide (show (w2.drewN nq).ownsRow _ _ _ _ _ _ from HO.out)
    clear c0 c1 l1 k1
    obtain ⟨s2, rfl⟩ : ∃ s2, s2 = s1 := ⟨_, rfl⟩
    generalize w2.drewN nq = w3 at *
    have c3 := HR.out.at_
    have c4 := HR.out.err
    have l4 := HR.out.lt
    by_cases h0 : s2.err = 0
    · have e0 := HRC.out
      rw [if_pos h0] at e0
      have E0 := hide e0
      rw [h0] at c4
      clear e0 h0 c3
      go_wp2_with fail
      refine bodyPost_ret (v := .tuple #[.slice A l.length q, .int .i64 0, .int .i64 0]) (by simp [results, Tryz.results52, go_sem]) rfl ?_
      exact ⟨.slice A l.length q, by rw [← E0.out]; rfl, HB.out, by rw [← E0.out]; exact HO.out⟩
    · have e0 := HRC.out
      rw [if_neg h0] at e0
      have E0 := hide e0
      have e1 : ((s2.err : Int) != 0) = true := by simp; omega
      clear e0 h0
      go_wp2_with fail
      go_quiet (fail)
      go_wp2_with fail
      refine bodyPost_ret (v := .tuple #[.slice none 0 0, .int .i64 (s2.at_ : Int), .int .i64 (s2.err : Int)]) (by simp [results, Tryz.results52, go_sem]) rfl ?_
      exact ⟨.slice none 0 0, by rw [← E0.out], HB.out.trans (((Kept.refl (fun _ => False) w3).drewN _).below HB.out.size (fun _ _ => not_false)), by rw [← E0.out]; exact World.ownsRow_nil _ _ _ _⟩
end Go.Proofs.YtlngbjphagnloaaGreatDoor
