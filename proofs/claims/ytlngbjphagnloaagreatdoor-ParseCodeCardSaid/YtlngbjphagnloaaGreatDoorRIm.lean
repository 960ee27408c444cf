/-
  parse: the reference's fail, sees, is, must, num.
-/
import Derived.Test.YtlngbjphagnloaaGreatDoorRIn
namespace Go.Proofs.YtlngbjphagnloaaGreatDoor
open Go.RowKit
attribute [local go_sem] Later.cell
/-- A cell of the state's block is set. -/
theorem RIn.set {rb o : Nat} {ts : List Tok} {s s' : InS} {w : World} {z : Int} (h : RIn rb ts s w) (ho : 1 ≤ o) (h1 : ∃ j, j ≤ ts.length ∧ s'.r = ts.drop j ∧ (if o = 1 then z = (j : Int) else s'.r = s.r)) (h2 : if o = 2 then z = (s'.size : Int) else s'.size = s.size) (h3 : if o = 3 then z = (s'.at_ : Int) else s'.at_ = s.at_) (h4 : if o = 4 then z = (s'.err : Int) else s'.err = s.err) :
    RIn rb ts s' (w.setCell ⟨rb, o, none⟩ (.int .i64 z)) := by
  have same : ∀ {u : Value}, w.cell? ⟨rb, o, none⟩ = some u → (w.setCell ⟨rb, o, none⟩ (.int .i64 z)).cell? ⟨rb, o, none⟩ = some (.int .i64 z) := fun e => World.cell?_setCell_same w _ _ e
  have other : ∀ k, k ≠ o → (w.setCell ⟨rb, o, none⟩ (.int .i64 z)).cell? ⟨rb, k, none⟩ = w.cell? ⟨rb, k, none⟩ := fun k hk => World.cell?_setCell_other w _ _ _ (fun e => hk (by injection e with _ e _; exact e.symm))
  obtain ⟨A, c, g0, gr, gA⟩ := h.toks
  obtain ⟨j0, _, gd, g1⟩ := h.now
  obtain ⟨j, hj, hd, h1⟩ := h1
  refine ⟨by simpa using h.lt, ⟨A, c, (other 0 (by omega)).trans g0, ?_, gA⟩, ?_, ?_, ?_, ?_, fun k hk => by rw [World.frozen?_setCell]; exact h.free k hk⟩
  · rcases gr with gr | ⟨b, off, e, hlt, hc⟩
    · exact .inl gr
    · have hne : b ≠ rb := fun e2 => by have := gA _ e; simp at this; omega
      refine .inr ⟨b, off, e, by simpa using hlt, fun i t ht => ?_⟩
      obtain ⟨p0, p1, p2⟩ := hc i t ht
      have far : ∀ k, (w.setCell ⟨rb, o, none⟩ (.int .i64 z)).cell? ⟨b, k, none⟩ = w.cell? ⟨b, k, none⟩ := fun k => World.cell?_setCell_other w _ _ _ (fun e => hne (by injection e with e _ _; exact e.symm))
      exact ⟨(far _).trans p0, (far _).trans p1, (far _).trans p2⟩
  · by_cases ho1 : o = 1
    · subst ho1
      rw [if_pos rfl] at h1
      exact ⟨j, hj, hd, by rw [← h1]; exact same g1⟩
    · rw [if_neg ho1] at h1
      obtain ⟨j0, hj0, gd, g1⟩ := h.now
      exact ⟨j0, hj0, h1.trans gd, (other 1 (fun e => ho1 e.symm)).trans g1⟩
  · by_cases ho2 : o = 2
    · subst ho2; rw [if_pos rfl] at h2; rw [← h2]; exact same h.size
    · rw [if_neg ho2] at h2; rw [h2]; exact (other 2 (fun e => ho2 e.symm)).trans h.size
  · by_cases ho3 : o = 3
    · subst ho3; rw [if_pos rfl] at h3; rw [← h3]; exact same h.at_
    · rw [if_neg ho3] at h3; rw [h3]; exact (other 3 (fun e => ho3 e.symm)).trans h.at_
  · by_cases ho4 : o = 4
    · subst ho4; rw [if_pos rfl] at h4; rw [← h4]; exact same h.err
    · rw [if_neg ho4] at h4; rw [h4]; exact (other 4 (fun e => ho4 e.symm)).trans h.err
theorem rtok_field (a b c : Value) (w : World) : (Instr.field 192 (.agg #[a, b, c]) 2).run Tryz.prog w = .ok c w ∧ (Instr.field 192 (.agg #[a, b, c]) 1).run Tryz.prog w = .ok b w ∧ (Instr.field 192 (.agg #[a, b, c]) 0).run Tryz.prog w = .ok a w := ⟨by kernel_rfl, by kernel_rfl, by kernel_rfl⟩
theorem kept_of {F : Nat → Prop} {w w' : World} (h : Below w.heap.size w w') : Kept F w w' := ⟨h.os, h.tape, h.output, h.size, fun k hk _ => h.block k hk⟩
set_option maxRecDepth 100000 in
set_option maxHeartbeats 1000000 in
theorem rfail_any (rb er : Nat) (ts : List Tok) (s : InS) (W : World) (H : Hid (RIn rb ts s W)) (hts : ts.length ≤ 1000000)  :
    Calls Tryz.prog 86 #[.pointer (some ⟨rb, 0, none⟩), .int .i64 (er : Int)] W fun e W' => e = .returned (.tuple #[]) ∧ RIn rb ts (failR er s).2 W' ∧ Kept (fun k => k = rb) W W' := by
  have h4 := H.out.err
  have hrb := H.out.lt
  by_cases he : s.err = 0
  · rw [he] at h4
    go_enter Tryz.func86, Tryz.ntmps86
    go_wp2_with fail
    refine (rhere_any rb ts s W H hts).mono ?_
    rintro e w1 ⟨rfl, hb⟩
    have H1 := H.out.below hb
    have c3 := H1.at_
    have f3 := H1.free 3 (by decide)
    have c4 := H1.err
    have f4 := H1.free 4 (by decide)
    have l1 := H1.lt
    have HH := hide H1
    have HB := hide hb
    clear hb H1
    unfold rtokVal
    have hfl := fun a b c w => (rtok_field a b c w).1
    have HF := hide (show (failR er s).2 = ⟨s.r, s.size, s.here.at_, er⟩ from if_pos he)
    have hj := H.out.now
    have HN := hide hj
    clear hj he h4
    go_wp2_with fail
    have hK := ((Kept.refl (fun k => k = rb) w1).setCell (p := ⟨rb, 3, none⟩) (.inl rfl) (.int .i64 (s.here.at_ : Int))).setCell (p := ⟨rb, 4, none⟩) (.inl rfl) (.int .i64 (er : Int))
    have hR : RIn rb ts ⟨s.r, s.size, s.here.at_, er⟩ ((w1.setCell ⟨rb, 3, none⟩ (.int .i64 (s.here.at_ : Int))).setCell ⟨rb, 4, none⟩ (.int .i64 (er : Int))) := by
      obtain ⟨j, hj, hd, _⟩ := HN.out
      exact (HH.out.set (o := 3) (s' := ⟨s.r, s.size, s.here.at_, s.err⟩) (by decide) ⟨j, hj, hd, rfl⟩ rfl rfl rfl).set (o := 4) (by decide) ⟨j, hj, hd, rfl⟩ rfl rfl rfl
    go_end0
    exact ⟨rfl, by rw [HF.out]; exact hR, (kept_of HB.out).trans hK⟩
  · have e1 : ((s.err : Int) == 0) = false := by simp; omega
    have HF := hide (show (failR er s).2 = s from if_neg he)
    clear he
    go_enter Tryz.func86, Tryz.ntmps86
    go_wp2_with fail
    go_end0
    exact ⟨rfl, by rw [HF.out]; exact H.out, Kept.refl _ _⟩
set_option maxRecDepth 100000 in
set_option maxHeartbeats 1000000 in
theorem rsees_any (rb : Nat) (x : ByteArray) (ts : List Tok) (s : InS) (W : World) (H : Hid (RIn rb ts s W)) (hts : ts.length ≤ 1000000) :
    Calls Tryz.prog 153 #[.pointer (some ⟨rb, 0, none⟩), .string x] W fun e W' => e = .returned (.bool (s.sees x.data.toList)) ∧ Below W.heap.size W W' := by
  have HH := hide (rhere_any rb ts s W H hts)
  obtain ⟨y, hy⟩ : ∃ y, x.data.toList = y := ⟨_, rfl⟩
  have hx : x = ⟨y.toArray⟩ := by rw [← hy]
  rw [hy]
  subst hx
  clear hy
  unfold InS.sees
  generalize s.here = t at *
  obtain ⟨tk, tx, ta⟩ := t
  have hc : ((tk : Int) == 1) = true ∧ (tk == 1) = true ∨ ((tk : Int) == 1) = false ∧ (tk == 1) = false ∧ (((tk : Int) == 3) = true ∧ (tk == 3) = true ∨ ((tk : Int) == 3) = false ∧ (tk == 3) = false) := by
    simp
    omega
  have ht : (tx == y) = true ∨ (tx == y) = false := by cases (tx == y) <;> simp
  dsimp only
  rcases hc with ⟨k1, k2⟩ | ⟨k1, k2, ⟨k3, k4⟩ | ⟨k3, k4⟩⟩ <;> rcases ht with ht | ht
  all_goals
    (try rw [k4])
    rw [k2, ht]
    unfold rtokVal at HH
    go_enter Tryz.func153, Tryz.ntmps153
    go_wp2_with fail
    refine HH.out.mono ?_
    rintro e w1 ⟨rfl, hb⟩
    have HB := hide hb
    clear hb
    go_wp2_with fail
    (try go_quiet (fail))
    (try go_wp2_with fail)
    go_ret
    exact ⟨rfl, (HB.out.alloc HB.out.size _)⟩
/-- A token is consumed. -/
theorem RIn.step {rb : Nat} {ts : List Tok} {s : InS} {w : World} (h : RIn rb ts s w) (hr : s.r ≠ []) : ∃ j : Nat, j < ts.length ∧ w.cell? ⟨rb, 1, none⟩ = some (.int .i64 (j : Int)) ∧ RIn rb ts s.step (w.setCell ⟨rb, 1, none⟩ (.int .i64 ((j : Int) + 1))) := by
  obtain ⟨j, hj, hd, h1⟩ := h.now
  have hlt : j < ts.length := by
    rcases Nat.lt_or_ge j ts.length with h | h
    · exact h
    · rw [List.drop_eq_nil_of_le h] at hd
      exact absurd hd hr
  exact ⟨j, hlt, h1, h.set (o := 1) (by decide) ⟨j + 1, by omega, by show s.r.tail = _; rw [hd]; simp, by simp⟩ rfl rfl rfl⟩
theorem sees_some {s : InS} {t : List UInt8} (h : s.sees t = true) : s.r ≠ [] := fun e => by
  unfold InS.sees InS.here at h
  rw [e] at h
  split at h <;> simp at h
set_option maxRecDepth 100000 in
set_option maxHeartbeats 1000000 in
theorem ris_any (rb : Nat) (x : ByteArray) (ts : List Tok) (s : InS) (W : World) (H : Hid (RIn rb ts s W)) (hts : ts.length ≤ 1000000) :
    Calls Tryz.prog 125 #[.pointer (some ⟨rb, 0, none⟩), .string x] W fun e W' => e = .returned (.bool (isR x.data.toList s).1) ∧ RIn rb ts (isR x.data.toList s).2 W' ∧ Kept (fun k => k = rb) W W' := by
  have HS := hide (rsees_any rb x ts s W H hts)
  have hrb := H.out.lt
  cases hs : s.sees x.data.toList with
  | true =>
    have HI := hide (show isR x.data.toList s = (true, s.step) from if_pos hs)
    rw [hs] at HS
    rw [HI.out]
    have HN := hide (sees_some hs)
    clear hs
    go_enter Tryz.func125, Tryz.ntmps125
    go_wp2_with fail
    refine HS.out.mono ?_
    rintro e w1 ⟨rfl, hb⟩
    obtain ⟨j, hj, c1, hR⟩ := (H.out.below hb).step HN.out
    have f1 := (H.out.below hb).free 1 (by decide)
    have l1 := (H.out.below hb).lt
    have HB := hide hb
    have HR := hide hR
    clear hb hR
    go_wp2_with fail
    go_ret
    exact ⟨rfl, HR.out, (kept_of HB.out).trans ((Kept.refl (fun k => k = rb) w1).setCell (p := ⟨rb, 1, none⟩) (.inl rfl) _)⟩
  | false =>
    have HI := hide (show isR x.data.toList s = (false, s) from if_neg (by rw [hs]; decide))
    rw [hs] at HS
    rw [HI.out]
    clear hs
    go_enter Tryz.func125, Tryz.ntmps125
    go_wp2_with fail
    refine HS.out.mono ?_
    rintro e w1 ⟨rfl, hb⟩
    have HB := hide hb
    clear hb
    go_wp2_with fail
    go_ret
    exact ⟨rfl, H.out.below HB.out, kept_of HB.out⟩
set_option maxRecDepth 100000 in
set_option maxHeartbeats 1000000 in
theorem rmust_any (rb : Nat) (x : ByteArray) (ts : List Tok) (s : InS) (W : World) (H : Hid (RIn rb ts s W)) (hts : ts.length ≤ 1000000) :
    Calls Tryz.prog 124 #[.pointer (some ⟨rb, 0, none⟩), .string x] W fun e W' => e = .returned (.tuple #[]) ∧ RIn rb ts (mustR x.data.toList s).2 W' ∧ Kept (fun k => k = rb) W W' := by
  have HS := hide (ris_any rb x ts s W H hts)
  cases hs : s.sees x.data.toList with
  | true =>
    have HI := hide (show isR x.data.toList s = (true, s.step) from if_pos hs)
    have HM := hide (show mustR x.data.toList s = ((), s.step) from if_pos hs)
    rw [HI.out] at HS
    rw [HM.out]
    clear hs
    go_enter Tryz.func124, Tryz.ntmps124
    go_wp2_with fail
    refine HS.out.mono ?_
    rintro e w1 ⟨rfl, h1, h2⟩
    have H1 := hide h1
    have H2 := hide h2
    clear h1 h2
    go_wp2_with fail
    go_end0
    exact ⟨rfl, H1.out, H2.out⟩
  | false =>
    have HI := hide (show isR x.data.toList s = (false, s) from if_neg (by rw [hs]; decide))
    have HM := hide (show mustR x.data.toList s = failR 80 s from if_neg (by rw [hs]; decide))
    rw [HI.out] at HS
    rw [HM.out]
    clear hs
    go_enter Tryz.func124, Tryz.ntmps124
    go_wp2_with fail
    refine HS.out.mono ?_
    rintro e w1 ⟨rfl, h1, h2⟩
    have H1 := hide h1
    have H2 := hide h2
    clear h1 h2
    go_wp2_with fail
    refine (rfail_any rb 80 ts s w1 H1 hts).mono ?_
    rintro e w2 ⟨rfl, h1, h2⟩
    have H3 := hide h1
    have H4 := hide h2
    clear h1 h2
    go_wp2_with fail
    go_end0
    exact ⟨rfl, H3.out, H2.out.trans H4.out⟩
end Go.Proofs.YtlngbjphagnloaaGreatDoor
