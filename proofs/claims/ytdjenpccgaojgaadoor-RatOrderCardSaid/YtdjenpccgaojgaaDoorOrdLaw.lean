/-
  RatOrder holds, and its tied card: Cmp is a total order that agrees with the sign of the difference; adding the same number to both sides keeps it. No condition beyond the listed variables, which the card ties to the program's text.
-/
import Derived.Test.YtdjenpccgaojgaaDoorOrd2
import Derived.Test.YtdjenpccgaojgaaDoorOpenRat
namespace Go.Proofs.YtdjenpccgaojgaaDoor
open Go.ChangeShapes Go.WideShapes Go.ChangeAt Go.RowKit Go.Joins
open Go.WideMaps Go.WideElems
theorem ord_main (n m k d e f : Int) (w : World) (n0 : -32768 ≤ n) (n1 : n ≤ 32767) (m0 : -32768 ≤ m) (m1 : m ≤ 32767) (k0 : -32768 ≤ k) (k1 : k ≤ 32767) (d0 : 0 ≤ d) (d1 : d ≤ 255) (e0 : 0 ≤ e) (e1 : e ≤ 255) (f0 : 0 ≤ f) (f1 : f ≤ 255) (hE : Hid (Env w)) :
    Calls Tryd.prog 5 #[.int .i16 n, .int .i16 m, .int .i16 k, .int .u8 d, .int .u8 e, .int .u8 f] w fun e w' => e = .returned (.bool true) ∧ Below w.heap.size w w' := by
  obtain ⟨x1, x2, hx, sx⟩ := some_val n d d0
  obtain ⟨y1, y2, hy, sy⟩ := some_val m e e0
  obtain ⟨z1, z2, hz, sz⟩ := some_val k f f0
  obtain ⟨s1, s2, hs, oks, cs⟩ := sub_val sx sy
  obtain ⟨a1, a2, ha, oka, va⟩ := add_val sx sz
  obtain ⟨b1, b2, hb, okb, vb⟩ := add_val sy sz
  have HS1 := hide (fun w => some_any n d x1 x2 w n0 n1 d0 d1 hx)
  have HS2 := hide (fun w => some_any m e y1 y2 w m0 m1 e0 e1 hy)
  have HS3 := hide (fun w => some_any k f z1 z2 w k0 k1 f0 f1 hz)
  have HC1 := hide (fun w => cmp_ok x1 x2 y1 y2 w sx.ok sy.ok)
  have HC2 := hide (fun w => cmp_ok y1 y2 x1 x2 w sy.ok sx.ok)
  have HC5 := hide (fun w => cmp_ok y1 y2 z1 z2 w sy.ok sz.ok)
  have HC6 := hide (fun w => cmp_ok x1 x2 z1 z2 w sx.ok sz.ok)
  have HC3 := hide (fun w => cmp_ok s1 s2 0 1 w oks (hide (show okB 0 1 = true by decide +kernel)))
  have HC4 := hide (fun w => cmp_ok a1 a2 b1 b2 w oka okb)
  rw [cs] at HC3
  rw [add_cmp sx.d1 sy.d1 sz.d1 (okB_bd oka).1 (okB_bd okb).1 va vb] at HC4
  rw [sgn_flip (x1 * y2)] at HC2
  have HO1 := hide (fun w => op_1 x1 x2 y1 y2 w)
  have HO2 := hide (fun w => op_0 x1 x2 z1 z2 w)
  have HO3 := hide (fun w => op_0 y1 y2 z1 z2 w)
  rw [hs] at HO1
  rw [ha] at HO2
  rw [hb] at HO3
  have hne : x1 * y2 ≠ y1 * x2 → ((x1 == y1) && (x2 == y2)) = false := by
    intro h
    by_cases h1 : x1 = y1
    · by_cases h2 : x2 = y2
      · subst h1 h2; exact absurd rfl h
      · simp [h2]
    · simp [h1]
  rcases sgn_cases (x1 * y2) (y1 * x2) with ⟨hc, he⟩ | ⟨hc, he⟩ | ⟨hc, he⟩
  · obtain ⟨rfl, rfl⟩ := ok_uniq sx.ok sy.ok he
    exact ord_zero n m k d e f _ _ _ _ _ _ s1 s2 a1 a2 b1 b2 _ w hE HS1 HS2 HS3 HC1 HC2 HO1 HO2 HO3 HC3 HC4 hc (hide (by simp))
  · exact ord_more n m k d e f _ _ _ _ _ _ s1 s2 a1 a2 b1 b2 _ w hE HS1 HS2 HS3 HC1 HC2 HO1 HO2 HO3 HC3 HC4 hc (hide (hne (by omega)))
  · rcases sgn_cases (y1 * z2) (z1 * y2) with ⟨hv, he2⟩ | ⟨hv, he2⟩ | ⟨hv, he2⟩
    · exact ord_less n m k d e f _ _ _ _ _ _ s1 s2 a1 a2 b1 b2 _ w hE HS1 HS2 HS3 HC1 HC2 HO1 HO2 HO3 HC3 HC4 hc (hide (hne (by omega))) _ (by omega) HC5
    · exact ord_less n m k d e f _ _ _ _ _ _ s1 s2 a1 a2 b1 b2 _ w hE HS1 HS2 HS3 HC1 HC2 HO1 HO2 HO3 HC3 HC4 hc (hide (hne (by omega))) _ (by omega) HC5
    · have hl := sgn_trans sx.d1 sy.d1 sz.d1 he he2
      have hw : sgn (x1 * z2) (z1 * x2) = -1 := by unfold sgn; rw [if_pos hl]
      rw [hv] at HC5
      rw [hw] at HC6
      exact ord_lless n m k d e f _ _ _ _ _ _ s1 s2 a1 a2 b1 b2 _ w hE HS1 HS2 HS3 HC1 HC2 HO1 HO2 HO3 HC3 HC4 hc (hide (hne (by omega))) HC5 HC6
set_option maxRecDepth 100000 in
theorem ratOrder_lifted (os : Os) (started : os.Started) (H : Type) (enc : TypeId × Value → H) :
    ReturnsInHanded {} Tryd.checked os 5 .any (fun w args => (Rows.ratOrderSpec.pre enc Tryd.prog Tryd.f5 Rows.ratOrderRow.domain false w args ∧ laidMetH Tryd.prog Rows.ratOrderRow.laid w) ∧ sizedMet enc Tryd.prog Tryd.f5 (OpenSpec.ofChange Rows.ratOrderSpec) false w args)
      (Rows.ratOrderSpec.post enc Tryd.prog Tryd.f5 false true false false) := by
  refine returnsInHanded_both (C := Tryd.checked) (X := fun w _ => laidMetH Tryd.prog Rows.ratOrderRow.laid w) (fun _ _ _ hh h => h.of_heap hh) own started (by kernel_rfl) Tryd.func5
    (ChangeSpec.witness_shaped (enc := enc) (C := Tryd.checked) (os := os) (X := fun w _ => laidMetH Tryd.prog Rows.ratOrderRow.laid w) false (World.doorLaid Tryd.prog 400 os) #[.int .i16 0, .int .i16 0, .int .i16 0, .int .u8 0, .int .u8 0, .int .u8 0] 8 rfl (World.shaped_of_RefB (by kernel_rfl) (by kernel_rfl)) (by kernel_rfl) (by kernel_rfl) (by kernel_rfl) (door_met os _)) ?_
  intro W base args ds gs before hval0 hW _ _ hL hsh _
  have hval : ∀ (j : Nat) t v, Tryd.f5.params[j]? = some t → args[j]? = some v → Value.okWide Tryd.prog W .any base t v := hval0
  have hEnv : Env W := env_of hL hsh
  have hW' := hW
  obtain ⟨p, q, hA0, hV, rfl, hfz, hnd⟩ := hW
  have hA : DataW.TrodAll enc Tryd.prog W 0 (fun _ => true) true Tryd.f5.params.toList args.toList ds p := hA0
  rw [Tryd.params5] at hA hval
  obtain ⟨v0, vs0, d0, ds0, p0, q0, hargs, rfl, rfl, h0, r0⟩ := trodAll_cons hA
  obtain ⟨v1, vs1, d1, ds1, p1, q1, rfl, rfl, rfl, h1, r1⟩ := trodAll_cons r0
  obtain ⟨v2, vs2, d2, ds2, p2, q2, rfl, rfl, rfl, h2, r2⟩ := trodAll_cons r1
  obtain ⟨v3, vs3, d3, ds3, p3, q3, rfl, rfl, rfl, h3, r3⟩ := trodAll_cons r2
  obtain ⟨v4, vs4, d4, ds4, p4, q4, rfl, rfl, rfl, h4, r4⟩ := trodAll_cons r3
  obtain ⟨v5, vs5, d5, ds5, p5, q5, rfl, rfl, rfl, h5, r5⟩ := trodAll_cons r4
  obtain ⟨rfl, rfl, rfl⟩ := trodAll_nil r5
  obtain rfl : args = #[v0, v1, v2, v3, v4, v5] := by cases args; simp_all
  obtain ⟨rfl, rfl⟩ := trodVars_none hV
  have k0 := h0
  have lt0 : ∀ x ∈ p0, x.block < W.heap.size := by obtain ⟨m, hm⟩ := k0; exact DataW.trod_lt m _ _ _ hm
  obtain ⟨n, rfl⟩ := okWide_int Tryd.underlying34 (hval 0 34 v0 rfl rfl)
  obtain ⟨n_0, n_1⟩ : -32768 ≤ n ∧ n ≤ 32767 := by
    obtain ⟨mm, hm⟩ := h0
    obtain ⟨k', e0, -, wf⟩ := DataW.trod_int Tryd.underlying34 hm
    have e1 : [Value.int .i16 n] = [Value.int .i16 k'] := e0
    obtain rfl : n = k' := by simpa using e1
    simp [Lit.wf, IntKind.min, IntKind.max, IntKind.bits, IntKind.signed] at wf
    omega
  have k1 := h1
  have lt1 : ∀ x ∈ p1, x.block < W.heap.size := by obtain ⟨m, hm⟩ := k1; exact DataW.trod_lt m _ _ _ hm
  obtain ⟨m, rfl⟩ := okWide_int Tryd.underlying34 (hval 1 34 v1 rfl rfl)
  obtain ⟨m_0, m_1⟩ : -32768 ≤ m ∧ m ≤ 32767 := by
    obtain ⟨mm, hm⟩ := h1
    obtain ⟨k', e0, -, wf⟩ := DataW.trod_int Tryd.underlying34 hm
    have e1 : [Value.int .i16 m] = [Value.int .i16 k'] := e0
    obtain rfl : m = k' := by simpa using e1
    simp [Lit.wf, IntKind.min, IntKind.max, IntKind.bits, IntKind.signed] at wf
    omega
  have k2 := h2
  have lt2 : ∀ x ∈ p2, x.block < W.heap.size := by obtain ⟨m, hm⟩ := k2; exact DataW.trod_lt m _ _ _ hm
  obtain ⟨k, rfl⟩ := okWide_int Tryd.underlying34 (hval 2 34 v2 rfl rfl)
  obtain ⟨k_0, k_1⟩ : -32768 ≤ k ∧ k ≤ 32767 := by
    obtain ⟨mm, hm⟩ := h2
    obtain ⟨k', e0, -, wf⟩ := DataW.trod_int Tryd.underlying34 hm
    have e1 : [Value.int .i16 k] = [Value.int .i16 k'] := e0
    obtain rfl : k = k' := by simpa using e1
    simp [Lit.wf, IntKind.min, IntKind.max, IntKind.bits, IntKind.signed] at wf
    omega
  have k3 := h3
  have lt3 : ∀ x ∈ p3, x.block < W.heap.size := by obtain ⟨m, hm⟩ := k3; exact DataW.trod_lt m _ _ _ hm
  obtain ⟨d, rfl⟩ := okWide_int Tryd.underlying5 (hval 3 5 v3 rfl rfl)
  obtain ⟨d_0, d_1⟩ : 0 ≤ d ∧ d ≤ 255 := by
    obtain ⟨mm, hm⟩ := h3
    obtain ⟨k', e0, -, wf⟩ := DataW.trod_int Tryd.underlying5 hm
    have e1 : [Value.int .u8 d] = [Value.int .u8 k'] := e0
    obtain rfl : d = k' := by simpa using e1
    simp [Lit.wf, IntKind.min, IntKind.max, IntKind.bits, IntKind.signed] at wf
    omega
  have k4 := h4
  have lt4 : ∀ x ∈ p4, x.block < W.heap.size := by obtain ⟨m, hm⟩ := k4; exact DataW.trod_lt m _ _ _ hm
  obtain ⟨e, rfl⟩ := okWide_int Tryd.underlying5 (hval 4 5 v4 rfl rfl)
  obtain ⟨e_0, e_1⟩ : 0 ≤ e ∧ e ≤ 255 := by
    obtain ⟨mm, hm⟩ := h4
    obtain ⟨k', e0, -, wf⟩ := DataW.trod_int Tryd.underlying5 hm
    have e1 : [Value.int .u8 e] = [Value.int .u8 k'] := e0
    obtain rfl : e = k' := by simpa using e1
    simp [Lit.wf, IntKind.min, IntKind.max, IntKind.bits, IntKind.signed] at wf
    omega
  have k5 := h5
  have lt5 : ∀ x ∈ p5, x.block < W.heap.size := by obtain ⟨m, hm⟩ := k5; exact DataW.trod_lt m _ _ _ hm
  obtain ⟨f, rfl⟩ := okWide_int Tryd.underlying5 (hval 5 5 v5 rfl rfl)
  obtain ⟨f_0, f_1⟩ : 0 ≤ f ∧ f ≤ 255 := by
    obtain ⟨mm, hm⟩ := h5
    obtain ⟨k', e0, -, wf⟩ := DataW.trod_int Tryd.underlying5 hm
    have e1 : [Value.int .u8 f] = [Value.int .u8 k'] := e0
    obtain rfl : f = k' := by simpa using e1
    simp [Lit.wf, IntKind.min, IntKind.max, IntKind.bits, IntKind.signed] at wf
    omega
  clear hA0 hval0
  refine (ord_main n m k d e f W n_0 n_1 m_0 m_1 k_0 k_1 d_0 d_1 e_0 e_1 f_0 f_1 (hide hEnv)).mono fun e W' ⟨he, bel⟩ => ?_
  subst he
  exact ⟨_, rfl, _, _, _, [], _, [], hW', trodAll_mk1 (shut_bool Tryd.underlying4 _), (trodAll_cons_mk (Below.trod laidOut (by kernel_rfl) (of_decide_eq_true (by kernel_rfl)) k0 bel lt0) (trodAll_cons_mk (Below.trod laidOut (by kernel_rfl) (of_decide_eq_true (by kernel_rfl)) k1 bel lt1) (trodAll_cons_mk (Below.trod laidOut (by kernel_rfl) (of_decide_eq_true (by kernel_rfl)) k2 bel lt2) (trodAll_cons_mk (Below.trod laidOut (by kernel_rfl) (of_decide_eq_true (by kernel_rfl)) k3 bel lt3) (trodAll_cons_mk (Below.trod laidOut (by kernel_rfl) (of_decide_eq_true (by kernel_rfl)) k4 bel lt4) (trodAll_cons_mk (Below.trod laidOut (by kernel_rfl) (of_decide_eq_true (by kernel_rfl)) k5 bel lt5) trodAll_mk0)))))), rfl, bel.frame _, fun h => by cases h⟩
theorem ratOrder_holds : Rows.RatOrderSaid :=
  OpenClaim.holds_of_wide 5 Tryd.f5 rfl rfl rfl rfl rfl rfl rfl ⟨rfl, rfl, rfl, rfl, rfl⟩ rfl rfl rfl rfl rfl (by kernel_rfl) Tryd.func5 (by kernel_rfl)
    (of_decide_eq_true (by kernel_rfl)) (by unfold Func.isWrapper; first | (rw [if_pos (by decide +kernel)]; kernel_rfl) | (rw [if_neg (by decide +kernel)]; exact ⟨rfl, rfl⟩))
    (fun os started H enc _ => ratOrder_lifted os started H enc)
/-- THE STATEMENT: the tied card. -/
theorem ratOrder_card : Rows.RatOrderCardSaid :=
  Claim7.holds_tied_plain_at .later [] [.data, .data, .data, .sentinel, .sentinel] true Rows.ratOrderCard.stood.harness true
    ratOrder_holds (fun _ h => by cases h) (by kernel_rfl) (fun _ h => by cases h) ratOrder_row_tie rfl ⟨rfl, rfl⟩ (by kernel_rfl) rfl
    (fun f fn hf hfn => by
      obtain rfl : f = 5 := Option.some.inj ((show Tryd.prog.funcNamed Tryd.f5.name = some 5 by kernel_rfl).symm.trans hf) |>.symm
      obtain rfl : fn = Tryd.f5 := (Option.some.inj (Tryd.func5.symm.trans hfn)).symm
      exact ⟨by kernel_rfl, fun j t ht => by
        rw [Tryd.params5] at ht
        have hm : t ∈ [34, 5] := by have := Array.mem_of_getElem? ht; simp at this ⊢; omega
        have hall : ([34, 5].all fun u => !Tryd.prog.wantsStandIn u) = true := by kernel_rfl
        exact (show Tryd.prog.wantsStandIn t = false by simpa using List.all_eq_true.1 hall t hm)⟩)
    (by kernel_rfl)
#print axioms ratOrder_card
end Go.Proofs.YtdjenpccgaojgaaDoor
