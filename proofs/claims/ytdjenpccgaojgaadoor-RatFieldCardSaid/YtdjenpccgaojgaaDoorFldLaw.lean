/-
  RatField holds, and its tied card: addition and multiplication are commutative and associative, multiplication distributes over addition, and subtraction and division undo them. No condition beyond the listed variables, which the card ties to the program's text.
-/
import Derived.Test.YtdjenpccgaojgaaDoorFld3
import Derived.Test.YtdjenpccgaojgaaDoorOpenRat
namespace Go.Proofs.YtdjenpccgaojgaaDoor
open Go.ChangeShapes Go.WideShapes Go.ChangeAt Go.RowKit Go.Joins
open Go.WideMaps Go.WideElems
theorem fld_main (n m k d e f : Int) (w : World) (n0 : -32768 ≤ n) (n1 : n ≤ 32767) (m0 : -32768 ≤ m) (m1 : m ≤ 32767) (k0 : -32768 ≤ k) (k1 : k ≤ 32767) (d0 : 0 ≤ d) (d1 : d ≤ 255) (e0 : 0 ≤ e) (e1 : e ≤ 255) (f0 : 0 ≤ f) (f1 : f ≤ 255) (hE : Hid (Env w)) :
    Calls Tryd.prog 8 #[.int .i16 n, .int .i16 m, .int .i16 k, .int .u8 d, .int .u8 e, .int .u8 f] w fun e w' => e = .returned (.bool true) ∧ Below w.heap.size w w' := by
  obtain ⟨x1, x2, hx, sx⟩ := some_val n d d0
  obtain ⟨y1, y2, hy, sy⟩ := some_val m e e0
  obtain ⟨z1, z2, hz, sz⟩ := some_val k f f0
  obtain ⟨v1, v2, p1, p2, s1, s2, u1, u2, q1, q2, r1, r2, t1, t2, g1, g2, hF⟩ := field_vals sx sy sz
  have HS1 := hide (fun w => some_any n d x1 x2 w n0 n1 d0 d1 hx)
  have HS2 := hide (fun w => some_any m e y1 y2 w m0 m1 e0 e1 hy)
  have HS3 := hide (fun w => some_any k f z1 z2 w k0 k1 f0 f1 hz)
  exact fld_all n m k d e f x1 x2 y1 y2 z1 z2 v1 v2 p1 p2 s1 s2 u1 u2 q1 q2 r1 r2 t1 t2 g1 g2 w hE hF HS1 HS2 HS3
set_option maxRecDepth 100000 in
theorem ratField_lifted (os : Os) (started : os.Started) (H : Type) (enc : TypeId × Value → H) :
    ReturnsInHanded {} Tryd.checked os 8 .any (fun w args => (Rows.ratFieldSpec.pre enc Tryd.prog Tryd.f8 Rows.ratFieldRow.domain false w args ∧ laidMetH Tryd.prog Rows.ratFieldRow.laid w) ∧ sizedMet enc Tryd.prog Tryd.f8 (OpenSpec.ofChange Rows.ratFieldSpec) false w args)
      (Rows.ratFieldSpec.post enc Tryd.prog Tryd.f8 false true false false) := by
  refine returnsInHanded_both (C := Tryd.checked) (X := fun w _ => laidMetH Tryd.prog Rows.ratFieldRow.laid w) (fun _ _ _ hh h => h.of_heap hh) own started (by kernel_rfl) Tryd.func8
    (ChangeSpec.witness_shaped (enc := enc) (C := Tryd.checked) (os := os) (X := fun w _ => laidMetH Tryd.prog Rows.ratFieldRow.laid w) false (World.doorLaid Tryd.prog 400 os) #[.int .i16 0, .int .i16 0, .int .i16 0, .int .u8 0, .int .u8 0, .int .u8 0] 8 rfl (World.shaped_of_RefB (by kernel_rfl) (by kernel_rfl)) (by kernel_rfl) (by kernel_rfl) (by kernel_rfl) (door_met os _)) ?_
  intro W base args ds gs before hval0 hW _ _ hL hsh _
  have hval : ∀ (j : Nat) t v, Tryd.f8.params[j]? = some t → args[j]? = some v → Value.okWide Tryd.prog W .any base t v := hval0
  have hEnv : Env W := env_of hL hsh
  have hW' := hW
  obtain ⟨p, q, hA0, hV, rfl, hfz, hnd⟩ := hW
  have hA : DataW.TrodAll enc Tryd.prog W 0 (fun _ => true) true Tryd.f8.params.toList args.toList ds p := hA0
  rw [Tryd.params8] at hA hval
  obtain ⟨v0, vs0, d0, ds0, p0, q0, hargs, rfl, rfl, h0, r0⟩ := trodAll_cons hA
  obtain ⟨v1, vs1, d1, ds1, p1, q1, rfl, rfl, rfl, h1, r1⟩ := trodAll_cons r0
  obtain ⟨v2, vs2, d2, ds2, p2, q2, rfl, rfl, rfl, h2, r2⟩ := trodAll_cons r1
  obtain ⟨v3, vs3, d3, ds3, p3, q3, rfl, rfl, rfl, h3, r3⟩ := trodAll_cons r2
  obtain ⟨v4, vs4, d4, ds4, p4, q4, rfl, rfl, rfl, h4, r4⟩ := trodAll_cons r3
  obtain ⟨v5, vs5, d5, ds5, p5, q5, rfl, rfl, rfl, h5, r5⟩ := trodAll_cons r4
  obtain ⟨rfl, rfl, rfl⟩ := trodAll_nil r5
  obtain rfl : args = #[v0, v1, v2, v3, v4, v5] := by cases args; simp_all
  obtain ⟨rfl, rfl⟩ := trodVars_none hV
  have k0 := h0
  have lt0 : ∀ x ∈ p0, x.block < W.heap.size := by obtain ⟨m, hm⟩ := k0; exact DataW.trod_lt m _ _ _ hm
  obtain ⟨n, rfl⟩ := okWide_int Tryd.underlying34 (hval 0 34 v0 rfl rfl)
  obtain ⟨n_0, n_1⟩ : -32768 ≤ n ∧ n ≤ 32767 := by
    obtain ⟨mm, hm⟩ := h0
    obtain ⟨k', e0, -, wf⟩ := DataW.trod_int Tryd.underlying34 hm
    have e1 : [Value.int .i16 n] = [Value.int .i16 k'] := e0
    obtain rfl : n = k' := by simpa using e1
    simp [Lit.wf, IntKind.min, IntKind.max, IntKind.bits, IntKind.signed] at wf
    omega
  have k1 := h1
  have lt1 : ∀ x ∈ p1, x.block < W.heap.size := by obtain ⟨m, hm⟩ := k1; exact DataW.trod_lt m _ _ _ hm
  obtain ⟨m, rfl⟩ := okWide_int Tryd.underlying34 (hval 1 34 v1 rfl rfl)
  obtain ⟨m_0, m_1⟩ : -32768 ≤ m ∧ m ≤ 32767 := by
    obtain ⟨mm, hm⟩ := h1
    obtain ⟨k', e0, -, wf⟩ := DataW.trod_int Tryd.underlying34 hm
    have e1 : [Value.int .i16 m] = [Value.int .i16 k'] := e0
    obtain rfl : m = k' := by simpa using e1
    simp [Lit.wf, IntKind.min, IntKind.max, IntKind.bits, IntKind.signed] at wf
    omega
  have k2 := h2
  have lt2 : ∀ x ∈ p2, x.block < W.heap.size := by obtain ⟨m, hm⟩ := k2; exact DataW.trod_lt m _ _ _ hm
  obtain ⟨k, rfl⟩ := okWide_int Tryd.underlying34 (hval 2 34 v2 rfl rfl)
  obtain ⟨k_0, k_1⟩ : -32768 ≤ k ∧ k ≤ 32767 := by
    obtain ⟨mm, hm⟩ := h2
    obtain ⟨k', e0, -, wf⟩ := DataW.trod_int Tryd.underlying34 hm
    have e1 : [Value.int .i16 k] = [Value.int .i16 k'] := e0
    obtain rfl : k = k' := by simpa using e1
    simp [Lit.wf, IntKind.min, IntKind.max, IntKind.bits, IntKind.signed] at wf
    omega
  have k3 := h3
  have lt3 : ∀ x ∈ p3, x.block < W.heap.size := by obtain ⟨m, hm⟩ := k3; exact DataW.trod_lt m _ _ _ hm
  obtain ⟨d, rfl⟩ := okWide_int Tryd.underlying5 (hval 3 5 v3 rfl rfl)
  obtain ⟨d_0, d_1⟩ : 0 ≤ d ∧ d ≤ 255 := by
    obtain ⟨mm, hm⟩ := h3
    obtain ⟨k', e0, -, wf⟩ := DataW.trod_int Tryd.underlying5 hm
    have e1 : [Value.int .u8 d] = [Value.int .u8 k'] := e0
    obtain rfl : d = k' := by simpa using e1
    simp [Lit.wf, IntKind.min, IntKind.max, IntKind.bits, IntKind.signed] at wf
    omega
  have k4 := h4
  have lt4 : ∀ x ∈ p4, x.block < W.heap.size := by obtain ⟨m, hm⟩ := k4; exact DataW.trod_lt m _ _ _ hm
  obtain ⟨e, rfl⟩ := okWide_int Tryd.underlying5 (hval 4 5 v4 rfl rfl)
  obtain ⟨e_0, e_1⟩ : 0 ≤ e ∧ e ≤ 255 := by
    obtain ⟨mm, hm⟩ := h4
    obtain ⟨k', e0, -, wf⟩ := DataW.trod_int Tryd.underlying5 hm
    have e1 : [Value.int .u8 e] = [Value.int .u8 k'] := e0
    obtain rfl : e = k' := by simpa using e1
    simp [Lit.wf, IntKind.min, IntKind.max, IntKind.bits, IntKind.signed] at wf
    omega
  have k5 := h5
  have lt5 : ∀ x ∈ p5, x.block < W.heap.size := by obtain ⟨m, hm⟩ := k5; exact DataW.trod_lt m _ _ _ hm
  obtain ⟨f, rfl⟩ := okWide_int Tryd.underlying5 (hval 5 5 v5 rfl rfl)
  obtain ⟨f_0, f_1⟩ : 0 ≤ f ∧ f ≤ 255 := by
    obtain ⟨mm, hm⟩ := h5
    obtain ⟨k', e0, -, wf⟩ := DataW.trod_int Tryd.underlying5 hm
    have e1 : [Value.int .u8 f] = [Value.int .u8 k'] := e0
    obtain rfl : f = k' := by simpa using e1
    simp [Lit.wf, IntKind.min, IntKind.max, IntKind.bits, IntKind.signed] at wf
    omega
  clear hA0 hval0
  refine (fld_main n m k d e f W n_0 n_1 m_0 m_1 k_0 k_1 d_0 d_1 e_0 e_1 f_0 f_1 (hide hEnv)).mono fun e W' ⟨he, bel⟩ => ?_
  subst he
  exact ⟨_, rfl, _, _, _, [], _, [], hW', trodAll_mk1 (shut_bool Tryd.underlying4 _), (trodAll_cons_mk (Below.trod laidOut (by kernel_rfl) (of_decide_eq_true (by kernel_rfl)) k0 bel lt0) (trodAll_cons_mk (Below.trod laidOut (by kernel_rfl) (of_decide_eq_true (by kernel_rfl)) k1 bel lt1) (trodAll_cons_mk (Below.trod laidOut (by kernel_rfl) (of_decide_eq_true (by kernel_rfl)) k2 bel lt2) (trodAll_cons_mk (Below.trod laidOut (by kernel_rfl) (of_decide_eq_true (by kernel_rfl)) k3 bel lt3) (trodAll_cons_mk (Below.trod laidOut (by kernel_rfl) (of_decide_eq_true (by kernel_rfl)) k4 bel lt4) (trodAll_cons_mk (Below.trod laidOut (by kernel_rfl) (of_decide_eq_true (by kernel_rfl)) k5 bel lt5) trodAll_mk0)))))), rfl, bel.frame _, fun h => by cases h⟩
theorem ratField_holds : Rows.RatFieldSaid :=
  OpenClaim.holds_of_wide 8 Tryd.f8 rfl rfl rfl rfl rfl rfl rfl ⟨rfl, rfl, rfl, rfl, rfl⟩ rfl rfl rfl rfl rfl (by kernel_rfl) Tryd.func8 (by kernel_rfl)
    (of_decide_eq_true (by kernel_rfl)) (by unfold Func.isWrapper; first | (rw [if_pos (by decide +kernel)]; kernel_rfl) | (rw [if_neg (by decide +kernel)]; exact ⟨rfl, rfl⟩))
    (fun os started H enc _ => ratField_lifted os started H enc)
/-- THE STATEMENT: the tied card. -/
theorem ratField_card : Rows.RatFieldCardSaid :=
  Claim7.holds_tied_plain_at .later [] [.data, .data, .data, .sentinel, .sentinel] true Rows.ratFieldCard.stood.harness true
    ratField_holds (fun _ h => by cases h) (by kernel_rfl) (fun _ h => by cases h) ratField_row_tie rfl ⟨rfl, rfl⟩ (by kernel_rfl) rfl
    (fun f fn hf hfn => by
      obtain rfl : f = 8 := Option.some.inj ((show Tryd.prog.funcNamed Tryd.f8.name = some 8 by kernel_rfl).symm.trans hf) |>.symm
      obtain rfl : fn = Tryd.f8 := (Option.some.inj (Tryd.func8.symm.trans hfn)).symm
      exact ⟨by kernel_rfl, fun j t ht => by
        rw [Tryd.params8] at ht
        have hm : t ∈ [34, 5] := by have := Array.mem_of_getElem? ht; simp at this ⊢; omega
        have hall : ([34, 5].all fun u => !Tryd.prog.wantsStandIn u) = true := by kernel_rfl
        exact (show Tryd.prog.wantsStandIn t = false by simpa using List.all_eq_true.1 hall t hm)⟩)
    (by kernel_rfl)
#print axioms ratField_card
end Go.Proofs.YtdjenpccgaojgaaDoor
