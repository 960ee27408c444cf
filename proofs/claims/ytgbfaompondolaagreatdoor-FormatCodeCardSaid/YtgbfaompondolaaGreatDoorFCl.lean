/-
  FormatCode holds, and its tied card: for all code, printable or not, Code agrees with the reference model and leaves the code unchanged. No condition beyond the listed variables, which the card ties to the program's text.
-/
import Derived.Test.YtgbfaompondolaaGreatDoorFCk
import Derived.Test.YtgbfaompondolaaGreatDoorPk18
import Derived.Test.YtgbfaompondolaaGreatDoorFCx
namespace Go.Proofs.YtgbfaompondolaaGreatDoor
open Go.ChangeShapes Go.WideShapes Go.ChangeAt Go.RowKit Go.Joins
open Go.WideMaps Go.WideElems
open Go.ChangeMaps (open_string)
set_option maxRecDepth 100000 in
theorem open_inss {H : Type} {enc : TypeId × Value → H} {W : World} {base : Nat} {v : Value} {d : DataW H} {p : List MemPlace}
    (hv : Value.okWide Tryz.prog W .any base 35 v) (h : DataW.Trod enc Tryz.prog W 0 (fun _ => true) true 35 v d p) :
    ∃ (A : Option Addr) (n c : Nat) (l : List InsD), v = .slice A n c ∧ l.length = n ∧ Hid (DAt W (fun _ => True) (.slice A n c) (.row 4 (l.map InsD.cells))) ∧ ∀ x ∈ l, x.op ≤ 255 := by
  obtain ⟨A, n, c, rfl⟩ := okWide_slice Tryz.underlying35 hv
  obtain ⟨fuel, hf⟩ := h
  obtain ⟨l, h1, h2⟩ := opn_slice (size := 4) Tryz.underlying35 (by kernel_rfl) (by decide) (fun _ => rfl) opn_ins _ _ _ _ hf
  have h3 := h1.2 0 _ _ rfl rfl
  obtain ⟨A', c', he, -⟩ := h3.slice
  injection he with e1 e2 e3
  rw [List.length_map] at e2
  exact ⟨A, n, c, l, rfl, e2.symm, hide h3, fun x hx => by obtain ⟨y, hy, -⟩ := h2.each hx; exact hy⟩
set_option maxRecDepth 100000 in
theorem formatCode_lifted (os : Os) (started : os.Started) (H : Type) (enc : TypeId × Value → H) :
    ReturnsInHanded {} Tryz.checked os 4 .any (fun w args => (Rows.formatCodeSpec.pre enc Tryz.prog Tryz.f4 Rows.formatCodeRow.domain false w args ∧ laidMetH Tryz.prog Rows.formatCodeRow.laid w) ∧ sizedMet enc Tryz.prog Tryz.f4 (OpenSpec.ofChange Rows.formatCodeSpec) false w args)
      (Rows.formatCodeSpec.post enc Tryz.prog Tryz.f4 false true false false) := by
  refine returnsInHanded_both (C := Tryz.checked) (X := fun w _ => laidMetH Tryz.prog Rows.formatCodeRow.laid w) (fun _ _ _ hh h => h.of_heap hh) own started (by kernel_rfl) Tryz.func4
    (ChangeSpec.witness_shaped (enc := enc) (C := Tryz.checked) (os := os) (X := fun w _ => laidMetH Tryz.prog Rows.formatCodeRow.laid w) false (World.doorLaid Tryz.prog 400 os) #[.slice none 0 0] 8 rfl (World.shaped_of_RefB (by kernel_rfl) (by kernel_rfl)) (by kernel_rfl) (by kernel_rfl) (by kernel_rfl) (door_met os _)) ?_
  intro W base args ds gs before hval0 hW _ _ hL hsh _
  have hval : ∀ (j : Nat) t v, Tryz.f4.params[j]? = some t → args[j]? = some v → Value.okWide Tryz.prog W .any base t v := hval0
  have hEnv : Env W := env_of hL hsh
  have hEnvP : EnvP W := envp_of hL hsh
  have hW' := hW
  obtain ⟨p, q, hA0, hV, rfl, hfz, hnd⟩ := hW
  have hA : DataW.TrodAll enc Tryz.prog W 0 (fun _ => true) true Tryz.f4.params.toList args.toList ds p := hA0
  rw [Tryz.params4] at hA hval
  obtain ⟨v0, vs0, d0, ds0, p0, q0, hargs, rfl, rfl, h0, r0⟩ := trodAll_cons hA
  obtain ⟨rfl, rfl, rfl⟩ := trodAll_nil r0
  obtain rfl : args = #[v0] := by cases args; simp_all
  obtain ⟨rfl, rfl⟩ := trodVars_none hV
  have k0 := h0
  have lt0 : ∀ x ∈ p0, x.block < W.heap.size := by obtain ⟨m, hm⟩ := k0; exact DataW.trod_lt m _ _ _ hm
  obtain ⟨A, n, c, l, rfl, hln, hv, hop⟩ := open_inss (hval 0 35 v0 rfl rfl) h0
  clear hA0 hval0
  refine (formatCode_true A n c l W hln hv hop (hide hEnv) (hide hEnvP)).mono fun e W' ⟨he, bel⟩ => ?_
  subst he
  exact ⟨_, rfl, _, _, _, [], _, [], hW', trodAll_mk1 (shut_bool Tryz.underlying4 _), (trodAll_cons_mk (Below.trod laidOut (by kernel_rfl) (of_decide_eq_true (by kernel_rfl)) k0 bel lt0) trodAll_mk0), rfl, bel.frame _, fun h => by cases h⟩
theorem formatCode_holds : Rows.FormatCodeSaid :=
  OpenClaim.holds_of_wide 4 Tryz.f4 rfl rfl rfl rfl rfl rfl rfl ⟨rfl, rfl, rfl, rfl, rfl⟩ rfl rfl rfl rfl rfl formatCode_named Tryz.func4 formatCode_closed formatCode_inst formatCode_wrap
    (fun os started H enc _ => formatCode_lifted os started H enc)
/-- THE STATEMENT: the tied card. -/
theorem formatCode_card : Rows.FormatCodeCardSaid :=
  Claim7.holds_tied_plain_at .later [] [.data, .data, .data, .sentinel, .sentinel, .listed, .data] true Rows.formatCodeCard.stood.harness true
    formatCode_holds (fun _ h => by cases h) (by kernel_rfl) (fun _ h => by cases h) formatCode_row_tie rfl ⟨rfl, rfl⟩ (by kernel_rfl) rfl
    (fun f fn hf hfn => by
      obtain rfl : f = 4 := Option.some.inj ((show Tryz.prog.funcNamed Tryz.f4.name = some 4 by kernel_rfl).symm.trans hf) |>.symm
      obtain rfl : fn = Tryz.f4 := (Option.some.inj (Tryz.func4.symm.trans hfn)).symm
      exact ⟨by kernel_rfl, fun j t ht => by
        rw [Tryz.params4] at ht
        have hm : t ∈ [35] := by have := Array.mem_of_getElem? ht; simp at this ⊢; omega
        have hall : ([35].all fun u => !Tryz.prog.wantsStandIn u) = true := by kernel_rfl
        exact (show Tryz.prog.wantsStandIn t = false by simpa using List.all_eq_true.1 hall t hm)⟩)
    (by kernel_rfl)
#print axioms formatCode_card
end Go.Proofs.YtgbfaompondolaaGreatDoor
