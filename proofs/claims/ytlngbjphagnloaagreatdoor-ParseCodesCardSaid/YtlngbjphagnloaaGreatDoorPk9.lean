/-
  Merged texts: nacellekit's Same functions (printed by tools/same.py): config. | The wrap of a law whose row lists variables and needs the world's shape.
-/
import Derived.Test.YtlngbjphagnloaaGreatDoorPk8
import Derived.Test.YtlngbjphagnloaaGreatDoorPk1
import Derived.LaidMore
import Derived.HandedShaped
import Derived.ProofKit
import Derived.OpenShut
namespace Go.Proofs.YtlngbjphagnloaaGreatDoor
open Go.RowKit
attribute [local go_sem] Later.cell eqB_self
set_option maxRecDepth 100000 in
set_option maxHeartbeats 4000000 in
theorem same_config (x y : CfgD) (ua0 ub0 ua1 ub1 ua2 ub2 ua3 ub3 ua4 ub4 ua5 ub5 ua6 ub6 ua7 ub7 : Value) (W : World) (Ha0 : Hid (DAt W (fun _ => True) ua0 (.row 4 (x.modules.map ModD.cells)))) (Hb0 : Hid (DAt W (fun _ => True) ub0 (.row 4 (y.modules.map ModD.cells)))) (Ha1 : Hid (DAt W (fun _ => True) ua1 (.row 4 (x.channels.map ChanD.cells)))) (Hb1 : Hid (DAt W (fun _ => True) ub1 (.row 4 (y.channels.map ChanD.cells)))) (Ha2 : Hid (DAt W (fun _ => True) ua2 (.row 4 (x.switches.map SwD.cells)))) (Hb2 : Hid (DAt W (fun _ => True) ub2 (.row 4 (y.switches.map SwD.cells)))) (Ha3 : Hid (DAt W (fun _ => True) ua3 (.row 4 (x.links.map LinkD.cells)))) (Hb3 : Hid (DAt W (fun _ => True) ub3 (.row 4 (y.links.map LinkD.cells)))) (Ha4 : Hid (DAt W (fun _ => True) ua4 (.row 7 (x.vls.map VlD.cells)))) (Hb4 : Hid (DAt W (fun _ => True) ub4 (.row 7 (y.vls.map VlD.cells)))) (Ha5 : Hid (DAt W (fun _ => True) ua5 (.row 5 (x.health.map HealthD.cells)))) (Hb5 : Hid (DAt W (fun _ => True) ub5 (.row 5 (y.health.map HealthD.cells)))) (Ha6 : Hid (DAt W (fun _ => True) ua6 (.row 3 (x.causes.map CauseD.cells)))) (Hb6 : Hid (DAt W (fun _ => True) ub6 (.row 3 (y.causes.map CauseD.cells)))) (Ha7 : Hid (DAt W (fun _ => True) ua7 (.row 4 (x.versions.map VerD.cells)))) (Hb7 : Hid (DAt W (fun _ => True) ub7 (.row 4 (y.versions.map VerD.cells)))) (hx : x.sm) (hy : y.sm) :
    Calls Tryz.prog 12 #[.agg #[ua0, ua1, ua2, ua3, ua4, ua5, ua6, ua7], .agg #[ub0, ub1, ub2, ub3, ub4, ub5, ub6, ub7]] W fun e w' => e = .returned (.bool (eqB x y)) ∧ Below W.heap.size W w' := by
  obtain ⟨p0, p1, p2, p3, p4, p5, p6, p7⟩ := x
  obtain ⟨q0, q1, q2, q3, q4, q5, q6, q7⟩ := y
  dsimp only at *
  have HSX : Hid _ := hx
  have HSY : Hid _ := hy
  clear hx hy
  have HC0 := hide (fun (V : World) (hb : Below W.heap.size W V) => same_modules ua0 ub0 p0 q0 V (hide (Ha0.out.later hb)) (hide (Hb0.out.later hb)) HSX.out.modules.1 HSY.out.modules.1 HSX.out.modules.2 HSY.out.modules.2)
  have HC1 := hide (fun (V : World) (hb : Below W.heap.size W V) => same_channels ua1 ub1 p1 q1 V (hide (Ha1.out.later hb)) (hide (Hb1.out.later hb)) HSX.out.channels.1 HSY.out.channels.1 HSX.out.channels.2 HSY.out.channels.2)
  have HC2 := hide (fun (V : World) (hb : Below W.heap.size W V) => same_switches ua2 ub2 p2 q2 V (hide (Ha2.out.later hb)) (hide (Hb2.out.later hb)) HSX.out.switches HSY.out.switches)
  have HC3 := hide (fun (V : World) (hb : Below W.heap.size W V) => same_links ua3 ub3 p3 q3 V (hide (Ha3.out.later hb)) (hide (Hb3.out.later hb)) HSX.out.links HSY.out.links)
  have HC4 := hide (fun (V : World) (hb : Below W.heap.size W V) => same_vls ua4 ub4 p4 q4 V (hide (Ha4.out.later hb)) (hide (Hb4.out.later hb)) HSX.out.vls.1 HSY.out.vls.1 HSX.out.vls.2 HSY.out.vls.2)
  have HC5 := hide (fun (V : World) (hb : Below W.heap.size W V) => same_healths ua5 ub5 p5 q5 V (hide (Ha5.out.later hb)) (hide (Hb5.out.later hb)) HSX.out.health HSY.out.health)
  have HC6 := hide (fun (V : World) (hb : Below W.heap.size W V) => same_causes ua6 ub6 p6 q6 V (hide (Ha6.out.later hb)) (hide (Hb6.out.later hb)) HSX.out.causes.1 HSY.out.causes.1 HSX.out.causes.2 HSY.out.causes.2)
  have HC7 := hide (fun (V : World) (hb : Below W.heap.size W V) => same_versions ua7 ub7 p7 q7 V (hide (Ha7.out.later hb)) (hide (Hb7.out.later hb)) HSX.out.versions HSY.out.versions)
  obtain ⟨EQ, hEQ⟩ : ∃ b, eqB (⟨p0, p1, p2, p3, p4, p5, p6, p7⟩ : CfgD) ⟨q0, q1, q2, q3, q4, q5, q6, q7⟩ = b := ⟨_, rfl⟩
  rw [hEQ]
  clear Ha0 Hb0 Ha1 Hb1 Ha2 Hb2 Ha3 Hb3 Ha4 Hb4 Ha5 Hb5 Ha6 Hb6 Ha7 Hb7 HSX HSY
  rcases dR p0 q0 with h | rfl
  rotate_left
  rcases dR p1 q1 with h | rfl
  rotate_left
  rcases dR p2 q2 with h | rfl
  rotate_left
  rcases dR p3 q3 with h | rfl
  rotate_left
  rcases dR p4 q4 with h | rfl
  rotate_left
  rcases dR p5 q5 with h | rfl
  rotate_left
  rcases dR p6 q6 with h | rfl
  rotate_left
  rcases dR p7 q7 with h | rfl
  rotate_left
  all_goals
    first
      | have hq : EQ = true := hEQ.symm.trans (eqB_yes rfl)
      | have hq : EQ = false := hEQ.symm.trans (eqB_no (by intro e; cases e; simp [eqB_self] at h))
    subst hq
    clear hEQ
    go_enter Tryz.func12, Tryz.ntmps12
    go_wp2_with fail
    try
      with_reducible refine (HC0.out _ (((Below.refl _ W).alloc (Nat.le_refl _) _).alloc (by simp) _)).mono ?_
      rintro e w0 ⟨rfl, hb0⟩
      have HB0 := hide ((((Below.refl _ W).alloc (Nat.le_refl _) _).alloc (by simp) _ : Below W.heap.size W _).trans (hb0.mono (by simp; omega)))
      have hz0 : W.heap.size + 1 < w0.heap.size := by have := hb0.size; simp at this; omega
      have hy0 : W.heap.size < w0.heap.size := by omega
      obtain ⟨hc0, hf0⟩ := bcell hb0
      clear hb0
      go_wp2_with fail
    try
      with_reducible refine (HC1.out _ HB0.out).mono ?_
      rintro e w1 ⟨rfl, hb1⟩
      have HB1 := hide (HB0.out.trans (hb1.mono HB0.out.size))
      have hz1 : W.heap.size + 1 < w1.heap.size := by have := hb1.size; omega
      have hy1 : W.heap.size < w1.heap.size := by omega
      obtain ⟨hc1, hf1⟩ := bcell hb1
      clear hb1
      go_wp2_with fail
    try
      with_reducible refine (HC2.out _ HB1.out).mono ?_
      rintro e w2 ⟨rfl, hb2⟩
      have HB2 := hide (HB1.out.trans (hb2.mono HB1.out.size))
      have hz2 : W.heap.size + 1 < w2.heap.size := by have := hb2.size; omega
      have hy2 : W.heap.size < w2.heap.size := by omega
      obtain ⟨hc2, hf2⟩ := bcell hb2
      clear hb2
      go_wp2_with fail
    try
      with_reducible refine (HC3.out _ HB2.out).mono ?_
      rintro e w3 ⟨rfl, hb3⟩
      have HB3 := hide (HB2.out.trans (hb3.mono HB2.out.size))
      have hz3 : W.heap.size + 1 < w3.heap.size := by have := hb3.size; omega
      have hy3 : W.heap.size < w3.heap.size := by omega
      obtain ⟨hc3, hf3⟩ := bcell hb3
      clear hb3
      go_wp2_with fail
    try
      with_reducible refine (HC4.out _ HB3.out).mono ?_
      rintro e w4 ⟨rfl, hb4⟩
      have HB4 := hide (HB3.out.trans (hb4.mono HB3.out.size))
      have hz4 : W.heap.size + 1 < w4.heap.size := by have := hb4.size; omega
      have hy4 : W.heap.size < w4.heap.size := by omega
      obtain ⟨hc4, hf4⟩ := bcell hb4
      clear hb4
      go_wp2_with fail
    try
      with_reducible refine (HC5.out _ HB4.out).mono ?_
      rintro e w5 ⟨rfl, hb5⟩
      have HB5 := hide (HB4.out.trans (hb5.mono HB4.out.size))
      have hz5 : W.heap.size + 1 < w5.heap.size := by have := hb5.size; omega
      have hy5 : W.heap.size < w5.heap.size := by omega
      obtain ⟨hc5, hf5⟩ := bcell hb5
      clear hb5
      go_wp2_with fail
    try
      with_reducible refine (HC6.out _ HB5.out).mono ?_
      rintro e w6 ⟨rfl, hb6⟩
      have HB6 := hide (HB5.out.trans (hb6.mono HB5.out.size))
      have hz6 : W.heap.size + 1 < w6.heap.size := by have := hb6.size; omega
      have hy6 : W.heap.size < w6.heap.size := by omega
      obtain ⟨hc6, hf6⟩ := bcell hb6
      clear hb6
      go_wp2_with fail
    try
      with_reducible refine (HC7.out _ HB6.out).mono ?_
      rintro e w7 ⟨rfl, hb7⟩
      have HB7 := hide (HB6.out.trans (hb7.mono HB6.out.size))
      have hz7 : W.heap.size + 1 < w7.heap.size := by have := hb7.size; omega
      have hy7 : W.heap.size < w7.heap.size := by omega
      obtain ⟨hc7, hf7⟩ := bcell hb7
      clear hb7
      go_wp2_with fail
    go_ret
    first
      | exact ⟨rfl, HB7.out⟩
      | exact ⟨rfl, HB6.out⟩
      | exact ⟨rfl, HB5.out⟩
      | exact ⟨rfl, HB4.out⟩
      | exact ⟨rfl, HB3.out⟩
      | exact ⟨rfl, HB2.out⟩
      | exact ⟨rfl, HB1.out⟩
      | exact ⟨rfl, HB0.out⟩
      | exact ⟨rfl, (((Below.refl _ W).alloc (Nat.le_refl _) _).alloc (by simp) _)⟩
end Go.Proofs.YtlngbjphagnloaaGreatDoor
namespace Go.Proofs.YtlngbjphagnloaaGreatDoor
theorem returnsInHanded_both {H : Type} {enc : TypeId × Value → H} {a : Assume} {C : Checked} {os : Os} {f : FuncId} {fn : Func} {s : ChangeSpec} {conds : List PathCond} {apart fresh handsOn again : Bool} {X : World → Array Value → Prop}
    (hX : ∀ (w w' : World) (args : Array Value), w.heap = w'.heap → X w args → X w' args)
    (own : ownKnob C.prog.godebug = none) (started : os.Started) (noInit : C.prog.inits.idxOf? f = none) (hfn : C.prog.funcs[f]? = some fn)
    (witness : ∃ (w : World) (tape : Tape) (i : Input), w.os = os ∧ (w.forCall tape i).Shaped C.prog ∧ i.vars = [] ∧ Input.okWide C.prog (w.forCall tape i) .any w.heap.size f i ∧
      ((s.pre enc C.prog fn conds apart (w.forCall tape i).memory i.args ∧ X (w.forCall tape i).memory i.args) ∧ sizedMet enc C.prog fn (OpenSpec.ofChange s) apart (w.forCall tape i).memory i.args) ∧ a.holds C.prog (lone (Frame.enter C.prog f i.args .normal) [] (w.forCall tape i)))
    (contract : ∀ (W : World) (base : Nat) (args : Array Value) (ds gs : List (DataW H)) (before : List MemPlace),
      (∀ (j : Nat) t v, fn.params[j]? = some t → args[j]? = some v → Value.okWide C.prog W .any base t v) →
      DataW.Whole enc C.prog fn.params.toList s.vars apart W args.toList ds gs before →
      conds.all (PathCond.test C.prog ⟨fn.params.toList, ds, s.plain.varTypes C.prog, gs⟩) = true →
      (DataW.weightsEach C.prog (fn.params.toList ++ s.plain.varTypes C.prog) (ds ++ gs)).all (· ≤ reachBytes) = true → X W args → W.ShapedOpen C.prog →
      a.holds C.prog (lone (Frame.enter C.prog f args .normal) [] W) →
      Calls C.prog f args W fun e W' => ∃ v, e = .returned v ∧ s.post enc C.prog fn apart fresh handsOn again W args v W') :
    ReturnsInHanded a C os f .any (fun w args => (s.pre enc C.prog fn conds apart w args ∧ X w args) ∧ sizedMet enc C.prog fn (OpenSpec.ofChange s) apart w args) (s.post enc C.prog fn apart fresh handsOn again) := by
  refine returnsInHanded_of_calls own started noInit witness ?_
  intro w tape i _ hsh _ hok hpre hholds
  obtain ⟨_, _, _, fn', hfn', _, _, _, _, hval⟩ := hok
  have e : fn' = fn := Option.some.inj (hfn'.symm.trans hfn)
  subst e
  obtain ⟨⟨⟨ds, gs, before, hw, hc⟩, hx⟩, hz⟩ := hpre
  have hw' := DataW.Whole.of_heap (w' := w.forCall tape i) (by rfl) hw
  refine (contract (w.forCall tape i) w.heap.size i.args ds gs before hval hw' hc (hz.weights hw) (hX _ _ _ (by rfl) hx) hsh hholds).mono fun e W' ⟨v, he, hp⟩ => ?_
  subst he
  exact ChangeSpec.post_blind hp
end Go.Proofs.YtlngbjphagnloaaGreatDoor
