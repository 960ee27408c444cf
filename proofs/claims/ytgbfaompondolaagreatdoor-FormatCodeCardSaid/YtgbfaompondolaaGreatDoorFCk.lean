/-
  FormatCode: the closed facts of the row, one by one (printed by tools/mkfacts.py).
-/
import Derived.Test.YtgbfaompondolaaGreatDoorPk17
namespace Go.Proofs.YtgbfaompondolaaGreatDoor
open Go.ChangeShapes Go.WideShapes Go.ChangeAt Go.RowKit Go.Joins
open Go.WideMaps Go.WideElems
theorem andB {a b : Bool} (h : a = true) (k : b = true) : (a && b) = true := by rw [h, k]; rfl
theorem formatCode_j0 : (Rows.formatCodeRow.wf (OpenSpec.ofChange Rows.formatCodeSpec)) = true := by kernel_rfl
theorem formatCode_j1 : (laidOutB Tryz.pinned.checked.prog) = true := by kernel_rfl
theorem formatCode_j2 : (mapsRowed Tryz.pinned.checked.prog) = true := by kernel_rfl
theorem formatCode_j3 : (Tryz.f4.params.all (Tryz.pinned.checked.prog.readableRec ·)) = true := by kernel_rfl
theorem formatCode_j4 : (namedTie Tryz.pinned.checked.prog Rows.formatCodeRow.named Rows.formatCodeSpec.vars) = true := by kernel_rfl
theorem formatCode_j5 : ((Rows.formatCodeRow.stops == [])) = true := by kernel_rfl
theorem formatCode_j6 : ((Tryz.pinned.checked.prog.stops == [])) = true := by kernel_rfl
theorem formatCode_j7 : ((Rows.formatCodeRow.knobs == [])) = true := by kernel_rfl
theorem formatCode_j8 : ((Tryz.pinned.checked.prog.stopKnobs == [])) = true := by kernel_rfl
theorem formatCode_j9 : ((Rows.formatCodeRow.inPlace == Tryz.pinned.checked.prog.inPlace 4)) = true := by kernel_rfl
theorem formatCode_j10 : ((Rows.formatCodeRow.unfollowed == Tryz.pinned.checked.prog.unfollowed 4)) = true := by kernel_rfl
theorem formatCode_j11 : ((Rows.formatCodeRow.recurses == Tryz.pinned.checked.prog.recurses 4)) = true := by kernel_rfl
theorem formatCode_j12 : ((Rows.formatCodeRow.named == Tryz.pinned.checked.prog.varsNamed 4)) = true := by kernel_rfl
theorem formatCode_j13 : ((Rows.formatCodeRow.maps == (Tryz.f4.params.toList ++ Rows.formatCodeSpec.plain.varTypes Tryz.pinned.checked.prog).any (Tryz.pinned.checked.prog.mapsRec ·))) = true := by kernel_rfl
theorem formatCode_j14 : ((Rows.formatCodeRow.ifaces == (Tryz.f4.params.toList ++ Rows.formatCodeSpec.plain.varTypes Tryz.pinned.checked.prog).any (Tryz.pinned.checked.prog.ifacesRec ·))) = true := by kernel_rfl
theorem formatCode_j15 : ((Rows.formatCodeRow.mapsOut == Tryz.pinned.checked.prog.mapsAmong Tryz.f4.resultTypes.toList)) = true := by kernel_rfl
theorem formatCode_j16 : ((Rows.formatCodeRow.loops == (Tryz.f4.params.toList ++ Rows.formatCodeSpec.plain.varTypes Tryz.pinned.checked.prog).any (Tryz.pinned.checked.prog.loopsFrom ·))) = true := by kernel_rfl
theorem formatCode_j17 : ((Rows.formatCodeRow.wideKeys == (Tryz.f4.params.toList ++ Rows.formatCodeSpec.plain.varTypes Tryz.pinned.checked.prog ++ Tryz.f4.resultTypes.toList).any (Tryz.pinned.checked.prog.wideKeysFrom ·))) = true := by kernel_rfl
theorem formatCode_j18 : (Rows.formatCodeSpec.vars.all (Tryz.pinned.checked.prog.varReadable ·)) = true := by kernel_rfl
theorem formatCode_j19 : (Tryz.f4.resultTypes.all (fun t => Tryz.pinned.checked.prog.readableRec t && decide (t < Tryz.pinned.checked.prog.types.size))) = true := by kernel_rfl
theorem formatCode_j20 : ((Rows.formatCodeRow.ifacesOut == Tryz.f4.resultTypes.toList.any (Tryz.pinned.checked.prog.ifacesRec ·))) = true := by kernel_rfl
theorem formatCode_j21 : ((Rows.formatCodeRow.loopsOut == Tryz.f4.resultTypes.toList.any (Tryz.pinned.checked.prog.loopsFrom ·))) = true := by kernel_rfl
theorem formatCode_j22 : ((Rows.formatCodeRow.plainKeys == Tryz.pinned.checked.prog.plainKeys)) = true := by kernel_rfl
theorem formatCode_j23 : (Rows.formatCodeRow.shortTexts.isNone) = true := by kernel_rfl
theorem formatCode_j24 : (Tryz.pinned.checked.prog.stopsHeard) = true := by kernel_rfl
theorem formatCode_j25 : (Tryz.pinned.checked.prog.mayEnter) = true := by kernel_rfl
theorem formatCode_j26 : ((Rows.formatCodeRow.lifted == Tryz.pinned.checked.prog.liftsFinal)) = true := by kernel_rfl
theorem formatCode_j27 : ((Tryz.pinned.checked.prog.make == some Rows.formatCodeRow.make)) = true := by kernel_rfl
theorem formatCode_j29 : ((Rows.formatCodeRow.pinned == Rows.formatCodeRow.pinnedBy)) = true := by kernel_rfl
theorem formatCode_j30 : ((Rows.formatCodeRow.veiled == (Tryz.f4.params.toList ++ Rows.formatCodeSpec.plain.varTypes Tryz.pinned.checked.prog ++ Tryz.f4.resultTypes.toList).any (Tryz.pinned.checked.prog.veiledRec ·))) = true := by kernel_rfl
theorem formatCode_j31 : (Rows.formatCodeRow.veiledFits Tryz.pinned.checked.prog Tryz.f4.params.toList (Tryz.f4.params.toList ++ Rows.formatCodeSpec.plain.varTypes Tryz.pinned.checked.prog ++ Tryz.f4.resultTypes.toList)) = true := by kernel_rfl
theorem formatCode_closed : joinedFacts Tryz.pinned.checked.prog 4 Tryz.f4 Rows.formatCodeSpec Rows.formatCodeRow = true := by
  unfold joinedFacts
  exact (andB (andB (andB (andB (andB (andB (andB (andB (andB (andB (andB (andB (andB (andB (andB (andB (andB (andB (andB (andB (andB (andB (andB (andB (andB (andB (andB (andB (andB (andB (andB formatCode_j0 formatCode_j1) formatCode_j2) formatCode_j3) formatCode_j4) formatCode_j5) formatCode_j6) formatCode_j7) formatCode_j8) formatCode_j9) formatCode_j10) formatCode_j11) formatCode_j12) formatCode_j13) formatCode_j14) formatCode_j15) formatCode_j16) formatCode_j17) formatCode_j18) formatCode_j19) formatCode_j20) formatCode_j21) formatCode_j22) formatCode_j23) formatCode_j24) formatCode_j25) formatCode_j26) formatCode_j27) (by kernel_rfl)) formatCode_j29) formatCode_j30) formatCode_j31)
theorem formatCode_inst : Tryz.f4.isInstance Tryz.pinned.checked.prog Rows.formatCodeRow.origin Rows.formatCodeRow.targs := of_decide_eq_true (by kernel_rfl)
theorem formatCode_wrap : Tryz.f4.isWrapper Tryz.pinned.checked.prog Rows.formatCodeRow.wrapper Rows.formatCodeRow.mainSum := by unfold Func.isWrapper; first | (rw [if_pos (by decide +kernel)]; kernel_rfl) | (rw [if_neg (by decide +kernel)]; exact ⟨rfl, rfl⟩)
theorem formatCode_named : Tryz.pinned.checked.prog.funcNamed Rows.formatCodeRow.func = some 4 := by kernel_rfl
end Go.Proofs.YtgbfaompondolaaGreatDoor
