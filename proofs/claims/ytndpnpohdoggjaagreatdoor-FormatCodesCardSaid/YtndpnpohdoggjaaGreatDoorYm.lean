/-
  FormatCodes: the closed facts of the row, one by one (printed by tools/mkfacts.py).
-/
import Derived.Test.YtndpnpohdoggjaaGreatDoorPk21
namespace Go.Proofs.YtndpnpohdoggjaaGreatDoor
open Go.ChangeShapes Go.WideShapes Go.ChangeAt Go.RowKit Go.Joins
open Go.WideMaps Go.WideElems
theorem andB {a b : Bool} (h : a = true) (k : b = true) : (a && b) = true := by rw [h, k]; rfl
theorem formatCodes_j0 : (Rows.formatCodesRow.wf (OpenSpec.ofChange Rows.formatCodesSpec)) = true := by kernel_rfl
theorem formatCodes_j1 : (laidOutB Tryz.pinned.checked.prog) = true := by kernel_rfl
theorem formatCodes_j2 : (mapsRowed Tryz.pinned.checked.prog) = true := by kernel_rfl
theorem formatCodes_j3 : (Tryz.f3.params.all (Tryz.pinned.checked.prog.readableRec ·)) = true := by kernel_rfl
theorem formatCodes_j4 : (namedTie Tryz.pinned.checked.prog Rows.formatCodesRow.named Rows.formatCodesSpec.vars) = true := by kernel_rfl
theorem formatCodes_j5 : ((Rows.formatCodesRow.stops == [])) = true := by kernel_rfl
theorem formatCodes_j6 : ((Tryz.pinned.checked.prog.stops == [])) = true := by kernel_rfl
theorem formatCodes_j7 : ((Rows.formatCodesRow.knobs == [])) = true := by kernel_rfl
theorem formatCodes_j8 : ((Tryz.pinned.checked.prog.stopKnobs == [])) = true := by kernel_rfl
theorem formatCodes_j9 : ((Rows.formatCodesRow.inPlace == Tryz.pinned.checked.prog.inPlace 3)) = true := by kernel_rfl
theorem formatCodes_j10 : ((Rows.formatCodesRow.unfollowed == Tryz.pinned.checked.prog.unfollowed 3)) = true := by kernel_rfl
theorem formatCodes_j11 : ((Rows.formatCodesRow.recurses == Tryz.pinned.checked.prog.recurses 3)) = true := by kernel_rfl
theorem formatCodes_j12 : ((Rows.formatCodesRow.named == Tryz.pinned.checked.prog.varsNamed 3)) = true := by kernel_rfl
theorem formatCodes_j13 : ((Rows.formatCodesRow.maps == (Tryz.f3.params.toList ++ Rows.formatCodesSpec.plain.varTypes Tryz.pinned.checked.prog).any (Tryz.pinned.checked.prog.mapsRec ·))) = true := by kernel_rfl
theorem formatCodes_j14 : ((Rows.formatCodesRow.ifaces == (Tryz.f3.params.toList ++ Rows.formatCodesSpec.plain.varTypes Tryz.pinned.checked.prog).any (Tryz.pinned.checked.prog.ifacesRec ·))) = true := by kernel_rfl
theorem formatCodes_j15 : ((Rows.formatCodesRow.mapsOut == Tryz.pinned.checked.prog.mapsAmong Tryz.f3.resultTypes.toList)) = true := by kernel_rfl
theorem formatCodes_j16 : ((Rows.formatCodesRow.loops == (Tryz.f3.params.toList ++ Rows.formatCodesSpec.plain.varTypes Tryz.pinned.checked.prog).any (Tryz.pinned.checked.prog.loopsFrom ·))) = true := by kernel_rfl
theorem formatCodes_j17 : ((Rows.formatCodesRow.wideKeys == (Tryz.f3.params.toList ++ Rows.formatCodesSpec.plain.varTypes Tryz.pinned.checked.prog ++ Tryz.f3.resultTypes.toList).any (Tryz.pinned.checked.prog.wideKeysFrom ·))) = true := by kernel_rfl
theorem formatCodes_j18 : (Rows.formatCodesSpec.vars.all (Tryz.pinned.checked.prog.varReadable ·)) = true := by kernel_rfl
theorem formatCodes_j19 : (Tryz.f3.resultTypes.all (fun t => Tryz.pinned.checked.prog.readableRec t && decide (t < Tryz.pinned.checked.prog.types.size))) = true := by kernel_rfl
theorem formatCodes_j20 : ((Rows.formatCodesRow.ifacesOut == Tryz.f3.resultTypes.toList.any (Tryz.pinned.checked.prog.ifacesRec ·))) = true := by kernel_rfl
theorem formatCodes_j21 : ((Rows.formatCodesRow.loopsOut == Tryz.f3.resultTypes.toList.any (Tryz.pinned.checked.prog.loopsFrom ·))) = true := by kernel_rfl
theorem formatCodes_j22 : ((Rows.formatCodesRow.plainKeys == Tryz.pinned.checked.prog.plainKeys)) = true := by kernel_rfl
theorem formatCodes_j23 : (Rows.formatCodesRow.shortTexts.isNone) = true := by kernel_rfl
theorem formatCodes_j24 : (Tryz.pinned.checked.prog.stopsHeard) = true := by kernel_rfl
theorem formatCodes_j25 : (Tryz.pinned.checked.prog.mayEnter) = true := by kernel_rfl
theorem formatCodes_j26 : ((Rows.formatCodesRow.lifted == Tryz.pinned.checked.prog.liftsFinal)) = true := by kernel_rfl
theorem formatCodes_j27 : ((Tryz.pinned.checked.prog.make == some Rows.formatCodesRow.make)) = true := by kernel_rfl
theorem formatCodes_j29 : ((Rows.formatCodesRow.pinned == Rows.formatCodesRow.pinnedBy)) = true := by kernel_rfl
theorem formatCodes_j30 : ((Rows.formatCodesRow.veiled == (Tryz.f3.params.toList ++ Rows.formatCodesSpec.plain.varTypes Tryz.pinned.checked.prog ++ Tryz.f3.resultTypes.toList).any (Tryz.pinned.checked.prog.veiledRec ·))) = true := by kernel_rfl
theorem formatCodes_j31 : (Rows.formatCodesRow.veiledFits Tryz.pinned.checked.prog Tryz.f3.params.toList (Tryz.f3.params.toList ++ Rows.formatCodesSpec.plain.varTypes Tryz.pinned.checked.prog ++ Tryz.f3.resultTypes.toList)) = true := by kernel_rfl
theorem formatCodes_closed : joinedFacts Tryz.pinned.checked.prog 3 Tryz.f3 Rows.formatCodesSpec Rows.formatCodesRow = true := by
  unfold joinedFacts
  exact (andB (andB (andB (andB (andB (andB (andB (andB (andB (andB (andB (andB (andB (andB (andB (andB (andB (andB (andB (andB (andB (andB (andB (andB (andB (andB (andB (andB (andB (andB (andB formatCodes_j0 formatCodes_j1) formatCodes_j2) formatCodes_j3) formatCodes_j4) formatCodes_j5) formatCodes_j6) formatCodes_j7) formatCodes_j8) formatCodes_j9) formatCodes_j10) formatCodes_j11) formatCodes_j12) formatCodes_j13) formatCodes_j14) formatCodes_j15) formatCodes_j16) formatCodes_j17) formatCodes_j18) formatCodes_j19) formatCodes_j20) formatCodes_j21) formatCodes_j22) formatCodes_j23) formatCodes_j24) formatCodes_j25) formatCodes_j26) formatCodes_j27) (by kernel_rfl)) formatCodes_j29) formatCodes_j30) formatCodes_j31)
theorem formatCodes_inst : Tryz.f3.isInstance Tryz.pinned.checked.prog Rows.formatCodesRow.origin Rows.formatCodesRow.targs := of_decide_eq_true (by kernel_rfl)
theorem formatCodes_wrap : Tryz.f3.isWrapper Tryz.pinned.checked.prog Rows.formatCodesRow.wrapper Rows.formatCodesRow.mainSum := by unfold Func.isWrapper; first | (rw [if_pos (by decide +kernel)]; kernel_rfl) | (rw [if_neg (by decide +kernel)]; exact ⟨rfl, rfl⟩)
theorem formatCodes_named : Tryz.pinned.checked.prog.funcNamed Rows.formatCodesRow.func = some 3 := by kernel_rfl
end Go.Proofs.YtndpnpohdoggjaaGreatDoor
