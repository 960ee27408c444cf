/-
  FormatAppends: the closed facts of the row, one by one (printed by tools/mkfacts.py).
-/
import Derived.Test.YtgbfaompondolaaGreatDoorPk17
namespace Go.Proofs.YtgbfaompondolaaGreatDoor
open Go.ChangeShapes Go.WideShapes Go.ChangeAt Go.RowKit Go.Joins
open Go.WideMaps Go.WideElems
theorem andB {a b : Bool} (h : a = true) (k : b = true) : (a && b) = true := by rw [h, k]; rfl
theorem formatAppends_j0 : (Rows.formatAppendsUptoRow.wf (OpenSpec.ofChange Rows.formatAppendsSpec)) = true := by kernel_rfl
theorem formatAppends_j1 : (laidOutB Tryz.pinned.checked.prog) = true := by kernel_rfl
theorem formatAppends_j2 : (mapsRowed Tryz.pinned.checked.prog) = true := by kernel_rfl
theorem formatAppends_j3 : (Tryz.f7.params.all (Tryz.pinned.checked.prog.readableRec ·)) = true := by kernel_rfl
theorem formatAppends_j4 : (namedTie Tryz.pinned.checked.prog Rows.formatAppendsUptoRow.named Rows.formatAppendsSpec.vars) = true := by kernel_rfl
theorem formatAppends_j5 : ((Rows.formatAppendsUptoRow.stops == [])) = true := by kernel_rfl
theorem formatAppends_j6 : ((Tryz.pinned.checked.prog.stops == [])) = true := by kernel_rfl
theorem formatAppends_j7 : ((Rows.formatAppendsUptoRow.knobs == [])) = true := by kernel_rfl
theorem formatAppends_j8 : ((Tryz.pinned.checked.prog.stopKnobs == [])) = true := by kernel_rfl
theorem formatAppends_j9 : ((Rows.formatAppendsUptoRow.inPlace == Tryz.pinned.checked.prog.inPlace 7)) = true := by kernel_rfl
theorem formatAppends_j10 : ((Rows.formatAppendsUptoRow.unfollowed == Tryz.pinned.checked.prog.unfollowed 7)) = true := by kernel_rfl
theorem formatAppends_j11 : ((Rows.formatAppendsUptoRow.recurses == Tryz.pinned.checked.prog.recurses 7)) = true := by kernel_rfl
theorem formatAppends_j12 : ((Rows.formatAppendsUptoRow.named == Tryz.pinned.checked.prog.varsNamed 7)) = true := by kernel_rfl
theorem formatAppends_j13 : ((Rows.formatAppendsUptoRow.maps == (Tryz.f7.params.toList ++ Rows.formatAppendsSpec.plain.varTypes Tryz.pinned.checked.prog).any (Tryz.pinned.checked.prog.mapsRec ·))) = true := by kernel_rfl
theorem formatAppends_j14 : ((Rows.formatAppendsUptoRow.ifaces == (Tryz.f7.params.toList ++ Rows.formatAppendsSpec.plain.varTypes Tryz.pinned.checked.prog).any (Tryz.pinned.checked.prog.ifacesRec ·))) = true := by kernel_rfl
theorem formatAppends_j15 : ((Rows.formatAppendsUptoRow.mapsOut == Tryz.pinned.checked.prog.mapsAmong Tryz.f7.resultTypes.toList)) = true := by kernel_rfl
theorem formatAppends_j16 : ((Rows.formatAppendsUptoRow.loops == (Tryz.f7.params.toList ++ Rows.formatAppendsSpec.plain.varTypes Tryz.pinned.checked.prog).any (Tryz.pinned.checked.prog.loopsFrom ·))) = true := by kernel_rfl
theorem formatAppends_j17 : ((Rows.formatAppendsUptoRow.wideKeys == (Tryz.f7.params.toList ++ Rows.formatAppendsSpec.plain.varTypes Tryz.pinned.checked.prog ++ Tryz.f7.resultTypes.toList).any (Tryz.pinned.checked.prog.wideKeysFrom ·))) = true := by kernel_rfl
theorem formatAppends_j18 : (Rows.formatAppendsSpec.vars.all (Tryz.pinned.checked.prog.varReadable ·)) = true := by kernel_rfl
theorem formatAppends_j19 : (Tryz.f7.resultTypes.all (fun t => Tryz.pinned.checked.prog.readableRec t && decide (t < Tryz.pinned.checked.prog.types.size))) = true := by kernel_rfl
theorem formatAppends_j20 : ((Rows.formatAppendsUptoRow.ifacesOut == Tryz.f7.resultTypes.toList.any (Tryz.pinned.checked.prog.ifacesRec ·))) = true := by kernel_rfl
theorem formatAppends_j21 : ((Rows.formatAppendsUptoRow.loopsOut == Tryz.f7.resultTypes.toList.any (Tryz.pinned.checked.prog.loopsFrom ·))) = true := by kernel_rfl
theorem formatAppends_j22 : ((Rows.formatAppendsUptoRow.plainKeys == Tryz.pinned.checked.prog.plainKeys)) = true := by kernel_rfl
theorem formatAppends_j23 : (Rows.formatAppendsUptoRow.shortTexts.isNone) = true := by kernel_rfl
theorem formatAppends_j24 : (Tryz.pinned.checked.prog.stopsHeard) = true := by kernel_rfl
theorem formatAppends_j25 : (Tryz.pinned.checked.prog.mayEnter) = true := by kernel_rfl
theorem formatAppends_j26 : ((Rows.formatAppendsUptoRow.lifted == Tryz.pinned.checked.prog.liftsFinal)) = true := by kernel_rfl
theorem formatAppends_j27 : ((Tryz.pinned.checked.prog.make == some Rows.formatAppendsUptoRow.make)) = true := by kernel_rfl
theorem formatAppends_j29 : ((Rows.formatAppendsUptoRow.pinned == Rows.formatAppendsUptoRow.pinnedBy)) = true := by kernel_rfl
theorem formatAppends_j30 : ((Rows.formatAppendsUptoRow.veiled == (Tryz.f7.params.toList ++ Rows.formatAppendsSpec.plain.varTypes Tryz.pinned.checked.prog ++ Tryz.f7.resultTypes.toList).any (Tryz.pinned.checked.prog.veiledRec ·))) = true := by kernel_rfl
theorem formatAppends_j31 : (Rows.formatAppendsUptoRow.veiledFits Tryz.pinned.checked.prog Tryz.f7.params.toList (Tryz.f7.params.toList ++ Rows.formatAppendsSpec.plain.varTypes Tryz.pinned.checked.prog ++ Tryz.f7.resultTypes.toList)) = true := by kernel_rfl
theorem formatAppends_closed : joinedFacts Tryz.pinned.checked.prog 7 Tryz.f7 Rows.formatAppendsSpec Rows.formatAppendsUptoRow = true := by
  unfold joinedFacts
  exact (andB (andB (andB (andB (andB (andB (andB (andB (andB (andB (andB (andB (andB (andB (andB (andB (andB (andB (andB (andB (andB (andB (andB (andB (andB (andB (andB (andB (andB (andB (andB formatAppends_j0 formatAppends_j1) formatAppends_j2) formatAppends_j3) formatAppends_j4) formatAppends_j5) formatAppends_j6) formatAppends_j7) formatAppends_j8) formatAppends_j9) formatAppends_j10) formatAppends_j11) formatAppends_j12) formatAppends_j13) formatAppends_j14) formatAppends_j15) formatAppends_j16) formatAppends_j17) formatAppends_j18) formatAppends_j19) formatAppends_j20) formatAppends_j21) formatAppends_j22) formatAppends_j23) formatAppends_j24) formatAppends_j25) formatAppends_j26) formatAppends_j27) (by kernel_rfl)) formatAppends_j29) formatAppends_j30) formatAppends_j31)
theorem formatAppends_inst : Tryz.f7.isInstance Tryz.pinned.checked.prog Rows.formatAppendsUptoRow.origin Rows.formatAppendsUptoRow.targs := of_decide_eq_true (by kernel_rfl)
theorem formatAppends_wrap : Tryz.f7.isWrapper Tryz.pinned.checked.prog Rows.formatAppendsUptoRow.wrapper Rows.formatAppendsUptoRow.mainSum := by unfold Func.isWrapper; first | (rw [if_pos (by decide +kernel)]; kernel_rfl) | (rw [if_neg (by decide +kernel)]; exact ⟨rfl, rfl⟩)
theorem formatAppends_named : Tryz.pinned.checked.prog.funcNamed Rows.formatAppendsUptoRow.func = some 7 := by kernel_rfl
end Go.Proofs.YtgbfaompondolaaGreatDoor
