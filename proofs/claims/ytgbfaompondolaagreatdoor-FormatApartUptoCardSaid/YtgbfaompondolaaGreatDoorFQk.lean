/-
  FormatApart: the closed facts of the row, one by one (printed by tools/mkfacts.py).
-/
import Derived.Test.YtgbfaompondolaaGreatDoorPk17
namespace Go.Proofs.YtgbfaompondolaaGreatDoor
open Go.ChangeShapes Go.WideShapes Go.ChangeAt Go.RowKit Go.Joins
open Go.WideMaps Go.WideElems
theorem andB {a b : Bool} (h : a = true) (k : b = true) : (a && b) = true := by rw [h, k]; rfl
theorem formatApart_j0 : (Rows.formatApartUptoRow.wf (OpenSpec.ofChange Rows.formatApartSpec)) = true := by kernel_rfl
theorem formatApart_j1 : (laidOutB Tryz.pinned.checked.prog) = true := by kernel_rfl
theorem formatApart_j2 : (mapsRowed Tryz.pinned.checked.prog) = true := by kernel_rfl
theorem formatApart_j3 : (Tryz.f6.params.all (Tryz.pinned.checked.prog.readableRec ·)) = true := by kernel_rfl
theorem formatApart_j4 : (namedTie Tryz.pinned.checked.prog Rows.formatApartUptoRow.named Rows.formatApartSpec.vars) = true := by kernel_rfl
theorem formatApart_j5 : ((Rows.formatApartUptoRow.stops == [])) = true := by kernel_rfl
theorem formatApart_j6 : ((Tryz.pinned.checked.prog.stops == [])) = true := by kernel_rfl
theorem formatApart_j7 : ((Rows.formatApartUptoRow.knobs == [])) = true := by kernel_rfl
theorem formatApart_j8 : ((Tryz.pinned.checked.prog.stopKnobs == [])) = true := by kernel_rfl
theorem formatApart_j9 : ((Rows.formatApartUptoRow.inPlace == Tryz.pinned.checked.prog.inPlace 6)) = true := by kernel_rfl
theorem formatApart_j10 : ((Rows.formatApartUptoRow.unfollowed == Tryz.pinned.checked.prog.unfollowed 6)) = true := by kernel_rfl
theorem formatApart_j11 : ((Rows.formatApartUptoRow.recurses == Tryz.pinned.checked.prog.recurses 6)) = true := by kernel_rfl
theorem formatApart_j12 : ((Rows.formatApartUptoRow.named == Tryz.pinned.checked.prog.varsNamed 6)) = true := by kernel_rfl
theorem formatApart_j13 : ((Rows.formatApartUptoRow.maps == (Tryz.f6.params.toList ++ Rows.formatApartSpec.plain.varTypes Tryz.pinned.checked.prog).any (Tryz.pinned.checked.prog.mapsRec ·))) = true := by kernel_rfl
theorem formatApart_j14 : ((Rows.formatApartUptoRow.ifaces == (Tryz.f6.params.toList ++ Rows.formatApartSpec.plain.varTypes Tryz.pinned.checked.prog).any (Tryz.pinned.checked.prog.ifacesRec ·))) = true := by kernel_rfl
theorem formatApart_j15 : ((Rows.formatApartUptoRow.mapsOut == Tryz.pinned.checked.prog.mapsAmong Tryz.f6.resultTypes.toList)) = true := by kernel_rfl
theorem formatApart_j16 : ((Rows.formatApartUptoRow.loops == (Tryz.f6.params.toList ++ Rows.formatApartSpec.plain.varTypes Tryz.pinned.checked.prog).any (Tryz.pinned.checked.prog.loopsFrom ·))) = true := by kernel_rfl
theorem formatApart_j17 : ((Rows.formatApartUptoRow.wideKeys == (Tryz.f6.params.toList ++ Rows.formatApartSpec.plain.varTypes Tryz.pinned.checked.prog ++ Tryz.f6.resultTypes.toList).any (Tryz.pinned.checked.prog.wideKeysFrom ·))) = true := by kernel_rfl
theorem formatApart_j18 : (Rows.formatApartSpec.vars.all (Tryz.pinned.checked.prog.varReadable ·)) = true := by kernel_rfl
theorem formatApart_j19 : (Tryz.f6.resultTypes.all (fun t => Tryz.pinned.checked.prog.readableRec t && decide (t < Tryz.pinned.checked.prog.types.size))) = true := by kernel_rfl
theorem formatApart_j20 : ((Rows.formatApartUptoRow.ifacesOut == Tryz.f6.resultTypes.toList.any (Tryz.pinned.checked.prog.ifacesRec ·))) = true := by kernel_rfl
theorem formatApart_j21 : ((Rows.formatApartUptoRow.loopsOut == Tryz.f6.resultTypes.toList.any (Tryz.pinned.checked.prog.loopsFrom ·))) = true := by kernel_rfl
theorem formatApart_j22 : ((Rows.formatApartUptoRow.plainKeys == Tryz.pinned.checked.prog.plainKeys)) = true := by kernel_rfl
theorem formatApart_j23 : (Rows.formatApartUptoRow.shortTexts.isNone) = true := by kernel_rfl
theorem formatApart_j24 : (Tryz.pinned.checked.prog.stopsHeard) = true := by kernel_rfl
theorem formatApart_j25 : (Tryz.pinned.checked.prog.mayEnter) = true := by kernel_rfl
theorem formatApart_j26 : ((Rows.formatApartUptoRow.lifted == Tryz.pinned.checked.prog.liftsFinal)) = true := by kernel_rfl
theorem formatApart_j27 : ((Tryz.pinned.checked.prog.make == some Rows.formatApartUptoRow.make)) = true := by kernel_rfl
theorem formatApart_j29 : ((Rows.formatApartUptoRow.pinned == Rows.formatApartUptoRow.pinnedBy)) = true := by kernel_rfl
theorem formatApart_j30 : ((Rows.formatApartUptoRow.veiled == (Tryz.f6.params.toList ++ Rows.formatApartSpec.plain.varTypes Tryz.pinned.checked.prog ++ Tryz.f6.resultTypes.toList).any (Tryz.pinned.checked.prog.veiledRec ·))) = true := by kernel_rfl
theorem formatApart_j31 : (Rows.formatApartUptoRow.veiledFits Tryz.pinned.checked.prog Tryz.f6.params.toList (Tryz.f6.params.toList ++ Rows.formatApartSpec.plain.varTypes Tryz.pinned.checked.prog ++ Tryz.f6.resultTypes.toList)) = true := by kernel_rfl
theorem formatApart_closed : joinedFacts Tryz.pinned.checked.prog 6 Tryz.f6 Rows.formatApartSpec Rows.formatApartUptoRow = true := by
  unfold joinedFacts
  exact (andB (andB (andB (andB (andB (andB (andB (andB (andB (andB (andB (andB (andB (andB (andB (andB (andB (andB (andB (andB (andB (andB (andB (andB (andB (andB (andB (andB (andB (andB (andB formatApart_j0 formatApart_j1) formatApart_j2) formatApart_j3) formatApart_j4) formatApart_j5) formatApart_j6) formatApart_j7) formatApart_j8) formatApart_j9) formatApart_j10) formatApart_j11) formatApart_j12) formatApart_j13) formatApart_j14) formatApart_j15) formatApart_j16) formatApart_j17) formatApart_j18) formatApart_j19) formatApart_j20) formatApart_j21) formatApart_j22) formatApart_j23) formatApart_j24) formatApart_j25) formatApart_j26) formatApart_j27) (by kernel_rfl)) formatApart_j29) formatApart_j30) formatApart_j31)
theorem formatApart_inst : Tryz.f6.isInstance Tryz.pinned.checked.prog Rows.formatApartUptoRow.origin Rows.formatApartUptoRow.targs := of_decide_eq_true (by kernel_rfl)
theorem formatApart_wrap : Tryz.f6.isWrapper Tryz.pinned.checked.prog Rows.formatApartUptoRow.wrapper Rows.formatApartUptoRow.mainSum := by unfold Func.isWrapper; first | (rw [if_pos (by decide +kernel)]; kernel_rfl) | (rw [if_neg (by decide +kernel)]; exact ⟨rfl, rfl⟩)
theorem formatApart_named : Tryz.pinned.checked.prog.funcNamed Rows.formatApartUptoRow.func = some 6 := by kernel_rfl
end Go.Proofs.YtgbfaompondolaaGreatDoor
