/-
  FormatTells: the closed facts of the row, one by one (printed by tools/mkfacts.py).-/
import Derived.Test.YtgbfaompondolaaGreatDoorPk19
namespace Go.Proofs.YtgbfaompondolaaGreatDoor
open Go.ChangeShapes Go.WideShapes Go.ChangeAt Go.RowKit Go.Joins
open Go.WideMaps Go.WideElems
theorem andB {a b:Bool} (h:a=true) (k:b=true):(a&&b)=true:=by rw[h,k];rfl
theorem formatTells_j0:(Rows.formatTellsUptoRow.wf (OpenSpec.ofChange Rows.formatTellsSpec))=true:=by kernel_rfl
theorem formatTells_j1:(laidOutB Tryz.pinned.checked.prog)=true:=by kernel_rfl
theorem formatTells_j2:(mapsRowed Tryz.pinned.checked.prog)=true:=by kernel_rfl
theorem formatTells_j3:(Tryz.f3.params.all (Tryz.pinned.checked.prog.readableRec ·))=true:=by kernel_rfl
theorem formatTells_j4:(namedTie Tryz.pinned.checked.prog Rows.formatTellsUptoRow.named Rows.formatTellsSpec.vars)=true:=by kernel_rfl
theorem formatTells_j5:((Rows.formatTellsUptoRow.stops==[]))=true:=by kernel_rfl
theorem formatTells_j6:((Tryz.pinned.checked.prog.stops==[]))=true:=by kernel_rfl
theorem formatTells_j7:((Rows.formatTellsUptoRow.knobs==[]))=true:=by kernel_rfl
theorem formatTells_j8:((Tryz.pinned.checked.prog.stopKnobs==[]))=true:=by kernel_rfl
theorem formatTells_j9:((Rows.formatTellsUptoRow.inPlace==Tryz.pinned.checked.prog.inPlace 3))=true:=by kernel_rfl
theorem formatTells_j10:((Rows.formatTellsUptoRow.unfollowed==Tryz.pinned.checked.prog.unfollowed 3))=true:=by kernel_rfl
theorem formatTells_j11:((Rows.formatTellsUptoRow.recurses==Tryz.pinned.checked.prog.recurses 3))=true:=by kernel_rfl
theorem formatTells_j12:((Rows.formatTellsUptoRow.named==Tryz.pinned.checked.prog.varsNamed 3))=true:=by kernel_rfl
theorem formatTells_j13:((Rows.formatTellsUptoRow.maps==(Tryz.f3.params.toList++Rows.formatTellsSpec.plain.varTypes Tryz.pinned.checked.prog).any (Tryz.pinned.checked.prog.mapsRec ·)))=true:=by kernel_rfl
theorem formatTells_j14:((Rows.formatTellsUptoRow.ifaces==(Tryz.f3.params.toList++Rows.formatTellsSpec.plain.varTypes Tryz.pinned.checked.prog).any (Tryz.pinned.checked.prog.ifacesRec ·)))=true:=by kernel_rfl
theorem formatTells_j15:((Rows.formatTellsUptoRow.mapsOut==Tryz.pinned.checked.prog.mapsAmong Tryz.f3.resultTypes.toList))=true:=by kernel_rfl
theorem formatTells_j16:((Rows.formatTellsUptoRow.loops==(Tryz.f3.params.toList++Rows.formatTellsSpec.plain.varTypes Tryz.pinned.checked.prog).any (Tryz.pinned.checked.prog.loopsFrom ·)))=true:=by kernel_rfl
theorem formatTells_j17:((Rows.formatTellsUptoRow.wideKeys==(Tryz.f3.params.toList++Rows.formatTellsSpec.plain.varTypes Tryz.pinned.checked.prog++Tryz.f3.resultTypes.toList).any (Tryz.pinned.checked.prog.wideKeysFrom ·)))=true:=by kernel_rfl
theorem formatTells_j18:(Rows.formatTellsSpec.vars.all (Tryz.pinned.checked.prog.varReadable ·))=true:=by kernel_rfl
theorem formatTells_j19:(Tryz.f3.resultTypes.all (fun t=>Tryz.pinned.checked.prog.readableRec t&&decide (t<Tryz.pinned.checked.prog.types.size)))=true:=by kernel_rfl
theorem formatTells_j20:((Rows.formatTellsUptoRow.ifacesOut==Tryz.f3.resultTypes.toList.any (Tryz.pinned.checked.prog.ifacesRec ·)))=true:=by kernel_rfl
theorem formatTells_j21:((Rows.formatTellsUptoRow.loopsOut==Tryz.f3.resultTypes.toList.any (Tryz.pinned.checked.prog.loopsFrom ·)))=true:=by kernel_rfl
theorem formatTells_j22:((Rows.formatTellsUptoRow.plainKeys==Tryz.pinned.checked.prog.plainKeys))=true:=by kernel_rfl
theorem formatTells_j23:(Rows.formatTellsUptoRow.shortTexts.isNone)=true:=by kernel_rfl
theorem formatTells_j24:(Tryz.pinned.checked.prog.stopsHeard)=true:=by kernel_rfl
theorem formatTells_j25:(Tryz.pinned.checked.prog.mayEnter)=true:=by kernel_rfl
theorem formatTells_j26:((Rows.formatTellsUptoRow.lifted==Tryz.pinned.checked.prog.liftsFinal))=true:=by kernel_rfl
theorem formatTells_j27:((Tryz.pinned.checked.prog.make==some Rows.formatTellsUptoRow.make))=true:=by kernel_rfl
theorem formatTells_j29:((Rows.formatTellsUptoRow.pinned==Rows.formatTellsUptoRow.pinnedBy))=true:=by kernel_rfl
theorem formatTells_j30:((Rows.formatTellsUptoRow.veiled==(Tryz.f3.params.toList++Rows.formatTellsSpec.plain.varTypes Tryz.pinned.checked.prog++Tryz.f3.resultTypes.toList).any (Tryz.pinned.checked.prog.veiledRec ·)))=true:=by kernel_rfl
theorem formatTells_j31:(Rows.formatTellsUptoRow.veiledFits Tryz.pinned.checked.prog Tryz.f3.params.toList (Tryz.f3.params.toList++Rows.formatTellsSpec.plain.varTypes Tryz.pinned.checked.prog++Tryz.f3.resultTypes.toList))=true:=by kernel_rfl
theorem formatTells_closed:joinedFacts Tryz.pinned.checked.prog 3 Tryz.f3 Rows.formatTellsSpec Rows.formatTellsUptoRow=true:=by
 unfold joinedFacts;exact(andB (andB (andB (andB (andB (andB (andB (andB (andB (andB (andB (andB (andB (andB (andB (andB (andB (andB (andB (andB (andB (andB (andB (andB (andB (andB (andB (andB (andB (andB (andB formatTells_j0 formatTells_j1) formatTells_j2) formatTells_j3) formatTells_j4) formatTells_j5) formatTells_j6) formatTells_j7) formatTells_j8) formatTells_j9) formatTells_j10) formatTells_j11) formatTells_j12) formatTells_j13) formatTells_j14) formatTells_j15) formatTells_j16) formatTells_j17) formatTells_j18) formatTells_j19) formatTells_j20) formatTells_j21) formatTells_j22) formatTells_j23) formatTells_j24) formatTells_j25) formatTells_j26) formatTells_j27) (by kernel_rfl)) formatTells_j29) formatTells_j30) formatTells_j31)
theorem formatTells_inst:Tryz.f3.isInstance Tryz.pinned.checked.prog Rows.formatTellsUptoRow.origin Rows.formatTellsUptoRow.targs:=of_decide_eq_true (by kernel_rfl)
theorem formatTells_wrap:Tryz.f3.isWrapper Tryz.pinned.checked.prog Rows.formatTellsUptoRow.wrapper Rows.formatTellsUptoRow.mainSum:=by unfold Func.isWrapper;first|(rw[if_pos (by decide +kernel)];kernel_rfl)|(rw[if_neg (by decide +kernel)];exact⟨rfl,rfl⟩)
theorem formatTells_named:Tryz.pinned.checked.prog.funcNamed Rows.formatTellsUptoRow.func=some 3:=by kernel_rfl
end Go.Proofs.YtgbfaompondolaaGreatDoor
