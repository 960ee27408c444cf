/-
  FormatSame: the closed facts of the row, one by one (printed by tools/mkfacts.py).-/
import Derived.Test.YtgbfaompondolaaGreatDoorPk19
namespace Go.Proofs.YtgbfaompondolaaGreatDoor
open Go.ChangeShapes Go.WideShapes Go.ChangeAt Go.RowKit Go.Joins
open Go.WideMaps Go.WideElems
theorem andB {a b:Bool} (h:a=true) (k:b=true):(a&&b)=true:=by rw[h,k];rfl
theorem formatSame_j0:(Rows.formatSameUptoRow.wf (OpenSpec.ofChange Rows.formatSameSpec))=true:=by kernel_rfl
theorem formatSame_j1:(laidOutB Tryz.pinned.checked.prog)=true:=by kernel_rfl
theorem formatSame_j2:(mapsRowed Tryz.pinned.checked.prog)=true:=by kernel_rfl
theorem formatSame_j3:(Tryz.f5.params.all (Tryz.pinned.checked.prog.readableRec ·))=true:=by kernel_rfl
theorem formatSame_j4:(namedTie Tryz.pinned.checked.prog Rows.formatSameUptoRow.named Rows.formatSameSpec.vars)=true:=by kernel_rfl
theorem formatSame_j5:((Rows.formatSameUptoRow.stops==[]))=true:=by kernel_rfl
theorem formatSame_j6:((Tryz.pinned.checked.prog.stops==[]))=true:=by kernel_rfl
theorem formatSame_j7:((Rows.formatSameUptoRow.knobs==[]))=true:=by kernel_rfl
theorem formatSame_j8:((Tryz.pinned.checked.prog.stopKnobs==[]))=true:=by kernel_rfl
theorem formatSame_j9:((Rows.formatSameUptoRow.inPlace==Tryz.pinned.checked.prog.inPlace 5))=true:=by kernel_rfl
theorem formatSame_j10:((Rows.formatSameUptoRow.unfollowed==Tryz.pinned.checked.prog.unfollowed 5))=true:=by kernel_rfl
theorem formatSame_j11:((Rows.formatSameUptoRow.recurses==Tryz.pinned.checked.prog.recurses 5))=true:=by kernel_rfl
theorem formatSame_j12:((Rows.formatSameUptoRow.named==Tryz.pinned.checked.prog.varsNamed 5))=true:=by kernel_rfl
theorem formatSame_j13:((Rows.formatSameUptoRow.maps==(Tryz.f5.params.toList++Rows.formatSameSpec.plain.varTypes Tryz.pinned.checked.prog).any (Tryz.pinned.checked.prog.mapsRec ·)))=true:=by kernel_rfl
theorem formatSame_j14:((Rows.formatSameUptoRow.ifaces==(Tryz.f5.params.toList++Rows.formatSameSpec.plain.varTypes Tryz.pinned.checked.prog).any (Tryz.pinned.checked.prog.ifacesRec ·)))=true:=by kernel_rfl
theorem formatSame_j15:((Rows.formatSameUptoRow.mapsOut==Tryz.pinned.checked.prog.mapsAmong Tryz.f5.resultTypes.toList))=true:=by kernel_rfl
theorem formatSame_j16:((Rows.formatSameUptoRow.loops==(Tryz.f5.params.toList++Rows.formatSameSpec.plain.varTypes Tryz.pinned.checked.prog).any (Tryz.pinned.checked.prog.loopsFrom ·)))=true:=by kernel_rfl
theorem formatSame_j17:((Rows.formatSameUptoRow.wideKeys==(Tryz.f5.params.toList++Rows.formatSameSpec.plain.varTypes Tryz.pinned.checked.prog++Tryz.f5.resultTypes.toList).any (Tryz.pinned.checked.prog.wideKeysFrom ·)))=true:=by kernel_rfl
theorem formatSame_j18:(Rows.formatSameSpec.vars.all (Tryz.pinned.checked.prog.varReadable ·))=true:=by kernel_rfl
theorem formatSame_j19:(Tryz.f5.resultTypes.all (fun t=>Tryz.pinned.checked.prog.readableRec t&&decide (t<Tryz.pinned.checked.prog.types.size)))=true:=by kernel_rfl
theorem formatSame_j20:((Rows.formatSameUptoRow.ifacesOut==Tryz.f5.resultTypes.toList.any (Tryz.pinned.checked.prog.ifacesRec ·)))=true:=by kernel_rfl
theorem formatSame_j21:((Rows.formatSameUptoRow.loopsOut==Tryz.f5.resultTypes.toList.any (Tryz.pinned.checked.prog.loopsFrom ·)))=true:=by kernel_rfl
theorem formatSame_j22:((Rows.formatSameUptoRow.plainKeys==Tryz.pinned.checked.prog.plainKeys))=true:=by kernel_rfl
theorem formatSame_j23:(Rows.formatSameUptoRow.shortTexts.isNone)=true:=by kernel_rfl
theorem formatSame_j24:(Tryz.pinned.checked.prog.stopsHeard)=true:=by kernel_rfl
theorem formatSame_j25:(Tryz.pinned.checked.prog.mayEnter)=true:=by kernel_rfl
theorem formatSame_j26:((Rows.formatSameUptoRow.lifted==Tryz.pinned.checked.prog.liftsFinal))=true:=by kernel_rfl
theorem formatSame_j27:((Tryz.pinned.checked.prog.make==some Rows.formatSameUptoRow.make))=true:=by kernel_rfl
theorem formatSame_j29:((Rows.formatSameUptoRow.pinned==Rows.formatSameUptoRow.pinnedBy))=true:=by kernel_rfl
theorem formatSame_j30:((Rows.formatSameUptoRow.veiled==(Tryz.f5.params.toList++Rows.formatSameSpec.plain.varTypes Tryz.pinned.checked.prog++Tryz.f5.resultTypes.toList).any (Tryz.pinned.checked.prog.veiledRec ·)))=true:=by kernel_rfl
theorem formatSame_j31:(Rows.formatSameUptoRow.veiledFits Tryz.pinned.checked.prog Tryz.f5.params.toList (Tryz.f5.params.toList++Rows.formatSameSpec.plain.varTypes Tryz.pinned.checked.prog++Tryz.f5.resultTypes.toList))=true:=by kernel_rfl
theorem formatSame_closed:joinedFacts Tryz.pinned.checked.prog 5 Tryz.f5 Rows.formatSameSpec Rows.formatSameUptoRow=true:=by
 unfold joinedFacts
 exact(andB (andB (andB (andB (andB (andB (andB (andB (andB (andB (andB (andB (andB (andB (andB (andB (andB (andB (andB (andB (andB (andB (andB (andB (andB (andB (andB (andB (andB (andB (andB formatSame_j0 formatSame_j1) formatSame_j2) formatSame_j3) formatSame_j4) formatSame_j5) formatSame_j6) formatSame_j7) formatSame_j8) formatSame_j9) formatSame_j10) formatSame_j11) formatSame_j12) formatSame_j13) formatSame_j14) formatSame_j15) formatSame_j16) formatSame_j17) formatSame_j18) formatSame_j19) formatSame_j20) formatSame_j21) formatSame_j22) formatSame_j23) formatSame_j24) formatSame_j25) formatSame_j26) formatSame_j27) (by kernel_rfl)) formatSame_j29) formatSame_j30) formatSame_j31)
theorem formatSame_inst:Tryz.f5.isInstance Tryz.pinned.checked.prog Rows.formatSameUptoRow.origin Rows.formatSameUptoRow.targs:=of_decide_eq_true (by kernel_rfl)
theorem formatSame_wrap:Tryz.f5.isWrapper Tryz.pinned.checked.prog Rows.formatSameUptoRow.wrapper Rows.formatSameUptoRow.mainSum:=by unfold Func.isWrapper;first|(rw[if_pos (by decide +kernel)];kernel_rfl)|(rw[if_neg (by decide +kernel)];exact⟨rfl,rfl⟩)
theorem formatSame_named:Tryz.pinned.checked.prog.funcNamed Rows.formatSameUptoRow.func=some 5:=by kernel_rfl
end Go.Proofs.YtgbfaompondolaaGreatDoor
