/-
  ParseSmall holds, and its tied card: the model is matched for items of every form in which one token is omitted, replaced by or preceded by every one of some others; for instructions with each word and no to four operands; for all pairs of things in a partition; for words of the grammar as names. No condition beyond the listed variables, which the card ties to the program's text.-/
import Derived.Test.YtlngbjphagnloaaGreatDoorSmC
import Derived.Test.YtlngbjphagnloaaGreatDoorPk29
set_option maxRecDepth 100000
namespace Go.Proofs.YtlngbjphagnloaaGreatDoor
open Go.ChangeShapes Go.WideShapes Go.ChangeAt Go.RowKit Go.Joins
open Go.WideMaps Go.WideElems
open Go.ChangeMaps (open_string)
theorem parseSmall_lifted (os:Os) (started:os.Started) (H:Type) (enc:TypeId×Value→H):
 ReturnsInHanded {} Tryz.checked os 8 .any (fun w args=>(Rows.parseSmallSpec.pre enc Tryz.prog Tryz.f8 Rows.parseSmallRow.domain false w args∧laidMetH Tryz.prog Rows.parseSmallRow.laid w)∧sizedMet enc Tryz.prog Tryz.f8 (OpenSpec.ofChange Rows.parseSmallSpec) false w args)
  (Rows.parseSmallSpec.post enc Tryz.prog Tryz.f8 false true false false):=by
 refine zhR (C:=Tryz.checked) (X:=fun w _=>laidMetH Tryz.prog Rows.parseSmallRow.laid w) (fun _ _ _ hh h=>h.of_heap hh) own started (by kernel_rfl) Tryz.func8
  (ChangeSpec.witness_shaped (enc:=enc) (C:=Tryz.checked) (os:=os) (X:=fun w _=>laidMetH Tryz.prog Rows.parseSmallRow.laid w) false (World.doorLaid Tryz.prog 400 os) #[] 8 rfl (World.shaped_of_RefB (by kernel_rfl) (by kernel_rfl)) (by kernel_rfl) (by kernel_rfl) (by kernel_rfl) (zo3 os _)) ?_
 intro W base args ds gs before hval0 hW _ _ hL hsh _;have hval: ∀(j:Nat) t v,Tryz.f8.params[j]? =some t→args[j]? =some v→Value.okWide Tryz.prog W .any base t v:=hval0;have hEnv:Env W:=env_of hL hsh;have hEnvP:zci W:=zpa hL hsh;have hW':=hW;obtain⟨p,q,hA0,hV,rfl,hfz,hnd⟩:=hW;have hA:DataW.TrodAll enc Tryz.prog W 0 (fun _=>true) true Tryz.f8.params.toList args.toList ds p:=hA0;rw[Tryz.params8] at hA hval;obtain⟨hargs,rfl,rfl⟩:=trodAll_nil hA;obtain rfl:args= #[]:=by cases args;simp_all
 obtain⟨rfl,rfl⟩:=trodVars_none hV;clear hA0 hval0;refine(parseSmall_true W (zaa hEnv) (zaa hEnvP)).mono fun e W' ⟨he,bel⟩=> ?_
 subst he;exact⟨_,rfl,_,_,_,[],_,[],hW',trodAll_mk1 (shut_bool Tryz.underlying4 _),trodAll_mk0,rfl,bel.frame _,fun h=>by cases h⟩
theorem parseSmall_holds:Rows.ParseSmallSaid:=
 OpenClaim.holds_of_wide 8 Tryz.f8 rfl rfl rfl rfl rfl rfl rfl ⟨rfl,rfl,rfl,rfl,rfl⟩ rfl rfl rfl rfl rfl (by kernel_rfl) Tryz.func8 (by kernel_rfl)
  (of_decide_eq_true (by kernel_rfl)) (by unfold Func.isWrapper;first|(rw[if_pos (by decide +kernel)];kernel_rfl)|(rw[if_neg (by decide +kernel)];exact⟨rfl,rfl⟩))
  (fun os started H enc _=>parseSmall_lifted os started H enc)
theorem parseSmall_card:Rows.ParseSmallCardSaid:=
 Claim7.holds_tied_plain_at .later [] [.data,.data,.data,.sentinel,.sentinel,.listed,.data] true Rows.parseSmallCard.stood.harness true
  parseSmall_holds (fun _ h=>by cases h) (by kernel_rfl) (fun _ h=>by cases h) parseSmall_row_tie rfl ⟨rfl,rfl⟩ (by kernel_rfl) rfl
  (fun f fn hf hfn=>by
    obtain rfl:f=8:=Option.some.inj ((show Tryz.prog.funcNamed Tryz.f8.name=some 8 by kernel_rfl).symm.trans hf) |>.symm
    obtain rfl:fn=Tryz.f8:=(Option.some.inj (Tryz.func8.symm.trans hfn)).symm;exact⟨by kernel_rfl,fun j t ht=>by
     rw[Tryz.params8] at ht;simp at ht⟩)
  (by kernel_rfl)
#print axioms parseSmall_card
end Go.Proofs.YtlngbjphagnloaaGreatDoor
