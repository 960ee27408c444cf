/-
  FormatTells holds where what it reads is of bulk at most 1048576, and its tied card: for every configuration of size at most 400 format.Config and format.Valid agree with the reference (nacelleref09), printable or not, and the configuration is not modified; above that size the chapter's examples are checked. No condition beyond that bulk and the listed variables, which the card ties to the program's text.-/
import Derived.Test.YtgbfaompondolaaGreatDoorVTk
import Derived.Test.YtgbfaompondolaaGreatDoorPk20
import Derived.Test.YtgbfaompondolaaGreatDoorPk40
import Derived.Deep.DeepHandedRow
import Derived.Deep.DeepWitnessRowRef
set_option maxRecDepth 100000
namespace Go.Proofs.YtgbfaompondolaaGreatDoor
open Go.ChangeShapes Go.WideShapes Go.ChangeAt Go.RowKit Go.Joins
open Go.WideMaps Go.WideElems
theorem open_cfg {H:Type} {enc:TypeId×Value→H} {W:World} {base:Nat} {v:Value} {d:DataW H} {p:List MemPlace}
 (hv:Value.okWide Tryz.prog W .any base 31 v) (h:DataW.Trod enc Tryz.prog W 0 (fun _=>true) true 31 v d p):
 ∃(us:List Value) (x:zcS),v= .agg us.toArray∧Hid (zab W (fun _=>True) us x.cells)∧QCfg x d:=by
 obtain⟨cs,rfl, -⟩:=okWide_struct Tryz.underlying31 hv;obtain⟨fuel,hf⟩:=h;obtain⟨x,h1,h2⟩:=zpu fuel cs.toList d p hf;exact⟨cs.toList,x,by simp,zaa h1,h2⟩
theorem one_bulk {H:Type} {d:DataW H} (h:Rows.uptoBulkAll ([d]++[])≤1048576):Rows.uptoBulk d≤1048576:=by
 simp only[List.append_nil,Rows.uptoBulkAll] at h
 omega
theorem formatTells_reads (os:Os) {H:Type} (enc:TypeId×Value→H): ∃places,DataW.whole enc Tryz.prog ((World.doorLaid Tryz.prog 400 os).forCall (fun _ _=>0) ⟨#[],#[.agg #[.slice none 0 0,.slice none 0 0,.slice none 0 0,.slice none 0 0,.slice none 0 0,.slice none 0 0,.slice none 0 0,.slice none 0 0]],[]⟩).memory Tryz.f3.params.toList Rows.formatTellsSpec.vars false #[.agg #[.slice none 0 0,.slice none 0 0,.slice none 0 0,.slice none 0 0,.slice none 0 0,.slice none 0 0,.slice none 0 0,.slice none 0 0]].toList 8=some ([.agg [.nil,.nil,.nil,.nil,.nil,.nil,.nil,.nil]],[],places):=
 ⟨[],by kernel_rfl⟩
theorem formatTells_lifted (os:Os) (started:os.Started) (H:Type) (enc:TypeId×Value→H) (F:Stop.Interp):
 ReturnsInHanded {} Tryz.checked os 3 .any ((Rows.OpenSpec.upto Rows.formatTellsSpec).preRow enc Tryz.prog Tryz.f3 Rows.formatTellsUptoRow.domain false Rows.formatTellsUptoRow.laid) (((Rows.OpenSpec.upto Rows.formatTellsSpec).at F).post enc Tryz.prog Tryz.f3 false true false false):=by
 obtain⟨places,hx⟩:=formatTells_reads os enc;refine returnsInHanded_of_row (C:=Tryz.checked) (s:=(Rows.OpenSpec.upto Rows.formatTellsSpec)) own started (by kernel_rfl) Tryz.func3
  (witness_row_atRef (enc:=enc) (C:=Tryz.checked) false (World.doorLaid Tryz.prog 400 os) #[.agg #[.slice none 0 0,.slice none 0 0,.slice none 0 0,.slice none 0 0,.slice none 0 0,.slice none 0 0,.slice none 0 0,.slice none 0 0]] rfl (by kernel_rfl) (by kernel_rfl) (by kernel_rfl)
    (OpenSpec.preRow_of_cond 8 hx (by rfl) (fun k hk=>by cases hk;kernel_rfl) (by kernel_rfl) (zo4 os _))) ?_
 intro W base args ds gs before hval0 hW _ hcond _ hL hsh _;have hbulk:Rows.uptoBulkAll (ds++gs)≤1048576:=of_decide_eq_true (hcond _ rfl);clear hcond;have hval: ∀(j:Nat) t v,Tryz.f3.params[j]? =some t→args[j]? =some v→Value.okWide Tryz.prog W .any base t v:=hval0;have hEnv:Env W:=env_of hL hsh;have hEnvP:zcT W:=zpC hL hsh;have hW':=hW;obtain⟨p,q,hA0,hV,rfl,hfz,hnd⟩:=hW;have hA:DataW.TrodAll enc Tryz.prog W 0 (fun _=>true) true Tryz.f3.params.toList args.toList ds p:=hA0;rw[Tryz.params3] at hA hval;obtain⟨v0,vs0,d0,ds0,p0,q0,hargs,rfl,rfl,h0,r0⟩:=trodAll_cons hA;obtain⟨rfl,rfl,rfl⟩:=trodAll_nil r0;obtain rfl:args= #[v0]:=by cases args;simp_all
 obtain⟨rfl,rfl⟩:=trodVars_none hV;have k0:=h0;have lt0: ∀x∈p0,x.block<W.heap.size:=by obtain⟨m,hm⟩:=k0;exact DataW.trod_lt m _ _ _ hm
 obtain⟨us,x,rfl,hd,hq⟩:=open_cfg (hval 0 31 v0 rfl rfl) h0;clear hA0 hval0;refine(zi0 x us W (zaa hEnv) (zaa hEnvP) hd (hq.1 (one_bulk hbulk)) (by have h1:=hq.2;have h2:=one_bulk hbulk;omega)).mono fun e W' ⟨he,bel⟩=> ?_
 subst he;exact⟨_,rfl,_,_,_,[],_,[],hW',trodAll_mk1 (shut_bool Tryz.underlying4 _),(trodAll_cons_mk (Below.trod zph (by kernel_rfl) (of_decide_eq_true (by kernel_rfl)) k0 bel lt0) trodAll_mk0),rfl,bel.frame _,fun h=>by cases h⟩
theorem formatTells_holds:Rows.FormatTellsUptoSaid:=
 OpenClaim.holds_of_cond 3 Tryz.f3 rfl rfl rfl rfl rfl rfl rfl ⟨rfl,rfl,rfl,rfl,rfl⟩ rfl rfl rfl rfl rfl formatTells_named Tryz.func3 formatTells_closed formatTells_inst formatTells_wrap
  (fun os started H enc _ F=>by rw[OpenClaim.pre_eq_preRow];exact formatTells_lifted os started H enc F)
theorem formatTells_ca:Rows.formatTellsUptoRow.wfByText (Rows.OpenSpec.upto Rows.formatTellsSpec)=true:=by kernel_rfl
theorem formatTells_cb:Tryz.pinned.checked.prog.mainIs=some (Rows.formatTellsUptoCard.stood.harness.1,Rows.formatTellsUptoCard.stood.harness.2.toList):=by kernel_rfl
theorem formatTells_cc:Tryz.prog.funcNamed Tryz.f3.name=some 3:=by kernel_rfl
theorem formatTells_cd:true=Tryz.pinned.checked.prog.looks []:=by kernel_rfl
theorem formatTells_ce:([31].all fun u=> !Tryz.prog.wantsStandIn u)=true:=by kernel_rfl
theorem formatTells_cf:false=Rows.formatTellsUptoRow.goesBy Tryz.pinned.checked.prog:=by kernel_rfl
theorem formatTells_card:Rows.FormatTellsUptoCardSaid:=
 Claim7.holds_tied_plain_at .later [] [.data,.data,.data,.sentinel,.sentinel,.listed,.data] true Rows.formatTellsUptoCard.stood.harness true
  formatTells_holds (fun _ h=>by cases h) formatTells_ca (fun _ h=>by cases h) formatTellsUpto_row_tie rfl ⟨rfl,rfl⟩ formatTells_cb rfl
  (fun f fn hf hfn=>by
    obtain rfl:f=3:=Option.some.inj (formatTells_cc.symm.trans hf) |>.symm
    obtain rfl:fn=Tryz.f3:=(Option.some.inj (Tryz.func3.symm.trans hfn)).symm;exact⟨formatTells_cd,fun j t ht=>by
     rw[Tryz.params3] at ht;have hm:t∈[31]:=by have:=Array.mem_of_getElem? ht;simp at this ⊢;omega
     have hall:([31].all fun u=> !Tryz.prog.wantsStandIn u)=true:=by kernel_rfl
     exact(show Tryz.prog.wantsStandIn t=false by simpa using List.all_eq_true.1 hall t hm)⟩)
  formatTells_cf
#print axioms formatTells_card
end Go.Proofs.YtgbfaompondolaaGreatDoor
