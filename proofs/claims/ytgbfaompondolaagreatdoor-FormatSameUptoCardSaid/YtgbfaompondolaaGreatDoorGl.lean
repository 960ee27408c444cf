/-
  FormatSame holds where what it reads is of bulk at most 1048576, and its tied card: format.Same agrees with the reference of equality (SameConfig) on any two configurations, leaves them unchanged, and finds a configuration the same as itself. No condition beyond that bulk and the listed variables, which the card ties to the program's text.-/
import Derived.Test.YtgbfaompondolaaGreatDoorGk
import Derived.Test.YtgbfaompondolaaGreatDoorPk20
import Derived.Test.YtgbfaompondolaaGreatDoorPk33
import Derived.Deep.DeepHandedRow
import Derived.Deep.DeepWitnessRowRef
set_option maxRecDepth 100000
namespace Go.Proofs.YtgbfaompondolaaGreatDoor
open Go.ChangeShapes Go.WideShapes Go.ChangeAt Go.RowKit Go.Joins
open Go.WideMaps Go.WideElems
theorem open_cfg {H:Type} {enc:TypeId×Value→H} {W:World} {base:Nat} {v:Value} {d:DataW H} {p:List MemPlace}
 (hv:Value.okWide Tryz.prog W .any base 31 v) (h:DataW.Trod enc Tryz.prog W 0 (fun _=>true) true 31 v d p):
 ∃(us:List Value) (x:zbR),v= .agg us.toArray∧Hid (zab W (fun _=>True) us x.cells)∧QCfg x d:=by
 obtain⟨cs,rfl, -⟩:=okWide_struct Tryz.underlying31 hv
 obtain⟨fuel,hf⟩:=h
 obtain⟨x,h1,h2⟩:=zoN fuel cs.toList d p hf
 exact⟨cs.toList,x,by simp,zaa h1,h2⟩
theorem two_bulk {H:Type} {d e:DataW H} (h:Rows.uptoBulkAll ([d,e]++[])≤1048576):Rows.uptoBulk d≤1048576∧Rows.uptoBulk e≤1048576:=by
 simp only[List.append_nil,Rows.uptoBulkAll] at h
 omega
theorem formatSame_reads (os:Os) {H:Type} (enc:TypeId×Value→H): ∃places,DataW.whole enc Tryz.prog ((World.doorLaid Tryz.prog 400 os).forCall (fun _ _=>0) ⟨#[],#[.agg #[.slice none 0 0,.slice none 0 0,.slice none 0 0,.slice none 0 0,.slice none 0 0,.slice none 0 0,.slice none 0 0,.slice none 0 0],.agg #[.slice none 0 0,.slice none 0 0,.slice none 0 0,.slice none 0 0,.slice none 0 0,.slice none 0 0,.slice none 0 0,.slice none 0 0]],[]⟩).memory Tryz.f5.params.toList Rows.formatSameSpec.vars false #[.agg #[.slice none 0 0,.slice none 0 0,.slice none 0 0,.slice none 0 0,.slice none 0 0,.slice none 0 0,.slice none 0 0,.slice none 0 0],.agg #[.slice none 0 0,.slice none 0 0,.slice none 0 0,.slice none 0 0,.slice none 0 0,.slice none 0 0,.slice none 0 0,.slice none 0 0]].toList 8=some ([.agg [.nil,.nil,.nil,.nil,.nil,.nil,.nil,.nil],.agg [.nil,.nil,.nil,.nil,.nil,.nil,.nil,.nil]],[],places):=
 ⟨[],by kernel_rfl⟩
theorem formatSame_lifted (os:Os) (started:os.Started) (H:Type) (enc:TypeId×Value→H) (F:Stop.Interp):
 ReturnsInHanded {} Tryz.checked os 5 .any ((Rows.OpenSpec.upto Rows.formatSameSpec).preRow enc Tryz.prog Tryz.f5 Rows.formatSameUptoRow.domain false Rows.formatSameUptoRow.laid) (((Rows.OpenSpec.upto Rows.formatSameSpec).at F).post enc Tryz.prog Tryz.f5 false true false false):=by
 obtain⟨places,hx⟩:=formatSame_reads os enc
 refine returnsInHanded_of_row (C:=Tryz.checked) (s:=(Rows.OpenSpec.upto Rows.formatSameSpec)) own started (by kernel_rfl) Tryz.func5
  (witness_row_atRef (enc:=enc) (C:=Tryz.checked) false (World.doorLaid Tryz.prog 400 os) #[.agg #[.slice none 0 0,.slice none 0 0,.slice none 0 0,.slice none 0 0,.slice none 0 0,.slice none 0 0,.slice none 0 0,.slice none 0 0],.agg #[.slice none 0 0,.slice none 0 0,.slice none 0 0,.slice none 0 0,.slice none 0 0,.slice none 0 0,.slice none 0 0,.slice none 0 0]] rfl (by kernel_rfl) (by kernel_rfl) (by kernel_rfl)
    (OpenSpec.preRow_of_cond 8 hx (by rfl) (fun k hk=>by cases hk;kernel_rfl) (by kernel_rfl) (zon os _))) ?_
 intro W base args ds gs before hval0 hW _ hcond _ hL hsh _
 have hbulk:Rows.uptoBulkAll (ds++gs)≤1048576:=of_decide_eq_true (hcond _ rfl)
 clear hcond
 have hval: ∀(j:Nat) t v,Tryz.f5.params[j]? =some t→args[j]? =some v→Value.okWide Tryz.prog W .any base t v:=hval0
 have hEnv:Env W:=env_of hL hsh
 have hEnvP:zcL W:=zoF hL hsh
 have hW':=hW
 obtain⟨p,q,hA0,hV,rfl,hfz,hnd⟩:=hW
 have hA:DataW.TrodAll enc Tryz.prog W 0 (fun _=>true) true Tryz.f5.params.toList args.toList ds p:=hA0
 rw[Tryz.params5] at hA hval
 obtain⟨v0,vs0,d0,ds0,p0,q0,hargs,rfl,rfl,h0,r0⟩:=trodAll_cons hA
 obtain⟨v1,vs1,d1,ds1,p1,q1,rfl,rfl,rfl,h1,r1⟩:=trodAll_cons r0
 obtain⟨rfl,rfl,rfl⟩:=trodAll_nil r1
 obtain rfl:args= #[v0,v1]:=by cases args;simp_all
 obtain⟨rfl,rfl⟩:=trodVars_none hV
 have k0:=h0
 have lt0: ∀x∈p0,x.block<W.heap.size:=by obtain⟨m,hm⟩:=k0;exact DataW.trod_lt m _ _ _ hm
 obtain⟨us,x,rfl,hd,hq⟩:=open_cfg (hval 0 31 v0 rfl rfl) h0
 have k1:=h1
 have lt1: ∀x∈p1,x.block<W.heap.size:=by obtain⟨m,hm⟩:=k1;exact DataW.trod_lt m _ _ _ hm
 obtain⟨vs,y,rfl,he,hr⟩:=open_cfg (hval 1 31 v1 rfl rfl) h1
 clear hA0 hval0
 refine(ziV x y us vs W (zaa hEnv) (zaa hEnvP) hd he (hq.1 (two_bulk hbulk).1) (hr.1 (two_bulk hbulk).2) (by have h1:=hq.2;have h2:=(two_bulk hbulk).1;omega) (by have h1:=hr.2;have h2:=(two_bulk hbulk).2;omega)).mono fun e W' ⟨he,bel⟩=> ?_
 subst he
 exact⟨_,rfl,_,_,_,[],_,[],hW',trodAll_mk1 (shut_bool Tryz.underlying4 _),(trodAll_cons_mk (Below.trod zoT (by kernel_rfl) (of_decide_eq_true (by kernel_rfl)) k0 bel lt0) (trodAll_cons_mk (Below.trod zoT (by kernel_rfl) (of_decide_eq_true (by kernel_rfl)) k1 bel lt1) trodAll_mk0)),rfl,bel.frame _,fun h=>by cases h⟩
theorem formatSame_holds:Rows.FormatSameUptoSaid:=
 OpenClaim.holds_of_cond 5 Tryz.f5 rfl rfl rfl rfl rfl rfl rfl ⟨rfl,rfl,rfl,rfl,rfl⟩ rfl rfl rfl rfl rfl formatSame_named Tryz.func5 formatSame_closed formatSame_inst formatSame_wrap
  (fun os started H enc _ F=>by rw[OpenClaim.pre_eq_preRow];exact formatSame_lifted os started H enc F)
theorem formatSame_ca:Rows.formatSameUptoRow.wfByText (Rows.OpenSpec.upto Rows.formatSameSpec)=true:=by kernel_rfl
theorem formatSame_cb:Tryz.pinned.checked.prog.mainIs=some (Rows.formatSameUptoCard.stood.harness.1,Rows.formatSameUptoCard.stood.harness.2.toList):=by kernel_rfl
theorem formatSame_cc:Tryz.prog.funcNamed Tryz.f5.name=some 5:=by kernel_rfl
theorem formatSame_cd:true=Tryz.pinned.checked.prog.looks []:=by kernel_rfl
theorem formatSame_ce:([31].all fun u=> !Tryz.prog.wantsStandIn u)=true:=by kernel_rfl
theorem formatSame_cf:false=Rows.formatSameUptoRow.goesBy Tryz.pinned.checked.prog:=by kernel_rfl
theorem formatSame_card:Rows.FormatSameUptoCardSaid:=
 Claim7.holds_tied_plain_at .later [] [.data,.data,.data,.sentinel,.sentinel,.listed,.data] true Rows.formatSameUptoCard.stood.harness true
  formatSame_holds (fun _ h=>by cases h) formatSame_ca (fun _ h=>by cases h) formatSameUpto_row_tie rfl ⟨rfl,rfl⟩ formatSame_cb rfl
  (fun f fn hf hfn=>by
    obtain rfl:f=5:=Option.some.inj (formatSame_cc.symm.trans hf) |>.symm
    obtain rfl:fn=Tryz.f5:=(Option.some.inj (Tryz.func5.symm.trans hfn)).symm
    exact⟨formatSame_cd,fun j t ht=>by
     rw[Tryz.params5] at ht
     have hm:t∈[31]:=by have:=Array.mem_of_getElem? ht;simp at this ⊢;omega
     have hall:([31].all fun u=> !Tryz.prog.wantsStandIn u)=true:=by kernel_rfl
     exact(show Tryz.prog.wantsStandIn t=false by simpa using List.all_eq_true.1 hall t hm)⟩)
  formatSame_cf
#print axioms formatSame_card
end Go.Proofs.YtgbfaompondolaaGreatDoor
