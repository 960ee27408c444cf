/-
  parse: the reference's part.-/
import Derived.Test.YtlngbjphagnloaaGreatDoorRPo
import Derived.Test.YtlngbjphagnloaaGreatDoorRXt
set_option maxHeartbeats 40000000
set_option maxRecDepth 100000
namespace Go.Proofs.YtlngbjphagnloaaGreatDoor
open Go.RowKit
attribute [local go_sem] zax.cell zaL zch
theorem bs_port (x0:ByteArray) (x1:Int) (x2:Bool) (x3 x4 x5:Int) (w:World):(Instr.buildSlice 48 1 #[(0,.agg #[.string x0,.int .u8 x1,.bool x2,.int .i64 x3,.int .i64 x4,.int .i64 x5])]).run Tryz.prog w= .ok (.slice (some ⟨w.heap.size,0,none⟩) 1 1) (w.alloc (.cells #[.string x0,.int .u8 x1,.bool x2,.int .i64 x3,.int .i64 x4,.int .i64 x5] 53)):=by kernel_rfl
theorem bs_proc (x0:ByteArray) (x1 x2 x3:Int) (A:Option Addr) (n q:Nat) (w:World):(Instr.buildSlice 49 1 #[(0,.agg #[.string x0,.int .i64 x1,.int .i64 x2,.int .i64 x3,.slice A n q])]).run Tryz.prog w= .ok (.slice (some ⟨w.heap.size,0,none⟩) 1 1) (w.alloc (.cells #[.string x0,.int .i64 x1,.int .i64 x2,.int .i64 x3,.slice A n q] 67)):=by kernel_rfl
theorem rpart_any (rb:Nat) (ts:List Tok) (s:InS) (W:World) (H:Hid (RIn rb ts s W)) (hts:ts.length≤1000000) (HT:Hid (zhK ts)):
 Calls Tryz.prog 154 #[.pointer (some ⟨rb,0,none⟩)] W (zoy rb ts W zcS zc0 (zoq s)):=by
 obtain⟨i0,hi0,hz0,hz1,hz2⟩:=info_parts rport_info;obtain⟨ji0,jhi0,jhz0,jhz1,jhz2⟩:=info_parts rproc_info;have HY:=zaa (zdA.new H.out (zam.refl _ _) 51 [.string ⟨#[]⟩,.int .i64 0,.int .i64 0,.int .i64 0,.slice none 0 0,.int .i64 0,.int .i64 0,.slice none 0 0,.slice none 0 0,.slice none 0 0]);have HR:=zaa (H.out.alloc (.cells #[.string ⟨#[]⟩,.int .i64 0,.int .i64 0,.int .i64 0,.slice none 0 0,.int .i64 0,.int .i64 0,.slice none 0 0,.slice none 0 0,.slice none 0 0] 51));have HK:=zaa ((zam.refl (fun k=>k=rb) W).alloc (.cells #[.string ⟨#[]⟩,.int .i64 0,.int .i64 0,.int .i64 0,.slice none 0 0,.int .i64 0,.int .i64 0,.slice none 0 0,.slice none 0 0,.slice none 0 0] 51))
 go_enter Tryz.func154,Tryz.ntmps154
 go_wp2_with fail;obtain⟨⟨a1,s1⟩,h1⟩: ∃p,zb4 s=p:=⟨_,rfl⟩;have HC:=zaa (zdI rb ts s _ HR hts);rw[h1] at HC;dsimp only at HC;refine HC.out.mono ?_;clear HC;rintro e w1 ⟨rfl,hr,hk⟩;replace HY:=zaa (HY.out.call hk);replace HR:=zaa hr;replace HK:=zaa (HK.out.trans hk);clear hr hk;have HP:=zaa (zcv h1:zoq s=_);clear h1;have HX:=zaa (zdA.new HR.out HK.out 51 [.string ⟨a1.toArray⟩,.int .i64 0,.int .i64 0,.int .i64 0,.slice none 0 0,.int .i64 0,.int .i64 0,.slice none 0 0,.slice none 0 0,.slice none 0 0]);have hy:=HY.out.below ((Below.refl _ w1).alloc (Nat.le_refl _) (.cells #[.string ⟨a1.toArray⟩,.int .i64 0,.int .i64 0,.int .i64 0,.slice none 0 0,.int .i64 0,.int .i64 0,.slice none 0 0,.slice none 0 0,.slice none 0 0] 51));have hr:=HR.out.alloc (.cells #[.string ⟨a1.toArray⟩,.int .i64 0,.int .i64 0,.int .i64 0,.slice none 0 0,.int .i64 0,.int .i64 0,.slice none 0 0,.slice none 0 0,.slice none 0 0] 51);have hk:=HK.out.alloc (.cells #[.string ⟨a1.toArray⟩,.int .i64 0,.int .i64 0,.int .i64 0,.slice none 0 0,.int .i64 0,.int .i64 0,.slice none 0 0,.slice none 0 0,.slice none 0 0] 51);have hxy:w1.heap.size≠W.heap.size:=fun e=>by have:=HY.out.lt;omega
 replace HY:=zaa hy;replace HR:=zaa hr;replace HK:=zaa hk;clear hy hr hk;go_wp2_with fail;generalize w1.heap.size=xb at *;have HS:Hid (XS rb ts W (fun b=>xb<b) xb W.heap.size 51 [.string ⟨#[]⟩,.int .i64 0,.int .i64 0,.int .i64 0,.slice none 0 0,.int .i64 0,.int .i64 0,.slice none 0 0,.slice none 0 0,.slice none 0 0] s1 [.string ⟨a1.toArray⟩,.int .i64 0,.int .i64 0,.int .i64 0,.slice none 0 0,.int .i64 0,.int .i64 0,.slice none 0 0,.slice none 0 0,.slice none 0 0] [.slice none 0 0,.slice none 0 0,.slice none 0 0,.slice none 0 0] [⟨3,1,[]⟩,⟨3,1,[]⟩,⟨53,6,[]⟩,⟨67,5,[]⟩] _):=zaa ⟨HR.out,HK.out.mono (fun _ h=> .inl h),HX.out,HY.out,zdp.none _ _ [(3,1),(3,1),(53,6),(67,5)],hxy,fun b hb h=>by have:=HX.out.low;have:=HX.out.big;omega,fun b hb=>by have:=HX.out.lt;omega⟩;have hgx:=HX.out.big;clear HR HK HX HY hxy;obtain⟨⟨a2,s2⟩,h⟩: ∃p,zbi [112,101,114,105,111,100] s1=p:=⟨_,rfl⟩;have HC:=zaa (zcI rb ⟨#[112,101,114,105,111,100]⟩ [112,101,114,105,111,100] rfl ts s1 _ (zaa HS.out.rin) hts HT);rw[h] at HC;dsimp only at HC;refine HC.out.mono ?_;clear HC;rintro e w1 ⟨rfl,hr,hk⟩;replace HP:=zaa (HP.out.trans (zcv h));replace HS:=zaa (HS.out.call hr hk);clear hr hk h;obtain⟨ci,fi,hl⟩:=HS.out.x.fact 1 rfl;have hs:=HS.out.put 1 (.int .i64 a2);replace HS:=zaa hs;clear hs;go_wp2_with fail;clear ci fi hl;obtain⟨⟨a3,s3⟩,h⟩: ∃p,zbi [108,101,110,103,116,104] s2=p:=⟨_,rfl⟩;have HC:=zaa (zcI rb ⟨#[108,101,110,103,116,104]⟩ [108,101,110,103,116,104] rfl ts s2 _ (zaa HS.out.rin) hts HT);rw[h] at HC;dsimp only at HC;refine HC.out.mono ?_;clear HC;rintro e w1 ⟨rfl,hr,hk⟩;replace HP:=zaa (HP.out.trans (zcv h));replace HS:=zaa (HS.out.call hr hk);clear hr hk h;obtain⟨ci,fi,hl⟩:=HS.out.x.fact 2 rfl;have hs:=HS.out.put 2 (.int .i64 a3);replace HS:=zaa hs;clear hs;go_wp2_with fail;clear ci fi hl;obtain⟨⟨a4,s4⟩,h⟩: ∃p,zbi [109,101,109] s3=p:=⟨_,rfl⟩;have HC:=zaa (zcI rb ⟨#[109,101,109]⟩ [109,101,109] rfl ts s3 _ (zaa HS.out.rin) hts HT);rw[h] at HC;dsimp only at HC;refine HC.out.mono ?_;clear HC;rintro e w1 ⟨rfl,hr,hk⟩;replace HP:=zaa (HP.out.trans (zcv h));replace HS:=zaa (HS.out.call hr hk);clear hr hk h;obtain⟨ci,fi,hl⟩:=HS.out.x.fact 3 rfl;have hs:=HS.out.put 3 (.int .i64 a4);replace HS:=zaa hs;clear hs;go_wp2_with fail;clear ci fi hl;obtain⟨⟨u,s50⟩,h⟩: ∃p,zaR [123] s4=p:=⟨_,rfl⟩;have HC:=zaa (zco rb ⟨#[123]⟩ [123] rfl ts s4 _ (zaa HS.out.rin) hts);rw[h] at HC;dsimp only at HC;refine HC.out.mono ?_;clear HC;rintro e w1 ⟨rfl,hr,hk⟩;replace HP:=zaa (HP.out.trans (zcv h));replace HS:=zaa (HS.out.call hr hk);clear hr hk h;go_wp2_with fail;obtain⟨⟨bz,s5⟩,h5⟩: ∃p,zbv (s50.r.length+1) ⟨⟨a1,a2,a3,a4,[],0,0,[],[],[]⟩,[]⟩ s50=p:=⟨_,rfl⟩;replace HP:=zaa (HP.out.trans (zcv h5));have hfew:=HS.out.rin.few
 go_loopw [4] (fun v4 wr=> ∃(se bu:List Int) (ev bo:Int) (po:List zcp) (pr:List zca) (what:List (List UInt8)) (s6:InS) (f:Nat) (A0 A1 A2 A3:Option Addr) (q0 q1 q2 q3:Nat),v4= .string ⟨(zeb what).toArray⟩∧(s6.err=0→s6.r.length<f∧po.length+pr.length+s6.r.length≤ts.length∧ze5 what)∧po.length+pr.length≤ts.length+1∧zbv f ⟨⟨a1,a2,a3,a4,se,ev,bo,bu,po,pr⟩,what⟩ s6=(bz,s5)∧XS rb ts W (fun b=>xb<b) xb W.heap.size 51 [.string ⟨#[]⟩,.int .i64 0,.int .i64 0,.int .i64 0,.slice none 0 0,.int .i64 0,.int .i64 0,.slice none 0 0,.slice none 0 0,.slice none 0 0] s6 [.string ⟨a1.toArray⟩,.int .i64 a2,.int .i64 a3,.int .i64 a4,.slice A0 se.length q0,.int .i64 ev,.int .i64 bo,.slice A1 bu.length q1,.slice A2 po.length q2,.slice A3 pr.length q3] [.slice A0 se.length q0,.slice A1 bu.length q1,.slice A2 po.length q2,.slice A3 pr.length q3] [⟨3,1,zbs se⟩,⟨3,1,zbs bu⟩,⟨53,6,po.map zcp.cells⟩,⟨67,5,pr.map zca.cells⟩] wr) (fun _ wr=>znl rb ts.length wr)
 case atStart=>exact⟨[],[],0,0,[],[],[],s50,s50.r.length+1,none,none,none,none,0,0,0,0,rfl,fun _=>⟨by omega,by simpa using hfew,ze5.none⟩,by simp,h5,HS.out⟩
 case round=>
  clear HS hfew h5;obtain⟨se,bu,ev,bo,po,pr,what,s6,f,A0,A1,A2,A3,q0,q1,q2,q3,rfl,hf,hal,hC,hS⟩:=hrel;have HS:=zaa hS;have hC:=zaa hC;have c4:=hS.rin.err;have l4:=hS.rin.lt;have HM:=zaa (zog hS.rin);clear hS;by_cases he:s6.err=0
  rotate_left
  ·as_aux_lemma=>
    have e1:((s6.err:Int)==0)=false:=by simp;omega
    have hE:=hC.out.symm.trans (zoe (.inl he));clear he hf;go_wp2_with fail;clear e1 c4 l4;injection hE with e1 e2
    subst e1;have HC:=zaa (zco rb ⟨#[125]⟩ [125] rfl ts s6 _ (zaa HS.out.rin) hts);rw[←e2] at HC;clear e2;refine HC.out.mono ?_;clear HC;rintro e w3 ⟨rfl,hr,hk⟩;replace HS:=zaa (HS.out.call hr hk);clear hr hk hC;have HF:=zaa (HS.out.fin (#[.string ⟨a1.toArray⟩,.int .i64 a2,.int .i64 a3,.int .i64 a4,.slice A0 se.length q0,.int .i64 ev,.int .i64 bo,.slice A1 bu.length q1,.slice A2 po.length q2,.slice A3 pr.length q3]:Array Value).toList rfl);have hxr:=HS.out.x.range;have hyt:=HS.out.y.there;go_upto_region 24 with fail
    refine wp_region_lit ?_;refine wpList_load_mid rfl 51 (.tmp 3) rfl xb 0 rfl [.string ⟨a1.toArray⟩,.int .i64 a2,.int .i64 a3,.int .i64 a4,.slice A0 se.length q0,.int .i64 ev,.int .i64 bo,.slice A1 bu.length q1,.slice A2 po.length q2,.slice A3 pr.length q3] _ hxr Tryz.underlying51 rfl (by kernel_rfl) ?_;refine wpList_store_mid rfl 51 (.tmp 2) (.tmp 96) rfl W.heap.size 0 #[.string ⟨a1.toArray⟩,.int .i64 a2,.int .i64 a3,.int .i64 a4,.slice A0 se.length q0,.int .i64 ev,.int .i64 bo,.slice A1 bu.length q1,.slice A2 po.length q2,.slice A3 pr.length q3] rfl rfl hyt (by kernel_rfl) (all_oneCell_toArray (by simp[Value.oneCell'])) ?_;refine wpList_nil ?_;clear hxr hyt HS;generalize w3.setCells W.heap.size 0 _=w4 at *;obtain⟨hf1,hf2,hf3,hf4⟩:=HF.out;have HF1:=zaa hf1;have HF2:=zaa hf2;have HF3:=zaa hf3;have HF4:=zaa hf4;clear hf1 hf2 hf3 hf4 HF;go_wp2_with fail;refine bodyPost_ret (results_cell_mid Tryz.results154 _ w4 W.heap.size [.string ⟨a1.toArray⟩,.int .i64 a2,.int .i64 a3,.int .i64 a4,.slice A0 se.length q0,.int .i64 ev,.int .i64 bo,.slice A1 bu.length q1,.slice A2 po.length q2,.slice A3 pr.length q3] _ (by kernel_rfl) HF4.out Tryz.underlying51 rfl (by kernel_rfl)) rfl ?_;rw[show zoq s=(⟨a1,a2,a3,a4,se,ev,bo,bu,po,pr⟩,s5) from HP.out];exact⟨[.slice A0 se.length q0,.slice A1 bu.length q1,.slice A2 po.length q2,.slice A3 pr.length q3],rfl,HF1.out,⟨HF2.out.os,HF2.out.tape,HF2.out.output,HF2.out.size,fun i hi hn=>HF2.out.block i hi (fun e=>e.elim hn (fun e=>by omega))⟩,(zaf.cons (HF3.out.dat (k:=0) rfl rfl) (zaf.cons (HF3.out.dat (k:=1) rfl rfl) (zaf.cons (HF3.out.dat (k:=2) rfl rfl) (zaf.cons (HF3.out.dat (k:=3) rfl rfl) .nil)))).mono (fun b hb _=>by omega)⟩
  cases hse:s6.sees [125] with
  |true=>
   as_aux_lemma=>
    have hE:=hC.out.symm.trans (zoe (.inr ⟨hse,by have:=(hf he).1;omega⟩));rw[he] at c4;clear hf;go_wp2_with fail;have HC:=zaa (rsees_l rb ⟨#[125]⟩ [125] rfl ts s6 _ (zaa HS.out.rin) hts);rw[hse] at HC;refine HC.out.mono ?_;clear HC;rintro e w1 ⟨rfl,hb⟩;replace HS:=zaa (HS.out.later hb);clear hb c4 l4 he hse;go_wp2_with fail;injection hE with e1 e2
    subst e1;have HC:=zaa (zco rb ⟨#[125]⟩ [125] rfl ts s6 _ (zaa HS.out.rin) hts);rw[←e2] at HC;clear e2;refine HC.out.mono ?_;clear HC;rintro e w3 ⟨rfl,hr,hk⟩;replace HS:=zaa (HS.out.call hr hk);clear hr hk hC;have HF:=zaa (HS.out.fin (#[.string ⟨a1.toArray⟩,.int .i64 a2,.int .i64 a3,.int .i64 a4,.slice A0 se.length q0,.int .i64 ev,.int .i64 bo,.slice A1 bu.length q1,.slice A2 po.length q2,.slice A3 pr.length q3]:Array Value).toList rfl);have hxr:=HS.out.x.range;have hyt:=HS.out.y.there;go_upto_region 24 with fail
    refine wp_region_lit ?_;refine wpList_load_mid rfl 51 (.tmp 3) rfl xb 0 rfl [.string ⟨a1.toArray⟩,.int .i64 a2,.int .i64 a3,.int .i64 a4,.slice A0 se.length q0,.int .i64 ev,.int .i64 bo,.slice A1 bu.length q1,.slice A2 po.length q2,.slice A3 pr.length q3] _ hxr Tryz.underlying51 rfl (by kernel_rfl) ?_;refine wpList_store_mid rfl 51 (.tmp 2) (.tmp 96) rfl W.heap.size 0 #[.string ⟨a1.toArray⟩,.int .i64 a2,.int .i64 a3,.int .i64 a4,.slice A0 se.length q0,.int .i64 ev,.int .i64 bo,.slice A1 bu.length q1,.slice A2 po.length q2,.slice A3 pr.length q3] rfl rfl hyt (by kernel_rfl) (all_oneCell_toArray (by simp[Value.oneCell'])) ?_;refine wpList_nil ?_;clear hxr hyt HS;generalize w3.setCells W.heap.size 0 _=w4 at *;obtain⟨hf1,hf2,hf3,hf4⟩:=HF.out;have HF1:=zaa hf1;have HF2:=zaa hf2;have HF3:=zaa hf3;have HF4:=zaa hf4;clear hf1 hf2 hf3 hf4 HF;go_wp2_with fail;refine bodyPost_ret (results_cell_mid Tryz.results154 _ w4 W.heap.size [.string ⟨a1.toArray⟩,.int .i64 a2,.int .i64 a3,.int .i64 a4,.slice A0 se.length q0,.int .i64 ev,.int .i64 bo,.slice A1 bu.length q1,.slice A2 po.length q2,.slice A3 pr.length q3] _ (by kernel_rfl) HF4.out Tryz.underlying51 rfl (by kernel_rfl)) rfl ?_;rw[show zoq s=(⟨a1,a2,a3,a4,se,ev,bo,bu,po,pr⟩,s5) from HP.out];exact⟨[.slice A0 se.length q0,.slice A1 bu.length q1,.slice A2 po.length q2,.slice A3 pr.length q3],rfl,HF1.out,⟨HF2.out.os,HF2.out.tape,HF2.out.output,HF2.out.size,fun i hi hn=>HF2.out.block i hi (fun e=>e.elim hn (fun e=>by omega))⟩,(zaf.cons (HF3.out.dat (k:=0) rfl rfl) (zaf.cons (HF3.out.dat (k:=1) rfl rfl) (zaf.cons (HF3.out.dat (k:=2) rfl rfl) (zaf.cons (HF3.out.dat (k:=3) rfl rfl) .nil)))).mono (fun b hb _=>by omega)⟩
  |false=>
   obtain⟨hf1,hf2,hW⟩:=hf he;obtain⟨f,rfl⟩: ∃f',f=f'+1:=⟨f-1,by omega⟩;have HW:=zaa hW;rw[he] at c4;rw[if_pos he] at HM;clear hf hW;go_wp2_with fail;have HC:=zaa (rsees_l rb ⟨#[125]⟩ [125] rfl ts s6 _ (zaa HS.out.rin) hts);rw[hse] at HC;refine HC.out.mono ?_;clear HC;rintro e w1 ⟨rfl,hb⟩;replace HS:=zaa (HS.out.later hb);clear hb c4 l4;have hf1':=fun a b c w=>(zcL a b c w).2.1
   go_wp2_with fail;have HC:=zaa (zdc rb ts s6 _ (zaa HS.out.rin) hts);unfold zbI at HC;refine HC.out.mono ?_;clear HC;rintro e w1 ⟨rfl,hb⟩;replace HS:=zaa (HS.out.later hb);clear hb;go_upto_region 9 with fail
   clear hf1'
   go_cut [46] (fun v46 wx=>v46= .bool (fourB s6)∧Hid (XS rb ts W (fun b=>xb<b) xb W.heap.size 51 [.string ⟨#[]⟩,.int .i64 0,.int .i64 0,.int .i64 0,.slice none 0 0,.int .i64 0,.int .i64 0,.slice none 0 0,.slice none 0 0,.slice none 0 0] s6 [.string ⟨a1.toArray⟩,.int .i64 a2,.int .i64 a3,.int .i64 a4,.slice A0 se.length q0,.int .i64 ev,.int .i64 bo,.slice A1 bu.length q1,.slice A2 po.length q2,.slice A3 pr.length q3] [.slice A0 se.length q0,.slice A1 bu.length q1,.slice A2 po.length q2,.slice A3 pr.length q3] [⟨3,1,zbs se⟩,⟨3,1,zbs bu⟩,⟨53,6,po.map zcp.cells⟩,⟨67,5,pr.map zca.cells⟩] wx))
   case first=>
    as_aux_lemma=>
     cases h1:s6.sees [115,101,109,97,115] with
     |true=>
      have hfo:fourB s6=true:=by unfold fourB;rw[h1];rfl
      go_wp2_with fail;have HC:=zaa (rsees_l rb ⟨#[115,101,109,97,115]⟩ [115,101,109,97,115] rfl ts s6 _ (zaa HS.out.rin) hts);rw[h1] at HC;refine HC.out.mono ?_;clear HC;rintro e w1 ⟨rfl,hb⟩;replace HS:=zaa (HS.out.later hb);clear hb;go_wp2_with fail;go_meet;exact⟨by rw[hfo],HS⟩
     |false=>
      go_wp2_with fail;have HC:=zaa (rsees_l rb ⟨#[115,101,109,97,115]⟩ [115,101,109,97,115] rfl ts s6 _ (zaa HS.out.rin) hts);rw[h1] at HC;refine HC.out.mono ?_;clear HC;rintro e w1 ⟨rfl,hb⟩;replace HS:=zaa (HS.out.later hb);clear hb;go_wp2_with fail
      cases h2:s6.sees [98,117,102,115] with
      |true=>
       have hfo:fourB s6=true:=by unfold fourB;rw[h1,h2];rfl
       have HC:=zaa (rsees_l rb ⟨#[98,117,102,115]⟩ [98,117,102,115] rfl ts s6 _ (zaa HS.out.rin) hts);rw[h2] at HC;refine HC.out.mono ?_;clear HC;rintro e w1 ⟨rfl,hb⟩;replace HS:=zaa (HS.out.later hb);clear hb;go_wp2_with fail;go_meet;exact⟨by rw[hfo],HS⟩
      |false=>
       have HC:=zaa (rsees_l rb ⟨#[98,117,102,115]⟩ [98,117,102,115] rfl ts s6 _ (zaa HS.out.rin) hts);rw[h2] at HC;refine HC.out.mono ?_;clear HC;rintro e w1 ⟨rfl,hb⟩;replace HS:=zaa (HS.out.later hb);clear hb;go_wp2_with fail
       cases h3:s6.sees [101,118,101,110,116,115] with
       |true=>
        have hfo:fourB s6=true:=by unfold fourB;rw[h1,h2,h3];rfl
        have HC:=zaa (rsees_l rb ⟨#[101,118,101,110,116,115]⟩ [101,118,101,110,116,115] rfl ts s6 _ (zaa HS.out.rin) hts);rw[h3] at HC;refine HC.out.mono ?_;clear HC;rintro e w1 ⟨rfl,hb⟩;replace HS:=zaa (HS.out.later hb);clear hb;go_wp2_with fail;go_meet;exact⟨by rw[hfo],HS⟩
       |false=>
        have HC:=zaa (rsees_l rb ⟨#[101,118,101,110,116,115]⟩ [101,118,101,110,116,115] rfl ts s6 _ (zaa HS.out.rin) hts);rw[h3] at HC;refine HC.out.mono ?_;clear HC;rintro e w1 ⟨rfl,hb⟩;replace HS:=zaa (HS.out.later hb);clear hb;go_wp2_with fail
        cases h4:s6.sees [98,111,97,114,100,115] with
        |true=>
         have hfo:fourB s6=true:=by unfold fourB;rw[h1,h2,h3,h4];rfl
         have HC:=zaa (rsees_l rb ⟨#[98,111,97,114,100,115]⟩ [98,111,97,114,100,115] rfl ts s6 _ (zaa HS.out.rin) hts);rw[h4] at HC;refine HC.out.mono ?_;clear HC;rintro e w1 ⟨rfl,hb⟩;replace HS:=zaa (HS.out.later hb);clear hb;go_wp2_with fail;go_meet;exact⟨by rw[hfo],HS⟩
        |false=>
         have hfo:fourB s6=false:=by unfold fourB;rw[h1,h2,h3,h4];rfl
         have HC:=zaa (rsees_l rb ⟨#[98,111,97,114,100,115]⟩ [98,111,97,114,100,115] rfl ts s6 _ (zaa HS.out.rin) hts);rw[h4] at HC;refine HC.out.mono ?_;clear HC;rintro e w1 ⟨rfl,hb⟩;replace HS:=zaa (HS.out.later hb);clear hb;go_wp2_with fail;go_meet;exact⟨by rw[hfo],HS⟩
   case rest=>
    as_aux_lemma=>
     obtain⟨rfl,HS⟩:=hcut
     go_upto_if 46 with fail
     go_cut [4] (fun v4 wx=> ∃(what7:List (List UInt8)) (s7:InS),v4= .string ⟨(zeb what7).toArray⟩∧Hid (znS ⟨⟨a1,a2,a3,a4,se,ev,bo,bu,po,pr⟩,what⟩ s6=(what7,s7))∧Hid (s7.err=0→ze5 what7)∧Hid (XS rb ts W (fun b=>xb<b) xb W.heap.size 51 [.string ⟨#[]⟩,.int .i64 0,.int .i64 0,.int .i64 0,.slice none 0 0,.int .i64 0,.int .i64 0,.slice none 0 0,.slice none 0 0,.slice none 0 0] s7 [.string ⟨a1.toArray⟩,.int .i64 a2,.int .i64 a3,.int .i64 a4,.slice A0 se.length q0,.int .i64 ev,.int .i64 bo,.slice A1 bu.length q1,.slice A2 po.length q2,.slice A3 pr.length q3] [.slice A0 se.length q0,.slice A1 bu.length q1,.slice A2 po.length q2,.slice A3 pr.length q3] [⟨3,1,zbs se⟩,⟨3,1,zbs bu⟩,⟨53,6,po.map zcp.cells⟩,⟨67,5,pr.map zca.cells⟩] wx))
     case first=>
      cases hfo:fourB s6 with
      |false=>
       go_wp2_with fail;go_meet;exact⟨what,s6,rfl,zaa (head_no hfo),zaa (fun _=>HW.out),HS⟩
      |true=>
       obtain⟨hh1,hh2⟩:=head_yes (b:=⟨⟨a1,a2,a3,a4,se,ev,bo,bu,po,pr⟩,what⟩) hfo;have HH1:=zaa hh1;have HC:=zaa (ronce_any rb what s6.here.text HW.out hh2 ts s6 _ (zaa HS.out.rin) hts);have HN:=zaa (fun h:what.contains s6.here.text=false=>HW.out.add hh2 h);clear hh1 hh2;go_wp2_with fail;refine HC.out.mono ?_;clear HC;rintro e w1 ⟨rfl,hr,hk⟩;replace HS:=zaa (HS.out.call hr hk);clear hr hk;go_wp2_with fail;go_meet;refine⟨_,_,rfl,HH1,zaa (fun h0=> ?_),HS⟩
       cases hc:what.contains s6.here.text with
       |false=>exact HN.out hc
       |true=>rw[hc] at h0;exact absurd h0 (zl6 81 (by decide) s6)
     case rest=>
      obtain⟨what7,s7,rfl,HH,HW7,HS⟩:=hcut;have HTH:Hid (ze7 ⟨⟨a1,a2,a3,a4,se,ev,bo,bu,po,pr⟩,what⟩ s6=zdn ⟨a1,a2,a3,a4,se,ev,bo,bu,po,pr⟩ what7 s7):=zaa ((znb _ s6).trans (by rw[HH.out]));clear HH;go_wp2_with fail;have HC:=zaa (zkt rb ⟨#[115,101,109,97,115]⟩ [115,101,109,97,115] rfl ts s7 _ (zaa HS.out.rin) hts);obtain⟨⟨b1,s8⟩,h7⟩: ∃p,isR [115,101,109,97,115] s7=p:=⟨_,rfl⟩;rw[h7] at HC;dsimp only at HC;refine HC.out.mono ?_;clear HC;rintro e w1 ⟨rfl,hr,hk⟩;replace HS:=zaa (HS.out.call hr hk);clear hr hk
      cases b1 with
      |true=>
       as_aux_lemma=>
        go_wp2_with fail;obtain⟨⟨l,s9⟩,h1⟩: ∃p,zeM zcW s8=p:=⟨_,rfl⟩;have HC:=zaa (zne rb ts s8 _ (zaa HS.out.rin) hts HT);unfold znk at HC;rw[h1] at HC;dsimp only at HC;refine HC.out.mono ?_;clear HC;rintro e w2 ⟨v,rfl,hr,hk,ho⟩;obtain⟨B0,p0,rfl⟩:=zah ho;obtain⟨ci,fi,hl⟩:=(HS.out.call hr hk).x.fact 4 rfl;have hs:=HS.out.assign (k:=0) (i:=4) (r':=⟨3,1,zbs l⟩) hr hk (fun e he=>by obtain⟨n,_,rfl⟩:=List.mem_map.1 he;rfl) (by simpa [zbs] using ho) (zod _ _ l);replace HS:=zaa hs;clear hs hr hk ho;go_wp2_with fail;clear ci fi hl;obtain⟨⟨u,s10⟩,h9⟩: ∃p,zaR [59] s9=p:=⟨_,rfl⟩;have HC:=zaa (zco rb ⟨#[59]⟩ [59] rfl ts s9 _ (zaa HS.out.rin) hts);rw[h9] at HC;dsimp only at HC;refine HC.out.mono ?_;clear HC;rintro e w1 ⟨rfl,hr,hk⟩;replace HS:=zaa (HS.out.call hr hk);clear hr hk;have hsw:=switch_semas (p:=⟨a1,a2,a3,a4,se,ev,bo,bu,po,pr⟩) (what:=what7) h7 h1 h9;have hth:=HTH.out.trans hsw;have hst:=fun h0=>HW7.out (switch_sticky hsw h0)
        have HL:=zaa (zoD (f:=f) he hse hth);have hl3:=zdM (zhY _) (ziB _) hth he;have hmz:=zog HS.out.rin
        try go_wp2_with fail
        go_roundw
        case rel=>exact⟨l,bu,ev,bo,po,pr,what7,s10,f,B0,A1,A2,A3,p0,q1,q2,q3,rfl,fun h0=>by have:=hl3 h0;(try simp only[List.length_append,List.length_cons,List.length_nil]);exact⟨by omega,by omega,hst h0⟩,by(try simp only[List.length_append,List.length_cons,List.length_nil]);omega,HL.out.symm.trans hC.out,by simpa using HS.out⟩
        case measure=>
         rw[hmz,HM.out]
         split
         ·rename_i h0;have:=hl3 h0;omega
         ·omega
      |false=>
       obtain⟨n1,e8⟩:=isR_false h7;obtain rfl:=e8.symm;clear h7;go_wp2_with fail;have HC:=zaa (zkt rb ⟨#[98,117,102,115]⟩ [98,117,102,115] rfl ts s7 _ (zaa HS.out.rin) hts);obtain⟨⟨b1,s8⟩,h7⟩: ∃p,isR [98,117,102,115] s7=p:=⟨_,rfl⟩;rw[h7] at HC;dsimp only at HC;refine HC.out.mono ?_;clear HC;rintro e w1 ⟨rfl,hr,hk⟩;replace HS:=zaa (HS.out.call hr hk);clear hr hk
       cases b1 with
       |true=>
        as_aux_lemma=>
         go_wp2_with fail;obtain⟨⟨l,s9⟩,h1⟩: ∃p,zeM zcW s8=p:=⟨_,rfl⟩;have HC:=zaa (zne rb ts s8 _ (zaa HS.out.rin) hts HT);unfold znk at HC;rw[h1] at HC;dsimp only at HC;refine HC.out.mono ?_;clear HC;rintro e w2 ⟨v,rfl,hr,hk,ho⟩;obtain⟨B0,p0,rfl⟩:=zah ho;obtain⟨ci,fi,hl⟩:=(HS.out.call hr hk).x.fact 7 rfl;have hs:=HS.out.assign (k:=1) (i:=7) (r':=⟨3,1,zbs l⟩) hr hk (fun e he=>by obtain⟨n,_,rfl⟩:=List.mem_map.1 he;rfl) (by simpa [zbs] using ho) (zod _ _ l);replace HS:=zaa hs;clear hs hr hk ho;go_wp2_with fail;clear ci fi hl;obtain⟨⟨u,s10⟩,h9⟩: ∃p,zaR [59] s9=p:=⟨_,rfl⟩;have HC:=zaa (zco rb ⟨#[59]⟩ [59] rfl ts s9 _ (zaa HS.out.rin) hts);rw[h9] at HC;dsimp only at HC;refine HC.out.mono ?_;clear HC;rintro e w1 ⟨rfl,hr,hk⟩;replace HS:=zaa (HS.out.call hr hk);clear hr hk;have hsw:=switch_bufs (p:=⟨a1,a2,a3,a4,se,ev,bo,bu,po,pr⟩) (what:=what7) n1 h7 h1 h9;have hth:=HTH.out.trans hsw;have hst:=fun h0=>HW7.out (switch_sticky hsw h0)
         have HL:=zaa (zoD (f:=f) he hse hth);have hl3:=zdM (zhY _) (ziB _) hth he;have hmz:=zog HS.out.rin
         try go_wp2_with fail
         go_roundw
         case rel=>exact⟨se,l,ev,bo,po,pr,what7,s10,f,A0,B0,A2,A3,q0,p0,q2,q3,rfl,fun h0=>by have:=hl3 h0;(try simp only[List.length_append,List.length_cons,List.length_nil]);exact⟨by omega,by omega,hst h0⟩,by(try simp only[List.length_append,List.length_cons,List.length_nil]);omega,HL.out.symm.trans hC.out,by simpa using HS.out⟩
         case measure=>
          rw[hmz,HM.out]
          split
          ·rename_i h0;have:=hl3 h0;omega
          ·omega
       |false=>
        obtain⟨n2,e8⟩:=isR_false h7;obtain rfl:=e8.symm;clear h7;go_wp2_with fail;have HC:=zaa (zkt rb ⟨#[101,118,101,110,116,115]⟩ [101,118,101,110,116,115] rfl ts s7 _ (zaa HS.out.rin) hts);obtain⟨⟨b1,s8⟩,h7⟩: ∃p,isR [101,118,101,110,116,115] s7=p:=⟨_,rfl⟩;rw[h7] at HC;dsimp only at HC;refine HC.out.mono ?_;clear HC;rintro e w1 ⟨rfl,hr,hk⟩;replace HS:=zaa (HS.out.call hr hk);clear hr hk
        cases b1 with
        |true=>
         as_aux_lemma=>
          go_wp2_with fail;obtain⟨⟨l,s9⟩,h1⟩: ∃p,zcW s8=p:=⟨_,rfl⟩;have HC:=zaa (zcJ rb ts s8 _ (zaa HS.out.rin) hts HT);rw[h1] at HC;dsimp only at HC;refine HC.out.mono ?_;clear HC;rintro e w1 ⟨rfl,hr,hk⟩;replace HS:=zaa (HS.out.call hr hk);clear hr hk;obtain⟨ci,fi,hl⟩:=HS.out.x.fact 5 rfl;have hs:=HS.out.put 5 (.int .i64 l);replace HS:=zaa hs;clear hs;go_wp2_with fail;clear ci fi hl;obtain⟨⟨u,s10⟩,h9⟩: ∃p,zaR [59] s9=p:=⟨_,rfl⟩;have HC:=zaa (zco rb ⟨#[59]⟩ [59] rfl ts s9 _ (zaa HS.out.rin) hts);rw[h9] at HC;dsimp only at HC;refine HC.out.mono ?_;clear HC;rintro e w1 ⟨rfl,hr,hk⟩;replace HS:=zaa (HS.out.call hr hk);clear hr hk;have hsw:=switch_events (p:=⟨a1,a2,a3,a4,se,ev,bo,bu,po,pr⟩) (what:=what7) n1 n2 h7 h1 h9;have hth:=HTH.out.trans hsw;have hst:=fun h0=>HW7.out (switch_sticky hsw h0)
          have HL:=zaa (zoD (f:=f) he hse hth);have hl3:=zdM (zhY _) (ziB _) hth he;have hmz:=zog HS.out.rin
          try go_wp2_with fail
          go_roundw
          case rel=>exact⟨se,bu,l,bo,po,pr,what7,s10,f,A0,A1,A2,A3,q0,q1,q2,q3,rfl,fun h0=>by have:=hl3 h0;(try simp only[List.length_append,List.length_cons,List.length_nil]);exact⟨by omega,by omega,hst h0⟩,by(try simp only[List.length_append,List.length_cons,List.length_nil]);omega,HL.out.symm.trans hC.out,by simpa using HS.out⟩
          case measure=>
           rw[hmz,HM.out]
           split
           ·rename_i h0;have:=hl3 h0;omega
           ·omega
        |false=>
         obtain⟨n3,e8⟩:=isR_false h7;obtain rfl:=e8.symm;clear h7;go_wp2_with fail;have HC:=zaa (zkt rb ⟨#[98,111,97,114,100,115]⟩ [98,111,97,114,100,115] rfl ts s7 _ (zaa HS.out.rin) hts);obtain⟨⟨b1,s8⟩,h7⟩: ∃p,isR [98,111,97,114,100,115] s7=p:=⟨_,rfl⟩;rw[h7] at HC;dsimp only at HC;refine HC.out.mono ?_;clear HC;rintro e w1 ⟨rfl,hr,hk⟩;replace HS:=zaa (HS.out.call hr hk);clear hr hk
         cases b1 with
         |true=>
          as_aux_lemma=>
           go_wp2_with fail;obtain⟨⟨l,s9⟩,h1⟩: ∃p,zcW s8=p:=⟨_,rfl⟩;have HC:=zaa (zcJ rb ts s8 _ (zaa HS.out.rin) hts HT);rw[h1] at HC;dsimp only at HC;refine HC.out.mono ?_;clear HC;rintro e w1 ⟨rfl,hr,hk⟩;replace HS:=zaa (HS.out.call hr hk);clear hr hk;obtain⟨ci,fi,hl⟩:=HS.out.x.fact 6 rfl;have hs:=HS.out.put 6 (.int .i64 l);replace HS:=zaa hs;clear hs;go_wp2_with fail;clear ci fi hl;obtain⟨⟨u,s10⟩,h9⟩: ∃p,zaR [59] s9=p:=⟨_,rfl⟩;have HC:=zaa (zco rb ⟨#[59]⟩ [59] rfl ts s9 _ (zaa HS.out.rin) hts);rw[h9] at HC;dsimp only at HC;refine HC.out.mono ?_;clear HC;rintro e w1 ⟨rfl,hr,hk⟩;replace HS:=zaa (HS.out.call hr hk);clear hr hk;have hsw:=switch_boards (p:=⟨a1,a2,a3,a4,se,ev,bo,bu,po,pr⟩) (what:=what7) n1 n2 n3 h7 h1 h9;have hth:=HTH.out.trans hsw;have hst:=fun h0=>HW7.out (switch_sticky hsw h0)
           have HL:=zaa (zoD (f:=f) he hse hth);have hl3:=zdM (zhY _) (ziB _) hth he;have hmz:=zog HS.out.rin
           try go_wp2_with fail
           go_roundw
           case rel=>exact⟨se,bu,ev,l,po,pr,what7,s10,f,A0,A1,A2,A3,q0,q1,q2,q3,rfl,fun h0=>by have:=hl3 h0;(try simp only[List.length_append,List.length_cons,List.length_nil]);exact⟨by omega,by omega,hst h0⟩,by(try simp only[List.length_append,List.length_cons,List.length_nil]);omega,HL.out.symm.trans hC.out,by simpa using HS.out⟩
           case measure=>
            rw[hmz,HM.out]
            split
            ·rename_i h0;have:=hl3 h0;omega
            ·omega
         |false=>
          obtain⟨n4,e8⟩:=isR_false h7;obtain rfl:=e8.symm;clear h7;go_wp2_with fail;have HC:=zaa (zkt rb ⟨#[112,114,111,99]⟩ [112,114,111,99] rfl ts s7 _ (zaa HS.out.rin) hts);obtain⟨⟨b1,s8⟩,h7⟩: ∃p,isR [112,114,111,99] s7=p:=⟨_,rfl⟩;rw[h7] at HC;dsimp only at HC;refine HC.out.mono ?_;clear HC;rintro e w1 ⟨rfl,hr,hk⟩;replace HS:=zaa (HS.out.call hr hk);clear hr hk
          cases b1 with
          |true=>
           as_aux_lemma=>
            obtain⟨⟨x,s9⟩,h1⟩: ∃p,zhW s8=p:=⟨_,rfl⟩;go_wp2_with fail;obtain⟨wo,rfl⟩: ∃wo,wo=w1:=⟨_,rfl⟩;have HAT:=zaa HS.out.x.at_;refine zad (S:=fun w'=>w'.heap[xb]? =wo.heap[xb]?) 6 (by kernel_rfl) (by kernel_rfl) rfl (fun hHeld=> ?_);replace HS:=zaa HS.out.drew;generalize wo.drew=U at *;refine tq 0 85 rfl hHeld ?_
            (try simp only[pu])
            refine tyZ (v:= ?_) 1 86 rfl hHeld (fun v hS=> ?_) ?_;rotate_left
            ·have e1:=cell_of_row _ _ 9 _ _ _ (hS.trans HAT.out)
             go_simp
             with_reducible rfl
            refine tq 2 87 rfl hHeld ?_
            (try simp only[pu])
            refine trZ [3] (zau.cons rfl (fun K hK=> ?_) zau.nil);go_simp;have HC:=zaa (zoj rb ts s8 U (zaa HS.out.rin) hts HT);rw[h1] at HC;have HFR:=zaa (HS.out.rows.fresh HS.out.new);have hUz:=HS.out.x.lt;refine HC.out.mono ?_;clear HC;rintro e w6 ⟨us,rfl,hr,hk,hD⟩;obtain⟨u0,rfl⟩:=List.length_eq_one_iff.1 (show us.length=1 from hD.1);obtain⟨B0,d0,rfl, -⟩:=((hD.2 0 u0 _ rfl rfl).mono (H:=fun _=>True) (fun _ _ _=>trivial)).slice;replace HS:=zaa (HS.out.call hr hk);have HD:=zaa (hD.mono (fun b hb _=>HFR.out b hb));clear hr hk hD HFR;obtain⟨p0,p1,p2,p3,p4⟩:=x;dsimp only at HD ⊢;simp only[zch,zbj,List.getD_cons_zero];generalize hl0:(List.map zcQ.cells p4).length=n0 at *;clear hl0;go_wp2_with fail;refine hK.out _ _ (HS.out.x.at_.trans HAT.out.symm) (fun hHeld=> ?_);clear hK K
            (try simp only[pu])
            refine trZ [4] (zau.cons rfl (fun K hK=> ?_) zau.nil);refine if_goalR (by rfl) ?_;refine wp_valR (exec_bsR (ps:= #[(0,.agg #[.string ⟨p0.toArray⟩,.int .i64 p1,.int .i64 p2,.int .i64 p3,.slice B0 n0 d0])]) rfl (by kernel_rfl) (bs_proc _ _ _ _ _ _ _ _)) ?_;have HBn:=zaa ((Below.refl w6.heap.size w6).alloc (Nat.le_refl _) (Obj.cells #[.string ⟨p0.toArray⟩,.int .i64 p1,.int .i64 p2,.int .i64 p3,.slice B0 n0 d0] 67));have XN:=zaa (heap_alloc_new w6 (Obj.cells #[.string ⟨p0.toArray⟩,.int .i64 p1,.int .i64 p2,.int .i64 p3,.slice B0 n0 d0] 67));have HS7:=zaa (HS.out.later HBn.out);refine hK.out _ _ (HS7.out.x.at_.trans HAT.out.symm) (fun hHeld=> ?_);clear hK K;obtain⟨hq,cs,ho,hc6⟩:=HS.out.rows.own 3 _ _ rfl rfl;have ho6:w6.ownsRow 0 67 5 (.slice A3 pr.length q3) pr.length cs:=by simpa using ho
            clear ho;have HO7:=zaa (zai ho6 (fun g hg hb=>HBn.out.block g (zaj ho6 hg).2));have hlw:w6.heap.size<(w6.alloc (Obj.cells #[.string ⟨p0.toArray⟩,.int .i64 p1,.int .i64 p2,.int .i64 p3,.slice B0 n0 d0] 67)).heap.size:=by simp
            have HC6:=zaa hc6;have HQ:=zaa hq;clear hq ho6 hc6;generalize hnb:w6.heap.size=nb at XN ⊢;have HNB:=zaa hnb;clear hnb;generalize w6.alloc (Obj.cells #[.string ⟨p0.toArray⟩,.int .i64 p1,.int .i64 p2,.int .i64 p3,.slice B0 n0 d0] 67)=V4 at *
            (try simp only[pu])
            refine trZ [5] (zau.cons rfl (fun K hK=> ?_) zau.nil);refine zaw _ rfl (.tmp 86) (.tmp 89) 49 rfl 0 67 ji0 _ 5 64 Tryz.underlying49 jhi0 jhz0 jhz1 jhz2 rfl (by decide) (.slice A3 pr.length q3) pr.length cs rfl HO7.out _ (some ⟨nb,0,none⟩) 1 1 [.string ⟨p0.toArray⟩,.int .i64 p1,.int .i64 p2,.int .i64 p3,.slice B0 n0 d0] rfl (zbk XN.out rfl) (by simp[Value.oneCell']) (by unfold maxLen;omega) (by omega) (by omega) ?_;intro v5 wz hown5 hg5 hat5;obtain⟨Az,qz,rfl⟩:=zah hown5;have hxz:=hg5.block xb HS7.out.x.lt (fun e=>HS.out.out xb (.inr (.inl rfl)) (HQ.out xb e.symm));refine hK.out _ _ (hxz.trans (HS7.out.x.at_.trans HAT.out.symm)) (fun hHeld=> ?_);clear hK K hHeld;have hrz:=hxz.trans HS7.out.x.at_;have q0:=cell_of_row _ _ 9 _ _ _ hrz;have q1:=frozen_of_row _ _ 9 _ _ hrz;have hlz:=(zal hrz);have hs:=HS.out.push (k:=3) (i:=9) HBn.out rfl rfl (f:=zca.cells ⟨p0,p1,p2,p3,p4⟩) rfl HC6.out ((zbt [.string ⟨p0.toArray⟩,.int .i64 p1,.int .i64 p2,.int .i64 p3]).append (HD.out.below HBn.out)) (by simpa using hown5) hg5 hat5;replace HS:=zaa hs;refine zae (by kernel_rfl) ?_;simp only[List.drop_succ_cons,List.drop_zero];clear hs hrz hxz hown5 hg5 hat5 HS7 HBn XN HO7 HC6 HQ HAT HNB hlw;go_wp2_with fail;clear q0 q1 hlz;have hsw:=switch_proc (p:=⟨a1,a2,a3,a4,se,ev,bo,bu,po,pr⟩) (what:=what7) n1 n2 n3 n4 h7 h1;have hth:=HTH.out.trans hsw;have hst:=fun h0=>HW7.out (switch_sticky hsw h0)
            have HL:=zaa (zoD (f:=f) he hse hth);have hl3:=zdM (zhY _) (ziB _) hth he;have hmz:=zog HS.out.rin
            try go_wp2_with fail
            go_roundw
            case rel=>exact⟨se,bu,ev,bo,po,(pr++[⟨p0,p1,p2,p3,p4⟩]),what7,s9,f,A0,A1,A2,Az,q0,q1,q2,qz,rfl,fun h0=>by have:=hl3 h0;(try simp only[List.length_append,List.length_cons,List.length_nil]);exact⟨by omega,by omega,hst h0⟩,by(try simp only[List.length_append,List.length_cons,List.length_nil]);omega,HL.out.symm.trans hC.out,by simpa using HS.out⟩
            case measure=>
             rw[hmz,HM.out]
             split
             ·rename_i h0;have:=hl3 h0;omega
             ·omega
          |false=>
           as_aux_lemma=>
            obtain⟨n5,e8⟩:=isR_false h7;obtain rfl:=e8.symm;clear h7;go_wp2_with fail;obtain⟨⟨x,s9⟩,h1⟩: ∃p,zf1 s7=p:=⟨_,rfl⟩;obtain⟨wo,rfl⟩: ∃wo,wo=w1:=⟨_,rfl⟩;have HAT:=zaa HS.out.x.at_;refine zad (S:=fun w'=>w'.heap[xb]? =wo.heap[xb]?) 6 (by kernel_rfl) (by kernel_rfl) rfl (fun hHeld=> ?_);replace HS:=zaa HS.out.drew;generalize wo.drew=U at *;refine tq 0 51 rfl hHeld ?_
            (try simp only[pu])
            refine tyZ (v:= ?_) 1 52 rfl hHeld (fun v hS=> ?_) ?_;rotate_left
            ·have e1:=cell_of_row _ _ 8 _ _ _ (hS.trans HAT.out)
             go_simp
             with_reducible rfl
            refine tq 2 53 rfl hHeld ?_
            (try simp only[pu])
            refine trZ [3] (zau.cons rfl (fun K hK=> ?_) zau.nil);go_simp;have HC:=zaa (zop rb ts s7 U (zaa HS.out.rin) hts HT);rw[h1] at HC;have hUz:=HS.out.x.lt;refine HC.out.mono ?_;clear HC;rintro e w6 ⟨rfl,hr,hk⟩;replace HS:=zaa (HS.out.call hr hk);clear hr hk;obtain⟨p0,p1,p2,p3,p4,p5⟩:=x;dsimp only;simp only[zaL,zbj];go_wp2_with fail;refine hK.out _ _ (HS.out.x.at_.trans HAT.out.symm) (fun hHeld=> ?_);clear hK K
            (try simp only[pu])
            refine trZ [4] (zau.cons rfl (fun K hK=> ?_) zau.nil);refine if_goalR (by rfl) ?_;refine wp_valR (exec_bsR (ps:= #[(0,.agg #[.string ⟨p0.toArray⟩,.int .u8 (p1:Int),.bool p2,.int .i64 p3,.int .i64 p4,.int .i64 p5])]) rfl (by kernel_rfl) (bs_port _ _ _ _ _ _ _)) ?_;have HBn:=zaa ((Below.refl w6.heap.size w6).alloc (Nat.le_refl _) (Obj.cells #[.string ⟨p0.toArray⟩,.int .u8 (p1:Int),.bool p2,.int .i64 p3,.int .i64 p4,.int .i64 p5] 53));have XN:=zaa (heap_alloc_new w6 (Obj.cells #[.string ⟨p0.toArray⟩,.int .u8 (p1:Int),.bool p2,.int .i64 p3,.int .i64 p4,.int .i64 p5] 53));have HS7:=zaa (HS.out.later HBn.out);refine hK.out _ _ (HS7.out.x.at_.trans HAT.out.symm) (fun hHeld=> ?_);clear hK K;obtain⟨hq,cs,ho,hc6⟩:=HS.out.rows.own 2 _ _ rfl rfl;have ho6:w6.ownsRow 0 53 6 (.slice A2 po.length q2) po.length cs:=by simpa using ho
            clear ho;have HO7:=zaa (zai ho6 (fun g hg hb=>HBn.out.block g (zaj ho6 hg).2));have hlw:w6.heap.size<(w6.alloc (Obj.cells #[.string ⟨p0.toArray⟩,.int .u8 (p1:Int),.bool p2,.int .i64 p3,.int .i64 p4,.int .i64 p5] 53)).heap.size:=by simp
            have HC6:=zaa hc6;have HQ:=zaa hq;clear hq ho6 hc6;generalize hnb:w6.heap.size=nb at XN ⊢;have HNB:=zaa hnb;clear hnb;generalize w6.alloc (Obj.cells #[.string ⟨p0.toArray⟩,.int .u8 (p1:Int),.bool p2,.int .i64 p3,.int .i64 p4,.int .i64 p5] 53)=V4 at *
            (try simp only[pu])
            refine trZ [5] (zau.cons rfl (fun K hK=> ?_) zau.nil);refine zaw _ rfl (.tmp 52) (.tmp 55) 48 rfl 0 53 i0 _ 6 48 Tryz.underlying48 hi0 hz0 hz1 hz2 rfl (by decide) (.slice A2 po.length q2) po.length cs rfl HO7.out _ (some ⟨nb,0,none⟩) 1 1 [.string ⟨p0.toArray⟩,.int .u8 (p1:Int),.bool p2,.int .i64 p3,.int .i64 p4,.int .i64 p5] rfl (zbk XN.out rfl) (by simp[Value.oneCell']) (by unfold maxLen;omega) (by omega) (by omega) ?_;intro v5 wz hown5 hg5 hat5;obtain⟨Az,qz,rfl⟩:=zah hown5;have hxz:=hg5.block xb HS7.out.x.lt (fun e=>HS.out.out xb (.inr (.inl rfl)) (HQ.out xb e.symm));refine hK.out _ _ (hxz.trans (HS7.out.x.at_.trans HAT.out.symm)) (fun hHeld=> ?_);clear hK K hHeld;have hrz:=hxz.trans HS7.out.x.at_;have q0:=cell_of_row _ _ 8 _ _ _ hrz;have q1:=frozen_of_row _ _ 8 _ _ hrz;have hlz:=(zal hrz);have hs:=HS.out.push (k:=2) (i:=8) HBn.out rfl rfl (f:=zcp.cells ⟨p0,p1,p2,p3,p4,p5⟩) rfl HC6.out (zbt [.string ⟨p0.toArray⟩,.int .u8 (p1:Int),.bool p2,.int .i64 p3,.int .i64 p4,.int .i64 p5]) (by simpa using hown5) hg5 hat5;replace HS:=zaa hs;refine zae (by kernel_rfl) ?_;simp only[List.drop_succ_cons,List.drop_zero];clear hs hrz hxz hown5 hg5 hat5 HS7 HBn XN HO7 HC6 HQ HAT HNB hlw;go_wp2_with fail;clear q0 q1 hlz;have hsw:=switch_port (p:=⟨a1,a2,a3,a4,se,ev,bo,bu,po,pr⟩) (what:=what7) n1 n2 n3 n4 n5 h1;have hth:=HTH.out.trans hsw;have hst:=fun h0=>HW7.out (switch_sticky hsw h0)
            have HL:=zaa (zoD (f:=f) he hse hth);have hl3:=zdM (zhY _) (ziB _) hth he;have hmz:=zog HS.out.rin
            try go_wp2_with fail
            go_roundw
            case rel=>exact⟨se,bu,ev,bo,(po++[⟨p0,p1,p2,p3,p4,p5⟩]),pr,what7,s9,f,A0,A1,Az,A3,q0,q1,qz,q3,rfl,fun h0=>by have:=hl3 h0;(try simp only[List.length_append,List.length_cons,List.length_nil]);exact⟨by omega,by omega,hst h0⟩,by(try simp only[List.length_append,List.length_cons,List.length_nil]);omega,HL.out.symm.trans hC.out,by simpa using HS.out⟩
            case measure=>
             rw[hmz,HM.out]
             split
             ·rename_i h0;have:=hl3 h0;omega
             ·omega
end Go.Proofs.YtlngbjphagnloaaGreatDoor
