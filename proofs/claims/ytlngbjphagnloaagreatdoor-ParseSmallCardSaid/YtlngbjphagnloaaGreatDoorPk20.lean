/- Merged texts of the walks and of the plain laws on which the statement leans.-/
import Derived.Test.YtlngbjphagnloaaGreatDoorPk1
import Derived.Test.YtlngbjphagnloaaGreatDoorPk19
import Derived.Test.YtlngbjphagnloaaGreatDoorPk6
set_option maxHeartbeats 4000000
set_option maxRecDepth 100000
namespace Go.Proofs.YtlngbjphagnloaaGreatDoor
open Tryz
open Go.RowKit
open Go.ChangeMaps (setBlock)
attribute [local go_sem] zax.cell
theorem zjr:(prog.info? 67).map (fun i=>(i.zero,i.size,i.bytes))=some (some (.agg #[Value.string ⟨#[]⟩,Value.int .i64 0,Value.int .i64 0,Value.int .i64 0,Value.slice none 0 0]),5,64):=by kernel_rfl
theorem zjn:(prog.info? 53).map (fun i=>(i.zero,i.size,i.bytes))=some (some (.agg #[Value.string ⟨#[]⟩,Value.int .u8 0,Value.bool false,Value.int .i64 0,Value.int .i64 0,Value.int .i64 0]),6,48):=by kernel_rfl
theorem zbX {s:List UInt8} {r:List Tok} (b:Bool) (h:zaA s r=b):zbf s r= .ok b (if b then r.tail else r):=by
 unfold zbf;rw[h]
 cases b<;>rfl
theorem AtJ.far {sb j:Nat} {W w w':World} {F:Nat→Prop} (h:AtJ sb j W w) (hsb:sb<W.heap.size) (hk:zam F w w') (hF: ∀k,k<W.heap.size→ ¬F k):AtJ sb j W w':=by
 have hb:sb<w.heap.size:=Nat.lt_of_lt_of_le hsb h.kept.size;have e:=hk.block sb hb (hF sb hsb);exact⟨⟨hk.os.trans h.kept.os,hk.tape.trans h.kept.tape,hk.output.trans h.kept.output,Nat.le_trans h.kept.size hk.size,fun i hi hf=>(hk.block i (Nat.lt_of_lt_of_le hi h.kept.size) (hF i hi)).trans (h.kept.block i hi hf)⟩,(World.cell?_of_block (w:=w) (a:=⟨sb,1,none⟩) e).trans h.here,
  fun o ho=>(World.cell?_of_block (w:=w) (a:=⟨sb,o,none⟩) e).trans (h.rest o ho),(World.frozen?_of_block (w:=w) (a:=⟨sb,1,none⟩) e).trans h.free,fun o=>(World.frozen?_of_block (w:=w) (a:=⟨sb,o,none⟩) e).trans (h.hold o)⟩
theorem zam.grown {w w':World} {ob:Option Nat} (h:w.grownBy w' ob):zam (fun b=>ob=some b) w w':=⟨h.os,h.tape,h.output,h.size,fun i hi hn=>h.block i hi (fun e=>hn e.symm)⟩
theorem zbb.ownlt {w:World} {B:Nat} {vs:List Value} {rs:List zdx} (h:zbb w B vs rs): ∀u∈vs,∀g,u.ownBlock=some g→B≤g∧g<w.heap.size:=fun u hu g hg=>by
 obtain⟨i,hi⟩:=List.getElem?_of_mem hu;have hl:i<rs.length:=by rw[←h.len];exact(List.getElem?_eq_some_iff.1 hi).1
 obtain⟨cs',ho',_⟩:=h.own i u rs[i] hi (List.getElem?_eq_getElem hl);exact zaj ho' hg
theorem zm4 {α:Type} (a b:α):(if true=true then a else b)=a:=if_pos rfl
theorem zk9 {α:Type} (a b:α):(if false=true then a else b)=b:=if_neg (by decide)
theorem zmd (pb i0 j bb mb B:Nat) (ts:List Tok) (b:zag) (v4 v7 v8 v9:Value) (W0 W:World) (H0:Hid (Cur pb ts i0 W0)) (hts:ts.length≤1000000) (hj:j≤ts.length) (hT:Hid (zbS ts)) (HA:Hid (AtJ pb j W0 W)) (HB:Hid (BSt pb bb mb B b v4 v7 v8 v9 W)) (hpW:pb<W0.heap.size) (hW0:W0.heap.size≤bb) (hW1:W0.heap.size≤mb) (hE:Hid (zci W)) (hpE:3≤pb)(hw:Hid ((hdT (ts.drop j)).text∉zdQ)) (hsees:zaA [112,114,111,99] (ts.drop j)=true) (hfew:b.p.procs.length≤ts.length) (hsz:Hid (∀t∈ts,t.text.length≤1000000)):
 Calls prog 137 #[.pointer (some ⟨pb,0,none⟩),.pointer (some ⟨bb,0,none⟩)] W fun e W'=>zbo pb ts W0 bb mb B (za3 b (ts.drop j)) e W'∧zam (fun k=>k=pb∨k=bb∨k=mb∨B≤k) W W':=by
 have hts':ts.length≤1099511627776:=by omega
 have H:=zaa (H0.out.to HA.out);obtain⟨l1,l2,l3,l4,l5,l6⟩:=HB.out.low;have hgd:=zaa hT.out.good;have hpW':pb<W.heap.size:=by omega
 have ft1:=zbF;have hmm:= @run_makeMap prog;have hmf: ∀(fn:Fn) (first cap:Array Value) (w:World),(Instr.makeFunc fn first cap).run prog w= .ok (.func fn first cap) w:=fun _ _ _ _=>rfl
 have hi1:=fun(v:Value)=>zaX ((W.alloc (Obj.cells #[Value.pointer (some ⟨pb,0,none⟩)] 85)).alloc (Obj.cells #[Value.pointer (some ⟨bb,0,none⟩)] 201)) (W.heap.size+1+1) (by simp) #[] 0 ⟨#[115,101,109,97,115]⟩ v rfl
 have hi2:=fun(v1 v:Value)=>zaX ((W.alloc (Obj.cells #[Value.pointer (some ⟨pb,0,none⟩)] 85)).alloc (Obj.cells #[Value.pointer (some ⟨bb,0,none⟩)] 201)) (W.heap.size+1+1) (by simp) #[⟨.string ⟨#[115,101,109,97,115]⟩,v1,0⟩] 1 ⟨#[98,117,102,115]⟩ v (by kernel_rfl)
 have hi3:=fun(v1 v2 v:Value)=>zaX ((W.alloc (Obj.cells #[Value.pointer (some ⟨pb,0,none⟩)] 85)).alloc (Obj.cells #[Value.pointer (some ⟨bb,0,none⟩)] 201)) (W.heap.size+1+1) (by simp) #[⟨.string ⟨#[115,101,109,97,115]⟩,v1,0⟩,⟨.string ⟨#[98,117,102,115]⟩,v2,1⟩] 2 ⟨#[101,118,101,110,116,115]⟩ v (by kernel_rfl)
 have hi4:=fun(v1 v2 v3 v:Value)=>zaX ((W.alloc (Obj.cells #[Value.pointer (some ⟨pb,0,none⟩)] 85)).alloc (Obj.cells #[Value.pointer (some ⟨bb,0,none⟩)] 201)) (W.heap.size+1+1) (by simp) #[⟨.string ⟨#[115,101,109,97,115]⟩,v1,0⟩,⟨.string ⟨#[98,117,102,115]⟩,v2,1⟩,⟨.string ⟨#[101,118,101,110,116,115]⟩,v3,2⟩] 3 ⟨#[98,111,97,114,100,115]⟩ v (by kernel_rfl)
 go_enter func137,ntmps137
 go_wp2_with fail
 change Calls _ _ _ (ziG W pb bb) _
 have HF:=zaa (zcN W pb bb);generalize ziG W pb bb=V at *;clear hi1 hi2 hi3 hi4 hmm hmf;have HAV:=zaa (HA.out.below hpW HF.out.below);have HBV:=zaa (HB.out.below HF.out.below);have HCV:=zaa (H.out.below HF.out.below);have HEV:=zaa (hE.out.below HF.out.below);have HC:=zaa (zcf pb j ts V HCV hts' hj);generalize ht:hdT (ts.drop j)=t at HC hw;have HT0:=zaa ht;clear ht;obtain⟨κ,tx,ta⟩:=t;unfold zcC at HC;dsimp only at HC hw;generalize(κ:Int)=κz at HC;generalize(ta:Int)=taz at HC;refine(HC.out).mono ?_;rintro e w1 ⟨rfl,hb⟩;have HK1:=zaa ((zam.of_below hb:zam (fun k=>k=pb∨k=bb∨k=mb) V w1));have HA1:=zaa (HAV.out.below hpW hb);have HB1:=zaa (HBV.out.below hb);have HC1:=zaa (HCV.out.below hb);have HE1:=zaa (HEV.out.below hb);have HM1:=zaa ((hb.block _ (by have:=HF.out.size;omega)).trans HF.out.map);clear hb HC HAV HBV HCV HEV;have _:=hW1;have _:=hsz;obtain⟨ii,hi0,hz0,hz1,hz2⟩:=info_parts zjr;obtain⟨A,q,hvk⟩:=zah (HB.out.rows.own 3 v9 _ rfl rfl).choose_spec.1;dsimp only at hvk;subst hvk;have HB2o:Hid (∀g,(Value.slice A (b.p.procs.map zca.cells).length q).ownBlock=some g→B≤g∧g<W.heap.size):=zaa (fun g hg=>zaj (HB.out.rows.own 3 _ _ rfl rfl).choose_spec.1 hg);have hnl:(b.p.procs.map zca.cells).length≤1000000:=by rw[List.length_map];omega
 generalize hnn:(b.p.procs.map zca.cells).length=m at *;have HNN:=zaa hnn;clear hnn;have HTH:=zaa (zgc hT.out j b (by rw[HT0.out];exact hw.out));have HTK:=zaa (zbX true hsees);rw[hsees] at HTH;rw[zm4] at HTH HTK;clear hsees;have hFF: ∀k,W.heap.size≤k→ ¬(k=pb∨k=bb∨k=mb):=fun k hk=>by omega
 have HFF:=zaa hFF;clear hFF;generalize hKK:(⟨tx.toArray⟩:ByteArray)=K at *;have hl:=zhv HM1.out K (by rw[←hKK];exact hw.out);clear hKK hw HT0;have hne:=zkU;obtain⟨hp0,hp1,hz1'⟩:=HF.out.keep HK1.out HFF.out;go_wp2_with fail;clear hne hl hp0 hp1 hz1';refine(za6 pb j ts ⟨#[112,114,111,99]⟩ w1 HC1 hts' hj (by decide)).mono ?_;rintro e w2 hE2;rcases hE2.split with⟨a2,j2,hr,hj2,hA,rfl⟩|⟨n,jn,hr,hjn,hA,rfl⟩
 rotate_left
 ·exact absurd hr (zbh _ _)
 have hr2:=HTK.out.symm.trans hr;injection hr2 with hr2 hd2
 subst hr2;have HK2:=zaa (HK1.out.trans (hA.kept.mono (G:=fun k=>k=pb∨k=bb∨k=mb) (fun k hk=> .inl hk)));have HA2:=zaa (HA1.out.trans hA);have HB2:=zaa (HB1.out.to hA);have HE2:=zaa (HE1.out.to hpE hA);have HD2:=zaa hd2;obtain⟨hp0,hp1,hz2'⟩:=HF.out.keep HK2.out HFF.out;have hrow:=HB2.out.row;have hKW: ∀V',zam (fun k=>k=pb∨k=bb∨k=mb) V V'→zam (fun k=>k=pb∨k=bb∨k=mb∨B≤k) W V':=fun V' hk=>((zam.of_below HF.out.below:zam (fun k=>k=pb∨k=bb∨k=mb) W V).trans hk).mono (G:=fun k=>k=pb∨k=bb∨k=mb∨B≤k) (fun k hk=>by rcases hk with h|h|h<;>simp[h])
 have HKW:=zaa hKW;clear hKW hE2 hr hA hd2 HK1 HA1 HB1 HE1 HC1 HM1 HTK;go_wp2_with fail;have hbl: ∀b',b'=W.heap.size∨b'=W.heap.size+1∨b'=bb→b'<w2.heap.size∧b'≠pb:=fun b' hb=>by rcases hb with h|h|h<;>omega
 have HBL:=zaa hbl;clear hbl;refine zad (S:=fun w'=> ∀b',b'=W.heap.size∨b'=W.heap.size+1∨b'=bb→w'.heap[b']? =w2.heap[b']?) 10 (by kernel_rfl) (by kernel_rfl) (fun _ _=>rfl) (fun hHeld=> ?_);have HKd:=zaa (HK2.out.drew);have HAd:=zaa (HA2.out.drew);have HBd:=zaa (HB2.out.bare (w':=w2.drew) rfl);have HCd:=zaa (H0.out.to HAd.out);have HEd:=zaa (HE2.out.below ((Below.refl w2.heap.size w2).drew));have hzd:w2.drew.heap.size=w2.heap.size:=rfl;clear HK2 HA2 HB2 HE2;generalize w2.drew=V2 at *;refine tk 0 76 rfl (by kernel_rfl) (fun _ _ _ h=>h) rfl (fun _ hS=>by have e1:=(World.cell?_of_block (a:=⟨W.heap.size+1,0,none⟩) (hS (W.heap.size+1) (.inr (.inl rfl)))).trans hp1;go_simp;with_reducible rfl) hHeld ?_
 (try simp only[pu])
 refine tk 1 77 rfl (by kernel_rfl) (fun _ _ _ h=>h) rfl (fun _ hS=>by have e1:=(World.cell?_of_block (a:=⟨W.heap.size+1,0,none⟩) (hS (W.heap.size+1) (.inr (.inl rfl)))).trans hp1;go_simp;with_reducible rfl) hHeld ?_
 (try simp only[pu])
 refine tk 2 78 rfl (by kernel_rfl) (fun _ _ _ h=>h) rfl (fun _ hS=>by skip;go_simp;with_reducible rfl) hHeld ?_
 (try simp only[pu])
 refine tk 3 79 rfl (by kernel_rfl) (fun _ _ _ h=>h) rfl (fun _ hS=>by skip;go_simp;with_reducible rfl) hHeld ?_
 (try simp only[pu])
 refine tk 4 80 rfl (by kernel_rfl) (fun _ _ _ h=>h) rfl (fun _ hS=>by skip;go_simp;with_reducible rfl) hHeld ?_
 (try simp only[pu])
 refine tk 5 81 rfl (by kernel_rfl) (fun _ _ _ h=>h) rfl (fun _ hS=>by have e1:=cell_of_row _ _ 9 _ _ _ ((hS bb (.inr (.inr rfl))).trans hrow);go_simp;with_reducible rfl) hHeld ?_
 (try simp only[pu])
 refine tk 6 82 rfl (by kernel_rfl) (fun _ _ _ h=>h) rfl (fun _ hS=>by have e1:=(World.cell?_of_block (a:=⟨W.heap.size,0,none⟩) (hS W.heap.size (.inl rfl))).trans hp0;go_simp;with_reducible rfl) hHeld ?_
 (try simp only[pu])
 have HRUN:Hid (za3 b (ts.drop j)=(zfh >>= fun x=>pure (zag.mk {b.p with procs:=b.p.procs++[x]} b.what)) (ts.drop j2)):=zaa (HTH.out.trans (zac (show zb2 (ts.drop j)= .ok () (ts.drop j2) from congrArg (Res.ok ()) HD2.out)));refine trZ [7] (zau.cons rfl (fun K hK=> ?_) zau.nil);go_simp;refine(zmw pb j2 ts V2 HCd hts hj2 hgd HEd hpE hsz).mono ?_;rintro e w3 hE3;rcases hE3.split with⟨x3,j3,us,hr3,hj3,hA3,hD3,rfl⟩|⟨n,jn,hr3,hjn,hA3,rfl⟩
 rotate_left
 ·have HX:=zaa (zbo.mk_bad (bb:=bb) (mb:=mb) (B:=B) (HRUN.out.trans (zab hr3)) hjn (HAd.out.trans hA3))
  have HKX:=zaa (HKW.out _ (HKd.out.trans (hA3.kept.mono (G:=fun k=>k=pb∨k=bb∨k=mb) (fun k hk=> .inl hk))));clear hE3 hr3 hA3;go_wp2_with fail;exact⟨rfl,HX.out,HKX.out⟩
 obtain⟨u3,rfl⟩: ∃u,us=[u]:=List.length_eq_one_iff.1 hD3.1;obtain⟨A3,c3,rfl, -⟩:=((hD3.2 0 u3 _ rfl rfl).mono (H:=fun _=>True) (fun _ _ _=>trivial)).slice;obtain⟨f1,f2,f3,f4,f5⟩:=x3;have HD3:=zaa hD3;clear hD3;dsimp only at HD3 ⊢;generalize hcl:(List.map zcQ.cells f5).length=c5 at *;have HCL:=zaa hcl;clear hcl;have hq:True:=trivial;have HR3:Hid (za3 b (ts.drop j)= .ok (zag.mk {b.p with procs:=b.p.procs++[⟨f1,f2,f3,f4,f5⟩]} b.what) (ts.drop j3)):=zaa (HRUN.out.trans ((zac hr3).trans rfl));have hd3: ∀b',b'=W.heap.size∨b'=W.heap.size+1∨b'=bb→w3.heap[b']? =w2.heap[b']? :=fun b' hb=>(hA3.kept.block b' (by rw[hzd];exact(HBL.out b' hb).1) (HBL.out b' hb).2).trans (hHeld b' hb)
 have HA3:=zaa (HAd.out.trans hA3);have HB3:=zaa (HBd.out.to hA3);have HK3:=zaa (HKW.out _ (HKd.out.trans (hA3.kept.mono (G:=fun k=>k=pb∨k=bb∨k=mb) (fun k hk=> .inl hk))));have hz3:w2.heap.size≤w3.heap.size:=by rw[←hzd];exact hA3.kept.size
 clear hE3 hr3 hA3 HAd HBd HKd HRUN hHeld HCd HEd;simp only[zch,zbj,List.getD_cons_zero];go_wp2_with fail;refine hK.out _ _ hd3 (fun hHeld=> ?_);clear hK K hd3
 (try simp only[pu])
 refine trZ [8] (zau.cons rfl (fun K hK=> ?_) zau.nil);go_simp;refine hK.out _ _ (fun b' hb=>(Below.heap_alloc w3 _ b' (Nat.lt_of_lt_of_le (HBL.out b' hb).1 hz3)).trans (hHeld b' hb)) (fun hHeld1=> ?_);clear hK K hHeld;have XN:=zaa (heap_alloc_new w3 (Obj.cells #[Value.string ⟨f1.toArray⟩,Value.int .i64 f2,Value.int .i64 f3,Value.int .i64 f4,Value.slice A3 c5 c3] 67));have HBn:=zaa ((Below.refl w3.heap.size w3).alloc (Nat.le_refl _) (Obj.cells #[Value.string ⟨f1.toArray⟩,Value.int .i64 f2,Value.int .i64 f3,Value.int .i64 f4,Value.slice A3 c5 c3] 67));have hz4:w3.heap.size<(w3.alloc (Obj.cells #[Value.string ⟨f1.toArray⟩,Value.int .i64 f2,Value.int .i64 f3,Value.int .i64 f4,Value.slice A3 c5 c3] 67)).heap.size:=by simp
 have hBV:B≤(w3.alloc (Obj.cells #[Value.string ⟨f1.toArray⟩,Value.int .i64 f2,Value.int .i64 f3,Value.int .i64 f4,Value.slice A3 c5 c3] 67)).heap.size:=by omega
 generalize hnb:w3.heap.size=nb at XN ⊢;have HNB:=zaa hnb;clear hnb;generalize w3.alloc (Obj.cells #[Value.string ⟨f1.toArray⟩,Value.int .i64 f2,Value.int .i64 f3,Value.int .i64 f4,Value.slice A3 c5 c3] 67)=V4 at *
 (try simp only[pu])
 refine trZ [9] (zau.cons rfl (fun K hK=> ?_) zau.nil);have hrows4:=HB3.out.rows.below HBn.out;obtain⟨cs,ho,hc⟩:=hrows4.own 3 _ _ rfl rfl;dsimp only at ho hc;rw[HNN.out] at ho;have hnc:=HNN.out;have HROWS:=zaa hrows4;have HC:=zaa hc;have HO:=zaa ho;clear hrows4 hc ho hnc;refine zaw _ rfl (.tmp 81) (.tmp 84) 49 rfl B 67 ii _ 5 64 underlying49 hi0 hz0 hz1 hz2 rfl (by decide) (.slice A m q) m cs rfl HO.out _ (some ⟨nb,0,none⟩) 1 1 [Value.string ⟨f1.toArray⟩,Value.int .i64 f2,Value.int .i64 f3,Value.int .i64 f4,Value.slice A3 c5 c3] rfl (zbk XN.out rfl) (by simp[Value.oneCell']) (by unfold maxLen;omega) (by omega) hBV ?_;intro v5 wz hown5 hg5 hat5;obtain⟨Az,qz,rfl⟩:=zah hown5;have hOB: ∀g,(Value.slice A m q).ownBlock=some g→B≤g∧g<w3.heap.size:=fun g hg=>HB3.out.rows.ownlt _ (by simp) g hg
 have hfar: ∀b',b'<B∨w3.heap.size≤b'→b'<V4.heap.size→wz.heap[b']? =V4.heap[b']? :=fun b' hb hl=>hg5.block b' hl (fun e=>by have:=hOB b' e.symm;omega)
 have hd5: ∀b',b'=W.heap.size∨b'=W.heap.size+1∨b'=bb→wz.heap[b']? =w2.heap[b']? :=fun b' hb=>by
  have h1:=HBL.out b' hb;refine(hg5.block b' (by omega) (fun e=> ?_)).trans (hHeld1 b' hb);have:=HB2o.out _ e.symm
  omega
 refine hK.out _ _ hd5 (fun hHeld=> ?_);clear hK K hHeld1;have hrz:=(hd5 bb (.inr (.inr rfl))).trans hrow;have q0:=cell_of_row _ _ 9 _ _ _ hrz;have q1:=frozen_of_row _ _ 9 _ _ hrz;have hlz:=(zal hrz);refine zae (by kernel_rfl) ?_;simp only[List.drop_succ_cons,List.drop_zero];have hnew:zaf V4 (zb5 B [v4,v7,v8,Value.slice A m q]) [Value.string ⟨f1.toArray⟩,Value.int .i64 f2,Value.int .i64 f3,Value.int .i64 f4,Value.slice A3 c5 c3] (zca.cells ⟨f1,f2,f3,f4,f5⟩):=zaf.cons (.leaf _) (zaf.cons (.leaf _) (zaf.cons (.leaf _) (zaf.cons (.leaf _) (zaf.cons (((HD3.out.2 0 _ _ rfl rfl).later HBn.out).mono (fun b' hb _=>⟨by omega,fun u hu e=>by have:=HB.out.rows.ownlt u hu b' e;omega⟩)) zaf.nil))));have hRW:=HROWS.out.push (k:=3) hBV rfl rfl rfl HC.out hnew (by rw[HNN.out];exact hown5) hg5 hat5;have hP:zbK {b.p with procs:=b.p.procs++[⟨f1,f2,f3,f4,f5⟩]}=(zbK b.p).set 3 ⟨67,5,(b.p.procs.map zca.cells)++[zca.cells ⟨f1,f2,f3,f4,f5⟩]⟩:=by simp[zbK]
 have hKg:zam (fun b'=>B≤b') V4 wz:=(zam.grown hg5).mono (fun b' hb=>(HB2o.out b' hb).1);have hK4:zam (fun b'=>B≤b') w3 wz:=(zam.of_below HBn.out).trans hKg;have HKX:=zaa ((HK3.out.trans (hK4.mono (G:=fun k=>k=pb∨k=bb∨k=mb∨B≤k) (fun k hk=> .inr (.inr (.inr hk))))).setCell (p:=⟨bb,9,none⟩) (.inl (.inr (.inl rfl))) (Value.slice Az (m+1) qz));have hAz:=(HA3.out.far hpW hK4 (fun k hk e=>by omega));have hSB:=HB3.out.seen.same (w':=wz) (hK4.block mb (by omega) (by omega));have hX:=zbo.mk_ok (bb:=bb) (mb:=mb) (B:=B) (b:=zag.mk {b.p with procs:=b.p.procs++[⟨f1,f2,f3,f4,f5⟩]} b.what) (v4:=v4) (v7:=v7) (v8:=v8) (v9:=Value.slice Az (m+1) qz) HR3.out hj3 (AtJ.fresh hAz hpW (p:=⟨bb,9,none⟩) (by show bb≠pb;omega) hW0 (Value.slice Az (m+1) qz))
  ⟨heap_setCell_same wz bb 9 _ _ _ hrz,by rw[hP];exact hRW.keep (by simp[World.setCell]) (fun b' hb _=>Below.heap_setCell _ _ _ _ (by show b'≠bb;omega)),hSB.same (Below.heap_setCell _ _ _ _ (by show mb≠bb;omega)),l1,l2,l3,l4,l5,by have:=hK4.size;simp[World.setCell];omega⟩
 have HX:=zaa hX;clear hX hSB hAz hK4 hKg hP hRW hnew hd5 hfar hOB hown5 hg5 hat5 XN HC HO HROWS hHeld;go_wp2_with fail
 go_end0
 exact⟨HX.out,HKX.out⟩
theorem zmL (pb i0 j bb mb B:Nat) (ts:List Tok) (b:zag) (v4 v7 v8 v9:Value) (W0 W:World) (H0:Hid (Cur pb ts i0 W0)) (hts:ts.length≤1000000) (hj:j≤ts.length) (hT:Hid (zbS ts)) (HA:Hid (AtJ pb j W0 W)) (HB:Hid (BSt pb bb mb B b v4 v7 v8 v9 W)) (hpW:pb<W0.heap.size) (hW0:W0.heap.size≤bb) (hW1:W0.heap.size≤mb) (hE:Hid (zci W)) (hpE:3≤pb)(hw:Hid ((hdT (ts.drop j)).text∉zdQ)) (hsees:zaA [112,114,111,99] (ts.drop j)=false) (hfew:b.p.ports.length≤ts.length) (hsz:Hid (∀t∈ts,t.text.length≤1000000)):
 Calls prog 137 #[.pointer (some ⟨pb,0,none⟩),.pointer (some ⟨bb,0,none⟩)] W fun e W'=>zbo pb ts W0 bb mb B (za3 b (ts.drop j)) e W'∧zam (fun k=>k=pb∨k=bb∨k=mb∨B≤k) W W':=by
 have hts':ts.length≤1099511627776:=by omega
 have H:=zaa (H0.out.to HA.out);obtain⟨l1,l2,l3,l4,l5,l6⟩:=HB.out.low;have hgd:=zaa hT.out.good;have hpW':pb<W.heap.size:=by omega
 have ft1:=zbF;have hmm:= @run_makeMap prog;have hmf: ∀(fn:Fn) (first cap:Array Value) (w:World),(Instr.makeFunc fn first cap).run prog w= .ok (.func fn first cap) w:=fun _ _ _ _=>rfl
 have hi1:=fun(v:Value)=>zaX ((W.alloc (Obj.cells #[Value.pointer (some ⟨pb,0,none⟩)] 85)).alloc (Obj.cells #[Value.pointer (some ⟨bb,0,none⟩)] 201)) (W.heap.size+1+1) (by simp) #[] 0 ⟨#[115,101,109,97,115]⟩ v rfl
 have hi2:=fun(v1 v:Value)=>zaX ((W.alloc (Obj.cells #[Value.pointer (some ⟨pb,0,none⟩)] 85)).alloc (Obj.cells #[Value.pointer (some ⟨bb,0,none⟩)] 201)) (W.heap.size+1+1) (by simp) #[⟨.string ⟨#[115,101,109,97,115]⟩,v1,0⟩] 1 ⟨#[98,117,102,115]⟩ v (by kernel_rfl)
 have hi3:=fun(v1 v2 v:Value)=>zaX ((W.alloc (Obj.cells #[Value.pointer (some ⟨pb,0,none⟩)] 85)).alloc (Obj.cells #[Value.pointer (some ⟨bb,0,none⟩)] 201)) (W.heap.size+1+1) (by simp) #[⟨.string ⟨#[115,101,109,97,115]⟩,v1,0⟩,⟨.string ⟨#[98,117,102,115]⟩,v2,1⟩] 2 ⟨#[101,118,101,110,116,115]⟩ v (by kernel_rfl)
 have hi4:=fun(v1 v2 v3 v:Value)=>zaX ((W.alloc (Obj.cells #[Value.pointer (some ⟨pb,0,none⟩)] 85)).alloc (Obj.cells #[Value.pointer (some ⟨bb,0,none⟩)] 201)) (W.heap.size+1+1) (by simp) #[⟨.string ⟨#[115,101,109,97,115]⟩,v1,0⟩,⟨.string ⟨#[98,117,102,115]⟩,v2,1⟩,⟨.string ⟨#[101,118,101,110,116,115]⟩,v3,2⟩] 3 ⟨#[98,111,97,114,100,115]⟩ v (by kernel_rfl)
 go_enter func137,ntmps137
 go_wp2_with fail
 change Calls _ _ _ (ziG W pb bb) _
 have HF:=zaa (zcN W pb bb);generalize ziG W pb bb=V at *;clear hi1 hi2 hi3 hi4 hmm hmf;have HAV:=zaa (HA.out.below hpW HF.out.below);have HBV:=zaa (HB.out.below HF.out.below);have HCV:=zaa (H.out.below HF.out.below);have HEV:=zaa (hE.out.below HF.out.below);have HC:=zaa (zcf pb j ts V HCV hts' hj);generalize ht:hdT (ts.drop j)=t at HC hw;have HT0:=zaa ht;clear ht;obtain⟨κ,tx,ta⟩:=t;unfold zcC at HC;dsimp only at HC hw;generalize(κ:Int)=κz at HC;generalize(ta:Int)=taz at HC;refine(HC.out).mono ?_;rintro e w1 ⟨rfl,hb⟩;have HK1:=zaa ((zam.of_below hb:zam (fun k=>k=pb∨k=bb∨k=mb) V w1));have HA1:=zaa (HAV.out.below hpW hb);have HB1:=zaa (HBV.out.below hb);have HC1:=zaa (HCV.out.below hb);have HE1:=zaa (HEV.out.below hb);have HM1:=zaa ((hb.block _ (by have:=HF.out.size;omega)).trans HF.out.map);clear hb HC HAV HBV HCV HEV;have _:=hW1;have _:=hsz;obtain⟨ii,hi0,hz0,hz1,hz2⟩:=info_parts zjn;obtain⟨A,q,hvk⟩:=zah (HB.out.rows.own 2 v8 _ rfl rfl).choose_spec.1;dsimp only at hvk;subst hvk;have HB2o:Hid (∀g,(Value.slice A (b.p.ports.map zcp.cells).length q).ownBlock=some g→B≤g∧g<W.heap.size):=zaa (fun g hg=>zaj (HB.out.rows.own 2 _ _ rfl rfl).choose_spec.1 hg);have hnl:(b.p.ports.map zcp.cells).length≤1000000:=by rw[List.length_map];omega
 generalize hnn:(b.p.ports.map zcp.cells).length=m at *;have HNN:=zaa hnn;clear hnn;have HTH:=zaa (zgc hT.out j b (by rw[HT0.out];exact hw.out));have HTK:=zaa (zbX false hsees);rw[hsees] at HTH;rw[zk9] at HTH HTK;clear hsees;have hFF: ∀k,W.heap.size≤k→ ¬(k=pb∨k=bb∨k=mb):=fun k hk=>by omega
 have HFF:=zaa hFF;clear hFF;generalize hKK:(⟨tx.toArray⟩:ByteArray)=K at *;have hl:=zhv HM1.out K (by rw[←hKK];exact hw.out);clear hKK hw HT0;have hne:=zkU;obtain⟨hp0,hp1,hz1'⟩:=HF.out.keep HK1.out HFF.out;go_wp2_with fail;clear hne hl hp0 hp1 hz1';refine(za6 pb j ts ⟨#[112,114,111,99]⟩ w1 HC1 hts' hj (by decide)).mono ?_;rintro e w2 hE2;rcases hE2.split with⟨a2,j2,hr,hj2,hA,rfl⟩|⟨n,jn,hr,hjn,hA,rfl⟩
 rotate_left
 ·exact absurd hr (zbh _ _)
 have hr2:=HTK.out.symm.trans hr;injection hr2 with hr2 hd2
 subst hr2;have HK2:=zaa (HK1.out.trans (hA.kept.mono (G:=fun k=>k=pb∨k=bb∨k=mb) (fun k hk=> .inl hk)));have HA2:=zaa (HA1.out.trans hA);have HB2:=zaa (HB1.out.to hA);have HE2:=zaa (HE1.out.to hpE hA);have HD2:=zaa hd2;obtain⟨hp0,hp1,hz2'⟩:=HF.out.keep HK2.out HFF.out;have hrow:=HB2.out.row;have hKW: ∀V',zam (fun k=>k=pb∨k=bb∨k=mb) V V'→zam (fun k=>k=pb∨k=bb∨k=mb∨B≤k) W V':=fun V' hk=>((zam.of_below HF.out.below:zam (fun k=>k=pb∨k=bb∨k=mb) W V).trans hk).mono (G:=fun k=>k=pb∨k=bb∨k=mb∨B≤k) (fun k hk=>by rcases hk with h|h|h<;>simp[h])
 have HKW:=zaa hKW;clear hKW hE2 hr hA hd2 HK1 HA1 HB1 HE1 HC1 HM1 HTK;go_wp2_with fail;have hbl: ∀b',b'=W.heap.size∨b'=W.heap.size+1∨b'=bb→b'<w2.heap.size∧b'≠pb:=fun b' hb=>by rcases hb with h|h|h<;>omega
 have HBL:=zaa hbl;clear hbl;refine zad (S:=fun w'=> ∀b',b'=W.heap.size∨b'=W.heap.size+1∨b'=bb→w'.heap[b']? =w2.heap[b']?) 10 (by kernel_rfl) (by kernel_rfl) (fun _ _=>rfl) (fun hHeld=> ?_);have HKd:=zaa (HK2.out.drew);have HAd:=zaa (HA2.out.drew);have HBd:=zaa (HB2.out.bare (w':=w2.drew) rfl);have HCd:=zaa (H0.out.to HAd.out);have HEd:=zaa (HE2.out.below ((Below.refl w2.heap.size w2).drew));have hzd:w2.drew.heap.size=w2.heap.size:=rfl;clear HK2 HA2 HB2 HE2;generalize w2.drew=V2 at *;refine tk 0 21 rfl (by kernel_rfl) (fun _ _ _ h=>h) rfl (fun _ hS=>by have e1:=(World.cell?_of_block (a:=⟨W.heap.size+1,0,none⟩) (hS (W.heap.size+1) (.inr (.inl rfl)))).trans hp1;go_simp;with_reducible rfl) hHeld ?_
 (try simp only[pu])
 refine tk 1 22 rfl (by kernel_rfl) (fun _ _ _ h=>h) rfl (fun _ hS=>by have e1:=(World.cell?_of_block (a:=⟨W.heap.size+1,0,none⟩) (hS (W.heap.size+1) (.inr (.inl rfl)))).trans hp1;go_simp;with_reducible rfl) hHeld ?_
 (try simp only[pu])
 refine tk 2 23 rfl (by kernel_rfl) (fun _ _ _ h=>h) rfl (fun _ hS=>by skip;go_simp;with_reducible rfl) hHeld ?_
 (try simp only[pu])
 refine tk 3 24 rfl (by kernel_rfl) (fun _ _ _ h=>h) rfl (fun _ hS=>by skip;go_simp;with_reducible rfl) hHeld ?_
 (try simp only[pu])
 refine tk 4 25 rfl (by kernel_rfl) (fun _ _ _ h=>h) rfl (fun _ hS=>by skip;go_simp;with_reducible rfl) hHeld ?_
 (try simp only[pu])
 refine tk 5 26 rfl (by kernel_rfl) (fun _ _ _ h=>h) rfl (fun _ hS=>by have e1:=cell_of_row _ _ 8 _ _ _ ((hS bb (.inr (.inr rfl))).trans hrow);go_simp;with_reducible rfl) hHeld ?_
 (try simp only[pu])
 refine tk 6 27 rfl (by kernel_rfl) (fun _ _ _ h=>h) rfl (fun _ hS=>by have e1:=(World.cell?_of_block (a:=⟨W.heap.size,0,none⟩) (hS W.heap.size (.inl rfl))).trans hp0;go_simp;with_reducible rfl) hHeld ?_
 (try simp only[pu])
 have HRUN:Hid (za3 b (ts.drop j)=(zei >>= fun x=>pure (zag.mk {b.p with ports:=b.p.ports++[x]} b.what)) (ts.drop j2)):=zaa (HTH.out.trans (by rw[HD2.out]));refine trZ [7] (zau.cons rfl (fun K hK=> ?_) zau.nil);go_simp;refine(zmE pb j2 ts V2 HCd hts hj2 hgd HEd hpE).mono ?_;rintro e w3 hE3;rcases hE3.split with⟨x3,j3,hr3,hj3,hA3,rfl⟩|⟨n,jn,hr3,hjn,hA3,rfl⟩
 rotate_left
 ·have HX:=zaa (zbo.mk_bad (bb:=bb) (mb:=mb) (B:=B) (HRUN.out.trans (zab hr3)) hjn (HAd.out.trans hA3))
  have HKX:=zaa (HKW.out _ (HKd.out.trans (hA3.kept.mono (G:=fun k=>k=pb∨k=bb∨k=mb) (fun k hk=> .inl hk))));clear hE3 hr3 hA3;go_wp2_with fail;exact⟨rfl,HX.out,HKX.out⟩
 obtain⟨f1,f2,f3,f4,f5,f6⟩:=x3;have HR3:Hid (za3 b (ts.drop j)= .ok (zag.mk {b.p with ports:=b.p.ports++[⟨f1,f2,f3,f4,f5,f6⟩]} b.what) (ts.drop j3)):=zaa (HRUN.out.trans ((zac hr3).trans rfl));have hd3: ∀b',b'=W.heap.size∨b'=W.heap.size+1∨b'=bb→w3.heap[b']? =w2.heap[b']? :=fun b' hb=>(hA3.kept.block b' (by rw[hzd];exact(HBL.out b' hb).1) (HBL.out b' hb).2).trans (hHeld b' hb)
 have HA3:=zaa (HAd.out.trans hA3);have HB3:=zaa (HBd.out.to hA3);have HK3:=zaa (HKW.out _ (HKd.out.trans (hA3.kept.mono (G:=fun k=>k=pb∨k=bb∨k=mb) (fun k hk=> .inl hk))));have hz3:w2.heap.size≤w3.heap.size:=by rw[←hzd];exact hA3.kept.size
 clear hE3 hr3 hA3 HAd HBd HKd HRUN hHeld HCd HEd;simp only[zaL,zbj];go_wp2_with fail;refine hK.out _ _ hd3 (fun hHeld=> ?_);clear hK K hd3
 (try simp only[pu])
 refine trZ [8] (zau.cons rfl (fun K hK=> ?_) zau.nil);go_simp;refine hK.out _ _ (fun b' hb=>(Below.heap_alloc w3 _ b' (Nat.lt_of_lt_of_le (HBL.out b' hb).1 hz3)).trans (hHeld b' hb)) (fun hHeld1=> ?_);clear hK K hHeld;have XN:=zaa (heap_alloc_new w3 (Obj.cells #[Value.string ⟨f1.toArray⟩,Value.int .u8 ((f2:Nat):Int),Value.bool f3,Value.int .i64 f4,Value.int .i64 f5,Value.int .i64 f6] 53));have HBn:=zaa ((Below.refl w3.heap.size w3).alloc (Nat.le_refl _) (Obj.cells #[Value.string ⟨f1.toArray⟩,Value.int .u8 ((f2:Nat):Int),Value.bool f3,Value.int .i64 f4,Value.int .i64 f5,Value.int .i64 f6] 53));have hz4:w3.heap.size<(w3.alloc (Obj.cells #[Value.string ⟨f1.toArray⟩,Value.int .u8 ((f2:Nat):Int),Value.bool f3,Value.int .i64 f4,Value.int .i64 f5,Value.int .i64 f6] 53)).heap.size:=by simp
 have hBV:B≤(w3.alloc (Obj.cells #[Value.string ⟨f1.toArray⟩,Value.int .u8 ((f2:Nat):Int),Value.bool f3,Value.int .i64 f4,Value.int .i64 f5,Value.int .i64 f6] 53)).heap.size:=by omega
 generalize hnb:w3.heap.size=nb at XN ⊢;have HNB:=zaa hnb;clear hnb;generalize w3.alloc (Obj.cells #[Value.string ⟨f1.toArray⟩,Value.int .u8 ((f2:Nat):Int),Value.bool f3,Value.int .i64 f4,Value.int .i64 f5,Value.int .i64 f6] 53)=V4 at *
 (try simp only[pu])
 refine trZ [9] (zau.cons rfl (fun K hK=> ?_) zau.nil);have hrows4:=HB3.out.rows.below HBn.out;obtain⟨cs,ho,hc⟩:=hrows4.own 2 _ _ rfl rfl;dsimp only at ho hc;rw[HNN.out] at ho;have hnc:=HNN.out;have HROWS:=zaa hrows4;have HC:=zaa hc;have HO:=zaa ho;clear hrows4 hc ho hnc;refine zaw _ rfl (.tmp 26) (.tmp 29) 48 rfl B 53 ii _ 6 48 underlying48 hi0 hz0 hz1 hz2 rfl (by decide) (.slice A m q) m cs rfl HO.out _ (some ⟨nb,0,none⟩) 1 1 [Value.string ⟨f1.toArray⟩,Value.int .u8 ((f2:Nat):Int),Value.bool f3,Value.int .i64 f4,Value.int .i64 f5,Value.int .i64 f6] rfl (zbk XN.out rfl) (by simp[Value.oneCell']) (by unfold maxLen;omega) (by omega) hBV ?_;intro v5 wz hown5 hg5 hat5;obtain⟨Az,qz,rfl⟩:=zah hown5;have hOB: ∀g,(Value.slice A m q).ownBlock=some g→B≤g∧g<w3.heap.size:=fun g hg=>HB3.out.rows.ownlt _ (by simp) g hg
 have hfar: ∀b',b'<B∨w3.heap.size≤b'→b'<V4.heap.size→wz.heap[b']? =V4.heap[b']? :=fun b' hb hl=>hg5.block b' hl (fun e=>by have:=hOB b' e.symm;omega)
 have hd5: ∀b',b'=W.heap.size∨b'=W.heap.size+1∨b'=bb→wz.heap[b']? =w2.heap[b']? :=fun b' hb=>by
  have h1:=HBL.out b' hb;refine(hg5.block b' (by omega) (fun e=> ?_)).trans (hHeld1 b' hb);have:=HB2o.out _ e.symm
  omega
 refine hK.out _ _ hd5 (fun hHeld=> ?_);clear hK K hHeld1;have hrz:=(hd5 bb (.inr (.inr rfl))).trans hrow;have q0:=cell_of_row _ _ 8 _ _ _ hrz;have q1:=frozen_of_row _ _ 8 _ _ hrz;have hlz:=(zal hrz);refine zae (by kernel_rfl) ?_;simp only[List.drop_succ_cons,List.drop_zero];have hnew:zaf V4 (zb5 B [v4,v7,Value.slice A m q,v9]) [Value.string ⟨f1.toArray⟩,Value.int .u8 ((f2:Nat):Int),Value.bool f3,Value.int .i64 f4,Value.int .i64 f5,Value.int .i64 f6] (zcp.cells ⟨f1,f2,f3,f4,f5,f6⟩):=zbt _;have hRW:=HROWS.out.push (k:=2) hBV rfl rfl rfl HC.out hnew (by rw[HNN.out];exact hown5) hg5 hat5;have hP:zbK {b.p with ports:=b.p.ports++[⟨f1,f2,f3,f4,f5,f6⟩]}=(zbK b.p).set 2 ⟨53,6,(b.p.ports.map zcp.cells)++[zcp.cells ⟨f1,f2,f3,f4,f5,f6⟩]⟩:=by simp[zbK]
 have hKg:zam (fun b'=>B≤b') V4 wz:=(zam.grown hg5).mono (fun b' hb=>(HB2o.out b' hb).1);have hK4:zam (fun b'=>B≤b') w3 wz:=(zam.of_below HBn.out).trans hKg;have HKX:=zaa ((HK3.out.trans (hK4.mono (G:=fun k=>k=pb∨k=bb∨k=mb∨B≤k) (fun k hk=> .inr (.inr (.inr hk))))).setCell (p:=⟨bb,8,none⟩) (.inl (.inr (.inl rfl))) (Value.slice Az (m+1) qz));have hAz:=(HA3.out.far hpW hK4 (fun k hk e=>by omega));have hSB:=HB3.out.seen.same (w':=wz) (hK4.block mb (by omega) (by omega));have hX:=zbo.mk_ok (bb:=bb) (mb:=mb) (B:=B) (b:=zag.mk {b.p with ports:=b.p.ports++[⟨f1,f2,f3,f4,f5,f6⟩]} b.what) (v4:=v4) (v7:=v7) (v8:=Value.slice Az (m+1) qz) (v9:=v9) HR3.out hj3 (AtJ.fresh hAz hpW (p:=⟨bb,8,none⟩) (by show bb≠pb;omega) hW0 (Value.slice Az (m+1) qz))
  ⟨heap_setCell_same wz bb 8 _ _ _ hrz,by rw[hP];exact hRW.keep (by simp[World.setCell]) (fun b' hb _=>Below.heap_setCell _ _ _ _ (by show b'≠bb;omega)),hSB.same (Below.heap_setCell _ _ _ _ (by show mb≠bb;omega)),l1,l2,l3,l4,l5,by have:=hK4.size;simp[World.setCell];omega⟩
 have HX:=zaa hX;clear hX hSB hAz hK4 hKg hP hRW hnew hd5 hfar hOB hown5 hg5 hat5 XN HC HO HROWS hHeld;go_wp2_with fail
 go_end0
 exact⟨HX.out,HKX.out⟩
theorem zld (pb i0 j bb mb B:Nat) (ts:List Tok) (b:zag) (v4 v7 v8 v9:Value) (W0 W:World) (H0:Hid (Cur pb ts i0 W0)) (hts:ts.length≤1000000) (hj:j≤ts.length) (hT:Hid (zbS ts)) (HA:Hid (AtJ pb j W0 W)) (HB:Hid (BSt pb bb mb B b v4 v7 v8 v9 W)) (hpW:pb<W0.heap.size) (hW0:W0.heap.size≤bb) (hW1:W0.heap.size≤mb) (hE:Hid (zci W)) (hpE:3≤pb) (hf1:b.p.procs.length≤ts.length) (hf2:b.p.ports.length≤ts.length):
 Calls prog 137 #[.pointer (some ⟨pb,0,none⟩),.pointer (some ⟨bb,0,none⟩)] W fun e W'=>zbo pb ts W0 bb mb B (za3 b (ts.drop j)) e W'∧zam (fun k=>k=pb∨k=bb∨k=mb∨B≤k) W W':=by
 by_cases h1:(hdT (ts.drop j)).text=[115,101,109,97,115]
 ·exact zkR pb i0 j bb mb B ts b v4 v7 v8 v9 W0 W H0 hts hj hT HA HB hpW hW0 hW1 hE hpE h1
 by_cases h2:(hdT (ts.drop j)).text=[98,117,102,115]
 ·exact zl4 pb i0 j bb mb B ts b v4 v7 v8 v9 W0 W H0 hts hj hT HA HB hpW hW0 hW1 hE hpE h2
 by_cases h3:(hdT (ts.drop j)).text=[101,118,101,110,116,115]
 ·exact zkc pb i0 j bb mb B ts b v4 v7 v8 v9 W0 W H0 hts hj hT HA HB hpW hW0 hW1 hE hpE h3
 by_cases h4:(hdT (ts.drop j)).text=[98,111,97,114,100,115]
 ·exact zjW pb i0 j bb mb B ts b v4 v7 v8 v9 W0 W H0 hts hj hT HA HB hpW hW0 hW1 hE hpE h4
 have hn:(hdT (ts.drop j)).text∉zdQ:=by simp[zdQ,h1,h2,h3,h4]
 cases h5:zaA [112,114,111,99] (ts.drop j) with
 |true=>exact zmd pb i0 j bb mb B ts b v4 v7 v8 v9 W0 W H0 hts hj hT HA HB hpW hW0 hW1 hE hpE hn h5 hf1 hT.out.size
 |false=>exact zmL pb i0 j bb mb B ts b v4 v7 v8 v9 W0 W H0 hts hj hT HA HB hpW hW0 hW1 hE hpE hn h5 hf2 hT.out.size
end Go.Proofs.YtlngbjphagnloaaGreatDoor
