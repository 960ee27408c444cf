/-
  parse: the reference's Parse.-/
import Derived.Test.YtlngbjphagnloaaGreatDoorRIt
import Derived.Test.YtlngbjphagnloaaGreatDoorPk31
import Derived.Test.YtlngbjphagnloaaGreatDoorPk11
set_option maxHeartbeats 4000000
set_option maxRecDepth 100000
namespace Go.Proofs.YtlngbjphagnloaaGreatDoor
open Go.RowKit
attribute [local go_sem] zax.cell
theorem range_block {w w':World} {b o:Nat} {cs:List Value} (h:w.rangeAt b o cs) (e:w'.heap[b]? =w.heap[b]?):w'.rangeAt b o cs:=fun j v hv=>(World.cell?_of_block (w:=w) e).trans (h j v hv)
theorem there_block {w w':World} {b o n:Nat} (h:w.there b o n) (e:w'.heap[b]? =w.heap[b]?):w'.there b o n:=fun j hj=>by
 obtain⟨h1,h2⟩:=h j hj;exact⟨by rw[World.cell?_of_block (w:=w) e];exact h1,(World.frozen?_of_block (a:=⟨b,o+j,none⟩) e).trans h2⟩
theorem at_there {w:World} {b:Nat} {T:TypeId} {row:List Value} (h:w.heap[b]? =some (.cells row.toArray T (0,0))):w.there b 0 row.length:=fun j hj=>by
 rw[Nat.zero_add];exact⟨by rw[cell_of_row _ _ j _ _ _ h];simp[hj],frozen_of_row _ _ j _ _ h⟩
theorem results_cell_mid3 {fn:Func} {p u v:Tmp} {ty:TypeId} (h:fn.results= #[.cell p ty,.tmp u,.tmp v]) (tmps:Array Value) (w:World) (g:Nat) (cs:List Value) (d:TypeDesc) (hp:tmps.getD p undef= .pointer (some ⟨g,0,none⟩)) (hc:w.rangeAt g 0 cs)
 (hu:Tryz.prog.underlying ty=some d) (hd:d.isRow=true) (hi:(Tryz.prog.info? ty).map (·.size)=some cs.length):(results fn tmps).run Tryz.prog w= .ok (.tuple #[.agg cs.toArray,tmps.getD u undef,tmps.getD v undef]) w:=by
 have hp':tmps[p]?.getD undef= .pointer (some ⟨g,0,none⟩):=by simpa using hp
 simp[results,h,hp',asAddr,run_loadVar_mid w g 0 ty cs d hc hu hd hi]
theorem range_drew {w:World} {b o:Nat} {cs:List Value} (h:w.rangeAt b o cs):w.drew.rangeAt b o cs:=h
theorem item_few (c:zaK) (s:InS):cfgN (zme c s).1≤cfgN c+1:=by
 have h: ∀{α:Type} (m:Rf α) (f:α→zaK) (t:InS),(∀x,cfgN (f x)≤cfgN c+1)→cfgN ((m >>= fun x=>pure (f x):Rf zaK) t).1≤cfgN c+1:=fun m f t hf=>hf _
 unfold zme
 split
 ·exact h _ _ _ (fun x=>by simp[cfgN];omega)
 split
 ·exact h _ _ _ (fun x=>by simp[cfgN];omega)
 split
 ·exact h _ _ _ (fun x=>by simp[cfgN];omega)
 split
 ·exact h _ _ _ (fun x=>by simp[cfgN];omega)
 split
 ·exact h _ _ _ (fun x=>by simp[cfgN];omega)
 split
 ·exact h _ _ _ (fun x=>by simp[cfgN];omega)
 split
 ·exact h _ _ _ (fun x=>by simp[cfgN];omega)
 split
 ·exact h _ _ _ (fun x=>by simp[cfgN];omega)
 ·exact Nat.le_succ _
structure PLp (rb xb yb:Nat) (ts:List Tok) (W:World) (s:InS) (A:Nat→Option Addr) (q:Nat→Nat) (c:zaK) (w:World):Prop where
 rin:RIn rb ts s w
 below:Below W.heap.size W w
 x:w.rangeAt xb 0 (zeV A q c)
 xt:w.there xb 0 8
 y:w.there yb 0 8
 rows:zdp w (fun b=>xb<b) (zeV A q c) (zaM c)
 xl:xb<w.heap.size
 ord:W.heap.size≤yb∧yb<rb∧rb<xb
theorem PLp.call {rb xb yb:Nat} {ts:List Tok} {W w w':World} {s s':InS} {A A':Nat→Option Addr} {q q':Nat→Nat} {c c':zaK} (h:PLp rb xb yb ts W s A q c w) (hr:RIn rb ts s' w') (hk:zam (fun k=>k=rb∨xb<k) w w') (hR:zdp w' (fun b=>xb<b) (zeV A' q' c') (zaM c')):
 PLp rb xb yb ts W s' A' q' c' (w'.setCells xb 0 (zeV A' q' c')):=by
 obtain⟨o1,o2,o3⟩:=h.ord;have hx:=h.xl;have ex:=hk.block xb hx (by omega);have ey:=hk.block yb (by omega) (by omega);have hK:zam (fun b=>b=xb) w' (w'.setCells xb 0 (zeV A' q' c')):=zam.setCells (F:=fun b=>b=xb) xb (.inl rfl) _ 0 w' (zam.refl _ w');have hxt:=there_block h.xt ex;have hz:=hk.size;exact⟨hr.kept hK (fun b hb e=>by omega),(hk.below h.below.size (fun i hi e=>by omega) |> h.below.trans).trans (hK.below (Nat.le_trans h.below.size hz) (fun i hi e=>by omega)),World.rangeAt_setCells_same w' xb 0 _ hxt,World.there_setCells hxt _ _ _,there_block (there_block h.y ey) (hK.block yb (by omega) (by omega)),hR.keep hK.size (fun b hb hl=>hK.block b hl (by omega)),Nat.lt_of_lt_of_le hx (Nat.le_trans hz hK.size),h.ord⟩
theorem PLp.drewN {rb xb yb:Nat} {ts:List Tok} {W w:World} {s:InS} {A:Nat→Option Addr} {q:Nat→Nat} {c:zaK} (h:PLp rb xb yb ts W s A q c w) (n:Nat):PLp rb xb yb ts W s A q c (w.drewN n):=
 ⟨h.rin.kept ((zam.refl (fun _=>False) w).drewN n) (fun _ _=>not_false),h.below.trans (((zam.refl (fun _=>False) w).drewN n).below h.below.size (fun _ _=>not_false)),h.x,h.xt,h.y,h.rows.keep (Nat.le_refl _) (fun _ _ _=>rfl),h.xl,h.ord⟩
theorem items_stop {f:Nat} {c:zaK} {s:InS} (h:s.err≠0∨s.r=[]):zcO f c s=(c,s):=by
 cases f with
 |zero=>rfl
 |succ f=>
  show(if s.err==0&& !s.r.isEmpty then _ else(c,s))=_
  rw[if_neg];rcases h with h|h
  ·simp[h]
  ·simp[h]
theorem items_go {f:Nat} {c c':zaK} {s s':InS} (he:s.err=0) (hr:s.r≠[]) (h:zme c s=(c',s')):zcO (f+1) c s=zcO f c' s':=by
 show(if s.err==0&& !s.r.isEmpty then(zme c >>= fun c'=>zcO f c') s else(c,s))=_
 rw[if_pos (by simp[he,hr])];exact zcv h
theorem zdp.cells {w:World} {G:Nat→Prop} {vs:List Value} {c:zaK} (h:zdp w G vs (zaM c)):zaf w G vs c.cells:=by
 refine⟨h.len,fun j v d hv hd=> ?_⟩;have hj:=(List.getElem?_eq_some_iff.1 hd).1;simp[zaK.cells] at hj;rcases(by omega:j=0∨j=1∨j=2∨j=3∨j=4∨j=5∨j=6∨j=7) with rfl|rfl|rfl|rfl|rfl|rfl|rfl|rfl
 all_goals
  simp[zaK.cells] at hd;subst hd;exact h.dat hv rfl
theorem rparse_any (src:ByteArray) (W:World):Calls Tryz.prog 53 #[.string src] W (zoJ W (zdb (zbr src.data.toList) src.size).1 (zdb (zbr src.data.toList) src.size).2.1 (zdb (zbr src.data.toList) src.size).2.2):=by
 obtain⟨hok,hfew⟩:=zfC src.data.toList;have HT:=zaa (zmA hok);have hts:(zbr src.data.toList).1.length≤1000000:=by omega
 have hrp:=zoF (zbr src.data.toList) src.size;have HOF:=zaa (fun V=>znu src V);unfold zgi at hrp;obtain⟨⟨cz,sz⟩,h1⟩: ∃p,zcO ((zbr src.data.toList).1.length+1) zaK.none (zaW (zbr src.data.toList) src.size)=p:=⟨_,rfl⟩;rw[h1] at hrp;dsimp only at hrp;have hr0:(zaW (zbr src.data.toList) src.size).r=(zbr src.data.toList).1:=rfl;generalize zdb (zbr src.data.toList) src.size=R at *;generalize zaW (zbr src.data.toList) src.size=s0 at *;generalize(zbr src.data.toList).1=ts at *;have H1:=zaa h1;replace hrp:=zaa hrp;have hr0:=zaa hr0;clear hok hfew h1;have HY:=zaa (heap_alloc_new W (.cells #[.slice none 0 0,.slice none 0 0,.slice none 0 0,.slice none 0 0,.slice none 0 0,.slice none 0 0,.slice none 0 0,.slice none 0 0] 32));have HB:=zaa ((Below.refl W.heap.size W).alloc (Nat.le_refl _) (.cells #[.slice none 0 0,.slice none 0 0,.slice none 0 0,.slice none 0 0,.slice none 0 0,.slice none 0 0,.slice none 0 0,.slice none 0 0] 32));have hVz:W.heap.size<(W.alloc (.cells #[.slice none 0 0,.slice none 0 0,.slice none 0 0,.slice none 0 0,.slice none 0 0,.slice none 0 0,.slice none 0 0,.slice none 0 0] 32)).heap.size:=by simp
 go_enter Tryz.func53,Tryz.ntmps53
 go_wp2_with fail;generalize W.alloc _=V at *;refine(HOF.out V).mono ?_;clear HOF;rintro e w1 ⟨rb,rfl,hrb,hb,hr⟩;have hY1:=(hb.block W.heap.size hVz).trans HY.out;have HB1:=zaa (HB.out.trans (hb.mono (Nat.le_of_lt hVz)));have hba:=(Below.refl w1.heap.size w1).alloc (Nat.le_refl _) (.cells #[.slice none 0 0,.slice none 0 0,.slice none 0 0,.slice none 0 0,.slice none 0 0,.slice none 0 0,.slice none 0 0,.slice none 0 0] 32);have hlt:=hr.lt;have hX:=heap_alloc_new w1 (.cells #[.slice none 0 0,.slice none 0 0,.slice none 0 0,.slice none 0 0,.slice none 0 0,.slice none 0 0,.slice none 0 0,.slice none 0 0] 32);have HP:Hid (PLp rb w1.heap.size W.heap.size ts W s0 (fun _=>none) (fun _=>0) zaK.none (w1.alloc (.cells #[.slice none 0 0,.slice none 0 0,.slice none 0 0,.slice none 0 0,.slice none 0 0,.slice none 0 0,.slice none 0 0,.slice none 0 0] 32))):=zaa
  ⟨hr.below hba,HB1.out.trans (hba.mono HB1.out.size),zdA.range (rb:=rb) (W:=w1) ⟨hX,Nat.le_refl _,hlt⟩,zdA.there (rb:=rb) (W:=w1) ⟨hX,Nat.le_refl _,hlt⟩,there_block (at_there (row:=[.slice none 0 0,.slice none 0 0,.slice none 0 0,.slice none 0 0,.slice none 0 0,.slice none 0 0,.slice none 0 0,.slice none 0 0]) hY1) (hba.block _ (by omega)),zdp.none _ _ [(46,4),(133,4),(75,4),(77,4),(136,7),(57,5),(82,3),(139,4)],by simp,Nat.le_refl _,by omega,hlt⟩
 clear hY1 HB1 hba hX hb hr HY HB;go_wp2_with fail;generalize w1.alloc _=w2 at *;generalize w1.heap.size=xb at *
 go_loopw [] (fun wr=> ∃(c:zaK) (A:Nat→Option Addr) (q:Nat→Nat) (s:InS) (f:Nat),(s.err=0→s.r.length<f∧cfgN c+s.r.length≤ts.length)∧cfgN c≤ts.length+1∧zcO f c s=(cz,sz)∧PLp rb xb W.heap.size ts W s A q c wr) (fun wr=>znl rb ts.length wr)
 case atStart=>exact⟨zaK.none,fun _=>none,fun _=>0,s0,ts.length+1,fun _=>by rw[hr0.out];exact⟨Nat.lt_succ_self _,by simp[cfgN,zaK.none]⟩,by simp[cfgN,zaK.none],H1.out,HP.out⟩
 case round=>
  clear HP H1 hr0;obtain⟨c,A,q,s,f,hf,hal,hC,hP⟩:=hrel;have HP:=zaa hP;have HM:=zaa (zog hP.rin);have HC:=zaa hC;clear hP hC;have c3:=HP.out.rin.at_;have c4:=HP.out.rin.err;obtain⟨B,cc,c0, -, -⟩:=HP.out.rin.toks;obtain⟨j,hj,hd,c1⟩:=HP.out.rin.now;have l1:=HP.out.rin.lt;by_cases he:s.err=0
  ·rw[he] at c4
   by_cases hjs:j<ts.length
   ·have k1:decide (j<ts.length)=true:=by simp;exact hjs
    obtain⟨hf1,hf2⟩:=hf he;obtain⟨f,rfl⟩: ∃f',f=f'+1:=⟨f-1,by omega⟩;have hne:s.r≠[]:=by
     rw[hd];intro e;have:=congrArg List.length e;simp at this
     omega
    have hrl:0<s.r.length:=List.length_pos_iff.2 hne;obtain⟨⟨c',s'⟩,h2⟩: ∃p,zme c s=p:=⟨_,rfl⟩;have HG:=zaa ((items_go he hne h2).symm.trans HC.out);have hl:=zdM (zjE c) (zkw c) h2 he;have hcn:=item_few c s;rw[h2] at hcn;rw[if_pos he] at HM;have H2:=zaa h2;clear hf hd hne HC h2;go_wp2_with fail;go_quiet (fail)
    rename_i nq
    replace HP:=zaa (HP.out.drewN nq);clear c0 c1 c3 c4 l1 k1;generalize wr.drewN nq=wq at *;have hx:=HP.out.x;have hxt:=HP.out.xt;obtain⟨o1,o2,o3⟩:=HP.out.ord;go_upto_region 4 with fail
    refine wp_region_lit ?_;refine wpList_step (fun K hK=> ?_);go_simp;refine hK _ _ ?_;clear hK K;refine wpList_load_mid rfl 32 (.tmp 6) rfl xb 0 rfl (zeV A q c) _ hx Tryz.underlying32 rfl (by kernel_rfl) ?_;refine wpList_step (fun K hK=> ?_);go_simp;have HCI:=zaa (ritem_any rb ts s wq (zaa HP.out.rin) hts HT (fun b=>xb<b) c A q (zaa HP.out.rows) (zaa (fun b hb e=>by omega)) (zaa (fun b hb=>Nat.lt_of_lt_of_le HP.out.xl hb)) (by omega));rw[H2.out] at HCI;refine HCI.out.mono ?_;clear HCI;rintro e w6 ⟨A2,q2,rfl,hr,hk,hR⟩;go_simp;refine hK _ _ ?_;clear hK K;have hxt6:=there_block hxt (hk.block xb HP.out.xl (by omega));refine wpList_store_mid rfl 32 (.tmp 6) (.tmp 28) rfl xb 0 (zeV A2 q2 c').toArray rfl rfl hxt6 (by kernel_rfl) (all_oneCell_toArray (by unfold zeV;simp[Value.oneCell'])) ?_;refine wpList_nil ?_;have HPn:=zaa (HP.out.call hr hk hR);clear hr hk hR hxt6 hx hxt HP;rw[show(zeV A2 q2 c').toArray.toList=zeV A2 q2 c' from rfl];generalize w6.setCells xb 0 _=w7 at *;have hmz:=zaa (zog HPn.out.rin);go_wp2_with fail;go_roundw
    case rel=>exact⟨c',A2,q2,s',f,fun h0=>by have:=hl h0;exact⟨by omega,by omega⟩,by omega,HG.out,HPn.out⟩
    case measure=>
     rw[hmz.out,HM.out]
     split
     ·rename_i h0;have:=hl h0;omega
     ·omega
   ·have k1:decide (j<ts.length)=false:=by simp;omega
    have hE:=(items_stop (c:=c) (f:=f) (.inr (by rw[hd,List.drop_eq_nil_of_le (by omega)]))).symm.trans HC.out;injection hE with e1 e2
    subst e1 e2;have hR:=hrp.out;rw[if_pos he] at hR;subst hR;clear hf hd HM HC;go_wp2_with fail;go_quiet (fail)
    rename_i nq
    replace HP:=zaa (HP.out.drewN nq);have c4':(wr.drewN nq).cell? ⟨rb,4,none⟩=some (.int .i64 0):=c4;clear c0 c1 c3 c4 k1;generalize wr.drewN nq=wq at *;have hx:=HP.out.x;have hyt:=HP.out.y;obtain⟨o1,o2,o3⟩:=HP.out.ord;have lq:=HP.out.rin.lt;go_upto_region 7 with fail
    refine wp_region_lit ?_;refine wpList_load_mid rfl 32 (.tmp 6) rfl xb 0 rfl (zeV A q c) _ hx Tryz.underlying32 rfl (by kernel_rfl) ?_;refine wpList_store_mid rfl 32 (.tmp 2) (.tmp 43) rfl W.heap.size 0 (zeV A q c).toArray rfl rfl hyt (by kernel_rfl) (all_oneCell_toArray (by unfold zeV;simp[Value.oneCell'])) ?_;have hK:zam (fun b=>b=W.heap.size) wq (wq.setCells W.heap.size 0 (zeV A q c)):=zam.setCells (F:=fun b=>b=W.heap.size) W.heap.size (.inl rfl) _ 0 wq (zam.refl _ wq);have HBz:=zaa (HP.out.below.trans (hK.below HP.out.below.size (fun i hi e=>by omega)));have HRz:=zaa (HP.out.rows.keep hK.size (fun b hb hl=>hK.block b hl (by omega)));have HYz:=zaa (World.rangeAt_setCells_same wq W.heap.size 0 (zeV A q c) hyt);clear hK hx hyt c4' lq l1;rw[show(zeV A q c).toArray.toList=zeV A q c from rfl];generalize wq.setCells W.heap.size 0 _=wz at *;go_wp2_with fail;refine bodyPost_ret (results_cell_mid3 Tryz.results53 _ wz W.heap.size (zeV A q c) _ (by kernel_rfl) HYz.out Tryz.underlying32 rfl (by kernel_rfl)) rfl ?_;exact⟨A,q,rfl,HBz.out,HRz.out.cells.mono (fun b hb _=>by omega)⟩
  ·have e1:((s.err:Int)==0)=false:=by simp;omega
   have hE:=(items_stop (c:=c) (f:=f) (.inl he)).symm.trans HC.out;injection hE with e2 e3
   subst e2 e3;have hR:=hrp.out;rw[if_neg he] at hR;subst hR;have e4:((s.err:Int) != 0)=true:=by simp;omega
   clear hf hd HM HC;go_wp2_with fail;go_quiet (fail)
   rename_i nq
   replace HP:=zaa (HP.out.drewN nq);have c4':(wr.drewN nq).cell? ⟨rb,4,none⟩=some (.int .i64 (s.err:Int)):=c4;have c3':(wr.drewN nq).cell? ⟨rb,3,none⟩=some (.int .i64 (s.at_:Int)):=c3;have lq:rb<(wr.drewN nq).heap.size:=l1;clear c0 c1 c3 c4 e1;generalize wr.drewN nq=wq at *;go_upto_region 6 with fail
   have hyt:=HP.out.y;obtain⟨u0,y0⟩:=Option.isSome_iff_exists.1 (hyt 0 (by decide)).1;have g0:=(hyt 0 (by decide)).2;obtain⟨u1,y1⟩:=Option.isSome_iff_exists.1 (hyt 1 (by decide)).1;have g1:=(hyt 1 (by decide)).2;obtain⟨u2,y2⟩:=Option.isSome_iff_exists.1 (hyt 2 (by decide)).1;have g2:=(hyt 2 (by decide)).2;obtain⟨u3,y3⟩:=Option.isSome_iff_exists.1 (hyt 3 (by decide)).1;have g3:=(hyt 3 (by decide)).2;obtain⟨u4,y4⟩:=Option.isSome_iff_exists.1 (hyt 4 (by decide)).1;have g4:=(hyt 4 (by decide)).2;obtain⟨u5,y5⟩:=Option.isSome_iff_exists.1 (hyt 5 (by decide)).1;have g5:=(hyt 5 (by decide)).2;obtain⟨u6,y6⟩:=Option.isSome_iff_exists.1 (hyt 6 (by decide)).1;have g6:=(hyt 6 (by decide)).2;obtain⟨u7,y7⟩:=Option.isSome_iff_exists.1 (hyt 7 (by decide)).1;have g7:=(hyt 7 (by decide)).2;simp only[Nat.zero_add] at y0 y1 y2 y3 y4 y5 y6 y7 g0 g1 g2 g3 g4 g5 g6 g7;obtain⟨o1,o2,o3⟩:=HP.out.ord;have hyl:W.heap.size<wq.heap.size:=by omega
   have hyr:W.heap.size≠rb:=by omega
   have HBq:=zaa HP.out.below;have hK:zam (fun b=>b=W.heap.size) wq (wq.setCells W.heap.size 0 [.slice none 0 0,.slice none 0 0,.slice none 0 0,.slice none 0 0,.slice none 0 0,.slice none 0 0,.slice none 0 0,.slice none 0 0]).drew:=(zam.setCells (F:=fun b=>b=W.heap.size) W.heap.size (.inl rfl) [.slice none 0 0,.slice none 0 0,.slice none 0 0,.slice none 0 0,.slice none 0 0,.slice none 0 0,.slice none 0 0,.slice none 0 0] 0 wq (zam.refl _ wq)).drew;have HBz:=zaa (HBq.out.trans (hK.below HBq.out.size (fun i hi e=>by omega)));have HYz:=zaa (range_drew (World.rangeAt_setCells_same wq W.heap.size 0 [.slice none 0 0,.slice none 0 0,.slice none 0 0,.slice none 0 0,.slice none 0 0,.slice none 0 0,.slice none 0 0,.slice none 0 0] hyt));clear hyt HP l1 hK HBq
   go_region
   change Exit.then _ _ Exit.normal _ (wq.setCells W.heap.size 0 [.slice none 0 0,.slice none 0 0,.slice none 0 0,.slice none 0 0,.slice none 0 0,.slice none 0 0,.slice none 0 0,.slice none 0 0]).drew
   generalize(wq.setCells W.heap.size 0 [.slice none 0 0,.slice none 0 0,.slice none 0 0,.slice none 0 0,.slice none 0 0,.slice none 0 0,.slice none 0 0,.slice none 0 0]).drew=wz at *;clear y0 y1 y2 y3 y4 y5 y6 y7 g0 g1 g2 g3 g4 g5 g6 g7;go_wp2_with fail;refine bodyPost_ret (results_cell_mid3 Tryz.results53 _ wz W.heap.size [.slice none 0 0,.slice none 0 0,.slice none 0 0,.slice none 0 0,.slice none 0 0,.slice none 0 0,.slice none 0 0,.slice none 0 0] _ (by kernel_rfl) HYz.out Tryz.underlying32 rfl (by kernel_rfl)) rfl ?_;exact⟨fun _=>none,fun _=>0,rfl,HBz.out,(show zdp wz (fun b=>W.heap.size≤b) (zeV (fun _=>none) (fun _=>0) zaK.none) (zaM zaK.none) from zdp.none _ _ [(46,4),(133,4),(75,4),(77,4),(136,7),(57,5),(82,3),(139,4)]).cells⟩
end Go.Proofs.YtlngbjphagnloaaGreatDoor
