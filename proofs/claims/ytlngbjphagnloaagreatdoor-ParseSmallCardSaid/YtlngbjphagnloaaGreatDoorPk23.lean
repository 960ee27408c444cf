/- Merged texts of the walks and of the plain laws on which the statement leans.-/
import Derived.Test.YtlngbjphagnloaaGreatDoorPk1
import Derived.Test.YtlngbjphagnloaaGreatDoorPk13
import Derived.Deep.DeepCutAuto
set_option maxHeartbeats 4000000
set_option maxRecDepth 100000
namespace Go.Proofs.YtlngbjphagnloaaGreatDoor
open Tryz
open Go.RowKit
attribute [local go_sem] zax.cell
attribute [local go_sem] zbY zcD
theorem zgp:(prog.info? 75).map (fun i=>(i.zero,i.size,i.bytes))=some (some (.agg #[Value.string ⟨#[]⟩,Value.int .i64 0,Value.int .i64 0,Value.int .i64 0]),4,40):=by kernel_rfl
theorem zm1 (pb j B:Nat) (ts:List Tok) (c:zaK) (W:World) (H:Hid (PSt pb ts j c B W)) (hts:ts.length≤1000000) (hj:j≤ts.length) (hg:Hid (zhA ts)) (hE:Hid (zci W)) (hpE:3≤pb) (hfew:c.switches.length≤ts.length):
 Calls prog 59 #[.pointer (some ⟨pb,0,none⟩)] W fun e W'=>zao pb ts W B ((swP >>= fun x=>pure {c with switches:=c.switches++[x]}) (ts.drop j)) e W':=by
 have hpb:=H.out.cur.lt;have hts':ts.length≤1099511627776:=by omega
 obtain⟨i0,hi0,hz0,hz1,hz2⟩:=info_parts zgp;obtain⟨vs,hvs,hcell⟩:=H.out.at_;have HVS:=zaa hvs;have HCELL:=zaa hcell;clear hvs hcell;have HA0:=zaa (AtJ.start H.out.cur.now H.out.cur.free)
 go_enter func59,ntmps59
 go_upto_region 0 with fail
 go_cut [2] (fun v2 wx=> ∃(xb j1 j2:Nat) (a1:List UInt8) (a2:Int),v2= .pointer (some ⟨xb,0,none⟩)∧Hid (AtJ pb j2 W wx∧j2≤ts.length∧W.heap.size≤xb∧wx.heap[xb]? =some (Obj.cells #[Value.string ⟨a1.toArray⟩,Value.int .i64 a2,Value.int .i64 0,Value.int .i64 0] 75 (0,0))∧zcb (ts.drop j)= .ok a1 (ts.drop j1)∧zki (ts.drop j1)= .ok a2 (ts.drop j2)))
 case first=>
  refine zad (S:=fun _=>True) 10 (by kernel_rfl) (by kernel_rfl) trivial (fun hHeld=> ?_);have HA0':=zaa HA0.out.drew;clear HA0;have HA0:=HA0';clear HA0';generalize W.drew=V at *;refine tq 0 3 rfl hHeld ?_;refine tq 1 4 rfl hHeld ?_;refine tq 2 5 rfl hHeld ?_;refine tq 4 7 rfl hHeld ?_;refine tq 5 8 rfl hHeld ?_;refine tq 6 9 rfl hHeld ?_
  (try simp only[pu])
  refine trZ [3,9] (zau.cons rfl (fun K hK=> ?_) (zau.cons rfl (fun K hK=> ?_) zau.nil))
  ·go_simp
   refine(zaU pb j ts _ (zaa (H.out.cur.to HA0.out)) hts' hj).mono ?_;rintro e w1 hE1;rcases hE1.split with⟨a1,j1,hr,hj1,hA,rfl⟩|⟨n,jn,hr,hjn,hA,rfl⟩
   rotate_left
   ·have HX:=zaa (zao.mk_bad (B:=B) (res:=((swP >>= fun x=>pure {c with switches:=c.switches++[x]}) (ts.drop j))) (zab ((rfl:swP (ts.drop j)=swP (ts.drop j)).trans (zab hr))) hjn (HA0.out.trans hA).kp (H.out.cur.to (HA0.out.trans hA)))
    clear hA hr hE1;go_wp2_with fail;exact⟨rfl,HX.out⟩
   have HA1:=zaa (HA0.out.trans hA);have hr1:=zaa hr;clear hA hr hE1 HA0;go_wp2_with fail;refine hK.out _ _ trivial (fun _=> ?_);clear hK K V;obtain⟨V,rfl⟩: ∃V,V=w1:=⟨_,rfl⟩
   (try simp only[pu])
   refine trZ [7,9] (zau.cons rfl (fun K hK=> ?_) (zau.cons rfl (fun K hK=> ?_) zau.nil))
   ·go_simp
    refine(zd8 pb j1 ts _ (zaa (H.out.cur.to HA1.out)) hts' hj1 (zaa (hE.out.to hpE HA1.out)) hpE).mono ?_;rintro e w1 hE1;rcases hE1.split with⟨a2,j2,hr,hj2,hA,rfl⟩|⟨n,jn,hr,hjn,hA,rfl⟩
    rotate_left
    ·have HX:=zaa (zao.mk_bad (B:=B) (res:=((swP >>= fun x=>pure {c with switches:=c.switches++[x]}) (ts.drop j))) (zab (((rfl:swP (ts.drop j)=swP (ts.drop j)).trans (zac hr1.out)).trans (zab hr))) hjn (HA1.out.trans hA).kp (H.out.cur.to (HA1.out.trans hA)))
     clear hA hr hE1;go_wp2_with fail;exact⟨rfl,HX.out⟩
    have HA2:=zaa (HA1.out.trans hA);have hr2:=zaa hr;clear hA hr hE1 HA1;go_wp2_with fail;refine hK.out _ _ trivial (fun _=> ?_);clear hK K V;obtain⟨V,rfl⟩: ∃V,V=w1:=⟨_,rfl⟩;refine tq 8 11 rfl hHeld ?_
    (try simp only[pu])
    refine trZ [9] (zau.cons rfl (fun K hK=> ?_) zau.nil);go_simp;refine hK.out _ _ trivial (fun _=> ?_);clear hK K;have HX:=zaa (heap_alloc_new V (Obj.cells #[Value.string ⟨#[]⟩,Value.int .i64 0,Value.int .i64 0,Value.int .i64 0] 75));have hgx:W.heap.size≤V.heap.size:=HA2.out.kept.size;have HA:=zaa (HA2.out.below hpb ((Below.refl V.heap.size V).alloc (Nat.le_refl _) (Obj.cells #[Value.string ⟨#[]⟩,Value.int .i64 0,Value.int .i64 0,Value.int .i64 0] 75)));clear HA2;have HA2:=HA;clear HA;generalize V.heap.size=xb at *;generalize V.alloc (Obj.cells #[Value.string ⟨#[]⟩,Value.int .i64 0,Value.int .i64 0,Value.int .i64 0] 75)=V' at *;clear V;obtain⟨V,rfl⟩: ∃V,V=V':=⟨_,rfl⟩
    (try simp only[pu])
    refine zae (by kernel_rfl) ?_;simp only[List.drop_succ_cons,List.drop_zero];obtain⟨c0,c1,c2,c3,f0,f1,f2,f3⟩:=zfk HX.out rfl;have hl:=(zal HX.out);go_wp2_with fail;go_meet;exact⟨xb,j1,j2,a1,a2,rfl,zaa ⟨(AtJ.fresh (AtJ.fresh (AtJ.fresh (AtJ.fresh HA2.out hpb (p:=⟨xb,0,none⟩) (by show xb≠pb;omega) hgx _) hpb (p:=⟨xb,1,none⟩) (by show xb≠pb;omega) hgx _) hpb (p:=⟨xb,2,none⟩) (by show xb≠pb;omega) hgx _) hpb (p:=⟨xb,3,none⟩) (by show xb≠pb;omega) hgx _),hj2,hgx,(heap_setCell_same _ xb 3 _ _ _ (heap_setCell_same _ xb 2 _ _ _ (heap_setCell_same _ xb 1 _ _ _ (heap_setCell_same _ xb 0 _ _ _ HX.out)))),hr1.out,hr2.out⟩⟩
   ·go_simp
    refine hK.out _ _ trivial (fun _=> ?_);clear hK K;have HX:=zaa (heap_alloc_new V (Obj.cells #[Value.string ⟨#[]⟩,Value.int .i64 0,Value.int .i64 0,Value.int .i64 0] 75));have hgx:W.heap.size≤V.heap.size:=HA1.out.kept.size;have HA:=zaa (HA1.out.below hpb ((Below.refl V.heap.size V).alloc (Nat.le_refl _) (Obj.cells #[Value.string ⟨#[]⟩,Value.int .i64 0,Value.int .i64 0,Value.int .i64 0] 75)));clear HA1;have HA1:=HA;clear HA;generalize V.heap.size=xb at *;generalize V.alloc (Obj.cells #[Value.string ⟨#[]⟩,Value.int .i64 0,Value.int .i64 0,Value.int .i64 0] 75)=V' at *;clear V;obtain⟨V,rfl⟩: ∃V,V=V':=⟨_,rfl⟩
    (try simp only[pu])
    refine trZ [7] (zau.cons rfl (fun K hK=> ?_) zau.nil);go_simp;refine(zd8 pb j1 ts _ (zaa (H.out.cur.to HA1.out)) hts' hj1 (zaa (hE.out.to hpE HA1.out)) hpE).mono ?_;rintro e w1 hE1;rcases hE1.split with⟨a2,j2,hr,hj2,hA,rfl⟩|⟨n,jn,hr,hjn,hA,rfl⟩
    rotate_left
    ·have HX:=zaa (zao.mk_bad (B:=B) (res:=((swP >>= fun x=>pure {c with switches:=c.switches++[x]}) (ts.drop j))) (zab (((rfl:swP (ts.drop j)=swP (ts.drop j)).trans (zac hr1.out)).trans (zab hr))) hjn (HA1.out.trans hA).kp (H.out.cur.to (HA1.out.trans hA)))
     clear hA hr hE1;go_wp2_with fail;exact⟨rfl,HX.out⟩
    have HA2:=zaa (HA1.out.trans hA);have hr2:=zaa hr;have HX1:=zaa ((hA.kept.block _ (zal HX.out) (by omega)).trans HX.out);clear HX;have HX:=HX1;clear HX1;clear hA hr hE1 HA1;go_wp2_with fail;refine hK.out _ _ trivial (fun _=> ?_);clear hK K V;obtain⟨V,rfl⟩: ∃V,V=w1:=⟨_,rfl⟩;refine tq 8 11 rfl hHeld ?_
    (try simp only[pu])
    refine zae (by kernel_rfl) ?_;simp only[List.drop_succ_cons,List.drop_zero];obtain⟨c0,c1,c2,c3,f0,f1,f2,f3⟩:=zfk HX.out rfl;have hl:=(zal HX.out);go_wp2_with fail;go_meet;exact⟨xb,j1,j2,a1,a2,rfl,zaa ⟨(AtJ.fresh (AtJ.fresh (AtJ.fresh (AtJ.fresh HA2.out hpb (p:=⟨xb,0,none⟩) (by show xb≠pb;omega) hgx _) hpb (p:=⟨xb,1,none⟩) (by show xb≠pb;omega) hgx _) hpb (p:=⟨xb,2,none⟩) (by show xb≠pb;omega) hgx _) hpb (p:=⟨xb,3,none⟩) (by show xb≠pb;omega) hgx _),hj2,hgx,(heap_setCell_same _ xb 3 _ _ _ (heap_setCell_same _ xb 2 _ _ _ (heap_setCell_same _ xb 1 _ _ _ (heap_setCell_same _ xb 0 _ _ _ HX.out)))),hr1.out,hr2.out⟩⟩
  ·go_simp
   refine hK.out _ _ trivial (fun _=> ?_);clear hK K;have HX:=zaa (heap_alloc_new V (Obj.cells #[Value.string ⟨#[]⟩,Value.int .i64 0,Value.int .i64 0,Value.int .i64 0] 75));have hgx:W.heap.size≤V.heap.size:=HA0.out.kept.size;have HA:=zaa (HA0.out.below hpb ((Below.refl V.heap.size V).alloc (Nat.le_refl _) (Obj.cells #[Value.string ⟨#[]⟩,Value.int .i64 0,Value.int .i64 0,Value.int .i64 0] 75)));clear HA0;have HA0:=HA;clear HA;generalize V.heap.size=xb at *;generalize V.alloc (Obj.cells #[Value.string ⟨#[]⟩,Value.int .i64 0,Value.int .i64 0,Value.int .i64 0] 75)=V' at *;clear V;obtain⟨V,rfl⟩: ∃V,V=V':=⟨_,rfl⟩
   (try simp only[pu])
   refine trZ [3] (zau.cons rfl (fun K hK=> ?_) zau.nil);go_simp;refine(zaU pb j ts _ (zaa (H.out.cur.to HA0.out)) hts' hj).mono ?_;rintro e w1 hE1;rcases hE1.split with⟨a1,j1,hr,hj1,hA,rfl⟩|⟨n,jn,hr,hjn,hA,rfl⟩
   rotate_left
   ·have HX:=zaa (zao.mk_bad (B:=B) (res:=((swP >>= fun x=>pure {c with switches:=c.switches++[x]}) (ts.drop j))) (zab ((rfl:swP (ts.drop j)=swP (ts.drop j)).trans (zab hr))) hjn (HA0.out.trans hA).kp (H.out.cur.to (HA0.out.trans hA)))
    clear hA hr hE1;go_wp2_with fail;exact⟨rfl,HX.out⟩
   have HA1:=zaa (HA0.out.trans hA);have hr1:=zaa hr;have HX1:=zaa ((hA.kept.block _ (zal HX.out) (by omega)).trans HX.out);clear HX;have HX:=HX1;clear HX1;clear hA hr hE1 HA0;go_wp2_with fail;refine hK.out _ _ trivial (fun _=> ?_);clear hK K V;obtain⟨V,rfl⟩: ∃V,V=w1:=⟨_,rfl⟩
   (try simp only[pu])
   refine trZ [7] (zau.cons rfl (fun K hK=> ?_) zau.nil);go_simp;refine(zd8 pb j1 ts _ (zaa (H.out.cur.to HA1.out)) hts' hj1 (zaa (hE.out.to hpE HA1.out)) hpE).mono ?_;rintro e w1 hE1;rcases hE1.split with⟨a2,j2,hr,hj2,hA,rfl⟩|⟨n,jn,hr,hjn,hA,rfl⟩
   rotate_left
   ·have HX:=zaa (zao.mk_bad (B:=B) (res:=((swP >>= fun x=>pure {c with switches:=c.switches++[x]}) (ts.drop j))) (zab (((rfl:swP (ts.drop j)=swP (ts.drop j)).trans (zac hr1.out)).trans (zab hr))) hjn (HA1.out.trans hA).kp (H.out.cur.to (HA1.out.trans hA)))
    clear hA hr hE1;go_wp2_with fail;exact⟨rfl,HX.out⟩
   have HA2:=zaa (HA1.out.trans hA);have hr2:=zaa hr;have HX1:=zaa ((hA.kept.block _ (zal HX.out) (by omega)).trans HX.out);clear HX;have HX:=HX1;clear HX1;clear hA hr hE1 HA1;go_wp2_with fail;refine hK.out _ _ trivial (fun _=> ?_);clear hK K V;obtain⟨V,rfl⟩: ∃V,V=w1:=⟨_,rfl⟩;refine tq 8 11 rfl hHeld ?_
   (try simp only[pu])
   refine zae (by kernel_rfl) ?_;simp only[List.drop_succ_cons,List.drop_zero];obtain⟨c0,c1,c2,c3,f0,f1,f2,f3⟩:=zfk HX.out rfl;have hl:=(zal HX.out);go_wp2_with fail;go_meet;exact⟨xb,j1,j2,a1,a2,rfl,zaa ⟨(AtJ.fresh (AtJ.fresh (AtJ.fresh (AtJ.fresh HA2.out hpb (p:=⟨xb,0,none⟩) (by show xb≠pb;omega) hgx _) hpb (p:=⟨xb,1,none⟩) (by show xb≠pb;omega) hgx _) hpb (p:=⟨xb,2,none⟩) (by show xb≠pb;omega) hgx _) hpb (p:=⟨xb,3,none⟩) (by show xb≠pb;omega) hgx _),hj2,hgx,(heap_setCell_same _ xb 3 _ _ _ (heap_setCell_same _ xb 2 _ _ _ (heap_setCell_same _ xb 1 _ _ _ (heap_setCell_same _ xb 0 _ _ _ HX.out)))),hr1.out,hr2.out⟩⟩
 case rest=>
  clear HA0;obtain⟨xb,j1,j2,a1,a2,rfl,hcut⟩:=hcut;obtain⟨hA,hj2,hgx,hT,hr1,hr2⟩:=hcut.out;have HA2:=zaa hA;have HT2:=zaa hT;have HR2:=zaa (((rfl:swP (ts.drop j)=swP (ts.drop j)).trans (zac hr1)).trans (zac hr2));clear hcut hA hT hr1 hr2;go_wp2_with fail;refine zad (S:=fun _=>True) 10 (by kernel_rfl) (by kernel_rfl) trivial (fun hHeld=> ?_);have HT2':Hid (wc.drew.heap[xb]? =some (Obj.cells #[Value.string ⟨a1.toArray⟩,Value.int .i64 a2,Value.int .i64 0,Value.int .i64 0] 75 (0,0))):=HT2;have HA2':=zaa HA2.out.drew;clear HT2 HA2;have HT2:=HT2';have HA2:=HA2';clear HT2' HA2';have hzd2:wc.drew.heap.size=wc.heap.size:=rfl;generalize wc.drew=U2 at *
  (try rw[←hzd2] at hxV)
  refine tq 0 12 rfl hHeld ?_;refine tq 1 13 rfl hHeld ?_;refine tq 2 14 rfl hHeld ?_;refine tq 4 16 rfl hHeld ?_;refine tq 5 17 rfl hHeld ?_;refine tq 6 18 rfl hHeld ?_
  (try simp only[pu])
  refine trZ [3] (zau.cons rfl (fun K hK=> ?_) zau.nil);go_simp;refine(zaG pb j2 ts ⟨#[100,101,108,97,121]⟩ _ (zaa (H.out.cur.to HA2.out)) hts' hj2 hg (by decide)).mono ?_;rintro e w3 hE3;rcases hE3.split with⟨a3,j3,hr,hj3,hA,rfl⟩|⟨n,jn,hr,hjn,hA,rfl⟩
  rotate_left
  ·have HX:=zaa (zao.mk_bad (B:=B) (res:=((swP >>= fun x=>pure {c with switches:=c.switches++[x]}) (ts.drop j))) (zab (HR2.out.trans (zab hr))) hjn (HA2.out.trans hA).kp (H.out.cur.to (HA2.out.trans hA)))
   clear hA hr hE3;go_wp2_with fail;exact⟨rfl,HX.out⟩
  have HB3:=zaa (HA2.out.trans hA);have HR3:=zaa (HR2.out.trans (zac hr));clear HR2;have HS3:=zaa ((hA.kept.block _ (zal HT2.out) (by omega)).trans HT2.out);clear hA hr hE3 HA2 HT2;have HT3:=zaa HS3.out;have HA3:=zaa HB3.out;clear HS3 HB3;go_wp2_with fail;refine hK.out _ _ trivial (fun _=> ?_);clear hK K;refine tq 8 20 rfl hHeld ?_
  (try simp only[pu])
  refine trZ [7] (zau.cons rfl (fun K hK=> ?_) zau.nil);go_simp;refine(zaG pb j3 ts ⟨#[115,116,111,114,101]⟩ _ (zaa (H.out.cur.to HA3.out)) hts' hj3 hg (by decide)).mono ?_;rintro e w4 hE4;rcases hE4.split with⟨a4,j4,hr,hj4,hA,rfl⟩|⟨n,jn,hr,hjn,hA,rfl⟩
  rotate_left
  ·have HX:=zaa (zao.mk_bad (B:=B) (res:=((swP >>= fun x=>pure {c with switches:=c.switches++[x]}) (ts.drop j))) (zab (HR3.out.trans (zab hr))) hjn (HA3.out.trans hA).kp (H.out.cur.to (HA3.out.trans hA)))
   clear hA hr hE4;go_wp2_with fail;exact⟨rfl,HX.out⟩
  have HB4:=zaa (HA3.out.trans hA);have HR4:=zaa (HR3.out.trans (zac hr));clear HR3;have HS4:=zaa ((hA.kept.block _ (zal HT3.out) (by omega)).trans HT3.out);clear hA hr hE4 HA3 HT3;have HT4:=zaa HS4.out;have HA4:=zaa HB4.out;clear HS4 HB4;go_wp2_with fail;refine hK.out _ _ trivial (fun _=> ?_);clear hK K
  (try simp only[pu])
  obtain⟨c0,c1,c2,c3,f0,f1,f2,f3⟩:=zfk HT4.out rfl;have hl:=(zal HT4.out);refine trZ [9] (zau.cons rfl (fun K hK=> ?_) zau.nil);go_simp;refine hK.out _ _ trivial (fun _=> ?_);clear hK K
  (try simp only[pu])
  refine zae (by kernel_rfl) ?_;simp only[List.drop_succ_cons,List.drop_zero];have HS4:=HT4;have HB4:=HA4;clear HT4 HA4;have HT4:Hid (((w4.setCell ⟨xb,2,none⟩ (Value.int .i64 a3)).setCell ⟨xb,3,none⟩ (Value.int .i64 a4)).heap[xb]? =some (Obj.cells #[Value.string ⟨a1.toArray⟩,Value.int .i64 a2,Value.int .i64 a3,Value.int .i64 a4] 75 (0,0))):=zaa (heap_setCell_same _ xb 3 _ _ _ (heap_setCell_same _ xb 2 _ _ _ HS4.out));have HA4:=zaa (AtJ.fresh (AtJ.fresh HB4.out hpb (p:=⟨xb,2,none⟩) (by show xb≠pb;omega) hgx (Value.int .i64 a3)) hpb (p:=⟨xb,3,none⟩) (by show xb≠pb;omega) hgx (Value.int .i64 a4));go_wp2_with fail;clear hl c0 f0 c1 f1 c2 f2 c3 f3;have hzz4:((w4.setCell ⟨xb,2,none⟩ (Value.int .i64 a3)).setCell ⟨xb,3,none⟩ (Value.int .i64 a4)).heap.size=w4.heap.size:=by simp[World.setCell]
  clear HS4 HB4;generalize((w4.setCell ⟨xb,2,none⟩ (Value.int .i64 a3)).setCell ⟨xb,3,none⟩ (Value.int .i64 a4))=V4 at *;refine(zat pb j4 _ ts ⟨#[59]⟩ _ (zaa (H.out.cur.to HA4.out)) hts' hj4 (by decide) (by first|rfl|exact hzz4.symm|simp[go_sem])).mono ?_;rintro e w5 hE5;rcases hE5.split with⟨a5,j5,hr,hj5,hA,rfl⟩|⟨n,jn,hr,hjn,hA,rfl⟩
  rotate_left
  ·have HX:=zaa (zao.mk_bad (B:=B) (res:=((swP >>= fun x=>pure {c with switches:=c.switches++[x]}) (ts.drop j))) (zab (HR4.out.trans (zab hr))) hjn (HA4.out.trans hA).kp (H.out.cur.to (HA4.out.trans hA)))
   clear hA hr hE5;go_wp2_with fail;exact⟨rfl,HX.out⟩
  have HB5:=zaa (HA4.out.trans hA);have HR5:=zaa (HR4.out.trans (zac hr));clear HR4;have HS5:=zaa ((hA.kept.block _ (zal HT4.out) (by omega)).trans HT4.out);clear hA hr hE5 HA4 HT4;have HT5:=zaa HS5.out;have HA5:=zaa HB5.out;clear HS5 HB5;go_wp2_with fail;have hvk:=HVS.out.kept HA5.out.kept (fun b hb e=>by have:=H.out.low;omega);have hck: ∀(i:Nat) u,vs[i]? =some u→w5.cell? ⟨pb,2+i,none⟩=some u:=fun i u hu=>(HA5.out.rest (2+i) (by omega)).trans (HCELL.out i u hu)
  have hv:vs[2]? =some (vs[2]'(by rw[HVS.out.len];exact(by decide:2<8))):=List.getElem?_eq_getElem _;generalize vs[2]'(by rw[HVS.out.len];exact(by decide:2<8))=v at hv;obtain⟨cs,ho,hc⟩:=hvk.own 2 v ⟨75,4,c.switches.map SwD.cells⟩ hv rfl;dsimp only at ho hc;obtain⟨A,q,rfl⟩:=zah ho;have hcK:w5.cell? ⟨pb,4,none⟩=_:=hck 2 _ hv;have hfK:=(H.out.to HA5.out).free 4 (by decide);have hnl:(c.switches.map SwD.cells).length≤1000000:=by simp;omega
  have hOB: ∀g,(Value.slice A (c.switches.map SwD.cells).length q).ownBlock=some g→B≤g∧g<W.heap.size:=fun g hg=>by
   obtain⟨cs',ho',_⟩:=HVS.out.own 2 _ _ hv rfl;exact zaj ho' hg
  have hBp:=H.out.low;have HVK:=zaa hvk;have HCK:=zaa hck;have HC:=zaa hc;have HO:=zaa ho;have HOB:=zaa hOB;have HV:=zaa hv;clear hvk hck hc ho hOB hv;generalize hnn:(c.switches.map SwD.cells).length=m at *;have HNN:=zaa hnn;clear hnn;obtain⟨c0,c1,c2,c3,f0,f1,f2,f3⟩:=zfk HT5.out rfl;have hl:=(zal HT5.out);have hpV:pb<w5.heap.size:=Nat.lt_of_lt_of_le hpb HA5.out.kept.size;have HBel:=zaa ((Below.refl w5.heap.size w5).drew);refine zad (S:=fun w'=>w'.heap[pb]? =w5.heap[pb]? ∧w'.heap[xb]? =w5.heap[xb]?) 9 (by kernel_rfl) (by kernel_rfl) ⟨rfl,rfl⟩ (fun hHeld=> ?_);generalize w5.drew=V0 at *;refine tq 0 27 rfl hHeld ?_;refine tq 1 28 rfl hHeld ?_;refine tq 2 29 rfl hHeld ?_;refine tq 3 30 rfl hHeld ?_;refine tq 4 31 rfl hHeld ?_
  (try simp only[pu])
  refine tyZ (v:= ?_) 5 32 rfl hHeld (fun v hS=> ?_) ?_;rotate_left
  ·have e0:=(World.cell?_of_block (a:=⟨pb,4,none⟩) hS.1).trans hcK
   go_simp
   with_reducible rfl
  (try simp only[pu])
  refine tyZ (v:= ?_) 6 33 rfl hHeld (fun v hS=> ?_) ?_;rotate_left
  ·have e0:=(World.cell?_of_block (a:=⟨xb,0,none⟩) hS.2).trans c0
   have e1:=(World.cell?_of_block (a:=⟨xb,1,none⟩) hS.2).trans c1;have e2:=(World.cell?_of_block (a:=⟨xb,2,none⟩) hS.2).trans c2;have e3:=(World.cell?_of_block (a:=⟨xb,3,none⟩) hS.2).trans c3;go_simp
   with_reducible rfl
  (try simp only[pu])
  refine trZ [7] (zau.cons rfl (fun K hK=> ?_) zau.nil);go_simp;have hpV0:pb<V0.heap.size:=Nat.lt_of_lt_of_le hpV HBel.out.size;have hxV0:xb<V0.heap.size:=Nat.lt_of_lt_of_le hl HBel.out.size;refine hK.out _ _ ⟨(Below.heap_alloc V0 _ pb hpV0).trans hHeld.1,(Below.heap_alloc V0 _ xb hxV0).trans hHeld.2⟩ (fun hHeld1=> ?_);clear hK K hHeld;have hHeld:=hHeld1;clear hHeld1;have XN:=zaa (heap_alloc_new V0 (Obj.cells #[Value.string ⟨a1.toArray⟩,Value.int .i64 a2,Value.int .i64 a3,Value.int .i64 a4] 75));have HB1:=zaa (HBel.out.alloc HBel.out.size (Obj.cells #[Value.string ⟨a1.toArray⟩,Value.int .i64 a2,Value.int .i64 a3,Value.int .i64 a4] 75));have hzV:w5.heap.size≤V0.heap.size:=HBel.out.size;clear HBel;have hz1':V0.heap.size<(V0.alloc (Obj.cells #[Value.string ⟨a1.toArray⟩,Value.int .i64 a2,Value.int .i64 a3,Value.int .i64 a4] 75)).heap.size:=by simp
  generalize V0.heap.size=nb at *;generalize V0.alloc (Obj.cells #[Value.string ⟨a1.toArray⟩,Value.int .i64 a2,Value.int .i64 a3,Value.int .i64 a4] 75)=V1 at *;clear V0
  (try simp only[pu])
  refine trZ [8] (zau.cons rfl (fun K hK=> ?_) zau.nil);have hO1:=zai (w':=V1) HO.out (fun g hg _=>HB1.out.block g (zaj HO.out hg).2);have HO1:=zaa hO1;clear hO1;have hBV:B≤V1.heap.size:=by have:=H.out.big;have:=HA5.out.kept.size;have:=HB1.out.size;omega
  refine zaw _ rfl (.tmp 32) (.tmp 34) 25 rfl B 75 i0 _ 4 40 underlying25 hi0 hz0 hz1 hz2 rfl (by decide) (.slice A m q) m cs rfl HO1.out _ (some ⟨nb,0,none⟩) 1 1 [Value.string ⟨a1.toArray⟩,Value.int .i64 a2,Value.int .i64 a3,Value.int .i64 a4] rfl (zbk XN.out rfl) (by simp[Value.oneCell']) (by unfold maxLen;omega) (by omega) hBV ?_;intro v5 wz hown5 hg5 hat5;obtain⟨Az,qz,rfl⟩:=zah hown5;have hp5:=hg5.block pb (by omega) (fun e=>by have:=(HOB.out pb e.symm).1;omega);have hx5:=hg5.block xb (by omega) (fun e=>by have:=(HOB.out xb e.symm).2;omega);refine hK.out _ _ ⟨hp5.trans hHeld.1,hx5.trans hHeld.2⟩ (fun hHeld1=> ?_);clear hK K;have q0:=(World.cell?_of_block (a:=⟨pb,4,none⟩) hHeld1.1).trans hcK;have q1:=(World.frozen?_of_block (a:=⟨pb,4,none⟩) hHeld1.1).trans hfK;have hFIN:=(H.out.to HA5.out).push (c':={c with switches:=c.switches++[⟨a1,a2,a3,a4⟩]}) HVK.out HCK.out HV.out rfl HC.out (f:=SwD.cells (⟨a1,a2,a3,a4⟩)) rfl HB1.out (news:=[Value.string ⟨a1.toArray⟩,Value.int .i64 a2,Value.int .i64 a3,Value.int .i64 a4]) ?_ (by rw[HNN.out];exact hown5) hg5 hat5 (by simp[zaM]);rotate_left
  ·exact zbt _
  have HFIN:=zaa hFIN;have HEND:=zaa ((zac (HR5.out.trans rfl)).trans rfl:((swP >>= fun x=>pure {c with switches:=c.switches++[x]}) (ts.drop j))= .ok {c with switches:=c.switches++[⟨a1,a2,a3,a4⟩]} (ts.drop j5));clear hFIN hp5 hx5 hown5 hg5 hat5 hHeld hHeld1 XN HO1 HR5;clear hl c0 f0 c1 f1 c2 f2 c3 f3;refine zae (by kernel_rfl) ?_;simp only[List.drop_succ_cons,List.drop_zero];go_wp2_with fail
  go_end0
  exact zao.mk_ok HEND.out hj5 (HA5.out.kp.trans HFIN.out.2) HFIN.out.1
end Go.Proofs.YtlngbjphagnloaaGreatDoor
