/- Merged texts of the walks and of the plain laws on which the statement leans.-/
import Derived.Test.YtlngbjphagnloaaGreatDoorPk1
import Derived.Test.YtlngbjphagnloaaGreatDoorPk13
import Derived.Deep.DeepCutAuto
set_option maxHeartbeats 4000000
set_option maxRecDepth 100000
namespace Go.Proofs.YtlngbjphagnloaaGreatDoor
open Tryz
open Go.RowKit
attribute [local go_sem] zax.cell
attribute [local go_sem] zbY zcD
theorem zf7:(prog.info? 139).map (fun i=>(i.zero,i.size,i.bytes))=some (some (.agg #[Value.string ⟨#[]⟩,Value.int .i64 0,Value.string ⟨#[]⟩,Value.int .i64 0]),4,48):=by kernel_rfl
theorem zlR (pb j B:Nat) (ts:List Tok) (c:zaK) (W:World) (H:Hid (PSt pb ts j c B W)) (hts:ts.length≤1000000) (hj:j≤ts.length) (hg:Hid (zhA ts)) (_hE:Hid (zci W)) (_hpE:3≤pb) (hfew:c.versions.length≤ts.length):
 Calls prog 64 #[.pointer (some ⟨pb,0,none⟩)] W fun e W'=>zao pb ts W B ((zbq >>= fun x=>pure {c with versions:=c.versions++[x]}) (ts.drop j)) e W':=by
 have hpb:=H.out.cur.lt;have hts':ts.length≤1099511627776:=by omega
 obtain⟨i0,hi0,hz0,hz1,hz2⟩:=info_parts zf7;obtain⟨vs,hvs,hcell⟩:=H.out.at_;have HVS:=zaa hvs;have HCELL:=zaa hcell;clear hvs hcell;have HA0:=zaa (AtJ.start H.out.cur.now H.out.cur.free)
 go_enter func64,ntmps64
 go_upto_region 0 with fail
 go_cut [2] (fun v2 wx=> ∃(xb j1 j2:Nat) (a1:List UInt8) (a2:Int),v2= .pointer (some ⟨xb,0,none⟩)∧Hid (AtJ pb j2 W wx∧j2≤ts.length∧W.heap.size≤xb∧wx.heap[xb]? =some (Obj.cells #[Value.string ⟨a1.toArray⟩,Value.int .i64 a2,Value.string ⟨#[]⟩,Value.int .i64 0] 139 (0,0))∧zcb (ts.drop j)= .ok a1 (ts.drop j1)∧zfe (ts.drop j1)= .ok a2 (ts.drop j2)))
 case first=>
  refine zad (S:=fun _=>True) 10 (by kernel_rfl) (by kernel_rfl) trivial (fun hHeld=> ?_);have HA0':=zaa HA0.out.drew;clear HA0;have HA0:=HA0';clear HA0';generalize W.drew=V at *;refine tq 0 3 rfl hHeld ?_;refine tq 1 4 rfl hHeld ?_;refine tq 2 5 rfl hHeld ?_;refine tq 4 7 rfl hHeld ?_;refine tq 5 8 rfl hHeld ?_;refine tq 6 9 rfl hHeld ?_
  (try simp only[pu])
  refine trZ [3,9] (zau.cons rfl (fun K hK=> ?_) (zau.cons rfl (fun K hK=> ?_) zau.nil))
  ·go_simp
   refine(zaU pb j ts _ (zaa (H.out.cur.to HA0.out)) hts' hj).mono ?_;rintro e w1 hE1;rcases hE1.split with⟨a1,j1,hr,hj1,hA,rfl⟩|⟨n,jn,hr,hjn,hA,rfl⟩
   rotate_left
   ·have HX:=zaa (zao.mk_bad (B:=B) (res:=((zbq >>= fun x=>pure {c with versions:=c.versions++[x]}) (ts.drop j))) (zab ((rfl:zbq (ts.drop j)=zbq (ts.drop j)).trans (zab hr))) hjn (HA0.out.trans hA).kp (H.out.cur.to (HA0.out.trans hA)))
    clear hA hr hE1;go_wp2_with fail;exact⟨rfl,HX.out⟩
   have HA1:=zaa (HA0.out.trans hA);have hr1:=zaa hr;clear hA hr hE1 HA0;go_wp2_with fail;refine hK.out _ _ trivial (fun _=> ?_);clear hK K V;obtain⟨V,rfl⟩: ∃V,V=w1:=⟨_,rfl⟩
   (try simp only[pu])
   refine trZ [7,9] (zau.cons rfl (fun K hK=> ?_) (zau.cons rfl (fun K hK=> ?_) zau.nil))
   ·go_simp
    refine(zcx pb j1 ts _ (zaa (H.out.cur.to HA1.out)) hts' hj1 hg).mono ?_;rintro e w1 hE1;rcases hE1.split with⟨a2,j2,hr,hj2,hA,rfl⟩|⟨n,jn,hr,hjn,hA,rfl⟩
    rotate_left
    ·have HX:=zaa (zao.mk_bad (B:=B) (res:=((zbq >>= fun x=>pure {c with versions:=c.versions++[x]}) (ts.drop j))) (zab (((rfl:zbq (ts.drop j)=zbq (ts.drop j)).trans (zac hr1.out)).trans (zab hr))) hjn (HA1.out.trans hA).kp (H.out.cur.to (HA1.out.trans hA)))
     clear hA hr hE1;go_wp2_with fail;exact⟨rfl,HX.out⟩
    have HA2:=zaa (HA1.out.trans hA);have hr2:=zaa hr;clear hA hr hE1 HA1;go_wp2_with fail;refine hK.out _ _ trivial (fun _=> ?_);clear hK K V;obtain⟨V,rfl⟩: ∃V,V=w1:=⟨_,rfl⟩;refine tq 8 11 rfl hHeld ?_
    (try simp only[pu])
    refine trZ [9] (zau.cons rfl (fun K hK=> ?_) zau.nil);go_simp;refine hK.out _ _ trivial (fun _=> ?_);clear hK K;have HX:=zaa (heap_alloc_new V (Obj.cells #[Value.string ⟨#[]⟩,Value.int .i64 0,Value.string ⟨#[]⟩,Value.int .i64 0] 139));have hgx:W.heap.size≤V.heap.size:=HA2.out.kept.size;have HA:=zaa (HA2.out.below hpb ((Below.refl V.heap.size V).alloc (Nat.le_refl _) (Obj.cells #[Value.string ⟨#[]⟩,Value.int .i64 0,Value.string ⟨#[]⟩,Value.int .i64 0] 139)));clear HA2;have HA2:=HA;clear HA;generalize V.heap.size=xb at *;generalize V.alloc (Obj.cells #[Value.string ⟨#[]⟩,Value.int .i64 0,Value.string ⟨#[]⟩,Value.int .i64 0] 139)=V' at *;clear V;obtain⟨V,rfl⟩: ∃V,V=V':=⟨_,rfl⟩
    (try simp only[pu])
    refine zae (by kernel_rfl) ?_;simp only[List.drop_succ_cons,List.drop_zero];obtain⟨c0,c1,c2,c3,f0,f1,f2,f3⟩:=zfk HX.out rfl;have hl:=(zal HX.out);go_wp2_with fail;go_meet;exact⟨xb,j1,j2,a1,a2,rfl,zaa ⟨(AtJ.fresh (AtJ.fresh (AtJ.fresh (AtJ.fresh HA2.out hpb (p:=⟨xb,0,none⟩) (by show xb≠pb;omega) hgx _) hpb (p:=⟨xb,1,none⟩) (by show xb≠pb;omega) hgx _) hpb (p:=⟨xb,2,none⟩) (by show xb≠pb;omega) hgx _) hpb (p:=⟨xb,3,none⟩) (by show xb≠pb;omega) hgx _),hj2,hgx,(heap_setCell_same _ xb 3 _ _ _ (heap_setCell_same _ xb 2 _ _ _ (heap_setCell_same _ xb 1 _ _ _ (heap_setCell_same _ xb 0 _ _ _ HX.out)))),hr1.out,hr2.out⟩⟩
   ·go_simp
    refine hK.out _ _ trivial (fun _=> ?_);clear hK K;have HX:=zaa (heap_alloc_new V (Obj.cells #[Value.string ⟨#[]⟩,Value.int .i64 0,Value.string ⟨#[]⟩,Value.int .i64 0] 139));have hgx:W.heap.size≤V.heap.size:=HA1.out.kept.size;have HA:=zaa (HA1.out.below hpb ((Below.refl V.heap.size V).alloc (Nat.le_refl _) (Obj.cells #[Value.string ⟨#[]⟩,Value.int .i64 0,Value.string ⟨#[]⟩,Value.int .i64 0] 139)));clear HA1;have HA1:=HA;clear HA;generalize V.heap.size=xb at *;generalize V.alloc (Obj.cells #[Value.string ⟨#[]⟩,Value.int .i64 0,Value.string ⟨#[]⟩,Value.int .i64 0] 139)=V' at *;clear V;obtain⟨V,rfl⟩: ∃V,V=V':=⟨_,rfl⟩
    (try simp only[pu])
    refine trZ [7] (zau.cons rfl (fun K hK=> ?_) zau.nil);go_simp;refine(zcx pb j1 ts _ (zaa (H.out.cur.to HA1.out)) hts' hj1 hg).mono ?_;rintro e w1 hE1;rcases hE1.split with⟨a2,j2,hr,hj2,hA,rfl⟩|⟨n,jn,hr,hjn,hA,rfl⟩
    rotate_left
    ·have HX:=zaa (zao.mk_bad (B:=B) (res:=((zbq >>= fun x=>pure {c with versions:=c.versions++[x]}) (ts.drop j))) (zab (((rfl:zbq (ts.drop j)=zbq (ts.drop j)).trans (zac hr1.out)).trans (zab hr))) hjn (HA1.out.trans hA).kp (H.out.cur.to (HA1.out.trans hA)))
     clear hA hr hE1;go_wp2_with fail;exact⟨rfl,HX.out⟩
    have HA2:=zaa (HA1.out.trans hA);have hr2:=zaa hr;have HX1:=zaa ((hA.kept.block _ (zal HX.out) (by omega)).trans HX.out);clear HX;have HX:=HX1;clear HX1;clear hA hr hE1 HA1;go_wp2_with fail;refine hK.out _ _ trivial (fun _=> ?_);clear hK K V;obtain⟨V,rfl⟩: ∃V,V=w1:=⟨_,rfl⟩;refine tq 8 11 rfl hHeld ?_
    (try simp only[pu])
    refine zae (by kernel_rfl) ?_;simp only[List.drop_succ_cons,List.drop_zero];obtain⟨c0,c1,c2,c3,f0,f1,f2,f3⟩:=zfk HX.out rfl;have hl:=(zal HX.out);go_wp2_with fail;go_meet;exact⟨xb,j1,j2,a1,a2,rfl,zaa ⟨(AtJ.fresh (AtJ.fresh (AtJ.fresh (AtJ.fresh HA2.out hpb (p:=⟨xb,0,none⟩) (by show xb≠pb;omega) hgx _) hpb (p:=⟨xb,1,none⟩) (by show xb≠pb;omega) hgx _) hpb (p:=⟨xb,2,none⟩) (by show xb≠pb;omega) hgx _) hpb (p:=⟨xb,3,none⟩) (by show xb≠pb;omega) hgx _),hj2,hgx,(heap_setCell_same _ xb 3 _ _ _ (heap_setCell_same _ xb 2 _ _ _ (heap_setCell_same _ xb 1 _ _ _ (heap_setCell_same _ xb 0 _ _ _ HX.out)))),hr1.out,hr2.out⟩⟩
  ·go_simp
   refine hK.out _ _ trivial (fun _=> ?_);clear hK K;have HX:=zaa (heap_alloc_new V (Obj.cells #[Value.string ⟨#[]⟩,Value.int .i64 0,Value.string ⟨#[]⟩,Value.int .i64 0] 139));have hgx:W.heap.size≤V.heap.size:=HA0.out.kept.size;have HA:=zaa (HA0.out.below hpb ((Below.refl V.heap.size V).alloc (Nat.le_refl _) (Obj.cells #[Value.string ⟨#[]⟩,Value.int .i64 0,Value.string ⟨#[]⟩,Value.int .i64 0] 139)));clear HA0;have HA0:=HA;clear HA;generalize V.heap.size=xb at *;generalize V.alloc (Obj.cells #[Value.string ⟨#[]⟩,Value.int .i64 0,Value.string ⟨#[]⟩,Value.int .i64 0] 139)=V' at *;clear V;obtain⟨V,rfl⟩: ∃V,V=V':=⟨_,rfl⟩
   (try simp only[pu])
   refine trZ [3] (zau.cons rfl (fun K hK=> ?_) zau.nil);go_simp;refine(zaU pb j ts _ (zaa (H.out.cur.to HA0.out)) hts' hj).mono ?_;rintro e w1 hE1;rcases hE1.split with⟨a1,j1,hr,hj1,hA,rfl⟩|⟨n,jn,hr,hjn,hA,rfl⟩
   rotate_left
   ·have HX:=zaa (zao.mk_bad (B:=B) (res:=((zbq >>= fun x=>pure {c with versions:=c.versions++[x]}) (ts.drop j))) (zab ((rfl:zbq (ts.drop j)=zbq (ts.drop j)).trans (zab hr))) hjn (HA0.out.trans hA).kp (H.out.cur.to (HA0.out.trans hA)))
    clear hA hr hE1;go_wp2_with fail;exact⟨rfl,HX.out⟩
   have HA1:=zaa (HA0.out.trans hA);have hr1:=zaa hr;have HX1:=zaa ((hA.kept.block _ (zal HX.out) (by omega)).trans HX.out);clear HX;have HX:=HX1;clear HX1;clear hA hr hE1 HA0;go_wp2_with fail;refine hK.out _ _ trivial (fun _=> ?_);clear hK K V;obtain⟨V,rfl⟩: ∃V,V=w1:=⟨_,rfl⟩
   (try simp only[pu])
   refine trZ [7] (zau.cons rfl (fun K hK=> ?_) zau.nil);go_simp;refine(zcx pb j1 ts _ (zaa (H.out.cur.to HA1.out)) hts' hj1 hg).mono ?_;rintro e w1 hE1;rcases hE1.split with⟨a2,j2,hr,hj2,hA,rfl⟩|⟨n,jn,hr,hjn,hA,rfl⟩
   rotate_left
   ·have HX:=zaa (zao.mk_bad (B:=B) (res:=((zbq >>= fun x=>pure {c with versions:=c.versions++[x]}) (ts.drop j))) (zab (((rfl:zbq (ts.drop j)=zbq (ts.drop j)).trans (zac hr1.out)).trans (zab hr))) hjn (HA1.out.trans hA).kp (H.out.cur.to (HA1.out.trans hA)))
    clear hA hr hE1;go_wp2_with fail;exact⟨rfl,HX.out⟩
   have HA2:=zaa (HA1.out.trans hA);have hr2:=zaa hr;have HX1:=zaa ((hA.kept.block _ (zal HX.out) (by omega)).trans HX.out);clear HX;have HX:=HX1;clear HX1;clear hA hr hE1 HA1;go_wp2_with fail;refine hK.out _ _ trivial (fun _=> ?_);clear hK K V;obtain⟨V,rfl⟩: ∃V,V=w1:=⟨_,rfl⟩;refine tq 8 11 rfl hHeld ?_
   (try simp only[pu])
   refine zae (by kernel_rfl) ?_;simp only[List.drop_succ_cons,List.drop_zero];obtain⟨c0,c1,c2,c3,f0,f1,f2,f3⟩:=zfk HX.out rfl;have hl:=(zal HX.out);go_wp2_with fail;go_meet;exact⟨xb,j1,j2,a1,a2,rfl,zaa ⟨(AtJ.fresh (AtJ.fresh (AtJ.fresh (AtJ.fresh HA2.out hpb (p:=⟨xb,0,none⟩) (by show xb≠pb;omega) hgx _) hpb (p:=⟨xb,1,none⟩) (by show xb≠pb;omega) hgx _) hpb (p:=⟨xb,2,none⟩) (by show xb≠pb;omega) hgx _) hpb (p:=⟨xb,3,none⟩) (by show xb≠pb;omega) hgx _),hj2,hgx,(heap_setCell_same _ xb 3 _ _ _ (heap_setCell_same _ xb 2 _ _ _ (heap_setCell_same _ xb 1 _ _ _ (heap_setCell_same _ xb 0 _ _ _ HX.out)))),hr1.out,hr2.out⟩⟩
 case rest=>
  clear HA0;obtain⟨xb,j1,j2,a1,a2,rfl,hcut⟩:=hcut;obtain⟨hA,hj2,hgx,hT,hr1,hr2⟩:=hcut.out;have HA2:=zaa hA;have HT2:=zaa hT;have HR2:=zaa (((rfl:zbq (ts.drop j)=zbq (ts.drop j)).trans (zac hr1)).trans (zac hr2));clear hcut hA hT hr1 hr2;go_wp2_with fail;refine(zat pb j2 _ ts ⟨#[119,105,116,104]⟩ _ (zaa (H.out.cur.to HA2.out)) hts' hj2 (by decide) (by first|rfl|exact hzz2.symm|simp[go_sem])).mono ?_;rintro e w3 hE3;rcases hE3.split with⟨a3,j3,hr,hj3,hA,rfl⟩|⟨n,jn,hr,hjn,hA,rfl⟩
  rotate_left
  ·have HX:=zaa (zao.mk_bad (B:=B) (res:=((zbq >>= fun x=>pure {c with versions:=c.versions++[x]}) (ts.drop j))) (zab (HR2.out.trans (zab hr))) hjn (HA2.out.trans hA).kp (H.out.cur.to (HA2.out.trans hA)))
   clear hA hr hE3;go_wp2_with fail;exact⟨rfl,HX.out⟩
  have HB3:=zaa (HA2.out.trans hA);have HR3:=zaa (HR2.out.trans (zac hr));clear HR2;have HS3:=zaa ((hA.kept.block _ (zal HT2.out) (by omega)).trans HT2.out);clear hA hr hE3 HA2 HT2;have HT3:=zaa HS3.out;have HA3:=zaa HB3.out;clear HS3 HB3;go_wp2_with fail;refine zad (S:=fun _=>True) 10 (by kernel_rfl) (by kernel_rfl) trivial (fun hHeld=> ?_);have HT3':Hid (w3.drew.heap[xb]? =some (Obj.cells #[Value.string ⟨a1.toArray⟩,Value.int .i64 a2,Value.string ⟨#[]⟩,Value.int .i64 0] 139 (0,0))):=HT3;have HA3':=zaa HA3.out.drew;clear HT3 HA3;have HT3:=HT3';have HA3:=HA3';clear HT3' HA3';have hzd3:w3.drew.heap.size=w3.heap.size:=rfl;generalize w3.drew=U3 at *
  (try rw[←hzd3] at hxV)
  refine tq 0 17 rfl hHeld ?_;refine tq 1 18 rfl hHeld ?_;refine tq 2 19 rfl hHeld ?_;refine tq 4 21 rfl hHeld ?_;refine tq 5 22 rfl hHeld ?_;refine tq 6 23 rfl hHeld ?_
  (try simp only[pu])
  refine trZ [3] (zau.cons rfl (fun K hK=> ?_) zau.nil);go_simp;refine(zaU pb j3 ts _ (zaa (H.out.cur.to HA3.out)) hts' hj3).mono ?_;rintro e w4 hE4;rcases hE4.split with⟨a4,j4,hr,hj4,hA,rfl⟩|⟨n,jn,hr,hjn,hA,rfl⟩
  rotate_left
  ·have HX:=zaa (zao.mk_bad (B:=B) (res:=((zbq >>= fun x=>pure {c with versions:=c.versions++[x]}) (ts.drop j))) (zab (HR3.out.trans (zab hr))) hjn (HA3.out.trans hA).kp (H.out.cur.to (HA3.out.trans hA)))
   clear hA hr hE4;go_wp2_with fail;exact⟨rfl,HX.out⟩
  have HB4:=zaa (HA3.out.trans hA);have HR4:=zaa (HR3.out.trans (zac hr));clear HR3;have HS4:=zaa ((hA.kept.block _ (zal HT3.out) (by omega)).trans HT3.out);clear hA hr hE4 HA3 HT3;have HT4:=zaa HS4.out;have HA4:=zaa HB4.out;clear HS4 HB4;go_wp2_with fail;refine hK.out _ _ trivial (fun _=> ?_);clear hK K;refine tq 8 25 rfl hHeld ?_
  (try simp only[pu])
  refine trZ [7] (zau.cons rfl (fun K hK=> ?_) zau.nil);go_simp;refine(zcx pb j4 ts _ (zaa (H.out.cur.to HA4.out)) hts' hj4 hg).mono ?_;rintro e w5 hE5;rcases hE5.split with⟨a5,j5,hr,hj5,hA,rfl⟩|⟨n,jn,hr,hjn,hA,rfl⟩
  rotate_left
  ·have HX:=zaa (zao.mk_bad (B:=B) (res:=((zbq >>= fun x=>pure {c with versions:=c.versions++[x]}) (ts.drop j))) (zab (HR4.out.trans (zab hr))) hjn (HA4.out.trans hA).kp (H.out.cur.to (HA4.out.trans hA)))
   clear hA hr hE5;go_wp2_with fail;exact⟨rfl,HX.out⟩
  have HB5:=zaa (HA4.out.trans hA);have HR5:=zaa (HR4.out.trans (zac hr));clear HR4;have HS5:=zaa ((hA.kept.block _ (zal HT4.out) (by omega)).trans HT4.out);clear hA hr hE5 HA4 HT4;have HT5:=zaa HS5.out;have HA5:=zaa HB5.out;clear HS5 HB5;go_wp2_with fail;refine hK.out _ _ trivial (fun _=> ?_);clear hK K
  (try simp only[pu])
  obtain⟨c0,c1,c2,c3,f0,f1,f2,f3⟩:=zfk HT5.out rfl;have hl:=(zal HT5.out);refine trZ [9] (zau.cons rfl (fun K hK=> ?_) zau.nil);go_simp;refine hK.out _ _ trivial (fun _=> ?_);clear hK K
  (try simp only[pu])
  refine zae (by kernel_rfl) ?_;simp only[List.drop_succ_cons,List.drop_zero];have HS5:=HT5;have HB5:=HA5;clear HT5 HA5;have HT5:Hid (((w5.setCell ⟨xb,2,none⟩ (Value.string ⟨a4.toArray⟩)).setCell ⟨xb,3,none⟩ (Value.int .i64 a5)).heap[xb]? =some (Obj.cells #[Value.string ⟨a1.toArray⟩,Value.int .i64 a2,Value.string ⟨a4.toArray⟩,Value.int .i64 a5] 139 (0,0))):=zaa (heap_setCell_same _ xb 3 _ _ _ (heap_setCell_same _ xb 2 _ _ _ HS5.out));have HA5:=zaa (AtJ.fresh (AtJ.fresh HB5.out hpb (p:=⟨xb,2,none⟩) (by show xb≠pb;omega) hgx (Value.string ⟨a4.toArray⟩)) hpb (p:=⟨xb,3,none⟩) (by show xb≠pb;omega) hgx (Value.int .i64 a5));go_wp2_with fail;clear hl c0 f0 c1 f1 c2 f2 c3 f3;have hzz5:((w5.setCell ⟨xb,2,none⟩ (Value.string ⟨a4.toArray⟩)).setCell ⟨xb,3,none⟩ (Value.int .i64 a5)).heap.size=w5.heap.size:=by simp[World.setCell]
  clear HS5 HB5;generalize((w5.setCell ⟨xb,2,none⟩ (Value.string ⟨a4.toArray⟩)).setCell ⟨xb,3,none⟩ (Value.int .i64 a5))=V5 at *;refine(zat pb j5 _ ts ⟨#[59]⟩ _ (zaa (H.out.cur.to HA5.out)) hts' hj5 (by decide) (by first|rfl|exact hzz5.symm|simp[go_sem])).mono ?_;rintro e w6 hE6;rcases hE6.split with⟨a6,j6,hr,hj6,hA,rfl⟩|⟨n,jn,hr,hjn,hA,rfl⟩
  rotate_left
  ·have HX:=zaa (zao.mk_bad (B:=B) (res:=((zbq >>= fun x=>pure {c with versions:=c.versions++[x]}) (ts.drop j))) (zab (HR5.out.trans (zab hr))) hjn (HA5.out.trans hA).kp (H.out.cur.to (HA5.out.trans hA)))
   clear hA hr hE6;go_wp2_with fail;exact⟨rfl,HX.out⟩
  have HB6:=zaa (HA5.out.trans hA);have HR6:=zaa (HR5.out.trans (zac hr));clear HR5;have HS6:=zaa ((hA.kept.block _ (zal HT5.out) (by omega)).trans HT5.out);clear hA hr hE6 HA5 HT5;have HT6:=zaa HS6.out;have HA6:=zaa HB6.out;clear HS6 HB6;go_wp2_with fail;have hvk:=HVS.out.kept HA6.out.kept (fun b hb e=>by have:=H.out.low;omega);have hck: ∀(i:Nat) u,vs[i]? =some u→w6.cell? ⟨pb,2+i,none⟩=some u:=fun i u hu=>(HA6.out.rest (2+i) (by omega)).trans (HCELL.out i u hu)
  have hv:vs[7]? =some (vs[7]'(by rw[HVS.out.len];exact(by decide:7<8))):=List.getElem?_eq_getElem _;generalize vs[7]'(by rw[HVS.out.len];exact(by decide:7<8))=v at hv;obtain⟨cs,ho,hc⟩:=hvk.own 7 v ⟨139,4,c.versions.map zgD.cells⟩ hv rfl;dsimp only at ho hc;obtain⟨A,q,rfl⟩:=zah ho;have hcK:w6.cell? ⟨pb,9,none⟩=_:=hck 7 _ hv;have hfK:=(H.out.to HA6.out).free 9 (by decide);have hnl:(c.versions.map zgD.cells).length≤1000000:=by simp;omega
  have hOB: ∀g,(Value.slice A (c.versions.map zgD.cells).length q).ownBlock=some g→B≤g∧g<W.heap.size:=fun g hg=>by
   obtain⟨cs',ho',_⟩:=HVS.out.own 7 _ _ hv rfl;exact zaj ho' hg
  have hBp:=H.out.low;have HVK:=zaa hvk;have HCK:=zaa hck;have HC:=zaa hc;have HO:=zaa ho;have HOB:=zaa hOB;have HV:=zaa hv;clear hvk hck hc ho hOB hv;generalize hnn:(c.versions.map zgD.cells).length=m at *;have HNN:=zaa hnn;clear hnn;obtain⟨c0,c1,c2,c3,f0,f1,f2,f3⟩:=zfk HT6.out rfl;have hl:=(zal HT6.out);have hpV:pb<w6.heap.size:=Nat.lt_of_lt_of_le hpb HA6.out.kept.size;have HBel:=zaa ((Below.refl w6.heap.size w6).drew);refine zad (S:=fun w'=>w'.heap[pb]? =w6.heap[pb]? ∧w'.heap[xb]? =w6.heap[xb]?) 9 (by kernel_rfl) (by kernel_rfl) ⟨rfl,rfl⟩ (fun hHeld=> ?_);generalize w6.drew=V0 at *;refine tq 0 32 rfl hHeld ?_;refine tq 1 33 rfl hHeld ?_;refine tq 2 34 rfl hHeld ?_;refine tq 3 35 rfl hHeld ?_;refine tq 4 36 rfl hHeld ?_
  (try simp only[pu])
  refine tyZ (v:= ?_) 5 37 rfl hHeld (fun v hS=> ?_) ?_;rotate_left
  ·have e0:=(World.cell?_of_block (a:=⟨pb,9,none⟩) hS.1).trans hcK
   go_simp
   with_reducible rfl
  (try simp only[pu])
  refine tyZ (v:= ?_) 6 38 rfl hHeld (fun v hS=> ?_) ?_;rotate_left
  ·have e0:=(World.cell?_of_block (a:=⟨xb,0,none⟩) hS.2).trans c0
   have e1:=(World.cell?_of_block (a:=⟨xb,1,none⟩) hS.2).trans c1;have e2:=(World.cell?_of_block (a:=⟨xb,2,none⟩) hS.2).trans c2;have e3:=(World.cell?_of_block (a:=⟨xb,3,none⟩) hS.2).trans c3;go_simp
   with_reducible rfl
  (try simp only[pu])
  refine trZ [7] (zau.cons rfl (fun K hK=> ?_) zau.nil);go_simp;have hpV0:pb<V0.heap.size:=Nat.lt_of_lt_of_le hpV HBel.out.size;have hxV0:xb<V0.heap.size:=Nat.lt_of_lt_of_le hl HBel.out.size;refine hK.out _ _ ⟨(Below.heap_alloc V0 _ pb hpV0).trans hHeld.1,(Below.heap_alloc V0 _ xb hxV0).trans hHeld.2⟩ (fun hHeld1=> ?_);clear hK K hHeld;have hHeld:=hHeld1;clear hHeld1;have XN:=zaa (heap_alloc_new V0 (Obj.cells #[Value.string ⟨a1.toArray⟩,Value.int .i64 a2,Value.string ⟨a4.toArray⟩,Value.int .i64 a5] 139));have HB1:=zaa (HBel.out.alloc HBel.out.size (Obj.cells #[Value.string ⟨a1.toArray⟩,Value.int .i64 a2,Value.string ⟨a4.toArray⟩,Value.int .i64 a5] 139));have hzV:w6.heap.size≤V0.heap.size:=HBel.out.size;clear HBel;have hz1':V0.heap.size<(V0.alloc (Obj.cells #[Value.string ⟨a1.toArray⟩,Value.int .i64 a2,Value.string ⟨a4.toArray⟩,Value.int .i64 a5] 139)).heap.size:=by simp
  generalize V0.heap.size=nb at *;generalize V0.alloc (Obj.cells #[Value.string ⟨a1.toArray⟩,Value.int .i64 a2,Value.string ⟨a4.toArray⟩,Value.int .i64 a5] 139)=V1 at *;clear V0
  (try simp only[pu])
  refine trZ [8] (zau.cons rfl (fun K hK=> ?_) zau.nil);have hO1:=zai (w':=V1) HO.out (fun g hg _=>HB1.out.block g (zaj HO.out hg).2);have HO1:=zaa hO1;clear hO1;have hBV:B≤V1.heap.size:=by have:=H.out.big;have:=HA6.out.kept.size;have:=HB1.out.size;omega
  refine zaw _ rfl (.tmp 37) (.tmp 39) 30 rfl B 139 i0 _ 4 48 underlying30 hi0 hz0 hz1 hz2 rfl (by decide) (.slice A m q) m cs rfl HO1.out _ (some ⟨nb,0,none⟩) 1 1 [Value.string ⟨a1.toArray⟩,Value.int .i64 a2,Value.string ⟨a4.toArray⟩,Value.int .i64 a5] rfl (zbk XN.out rfl) (by simp[Value.oneCell']) (by unfold maxLen;omega) (by omega) hBV ?_;intro v5 wz hown5 hg5 hat5;obtain⟨Az,qz,rfl⟩:=zah hown5;have hp5:=hg5.block pb (by omega) (fun e=>by have:=(HOB.out pb e.symm).1;omega);have hx5:=hg5.block xb (by omega) (fun e=>by have:=(HOB.out xb e.symm).2;omega);refine hK.out _ _ ⟨hp5.trans hHeld.1,hx5.trans hHeld.2⟩ (fun hHeld1=> ?_);clear hK K;have q0:=(World.cell?_of_block (a:=⟨pb,9,none⟩) hHeld1.1).trans hcK;have q1:=(World.frozen?_of_block (a:=⟨pb,9,none⟩) hHeld1.1).trans hfK;have hFIN:=(H.out.to HA6.out).push (c':={c with versions:=c.versions++[⟨a1,a2,a4,a5⟩]}) HVK.out HCK.out HV.out rfl HC.out (f:=zgD.cells (⟨a1,a2,a4,a5⟩)) rfl HB1.out (news:=[Value.string ⟨a1.toArray⟩,Value.int .i64 a2,Value.string ⟨a4.toArray⟩,Value.int .i64 a5]) ?_ (by rw[HNN.out];exact hown5) hg5 hat5 (by simp[zaM]);rotate_left
  ·exact zbt _
  have HFIN:=zaa hFIN;have HEND:=zaa ((zac (HR6.out.trans rfl)).trans rfl:((zbq >>= fun x=>pure {c with versions:=c.versions++[x]}) (ts.drop j))= .ok {c with versions:=c.versions++[⟨a1,a2,a4,a5⟩]} (ts.drop j6));clear hFIN hp5 hx5 hown5 hg5 hat5 hHeld hHeld1 XN HO1 HR6;clear hl c0 f0 c1 f1 c2 f2 c3 f3;refine zae (by kernel_rfl) ?_;simp only[List.drop_succ_cons,List.drop_zero];go_wp2_with fail
  go_end0
  exact zao.mk_ok HEND.out hj6 (HA6.out.kp.trans HFIN.out.2) HFIN.out.1
theorem zfg:(prog.info? 133).map (fun i=>(i.zero,i.size,i.bytes))=some (some (.agg #[Value.string ⟨#[]⟩,Value.string ⟨#[]⟩,Value.string ⟨#[]⟩,Value.slice none 0 0]),4,72):=by kernel_rfl
theorem zif (pb j B:Nat) (ts:List Tok) (c:zaK) (W:World) (H:Hid (PSt pb ts j c B W)) (hts:ts.length≤1000000) (hj:j≤ts.length) (_hg:Hid (zhA ts)) (_hE:Hid (zci W)) (_hpE:3≤pb) (hfew:c.channels.length≤ts.length):
 Calls prog 58 #[.pointer (some ⟨pb,0,none⟩)] W fun e W'=>zao pb ts W B ((zdW >>= fun x=>pure {c with channels:=c.channels++[x]}) (ts.drop j)) e W':=by
 have hpb:=H.out.cur.lt;have hts':ts.length≤1099511627776:=by omega
 obtain⟨i0,hi0,hz0,hz1,hz2⟩:=info_parts zfg;obtain⟨vs,hvs,hcell⟩:=H.out.at_;have HVS:=zaa hvs;have HCELL:=zaa hcell;clear hvs hcell;have HA0:=zaa (AtJ.start H.out.cur.now H.out.cur.free)
 go_enter func58,ntmps58
 go_wp2_with fail;refine(zh9 pb j ts _ (zaa (H.out.cur.to HA0.out)) hts' hj).mono ?_;rintro e w1 hE1;rcases hE1.split with⟨a1,j1,hr,hj1,hA,rfl⟩|⟨n,jn,hr,hjn,hA,rfl⟩
 rotate_left
 ·have HX:=zaa (zao.mk_bad (B:=B) (res:=((zdW >>= fun x=>pure {c with channels:=c.channels++[x]}) (ts.drop j))) (zab ((rfl:zdW (ts.drop j)=zdW (ts.drop j)).trans (zab hr))) hjn (HA0.out.trans hA).kp (H.out.cur.to (HA0.out.trans hA)))
  clear hA hr hE1;go_wp2_with fail;exact⟨rfl,HX.out⟩
 have HB1:=zaa (HA0.out.trans hA);have HR1:=zaa ((rfl:zdW (ts.drop j)=zdW (ts.drop j)).trans (zac hr));clear hA hr hE1 HA0;have HT1:Hid ((w1.alloc (Obj.cells #[Value.string ⟨a1.m.toArray⟩,Value.string ⟨a1.p.toArray⟩,Value.string ⟨a1.o.toArray⟩,Value.slice none 0 0] 133)).heap[w1.heap.size]? =some (Obj.cells #[Value.string ⟨a1.m.toArray⟩,Value.string ⟨a1.p.toArray⟩,Value.string ⟨a1.o.toArray⟩,Value.slice none 0 0] 133 (0,0))):=zaa (heap_alloc_new w1 _);have HA1:=zaa (HB1.out.below hpb ((Below.refl w1.heap.size w1).alloc (Nat.le_refl _) (Obj.cells #[Value.string ⟨a1.m.toArray⟩,Value.string ⟨a1.p.toArray⟩,Value.string ⟨a1.o.toArray⟩,Value.slice none 0 0] 133)));have hgx:W.heap.size≤w1.heap.size:=HB1.out.kept.size;clear HB1;go_wp2_with fail;have hzz1:(w1.alloc (Obj.cells #[Value.string ⟨a1.m.toArray⟩,Value.string ⟨a1.p.toArray⟩,Value.string ⟨a1.o.toArray⟩,Value.slice none 0 0] 133)).heap.size=w1.heap.size+1:=by simp
 generalize w1.heap.size=xb at *;generalize w1.alloc (Obj.cells #[Value.string ⟨a1.m.toArray⟩,Value.string ⟨a1.p.toArray⟩,Value.string ⟨a1.o.toArray⟩,Value.slice none 0 0] 133)=V1 at *;refine(zat pb j1 _ ts ⟨#[116,111]⟩ _ (zaa (H.out.cur.to HA1.out)) hts' hj1 (by decide) (by first|rfl|exact hzz1.symm|simp[go_sem])).mono ?_;rintro e w2 hE2;rcases hE2.split with⟨a2,j2,hr,hj2,hA,rfl⟩|⟨n,jn,hr,hjn,hA,rfl⟩
 rotate_left
 ·have HX:=zaa (zao.mk_bad (B:=B) (res:=((zdW >>= fun x=>pure {c with channels:=c.channels++[x]}) (ts.drop j))) (zab (HR1.out.trans (zab hr))) hjn (HA1.out.trans hA).kp (H.out.cur.to (HA1.out.trans hA)))
  clear hA hr hE2;go_wp2_with fail;exact⟨rfl,HX.out⟩
 have HB2:=zaa (HA1.out.trans hA);have HR2:=zaa (HR1.out.trans (zac hr));clear HR1;have HS2:=zaa ((hA.kept.block _ (zal HT1.out) (by omega)).trans HT1.out);clear hA hr hE2 HA1 HT1;have HT2:=zaa HS2.out;have HA2:=zaa HB2.out;clear HS2 HB2;go_wp2_with fail;have hxV:xb<w2.heap.size:=(zal HT2.out);refine zad (S:=fun _=>True) 7 (by kernel_rfl) (by kernel_rfl) trivial (fun hHeld=> ?_);have HT2':Hid (w2.drew.heap[xb]? =some (Obj.cells #[Value.string ⟨a1.m.toArray⟩,Value.string ⟨a1.p.toArray⟩,Value.string ⟨a1.o.toArray⟩,Value.slice none 0 0] 133 (0,0))):=HT2;have HA2':=zaa HA2.out.drew;clear HT2 HA2;have HT2:=HT2';have HA2:=HA2';clear HT2' HA2';have hzd2:w2.drew.heap.size=w2.heap.size:=rfl;generalize w2.drew=U2 at *
 (try rw[←hzd2] at hxV)
 refine tq 0 13 rfl hHeld ?_;refine tq 1 14 rfl hHeld ?_;refine tq 2 15 rfl hHeld ?_;refine tq 3 16 rfl hHeld ?_;refine tq 4 17 rfl hHeld ?_;refine tq 5 18 rfl hHeld ?_;refine tq 6 19 rfl hHeld ?_
 (try simp only[pu])
 refine zae (by kernel_rfl) ?_;simp only[List.drop_succ_cons,List.drop_zero];go_wp2_with fail;refine(zfU pb j2 ts _ (zaa (H.out.cur.to HA2.out)) hts' hj2).mono ?_;rintro e w3 hE3;rcases hE3.split with⟨a3,j3,v3,hr,hj3,hA,hO,rfl⟩|⟨n,jn,hr,hjn,hA,rfl⟩
 rotate_left
 ·have HX:=zaa (zao.mk_bad (B:=B) (res:=((zdW >>= fun x=>pure {c with channels:=c.channels++[x]}) (ts.drop j))) (zab (HR2.out.trans (zab hr))) hjn (HA2.out.trans hA).kp (H.out.cur.to (HA2.out.trans hA)))
  clear hA hr hE3;go_wp2_with fail;exact⟨rfl,HX.out⟩
 have HB3:=zaa (HA2.out.trans hA);have HR3:=zaa (HR2.out.trans (zac hr));clear HR2;have HO3:=zaa hO;have hq3:U2.heap.size≤w3.heap.size:=hA.kept.size;clear hO;have HS3:=zaa ((hA.kept.block _ (zal HT2.out) (by omega)).trans HT2.out);clear hA hr hE3 HA2 HT2;obtain⟨A3,q3,rfl⟩:=zah HO3.out;have HD3:=zaa ((zcY (cells:=(fun r:zeJ=>[Value.string ⟨r.m.toArray⟩,Value.string ⟨r.p.toArray⟩,Value.string ⟨r.o.toArray⟩])) (fun _=>rfl) HO3.out).mono (H:=fun b=>xb<b) (fun b hb _=>Nat.lt_of_lt_of_le hxV hb));clear HO3;obtain⟨c0,c1,c2,c3,f0,f1,f2,f3⟩:=zfk HS3.out rfl;have hl:=(zal HS3.out);have HT3:Hid ((w3.setCell ⟨xb,3,none⟩ (Value.slice A3 a3.length q3)).heap[xb]? =some (Obj.cells #[Value.string ⟨a1.m.toArray⟩,Value.string ⟨a1.p.toArray⟩,Value.string ⟨a1.o.toArray⟩,Value.slice A3 a3.length q3] 133 (0,0))):=zaa (heap_setCell_same _ xb 3 _ _ _ HS3.out);have HA3:=zaa (AtJ.fresh HB3.out hpb (p:=⟨xb,3,none⟩) (by show xb≠pb;omega) hgx (Value.slice A3 a3.length q3));have HD3':Hid (DAt (w3.setCell ⟨xb,3,none⟩ (Value.slice A3 a3.length q3)) (fun b=>xb<b) (.slice A3 a3.length q3) _):=zaa (DAt.keep HD3.out (by simp[World.setCell]) (fun b hb _=>Below.heap_setCell _ _ _ _ (by show b≠xb;omega)));clear HD3;have HD3:=HD3';clear HD3';go_wp2_with fail;clear hl c0 f0 c1 f1 c2 f2 c3 f3;have hzz3:(w3.setCell ⟨xb,3,none⟩ (Value.slice A3 a3.length q3)).heap.size=w3.heap.size:=by simp[World.setCell]
 clear HS3 HB3;generalize(w3.setCell ⟨xb,3,none⟩ (Value.slice A3 a3.length q3))=V3 at *;refine(zat pb j3 _ ts ⟨#[59]⟩ _ (zaa (H.out.cur.to HA3.out)) hts' hj3 (by decide) (by first|rfl|exact hzz3.symm|simp[go_sem])).mono ?_;rintro e w4 hE4;rcases hE4.split with⟨a4,j4,hr,hj4,hA,rfl⟩|⟨n,jn,hr,hjn,hA,rfl⟩
 rotate_left
 ·have HX:=zaa (zao.mk_bad (B:=B) (res:=((zdW >>= fun x=>pure {c with channels:=c.channels++[x]}) (ts.drop j))) (zab (HR3.out.trans (zab hr))) hjn (HA3.out.trans hA).kp (H.out.cur.to (HA3.out.trans hA)))
  clear hA hr hE4;go_wp2_with fail;exact⟨rfl,HX.out⟩
 have HB4:=zaa (HA3.out.trans hA);have HR4:=zaa (HR3.out.trans (zac hr));clear HR3;have HD3':=zaa (HD3.out.keep hA.kept.size (fun b hb _=>hA.kept.block b ‹_› (by omega)));clear HD3;have HD3:=HD3';clear HD3';have HS4:=zaa ((hA.kept.block _ (zal HT3.out) (by omega)).trans HT3.out);clear hA hr hE4 HA3 HT3;have HT4:=zaa HS4.out;have HA4:=zaa HB4.out;clear HS4 HB4;go_wp2_with fail;have hvk:=HVS.out.kept HA4.out.kept (fun b hb e=>by have:=H.out.low;omega);have hck: ∀(i:Nat) u,vs[i]? =some u→w4.cell? ⟨pb,2+i,none⟩=some u:=fun i u hu=>(HA4.out.rest (2+i) (by omega)).trans (HCELL.out i u hu)
 have hv:vs[1]? =some (vs[1]'(by rw[HVS.out.len];exact(by decide:1<8))):=List.getElem?_eq_getElem _;generalize vs[1]'(by rw[HVS.out.len];exact(by decide:1<8))=v at hv;obtain⟨cs,ho,hc⟩:=hvk.own 1 v ⟨133,4,c.channels.map zcU.cells⟩ hv rfl;dsimp only at ho hc;obtain⟨A,q,rfl⟩:=zah ho;have hcK:w4.cell? ⟨pb,3,none⟩=_:=hck 1 _ hv;have hfK:=(H.out.to HA4.out).free 3 (by decide);have hnl:(c.channels.map zcU.cells).length≤1000000:=by simp;omega
 have hOB: ∀g,(Value.slice A (c.channels.map zcU.cells).length q).ownBlock=some g→B≤g∧g<W.heap.size:=fun g hg=>by
  obtain⟨cs',ho',_⟩:=HVS.out.own 1 _ _ hv rfl;exact zaj ho' hg
 have hBp:=H.out.low;have HVK:=zaa hvk;have HCK:=zaa hck;have HC:=zaa hc;have HO:=zaa ho;have HOB:=zaa hOB;have HV:=zaa hv;clear hvk hck hc ho hOB hv;generalize hnn:(c.channels.map zcU.cells).length=m at *;have HNN:=zaa hnn;clear hnn;obtain⟨c0,c1,c2,c3,f0,f1,f2,f3⟩:=zfk HT4.out rfl;have hl:=(zal HT4.out);have hpV:pb<w4.heap.size:=Nat.lt_of_lt_of_le hpb HA4.out.kept.size;have HBel:=zaa ((Below.refl w4.heap.size w4).drew);refine zad (S:=fun w'=>w'.heap[pb]? =w4.heap[pb]? ∧w'.heap[xb]? =w4.heap[xb]?) 9 (by kernel_rfl) (by kernel_rfl) ⟨rfl,rfl⟩ (fun hHeld=> ?_);generalize w4.drew=V0 at *;refine tq 0 27 rfl hHeld ?_;refine tq 1 28 rfl hHeld ?_;refine tq 2 29 rfl hHeld ?_;refine tq 3 30 rfl hHeld ?_;refine tq 4 31 rfl hHeld ?_
 (try simp only[pu])
 refine tyZ (v:= ?_) 5 32 rfl hHeld (fun v hS=> ?_) ?_;rotate_left
 ·have e0:=(World.cell?_of_block (a:=⟨pb,3,none⟩) hS.1).trans hcK
  go_simp
  with_reducible rfl
 (try simp only[pu])
 refine tyZ (v:= ?_) 6 33 rfl hHeld (fun v hS=> ?_) ?_;rotate_left
 ·have e0:=(World.cell?_of_block (a:=⟨xb,0,none⟩) hS.2).trans c0
  have e1:=(World.cell?_of_block (a:=⟨xb,1,none⟩) hS.2).trans c1;have e2:=(World.cell?_of_block (a:=⟨xb,2,none⟩) hS.2).trans c2;have e3:=(World.cell?_of_block (a:=⟨xb,3,none⟩) hS.2).trans c3;go_simp
  with_reducible rfl
 (try simp only[pu])
 refine trZ [7] (zau.cons rfl (fun K hK=> ?_) zau.nil);go_simp;have hpV0:pb<V0.heap.size:=Nat.lt_of_lt_of_le hpV HBel.out.size;have hxV0:xb<V0.heap.size:=Nat.lt_of_lt_of_le hl HBel.out.size;refine hK.out _ _ ⟨(Below.heap_alloc V0 _ pb hpV0).trans hHeld.1,(Below.heap_alloc V0 _ xb hxV0).trans hHeld.2⟩ (fun hHeld1=> ?_);clear hK K hHeld;have hHeld:=hHeld1;clear hHeld1;have XN:=zaa (heap_alloc_new V0 (Obj.cells #[Value.string ⟨a1.m.toArray⟩,Value.string ⟨a1.p.toArray⟩,Value.string ⟨a1.o.toArray⟩,Value.slice A3 a3.length q3] 133));have HB1:=zaa (HBel.out.alloc HBel.out.size (Obj.cells #[Value.string ⟨a1.m.toArray⟩,Value.string ⟨a1.p.toArray⟩,Value.string ⟨a1.o.toArray⟩,Value.slice A3 a3.length q3] 133));have hzV:w4.heap.size≤V0.heap.size:=HBel.out.size;clear HBel;have hz1':V0.heap.size<(V0.alloc (Obj.cells #[Value.string ⟨a1.m.toArray⟩,Value.string ⟨a1.p.toArray⟩,Value.string ⟨a1.o.toArray⟩,Value.slice A3 a3.length q3] 133)).heap.size:=by simp
 generalize V0.heap.size=nb at *;generalize V0.alloc (Obj.cells #[Value.string ⟨a1.m.toArray⟩,Value.string ⟨a1.p.toArray⟩,Value.string ⟨a1.o.toArray⟩,Value.slice A3 a3.length q3] 133)=V1 at *;clear V0
 (try simp only[pu])
 refine trZ [8] (zau.cons rfl (fun K hK=> ?_) zau.nil);have hO1:=zai (w':=V1) HO.out (fun g hg _=>HB1.out.block g (zaj HO.out hg).2);have HO1:=zaa hO1;clear hO1;have hBV:B≤V1.heap.size:=by have:=H.out.big;have:=HA4.out.kept.size;have:=HB1.out.size;omega
 refine zaw _ rfl (.tmp 32) (.tmp 34) 24 rfl B 133 i0 _ 4 72 underlying24 hi0 hz0 hz1 hz2 rfl (by decide) (.slice A m q) m cs rfl HO1.out _ (some ⟨nb,0,none⟩) 1 1 [Value.string ⟨a1.m.toArray⟩,Value.string ⟨a1.p.toArray⟩,Value.string ⟨a1.o.toArray⟩,Value.slice A3 a3.length q3] rfl (zbk XN.out rfl) (by simp[Value.oneCell']) (by unfold maxLen;omega) (by omega) hBV ?_;intro v5 wz hown5 hg5 hat5;obtain⟨Az,qz,rfl⟩:=zah hown5;have hp5:=hg5.block pb (by omega) (fun e=>by have:=(HOB.out pb e.symm).1;omega);have hx5:=hg5.block xb (by omega) (fun e=>by have:=(HOB.out xb e.symm).2;omega);refine hK.out _ _ ⟨hp5.trans hHeld.1,hx5.trans hHeld.2⟩ (fun hHeld1=> ?_);clear hK K;have q0:=(World.cell?_of_block (a:=⟨pb,3,none⟩) hHeld1.1).trans hcK;have q1:=(World.frozen?_of_block (a:=⟨pb,3,none⟩) hHeld1.1).trans hfK;have hFIN:=(H.out.to HA4.out).push (c':={c with channels:=c.channels++[⟨a1,a3⟩]}) HVK.out HCK.out HV.out rfl HC.out (f:=zcU.cells (⟨a1,a3⟩)) rfl HB1.out (news:=[Value.string ⟨a1.m.toArray⟩,Value.string ⟨a1.p.toArray⟩,Value.string ⟨a1.o.toArray⟩,Value.slice A3 a3.length q3]) ?_ (by rw[HNN.out];exact hown5) hg5 hat5 (by simp[zaM]);rotate_left
 ·have hFR: ∀b,W.heap.size≤b→zb5 B vs b:=fun b hb=>⟨by have:=H.out.big;omega,fun u hu e=>by
   obtain⟨i,hi⟩:=List.getElem?_of_mem hu;have hi2:i<(zaM c).length:=by rw[←HVS.out.len];exact(List.getElem?_eq_some_iff.1 hi).1
   obtain⟨cs',ho',_⟩:=HVS.out.own i u _ hi (List.getElem?_eq_getElem hi2);have:=(zaj ho' e).2
   omega⟩
  exact zaf.cons (.leaf _) (zaf.cons (.leaf _) (zaf.cons (.leaf _) (zaf.cons ((HD3.out.later HB1.out).mono (fun b hb _=>hFR b (by omega))) (zaf.nil))))
 have HFIN:=zaa hFIN;have HEND:=zaa ((zac (HR4.out.trans rfl)).trans rfl:((zdW >>= fun x=>pure {c with channels:=c.channels++[x]}) (ts.drop j))= .ok {c with channels:=c.channels++[⟨a1,a3⟩]} (ts.drop j4));clear hFIN hp5 hx5 hown5 hg5 hat5 hHeld hHeld1 XN HO1 HR4;clear hl c0 f0 c1 f1 c2 f2 c3 f3;refine zae (by kernel_rfl) ?_;simp only[List.drop_succ_cons,List.drop_zero];go_wp2_with fail
 go_end0
 exact zao.mk_ok HEND.out hj4 (HA4.out.kp.trans HFIN.out.2) HFIN.out.1
end Go.Proofs.YtlngbjphagnloaaGreatDoor
