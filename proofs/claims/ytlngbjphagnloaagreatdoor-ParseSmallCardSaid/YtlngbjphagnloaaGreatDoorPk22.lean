/- Merged texts of the walks and of the plain laws on which the statement leans.-/
import Derived.Test.YtlngbjphagnloaaGreatDoorPk1
import Derived.Test.YtlngbjphagnloaaGreatDoorPk21
import Derived.Test.YtlngbjphagnloaaGreatDoorPk13
import Derived.Deep.DeepCutAuto
set_option maxHeartbeats 4000000
set_option maxRecDepth 100000
namespace Go.Proofs.YtlngbjphagnloaaGreatDoor
open Tryz
open Go.RowKit
attribute [local go_sem] zax.cell
attribute [local go_sem] zbY zcD
theorem zjU:(prog.info? 51).map (fun i=>(i.zero,i.size,i.bytes))=some (some (.agg #[Value.string ⟨#[]⟩,Value.int .i64 0,Value.int .i64 0,Value.int .i64 0,Value.slice none 0 0,Value.int .i64 0,Value.int .i64 0,Value.slice none 0 0,Value.slice none 0 0,Value.slice none 0 0]),10,152):=by kernel_rfl
theorem zno {α:Type} {l:List α} (h:l.length=4): ∃a b c d,l=[a,b,c,d]:=by
 rcases l with _|⟨a,_|⟨b,_|⟨c,_|⟨d,_|⟨e,l⟩⟩⟩⟩⟩
 all_goals simp at h
 exact⟨a,b,c,d,rfl⟩
def zhs (a1:List UInt8) (a2 a3:Int) (f:Nat) (acc:List zas):Ps zdZ:=(fun r=>zaS f acc r) >>= fun parts=>zbd [125] >>= fun _=>pure ⟨a1,a2,a3,parts⟩
theorem zk8 {a1:List UInt8} {a2 a3:Int} {f:Nat} {acc:List zas} {r:List Tok} (h:zaA [112,97,114,116] r=false):zhs a1 a2 a3 (f+1) acc r=(zbd [125] >>= fun _=>(pure ⟨a1,a2,a3,acc⟩:Ps zdZ)) r:=by
 have e:zaS (f+1) acc r= .ok acc r:=zac (zbX false h);exact zac (m:=fun r=>zaS (f+1) acc r) e
theorem zmV {a1:List UInt8} {a2 a3:Int} {f:Nat} {acc:List zas} {p:zas} {r r1 r2:List Tok} (h:zaA [112,97,114,116] r=true) (h1:r1=r.tail) (hp:zdX r1= .ok p r2):zhs a1 a2 a3 (f+1) acc r=zhs a1 a2 a3 f (acc++[p]) r2:=by
 subst h1;have e:zaS (f+1) acc r=zaS f (acc++[p]) r2:=(zac (zbX true h)).trans (zac hp);have h1:zhs a1 a2 a3 f (acc++[p]) r2=((fun r=>zaS f (acc++[p]) r) >>= fun parts=>zbd [125] >>= fun _=>(pure ⟨a1,a2,a3,parts⟩:Ps zdZ)) r2:=rfl;have h2:zhs a1 a2 a3 (f+1) acc r=((fun r=>zaS (f+1) acc r) >>= fun parts=>zbd [125] >>= fun _=>(pure ⟨a1,a2,a3,parts⟩:Ps zdZ)) r:=rfl
 cases hx:zaS f (acc++[p]) r2 with
 |ok a r3=>rw[h1,h2,zac (m:=fun r=>zaS (f+1) acc r) (e.trans hx),zac (m:=fun r=>zaS f (acc++[p]) r) hx]
 |bad n r3=>rw[h1,h2,zab (m:=fun r=>zaS (f+1) acc r) (e.trans hx),zab (m:=fun r=>zaS f (acc++[p]) r) hx]
theorem zk2 {a1:List UInt8} {a2 a3:Int} {f n:Nat} {acc:List zas} {r r1 r2:List Tok} (h:zaA [112,97,114,116] r=true) (h1:r1=r.tail) (hp:zdX r1= .bad n r2):zhs a1 a2 a3 (f+1) acc r= .bad n r2:=by
 subst h1;have e:zaS (f+1) acc r= .bad n r2:=(zac (zbX true h)).trans (zab hp);exact zab (m:=fun r=>zaS (f+1) acc r) e
theorem zfD:(prog.info? 46).map (fun i=>(i.zero,i.size,i.bytes))=some (some (.agg #[Value.string ⟨#[]⟩,Value.int .i64 0,Value.int .i64 0,Value.slice none 0 0]),4,56):=by kernel_rfl
theorem zkg (pb j B:Nat) (ts:List Tok) (c:zaK) (W:World) (H:Hid (PSt pb ts j c B W)) (hts:ts.length≤1000000) (hj:j≤ts.length) (hT:Hid (zbS ts)) (hE:Hid (zci W)) (hpE:3≤pb) (hfew:c.modules.length≤ts.length):
 Calls prog 57 #[.pointer (some ⟨pb,0,none⟩)] W fun e W'=>zao pb ts W B ((zf9 >>= fun x=>pure {c with modules:=c.modules++[x]}) (ts.drop j)) e W':=by
 have hpb:=H.out.cur.lt;have hts':ts.length≤1099511627776:=by omega
 obtain⟨i0,hi0,hz0,hz1,hz2⟩:=info_parts zfD;obtain⟨vs,hvs,hcell⟩:=H.out.at_;have HVS:=zaa hvs;have HCELL:=zaa hcell;clear hvs hcell;have HA0:=zaa (AtJ.start H.out.cur.now H.out.cur.free)
 go_enter func57,ntmps57
 have hg:=zaa hT.out.good;go_wp2_with fail;refine(zaU pb j ts _ (zaa (H.out.cur.to HA0.out)) hts' hj).mono ?_;rintro e w1 hE1;rcases hE1.split with⟨a1,j1,hr,hj1,hA,rfl⟩|⟨n,jn,hr,hjn,hA,rfl⟩
 rotate_left
 ·have HX:=zaa (zao.mk_bad (B:=B) (res:=((zf9 >>= fun x=>pure {c with modules:=c.modules++[x]}) (ts.drop j))) (zab ((rfl:zf9 (ts.drop j)=zf9 (ts.drop j)).trans (zab hr))) hjn (HA0.out.trans hA).kp (H.out.cur.to (HA0.out.trans hA)))
  clear hA hr hE1;go_wp2_with fail;exact⟨rfl,HX.out⟩
 have HB1:=zaa (HA0.out.trans hA);have HR1:=zaa ((rfl:zf9 (ts.drop j)=zf9 (ts.drop j)).trans (zac hr));clear hA hr hE1 HA0;have HT1:Hid ((w1.alloc (Obj.cells #[Value.string ⟨a1.toArray⟩,Value.int .i64 0,Value.int .i64 0,Value.slice none 0 0] 46)).heap[w1.heap.size]? =some (Obj.cells #[Value.string ⟨a1.toArray⟩,Value.int .i64 0,Value.int .i64 0,Value.slice none 0 0] 46 (0,0))):=zaa (heap_alloc_new w1 _);have HA1:=zaa (HB1.out.below hpb ((Below.refl w1.heap.size w1).alloc (Nat.le_refl _) (Obj.cells #[Value.string ⟨a1.toArray⟩,Value.int .i64 0,Value.int .i64 0,Value.slice none 0 0] 46)));have hgx:W.heap.size≤w1.heap.size:=HB1.out.kept.size;clear HB1;go_wp2_with fail;have hzz1:(w1.alloc (Obj.cells #[Value.string ⟨a1.toArray⟩,Value.int .i64 0,Value.int .i64 0,Value.slice none 0 0] 46)).heap.size=w1.heap.size+1:=by simp
 generalize w1.heap.size=xb at *;generalize w1.alloc (Obj.cells #[Value.string ⟨a1.toArray⟩,Value.int .i64 0,Value.int .i64 0,Value.slice none 0 0] 46)=V1 at *;refine zad (S:=fun _=>True) 9 (by kernel_rfl) (by kernel_rfl) trivial (fun hHeld=> ?_);have HT1':Hid (V1.drew.heap[xb]? =some (Obj.cells #[Value.string ⟨a1.toArray⟩,Value.int .i64 0,Value.int .i64 0,Value.slice none 0 0] 46 (0,0))):=HT1;have HA1':=zaa HA1.out.drew;clear HT1 HA1;have HT1:=HT1';have HA1:=HA1';clear HT1' HA1';have hzd1:V1.drew.heap.size=V1.heap.size:=rfl;generalize V1.drew=U1 at *
 (try rw[←hzd1] at hxV)
 refine tq 0 8 rfl hHeld ?_;refine tq 1 9 rfl hHeld ?_;refine tq 2 10 rfl hHeld ?_;refine tq 4 12 rfl hHeld ?_;refine tq 5 13 rfl hHeld ?_;refine tq 6 14 rfl hHeld ?_
 (try simp only[pu])
 refine trZ [3] (zau.cons rfl (fun K hK=> ?_) zau.nil);go_simp;refine(zaG pb j1 ts ⟨#[109,101,109]⟩ _ (zaa (H.out.cur.to HA1.out)) hts' hj1 hg (by decide)).mono ?_;rintro e w2 hE2;rcases hE2.split with⟨a2,j2,hr,hj2,hA,rfl⟩|⟨n,jn,hr,hjn,hA,rfl⟩
 rotate_left
 ·have HX:=zaa (zao.mk_bad (B:=B) (res:=((zf9 >>= fun x=>pure {c with modules:=c.modules++[x]}) (ts.drop j))) (zab (HR1.out.trans (zab hr))) hjn (HA1.out.trans hA).kp (H.out.cur.to (HA1.out.trans hA)))
  clear hA hr hE2;go_wp2_with fail;exact⟨rfl,HX.out⟩
 have HB2:=zaa (HA1.out.trans hA);have HR2:=zaa (HR1.out.trans (zac hr));clear HR1;have HS2:=zaa ((hA.kept.block _ (zal HT1.out) (by omega)).trans HT1.out);clear hA hr hE2 HA1 HT1;have HT2:=zaa HS2.out;have HA2:=zaa HB2.out;clear HS2 HB2;go_wp2_with fail;refine hK.out _ _ trivial (fun _=> ?_);clear hK K;refine tq 8 16 rfl hHeld ?_
 (try simp only[pu])
 refine trZ [7] (zau.cons rfl (fun K hK=> ?_) zau.nil);go_simp;refine(zaG pb j2 ts ⟨#[102,114,97,109,101]⟩ _ (zaa (H.out.cur.to HA2.out)) hts' hj2 hg (by decide)).mono ?_;rintro e w3 hE3;rcases hE3.split with⟨a3,j3,hr,hj3,hA,rfl⟩|⟨n,jn,hr,hjn,hA,rfl⟩
 rotate_left
 ·have HX:=zaa (zao.mk_bad (B:=B) (res:=((zf9 >>= fun x=>pure {c with modules:=c.modules++[x]}) (ts.drop j))) (zab (HR2.out.trans (zab hr))) hjn (HA2.out.trans hA).kp (H.out.cur.to (HA2.out.trans hA)))
  clear hA hr hE3;go_wp2_with fail;exact⟨rfl,HX.out⟩
 have HB3:=zaa (HA2.out.trans hA);have HR3:=zaa (HR2.out.trans (zac hr));clear HR2;have HS3:=zaa ((hA.kept.block _ (zal HT2.out) (by omega)).trans HT2.out);clear hA hr hE3 HA2 HT2;have HT3:=zaa HS3.out;have HA3:=zaa HB3.out;clear HS3 HB3;go_wp2_with fail;refine hK.out _ _ trivial (fun _=> ?_);clear hK K
 (try simp only[pu])
 obtain⟨c0,c1,c2,c3,f0,f1,f2,f3⟩:=zfk HT3.out rfl;have hl:=(zal HT3.out);refine zae (by kernel_rfl) ?_;simp only[List.drop_succ_cons,List.drop_zero];have HS3:=HT3;have HB3:=HA3;clear HT3 HA3;have HT3:Hid (((w3.setCell ⟨xb,1,none⟩ (Value.int .i64 a2)).setCell ⟨xb,2,none⟩ (Value.int .i64 a3)).heap[xb]? =some (Obj.cells #[Value.string ⟨a1.toArray⟩,Value.int .i64 a2,Value.int .i64 a3,Value.slice none 0 0] 46 (0,0))):=zaa (heap_setCell_same _ xb 2 _ _ _ (heap_setCell_same _ xb 1 _ _ _ HS3.out));have HA3:=zaa (AtJ.fresh (AtJ.fresh HB3.out hpb (p:=⟨xb,1,none⟩) (by show xb≠pb;omega) hgx (Value.int .i64 a2)) hpb (p:=⟨xb,2,none⟩) (by show xb≠pb;omega) hgx (Value.int .i64 a3));go_wp2_with fail;clear hl c0 f0 c1 f1 c2 f2 c3 f3;have hzz3:((w3.setCell ⟨xb,1,none⟩ (Value.int .i64 a2)).setCell ⟨xb,2,none⟩ (Value.int .i64 a3)).heap.size=w3.heap.size:=by simp[World.setCell]
 clear HS3 HB3;generalize((w3.setCell ⟨xb,1,none⟩ (Value.int .i64 a2)).setCell ⟨xb,2,none⟩ (Value.int .i64 a3))=V3 at *;refine(zat pb j3 _ ts ⟨#[123]⟩ _ (zaa (H.out.cur.to HA3.out)) hts' hj3 (by decide) (by first|rfl|exact hzz3.symm|simp[go_sem])).mono ?_;rintro e w4 hE4;rcases hE4.split with⟨a4,j4,hr,hj4,hA,rfl⟩|⟨n,jn,hr,hjn,hA,rfl⟩
 rotate_left
 ·have HX:=zaa (zao.mk_bad (B:=B) (res:=((zf9 >>= fun x=>pure {c with modules:=c.modules++[x]}) (ts.drop j))) (zab (HR3.out.trans (zab hr))) hjn (HA3.out.trans hA).kp (H.out.cur.to (HA3.out.trans hA)))
  clear hA hr hE4;go_wp2_with fail;exact⟨rfl,HX.out⟩
 have HB4:=zaa (HA3.out.trans hA);have HR4:=zaa (HR3.out.trans (zac hr));clear HR3;have HS4:=zaa ((hA.kept.block _ (zal HT3.out) (by omega)).trans HT3.out);clear hA hr hE4 HA3 HT3;have HT4:=zaa HS4.out;have HA4:=zaa HB4.out;clear HS4 HB4;have HR4':Hid (zf9 (ts.drop j)=zhs a1 a2 a3 ((ts.drop j4).length+1) [] (ts.drop j4)):=HR4;clear HR4;obtain⟨im,him0,hmz0,hmz1,hmz2⟩:=info_parts zjU;have hxV:xb<w4.heap.size:=(zal HT4.out);go_wp2_with fail
 go_loopw [] (fun wr=> ∃(acc:List zas) (k f:Nat) (v:Value),k≤ts.length∧ts.length-k<f∧acc.length≤k∧AtJ pb k W wr∧wr.heap[xb]? =some (Obj.cells #[Value.string ⟨a1.toArray⟩,Value.int .i64 a2,Value.int .i64 a3,v] 46 (0,0))∧zfV wr (xb+1) 51 10 v acc.length (acc.map zas.cells)∧zf9 (ts.drop j)=zhs a1 a2 a3 f acc (ts.drop k)) (fun wr=>ts.length-zbL pb wr)
 case atStart=>exact⟨[],j4,_,_,hj4,by simp,by simp,HA4.out,HT4.out,zfV.nil _ _ _ _,HR4'.out⟩
 case round=>
  obtain⟨acc,k,f,v,hk,hf,hal,hA,hT0,hO,hP⟩:=hrel;have HA:=zaa hA;have HT:=zaa hT0;have HO:=zaa hO;have HP:=zaa hP;have hxo:xb<wr.heap.size:=(zal hT0);clear hA hT0 hO hP HA4 HT4 HR4';obtain⟨f,rfl⟩: ∃f',f=f'+1:=⟨f-1,by omega⟩;obtain⟨wo,rfl⟩: ∃wo:World,wo=wr:=⟨_,rfl⟩;have HM:Hid (zbL pb wo=k):=zaa (by unfold zbL;rw[HA.out.here];simp[intOf]);have HTK:=zaa (za6 pb k ts ⟨#[112,97,114,116]⟩ wo (zaa (H.out.cur.to HA.out)) hts' hk (by decide));obtain⟨csv,hov,hcv⟩:=HO.out.own;obtain⟨A,q,rfl⟩:=zah hov;have HOV:=zaa hov;have HCV:=zaa hcv;clear hov hcv
  cases hS:zaA [112,97,114,116] (ts.drop k) with
  |false=>
   have HX0:=zaa (HP.out.trans (zk8 (a1:=a1) (a2:=a2) (a3:=a3) (f:=f) (acc:=acc) hS));have HTS:=zaa (zbX false hS);clear hS;go_wp2_with fail;refine(HTK.out).mono ?_;rintro e w5 hE5;rcases hE5.split with⟨t6,j5,hr,hj5,hA,rfl⟩|⟨n,jn,hr,hjn,hA,rfl⟩
   rotate_left
   ·exact absurd hr (zbh _ _)
   have hr2:=HTS.out.symm.trans hr;injection hr2 with hr2 hd2
   subst hr2;obtain rfl:j5=k:=by
    have:=congrArg List.length hd2;simp only[Bool.false_eq_true,if_false,List.length_drop] at this
    omega
   have HA5:=zaa (HA.out.trans hA);have HT5:=zaa ((hA.kept.block xb hxo (by omega)).trans HT.out);have HD5:Hid (DAt w5 (fun b=>xb<b) (.slice A acc.length q) (.row 10 (acc.map zas.cells))):=zaa ((HO.out.dat.kept hA.kept (fun b hb e=>by omega)).mono (fun b hb _=>by omega));have HR5:=HX0;clear hE5 hr hd2 hA HA HT HO HP HTK HTS HX0 HOV HCV HM;obtain⟨A5,rfl⟩: ∃A5,A5=A:=⟨_,rfl⟩;obtain⟨q5,rfl⟩: ∃q5,q5=q:=⟨_,rfl⟩;obtain⟨a5,rfl⟩: ∃a5,a5=acc:=⟨_,rfl⟩;go_wp2_with fail;refine(zat pb j5 _ ts ⟨#[125]⟩ _ (zaa (H.out.cur.to HA5.out)) hts' hj5 (by decide) (by first|rfl|exact hzz5.symm|simp[go_sem])).mono ?_;rintro e w6 hE6;rcases hE6.split with⟨a6,j6,hr,hj6,hA,rfl⟩|⟨n,jn,hr,hjn,hA,rfl⟩
   rotate_left
   ·have HX:=zaa (zao.mk_bad (B:=B) (res:=((zf9 >>= fun x=>pure {c with modules:=c.modules++[x]}) (ts.drop j))) (zab (HR5.out.trans (zab hr))) hjn (HA5.out.trans hA).kp (H.out.cur.to (HA5.out.trans hA)))
    clear hA hr hE6;go_wp2_with fail;exact⟨rfl,HX.out⟩
   have HB6:=zaa (HA5.out.trans hA);have HR6:=zaa (HR5.out.trans (zac hr));clear HR5;have HD5':=zaa (HD5.out.keep hA.kept.size (fun b hb _=>hA.kept.block b ‹_› (by omega)));clear HD5;have HD5:=HD5';clear HD5';have HS6:=zaa ((hA.kept.block _ (zal HT5.out) (by omega)).trans HT5.out);clear hA hr hE6 HA5 HT5;have HT6:=zaa HS6.out;have HA6:=zaa HB6.out;clear HS6 HB6;go_wp2_with fail;have hvk:=HVS.out.kept HA6.out.kept (fun b hb e=>by have:=H.out.low;omega);have hck: ∀(i:Nat) u,vs[i]? =some u→w6.cell? ⟨pb,2+i,none⟩=some u:=fun i u hu=>(HA6.out.rest (2+i) (by omega)).trans (HCELL.out i u hu)
   have hv:vs[0]? =some (vs[0]'(by rw[HVS.out.len];exact(by decide:0<8))):=List.getElem?_eq_getElem _;generalize vs[0]'(by rw[HVS.out.len];exact(by decide:0<8))=v at hv;obtain⟨cs,ho,hc⟩:=hvk.own 0 v ⟨46,4,c.modules.map zdZ.cells⟩ hv rfl;dsimp only at ho hc;obtain⟨A,q,rfl⟩:=zah ho;have hcK:w6.cell? ⟨pb,2,none⟩=_:=hck 0 _ hv;have hfK:=(H.out.to HA6.out).free 2 (by decide);have hnl:(c.modules.map zdZ.cells).length≤1000000:=by simp;omega
   have hOB: ∀g,(Value.slice A (c.modules.map zdZ.cells).length q).ownBlock=some g→B≤g∧g<W.heap.size:=fun g hg=>by
    obtain⟨cs',ho',_⟩:=HVS.out.own 0 _ _ hv rfl;exact zaj ho' hg
   have hBp:=H.out.low;have HVK:=zaa hvk;have HCK:=zaa hck;have HC:=zaa hc;have HO:=zaa ho;have HOB:=zaa hOB;have HV:=zaa hv;clear hvk hck hc ho hOB hv;generalize hnn:(c.modules.map zdZ.cells).length=m at *;have HNN:=zaa hnn;clear hnn;obtain⟨c0,c1,c2,c3,f0,f1,f2,f3⟩:=zfk HT6.out rfl;have hl:=(zal HT6.out);have hpV:pb<w6.heap.size:=Nat.lt_of_lt_of_le hpb HA6.out.kept.size;have HBel:=zaa ((Below.refl w6.heap.size w6).drew);refine zad (S:=fun w'=>w'.heap[pb]? =w6.heap[pb]? ∧w'.heap[xb]? =w6.heap[xb]?) 9 (by kernel_rfl) (by kernel_rfl) ⟨rfl,rfl⟩ (fun hHeld=> ?_);generalize w6.drew=V0 at *;refine tq 0 39 rfl hHeld ?_;refine tq 1 40 rfl hHeld ?_;refine tq 2 41 rfl hHeld ?_;refine tq 3 42 rfl hHeld ?_;refine tq 4 43 rfl hHeld ?_
   (try simp only[pu])
   refine tyZ (v:= ?_) 5 44 rfl hHeld (fun v hS=> ?_) ?_;rotate_left
   ·have e0:=(World.cell?_of_block (a:=⟨pb,2,none⟩) hS.1).trans hcK
    go_simp
    with_reducible rfl
   (try simp only[pu])
   refine tyZ (v:= ?_) 6 45 rfl hHeld (fun v hS=> ?_) ?_;rotate_left
   ·have e0:=(World.cell?_of_block (a:=⟨xb,0,none⟩) hS.2).trans c0
    have e1:=(World.cell?_of_block (a:=⟨xb,1,none⟩) hS.2).trans c1;have e2:=(World.cell?_of_block (a:=⟨xb,2,none⟩) hS.2).trans c2;have e3:=(World.cell?_of_block (a:=⟨xb,3,none⟩) hS.2).trans c3;go_simp
    with_reducible rfl
   (try simp only[pu])
   refine trZ [7] (zau.cons rfl (fun K hK=> ?_) zau.nil);go_simp;have hpV0:pb<V0.heap.size:=Nat.lt_of_lt_of_le hpV HBel.out.size;have hxV0:xb<V0.heap.size:=Nat.lt_of_lt_of_le hl HBel.out.size;refine hK.out _ _ ⟨(Below.heap_alloc V0 _ pb hpV0).trans hHeld.1,(Below.heap_alloc V0 _ xb hxV0).trans hHeld.2⟩ (fun hHeld1=> ?_);clear hK K hHeld;have hHeld:=hHeld1;clear hHeld1;have XN:=zaa (heap_alloc_new V0 (Obj.cells #[Value.string ⟨a1.toArray⟩,Value.int .i64 a2,Value.int .i64 a3,Value.slice A5 a5.length q5] 46));have HB1:=zaa (HBel.out.alloc HBel.out.size (Obj.cells #[Value.string ⟨a1.toArray⟩,Value.int .i64 a2,Value.int .i64 a3,Value.slice A5 a5.length q5] 46));have hzV:w6.heap.size≤V0.heap.size:=HBel.out.size;clear HBel;have hz1':V0.heap.size<(V0.alloc (Obj.cells #[Value.string ⟨a1.toArray⟩,Value.int .i64 a2,Value.int .i64 a3,Value.slice A5 a5.length q5] 46)).heap.size:=by simp
   generalize V0.heap.size=nb at *;generalize V0.alloc (Obj.cells #[Value.string ⟨a1.toArray⟩,Value.int .i64 a2,Value.int .i64 a3,Value.slice A5 a5.length q5] 46)=V1 at *;clear V0
   (try simp only[pu])
   refine trZ [8] (zau.cons rfl (fun K hK=> ?_) zau.nil);have hO1:=zai (w':=V1) HO.out (fun g hg _=>HB1.out.block g (zaj HO.out hg).2);have HO1:=zaa hO1;clear hO1;have hBV:B≤V1.heap.size:=by have:=H.out.big;have:=HA6.out.kept.size;have:=HB1.out.size;omega
   refine zaw _ rfl (.tmp 44) (.tmp 46) 23 rfl B 46 i0 _ 4 56 underlying23 hi0 hz0 hz1 hz2 rfl (by decide) (.slice A m q) m cs rfl HO1.out _ (some ⟨nb,0,none⟩) 1 1 [Value.string ⟨a1.toArray⟩,Value.int .i64 a2,Value.int .i64 a3,Value.slice A5 a5.length q5] rfl (zbk XN.out rfl) (by simp[Value.oneCell']) (by unfold maxLen;omega) (by omega) hBV ?_;intro v5 wz hown5 hg5 hat5;obtain⟨Az,qz,rfl⟩:=zah hown5;have hp5:=hg5.block pb (by omega) (fun e=>by have:=(HOB.out pb e.symm).1;omega);have hx5:=hg5.block xb (by omega) (fun e=>by have:=(HOB.out xb e.symm).2;omega);refine hK.out _ _ ⟨hp5.trans hHeld.1,hx5.trans hHeld.2⟩ (fun hHeld1=> ?_);clear hK K;have q0:=(World.cell?_of_block (a:=⟨pb,2,none⟩) hHeld1.1).trans hcK;have q1:=(World.frozen?_of_block (a:=⟨pb,2,none⟩) hHeld1.1).trans hfK;have hFIN:=(H.out.to HA6.out).push (c':={c with modules:=c.modules++[⟨a1,a2,a3,a5⟩]}) HVK.out HCK.out HV.out rfl HC.out (f:=zdZ.cells (⟨a1,a2,a3,a5⟩)) rfl HB1.out (news:=[Value.string ⟨a1.toArray⟩,Value.int .i64 a2,Value.int .i64 a3,Value.slice A5 a5.length q5]) ?_ (by rw[HNN.out];exact hown5) hg5 hat5 (by simp[zaM]);rotate_left
   ·have hFR: ∀b,W.heap.size≤b→zb5 B vs b:=fun b hb=>⟨by have:=H.out.big;omega,fun u hu e=>by
     obtain⟨i,hi⟩:=List.getElem?_of_mem hu;have hi2:i<(zaM c).length:=by rw[←HVS.out.len];exact(List.getElem?_eq_some_iff.1 hi).1
     obtain⟨cs',ho',_⟩:=HVS.out.own i u _ hi (List.getElem?_eq_getElem hi2);have:=(zaj ho' e).2
     omega⟩
    exact zaf.cons (.leaf _) (zaf.cons (.leaf _) (zaf.cons (.leaf _) (zaf.cons ((HD5.out.later HB1.out).mono (fun b hb _=>hFR b (by omega))) (zaf.nil))))
   have HFIN:=zaa hFIN;have HEND:=zaa ((zac (HR6.out.trans rfl)).trans rfl:((zf9 >>= fun x=>pure {c with modules:=c.modules++[x]}) (ts.drop j))= .ok {c with modules:=c.modules++[⟨a1,a2,a3,a5⟩]} (ts.drop j6));clear hFIN hp5 hx5 hown5 hg5 hat5 hHeld hHeld1 XN HO1 HR6;clear hl c0 f0 c1 f1 c2 f2 c3 f3;refine zae (by kernel_rfl) ?_;simp only[List.drop_succ_cons,List.drop_zero];go_wp2_with fail
   go_end0
   exact zao.mk_ok HEND.out hj6 (HA6.out.kp.trans HFIN.out.2) HFIN.out.1
  |true=>
   have HX0:=zaa (fun(p:zas) (r r':List Tok) (hr:r=(ts.drop k).tail) (ht:zdX r= .ok p r')=>HP.out.trans (zmV (a1:=a1) (a2:=a2) (a3:=a3) (f:=f) (acc:=acc) hS hr ht));have HXB:=zaa (fun(n:Nat) (r r':List Tok) (hr:r=(ts.drop k).tail) (ht:zdX r= .bad n r')=>HP.out.trans (zk2 (a1:=a1) (a2:=a2) (a3:=a3) (f:=f) (acc:=acc) hS hr ht));have HTS:=zaa (zbX true hS);clear hS;go_wp2_with fail;refine(HTK.out).mono ?_;rintro e w5 hE5;rcases hE5.split with⟨t6,j5,hr,hj5,hA,rfl⟩|⟨n,jn,hr,hjn,hA,rfl⟩
   rotate_left
   ·exact absurd hr (zbh _ _)
   have hr2:=HTS.out.symm.trans hr;injection hr2 with hr2 hd2
   subst hr2;simp only[if_true] at hd2;have HD2:=zaa hd2;have hkj:=zdm hr hj5;have HA5:=zaa (HA.out.trans hA);have HT5:=zaa ((hA.kept.block xb hxo (by omega)).trans HT.out);have HO5:=zaa (zai HOV.out (fun g hg hb=>hA.kept.block g (zaj HOV.out hg).2 (by omega)));have HC5:=zaa (HCV.out.keep hA.kept.size (fun b hb hl=>hA.kept.block b hl (by have:=hb.1;omega)));have hOB: ∀g,(Value.slice A acc.length q).ownBlock=some g→xb+1≤g∧g<wo.heap.size:=fun g hg=>zaj HOV.out hg
   have HOB:=zaa hOB;have hz5:=hA.kept.size;clear hE5 hr hd2 hA HA HT HTK HTS HOV HCV hOB HP;generalize hml:acc.length=m at *;have HML:=zaa hml;clear hml;go_wp2_with fail;have hx5:=(zal HT5.out);refine zad (S:=fun w'=>w'.heap[xb]? =w5.heap[xb]?) 6 (by kernel_rfl) (by kernel_rfl) rfl (fun hHeld=> ?_);have HAd:=zaa HA5.out.drew;have HOd:Hid (w5.drew.ownsRow (xb+1) 51 10 _ _ _):=HO5;have HCd:Hid (zaf w5.drew _ _ _):=zaa (HC5.out.keep (w':=w5.drew) (Nat.le_refl _) (fun _ _ _=>rfl));have hzd:w5.drew.heap.size=w5.heap.size:=rfl;clear HA5 HO5 HC5;generalize w5.drew=U5 at *;refine tq 0 27 rfl hHeld ?_
   (try simp only[pu])
   refine tyZ (v:= ?_) 1 28 rfl hHeld (fun v hS=> ?_) ?_;rotate_left
   ·have e1:=cell_of_row _ _ 3 _ _ _ (hS.trans HT5.out)
    go_simp
    with_reducible rfl
   refine tq 2 29 rfl hHeld ?_
   (try simp only[pu])
   refine trZ [3] (zau.cons rfl (fun K hK=> ?_) zau.nil);go_simp;refine(zl0 pb j5 ts U5 (zaa (H.out.cur.to HAd.out)) hts hj5 hT (zaa (hE.out.to hpE HAd.out)) hpE).mono ?_;rintro e w6 hE6;rcases hE6.split with⟨x6,j6,us,hr,hj6,hA,hD,rfl⟩|⟨n,jn,hr,hjn,hA,rfl⟩
   rotate_left
   ·have HX:=zaa (zao.mk_bad (B:=B) (res:=((zf9 >>= fun x=>pure {c with modules:=c.modules++[x]}) (ts.drop j))) (zab (HXB.out _ _ _ HD2.out.symm hr)) hjn (HAd.out.trans hA).kp (H.out.cur.to (HAd.out.trans hA)))
    clear hA hr hE6;go_wp2_with fail;exact⟨rfl,HX.out⟩
   obtain⟨u0,u1,u2,u3,rfl⟩: ∃u0 u1 u2 u3,us=[u0,u1,u2,u3]:=zno hD.1;obtain⟨B0,d0,rfl, -⟩:=((hD.2 0 u0 _ rfl rfl).mono (H:=fun _=>True) (fun _ _ _=>trivial)).slice;obtain⟨B1,d1,rfl, -⟩:=((hD.2 1 u1 _ rfl rfl).mono (H:=fun _=>True) (fun _ _ _=>trivial)).slice;obtain⟨B2,d2,rfl, -⟩:=((hD.2 2 u2 _ rfl rfl).mono (H:=fun _=>True) (fun _ _ _=>trivial)).slice;obtain⟨B3,d3,rfl, -⟩:=((hD.2 3 u3 _ rfl rfl).mono (H:=fun _=>True) (fun _ _ _=>trivial)).slice;obtain⟨p0,p1,p2,p3,p4,p5,p6,p7,p8,p9⟩:=x6;have HX6:=zaa (HX0.out _ _ _ HD2.out.symm hr);have hlt:=LTj hr zk7 hj6;have HA6:=zaa (HAd.out.trans hA);have HD6:=zaa hD;have hd6:w6.heap[xb]? =w5.heap[xb]? :=(hA.kept.block xb (by omega) (by omega)).trans hHeld;have HO6:=zaa (zai HOd.out (fun g hg hb=>hA.kept.block g (zaj HOd.out hg).2 (by omega)));have HC6:=zaa (HCd.out.keep hA.kept.size (fun b hb hl=>hA.kept.block b hl (by have:=hb.1;omega)));have hz6:=hA.kept.size;have hn0:True:=trivial;clear hE6 hr hA hD hHeld HX0 HXB HAd HOd HCd;dsimp only at HD6 ⊢;simp only[zcS,zbj,List.getD_cons_zero,List.getD_cons_succ];generalize hl0:(zbs p4).length=n0 at *;generalize hl1:(zbs p7).length=n1 at *;generalize hl2:(List.map zcp.cells p8).length=n2 at *;generalize hl3:(List.map zca.cells p9).length=n3 at *;clear hl0 hl1 hl2 hl3;go_wp2_with fail;refine hK.out _ _ hd6 (fun hHeld=> ?_);clear hK K
   (try simp only[pu])
   refine trZ [4] (zau.cons rfl (fun K hK=> ?_) zau.nil);go_simp;refine hK.out _ _ ((Below.heap_alloc w6 _ xb (by omega)).trans hHeld) (fun hHeld1=> ?_);clear hK K hHeld;have XN:=zaa (heap_alloc_new w6 (Obj.cells #[Value.string ⟨p0.toArray⟩,Value.int .i64 p1,Value.int .i64 p2,Value.int .i64 p3,Value.slice B0 n0 d0,Value.int .i64 p5,Value.int .i64 p6,Value.slice B1 n1 d1,Value.slice B2 n2 d2,Value.slice B3 n3 d3] 51));have HBn:=zaa ((Below.refl w6.heap.size w6).alloc (Nat.le_refl _) (Obj.cells #[Value.string ⟨p0.toArray⟩,Value.int .i64 p1,Value.int .i64 p2,Value.int .i64 p3,Value.slice B0 n0 d0,Value.int .i64 p5,Value.int .i64 p6,Value.slice B1 n1 d1,Value.slice B2 n2 d2,Value.slice B3 n3 d3] 51));have hz7:w6.heap.size<(w6.alloc (Obj.cells #[Value.string ⟨p0.toArray⟩,Value.int .i64 p1,Value.int .i64 p2,Value.int .i64 p3,Value.slice B0 n0 d0,Value.int .i64 p5,Value.int .i64 p6,Value.slice B1 n1 d1,Value.slice B2 n2 d2,Value.slice B3 n3 d3] 51)).heap.size:=by simp
   generalize hnb:w6.heap.size=nb at XN ⊢;have HNB:=zaa hnb;clear hnb;generalize w6.alloc (Obj.cells #[Value.string ⟨p0.toArray⟩,Value.int .i64 p1,Value.int .i64 p2,Value.int .i64 p3,Value.slice B0 n0 d0,Value.int .i64 p5,Value.int .i64 p6,Value.slice B1 n1 d1,Value.slice B2 n2 d2,Value.slice B3 n3 d3] 51)=V4 at *
   (try simp only[pu])
   have HO7:=zaa (zai HO6.out (fun g hg hb=>HBn.out.block g (zaj HO6.out hg).2));have HC7:=zaa (HC6.out.keep HBn.out.size (fun b hb hl=>HBn.out.block b hl));refine trZ [5] (zau.cons rfl (fun K hK=> ?_) zau.nil);refine zaw _ rfl (.tmp 28) (.tmp 31) 44 rfl (xb+1) 51 im _ 10 152 underlying44 him0 hmz0 hmz1 hmz2 rfl (by decide) (.slice A m q) m csv rfl HO7.out _ (some ⟨nb,0,none⟩) 1 1 [Value.string ⟨p0.toArray⟩,Value.int .i64 p1,Value.int .i64 p2,Value.int .i64 p3,Value.slice B0 n0 d0,Value.int .i64 p5,Value.int .i64 p6,Value.slice B1 n1 d1,Value.slice B2 n2 d2,Value.slice B3 n3 d3] rfl (zbk XN.out rfl) (by simp[Value.oneCell']) (by unfold maxLen;omega) (by omega) (by omega) ?_;intro v5 wz hown5 hg5 hat5;obtain⟨Az,qz,rfl⟩:=zah hown5;have hxz:=(hg5.block xb (by omega) (fun e=>by have:=(HOB.out xb e.symm).1;omega)).trans hHeld1;refine hK.out _ _ hxz (fun hHeld=> ?_);clear hK K hHeld1;have hrz:=hxz.trans HT5.out;have q0:=cell_of_row _ _ 3 _ _ _ hrz;have q1:=frozen_of_row _ _ 3 _ _ hrz;have hlz:=(zal hrz);refine zae (by kernel_rfl) ?_;simp only[List.drop_succ_cons,List.drop_zero];have hfr: ∀b,w5.heap.size≤b→xb+1≤b∧(Value.slice A m q).ownBlock≠some b:=fun b hb=>⟨by omega,fun e=>by have:=(HOB.out b e).2;omega⟩
   have hDx:=fun(i:Nat) u d (hu:_[i]? =some u) (hd:_[i]? =some d)=>((HD6.out.2 i u d hu hd).later HBn.out).mono (H:=fun b=>xb+1≤b∧(Value.slice A m q).ownBlock≠some b) (fun b hb _=>hfr b (by omega))
   have hnew:zaf V4 (fun b=>xb+1≤b∧(Value.slice A m q).ownBlock≠some b) [Value.string ⟨p0.toArray⟩,Value.int .i64 p1,Value.int .i64 p2,Value.int .i64 p3,Value.slice B0 n0 d0,Value.int .i64 p5,Value.int .i64 p6,Value.slice B1 n1 d1,Value.slice B2 n2 d2,Value.slice B3 n3 d3] ([zas.cells ⟨p0,p1,p2,p3,p4,p5,p6,p7,p8,p9⟩].flatten):=by
    rw[List.flatten_singleton];exact zaf.cons (.leaf _) (zaf.cons (.leaf _) (zaf.cons (.leaf _) (zaf.cons (.leaf _) (zaf.cons (hDx 0 _ _ rfl rfl) (zaf.cons (.leaf _) (zaf.cons (.leaf _) (zaf.cons (hDx 1 _ _ rfl rfl) (zaf.cons (hDx 2 _ _ rfl rfl) (zaf.cons (hDx 3 _ _ rfl rfl) zaf.nil)))))))))
   have hOD:=zfV.push (es:=acc.map zas.cells) (fs:=[zas.cells ⟨p0,p1,p2,p3,p4,p5,p6,p7,p8,p9⟩]) (n:=m) (m:=1) (k:=m+1) (by rw[List.length_map];exact HML.out) HO.out.wide HC7.out rfl rfl (fun e he=>by rw[List.mem_singleton.1 he];rfl) hnew hown5 hg5 hat5;have hKg:zam (fun b'=>xb+1≤b') V4 wz:=(zam.grown hg5).mono (fun b' hb=>(HOB.out b' hb).1);have hK4:zam (fun b'=>xb+1≤b') w6 wz:=(zam.of_below HBn.out).trans hKg;have hAz:=(HA6.out.far hpb hK4 (fun k hk e=>by omega));have HAz:=zaa (AtJ.fresh hAz hpb (p:=⟨xb,3,none⟩) (by show xb≠pb;omega) hgx (Value.slice Az (m+1) qz));have HODz:=zaa (hOD.keep (w':=wz.setCell ⟨xb,3,none⟩ (Value.slice Az (m+1) qz)) (by simp[World.setCell]) (fun b hb _=>Below.heap_setCell _ _ _ _ (by show b≠xb;omega)));have HTz:Hid ((wz.setCell ⟨xb,3,none⟩ (Value.slice Az (m+1) qz)).heap[xb]? =some (Obj.cells #[Value.string ⟨a1.toArray⟩,Value.int .i64 a2,Value.int .i64 a3,Value.slice Az (m+1) qz] 46 (0,0))):=zaa (heap_setCell_same _ xb 3 _ _ _ hrz);have HMz:=zaa (show ts.length-zbL pb (wz.setCell ⟨xb,3,none⟩ (Value.slice Az (m+1) qz))<ts.length-zbL pb wo by rw[HM.out];unfold zbL;rw[HAz.out.here];simp[intOf];omega);have HLn:Hid (m+1=(acc++[(⟨p0,p1,p2,p3,p4,p5,p6,p7,p8,p9⟩:zas)]).length):=zaa (by rw[List.length_append,HML.out];rfl);clear hAz hK4 hKg hOD hnew hDx hfr hown5 hg5 hat5 hHeld XN HO7 HC7;go_wp2_with fail;go_roundw
   case rel=>exact⟨acc++[⟨p0,p1,p2,p3,p4,p5,p6,p7,p8,p9⟩],j6,f,_,hj6,by omega,by rw[←HLn.out];omega,HAz.out,HTz.out,by rw[←HLn.out,List.map_append];exact HODz.out,HX6.out⟩
   case measure=>exact HMz.out
end Go.Proofs.YtlngbjphagnloaaGreatDoor
