/- Merged texts of the walks and of the plain laws on which the statement leans.-/
import Derived.Test.YtlngbjphagnloaaGreatDoorPk1
import Derived.Test.YtlngbjphagnloaaGreatDoorPk13
import Derived.Test.YtlngbjphagnloaaGreatDoorPk14
import Derived.Deep.DeepCutAuto
import Derived.Test.YtlngbjphagnloaaGreatDoorPk15
import Derived.ChangeMaps4
import Derived.Laws.EntriesVeiled
import Derived.Test.YtlngbjphagnloaaGreatDoorPk4
import Derived.Test.YtlngbjphagnloaaGreatDoorPk6
set_option maxHeartbeats 4000000
set_option maxRecDepth 100000
namespace Go.Proofs.YtlngbjphagnloaaGreatDoor
open Tryz
open Go.RowKit
attribute [local go_sem] zax.cell
attribute [local go_sem] zbY zcD
def zch (x:zca) (us:List Value):Value:= .agg #[zbj x.name,.int .i64 x.prio,.int .i64 x.period,.int .i64 x.limit,us.getD 0 (.bool false)]
def zcH (x:zca):List Dat:=[.row 4 (x.code.map zcQ.cells)]
theorem zmw (pb j:Nat) (ts:List Tok) (W:World) (H:Hid (Cur pb ts j W)) (hts:ts.length≤1000000) (hj:j≤ts.length) (hg:Hid (zhA ts)) (hE:Hid (zci W)) (hpE:3≤pb) (hsz:Hid (∀t∈ts,t.text.length≤1000000)):
 Calls prog 162 #[.pointer (some ⟨pb,0,none⟩)] W fun e W'=>zcP pb ts W zch zcH (zfh (ts.drop j)) e W':=by
 have hpb:=H.out.lt;have hts':ts.length≤1099511627776:=by omega
 have HT0:Hid ((W.alloc (Obj.cells #[Value.string ⟨#[]⟩,Value.int .i64 0,Value.int .i64 0,Value.int .i64 0,Value.slice none 0 0] 67)).heap[W.heap.size]? =some (Obj.cells #[Value.string ⟨#[]⟩,Value.int .i64 0,Value.int .i64 0,Value.int .i64 0,Value.slice none 0 0] 67 (0,0))):=zaa (heap_alloc_new W _);have HA0:=zaa ((AtJ.start H.out.now H.out.free).below hpb ((Below.refl W.heap.size W).alloc (Nat.le_refl _) (Obj.cells #[Value.string ⟨#[]⟩,Value.int .i64 0,Value.int .i64 0,Value.int .i64 0,Value.slice none 0 0] 67)));have hgx:W.heap.size≤W.heap.size:=Nat.le_refl _
 go_enter func162,ntmps162
 go_wp2_with fail;obtain⟨xb,hxb⟩: ∃xb,xb=W.heap.size:=⟨_,rfl⟩;rw[←hxb] at HT0 ⊢;clear hgx;have hgx:W.heap.size≤xb:=by omega
 have HXB:=zaa hxb;clear hxb;generalize W.alloc (Obj.cells #[Value.string ⟨#[]⟩,Value.int .i64 0,Value.int .i64 0,Value.int .i64 0,Value.slice none 0 0] 67)=V0 at *;have hzz0:True:=trivial;refine(zaU pb j ts _ (zaa (H.out.to HA0.out)) hts' hj).mono ?_;rintro e w1 hE1;rcases hE1.split with⟨a1,j1,hr,hj1,hA,rfl⟩|⟨n,jn,hr,hjn,hA,rfl⟩
 rotate_left
 ·have HX:=zaa (zcP.mk_bad (conv:=zch) (deep:=zcH) ((rfl:zfh (ts.drop j)=zfh (ts.drop j)).trans (zab hr)) hjn (HA0.out.trans hA))
  clear hA hr hE1;go_wp2_with fail;exact⟨rfl,HX.out⟩
 have HB1:=zaa (HA0.out.trans hA);have HR1:=zaa ((rfl:zfh (ts.drop j)=zfh (ts.drop j)).trans (zac hr));have HS1:=zaa ((hA.kept.block _ (zal HT0.out) (by omega)).trans HT0.out);clear hA hr hE1 HA0 HT0;obtain⟨c0,c1,c2,c3,c4,f0,f1,f2,f3,f4⟩:=zfy HS1.out rfl;have hl:=(zal HS1.out);have HT1:Hid ((w1.setCell ⟨xb,0,none⟩ (Value.string ⟨a1.toArray⟩)).heap[xb]? =some (Obj.cells #[Value.string ⟨a1.toArray⟩,Value.int .i64 0,Value.int .i64 0,Value.int .i64 0,Value.slice none 0 0] 67 (0,0))):=zaa (heap_setCell_same _ xb 0 _ _ _ HS1.out);have HA1:=zaa (AtJ.fresh HB1.out hpb (p:=⟨xb,0,none⟩) (by show xb≠pb;omega) hgx (Value.string ⟨a1.toArray⟩));go_wp2_with fail;clear hl c0 f0 c1 f1 c2 f2 c3 f3 c4 f4;have hzz1:(w1.setCell ⟨xb,0,none⟩ (Value.string ⟨a1.toArray⟩)).heap.size=w1.heap.size:=by simp[World.setCell]
 clear HS1 HB1;generalize(w1.setCell ⟨xb,0,none⟩ (Value.string ⟨a1.toArray⟩))=V1 at *;refine zad (S:=fun _=>True) 13 (by kernel_rfl) (by kernel_rfl) trivial (fun hHeld=> ?_);have HT1':Hid (V1.drew.heap[xb]? =some (Obj.cells #[Value.string ⟨a1.toArray⟩,Value.int .i64 0,Value.int .i64 0,Value.int .i64 0,Value.slice none 0 0] 67 (0,0))):=HT1;have HA1':=zaa HA1.out.drew;clear HT1 HA1;have HT1:=HT1';have HA1:=HA1';clear HT1' HA1';have hzd1:V1.drew.heap.size=V1.heap.size:=rfl;generalize V1.drew=U1 at *
 (try rw[←hzd1] at hxV)
 refine tq 0 8 rfl hHeld ?_;refine tq 1 9 rfl hHeld ?_;refine tq 2 10 rfl hHeld ?_;refine tq 4 12 rfl hHeld ?_;refine tq 5 13 rfl hHeld ?_;refine tq 6 14 rfl hHeld ?_;refine tq 8 16 rfl hHeld ?_;refine tq 9 17 rfl hHeld ?_;refine tq 10 18 rfl hHeld ?_
 (try simp only[pu])
 refine trZ [3] (zau.cons rfl (fun K hK=> ?_) zau.nil);go_simp;refine(zaG pb j1 ts ⟨#[112,114,105,111]⟩ _ (zaa (H.out.to HA1.out)) hts' hj1 hg (by decide)).mono ?_;rintro e w2 hE2;rcases hE2.split with⟨a2,j2,hr,hj2,hA,rfl⟩|⟨n,jn,hr,hjn,hA,rfl⟩
 rotate_left
 ·have HX:=zaa (zcP.mk_bad (conv:=zch) (deep:=zcH) (HR1.out.trans (zab hr)) hjn (HA1.out.trans hA))
  clear hA hr hE2;go_wp2_with fail;exact⟨rfl,HX.out⟩
 have HB2:=zaa (HA1.out.trans hA);have HR2:=zaa (HR1.out.trans (zac hr));clear HR1;have HS2:=zaa ((hA.kept.block _ (zal HT1.out) (by omega)).trans HT1.out);clear hA hr hE2 HA1 HT1;have HT2:=zaa HS2.out;have HA2:=zaa HB2.out;clear HS2 HB2;go_wp2_with fail;refine hK.out _ _ trivial (fun _=> ?_);clear hK K;refine tq 12 20 rfl hHeld ?_
 (try simp only[pu])
 refine trZ [7] (zau.cons rfl (fun K hK=> ?_) zau.nil);go_simp;refine(zaG pb j2 ts ⟨#[112,101,114,105,111,100]⟩ _ (zaa (H.out.to HA2.out)) hts' hj2 hg (by decide)).mono ?_;rintro e w3 hE3;rcases hE3.split with⟨a3,j3,hr,hj3,hA,rfl⟩|⟨n,jn,hr,hjn,hA,rfl⟩
 rotate_left
 ·have HX:=zaa (zcP.mk_bad (conv:=zch) (deep:=zcH) (HR2.out.trans (zab hr)) hjn (HA2.out.trans hA))
  clear hA hr hE3;go_wp2_with fail;exact⟨rfl,HX.out⟩
 have HB3:=zaa (HA2.out.trans hA);have HR3:=zaa (HR2.out.trans (zac hr));clear HR2;have HS3:=zaa ((hA.kept.block _ (zal HT2.out) (by omega)).trans HT2.out);clear hA hr hE3 HA2 HT2;have HT3:=zaa HS3.out;have HA3:=zaa HB3.out;clear HS3 HB3;go_wp2_with fail;refine hK.out _ _ trivial (fun _=> ?_);clear hK K
 (try simp only[pu])
 refine trZ [11] (zau.cons rfl (fun K hK=> ?_) zau.nil);go_simp;refine(zaG pb j3 ts ⟨#[108,105,109,105,116]⟩ _ (zaa (H.out.to HA3.out)) hts' hj3 hg (by decide)).mono ?_;rintro e w4 hE4;rcases hE4.split with⟨a4,j4,hr,hj4,hA,rfl⟩|⟨n,jn,hr,hjn,hA,rfl⟩
 rotate_left
 ·have HX:=zaa (zcP.mk_bad (conv:=zch) (deep:=zcH) (HR3.out.trans (zab hr)) hjn (HA3.out.trans hA))
  clear hA hr hE4;go_wp2_with fail;exact⟨rfl,HX.out⟩
 have HB4:=zaa (HA3.out.trans hA);have HR4:=zaa (HR3.out.trans (zac hr));clear HR3;have HS4:=zaa ((hA.kept.block _ (zal HT3.out) (by omega)).trans HT3.out);clear hA hr hE4 HA3 HT3;have HT4:=zaa HS4.out;have HA4:=zaa HB4.out;clear HS4 HB4;go_wp2_with fail;refine hK.out _ _ trivial (fun _=> ?_);clear hK K
 (try simp only[pu])
 obtain⟨c0,c1,c2,c3,c4,f0,f1,f2,f3,f4⟩:=zfy HT4.out rfl;have hl:=(zal HT4.out);refine zae (by kernel_rfl) ?_;simp only[List.drop_succ_cons,List.drop_zero];have HS4:=HT4;have HB4:=HA4;clear HT4 HA4;have HT4:Hid ((((w4.setCell ⟨xb,1,none⟩ (Value.int .i64 a2)).setCell ⟨xb,2,none⟩ (Value.int .i64 a3)).setCell ⟨xb,3,none⟩ (Value.int .i64 a4)).heap[xb]? =some (Obj.cells #[Value.string ⟨a1.toArray⟩,Value.int .i64 a2,Value.int .i64 a3,Value.int .i64 a4,Value.slice none 0 0] 67 (0,0))):=zaa (heap_setCell_same _ xb 3 _ _ _ (heap_setCell_same _ xb 2 _ _ _ (heap_setCell_same _ xb 1 _ _ _ HS4.out)));have HA4:=zaa (AtJ.fresh (AtJ.fresh (AtJ.fresh HB4.out hpb (p:=⟨xb,1,none⟩) (by show xb≠pb;omega) hgx (Value.int .i64 a2)) hpb (p:=⟨xb,2,none⟩) (by show xb≠pb;omega) hgx (Value.int .i64 a3)) hpb (p:=⟨xb,3,none⟩) (by show xb≠pb;omega) hgx (Value.int .i64 a4));go_wp2_with fail;clear hl c0 f0 c1 f1 c2 f2 c3 f3 c4 f4;have hzz4:(((w4.setCell ⟨xb,1,none⟩ (Value.int .i64 a2)).setCell ⟨xb,2,none⟩ (Value.int .i64 a3)).setCell ⟨xb,3,none⟩ (Value.int .i64 a4)).heap.size=w4.heap.size:=by simp[World.setCell]
 clear HS4 HB4;generalize(((w4.setCell ⟨xb,1,none⟩ (Value.int .i64 a2)).setCell ⟨xb,2,none⟩ (Value.int .i64 a3)).setCell ⟨xb,3,none⟩ (Value.int .i64 a4))=V4 at *;refine(zat pb j4 _ ts ⟨#[123]⟩ _ (zaa (H.out.to HA4.out)) hts' hj4 (by decide) (by first|rfl|exact hzz4.symm|simp[go_sem])).mono ?_;rintro e w5 hE5;rcases hE5.split with⟨a5,j5,hr,hj5,hA,rfl⟩|⟨n,jn,hr,hjn,hA,rfl⟩
 rotate_left
 ·have HX:=zaa (zcP.mk_bad (conv:=zch) (deep:=zcH) (HR4.out.trans (zab hr)) hjn (HA4.out.trans hA))
  clear hA hr hE5;go_wp2_with fail;exact⟨rfl,HX.out⟩
 have HB5:=zaa (HA4.out.trans hA);have HR5:=zaa (HR4.out.trans (zac hr));clear HR4;have HS5:=zaa ((hA.kept.block _ (zal HT4.out) (by omega)).trans HT4.out);clear hA hr hE5 HA4 HT4;have HT5:=zaa HS5.out;have HA5:=zaa HB5.out;clear HS5 HB5;go_wp2_with fail;have hxV:xb<w5.heap.size:=(zal HT5.out);refine(ziN pb j5 ts _ (zaa (H.out.to HA5.out)) hts hj5 hg (zaa (hE.out.to hpE HA5.out)) hpE hsz).mono ?_;rintro e w6 hE6;rcases hE6.split with⟨a6,j6,v6,hr,hj6,hA,hO,rfl⟩|⟨n,jn,hr,hjn,hA,rfl⟩
 rotate_left
 ·have HX:=zaa (zcP.mk_bad (conv:=zch) (deep:=zcH) (HR5.out.trans (zab hr)) hjn (HA5.out.trans hA))
  clear hA hr hE6;go_wp2_with fail;exact⟨rfl,HX.out⟩
 have HB6:=zaa (HA5.out.trans hA);have HR6:=zaa (HR5.out.trans (zac hr));clear HR5;have HO6:=zaa hO;have hq6:w5.heap.size≤w6.heap.size:=hA.kept.size;clear hO;have HS6:=zaa ((hA.kept.block _ (zal HT5.out) (by omega)).trans HT5.out);clear hA hr hE6 HA5 HT5;obtain⟨A6,q6,rfl⟩:=zah HO6.out;have HD6:=zaa ((zcY (cells:=za5) (fun _=>rfl) HO6.out).mono (H:=fun b=>xb<b) (fun b hb _=>Nat.lt_of_lt_of_le hxV hb));clear HO6;obtain⟨c0,c1,c2,c3,c4,f0,f1,f2,f3,f4⟩:=zfy HS6.out rfl;have hl:=(zal HS6.out);have HT6:Hid ((w6.setCell ⟨xb,4,none⟩ (Value.slice A6 a6.length q6)).heap[xb]? =some (Obj.cells #[Value.string ⟨a1.toArray⟩,Value.int .i64 a2,Value.int .i64 a3,Value.int .i64 a4,Value.slice A6 a6.length q6] 67 (0,0))):=zaa (heap_setCell_same _ xb 4 _ _ _ HS6.out);have HA6:=zaa (AtJ.fresh HB6.out hpb (p:=⟨xb,4,none⟩) (by show xb≠pb;omega) hgx (Value.slice A6 a6.length q6));have HD6':Hid (DAt (w6.setCell ⟨xb,4,none⟩ (Value.slice A6 a6.length q6)) (fun b=>xb<b) (.slice A6 a6.length q6) _):=zaa (DAt.keep HD6.out (by simp[World.setCell]) (fun b hb _=>Below.heap_setCell _ _ _ _ (by show b≠xb;omega)));clear HD6;have HD6:=HD6';clear HD6';go_wp2_with fail;clear hl c0 f0 c1 f1 c2 f2 c3 f3 c4 f4;have hzz6:(w6.setCell ⟨xb,4,none⟩ (Value.slice A6 a6.length q6)).heap.size=w6.heap.size:=by simp[World.setCell]
 clear HS6 HB6;generalize(w6.setCell ⟨xb,4,none⟩ (Value.slice A6 a6.length q6))=V6 at *;refine(zat pb j6 _ ts ⟨#[125]⟩ _ (zaa (H.out.to HA6.out)) hts' hj6 (by decide) (by first|rfl|exact hzz6.symm|simp[go_sem])).mono ?_;rintro e w7 hE7;rcases hE7.split with⟨a7,j7,hr,hj7,hA,rfl⟩|⟨n,jn,hr,hjn,hA,rfl⟩
 rotate_left
 ·have HX:=zaa (zcP.mk_bad (conv:=zch) (deep:=zcH) (HR6.out.trans (zab hr)) hjn (HA6.out.trans hA))
  clear hA hr hE7;go_wp2_with fail;exact⟨rfl,HX.out⟩
 have HB7:=zaa (HA6.out.trans hA);have HR7:=zaa (HR6.out.trans (zac hr));clear HR6;have HD6':=zaa (HD6.out.keep hA.kept.size (fun b hb _=>hA.kept.block b ‹_› (by omega)));clear HD6;have HD6:=HD6';clear HD6';have HS7:=zaa ((hA.kept.block _ (zal HT6.out) (by omega)).trans HT6.out);clear hA hr hE7 HA6 HT6;have HT7:=zaa HS7.out;have HA7:=zaa HB7.out;clear HS7 HB7;obtain⟨c0,c1,c2,c3,c4,f0,f1,f2,f3,f4⟩:=zfy HT7.out rfl;have hl:=(zal HT7.out);go_wp2_with fail;refine bodyPost_ret (v:=zch ⟨a1,a2,a3,a4,a6⟩ [Value.slice A6 a6.length q6]) (by simp[results,Tryz.results162,go_sem,zch,zbj,c0,c1,c2,c3,c4]) rfl ?_;exact zcP.mk_ok (a:=⟨a1,a2,a3,a4,a6⟩) (us:=[Value.slice A6 a6.length q6]) (HR7.out.trans rfl) hj7 (AtJ.fresh (AtJ.fresh (AtJ.fresh (AtJ.fresh (AtJ.fresh HA7.out hpb (p:=⟨xb,0,none⟩) (by show xb≠pb;omega) hgx _) hpb (p:=⟨xb,1,none⟩) (by show xb≠pb;omega) hgx _) hpb (p:=⟨xb,2,none⟩) (by show xb≠pb;omega) hgx _) hpb (p:=⟨xb,3,none⟩) (by show xb≠pb;omega) hgx _) hpb (p:=⟨xb,4,none⟩) (by show xb≠pb;omega) hgx _) (zaf.cons (((DAt.keep (DAt.keep (DAt.keep (DAt.keep (DAt.keep HD6.out (by simp[World.setCell]) (fun b hb _=>Below.heap_setCell _ _ _ _ (by show b≠xb;omega))) (by simp[World.setCell]) (fun b hb _=>Below.heap_setCell _ _ _ _ (by show b≠xb;omega))) (by simp[World.setCell]) (fun b hb _=>Below.heap_setCell _ _ _ _ (by show b≠xb;omega))) (by simp[World.setCell]) (fun b hb _=>Below.heap_setCell _ _ _ _ (by show b≠xb;omega))) (by simp[World.setCell]) (fun b hb _=>Below.heap_setCell _ _ _ _ (by show b≠xb;omega)))).mono (fun b hb _=>by omega)) zaf.nil) rfl
open Go.ChangeMaps (setBlock)
theorem zkH (a:ByteArray) (s:List UInt8):(a==(⟨s.toArray⟩:ByteArray))=(a.data.toList==s):=by
 obtain⟨d⟩:=a
 show(d==s.toArray)=(d.toList==s)
 by_cases h:d=s.toArray
 ·subst h;simp
 ·have h2:d.toList≠s:=fun e=>h (by rw[←e])
  rw[beq_eq_false_iff_ne.2 h,beq_eq_false_iff_ne.2 h2]
theorem zbP (K:ByteArray): ∀(es:List MapEntry) (l:List (List UInt8×Value)) (i:Nat),(es.map fun e=>(e.key,e.val))=(l.map fun p=>(zbj p.1,p.2))→
 (K.data.toList∉l.map (·.1)→Instr.findNow .string (.string K) es i=some none)∧(∀v,l.find? (fun p=>K.data.toList==p.1)=some (K.data.toList,v)→ ∃n,Instr.findNow .string (.string K) es i=some (some (n,v)))
 |[],l,i,h=>by
  cases l with
  |nil=>exact⟨fun _=>rfl,fun v h=>by cases h⟩
  |cons p l=>cases h
 |e::es,[],i,h=>by cases h
 |e::es,p::l,i,h=>by
  simp only[List.map_cons,List.cons.injEq,Prod.mk.injEq] at h;obtain⟨⟨h1,h2⟩,h3⟩:=h;obtain⟨ih1,ih2⟩:=zbP K es l (i+1) h3;have hs:Instr.sameNow .string (.string K) e.key=some (K.data.toList==p.1):=by
   rw[h1];exact congrArg some (zkH K p.1)
  refine⟨fun hn=> ?_,fun v hv=> ?_⟩
  ·have hne:(K.data.toList==p.1)=false:=by
    rw[beq_eq_false_iff_ne];intro e;apply hn;rw[e];simp
   unfold Instr.findNow;rw[hs,hne];exact ih1 (fun hm=>hn (by rw[List.map_cons];exact List.mem_cons_of_mem _ hm))
  ·unfold Instr.findNow
   rw[hs]
   cases hb:(K.data.toList==p.1) with
   |true=>
    rw[List.find?_cons_of_pos (by simpa using hb)] at hv;injection hv with hv
    exact⟨i,by simp only[h2,hv]⟩
   |false=>
    rw[List.find?_cons_of_neg (by simp[hb])] at hv;exact ih2 v hv
def zjl (w:World) (mb:Nat) (what:List (List UInt8)):Prop:= ∃es clock,w.heap[mb]? =some (.map es clock)∧(es.toList.map fun e=>(e.key,e.val))=what.map fun s=>(zbj s,Value.int .i64 1)
theorem zjl.same {w w':World} {mb:Nat} {what:List (List UInt8)} (h:zjl w mb what) (hb:w'.heap[mb]? =w.heap[mb]?):zjl w' mb what:=by
 obtain⟨es,c,h1,h2⟩:=h;exact⟨es,c,hb.trans h1,h2⟩
theorem zdr (b:Bool) (K:ByteArray) (w:World):(Instr.checkKey b 10000 9 (.string K)).run prog w= .ok () w:=by
 cases b<;>kernel_rfl
theorem zpp (w:World):(zeroValue 3).run prog w= .ok (.int .i64 0) w:=by kernel_rfl
theorem zgQ (x:List UInt8): ∀(l:List (List UInt8)),x∈l→(l.map fun s=>(s,Value.int .i64 1)).find? (fun p=>x==p.1)=some (x,.int .i64 1)
 |[],h=>by cases h
 |s::l,h=>by
  by_cases e:x=s
  ·subst e;simp
  ·rw[List.map_cons,List.find?_cons_of_neg (by simpa using e)]
   exact zgQ x l ((List.mem_cons.1 h).resolve_left e)
theorem zjl.look {w:World} {mb:Nat} {what:List (List UInt8)} (h:zjl w mb what) (K:ByteArray):(Instr.lookup 202 (.map (some mb)) (.string K) false).run prog w= .ok (.int .i64 (if what.contains K.data.toList then 1 else 0)) w:=by
 obtain⟨es,c,hb,he⟩:=h;have hm:(es.toList.map fun e=>(e.key,e.val))=(what.map fun s=>(s,Value.int .i64 1)).map fun p=>(zbj p.1,p.2):=by rw[he,List.map_map];rfl
 obtain⟨f1,f2⟩:=zbP K es.toList _ 0 hm
 cases hc:what.contains K.data.toList with
 |true=>
  obtain⟨n,hn⟩:=f2 _ (zgQ _ what (by simpa using hc));simp[Instr.lookup,run_underlying underlying202,MapKept.run_getObj_map hb,zdr,Instr.findKey,run_underlying underlying9,hn,Result.andThen]
 |false=>
  have hn:=f1 (by rw[List.map_map];simpa using hc);simp[Instr.lookup,run_underlying underlying202,MapKept.run_getObj_map hb,zdr,Instr.findKey,run_underlying underlying9,hn,Result.andThen]
theorem zjl.put {w:World} {mb:Nat} {what:List (List UInt8)} (h:zjl w mb what) (K:ByteArray) (hK:what.contains K.data.toList=false):
 ∃o,(Instr.mapUpdate 202 (.map (some mb)) (.string K) (.int .i64 1)).run prog w= .ok () (setBlock w mb o)∧zjl (setBlock w mb o) mb (what++[K.data.toList]):=by
 obtain⟨es,c,hb,he⟩:=h;have hm:(es.toList.map fun e=>(e.key,e.val))=(what.map fun s=>(s,Value.int .i64 1)).map fun p=>(zbj p.1,p.2):=by rw[he,List.map_map];rfl
 obtain⟨f1,_⟩:=zbP K es.toList _ 0 hm;have hn:=f1 (by rw[List.map_map];simpa using hK);refine⟨.map (es.push {key:= .string K,val:= .int .i64 1,born:=c}) (c+1),?_,?_⟩
 ·simp[Instr.mapUpdate,run_underlying underlying202,MapKept.run_getObj_map hb,zdr,Instr.findKey,run_underlying underlying9,hn,MapKept.run_setObj_map _ hb,Result.andThen]
  rfl
 ·have hl:=(zal hb)
  refine⟨es.push {key:= .string K,val:= .int .i64 1,born:=c},c+1,by simp[setBlock,hl],?_⟩;rw[Array.toList_push,List.map_append,he,List.map_append]
  rfl
theorem zaz (w:World) (b k:Nat) (o:Obj) (h:k≠b):(setBlock w b o).heap[k]? =w.heap[k]? :=by
 unfold setBlock;simp only;rw[Array.getElem?_setIfInBounds_ne (fun e=>h e.symm)]
theorem zbT (w:World) (b:Nat) (o:Obj):(setBlock w b o).heap.size=w.heap.size:=by simp[setBlock]
theorem AtJ.blk {sb j k:Nat} {W w:World} (h:AtJ sb j W w) (hk:W.heap.size≤k) (hsb:sb<W.heap.size) (o:Obj):AtJ sb j W (setBlock w k o):=by
 have e:=zaz w k sb o (by omega);exact⟨⟨h.kept.os,h.kept.tape,h.kept.output,by rw[zbT];exact h.kept.size,fun i hi hf=>(zaz w k i o (by omega)).trans (h.kept.block i hi hf)⟩,(World.cell?_of_block (w:=w) (a:=⟨sb,1,none⟩) e).trans h.here,
  fun o ho=>(World.cell?_of_block (w:=w) (a:=⟨sb,o,none⟩) e).trans (h.rest o ho),(World.frozen?_of_block (w:=w) (a:=⟨sb,1,none⟩) e).trans h.free,fun o=>(World.frozen?_of_block (w:=w) (a:=⟨sb,o,none⟩) e).trans (h.hold o)⟩
def zbK (p:zas):List zdx:=[⟨3,1,zbs p.semas⟩,⟨3,1,zbs p.bufs⟩,⟨53,6,p.ports.map zcp.cells⟩,⟨67,5,p.procs.map zca.cells⟩]
def zdv (p:zas) (mb:Nat) (v4 v7 v8 v9:Value):Obj:= .cells #[Value.string ⟨p.name.toArray⟩,Value.int .i64 p.period,Value.int .i64 p.length,Value.int .i64 p.mem,v4,Value.int .i64 p.events,Value.int .i64 p.boards,v7,v8,v9,Value.map (some mb)] 204 (0,0)
structure BSt (pb bb mb B:Nat) (b:zag) (v4 v7 v8 v9:Value) (w:World):Prop where
 row:w.heap[bb]? =some (zdv b.p mb v4 v7 v8 v9)
 rows:zbb w B [v4,v7,v8,v9] (zbK b.p)
 seen:zjl w mb b.what
 low:bb<B∧mb<B∧bb≠mb∧pb<bb∧pb<mb∧B≤w.heap.size
theorem BSt.keep {pb bb mb B:Nat} {b:zag} {v4 v7 v8 v9:Value} {w w':World} (h:BSt pb bb mb B b v4 v7 v8 v9 w) (hz:w.heap.size≤w'.heap.size) (hk: ∀k,k<w.heap.size→(k=bb∨k=mb∨B≤k)→w'.heap[k]? =w.heap[k]?):BSt pb bb mb B b v4 v7 v8 v9 w':=by
 obtain⟨l1,l2,l3,l4,l5,l6⟩:=h.low;exact⟨(hk bb (by omega) (.inl rfl)).trans h.row,h.rows.keep hz (fun k hk1 hk2=>hk k hk2 (.inr (.inr hk1))),h.seen.same (hk mb (by omega) (.inr (.inl rfl))),l1,l2,l3,l4,l5,Nat.le_trans l6 hz⟩
theorem BSt.below {pb bb mb B:Nat} {b:zag} {v4 v7 v8 v9:Value} {w w':World} (h:BSt pb bb mb B b v4 v7 v8 v9 w) (hb:Below w.heap.size w w'):BSt pb bb mb B b v4 v7 v8 v9 w':=h.keep hb.size (fun k hk _=>hb.block k hk)
theorem BSt.to {pb bb mb B j:Nat} {b:zag} {v4 v7 v8 v9:Value} {w w':World} (h:BSt pb bb mb B b v4 v7 v8 v9 w) (ha:AtJ pb j w w'):BSt pb bb mb B b v4 v7 v8 v9 w':=by
 obtain⟨l1,l2,l3,l4,l5,l6⟩:=h.low;exact h.keep ha.kept.size (fun k hk hc=>ha.kept.block k hk (by omega))
theorem BSt.bare {pb bb mb B:Nat} {b:zag} {v4 v7 v8 v9:Value} {w w':World} (h:BSt pb bb mb B b v4 v7 v8 v9 w) (hw:w'.heap=w.heap):BSt pb bb mb B b v4 v7 v8 v9 w':=h.keep (by rw[hw];exact Nat.le_refl _) (fun k _ _=>by rw[hw])
def zbo (pb:Nat) (ts:List Tok) (W0:World) (bb mb B:Nat) (res:Res zag) (e:Ending) (W':World):Prop:=
 ∃j,j≤ts.length∧AtJ pb j W0 W'∧match res with
  | .ok b r=>r=ts.drop j∧e= .returned (.tuple #[])∧ ∃v4 v7 v8 v9,BSt pb bb mb B b v4 v7 v8 v9 W'
  | .bad n r=>r=ts.drop j∧e= .panicked [{v:= .iface 122 (.agg #[.int .i64 (n:Int)]),recovered:=false}]
theorem zbo.mk_ok {pb j bb mb B:Nat} {ts:List Tok} {W W':World} {res:Res zag} {b:zag} {v4 v7 v8 v9:Value} (h:res= .ok b (ts.drop j)) (hj:j≤ts.length) (hA:AtJ pb j W W') (hB:BSt pb bb mb B b v4 v7 v8 v9 W'):zbo pb ts W bb mb B res (.returned (.tuple #[])) W':=by
 subst h;exact⟨j,hj,hA,rfl,rfl,v4,v7,v8,v9,hB⟩
theorem zbo.mk_bad {pb j n bb mb B:Nat} {ts:List Tok} {W W':World} {res:Res zag} (h:res= .bad n (ts.drop j)) (hj:j≤ts.length) (hA:AtJ pb j W W'):zbo pb ts W bb mb B res (.panicked [{v:= .iface 122 (.agg #[.int .i64 (n:Int)]),recovered:=false}]) W':=by
 subst h;exact⟨j,hj,hA,rfl,rfl⟩
theorem zbo.split {pb bb mb B:Nat} {ts:List Tok} {W W':World} {res:Res zag} {e:Ending} (h:zbo pb ts W bb mb B res e W'):
 (∃b j v4 v7 v8 v9,res= .ok b (ts.drop j)∧j≤ts.length∧AtJ pb j W W'∧BSt pb bb mb B b v4 v7 v8 v9 W'∧e= .returned (.tuple #[]))∨(∃n j,res= .bad n (ts.drop j)∧j≤ts.length∧AtJ pb j W W'∧e= .panicked [{v:= .iface 122 (.agg #[.int .i64 (n:Int)]),recovered:=false}]):=by
 obtain⟨j,hj,hA,hm⟩:=h
 cases res with
 |ok b r=>
  obtain⟨h1,h2,v4,v7,v8,v9,h3⟩:=hm;exact .inl ⟨b,j,v4,v7,v8,v9,by rw[h1],hj,hA,h3,h2⟩
 |bad n r=>exact .inr ⟨n,j,by rw[hm.1],hj,hA,hm.2⟩
theorem zbb.swap {w:World} {B k:Nat} {vs:List Value} {rs:List zdx} {v':Value} {r:zdx} {cs:List Value} (h:zbb w B vs rs) (hk:k<vs.length) (hw: ∀e∈r.es,e.length=r.size) (ho:w.ownsRow B r.t r.size v' r.es.length cs) (hl:zaf w (fun _=>False) cs r.es.flatten)
 (hn: ∀g,v'.ownBlock=some g→(∀u∈vs,u.ownBlock≠some g)∧ ∀i u x,vs[i]? =some u→rs[i]? =some x→i≠k→ ∃cs',w.ownsRow B x.t x.size u x.es.length cs'∧zaf w (fun b=>zb5 B vs b∧b≠g) cs' x.es.flatten):
 zbb w B (vs.set k v') (rs.set k r):=by
 refine⟨by simp[h.len],fun i x hx=> ?_,fun i u x hu hx=> ?_,fun i l u x g hu hx hug hxg=> ?_⟩
 ·rcases za0 hx with⟨rfl,_,rfl⟩|⟨_,hx⟩
  ·exact hw
  ·exact h.wide i x hx
 ·rcases za0 hu with⟨rfl,_,rfl⟩|⟨hik,hu⟩
  ·rcases za0 hx with⟨_,_,rfl⟩|⟨hne,_⟩
   ·exact⟨cs,ho,hl.mono (fun _ h _=>h.elim)⟩
   ·exact absurd rfl hne
  ·rcases za0 hx with⟨e,_,_⟩|⟨_,hx⟩
   ·exact absurd e hik
   ·cases hb:v'.ownBlock with
    |none=>
     obtain⟨cs',ho',hc'⟩:=h.own i u x hu hx;exact⟨cs',ho',hc'.mono (fun b hb' _=>⟨hb'.1,fun y hy=>(List.mem_or_eq_of_mem_set hy).elim (hb'.2 y) (fun e=>by rw[e,hb];exact fun h=>by cases h)⟩)⟩
    |some g=>
     obtain⟨cs',ho',hc'⟩:=(hn g hb).2 i u x hu hx hik;exact⟨cs',ho',hc'.mono (fun b hb' _=>⟨hb'.1.1,fun y hy=>(List.mem_or_eq_of_mem_set hy).elim (hb'.1.2 y) (fun e=>by rw[e,hb];exact fun h=>hb'.2 (by injection h with h;exact h.symm))⟩)⟩
 ·rcases za0 hu with⟨rfl,_,rfl⟩|⟨hik,hu'⟩
  ·rcases za0 hx with⟨rfl,_,_⟩|⟨hlk,hx'⟩
   ·rfl
   ·exact absurd hxg ((hn g hug).1 x (List.mem_of_getElem? hx'))
  ·rcases za0 hx with⟨rfl,_,rfl⟩|⟨hlk,hx'⟩
   ·exact absurd hug ((hn g hxg).1 u (List.mem_of_getElem? hu'))
   ·exact h.apart i l u x g hu' hx' hug hxg
theorem zdP {w:World} {B base:Nat} {t:TypeId} {size n:Nat} {v:Value} {xs:List Value} (h:w.ownsRow base t size v n xs) (hB:B≤base):w.ownsRow B t size v n xs:=by
 refine⟨h.1,?_⟩;rcases h.2 with h2|⟨g,cap,cur,hv,hg,r⟩
 ·exact .inl h2
 ·exact .inr ⟨g,cap,cur,hv,Nat.le_trans hB hg,r⟩
theorem zfM {w:World} {G:Nat→Prop} {α:Type} (l:List α) (cells:α→List Value):zaf w G (l.flatMap cells) (l.map fun a=>(cells a).map Dat.leaf).flatten:=by
 have e:(l.map fun a=>(cells a).map Dat.leaf).flatten=(l.flatMap cells).map Dat.leaf:=by
  rw[List.flatMap_def,List.map_flatten,List.map_map]
  rfl
 rw[e];exact zbt _
theorem zbb.swapNew {F:Nat→Prop} {V V':World} {B k:Nat} {vs:List Value} {rs:List zdx} {v':Value} {r:zdx} {cs:List Value} (h:zbb V B vs rs) (hk:zam F V V') (hF: ∀b,B≤b→ ¬F b) (hB:B≤V.heap.size) (hkl:k<vs.length)
 (hw: ∀e∈r.es,e.length=r.size) (ho:V'.ownsRow V.heap.size r.t r.size v' r.es.length cs) (hl:zaf V' (fun _=>False) cs r.es.flatten):zbb V' B (vs.set k v') (rs.set k r):=by
 have hlt: ∀(i:Nat) (u:Value) (g:Nat),vs[i]? =some u→u.ownBlock=some g→g<V.heap.size:=fun i u g hu hug=>by
  have hi:i<rs.length:=by rw[←h.len];exact(List.getElem?_eq_some_iff.1 hu).1
  obtain⟨cs',ho',_⟩:=h.own i u rs[i] hu (List.getElem?_eq_getElem hi);exact(zaj ho' hug).2
 refine(h.kept hk hF).swap hkl hw (zdP ho hB) hl (fun g hg=>⟨fun u hu e=> ?_,fun i u x hu hx _=> ?_⟩)
 ·obtain⟨i,hi⟩:=List.getElem?_of_mem hu
  have:=hlt i u g hi e;have:=(zaj ho hg).1
  omega
 ·obtain⟨cs',ho',hc'⟩:=h.own i u x hu hx
  have hK: ∀b,B≤b→b<V.heap.size→V'.heap[b]? =V.heap[b]? :=fun b hb hl=>hk.block b hl (hF b hb)
  refine⟨cs',zai ho' (fun g' hg' hb=>hK g' hb (zaj ho' hg').2),?_⟩;have:=(hc'.mono (H:=fun b=>zb5 B vs b∧b<V.heap.size) (fun b hb hl=>⟨hb,hl⟩)).keep (w':=V') hk.size (fun b hb hl=>hK b hb.1.1 hl);refine this.mono (fun b hb _=>⟨hb.1,fun e=> ?_⟩);have:=(zaj ho hg).1
  omega
structure zbS (ts:List Tok):Prop where
 good:zhA ts
 size: ∀t∈ts,t.text.length≤1000000
 kind: ∀t∈ts,t.kind=1∨t.kind=2∨t.kind=3
theorem zak {ts:List Tok} (h:zbS ts) (j:Nat) (b:UInt8) (s:List UInt8) (hb:zaJ b=false):zaA (b::s) (ts.drop j)=((hdT (ts.drop j)).text==b::s):=by
 unfold zaA;rcases Nat.lt_or_ge j ts.length with hj|hj
 ·rw[ziX ts j hj]
  have hm:=List.getElem_mem hj
  cases ht:(ts[j].text==b::s) with
  |false=>rfl
  |true=>
   have ht':ts[j].text=b::s:=by simpa using ht
   rcases h.kind _ hm with hk|hk|hk
   ·rw[hk];rfl
   ·have:=(h.good _ hm hk).1
    rw[ht'] at this;unfold zd6 at this;simp[hb] at this
   ·rw[hk];rfl
 ·rw[zbJ ts j hj];rfl
theorem zis: ∀(n p:Nat) (l:List UInt8),l.length≤n→(∀t∈(zbM p l).1,t.text.length≤l.length∧1≤t.kind∧t.kind≤3∧p≤t.at_∧t.at_+t.text.length≤p+l.length)∧(zbM p l).1.length≤l.length∧(zbM p l).2.1≤p+l.length∧(zbM p l).2.2≤72
 |n,p,l,hn=>by
  rw[zdD];have hd:(l.drop (zaC false l)).length=l.length-zaC false l:=List.length_drop;have hsk:=zdN false l
  cases h:l.drop (zaC false l) with
  |nil=>simp
  |cons b r=>
   rw[h] at hd;simp only[List.length_cons] at hd;have hle:=zia b r;have hkd:(za9 (b::r)).2.2=0→1≤(za9 (b::r)).1∧(za9 (b::r)).1≤3:=by
    intro h0;unfold za9 at h0 ⊢;simp only at h0 ⊢
    split
    ·split<;>simp
    ·split
     ·split<;>simp
     ·split<;>simp
   have her:(za9 (b::r)).2.2≤72:=by
    unfold za9;simp only
    split
    ·split<;>simp
    ·split
     ·split<;>simp
     ·split<;>simp
   simp only;by_cases h0:(za9 (b::r)).2.2=0
   ·have hp:=zcr b r h0
    have hl:((b::r).drop (za9 (b::r)).2.1).length=r.length+1-(za9 (b::r)).2.1:=by rw[List.length_drop,List.length_cons]
    cases n with
    |zero=>omega
    |succ n=>
     obtain⟨i1,i2,i3,i4⟩:=zis n (p+zaC false l+(za9 (b::r)).2.1) ((b::r).drop (za9 (b::r)).2.1) (by omega);rw[if_pos h0];rw[hl] at i1 i2 i3;refine⟨fun t ht=> ?_,by simp only[List.length_cons];omega,by simp only;omega,i4⟩;rcases List.mem_cons.1 ht with rfl|ht
     ·have hk:=hkd h0
      have hlt:((b::r).take (za9 (b::r)).2.1).length=(za9 (b::r)).2.1:=by rw[List.length_take,List.length_cons];omega
      simp only[hlt]
      omega
     ·obtain⟨j1,j2,j3,j4,j5⟩:=i1 t ht
      omega
   ·rw[if_neg h0]
    exact⟨fun t ht=>by simp at ht,by simp,by simp only;omega,her⟩
structure zpq (l:List UInt8):Prop where
 texts: ∀t∈(zbr l).1,t.text.length≤65536∧1≤t.kind∧t.kind≤3∧t.at_+t.text.length≤l.length
 count:(zbr l).1.length≤65536∧(zbr l).1.length≤l.length
 at_:(zbr l).2.1≤65536∧(zbr l).2.1≤l.length
 err:(zbr l).2.2≤72
 none_:(zbr l).2.2≠0→(zbr l).1=[]
theorem zol (l:List UInt8):zpq l:=by
 have h:=zis l.length 0 l (Nat.le_refl _);obtain⟨h1,h2,h3,h4⟩:=h;by_cases hl:65536<l.length
 ·have e:zbr l=([],0,3):=by unfold zbr;rw[if_pos hl]
  refine⟨?_,?_,?_,?_,?_⟩<;>rw[e]<;>simp
 ·by_cases h0:(zbM 0 l).2.2=0
  ·have e:zbr l=zbM 0 l:=by unfold zbr;rw[if_neg hl,if_pos h0]
   refine⟨?_,?_,?_,?_,?_⟩<;>rw[e]
   ·intro t ht;obtain⟨a,b,c,d,f⟩:=h1 t ht;omega
   ·omega
   ·omega
   ·exact h4
   ·exact fun h=>absurd h0 h
  ·have e:zbr l=([],(zbM 0 l).2.1,(zbM 0 l).2.2):=by unfold zbr;rw[if_neg hl,if_neg h0]
   refine⟨?_,?_,?_,?_,?_⟩<;>rw[e]
   ·intro t ht;simp at ht
   ·simp
   ·simp only;omega
   ·exact h4
   ·exact fun _=>rfl
theorem zfC (l:List UInt8):zbS (zbr l).1∧(zbr l).1.length≤65536:=by
 have h:=zol l;refine⟨⟨?_,fun t ht=>by have:=(h.texts t ht).1;omega,fun t ht=>by have:=h.texts t ht;omega⟩,h.count.1⟩;by_cases hl:65536<l.length
 ·have e:zbr l=([],0,3):=by unfold zbr;rw[if_pos hl]
  rw[e];intro t ht
  cases ht
 ·by_cases h0:(zbM 0 l).2.2=0
  ·have e:zbr l=zbM 0 l:=by unfold zbr;rw[if_neg hl,if_pos h0]
   rw[e];exact zmm 0 l (by omega) (fun t ht=>by have:=(zis l.length 0 l (Nat.le_refl _)).1 t ht;omega)
  ·have e:zbr l=([],(zbM 0 l).2.1,(zbM 0 l).2.2):=by unfold zbr;rw[if_neg hl,if_neg h0]
   rw[e];intro t ht
   cases ht
end Go.Proofs.YtlngbjphagnloaaGreatDoor
