/- Merged texts of the walks and of the plain laws on which the statement leans.-/
import Derived.Test.YtlngbjphagnloaaGreatDoorPk1
import Derived.Test.YtlngbjphagnloaaGreatDoorPk20
import Derived.Test.YtlngbjphagnloaaGreatDoorPk4
import Derived.Test.YtlngbjphagnloaaGreatDoorPk6
set_option maxHeartbeats 4000000
set_option maxRecDepth 100000
namespace Go.Proofs.YtlngbjphagnloaaGreatDoor
open Tryz
open Go.RowKit
open Go.ChangeMaps (setBlock)
attribute [local go_sem] zax.cell
def zcS (x:zas) (us:List Value):Value:= .agg #[zbj x.name,.int .i64 x.period,.int .i64 x.length,.int .i64 x.mem,us.getD 0 (.bool false),.int .i64 x.events,.int .i64 x.boards,us.getD 1 (.bool false),us.getD 2 (.bool false),us.getD 3 (.bool false)]
def zc0 (x:zas):List Dat:=[.row 1 (zbs x.semas),.row 1 (zbs x.bufs),.row 6 (x.ports.map zcp.cells),.row 5 (x.procs.map zca.cells)]
def zce:zas:=⟨[],0,0,0,[],0,0,[],[],[]⟩
def zec:Obj:= .cells #[Value.string ⟨#[]⟩,Value.int .i64 0,Value.int .i64 0,Value.int .i64 0,Value.slice none 0 0,Value.int .i64 0,Value.int .i64 0,Value.slice none 0 0,Value.slice none 0 0,Value.slice none 0 0] 51 (0,0)
def zmq (W:World):World:=((W.alloc zec).alloc (.map #[] 0)).alloc (zdv zce (W.heap.size+1) (.slice none 0 0) (.slice none 0 0) (.slice none 0 0) (.slice none 0 0))
structure zpv (W V:World) (pb j:Nat):Prop where
 atJ:AtJ pb j W V
 bst:BSt pb (W.heap.size+1+1) (W.heap.size+1) (W.heap.size+3) ⟨zce,[]⟩ (.slice none 0 0) (.slice none 0 0) (.slice none 0 0) (.slice none 0 0) V
 res:V.heap[W.heap.size]? =some zec
theorem zh0 (W:World) (pb j:Nat) (h1:W.cell? ⟨pb,1,none⟩=some (.int .i64 (j:Int))) (hf:W.frozen? ⟨pb,1,none⟩=false):zpv W (zmq W) pb j:=by
 have hp:=World.block_lt_of_cell? W ⟨pb,1,none⟩ h1;have hp:pb<W.heap.size:=hp;unfold zmq;refine⟨(AtJ.start h1 hf).below hp ((((Below.refl _ _).alloc (Nat.le_refl _) _).alloc (by simp) _).alloc (by simp;omega) _),⟨?_,⟨rfl,?_,?_,?_⟩,⟨#[],0,?_,rfl⟩,by simp;omega⟩,?_⟩
 ·have:=heap_alloc_new ((W.alloc zec).alloc (.map #[] 0)) (zdv zce (W.heap.size+1) (.slice none 0 0) (.slice none 0 0) (.slice none 0 0) (.slice none 0 0))
  simpa using this
 ·intro k r hr e he
  rcases(by have:=(List.getElem?_eq_some_iff.1 hr).1;simp[zbK] at this;omega:k=0∨k=1∨k=2∨k=3) with rfl|rfl|rfl|rfl
  all_goals
   simp[zbK,zce,zbs] at hr;subst hr;simp at he
 ·intro k v r hv hr
  rcases(by have:=(List.getElem?_eq_some_iff.1 hr).1;simp[zbK] at this;omega:k=0∨k=1∨k=2∨k=3) with rfl|rfl|rfl|rfl
  all_goals
   simp[zbK,zce,zbs] at hr hv;subst hr hv;exact⟨[],World.ownsRow_nil _ _ _ _,zaf.nil⟩
 ·intro k l u v g hu hv hug
  rcases(by have:=(List.getElem?_eq_some_iff.1 hu).1;simp at this;omega:k=0∨k=1∨k=2∨k=3) with rfl|rfl|rfl|rfl
  all_goals
   simp at hu;subst hu
   cases hug
 ·have h2:=heap_alloc_new (W.alloc zec) (.map #[] 0)
  rw[Below.heap_alloc _ _ _ (by simp)]
  simpa using h2
 ·rw[Below.heap_alloc _ _ _ (by simp;omega),Below.heap_alloc _ _ _ (by simp)]
  exact heap_alloc_new W zec
theorem BSt.put {pb bb mb B:Nat} {b b':zag} {v4 v7 v8 v9 v:Value} {o:Nat} {w:World} (h:BSt pb bb mb B b v4 v7 v8 v9 w) (hrow:(w.setCell ⟨bb,o,none⟩ v).heap[bb]? =some (zdv b'.p mb v4 v7 v8 v9)) (hp:zbK b'.p=zbK b.p) (hw:b'.what=b.what):BSt pb bb mb B b' v4 v7 v8 v9 (w.setCell ⟨bb,o,none⟩ v):=by
 obtain⟨l1,l2,l3,l4,l5,l6⟩:=h.low;refine⟨hrow,by rw[hp];exact h.rows.keep (by simp[World.setCell]) (fun b' hb _=>Below.heap_setCell _ _ _ _ (by show b'≠bb;omega)),?_,l1,l2,l3,l4,l5,by simp[World.setCell];omega⟩;rw[hw];exact h.seen.same (Below.heap_setCell _ _ _ _ (by show mb≠bb;omega))
theorem zl0 (pb j:Nat) (ts:List Tok) (W:World) (H:Hid (Cur pb ts j W)) (hts:ts.length≤1000000) (hj:j≤ts.length) (hT:Hid (zbS ts)) (hE:Hid (zci W)) (hpE:3≤pb):
 Calls prog 94 #[.pointer (some ⟨pb,0,none⟩)] W fun e W'=>zcP pb ts W zcS zc0 (zdX (ts.drop j)) e W':=by
 have hts':ts.length≤1099511627776:=by omega
 have hpb:=H.out.lt;have hgd:=zaa hT.out.good;have hmm:= @run_makeMap prog;have HF:=zaa (zh0 W pb j H.out.now H.out.free)
 go_enter func94,ntmps94
 go_wp2_with fail
 change Calls _ _ _ (zmq W) _
 generalize zmq W=V at *;have HA0:=zaa HF.out.atJ;have HB0:=zaa HF.out.bst;have HR0:=zaa HF.out.res;clear HF hmm;refine(zaU pb j ts V (zaa (H.out.to HA0.out)) hts' hj).mono ?_;rintro e w1 hE1;rcases hE1.split with⟨a1,j1,hr,hj1,hA,rfl⟩|⟨n,jn,hr,hjn,hA,rfl⟩
 rotate_left
 ·have HX:=zaa (zcP.mk_bad (conv:=zcS) (deep:=zc0) ((rfl:zdX (ts.drop j)=zdX (ts.drop j)).trans (zab hr)) hjn (HA0.out.trans hA))
  clear hA hr hE1;go_wp2_with fail;exact⟨rfl,HX.out⟩
 have HA1':=zaa (HA0.out.trans hA);have HB1':=zaa (HB0.out.to hA);have HR1':=zaa ((hA.kept.block W.heap.size (zal HR0.out) (by omega)).trans HR0.out);have HP1:=zaa ((rfl:zdX (ts.drop j)=zdX (ts.drop j)).trans (zac hr));clear hA hr hE1 HA0 HB0 HR0;have q0:w1.cell? ⟨W.heap.size+1+1,0,none⟩=_:=cell_of_row _ _ 0 _ _ _ HB1'.out.row;have q1:w1.frozen? ⟨W.heap.size+1+1,0,none⟩=false:=frozen_of_row _ _ 0 _ _ HB1'.out.row;have hl:=(zal HB1'.out.row);have HA1:=zaa (AtJ.fresh HA1'.out hpb (p:=⟨W.heap.size+1+1,0,none⟩) (by show W.heap.size+1+1≠pb;omega) (by show W.heap.size≤W.heap.size+1+1;omega) (Value.string ⟨a1.toArray⟩));have HB1:=zaa (HB1'.out.put (b':=⟨{zce with name:=a1},[]⟩) (o:=0) (v:=Value.string ⟨a1.toArray⟩) (heap_setCell_same _ _ 0 _ _ _ HB1'.out.row) rfl rfl);have HR1:=zaa ((Below.heap_setCell w1 ⟨W.heap.size+1+1,0,none⟩ (Value.string ⟨a1.toArray⟩) W.heap.size (by show W.heap.size≠W.heap.size+1+1;omega)).trans HR1'.out);clear HA1' HB1' HR1';go_wp2_with fail;clear q0 q1 hl;generalize w1.setCell ⟨W.heap.size+1+1,0,none⟩ (Value.string ⟨a1.toArray⟩)=V1 at *;refine zad (S:=fun _=>True) 23 (by kernel_rfl) (by kernel_rfl) trivial (fun hHeld=> ?_);have HAd:=zaa HA1.out.drew;have HBd:=zaa (HB1.out.bare (w':=V1.drew) rfl);have HRd:Hid (V1.drew.heap[W.heap.size]? =some zec):=HR1;clear HA1 HB1 HR1;have HA1:=HAd;have HB1:=HBd;have HR1:=HRd;clear HAd HBd HRd;generalize V1.drew=U1 at *;refine tyZ (v:= ?_) 0 15 rfl hHeld (fun v hS=> ?_) ?_;rotate_left
 ·skip
  go_simp
  with_reducible rfl
 (try simp only[pu])
 refine tyZ (v:= ?_) 1 16 rfl hHeld (fun v hS=> ?_) ?_;rotate_left
 ·skip
  go_simp
  with_reducible rfl
 (try simp only[pu])
 refine tyZ (v:= ?_) 2 17 rfl hHeld (fun v hS=> ?_) ?_;rotate_left
 ·skip
  go_simp
  with_reducible rfl
 (try simp only[pu])
 refine tyZ (v:= ?_) 3 18 rfl hHeld (fun v hS=> ?_) ?_;rotate_left
 ·skip
  go_simp
  with_reducible rfl
 (try simp only[pu])
 refine tyZ (v:= ?_) 4 19 rfl hHeld (fun v hS=> ?_) ?_;rotate_left
 ·skip
  go_simp
  with_reducible rfl
 (try simp only[pu])
 refine tyZ (v:= ?_) 5 20 rfl hHeld (fun v hS=> ?_) ?_;rotate_left
 ·skip
  go_simp
  with_reducible rfl
 (try simp only[pu])
 refine tyZ (v:= ?_) 7 22 rfl hHeld (fun v hS=> ?_) ?_;rotate_left
 ·skip
  go_simp
  with_reducible rfl
 (try simp only[pu])
 refine tyZ (v:= ?_) 8 23 rfl hHeld (fun v hS=> ?_) ?_;rotate_left
 ·skip
  go_simp
  with_reducible rfl
 (try simp only[pu])
 refine tyZ (v:= ?_) 9 24 rfl hHeld (fun v hS=> ?_) ?_;rotate_left
 ·skip
  go_simp
  with_reducible rfl
 (try simp only[pu])
 refine tyZ (v:= ?_) 11 26 rfl hHeld (fun v hS=> ?_) ?_;rotate_left
 ·skip
  go_simp
  with_reducible rfl
 (try simp only[pu])
 refine tyZ (v:= ?_) 12 27 rfl hHeld (fun v hS=> ?_) ?_;rotate_left
 ·skip
  go_simp
  with_reducible rfl
 (try simp only[pu])
 refine tyZ (v:= ?_) 13 28 rfl hHeld (fun v hS=> ?_) ?_;rotate_left
 ·skip
  go_simp
  with_reducible rfl
 (try simp only[pu])
 refine trZ [6] (zau.cons rfl (fun K hK=> ?_) zau.nil);go_simp;refine(zaG pb j1 ts ⟨#[112,101,114,105,111,100]⟩ _ (zaa (H.out.to HA1.out)) hts' hj1 hgd (by decide)).mono ?_;rintro e w2 hE2;rcases hE2.split with⟨a2,j2,hr,hj2,hA,rfl⟩|⟨n,jn,hr,hjn,hA,rfl⟩
 rotate_left
 ·have HX:=zaa (zcP.mk_bad (conv:=zcS) (deep:=zc0) (HP1.out.trans (zab hr)) hjn (HA1.out.trans hA))
  clear hA hr hE2;go_wp2_with fail;exact⟨rfl,HX.out⟩
 have HA2:=zaa (HA1.out.trans hA);have HB2:=zaa (HB1.out.to hA);have HR2:=zaa ((hA.kept.block W.heap.size (zal HR1.out) (by omega)).trans HR1.out);have HP2:=zaa (HP1.out.trans (zac hr));clear hA hr hE2 HA1 HB1 HR1 HP1;go_wp2_with fail;refine hK.out _ _ trivial (fun _=> ?_);clear hK K
 (try simp only[pu])
 refine trZ [10] (zau.cons rfl (fun K hK=> ?_) zau.nil);go_simp;refine(zaG pb j2 ts ⟨#[108,101,110,103,116,104]⟩ _ (zaa (H.out.to HA2.out)) hts' hj2 hgd (by decide)).mono ?_;rintro e w3 hE3;rcases hE3.split with⟨a3,j3,hr,hj3,hA,rfl⟩|⟨n,jn,hr,hjn,hA,rfl⟩
 rotate_left
 ·have HX:=zaa (zcP.mk_bad (conv:=zcS) (deep:=zc0) (HP2.out.trans (zab hr)) hjn (HA2.out.trans hA))
  clear hA hr hE3;go_wp2_with fail;exact⟨rfl,HX.out⟩
 have HA3:=zaa (HA2.out.trans hA);have HB3:=zaa (HB2.out.to hA);have HR3:=zaa ((hA.kept.block W.heap.size (zal HR2.out) (by omega)).trans HR2.out);have HP3:=zaa (HP2.out.trans (zac hr));clear hA hr hE3 HA2 HB2 HR2 HP2;go_wp2_with fail;refine hK.out _ _ trivial (fun _=> ?_);clear hK K
 (try simp only[pu])
 refine trZ [14] (zau.cons rfl (fun K hK=> ?_) zau.nil);go_simp;refine(zaG pb j3 ts ⟨#[109,101,109]⟩ _ (zaa (H.out.to HA3.out)) hts' hj3 hgd (by decide)).mono ?_;rintro e w4 hE4;rcases hE4.split with⟨a4,j4,hr,hj4,hA,rfl⟩|⟨n,jn,hr,hjn,hA,rfl⟩
 rotate_left
 ·have HX:=zaa (zcP.mk_bad (conv:=zcS) (deep:=zc0) (HP3.out.trans (zab hr)) hjn (HA3.out.trans hA))
  clear hA hr hE4;go_wp2_with fail;exact⟨rfl,HX.out⟩
 have HA4:=zaa (HA3.out.trans hA);have HB4:=zaa (HB3.out.to hA);have HR4:=zaa ((hA.kept.block W.heap.size (zal HR3.out) (by omega)).trans HR3.out);have HP4:=zaa (HP3.out.trans (zac hr));clear hA hr hE4 HA3 HB3 HR3 HP3;go_wp2_with fail;refine hK.out _ _ trivial (fun _=> ?_);clear hK K
 (try simp only[pu])
 have q0:w4.cell? ⟨W.heap.size+1+1,1,none⟩=_:=cell_of_row _ _ 1 _ _ _ HB4.out.row;have q1:w4.frozen? ⟨W.heap.size+1+1,1,none⟩=false:=frozen_of_row _ _ 1 _ _ HB4.out.row;have hl:=(zal HB4.out.row);refine tyZ (v:= ?_) 15 30 rfl hHeld (fun v hS=> ?_) ?_;rotate_left
 ·skip
  go_simp
  with_reducible rfl
 (try simp only[pu])
 refine tyZ (v:= ?_) 16 31 rfl hHeld (fun v hS=> ?_) ?_;rotate_left
 ·skip
  go_simp
  with_reducible rfl
 (try simp only[pu])
 refine tyZ (v:= ?_) 17 32 rfl hHeld (fun v hS=> ?_) ?_;rotate_left
 ·skip
  go_simp
  with_reducible rfl
 (try simp only[pu])
 refine trZ [18] (zau.cons rfl (fun K hK=> ?_) zau.nil);go_simp;refine hK.out _ _ trivial (fun _=> ?_);clear hK K q0 q1 hl
 (try simp only[pu])
 have HA':=zaa (AtJ.fresh HA4.out hpb (p:=⟨W.heap.size+1+1,1,none⟩) (by show W.heap.size+1+1≠pb;omega) (by show W.heap.size≤W.heap.size+1+1;omega) (Value.int .i64 a2));have HB':=zaa (HB4.out.put (b':=⟨{zce with name:=a1,period:=a2},[]⟩) (o:=1) (v:=Value.int .i64 a2) (heap_setCell_same _ _ 1 _ _ _ HB4.out.row) rfl rfl);have HR':=zaa ((Below.heap_setCell w4 ⟨W.heap.size+1+1,1,none⟩ (Value.int .i64 a2) W.heap.size (by show W.heap.size≠W.heap.size+1+1;omega)).trans HR4.out);clear HA4 HB4 HR4;have HA4:=HA';have HB4:=HB';have HR4:=HR';clear HA' HB' HR';have HZZ1:=zaa (show(w4.setCell ⟨W.heap.size+1+1,1,none⟩ (Value.int .i64 a2)).heap.size=w4.heap.size by simp[World.setCell]);generalize w4.setCell ⟨W.heap.size+1+1,1,none⟩ (Value.int .i64 a2)=X1 at *;have q0:X1.cell? ⟨W.heap.size+1+1,2,none⟩=_:=cell_of_row _ _ 2 _ _ _ HB4.out.row;have q1:X1.frozen? ⟨W.heap.size+1+1,2,none⟩=false:=frozen_of_row _ _ 2 _ _ HB4.out.row;have hl:=(zal HB4.out.row);refine tyZ (v:= ?_) 19 33 rfl hHeld (fun v hS=> ?_) ?_;rotate_left
 ·skip
  go_simp
  with_reducible rfl
 (try simp only[pu])
 refine tyZ (v:= ?_) 20 34 rfl hHeld (fun v hS=> ?_) ?_;rotate_left
 ·skip
  go_simp
  with_reducible rfl
 (try simp only[pu])
 refine tyZ (v:= ?_) 21 35 rfl hHeld (fun v hS=> ?_) ?_;rotate_left
 ·skip
  go_simp
  with_reducible rfl
 (try simp only[pu])
 refine trZ [22] (zau.cons rfl (fun K hK=> ?_) zau.nil);go_simp;refine hK.out _ _ trivial (fun _=> ?_);clear hK K q0 q1 hl
 (try simp only[pu])
 have HA':=zaa (AtJ.fresh HA4.out hpb (p:=⟨W.heap.size+1+1,2,none⟩) (by show W.heap.size+1+1≠pb;omega) (by show W.heap.size≤W.heap.size+1+1;omega) (Value.int .i64 a3));have HB':=zaa (HB4.out.put (b':=⟨{zce with name:=a1,period:=a2,length:=a3},[]⟩) (o:=2) (v:=Value.int .i64 a3) (heap_setCell_same _ _ 2 _ _ _ HB4.out.row) rfl rfl);have HR':=zaa ((Below.heap_setCell X1 ⟨W.heap.size+1+1,2,none⟩ (Value.int .i64 a3) W.heap.size (by show W.heap.size≠W.heap.size+1+1;omega)).trans HR4.out);clear HA4 HB4 HR4;have HA4:=HA';have HB4:=HB';have HR4:=HR';clear HA' HB' HR';have HZZ2:=zaa (show(X1.setCell ⟨W.heap.size+1+1,2,none⟩ (Value.int .i64 a3)).heap.size=X1.heap.size by simp[World.setCell]);generalize X1.setCell ⟨W.heap.size+1+1,2,none⟩ (Value.int .i64 a3)=X2 at *;have q0:X2.cell? ⟨W.heap.size+1+1,3,none⟩=_:=cell_of_row _ _ 3 _ _ _ HB4.out.row;have q1:X2.frozen? ⟨W.heap.size+1+1,3,none⟩=false:=frozen_of_row _ _ 3 _ _ HB4.out.row;have hl:=(zal HB4.out.row);refine zae (by kernel_rfl) ?_;simp only[List.drop_succ_cons,List.drop_zero];clear hHeld;go_wp2_with fail;clear q0 q1 hl;have HA':=zaa (AtJ.fresh HA4.out hpb (p:=⟨W.heap.size+1+1,3,none⟩) (by show W.heap.size+1+1≠pb;omega) (by show W.heap.size≤W.heap.size+1+1;omega) (Value.int .i64 a4));have HB':=zaa (HB4.out.put (b':=⟨{zce with name:=a1,period:=a2,length:=a3,mem:=a4},[]⟩) (o:=3) (v:=Value.int .i64 a4) (heap_setCell_same _ _ 3 _ _ _ HB4.out.row) rfl rfl);have HR':=zaa ((Below.heap_setCell X2 ⟨W.heap.size+1+1,3,none⟩ (Value.int .i64 a4) W.heap.size (by show W.heap.size≠W.heap.size+1+1;omega)).trans HR4.out);clear HA4 HB4 HR4;have HA4:=HA';have HB4:=HB';have HR4:=HR';clear HA' HB' HR';have HZZ3:=zaa (show(X2.setCell ⟨W.heap.size+1+1,3,none⟩ (Value.int .i64 a4)).heap.size=X2.heap.size by simp[World.setCell]);generalize X2.setCell ⟨W.heap.size+1+1,3,none⟩ (Value.int .i64 a4)=X3 at *;refine(zat pb j4 _ ts ⟨#[123]⟩ X3 (zaa (H.out.to HA4.out)) hts' hj4 (by decide) HZZ3.out.symm).mono ?_;rintro e w5 hE5;rcases hE5.split with⟨a5,j5,hr,hj5,hA,rfl⟩|⟨n,jn,hr,hjn,hA,rfl⟩
 rotate_left
 ·have HX:=zaa (zcP.mk_bad (conv:=zcS) (deep:=zc0) (HP4.out.trans (zab hr)) hjn (HA4.out.trans hA))
  clear hA hr hE5;go_wp2_with fail;exact⟨rfl,HX.out⟩
 have HA5:=zaa (HA4.out.trans hA);have HB5:=zaa (HB4.out.to hA);have HR5:=zaa ((hA.kept.block W.heap.size (zal HR4.out) (by omega)).trans HR4.out);have HP5:=zaa (HP4.out.trans (zac hr));clear hA hr hE5 HA4 HB4 HR4 HP4 HZZ1 HZZ2 HZZ3;go_wp2_with fail;have HP5':Hid (zdX (ts.drop j)=zg6 ((ts.drop j5).length+1) ⟨{zce with name:=a1,period:=a2,length:=a3,mem:=a4},[]⟩ (ts.drop j5)):=HP5;clear HP5;go_wp2_with fail
 go_loopw [] (fun wr=> ∃(b:zag) (k f:Nat) (v4 v7 v8 v9:Value),k≤ts.length∧ts.length-k<f∧b.p.things≤k∧AtJ pb k W wr∧BSt pb (W.heap.size+1+1) (W.heap.size+1) (W.heap.size+3) b v4 v7 v8 v9 wr∧wr.heap[W.heap.size]? =some zec∧zdX (ts.drop j)=zg6 f b (ts.drop k)) (fun wr=>ts.length-zbL pb wr)
 case atStart=>exact⟨_,j5,_,_,_,_,_,hj5,by simp,by simp[zas.things,zce],HA5.out,HB5.out,HR5.out,HP5'.out⟩
 case round=>
  obtain⟨b,k,f,v4,v7,v8,v9,hk,hf,hth,hA,hB,hR,hP⟩:=hrel;have HA:=zaa hA;have HB:=zaa hB;have HR:=zaa hR;have HP:=zaa hP;clear hA hB hR hP HA5 HB5 HR5 HP5';obtain⟨f,rfl⟩: ∃f',f=f'+1:=⟨f-1,by omega⟩;obtain⟨wo,rfl⟩: ∃wo:World,wo=wr:=⟨_,rfl⟩;have HM:Hid (zbL pb wo=k):=zaa (by unfold zbL;rw[HA.out.here];simp[intOf]);have HTK:=zaa (za6 pb k ts ⟨#[125]⟩ wo (zaa (H.out.to HA.out)) hts' hk (by decide))
  cases hS:zaA [125] (ts.drop k) with
  |true=>
   have HX0:=zaa (HP.out.trans (zly hS));have HTS:=zaa (zbX true hS);clear hS;go_wp2_with fail;refine(HTK.out).mono ?_;rintro e w6 hE6;rcases hE6.split with⟨t6,j6,hr,hj6,hA,rfl⟩|⟨n,jn,hr,hjn,hA,rfl⟩
   rotate_left
   ·exact absurd hr (zbh _ _)
   have hr2:=HTS.out.symm.trans hr;injection hr2 with hr2 hd2
   subst hr2;simp only[if_true] at hd2;have HA6:=zaa (HA.out.trans hA);have HB6:=zaa (HB.out.to hA);have HR6:=zaa ((hA.kept.block W.heap.size (zal HR.out) (by omega)).trans HR.out);have HX6:=zaa (HX0.out.trans (by rw[hd2]));clear hE6 hr hd2 hA HA HB HR HP HX0 HTK HTS;obtain⟨A4,q4,h4⟩:=zah (HB6.out.rows.own 0 v4 _ rfl rfl).choose_spec.1;dsimp only at h4;subst h4;obtain⟨A7,q7,h7⟩:=zah (HB6.out.rows.own 1 v7 _ rfl rfl).choose_spec.1;dsimp only at h7;subst h7;obtain⟨A8,q8,h8⟩:=zah (HB6.out.rows.own 2 v8 _ rfl rfl).choose_spec.1;dsimp only at h8;subst h8;obtain⟨A9,q9,h9⟩:=zah (HB6.out.rows.own 3 v9 _ rfl rfl).choose_spec.1;dsimp only at h9;subst h9;generalize(zbs b.p.semas).length=n4 at *;generalize(zbs b.p.bufs).length=n7 at *;generalize(b.p.ports.map zcp.cells).length=n8 at *;generalize(b.p.procs.map zca.cells).length=n9 at *;have c0:w6.cell? ⟨W.heap.size+1+1,0,none⟩=some (Value.string ⟨b.p.name.toArray⟩):=cell_of_row _ _ 0 _ _ _ HB6.out.row;have c1:w6.cell? ⟨W.heap.size+1+1,1,none⟩=some (Value.int .i64 b.p.period):=cell_of_row _ _ 1 _ _ _ HB6.out.row;have c2:w6.cell? ⟨W.heap.size+1+1,2,none⟩=some (Value.int .i64 b.p.length):=cell_of_row _ _ 2 _ _ _ HB6.out.row;have c3:w6.cell? ⟨W.heap.size+1+1,3,none⟩=some (Value.int .i64 b.p.mem):=cell_of_row _ _ 3 _ _ _ HB6.out.row;have c4:w6.cell? ⟨W.heap.size+1+1,4,none⟩=some ((Value.slice A4 n4 q4)):=cell_of_row _ _ 4 _ _ _ HB6.out.row;have c5:w6.cell? ⟨W.heap.size+1+1,5,none⟩=some (Value.int .i64 b.p.events):=cell_of_row _ _ 5 _ _ _ HB6.out.row;have c6:w6.cell? ⟨W.heap.size+1+1,6,none⟩=some (Value.int .i64 b.p.boards):=cell_of_row _ _ 6 _ _ _ HB6.out.row;have c7:w6.cell? ⟨W.heap.size+1+1,7,none⟩=some ((Value.slice A7 n7 q7)):=cell_of_row _ _ 7 _ _ _ HB6.out.row;have c8:w6.cell? ⟨W.heap.size+1+1,8,none⟩=some ((Value.slice A8 n8 q8)):=cell_of_row _ _ 8 _ _ _ HB6.out.row;have c9:w6.cell? ⟨W.heap.size+1+1,9,none⟩=some ((Value.slice A9 n9 q9)):=cell_of_row _ _ 9 _ _ _ HB6.out.row;have d0:w6.cell? ⟨W.heap.size,0,none⟩=some (Value.string ⟨#[]⟩):=cell_of_row _ _ 0 _ _ _ HR6.out;have g0:w6.frozen? ⟨W.heap.size,0,none⟩=false:=frozen_of_row _ _ 0 _ _ HR6.out;have d1:w6.cell? ⟨W.heap.size,1,none⟩=some (Value.int .i64 0):=cell_of_row _ _ 1 _ _ _ HR6.out;have g1:w6.frozen? ⟨W.heap.size,1,none⟩=false:=frozen_of_row _ _ 1 _ _ HR6.out;have d2:w6.cell? ⟨W.heap.size,2,none⟩=some (Value.int .i64 0):=cell_of_row _ _ 2 _ _ _ HR6.out;have g2:w6.frozen? ⟨W.heap.size,2,none⟩=false:=frozen_of_row _ _ 2 _ _ HR6.out;have d3:w6.cell? ⟨W.heap.size,3,none⟩=some (Value.int .i64 0):=cell_of_row _ _ 3 _ _ _ HR6.out;have g3:w6.frozen? ⟨W.heap.size,3,none⟩=false:=frozen_of_row _ _ 3 _ _ HR6.out;have d4:w6.cell? ⟨W.heap.size,4,none⟩=some (Value.slice none 0 0):=cell_of_row _ _ 4 _ _ _ HR6.out;have g4:w6.frozen? ⟨W.heap.size,4,none⟩=false:=frozen_of_row _ _ 4 _ _ HR6.out;have d5:w6.cell? ⟨W.heap.size,5,none⟩=some (Value.int .i64 0):=cell_of_row _ _ 5 _ _ _ HR6.out;have g5:w6.frozen? ⟨W.heap.size,5,none⟩=false:=frozen_of_row _ _ 5 _ _ HR6.out;have d6:w6.cell? ⟨W.heap.size,6,none⟩=some (Value.int .i64 0):=cell_of_row _ _ 6 _ _ _ HR6.out;have g6:w6.frozen? ⟨W.heap.size,6,none⟩=false:=frozen_of_row _ _ 6 _ _ HR6.out;have d7:w6.cell? ⟨W.heap.size,7,none⟩=some (Value.slice none 0 0):=cell_of_row _ _ 7 _ _ _ HR6.out;have g7:w6.frozen? ⟨W.heap.size,7,none⟩=false:=frozen_of_row _ _ 7 _ _ HR6.out;have d8:w6.cell? ⟨W.heap.size,8,none⟩=some (Value.slice none 0 0):=cell_of_row _ _ 8 _ _ _ HR6.out;have g8:w6.frozen? ⟨W.heap.size,8,none⟩=false:=frozen_of_row _ _ 8 _ _ HR6.out;have d9:w6.cell? ⟨W.heap.size,9,none⟩=some (Value.slice none 0 0):=cell_of_row _ _ 9 _ _ _ HR6.out;have g9:w6.frozen? ⟨W.heap.size,9,none⟩=false:=frozen_of_row _ _ 9 _ _ HR6.out;have hlb:=(zal HB6.out.row);have _hlr:=(zal HR6.out);have hKr:=(((((((((((zam.refl (fun k=>k=W.heap.size) w6).setCell (p:=⟨W.heap.size,0,none⟩) (.inl rfl) (Value.string ⟨b.p.name.toArray⟩)).setCell (p:=⟨W.heap.size,1,none⟩) (.inl rfl) (Value.int .i64 b.p.period)).setCell (p:=⟨W.heap.size,2,none⟩) (.inl rfl) (Value.int .i64 b.p.length)).setCell (p:=⟨W.heap.size,3,none⟩) (.inl rfl) (Value.int .i64 b.p.mem)).setCell (p:=⟨W.heap.size,4,none⟩) (.inl rfl) ((Value.slice A4 n4 q4))).setCell (p:=⟨W.heap.size,5,none⟩) (.inl rfl) (Value.int .i64 b.p.events)).setCell (p:=⟨W.heap.size,6,none⟩) (.inl rfl) (Value.int .i64 b.p.boards)).setCell (p:=⟨W.heap.size,7,none⟩) (.inl rfl) ((Value.slice A7 n7 q7))).setCell (p:=⟨W.heap.size,8,none⟩) (.inl rfl) ((Value.slice A8 n8 q8))).setCell (p:=⟨W.heap.size,9,none⟩) (.inl rfl) ((Value.slice A9 n9 q9)));have hRW:=fun(k:Nat) v r (hv:([(Value.slice A4 n4 q4),(Value.slice A7 n7 q7),(Value.slice A8 n8 q8),(Value.slice A9 n9 q9)]:List Value)[k]? =some v) (hr:(zbK b.p)[k]? =some r)=>((HB6.out.rows.dat hv hr).kept hKr (fun b hb e=>by omega)).mono (H:=fun b=>W.heap.size≤b) (fun b hb _=>by omega)
   have HX:=zaa (zcP.mk_ok (conv:=zcS) (deep:=zc0) (a:=b.p) (us:=[(Value.slice A4 n4 q4),(Value.slice A7 n7 q7),(Value.slice A8 n8 q8),(Value.slice A9 n9 q9)]) HX6.out hj6 (HA6.out.far hpb hKr (fun k hk e=>by omega)) (zaf.cons (hRW 0 _ _ rfl rfl) (zaf.cons (hRW 1 _ _ rfl rfl) (zaf.cons (hRW 2 _ _ rfl rfl) (zaf.cons (hRW 3 _ _ rfl rfl) zaf.nil)))) rfl);clear hKr hRW;go_wp2_with fail;refine bodyPost_ret (v:=zcS b.p [(Value.slice A4 n4 q4),(Value.slice A7 n7 q7),(Value.slice A8 n8 q8),(Value.slice A9 n9 q9)]) (by simp[results,Tryz.results94,go_sem,zcS,zbj,d0,d1,d2,d3,d4,d5,d6,d7,d8,d9]) rfl ?_;exact HX.out
  |false=>
   have HX0:=zaa (fun(b':zag) (r:List Tok) (ht:za3 b (ts.drop k)= .ok b' r)=>HP.out.trans (zmv (f:=f) hS ht));have HXB:=zaa (fun(n:Nat) (r:List Tok) (ht:za3 b (ts.drop k)= .bad n r)=>HP.out.trans (zkE (f:=f) hS ht));have HTS:=zaa (zbX false hS);clear hS;go_wp2_with fail;refine(HTK.out).mono ?_;rintro e w6 hE6;rcases hE6.split with⟨t6,j6,hr,hj6,hA,rfl⟩|⟨n,jn,hr,hjn,hA,rfl⟩
   rotate_left
   ·exact absurd hr (zbh _ _)
   have hr2:=HTS.out.symm.trans hr;injection hr2 with hr2 hd2
   subst hr2;obtain rfl:j6=k:=by
    have:=congrArg List.length hd2;simp only[Bool.false_eq_true,if_false,List.length_drop] at this
    omega
   have HA6:=zaa (HA.out.trans hA);have HB6:=zaa (HB.out.to hA);have HR6:=zaa ((hA.kept.block W.heap.size (zal HR.out) (by omega)).trans HR.out);have HE6:=zaa (hE.out.to hpE HA6.out);clear hE6 hr hd2 hA HA HB HR HP HTK HTS;have hrl:=(zal HR6.out);go_wp2_with fail;refine(zld pb j j6 _ _ _ ts b v4 v7 v8 v9 W w6 H hts hj6 hT HA6 HB6 hpb (by omega) (by omega) HE6 hpE (by unfold zas.things at hth;omega) (by unfold zas.things at hth;omega)).mono ?_;rintro e w7 ⟨hE7,hk7⟩;rcases hE7.split with⟨b7,j7,u4,u7,u8,u9,hr,hj7,hA,hB,rfl⟩|⟨n,jn,hr,hjn,hA,rfl⟩
   rotate_left
   ·have HX:=zaa (zcP.mk_bad (conv:=zcS) (deep:=zc0) (HXB.out _ _ hr) hjn hA)
    clear hE7 hr hA hk7;go_wp2_with fail;exact⟨rfl,HX.out⟩
   have hlt:=LTj hr (ziB b) hj7;have HM7:=zaa (show ts.length-zbL pb w7<ts.length-zbL pb wo by rw[HM.out];unfold zbL;rw[hA.here];simp[intOf];omega);have hgr:=zjL hr;have HA7:=zaa hA;have HB7:=zaa hB;have HR7:=zaa ((hk7.block W.heap.size hrl (by omega)).trans HR6.out);have HP7:=zaa (HX0.out _ _ hr);clear hE7 hr hA hB hk7;go_wp2_with fail;go_roundw
   case rel=>exact⟨b7,j7,f,u4,u7,u8,u9,hj7,by omega,by omega,HA7.out,HB7.out,HR7.out,HP7.out⟩
   case measure=>exact HM7.out
end Go.Proofs.YtlngbjphagnloaaGreatDoor
