/- Merged texts of the walks and of the plain laws on which the statement leans.-/
import Derived.Test.YtgbfaompondolaaGreatDoorPk9
import Derived.Test.YtgbfaompondolaaGreatDoorPk2
import Derived.Test.YtgbfaompondolaaGreatDoorPk1
import Derived.Deep.DeepCutAuto
set_option maxHeartbeats 4000000
set_option maxRecDepth 100000
namespace Go.Proofs.YtgbfaompondolaaGreatDoor
open Tryz
open Go.RowKit
attribute [local go_sem] zaj.cell
theorem zdR (n:Nat) (h:n≤255):(zaf zaP n).length≤3:=by
 have h2:((List.range 256).all fun k=>decide ((zaf zaP k).length≤3))=true:=by decide +kernel
 have:=List.all_eq_true.1 h2 n (by simp;omega)
 simpa using this
theorem zeK (x:zb3) (hop:x.op≤255) (W:World) (hP:Hid (zcT W)):
 Calls prog 148 #[.agg #[.int .u8 (x.op:Int),.int .i64 x.a,.int .i64 x.b,.int .i64 x.c]] W fun e w'=> ∃b,e= .returned (.slice (some ⟨b,0,none⟩) (zaf zaP x.op).length 3)∧w'.heap[b]? =some (.cells #[.int .i64 x.a,.int .i64 x.b,.int .i64 x.c] 3 (0,0))∧Below W.heap.size W w':=by
 have HX:=zaa (heap_alloc_new W (.cells #[.int .u8 (x.op:Int),.int .i64 x.a,.int .i64 x.b,.int .i64 x.c] 78));have HB:=zaa ((Below.refl W.heap.size W).alloc (Nat.le_refl _) (.cells #[.int .u8 (x.op:Int),.int .i64 x.a,.int .i64 x.b,.int .i64 x.c] 78));have HOP:=zaa (fun V (h:Hid (zcT V))=>zeL x.op V h hop);have h3:=zdR x.op hop;obtain⟨O,hO⟩: ∃O:ByteArray,(⟨(zaf zaP x.op).toArray⟩:ByteArray)=O:=⟨_,rfl⟩;have hOs:(zaf zaP x.op).length=O.size:=by rw[←hO];simp[ByteArray.size]
 rw[hO] at HOP;rw[hOs] at h3 ⊢;clear hO hOs;have o1:(O.size:Int)≤3:=by omega
 go_enter func148,ntmps148
 go_wp2_with fail;generalize W.alloc _=w0 at *;refine zak (S:=fun w'=>w'.heap[W.heap.size]? =w0.heap[W.heap.size]?) 11 (by kernel_rfl) (by kernel_rfl) rfl (fun hHeld=> ?_);have HBd:=zaa HB.out.drew;generalize w0.drew=U at *;refine tq 0 3 rfl hHeld ?_
 (try simp only[pu])
 refine tyZ (v:= ?_) 1 4 rfl hHeld (fun v hS=> ?_) ?_;rotate_left
 ·have e1:=cell_of_row _ _ 1 _ _ _ (hS.trans HX.out)
  go_simp
  with_reducible rfl
 refine tq 2 5 rfl hHeld ?_
 (try simp only[pu])
 refine tyZ (v:= ?_) 3 6 rfl hHeld (fun v hS=> ?_) ?_;rotate_left
 ·have e1:=cell_of_row _ _ 2 _ _ _ (hS.trans HX.out)
  go_simp
  with_reducible rfl
 refine tq 4 7 rfl hHeld ?_
 (try simp only[pu])
 refine tyZ (v:= ?_) 5 8 rfl hHeld (fun v hS=> ?_) ?_;rotate_left
 ·have e1:=cell_of_row _ _ 3 _ _ _ (hS.trans HX.out)
  go_simp
  with_reducible rfl
 refine tq 7 10 rfl hHeld ?_
 (try simp only[pu])
 refine tyZ (v:= ?_) 8 11 rfl hHeld (fun v hS=> ?_) ?_;rotate_left
 ·have e1:=cell_of_row _ _ 0 _ _ _ (hS.trans HX.out)
  go_simp
  with_reducible rfl
 (try simp only[pu])
 (try simp only[pu])
 refine trZ [6,9] (zaN.cons rfl (fun K hK=> ?_) (zaN.cons rfl (fun K hK=> ?_) zaN.nil))
 ·go_simp
  have hlU:=(zau (hHeld.trans HX.out));have HI:=zaa (heap_alloc_new U (.cells #[.int .i64 x.a,.int .i64 x.b,.int .i64 x.c] 3));have HB1:=zaa (HBd.out.alloc HBd.out.size (.cells #[.int .i64 x.a,.int .i64 x.b,.int .i64 x.c] 3));refine hK.out _ _ ((Below.heap_alloc U _ W.heap.size hlU).trans hHeld) (fun hHeld1=> ?_);clear hK K hHeld;generalize U.heap.size=ib at *;generalize U.alloc _=V at *
  (try simp only[pu])
  refine trZ [9] (zaN.cons rfl (fun K hK=> ?_) zaN.nil);go_simp;refine(HOP.out V (zaa (hP.out.below HB1.out))).mono ?_;rintro e w2 ⟨rfl,hb⟩;have HI2:=zaa ((hb.block ib (zau HI.out)).trans HI.out);have HB2:=zaa (btZ HB1.out hb);have hS2:=(hb.block W.heap.size (zau (hHeld1.trans HX.out))).trans hHeld1;clear hb hHeld1;go_wp2_with fail;refine hK.out _ _ hS2 (fun hHeld=> ?_);clear hK K;refine tq 10 13 rfl hHeld ?_
  (try simp only[pu])
  refine zan (by kernel_rfl) ?_;simp only[List.drop_succ_cons,List.drop_zero];clear hHeld hS2;go_wp2_with fail;go_ret;exact⟨_,rfl,HI2.out,HB2.out⟩
 ·go_simp
  refine(HOP.out U (zaa (hP.out.below HBd.out))).mono ?_;rintro e w2 ⟨rfl,hb⟩;have HB1:=zaa (btZ HBd.out hb);have hS2:=(hb.block W.heap.size (zau (hHeld.trans HX.out))).trans hHeld;clear hb hHeld;go_wp2_with fail;refine hK.out _ _ hS2 (fun hHeld=> ?_);clear hK K;refine tq 10 13 rfl hHeld ?_
  (try simp only[pu])
  refine trZ [6] (zaN.cons rfl (fun K hK=> ?_) zaN.nil);go_simp;have HI2:=zaa (heap_alloc_new w2 (.cells #[.int .i64 x.a,.int .i64 x.b,.int .i64 x.c] 3));have HB2:=zaa (HB1.out.alloc HB1.out.size (.cells #[.int .i64 x.a,.int .i64 x.b,.int .i64 x.c] 3));refine hK.out _ _ ((Below.heap_alloc w2 _ W.heap.size (zau (hHeld.trans HX.out))).trans hHeld) (fun hHeld1=> ?_);clear hK K hHeld hS2 hHeld1;generalize w2.heap.size=ib at *;generalize w2.alloc _=V at *
  (try simp only[pu])
  refine zan (by kernel_rfl) ?_;simp only[List.drop_succ_cons,List.drop_zero];go_wp2_with fail;go_ret;exact⟨_,rfl,HI2.out,HB2.out⟩
theorem zfU {w:World} {ib:Nat} {cs:Array Value} {T:TypeId} {fr:Nat×Nat} (h:w.heap[ib]? =some (.cells cs T fr)) (l:List Int) (hl:cs.toList=l.map fun n=>Value.int .i64 n) (k n c:Nat) (hn:(l.drop k).length=n) (hcap:n≤c:=by omega):DAt w (fun _=>True) (.slice (some ⟨ib,k,none⟩) n c) (.row 1 (zah (l.drop k))):=by
 have hval: ∀(i j:Nat) (e:List Dat) (d:Dat),(zah (l.drop k))[i]? =some e→e[j]? =some d→j=0∧ ∃x,l[k+i]? =some x∧d=lI x:=by
  intro i j e d he hd;unfold zah at he;rw[List.getElem?_map] at he;obtain⟨x,hx,rfl⟩:=Option.map_eq_some_iff.1 he;rw[List.getElem?_drop] at hx
  cases j with
  |zero=>simp at hd;exact⟨rfl,x,hx,hd.symm⟩
  |succ j=>simp at hd
 refine .row ib k c 1 n (zah (l.drop k)) (fun i _=> .int .i64 (l.getD (k+i) 0)) (by simpa [zah] using hn) trivial (zau h) (fun i j e d he hd=> ?_) (fun i j e d he hd=> ?_) hcap
 ·obtain⟨rfl,x,hx,_⟩:=hval i j e d he hd
  rw[Nat.mul_one,Nat.add_zero,cell_of_row w ib (k+i) _ _ _ h];have:cs[k+i]? =cs.toList[k+i]? :=by simp
  rw[this,hl,List.getElem?_map,hx];simp[List.getD,hx]
 ·obtain⟨rfl,x,hx,rfl⟩:=hval i j e d he hd
  simp only[List.getD,hx,Option.getD_some];exact .leaf _
theorem zkZ {w:World} {ib:Nat} {cs:Array Value} {T:TypeId} {fr:Nat×Nat} (h:w.heap[ib]? =some (.cells cs T fr)) (l:List Int) (hl:cs.toList=l.map fun n=>Value.int .i64 n) (n c:Nat) (hn:(l.take n).length=n) (hcap:n≤c:=by omega):DAt w (fun _=>True) (.slice (some ⟨ib,0,none⟩) n c) (.row 1 (zah (l.take n))):=by
 have hval: ∀(i j:Nat) (e:List Dat) (d:Dat),(zah (l.take n))[i]? =some e→e[j]? =some d→j=0∧ ∃x,l[i]? =some x∧d=lI x:=by
  intro i j e d he hd;unfold zah at he;rw[List.getElem?_map] at he;obtain⟨x,hx,rfl⟩:=Option.map_eq_some_iff.1 he;rw[List.getElem?_take] at hx
  split at hx
  ·cases j with
   |zero=>simp at hd;exact⟨rfl,x,hx,hd.symm⟩
   |succ j=>simp at hd
  ·cases hx
 refine .row ib 0 c 1 n (zah (l.take n)) (fun i _=> .int .i64 (l.getD i 0)) (by simpa [zah] using hn) trivial (zau h) (fun i j e d he hd=> ?_) (fun i j e d he hd=> ?_) hcap
 ·obtain⟨rfl,x,hx,_⟩:=hval i j e d he hd
  rw[Nat.mul_one,Nat.add_zero,Nat.zero_add,cell_of_row w ib i _ _ _ h];have:cs[i]? =cs.toList[i]? :=by simp
  rw[this,hl,List.getElem?_map,hx];simp[List.getD,hx]
 ·obtain⟨rfl,x,hx,rfl⟩:=hval i j e d he hd
  simp only[List.getD,hx,Option.getD_some];exact .leaf _
theorem znl {b:ByteArray} (h:b≠⟨#[]⟩):b.toList.isEmpty=false:=by
 rw[ByteArray.toList_eq]
 cases e:b.data.toList with
 |nil=>exact absurd (ByteArray.ext (by rw[←Array.toList_inj];exact e)) h
 |cons x l=>rfl
def zeg (x:zb3):Bool:=(zaf zaA x.op != [])&&(([x.a,x.b,x.c].take (zaf zaP x.op).length).all zbj&&([x.a,x.b,x.c].drop (zaf zaP x.op).length).all zdq)
theorem zoM (x:zb3) (hop:x.op≤255) (us:List Value) (W:World) (hP:Hid (zcT W)) (hd:Hid (zab W (fun _=>True) us x.cells)):
 Calls prog 82 #[.agg us.toArray] W fun e w'=>e= .returned (.bool (zeg x))∧Below W.heap.size W w':=by
 have hd:=hd.out;obtain⟨u0,u1,u2,u3,rfl,h0,h1,h2,h3⟩:=dc4 hd;obtain rfl:=h0.leaf_eq;obtain rfl:=h1.leaf_eq;obtain rfl:=h2.leaf_eq;obtain rfl:=h3.leaf_eq;clear hd h0 h1 h2 h3;have HX:=zaa (heap_alloc_new W (.cells #[.int .u8 (x.op:Int),.int .i64 x.a,.int .i64 x.b,.int .i64 x.c] 78));have HB:=zaa ((Below.refl W.heap.size W).alloc (Nat.le_refl _) (.cells #[.int .u8 (x.op:Int),.int .i64 x.a,.int .i64 x.b,.int .i64 x.c] 78));have HOP:=zaa (fun V (h:Hid (zcT V))=>zeL x.op V h hop);have h3:=zdR x.op hop;have HF:=zaa (show zeg x=((zaf zaA x.op != [])&&(([x.a,x.b,x.c].take (zaf zaP x.op).length).all zbj&&([x.a,x.b,x.c].drop (zaf zaP x.op).length).all zdq)) from rfl);obtain⟨O,hO⟩: ∃O:ByteArray,(⟨(zaf zaP x.op).toArray⟩:ByteArray)=O:=⟨_,rfl⟩;have hOs:(zaf zaP x.op).length=O.size:=by rw[←hO];simp[ByteArray.size]
 rw[hO] at HOP;rw[hOs] at h3 HF;have HOs:=zaa hOs;clear hO hOs;have o1:(O.size:Int)≤3:=by omega
 go_enter func82,ntmps82
 go_wp2_with fail;generalize W.alloc _=w0 at *;go_upto_region 1 with fail
 go_cut [3] (fun v3 wx=>Hid (DAt wx (fun _=>True) v3 (.row 1 (zah ([x.a,x.b,x.c].drop O.size))))∧Hid (wx.heap[W.heap.size]? =some (.cells #[.int .u8 (x.op:Int),.int .i64 x.a,.int .i64 x.b,.int .i64 x.c] 78 (0,0)))∧Hid (Below W.heap.size W wx))
 case first=>
  rcases(by omega:O.size=0∨O.size=1∨O.size=2∨O.size=3) with hn|hn|hn|hn
  ·have HDD:=zaa (fun(w:World) (ib:Nat) (h:w.heap[ib]? =some (.cells #[.int .i64 x.a,.int .i64 x.b,.int .i64 x.c] 3 (0,0)))=>zaa (show DAt w (fun _=>True) (.slice (some ⟨ib,0,none⟩) 3 3) (.row 1 (zah ([x.a,x.b,x.c].drop O.size))) from by rw[hn];exact zfU h [x.a,x.b,x.c] rfl 0 3 3 rfl))
   refine zak (S:=fun w'=>w'.heap[W.heap.size]? =w0.heap[W.heap.size]?) 11 (by kernel_rfl) (by kernel_rfl) rfl (fun hHeld=> ?_);have HBd:=zaa HB.out.drew;generalize w0.drew=U at *;refine tq 0 4 rfl hHeld ?_
   (try simp only[pu])
   refine tyZ (v:= ?_) 1 5 rfl hHeld (fun v hS=> ?_) ?_;rotate_left
   ·have e1:=cell_of_row _ _ 1 _ _ _ (hS.trans HX.out)
    go_simp
    with_reducible rfl
   refine tq 2 6 rfl hHeld ?_
   (try simp only[pu])
   refine tyZ (v:= ?_) 3 7 rfl hHeld (fun v hS=> ?_) ?_;rotate_left
   ·have e1:=cell_of_row _ _ 2 _ _ _ (hS.trans HX.out)
    go_simp
    with_reducible rfl
   refine tq 4 8 rfl hHeld ?_
   (try simp only[pu])
   refine tyZ (v:= ?_) 5 9 rfl hHeld (fun v hS=> ?_) ?_;rotate_left
   ·have e1:=cell_of_row _ _ 3 _ _ _ (hS.trans HX.out)
    go_simp
    with_reducible rfl
   refine tq 7 11 rfl hHeld ?_
   (try simp only[pu])
   refine tyZ (v:= ?_) 8 12 rfl hHeld (fun v hS=> ?_) ?_;rotate_left
   ·have e1:=cell_of_row _ _ 0 _ _ _ (hS.trans HX.out)
    go_simp
    with_reducible rfl
   (try simp only[pu])
   (try simp only[pu])
   refine trZ [6,9] (zaN.cons rfl (fun K hK=> ?_) (zaN.cons rfl (fun K hK=> ?_) zaN.nil))
   ·go_simp
    have hlU:=(zau (hHeld.trans HX.out));have HI:=zaa (heap_alloc_new U (.cells #[.int .i64 x.a,.int .i64 x.b,.int .i64 x.c] 3));have HB1:=zaa (HBd.out.alloc HBd.out.size (.cells #[.int .i64 x.a,.int .i64 x.b,.int .i64 x.c] 3));refine hK.out _ _ ((Below.heap_alloc U _ W.heap.size hlU).trans hHeld) (fun hHeld1=> ?_);clear hK K hHeld;generalize U.heap.size=ib at *;generalize U.alloc _=V at *
    (try simp only[pu])
    refine trZ [9] (zaN.cons rfl (fun K hK=> ?_) zaN.nil);go_simp;refine(HOP.out V (zaa (hP.out.below HB1.out))).mono ?_;rintro e w2 ⟨rfl,hb⟩;have HI2:=zaa ((hb.block ib (zau HI.out)).trans HI.out);have HB2:=zaa (btZ HB1.out hb);have hS2:=(hb.block W.heap.size (zau (hHeld1.trans HX.out))).trans hHeld1;clear hb hHeld1;go_wp2_with fail;refine hK.out _ _ hS2 (fun hHeld=> ?_);clear hK K;refine tq 10 14 rfl hHeld ?_
    (try simp only[pu])
    refine zan (by kernel_rfl) ?_;simp only[List.drop_succ_cons,List.drop_zero];have HX2:=zaa (hHeld.trans HX.out);clear hHeld hS2;go_wp2_with fail;go_meet;exact⟨HDD.out _ _ HI2.out,HX2,HB2⟩
   ·go_simp
    refine(HOP.out U (zaa (hP.out.below HBd.out))).mono ?_;rintro e w2 ⟨rfl,hb⟩;have HB1:=zaa (btZ HBd.out hb);have hS2:=(hb.block W.heap.size (zau (hHeld.trans HX.out))).trans hHeld;clear hb hHeld;go_wp2_with fail;refine hK.out _ _ hS2 (fun hHeld=> ?_);clear hK K;refine tq 10 14 rfl hHeld ?_
    (try simp only[pu])
    refine trZ [6] (zaN.cons rfl (fun K hK=> ?_) zaN.nil);go_simp;have HI2:=zaa (heap_alloc_new w2 (.cells #[.int .i64 x.a,.int .i64 x.b,.int .i64 x.c] 3));have HB2:=zaa (HB1.out.alloc HB1.out.size (.cells #[.int .i64 x.a,.int .i64 x.b,.int .i64 x.c] 3));refine hK.out _ _ ((Below.heap_alloc w2 _ W.heap.size (zau (hHeld.trans HX.out))).trans hHeld) (fun hHeld1=> ?_);have HX2:=zaa (hHeld1.trans HX.out);clear hK K hHeld hS2 hHeld1;generalize w2.heap.size=ib at *;generalize w2.alloc _=V at *
    (try simp only[pu])
    refine zan (by kernel_rfl) ?_;simp only[List.drop_succ_cons,List.drop_zero];go_wp2_with fail;go_meet;exact⟨HDD.out _ _ HI2.out,HX2,HB2⟩
  ·have HDD:=zaa (fun(w:World) (ib:Nat) (h:w.heap[ib]? =some (.cells #[.int .i64 x.a,.int .i64 x.b,.int .i64 x.c] 3 (0,0)))=>zaa (show DAt w (fun _=>True) (.slice (some ⟨ib,1,none⟩) 2 2) (.row 1 (zah ([x.a,x.b,x.c].drop O.size))) from by rw[hn];exact zfU h [x.a,x.b,x.c] rfl 1 2 2 rfl))
   refine zak (S:=fun w'=>w'.heap[W.heap.size]? =w0.heap[W.heap.size]?) 11 (by kernel_rfl) (by kernel_rfl) rfl (fun hHeld=> ?_);have HBd:=zaa HB.out.drew;generalize w0.drew=U at *;refine tq 0 4 rfl hHeld ?_
   (try simp only[pu])
   refine tyZ (v:= ?_) 1 5 rfl hHeld (fun v hS=> ?_) ?_;rotate_left
   ·have e1:=cell_of_row _ _ 1 _ _ _ (hS.trans HX.out)
    go_simp
    with_reducible rfl
   refine tq 2 6 rfl hHeld ?_
   (try simp only[pu])
   refine tyZ (v:= ?_) 3 7 rfl hHeld (fun v hS=> ?_) ?_;rotate_left
   ·have e1:=cell_of_row _ _ 2 _ _ _ (hS.trans HX.out)
    go_simp
    with_reducible rfl
   refine tq 4 8 rfl hHeld ?_
   (try simp only[pu])
   refine tyZ (v:= ?_) 5 9 rfl hHeld (fun v hS=> ?_) ?_;rotate_left
   ·have e1:=cell_of_row _ _ 3 _ _ _ (hS.trans HX.out)
    go_simp
    with_reducible rfl
   refine tq 7 11 rfl hHeld ?_
   (try simp only[pu])
   refine tyZ (v:= ?_) 8 12 rfl hHeld (fun v hS=> ?_) ?_;rotate_left
   ·have e1:=cell_of_row _ _ 0 _ _ _ (hS.trans HX.out)
    go_simp
    with_reducible rfl
   (try simp only[pu])
   (try simp only[pu])
   refine trZ [6,9] (zaN.cons rfl (fun K hK=> ?_) (zaN.cons rfl (fun K hK=> ?_) zaN.nil))
   ·go_simp
    have hlU:=(zau (hHeld.trans HX.out));have HI:=zaa (heap_alloc_new U (.cells #[.int .i64 x.a,.int .i64 x.b,.int .i64 x.c] 3));have HB1:=zaa (HBd.out.alloc HBd.out.size (.cells #[.int .i64 x.a,.int .i64 x.b,.int .i64 x.c] 3));refine hK.out _ _ ((Below.heap_alloc U _ W.heap.size hlU).trans hHeld) (fun hHeld1=> ?_);clear hK K hHeld;generalize U.heap.size=ib at *;generalize U.alloc _=V at *
    (try simp only[pu])
    refine trZ [9] (zaN.cons rfl (fun K hK=> ?_) zaN.nil);go_simp;refine(HOP.out V (zaa (hP.out.below HB1.out))).mono ?_;rintro e w2 ⟨rfl,hb⟩;have HI2:=zaa ((hb.block ib (zau HI.out)).trans HI.out);have HB2:=zaa (btZ HB1.out hb);have hS2:=(hb.block W.heap.size (zau (hHeld1.trans HX.out))).trans hHeld1;clear hb hHeld1;go_wp2_with fail;refine hK.out _ _ hS2 (fun hHeld=> ?_);clear hK K;refine tq 10 14 rfl hHeld ?_
    (try simp only[pu])
    refine zan (by kernel_rfl) ?_;simp only[List.drop_succ_cons,List.drop_zero];have HX2:=zaa (hHeld.trans HX.out);clear hHeld hS2;go_wp2_with fail;go_meet;exact⟨HDD.out _ _ HI2.out,HX2,HB2⟩
   ·go_simp
    refine(HOP.out U (zaa (hP.out.below HBd.out))).mono ?_;rintro e w2 ⟨rfl,hb⟩;have HB1:=zaa (btZ HBd.out hb);have hS2:=(hb.block W.heap.size (zau (hHeld.trans HX.out))).trans hHeld;clear hb hHeld;go_wp2_with fail;refine hK.out _ _ hS2 (fun hHeld=> ?_);clear hK K;refine tq 10 14 rfl hHeld ?_
    (try simp only[pu])
    refine trZ [6] (zaN.cons rfl (fun K hK=> ?_) zaN.nil);go_simp;have HI2:=zaa (heap_alloc_new w2 (.cells #[.int .i64 x.a,.int .i64 x.b,.int .i64 x.c] 3));have HB2:=zaa (HB1.out.alloc HB1.out.size (.cells #[.int .i64 x.a,.int .i64 x.b,.int .i64 x.c] 3));refine hK.out _ _ ((Below.heap_alloc w2 _ W.heap.size (zau (hHeld.trans HX.out))).trans hHeld) (fun hHeld1=> ?_);have HX2:=zaa (hHeld1.trans HX.out);clear hK K hHeld hS2 hHeld1;generalize w2.heap.size=ib at *;generalize w2.alloc _=V at *
    (try simp only[pu])
    refine zan (by kernel_rfl) ?_;simp only[List.drop_succ_cons,List.drop_zero];go_wp2_with fail;go_meet;exact⟨HDD.out _ _ HI2.out,HX2,HB2⟩
  ·have HDD:=zaa (fun(w:World) (ib:Nat) (h:w.heap[ib]? =some (.cells #[.int .i64 x.a,.int .i64 x.b,.int .i64 x.c] 3 (0,0)))=>zaa (show DAt w (fun _=>True) (.slice (some ⟨ib,2,none⟩) 1 1) (.row 1 (zah ([x.a,x.b,x.c].drop O.size))) from by rw[hn];exact zfU h [x.a,x.b,x.c] rfl 2 1 1 rfl))
   refine zak (S:=fun w'=>w'.heap[W.heap.size]? =w0.heap[W.heap.size]?) 11 (by kernel_rfl) (by kernel_rfl) rfl (fun hHeld=> ?_);have HBd:=zaa HB.out.drew;generalize w0.drew=U at *;refine tq 0 4 rfl hHeld ?_
   (try simp only[pu])
   refine tyZ (v:= ?_) 1 5 rfl hHeld (fun v hS=> ?_) ?_;rotate_left
   ·have e1:=cell_of_row _ _ 1 _ _ _ (hS.trans HX.out)
    go_simp
    with_reducible rfl
   refine tq 2 6 rfl hHeld ?_
   (try simp only[pu])
   refine tyZ (v:= ?_) 3 7 rfl hHeld (fun v hS=> ?_) ?_;rotate_left
   ·have e1:=cell_of_row _ _ 2 _ _ _ (hS.trans HX.out)
    go_simp
    with_reducible rfl
   refine tq 4 8 rfl hHeld ?_
   (try simp only[pu])
   refine tyZ (v:= ?_) 5 9 rfl hHeld (fun v hS=> ?_) ?_;rotate_left
   ·have e1:=cell_of_row _ _ 3 _ _ _ (hS.trans HX.out)
    go_simp
    with_reducible rfl
   refine tq 7 11 rfl hHeld ?_
   (try simp only[pu])
   refine tyZ (v:= ?_) 8 12 rfl hHeld (fun v hS=> ?_) ?_;rotate_left
   ·have e1:=cell_of_row _ _ 0 _ _ _ (hS.trans HX.out)
    go_simp
    with_reducible rfl
   (try simp only[pu])
   (try simp only[pu])
   refine trZ [6,9] (zaN.cons rfl (fun K hK=> ?_) (zaN.cons rfl (fun K hK=> ?_) zaN.nil))
   ·go_simp
    have hlU:=(zau (hHeld.trans HX.out));have HI:=zaa (heap_alloc_new U (.cells #[.int .i64 x.a,.int .i64 x.b,.int .i64 x.c] 3));have HB1:=zaa (HBd.out.alloc HBd.out.size (.cells #[.int .i64 x.a,.int .i64 x.b,.int .i64 x.c] 3));refine hK.out _ _ ((Below.heap_alloc U _ W.heap.size hlU).trans hHeld) (fun hHeld1=> ?_);clear hK K hHeld;generalize U.heap.size=ib at *;generalize U.alloc _=V at *
    (try simp only[pu])
    refine trZ [9] (zaN.cons rfl (fun K hK=> ?_) zaN.nil);go_simp;refine(HOP.out V (zaa (hP.out.below HB1.out))).mono ?_;rintro e w2 ⟨rfl,hb⟩;have HI2:=zaa ((hb.block ib (zau HI.out)).trans HI.out);have HB2:=zaa (btZ HB1.out hb);have hS2:=(hb.block W.heap.size (zau (hHeld1.trans HX.out))).trans hHeld1;clear hb hHeld1;go_wp2_with fail;refine hK.out _ _ hS2 (fun hHeld=> ?_);clear hK K;refine tq 10 14 rfl hHeld ?_
    (try simp only[pu])
    refine zan (by kernel_rfl) ?_;simp only[List.drop_succ_cons,List.drop_zero];have HX2:=zaa (hHeld.trans HX.out);clear hHeld hS2;go_wp2_with fail;go_meet;exact⟨HDD.out _ _ HI2.out,HX2,HB2⟩
   ·go_simp
    refine(HOP.out U (zaa (hP.out.below HBd.out))).mono ?_;rintro e w2 ⟨rfl,hb⟩;have HB1:=zaa (btZ HBd.out hb);have hS2:=(hb.block W.heap.size (zau (hHeld.trans HX.out))).trans hHeld;clear hb hHeld;go_wp2_with fail;refine hK.out _ _ hS2 (fun hHeld=> ?_);clear hK K;refine tq 10 14 rfl hHeld ?_
    (try simp only[pu])
    refine trZ [6] (zaN.cons rfl (fun K hK=> ?_) zaN.nil);go_simp;have HI2:=zaa (heap_alloc_new w2 (.cells #[.int .i64 x.a,.int .i64 x.b,.int .i64 x.c] 3));have HB2:=zaa (HB1.out.alloc HB1.out.size (.cells #[.int .i64 x.a,.int .i64 x.b,.int .i64 x.c] 3));refine hK.out _ _ ((Below.heap_alloc w2 _ W.heap.size (zau (hHeld.trans HX.out))).trans hHeld) (fun hHeld1=> ?_);have HX2:=zaa (hHeld1.trans HX.out);clear hK K hHeld hS2 hHeld1;generalize w2.heap.size=ib at *;generalize w2.alloc _=V at *
    (try simp only[pu])
    refine zan (by kernel_rfl) ?_;simp only[List.drop_succ_cons,List.drop_zero];go_wp2_with fail;go_meet;exact⟨HDD.out _ _ HI2.out,HX2,HB2⟩
  ·have HDD:=zaa (fun(w:World) (ib:Nat) (_:w.heap[ib]? =some (.cells #[.int .i64 x.a,.int .i64 x.b,.int .i64 x.c] 3 (0,0)))=>zaa (show DAt w (fun _=>True) (.slice (some ⟨ib,0,none⟩) 0 0) (.row 1 (zah ([x.a,x.b,x.c].drop O.size))) from by rw[hn];exact .nil _ _ _))
   refine zak (S:=fun w'=>w'.heap[W.heap.size]? =w0.heap[W.heap.size]?) 11 (by kernel_rfl) (by kernel_rfl) rfl (fun hHeld=> ?_);have HBd:=zaa HB.out.drew;generalize w0.drew=U at *;refine tq 0 4 rfl hHeld ?_
   (try simp only[pu])
   refine tyZ (v:= ?_) 1 5 rfl hHeld (fun v hS=> ?_) ?_;rotate_left
   ·have e1:=cell_of_row _ _ 1 _ _ _ (hS.trans HX.out)
    go_simp
    with_reducible rfl
   refine tq 2 6 rfl hHeld ?_
   (try simp only[pu])
   refine tyZ (v:= ?_) 3 7 rfl hHeld (fun v hS=> ?_) ?_;rotate_left
   ·have e1:=cell_of_row _ _ 2 _ _ _ (hS.trans HX.out)
    go_simp
    with_reducible rfl
   refine tq 4 8 rfl hHeld ?_
   (try simp only[pu])
   refine tyZ (v:= ?_) 5 9 rfl hHeld (fun v hS=> ?_) ?_;rotate_left
   ·have e1:=cell_of_row _ _ 3 _ _ _ (hS.trans HX.out)
    go_simp
    with_reducible rfl
   refine tq 7 11 rfl hHeld ?_
   (try simp only[pu])
   refine tyZ (v:= ?_) 8 12 rfl hHeld (fun v hS=> ?_) ?_;rotate_left
   ·have e1:=cell_of_row _ _ 0 _ _ _ (hS.trans HX.out)
    go_simp
    with_reducible rfl
   (try simp only[pu])
   (try simp only[pu])
   refine trZ [6,9] (zaN.cons rfl (fun K hK=> ?_) (zaN.cons rfl (fun K hK=> ?_) zaN.nil))
   ·go_simp
    have hlU:=(zau (hHeld.trans HX.out));have HI:=zaa (heap_alloc_new U (.cells #[.int .i64 x.a,.int .i64 x.b,.int .i64 x.c] 3));have HB1:=zaa (HBd.out.alloc HBd.out.size (.cells #[.int .i64 x.a,.int .i64 x.b,.int .i64 x.c] 3));refine hK.out _ _ ((Below.heap_alloc U _ W.heap.size hlU).trans hHeld) (fun hHeld1=> ?_);clear hK K hHeld;generalize U.heap.size=ib at *;generalize U.alloc _=V at *
    (try simp only[pu])
    refine trZ [9] (zaN.cons rfl (fun K hK=> ?_) zaN.nil);go_simp;refine(HOP.out V (zaa (hP.out.below HB1.out))).mono ?_;rintro e w2 ⟨rfl,hb⟩;have HI2:=zaa ((hb.block ib (zau HI.out)).trans HI.out);have HB2:=zaa (btZ HB1.out hb);have hS2:=(hb.block W.heap.size (zau (hHeld1.trans HX.out))).trans hHeld1;clear hb hHeld1;go_wp2_with fail;refine hK.out _ _ hS2 (fun hHeld=> ?_);clear hK K;refine tq 10 14 rfl hHeld ?_
    (try simp only[pu])
    refine zan (by kernel_rfl) ?_;simp only[List.drop_succ_cons,List.drop_zero];have HX2:=zaa (hHeld.trans HX.out);clear hHeld hS2;go_wp2_with fail;go_meet;exact⟨HDD.out _ _ HI2.out,HX2,HB2⟩
   ·go_simp
    refine(HOP.out U (zaa (hP.out.below HBd.out))).mono ?_;rintro e w2 ⟨rfl,hb⟩;have HB1:=zaa (btZ HBd.out hb);have hS2:=(hb.block W.heap.size (zau (hHeld.trans HX.out))).trans hHeld;clear hb hHeld;go_wp2_with fail;refine hK.out _ _ hS2 (fun hHeld=> ?_);clear hK K;refine tq 10 14 rfl hHeld ?_
    (try simp only[pu])
    refine trZ [6] (zaN.cons rfl (fun K hK=> ?_) zaN.nil);go_simp;have HI2:=zaa (heap_alloc_new w2 (.cells #[.int .i64 x.a,.int .i64 x.b,.int .i64 x.c] 3));have HB2:=zaa (HB1.out.alloc HB1.out.size (.cells #[.int .i64 x.a,.int .i64 x.b,.int .i64 x.c] 3));refine hK.out _ _ ((Below.heap_alloc w2 _ W.heap.size (zau (hHeld.trans HX.out))).trans hHeld) (fun hHeld1=> ?_);have HX2:=zaa (hHeld1.trans HX.out);clear hK K hHeld hS2 hHeld1;generalize w2.heap.size=ib at *;generalize w2.alloc _=V at *
    (try simp only[pu])
    refine zan (by kernel_rfl) ?_;simp only[List.drop_succ_cons,List.drop_zero];go_wp2_with fail;go_meet;exact⟨HDD.out _ _ HI2.out,HX2,HB2⟩
 case rest=>
  obtain⟨HD,HX2,HB2⟩:=hcut;clear HX HB HOP o1;obtain⟨w2,rfl⟩: ∃w2,w2=wc:=⟨_,rfl⟩;have HWd:=zaa (fun V (h:Hid (zcT V))=>zgp x.op V h hop);have hw:(⟨(zaf zaA x.op).toArray⟩:ByteArray)=⟨#[]⟩∧(zaf zaA x.op != [])=false∨(⟨(zaf zaA x.op).toArray⟩:ByteArray).toList.isEmpty=false∧(zaf zaA x.op != [])=true:=by
   by_cases h:zaf zaA x.op=[]
   ·exact .inl ⟨by rw[h],by rw[h];rfl⟩
   ·exact .inr ⟨znl (fun e=>h (by have:=congrArg (fun b:ByteArray=>b.data.toList) e;simpa using this)),by simpa using h⟩
  have HN:=zaa (fun(w:World) (b:Nat) (h:w.heap[b]? =some (.cells #[.int .i64 x.a,.int .i64 x.b,.int .i64 x.c] 3 (0,0)))=>zbQ _ _ w (zaa (zkZ h [x.a,x.b,x.c] rfl O.size 3 (by simp;omega))) (by simp;omega));have HZ:=zaa (fun(w:World) (hb:Below w2.heap.size w2 w)=>zmd _ _ w (zaa (HD.out.later hb)) (by simp;omega));have HR:=zaa (fun V (h:Hid (zcT V))=>zeK x hop V h);rw[HOs.out] at HR;generalize(zaf zaA x.op != [])=z0 at hw HF;generalize(⟨(zaf zaA x.op).toArray⟩:ByteArray)=F at hw HWd;generalize([x.a,x.b,x.c].take O.size).all zbj=z1 at HF HN;generalize([x.a,x.b,x.c].drop O.size).all zdq=z2 at HF HZ;obtain⟨c0,c1,c2,c3, -⟩:=row4 HX2.out rfl;rcases hw with⟨rfl,rfl⟩|⟨h0,rfl⟩
  ·go_wp2_with fail
   refine(HWd.out w2 (zaa (hP.out.below HB2.out))).mono ?_;rintro e w3 ⟨rfl,hb⟩;have HB3:=zaa (btZ HB2.out hb);clear hb c0 c1 c2 c3;go_wp2_with fail;go_ret;exact⟨by rw[HF.out];rfl,HB3.out⟩
  go_wp2_with fail;refine(HWd.out w2 (zaa (hP.out.below HB2.out))).mono ?_;rintro e w3 ⟨rfl,hb⟩;have HB3:=zaa (btZ HB2.out hb);have HH3:=zaa hb;have hx3:=(hb.block W.heap.size (zau HX2.out)).trans HX2.out;clear c0 c1 c2 c3 hb HWd;obtain⟨c0,c1,c2,c3, -⟩:=row4 hx3 rfl;go_wp2_with fail;refine(HR.out w3 (zaa (hP.out.below HB3.out))).mono ?_;rintro e w4 ⟨b,rfl,hi,hb⟩;have HB4:=zaa (btZ HB3.out hb);have HH4:=zaa (btZ HH3.out hb);have HN4:=zaa (HN.out w4 b hi);clear c0 c1 c2 c3 hb HR hx3 HN hi;go_wp2_with fail;refine HN4.out.mono ?_;rintro e w5 ⟨rfl,hb⟩;have HB5:=zaa (btZ HB4.out hb);have HH5:=zaa (btZ HH4.out hb);clear hb HN4
  cases z1 with
  |false=>
   go_wp2_with fail;go_ret;exact⟨by rw[HF.out];rfl,HB5.out⟩
  |true=>
   go_wp2_with fail;refine(HZ.out w5 HH5.out).mono ?_;rintro e w6 ⟨rfl,hb⟩;have HB6:=zaa (btZ HB5.out hb);clear hb HZ;go_wp2_with fail;go_ret;exact⟨by rw[HF.out];rfl,HB6.out⟩
end Go.Proofs.YtgbfaompondolaaGreatDoor
