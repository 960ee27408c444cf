/- Merged texts of the walks and of the plain laws on which the statement leans.-/
import Derived.Test.YtgbfaompondolaaGreatDoorPk1
import Derived.Test.YtgbfaompondolaaGreatDoorPk10
import Derived.Test.YtgbfaompondolaaGreatDoorPk9
import Derived.Test.YtgbfaompondolaaGreatDoorPk8
set_option maxHeartbeats 4000000
set_option maxRecDepth 100000
namespace Go.Proofs.YtgbfaompondolaaGreatDoor
open Tryz
open Go.RowKit
attribute [local go_sem] zaj.cell
def zcb (y:za0):Prop:=y.code.length≤140737488355328∧ ∀z∈y.code,z.op≤255
def zb0 (x:zaQ):Prop:=x.semas.length≤140737488355328∧x.bufs.length≤140737488355328∧x.ports.length≤140737488355328∧x.procs.length≤140737488355328∧ ∀y∈x.procs,zcb y
def zdl (x:zcy):Prop:=x.parts.length≤140737488355328∧ ∀y∈x.parts,zb0 y
def zdE (x:za0):Bool:=zaD x.name&&([x.prio,x.period,x.limit].all zbj&&(x.code.all zeg))
theorem zoe (x:za0) (us:List Value) (W:World) (hE:Hid (Env W)) (hd:Hid (zab W (fun _=>True) us x.cells)) (hP:Hid (zcT W)) (hl:zcb x):
 Calls prog 226 #[.agg us.toArray] W fun e w'=>e= .returned (.bool (zdE x))∧Below W.heap.size W w':=by
 have hd:=hd.out;obtain⟨u0,u1,u2,u3,u4,rfl,h0,h1,h2,h3,h4⟩:=dc5 hd;obtain rfl:=h0.leaf_eq;obtain rfl:=h1.leaf_eq;obtain rfl:=h2.leaf_eq;obtain rfl:=h3.leaf_eq;have H4:=zaa h4;obtain⟨A4,q4,rfl, -⟩:=h4.slice;simp only[List.length_map] at H4 ⊢;clear hd h0 h1 h2 h3 h4;simp only[zav];have HX:=zaa (heap_alloc_new W (.cells #[.string ⟨x.name.toArray⟩,.int .i64 x.prio,.int .i64 x.period,.int .i64 x.limit,.slice A4 x.code.length q4] 53));have HB:=zaa ((Below.refl W.heap.size W).alloc (Nat.le_refl _) (.cells #[.string ⟨x.name.toArray⟩,.int .i64 x.prio,.int .i64 x.period,.int .i64 x.limit,.slice A4 x.code.length q4] 53))
 go_enter func226,ntmps226
 go_wp2_with fail;generalize W.alloc _=w0 at *;have HC:=zaa (zbX ⟨x.name.toArray⟩ w0 (zaa (hE.out.kept HB.out)));simp only at HC;generalize hb0:(zaD x.name)=z0 at HC;have HZ0:=zaa hb0;clear hb0
 cases z0 with
 |false=>
  refine HC.out.mono ?_;rintro e w1 ⟨rfl,hb⟩;have HBn:=zaa (btZ HB.out hb);go_wp2_with fail;go_ret;exact⟨by unfold zdE;rw[HZ0.out];rfl,HBn.out⟩
 |true=>
  refine HC.out.mono ?_;rintro e w1 ⟨rfl,hb⟩;have HBn:=zaa (btZ HB.out hb);have HXn:=zaa (bkZ hb HX.out);clear HX HB HC hb;have HX:=HXn;have HB:=HBn;clear HXn HBn;obtain⟨c0,c1,c2,c3,c4⟩:=zkI HX.out rfl;go_wp2_with fail;clear c0 c1 c2 c3 c4;have HBa:=zaa (HB.out.alloc HB.out.size (.cells #[.int .i64 x.prio,.int .i64 x.period,.int .i64 x.limit] 3));have HC:=zaa (zbQ (.slice (some ⟨w1.heap.size,0,none⟩) 3 3) [x.prio,x.period,x.limit] (w1.alloc (.cells #[.int .i64 x.prio,.int .i64 x.period,.int .i64 x.limit] 3)) (zaa (za6 w1 [x.prio,x.period,x.limit] 3)) (by simp));generalize hb1:([x.prio,x.period,x.limit].all zbj)=z1 at HC;have HZ1:=zaa hb1;clear hb1
  cases z1 with
  |false=>
   refine HC.out.mono ?_;rintro e w2 ⟨rfl,hb⟩;have HBn:=zaa (btZ HBa.out hb);go_wp2_with fail;go_ret;exact⟨by unfold zdE;rw[HZ0.out,HZ1.out];rfl,HBn.out⟩
  |true=>
   refine HC.out.mono ?_;rintro e w2 ⟨rfl,hb⟩;have HBn:=zaa (btZ HBa.out hb);have HXn:=zaa ((hb.block _ (by have:=(zau HX.out);simp;omega)).trans ((Below.heap_alloc _ _ _ (zau HX.out)).trans HX.out));clear HX HB HC hb HBa;have HX:=HXn;have HB:=HBn;clear HXn HBn;obtain⟨c0,c1,c2,c3,c4⟩:=zkI HX.out rfl;go_wp2_with fail;clear c0 c1 c2 c3 c4;have HC:=zaa (zjX _ x.code zeg w2 (zaa (H4.out.later HB.out)) hl.1 (zaa (fun y hy us w' hb hd=>zoM y (hl.2 y hy) us w' (zaa (hP.out.below (btZ HB.out hb))) (zaa hd))));generalize hb2:(x.code.all zeg)=z2 at HC;have HZ2:=zaa hb2;clear hb2;refine HC.out.mono ?_;rintro e w3 ⟨rfl,hb⟩;have HBn:=zaa (btZ HB.out hb);go_wp2_with fail;go_ret;exact⟨by unfold zdE;rw[HZ0.out,HZ1.out,HZ2.out];rfl,HBn.out⟩
def zc0 (x:zaQ):Bool:=zaD x.name&&([x.period,x.length,x.mem,x.events,x.boards].all zbj&&(x.semas.all zbj&&(x.bufs.all zbj&&(x.ports.all zc5&&(x.procs.all zdE)))))
theorem zn6 (x:zaQ) (us:List Value) (W:World) (hE:Hid (Env W)) (hd:Hid (zab W (fun _=>True) us x.cells)) (hP:Hid (zcT W)) (hl:zb0 x):
 Calls prog 164 #[.agg us.toArray] W fun e w'=>e= .returned (.bool (zc0 x))∧Below W.heap.size W w':=by
 have hd:=hd.out;obtain⟨u0,u1,u2,u3,u4,u5,u6,u7,u8,u9,rfl,h0,h1,h2,h3,h4,h5,h6,h7,h8,h9⟩:=znr hd;obtain rfl:=h0.leaf_eq;obtain rfl:=h1.leaf_eq;obtain rfl:=h2.leaf_eq;obtain rfl:=h3.leaf_eq;have H4:=zaa h4;obtain⟨A4,q4,rfl, -⟩:=h4.slice;rw[show(zah x.semas).length=x.semas.length from by simp[zah]] at H4 ⊢;obtain rfl:=h5.leaf_eq;obtain rfl:=h6.leaf_eq;have H7:=zaa h7;obtain⟨A7,q7,rfl, -⟩:=h7.slice;rw[show(zah x.bufs).length=x.bufs.length from by simp[zah]] at H7 ⊢;have H8:=zaa h8;obtain⟨A8,q8,rfl, -⟩:=h8.slice;simp only[List.length_map] at H8 ⊢;have H9:=zaa h9;obtain⟨A9,q9,rfl, -⟩:=h9.slice;simp only[List.length_map] at H9 ⊢;clear hd h0 h1 h2 h3 h4 h5 h6 h7 h8 h9;simp only[zav];have HX:=zaa (heap_alloc_new W (.cells #[.string ⟨x.name.toArray⟩,.int .i64 x.period,.int .i64 x.length,.int .i64 x.mem,.slice A4 x.semas.length q4,.int .i64 x.events,.int .i64 x.boards,.slice A7 x.bufs.length q7,.slice A8 x.ports.length q8,.slice A9 x.procs.length q9] 49));have HB:=zaa ((Below.refl W.heap.size W).alloc (Nat.le_refl _) (.cells #[.string ⟨x.name.toArray⟩,.int .i64 x.period,.int .i64 x.length,.int .i64 x.mem,.slice A4 x.semas.length q4,.int .i64 x.events,.int .i64 x.boards,.slice A7 x.bufs.length q7,.slice A8 x.ports.length q8,.slice A9 x.procs.length q9] 49))
 go_enter func164,ntmps164
 go_wp2_with fail;generalize W.alloc _=w0 at *;have HC:=zaa (zbX ⟨x.name.toArray⟩ w0 (zaa (hE.out.kept HB.out)));simp only at HC;generalize hb0:(zaD x.name)=z0 at HC;have HZ0:=zaa hb0;clear hb0
 cases z0 with
 |false=>
  refine HC.out.mono ?_;rintro e w1 ⟨rfl,hb⟩;have HBn:=zaa (btZ HB.out hb);go_wp2_with fail;go_ret;exact⟨by unfold zc0;rw[HZ0.out];rfl,HBn.out⟩
 |true=>
  refine HC.out.mono ?_;rintro e w1 ⟨rfl,hb⟩;have HBn:=zaa (btZ HB.out hb);have HXn:=zaa (bkZ hb HX.out);clear HX HB HC hb;have HX:=HXn;have HB:=HBn;clear HXn HBn;obtain⟨c0,c1,c2,c3,c4,c5,c6,c7,c8,c9⟩:=zjT HX.out rfl;go_wp2_with fail;clear c0 c1 c2 c3 c4 c5 c6 c7 c8 c9;have HBa:=zaa (HB.out.alloc HB.out.size (.cells #[.int .i64 x.period,.int .i64 x.length,.int .i64 x.mem,.int .i64 x.events,.int .i64 x.boards] 3));have HC:=zaa (zbQ (.slice (some ⟨w1.heap.size,0,none⟩) 5 5) [x.period,x.length,x.mem,x.events,x.boards] (w1.alloc (.cells #[.int .i64 x.period,.int .i64 x.length,.int .i64 x.mem,.int .i64 x.events,.int .i64 x.boards] 3)) (zaa (za6 w1 [x.period,x.length,x.mem,x.events,x.boards] 3)) (by simp));generalize hb1:([x.period,x.length,x.mem,x.events,x.boards].all zbj)=z1 at HC;have HZ1:=zaa hb1;clear hb1
  cases z1 with
  |false=>
   refine HC.out.mono ?_;rintro e w2 ⟨rfl,hb⟩;have HBn:=zaa (btZ HBa.out hb);go_wp2_with fail;go_ret;exact⟨by unfold zc0;rw[HZ0.out,HZ1.out];rfl,HBn.out⟩
  |true=>
   refine HC.out.mono ?_;rintro e w2 ⟨rfl,hb⟩;have HBn:=zaa (btZ HBa.out hb);have HXn:=zaa ((hb.block _ (by have:=(zau HX.out);simp;omega)).trans ((Below.heap_alloc _ _ _ (zau HX.out)).trans HX.out));clear HX HB HC hb HBa;have HX:=HXn;have HB:=HBn;clear HXn HBn;obtain⟨c0,c1,c2,c3,c4,c5,c6,c7,c8,c9⟩:=zjT HX.out rfl;go_wp2_with fail;clear c0 c1 c2 c3 c4 c5 c6 c7 c8 c9;have HC:=zaa (zbQ _ x.semas w2 (zaa (H4.out.later HB.out)) hl.1);generalize hb2:(x.semas.all zbj)=z2 at HC;have HZ2:=zaa hb2;clear hb2
   cases z2 with
   |false=>
    refine HC.out.mono ?_;rintro e w3 ⟨rfl,hb⟩;have HBn:=zaa (btZ HB.out hb);go_wp2_with fail;go_ret;exact⟨by unfold zc0;rw[HZ0.out,HZ1.out,HZ2.out];rfl,HBn.out⟩
   |true=>
    refine HC.out.mono ?_;rintro e w3 ⟨rfl,hb⟩;have HBn:=zaa (btZ HB.out hb);have HXn:=zaa (bkZ hb HX.out);clear HX HB HC hb;have HX:=HXn;have HB:=HBn;clear HXn HBn;obtain⟨c0,c1,c2,c3,c4,c5,c6,c7,c8,c9⟩:=zjT HX.out rfl;go_wp2_with fail;clear c0 c1 c2 c3 c4 c5 c6 c7 c8 c9;have HC:=zaa (zbQ _ x.bufs w3 (zaa (H7.out.later HB.out)) hl.2.1);generalize hb3:(x.bufs.all zbj)=z3 at HC;have HZ3:=zaa hb3;clear hb3
    cases z3 with
    |false=>
     refine HC.out.mono ?_;rintro e w4 ⟨rfl,hb⟩;have HBn:=zaa (btZ HB.out hb);go_wp2_with fail;go_ret;exact⟨by unfold zc0;rw[HZ0.out,HZ1.out,HZ2.out,HZ3.out];rfl,HBn.out⟩
    |true=>
     refine HC.out.mono ?_;rintro e w4 ⟨rfl,hb⟩;have HBn:=zaa (btZ HB.out hb);have HXn:=zaa (bkZ hb HX.out);clear HX HB HC hb;have HX:=HXn;have HB:=HBn;clear HXn HBn;obtain⟨c0,c1,c2,c3,c4,c5,c6,c7,c8,c9⟩:=zjT HX.out rfl;go_wp2_with fail;clear c0 c1 c2 c3 c4 c5 c6 c7 c8 c9;have HC:=zaa (zk3 _ x.ports zc5 w4 (zaa (H8.out.later HB.out)) hl.2.2.1 (zaa (fun y hy us w' hb hd=>zoo y us w' (zaa (hE.out.kept (btZ HB.out hb))) (zaa hd))));generalize hb4:(x.ports.all zc5)=z4 at HC;have HZ4:=zaa hb4;clear hb4
     cases z4 with
     |false=>
      refine HC.out.mono ?_;rintro e w5 ⟨rfl,hb⟩;have HBn:=zaa (btZ HB.out hb);go_wp2_with fail;go_ret;exact⟨by unfold zc0;rw[HZ0.out,HZ1.out,HZ2.out,HZ3.out,HZ4.out];rfl,HBn.out⟩
     |true=>
      refine HC.out.mono ?_;rintro e w5 ⟨rfl,hb⟩;have HBn:=zaa (btZ HB.out hb);have HXn:=zaa (bkZ hb HX.out);clear HX HB HC hb;have HX:=HXn;have HB:=HBn;clear HXn HBn;obtain⟨c0,c1,c2,c3,c4,c5,c6,c7,c8,c9⟩:=zjT HX.out rfl;go_wp2_with fail;clear c0 c1 c2 c3 c4 c5 c6 c7 c8 c9;have HC:=zaa (zlR _ x.procs zdE w5 (zaa (H9.out.later HB.out)) hl.2.2.2.1 (zaa (fun y hy us w' hb hd=>zoe y us w' (zaa (hE.out.kept (btZ HB.out hb))) (zaa hd) (zaa (hP.out.below (btZ HB.out hb))) (hl.2.2.2.2 y hy))));generalize hb5:(x.procs.all zdE)=z5 at HC;have HZ5:=zaa hb5;clear hb5;refine HC.out.mono ?_;rintro e w6 ⟨rfl,hb⟩;have HBn:=zaa (btZ HB.out hb);go_wp2_with fail;go_ret;exact⟨by unfold zc0;rw[HZ0.out,HZ1.out,HZ2.out,HZ3.out,HZ4.out,HZ5.out];rfl,HBn.out⟩
def zeQ (x:zcy):Bool:=zaD x.name&&([x.mem,x.frame].all zbj&&(x.parts.all zc0))
theorem zpg (x:zcy) (us:List Value) (W:World) (hE:Hid (Env W)) (hd:Hid (zab W (fun _=>True) us x.cells)) (hP:Hid (zcT W)) (hl:zdl x):
 Calls prog 87 #[.agg us.toArray] W fun e w'=>e= .returned (.bool (zeQ x))∧Below W.heap.size W w':=by
 have hd:=hd.out;obtain⟨u0,u1,u2,u3,rfl,h0,h1,h2,h3⟩:=dc4 hd;obtain rfl:=h0.leaf_eq;obtain rfl:=h1.leaf_eq;obtain rfl:=h2.leaf_eq;have H3:=zaa h3;obtain⟨A3,q3,rfl, -⟩:=h3.slice;simp only[List.length_map] at H3 ⊢;clear hd h0 h1 h2 h3;simp only[zav];have HX:=zaa (heap_alloc_new W (.cells #[.string ⟨x.name.toArray⟩,.int .i64 x.mem,.int .i64 x.frame,.slice A3 x.parts.length q3] 44));have HB:=zaa ((Below.refl W.heap.size W).alloc (Nat.le_refl _) (.cells #[.string ⟨x.name.toArray⟩,.int .i64 x.mem,.int .i64 x.frame,.slice A3 x.parts.length q3] 44))
 go_enter func87,ntmps87
 go_wp2_with fail;generalize W.alloc _=w0 at *;have HC:=zaa (zbX ⟨x.name.toArray⟩ w0 (zaa (hE.out.kept HB.out)));simp only at HC;generalize hb0:(zaD x.name)=z0 at HC;have HZ0:=zaa hb0;clear hb0
 cases z0 with
 |false=>
  refine HC.out.mono ?_;rintro e w1 ⟨rfl,hb⟩;have HBn:=zaa (btZ HB.out hb);go_wp2_with fail;go_ret;exact⟨by unfold zeQ;rw[HZ0.out];rfl,HBn.out⟩
 |true=>
  refine HC.out.mono ?_;rintro e w1 ⟨rfl,hb⟩;have HBn:=zaa (btZ HB.out hb);have HXn:=zaa (bkZ hb HX.out);clear HX HB HC hb;have HX:=HXn;have HB:=HBn;clear HXn HBn;obtain⟨c0,c1,c2,c3⟩:=zc1 HX.out rfl;go_wp2_with fail;clear c0 c1 c2 c3;have HBa:=zaa (HB.out.alloc HB.out.size (.cells #[.int .i64 x.mem,.int .i64 x.frame] 3));have HC:=zaa (zbQ (.slice (some ⟨w1.heap.size,0,none⟩) 2 2) [x.mem,x.frame] (w1.alloc (.cells #[.int .i64 x.mem,.int .i64 x.frame] 3)) (zaa (za6 w1 [x.mem,x.frame] 3)) (by simp));generalize hb1:([x.mem,x.frame].all zbj)=z1 at HC;have HZ1:=zaa hb1;clear hb1
  cases z1 with
  |false=>
   refine HC.out.mono ?_;rintro e w2 ⟨rfl,hb⟩;have HBn:=zaa (btZ HBa.out hb);go_wp2_with fail;go_ret;exact⟨by unfold zeQ;rw[HZ0.out,HZ1.out];rfl,HBn.out⟩
  |true=>
   refine HC.out.mono ?_;rintro e w2 ⟨rfl,hb⟩;have HBn:=zaa (btZ HBa.out hb);have HXn:=zaa ((hb.block _ (by have:=(zau HX.out);simp;omega)).trans ((Below.heap_alloc _ _ _ (zau HX.out)).trans HX.out));clear HX HB HC hb HBa;have HX:=HXn;have HB:=HBn;clear HXn HBn;obtain⟨c0,c1,c2,c3⟩:=zc1 HX.out rfl;go_wp2_with fail;clear c0 c1 c2 c3;have HC:=zaa (zkN _ x.parts zc0 w2 (zaa (H3.out.later HB.out)) hl.1 (zaa (fun y hy us w' hb hd=>zn6 y us w' (zaa (hE.out.kept (btZ HB.out hb))) (zaa hd) (zaa (hP.out.below (btZ HB.out hb))) (hl.2 y hy))));generalize hb2:(x.parts.all zc0)=z2 at HC;have HZ2:=zaa hb2;clear hb2;refine HC.out.mono ?_;rintro e w3 ⟨rfl,hb⟩;have HBn:=zaa (btZ HB.out hb);go_wp2_with fail;go_ret;exact⟨by unfold zeQ;rw[HZ0.out,HZ1.out,HZ2.out];rfl,HBn.out⟩
def zcY (l:List UInt8):Bool:=l.isEmpty||zaD l
theorem zf9 (s:ByteArray) (W:World) (hE:Hid (Env W)):
 Calls prog 177 #[.string s] W fun e w'=>e= .returned (.bool (zcY s.data.toList))∧Below W.heap.size W w':=by
 have HC:=zaa (zbX s W hE);by_cases h:s=⟨#[]⟩
 ·subst h
  go_enter func177,ntmps177
  go_wp2_with fail;go_ret;exact⟨rfl,Below.refl _ _⟩
 ·have h0:=znl h
  have hF:zcY s.data.toList=zaD s.data.toList:=by
   rw[ByteArray.toList_eq] at h0;unfold zcY;rw[h0]
   rfl
  rw[hF];clear hF h;generalize zaD s.data.toList=z at *
  go_enter func177,ntmps177
  go_wp2_with fail;refine HC.out.mono ?_;rintro e w1 ⟨rfl,hb⟩;have HB:=zaa hb;go_wp2_with fail;go_ret;exact⟨rfl,HB.out⟩
theorem za9 (l:List UInt8):(⟨l.toArray⟩:ByteArray)=⟨#[]⟩∧(l != [])=false∨(⟨l.toArray⟩:ByteArray).toList.isEmpty=false∧(l != [])=true:=by
 by_cases h:l=[]
 ·exact .inl ⟨by rw[h],by rw[h];rfl⟩
 ·exact .inr ⟨znl (fun e=>h (by have:=congrArg (fun b:ByteArray=>b.data.toList) e;simpa using this)),by simpa using h⟩
def zbe (x:zaB):Bool:=zcY x.module&&(zcY x.part&&((zaf zal x.fault != [])&&((zaf zai x.level != [])&&(zaf zag x.do_ != []))))
theorem zlE (x:zaB) (us:List Value) (W:World) (hE:Hid (Env W)) (hP:Hid (zcT W)) (hf:x.fault≤255) (hl:x.level≤255) (ha:x.do_≤255) (hd:Hid (zab W (fun _=>True) us x.cells)):
 Calls prog 97 #[.agg us.toArray] W fun e w'=>e= .returned (.bool (zbe x))∧Below W.heap.size W w':=by
 have hd:=hd.out;obtain⟨u0,u1,u2,u3,u4,rfl,h0,h1,h2,h3,h4⟩:=dc5 hd;obtain rfl:=h0.leaf_eq;obtain rfl:=h1.leaf_eq;obtain rfl:=h2.leaf_eq;obtain rfl:=h3.leaf_eq;obtain rfl:=h4.leaf_eq;clear hd h0 h1 h2 h3 h4;simp only[zav];have HX:=zaa (heap_alloc_new W (.cells #[.string ⟨x.module.toArray⟩,.string ⟨x.part.toArray⟩,.int .u8 (x.fault:Int),.int .u8 (x.level:Int),.int .u8 (x.do_:Int)] 73));have HB:=zaa ((Below.refl W.heap.size W).alloc (Nat.le_refl _) (.cells #[.string ⟨x.module.toArray⟩,.string ⟨x.part.toArray⟩,.int .u8 (x.fault:Int),.int .u8 (x.level:Int),.int .u8 (x.do_:Int)] 73));have H1:=zaa (fun V (h:Hid (Env V))=>zf9 ⟨x.module.toArray⟩ V h);have H2:=zaa (fun V (h:Hid (Env V))=>zf9 ⟨x.part.toArray⟩ V h);simp only at H1 H2;have HFA:=zaa (fun V (h:Hid (zcT V))=>zgx x.fault V h.out hf);have HLE:=zaa (fun V (h:Hid (zcT V))=>zdK x.level V h.out hl);have HAC:=zaa (fun V (h:Hid (zcT V))=>zdo x.do_ V h.out ha);have HF:=zaa (show zbe x=(zcY x.module&&(zcY x.part&&((zaf zal x.fault != [])&&((zaf zai x.level != [])&&(zaf zag x.do_ != []))))) from rfl);have k3:=za9 (zaf zal x.fault);have k4:=za9 (zaf zai x.level);have k5:=za9 (zaf zag x.do_);generalize zcY x.module=z1 at *;generalize zcY x.part=z2 at *;generalize(zaf zal x.fault != [])=z3 at *;generalize(zaf zai x.level != [])=z4 at *;generalize(zaf zag x.do_ != [])=z5 at *;generalize(⟨(zaf zal x.fault).toArray⟩:ByteArray)=F at *;generalize(⟨(zaf zai x.level).toArray⟩:ByteArray)=L at *;generalize(⟨(zaf zag x.do_).toArray⟩:ByteArray)=D at *;generalize zbe x=z at *
 go_enter func97,ntmps97
 go_wp2_with fail;generalize W.alloc _=w0 at *
 cases z1 with
 |false=>
  refine(H1.out w0 (zaa (hE.out.kept HB.out))).mono ?_;rintro e w1 ⟨rfl,hb⟩;have HBn:=zaa (btZ HB.out hb);go_wp2_with fail;go_ret;exact⟨by rw[HF.out];rfl,HBn.out⟩
 |true=>
  refine(H1.out w0 (zaa (hE.out.kept HB.out))).mono ?_;rintro e w1 ⟨rfl,hb⟩;have HBn:=zaa (btZ HB.out hb);have HXn:=zaa (bkZ hb HX.out);clear HX HB hb H1;have HX:=HXn;have HB:=HBn;clear HXn HBn;obtain⟨c0,c1,c2,c3,c4⟩:=zkI HX.out rfl;go_wp2_with fail;clear c0 c1 c2 c3 c4
  cases z2 with
  |false=>
   refine(H2.out w1 (zaa (hE.out.kept HB.out))).mono ?_;rintro e w2 ⟨rfl,hb⟩;have HBn:=zaa (btZ HB.out hb);go_wp2_with fail;go_ret;exact⟨by rw[HF.out];rfl,HBn.out⟩
  |true=>
   refine(H2.out w1 (zaa (hE.out.kept HB.out))).mono ?_;rintro e w2 ⟨rfl,hb⟩;have HBn:=zaa (btZ HB.out hb);have HXn:=zaa (bkZ hb HX.out);clear HX HB hb H2;have HX:=HXn;have HB:=HBn;clear HXn HBn;obtain⟨c0,c1,c2,c3,c4⟩:=zkI HX.out rfl;go_wp2_with fail;clear c0 c1 c2 c3 c4;rcases k3 with⟨rfl,rfl⟩|⟨j3,rfl⟩
   ·refine(HFA.out w2 (zaa (hP.out.below HB.out))).mono ?_
    rintro e w3 ⟨rfl,hb⟩;have HBn:=zaa (btZ HB.out hb);go_wp2_with fail;go_ret;exact⟨by rw[HF.out];rfl,HBn.out⟩
   ·refine(HFA.out w2 (zaa (hP.out.below HB.out))).mono ?_
    rintro e w3 ⟨rfl,hb⟩;have HBn:=zaa (btZ HB.out hb);have HXn:=zaa (bkZ hb HX.out);clear HX HB hb HFA;have HX:=HXn;have HB:=HBn;clear HXn HBn;obtain⟨c0,c1,c2,c3,c4⟩:=zkI HX.out rfl;go_wp2_with fail;clear c0 c1 c2 c3 c4;rcases k4 with⟨rfl,rfl⟩|⟨j4,rfl⟩
    ·refine(HLE.out w3 (zaa (hP.out.below HB.out))).mono ?_
     rintro e w4 ⟨rfl,hb⟩;have HBn:=zaa (btZ HB.out hb);go_wp2_with fail;go_ret;exact⟨by rw[HF.out];rfl,HBn.out⟩
    ·refine(HLE.out w3 (zaa (hP.out.below HB.out))).mono ?_
     rintro e w4 ⟨rfl,hb⟩;have HBn:=zaa (btZ HB.out hb);have HXn:=zaa (bkZ hb HX.out);clear HX HB hb HLE;have HX:=HXn;have HB:=HBn;clear HXn HBn;obtain⟨c0,c1,c2,c3,c4⟩:=zkI HX.out rfl;go_wp2_with fail;clear c0 c1 c2 c3 c4;rcases k5 with⟨rfl,rfl⟩|⟨j5,rfl⟩
     ·refine(HAC.out w4 (zaa (hP.out.below HB.out))).mono ?_
      rintro e w5 ⟨rfl,hb⟩;have HBn:=zaa (btZ HB.out hb);go_wp2_with fail;go_ret;exact⟨by rw[HF.out];rfl,HBn.out⟩
     ·refine(HAC.out w4 (zaa (hP.out.below HB.out))).mono ?_
      rintro e w5 ⟨rfl,hb⟩;have HBn:=zaa (btZ HB.out hb);go_wp2_with fail;go_ret;exact⟨by rw[HF.out];rfl,HBn.out⟩
def zh2 (l:List (List UInt8)):List Value:=l.map fun s=> .string ⟨s.toArray⟩
theorem zjL {w:World} {A:Option Addr} {n q:Nat} {l:List (List UInt8)} (h:DAt w (fun _=>True) (.slice A n q) (.row 1 (zao l))):zbv w w.heap.size 1 A n (zh2 l):=by
 generalize hd:Dat.row 1 (zao l)=d at h;generalize hv:Value.slice A n q=v at h
 cases h with
 |leaf v=>cases hd
 |nil A' c size=>
  injection hd with _ h1
  injection hv with _ h2
  subst h2;have:l=[]:=by cases l with
   |nil=>rfl
   |cons a l=>simp[zao] at h1
  subst this;exact⟨rfl,fun h=>absurd h (by omega)⟩
 |row b off c size m es val hn hG hb hc hdd=>
  injection hd with h0 h1
  injection hv with h2 h3 h4
  subst h0 h1 h2 h3 h4;have hl:l.length=n:=by rw[←hn];simp[zao]
  refine⟨by simp[zh2,hl],fun _=>⟨_,rfl,hb,fun j u hu=> ?_⟩⟩;unfold zh2 at hu;rw[List.getElem?_map] at hu;obtain⟨s,hs,rfl⟩:=Option.map_eq_some_iff.1 hu;have he:(zao l)[j]? =some [lS s]:=by unfold zao;rw[List.getElem?_map,hs];rfl
  have h5:=hc j 0 _ _ he rfl;have h6:=(hdd j 0 _ _ he rfl).leaf_eq;rw[h6] at h5;rw[Nat.mul_one,Nat.add_zero] at h5;refine Eq.trans ?_ h5
  congr 1
  unfold Addr.add
  split
  ·rename_i h;rw[h];rfl
  ·simp
theorem zfc {w:World} {base:Nat} {v:Value} {n:Nat} {l:List (List UInt8)} (h:w.ownsRow base 9 1 v n (zh2 l)):DAt w (fun _=>True) v (.row 1 (zao l)):=by
 have hl:(zao l).length=n:=by have:=h.1;simp[zh2] at this;simp[zao,this]
 have hf:(zao l).flatten=(zh2 l).map Dat.leaf:=zeW _ l;exact(zg7 (G:=fun _=>True) hl (fun e he=>by
  unfold zao at he;obtain⟨s,_,rfl⟩:=List.mem_map.1 he
  rfl) h (by rw[hf];exact zcI _)).mono fun _ _ _=>trivial
def zch (x:zaF):Bool:=(x.unit::x.but).all zaD&&(decide (0<x.needs.length)&&x.needs.all zf1)
theorem zcs:(prog.info? 9).map (fun i=>(i.zero,i.size,i.bytes))=some (some (.string ⟨#[]⟩),1,16):=by kernel_rfl
theorem zmx (x:zaF) (us:List Value) (W:World) (hE:Hid (Env W)) (hn:x.needs.length≤140737488355328) (hb:x.but.length<1000000000000) (hd:Hid (zab W (fun _=>True) us x.cells)):
 Calls prog 99 #[.agg us.toArray] W fun e w'=>e= .returned (.bool (zch x))∧Below W.heap.size W w':=by
 have hd:=hd.out;obtain⟨u0,u1,u2,rfl,h0,h1,h2⟩:=dc3 hd;obtain rfl:=h0.leaf_eq;have H1:=zaa h1;obtain⟨A1,q1,rfl, -⟩:=h1.slice;simp only[List.length_map] at H1 ⊢;have H2:=zaa h2;obtain⟨A2,q2,rfl, -⟩:=h2.slice;rw[show(zao x.but).length=x.but.length from by simp[zao]] at H2 ⊢;clear hd h0 h1 h2;simp only[zav];obtain⟨i0,hi0,hz0,hz1,hz2⟩:=info_parts zcs;have HX:=zaa (heap_alloc_new W (.cells #[.string ⟨x.unit.toArray⟩,.slice A1 x.needs.length q1,.slice A2 x.but.length q2] 65));have HB:=zaa ((Below.refl W.heap.size W).alloc (Nat.le_refl _) (.cells #[.string ⟨x.unit.toArray⟩,.slice A1 x.needs.length q1,.slice A2 x.but.length q2] 65))
 go_enter func99,ntmps99
 go_wp2_with(at_builtin;apply Hid.out)
 have hzw:(W.alloc (.cells #[.string ⟨x.unit.toArray⟩,.slice A1 x.needs.length q1,.slice A2 x.but.length q2] 65)).heap.size=W.heap.size+1:=by simp
 rw[←hzw];generalize W.alloc _=w0 at *;have hw0:W.heap.size≤w0.heap.size:=by omega
 have HO:=zaa (World.ownsRow_lit (base:=W.heap.size) (e:=9) (size:=1) w0 #[.string ⟨x.unit.toArray⟩] 1 hw0 (by unfold maxLen;omega) rfl);have HRD:=zaa ((zjL (H2.out.later HB.out)).alloc (Nat.le_refl _) (.cells #[.string ⟨x.unit.toArray⟩] 9));have HX1:=zaa ((Below.heap_alloc w0 (.cells #[.string ⟨x.unit.toArray⟩] 9) _ (zau HX.out)).trans HX.out);have HB1:=zaa (HB.out.alloc HB.out.size (.cells #[.string ⟨x.unit.toArray⟩] 9));have HBs:=zaa hw0;have HZ:=zaa hzw;clear HX HB hw0 hzw H2;refine zaw _ rfl _ _ 63 rfl W.heap.size 9 i0 _ 1 16 underlying63 hi0 hz0 hz1 hz2 rfl (by decide) (.slice (some ⟨w0.heap.size,0,none⟩) 1 1) _ _ rfl HO.out _ A2 x.but.length q2 _ rfl HRD.out (fun u hu=>by unfold zh2 at hu;obtain⟨s,_,rfl⟩:=List.mem_map.1 hu;rfl) (by unfold maxLen;omega) (by omega) (by have:=HB1.out.size;omega) ?_;intro v5 w1 hown hg hat;have HD:=zaa (zfc (l:=x.unit::x.but) hown);have HB2:=zaa (HB1.out.grown hg HB1.out.size (fun g e=>by injection e with e;subst e;exact HBs.out));have HX2:=zaa ((hg.block W.heap.size (by have:=(zau HX1.out);exact this) (fun e=>by injection e with e;have e':W.heap.size=w0.heap.size:=e;have:=HZ.out;omega)).trans HX1.out);clear HX1 HB1 hown hg hat HRD HO hi0 hz0 hz1 hz2;have HW:=zaa (zeq _ _ _ HD (by simp;omega) (zaa (hE.out.kept HB2.out)));have HF:=zaa (show zch x=((x.unit::x.but).all zaD&&(decide (0<x.needs.length)&&x.needs.all zf1)) from rfl);have HRP:=zaa (fun w (hw:Below W.heap.size W w)=>znu _ x.needs zf1 w (zaa (H1.out.later hw)) hn (zaa (fun y _ us w' hb hd=>zpA y us w' (zaa (hE.out.kept (btZ hw hb))) (zaa hd))));generalize(x.unit::x.but).all zaD=z1 at *;generalize x.needs.all zf1=z2 at *;clear HD H1;go_wp2_with fail;refine HW.out.mono ?_;rintro e w2 ⟨rfl,hb⟩;have HB3:=zaa (btZ HB2.out hb);have HX3:=zaa (bkZ hb HX2.out);clear hb HW HX2 HB2
 cases z1 with
 |false=>
  go_wp2_with fail;go_ret;exact⟨by rw[HF.out];rfl,HB3.out⟩
 |true=>
  have c1:=cell_of_row _ _ 1 _ _ _ HX3.out;by_cases h0:x.needs.length=0
  ·rw[h0] at c1 HF
   go_wp2_with fail;go_ret;exact⟨by rw[HF.out];rfl,HB3.out⟩
  ·have h1:(0:Int)<(x.needs.length:Int):=by omega
   have HD1:=zaa (show decide (0<x.needs.length)=true by simp;omega);rw[HD1.out] at HF;have HR:=zaa (HRP.out w2 HB3.out);clear h0 HRP HX3;go_wp2_with fail;refine HR.out.mono ?_;rintro e w3 ⟨rfl,hb⟩;have HB4:=zaa (btZ HB3.out hb);clear hb HR c1;go_wp2_with fail;go_ret;exact⟨by rw[HF.out];rfl,HB4.out⟩
def zbR (x:zaF):Prop:=x.needs.length≤140737488355328∧x.but.length<1000000000000
def zdN (x:zaB):Prop:=x.fault≤255∧x.level≤255∧x.do_≤255
structure zdB (x:zcS):Prop where
 nm:x.modules.length≤140737488355328
 m: ∀y∈x.modules,zdl y
 nc:x.channels.length≤140737488355328
 c: ∀y∈x.channels,y.to.length≤140737488355328
 ns:x.switches.length≤140737488355328
 nl:x.links.length≤140737488355328
 nv:x.vls.length≤140737488355328
 v: ∀y∈x.vls,y.to.length≤140737488355328
 nh:x.health.length≤140737488355328
 h: ∀y∈x.health,zdN y
 nk:x.causes.length≤140737488355328
 k: ∀y∈x.causes,zbR y
 nr:x.versions.length≤140737488355328
def zev (x:zcS):Bool:=x.modules.all zeQ&&(x.channels.all zed&&(x.switches.all swF&&(x.links.all zdc&&(x.vls.all vlF&&(x.health.all zbe&&(x.causes.all zch&&(x.versions.all zgN)))))))
theorem zow (x:zcS) (us:List Value) (W:World) (hE:Hid (Env W)) (hd:Hid (zab W (fun _=>True) us x.cells)) (hP:Hid (zcT W)) (hl:zdB x):
 Calls prog 20 #[.agg us.toArray] W fun e w'=>e= .returned (.bool (zev x))∧Below W.heap.size W w':=by
 have hd:=hd.out;obtain⟨u0,u1,u2,u3,u4,u5,u6,u7,rfl,h0,h1,h2,h3,h4,h5,h6,h7⟩:=dc8 hd;have H0:=zaa h0;obtain⟨A0,q0,rfl, -⟩:=h0.slice;simp only[List.length_map] at H0 ⊢;have H1:=zaa h1;obtain⟨A1,q1,rfl, -⟩:=h1.slice;simp only[List.length_map] at H1 ⊢;have H2:=zaa h2;obtain⟨A2,q2,rfl, -⟩:=h2.slice;simp only[List.length_map] at H2 ⊢;have H3:=zaa h3;obtain⟨A3,q3,rfl, -⟩:=h3.slice;simp only[List.length_map] at H3 ⊢;have H4:=zaa h4;obtain⟨A4,q4,rfl, -⟩:=h4.slice;simp only[List.length_map] at H4 ⊢;have H5:=zaa h5;obtain⟨A5,q5,rfl, -⟩:=h5.slice;simp only[List.length_map] at H5 ⊢;have H6:=zaa h6;obtain⟨A6,q6,rfl, -⟩:=h6.slice;simp only[List.length_map] at H6 ⊢;have H7:=zaa h7;obtain⟨A7,q7,rfl, -⟩:=h7.slice;simp only[List.length_map] at H7 ⊢;clear hd h0 h1 h2 h3 h4 h5 h6 h7;have HX:=zaa (heap_alloc_new W (.cells #[.slice A0 x.modules.length q0,.slice A1 x.channels.length q1,.slice A2 x.switches.length q2,.slice A3 x.links.length q3,.slice A4 x.vls.length q4,.slice A5 x.health.length q5,.slice A6 x.causes.length q6,.slice A7 x.versions.length q7] 31));have HB:=zaa ((Below.refl W.heap.size W).alloc (Nat.le_refl _) (.cells #[.slice A0 x.modules.length q0,.slice A1 x.channels.length q1,.slice A2 x.switches.length q2,.slice A3 x.links.length q3,.slice A4 x.vls.length q4,.slice A5 x.health.length q5,.slice A6 x.causes.length q6,.slice A7 x.versions.length q7] 31))
 go_enter func20,ntmps20
 go_wp2_with fail;generalize W.alloc _=w0 at *;have HC:=zaa (zm5 _ x.modules zeQ w0 (zaa (H0.out.later HB.out)) hl.nm (zaa (fun y hy us w' hb hd=>zpg y us w' (zaa (hE.out.kept (btZ HB.out hb))) (zaa hd) (zaa (hP.out.below (btZ HB.out hb))) (hl.m y hy))));generalize hb0:(x.modules.all zeQ)=z0 at HC;have HZ0:=zaa hb0;clear hb0
 cases z0 with
 |false=>
  refine HC.out.mono ?_;rintro e w1 ⟨rfl,hb⟩;have HBn:=zaa (btZ HB.out hb);go_wp2_with fail;go_ret;exact⟨by unfold zev;rw[HZ0.out];rfl,HBn.out⟩
 |true=>
  refine HC.out.mono ?_;rintro e w1 ⟨rfl,hb⟩;have HBn:=zaa (btZ HB.out hb);have HXn:=zaa (bkZ hb HX.out);clear HX HB HC hb;have HX:=HXn;have HB:=HBn;clear HXn HBn;obtain⟨c0,c1,c2,c3,c4,c5,c6,c7⟩:=zmg HX.out rfl;go_wp2_with fail;clear c0 c1 c2 c3 c4 c5 c6 c7;have HC:=zaa (zl4 _ x.channels zed w1 (zaa (H1.out.later HB.out)) hl.nc (zaa (fun y hy us w' hb hd=>zn2 y us w' (zaa (hE.out.kept (btZ HB.out hb))) (zaa hd) (hl.c y hy))));generalize hb1:(x.channels.all zed)=z1 at HC;have HZ1:=zaa hb1;clear hb1
  cases z1 with
  |false=>
   refine HC.out.mono ?_;rintro e w2 ⟨rfl,hb⟩;have HBn:=zaa (btZ HB.out hb);go_wp2_with fail;go_ret;exact⟨by unfold zev;rw[HZ0.out,HZ1.out];rfl,HBn.out⟩
  |true=>
   refine HC.out.mono ?_;rintro e w2 ⟨rfl,hb⟩;have HBn:=zaa (btZ HB.out hb);have HXn:=zaa (bkZ hb HX.out);clear HX HB HC hb;have HX:=HXn;have HB:=HBn;clear HXn HBn;obtain⟨c0,c1,c2,c3,c4,c5,c6,c7⟩:=zmg HX.out rfl;go_wp2_with fail;clear c0 c1 c2 c3 c4 c5 c6 c7;have HC:=zaa (znZ _ x.switches swF w2 (zaa (H2.out.later HB.out)) hl.ns (zaa (fun y hy us w' hb hd=>f_sw y us w' (zaa (hE.out.kept (btZ HB.out hb))) (zaa hd))));generalize hb2:(x.switches.all swF)=z2 at HC;have HZ2:=zaa hb2;clear hb2
   cases z2 with
   |false=>
    refine HC.out.mono ?_;rintro e w3 ⟨rfl,hb⟩;have HBn:=zaa (btZ HB.out hb);go_wp2_with fail;go_ret;exact⟨by unfold zev;rw[HZ0.out,HZ1.out,HZ2.out];rfl,HBn.out⟩
   |true=>
    refine HC.out.mono ?_;rintro e w3 ⟨rfl,hb⟩;have HBn:=zaa (btZ HB.out hb);have HXn:=zaa (bkZ hb HX.out);clear HX HB HC hb;have HX:=HXn;have HB:=HBn;clear HXn HBn;obtain⟨c0,c1,c2,c3,c4,c5,c6,c7⟩:=zmg HX.out rfl;go_wp2_with fail;clear c0 c1 c2 c3 c4 c5 c6 c7;have HC:=zaa (zkP _ x.links zdc w3 (zaa (H3.out.later HB.out)) hl.nl (zaa (fun y hy us w' hb hd=>zoj y us w' (zaa (hE.out.kept (btZ HB.out hb))) (zaa hd))));generalize hb3:(x.links.all zdc)=z3 at HC;have HZ3:=zaa hb3;clear hb3
    cases z3 with
    |false=>
     refine HC.out.mono ?_;rintro e w4 ⟨rfl,hb⟩;have HBn:=zaa (btZ HB.out hb);go_wp2_with fail;go_ret;exact⟨by unfold zev;rw[HZ0.out,HZ1.out,HZ2.out,HZ3.out];rfl,HBn.out⟩
    |true=>
     refine HC.out.mono ?_;rintro e w4 ⟨rfl,hb⟩;have HBn:=zaa (btZ HB.out hb);have HXn:=zaa (bkZ hb HX.out);clear HX HB HC hb;have HX:=HXn;have HB:=HBn;clear HXn HBn;obtain⟨c0,c1,c2,c3,c4,c5,c6,c7⟩:=zmg HX.out rfl;go_wp2_with fail;clear c0 c1 c2 c3 c4 c5 c6 c7;have HC:=zaa (zog _ x.vls vlF w4 (zaa (H4.out.later HB.out)) hl.nv (zaa (fun y hy us w' hb hd=>f_vl y us w' (zaa (hE.out.kept (btZ HB.out hb))) (zaa hd) (hl.v y hy))));generalize hb4:(x.vls.all vlF)=z4 at HC;have HZ4:=zaa hb4;clear hb4
     cases z4 with
     |false=>
      refine HC.out.mono ?_;rintro e w5 ⟨rfl,hb⟩;have HBn:=zaa (btZ HB.out hb);go_wp2_with fail;go_ret;exact⟨by unfold zev;rw[HZ0.out,HZ1.out,HZ2.out,HZ3.out,HZ4.out];rfl,HBn.out⟩
     |true=>
      refine HC.out.mono ?_;rintro e w5 ⟨rfl,hb⟩;have HBn:=zaa (btZ HB.out hb);have HXn:=zaa (bkZ hb HX.out);clear HX HB HC hb;have HX:=HXn;have HB:=HBn;clear HXn HBn;obtain⟨c0,c1,c2,c3,c4,c5,c6,c7⟩:=zmg HX.out rfl;go_wp2_with fail;clear c0 c1 c2 c3 c4 c5 c6 c7;have HC:=zaa (ziy _ x.health zbe w5 (zaa (H5.out.later HB.out)) hl.nh (zaa (fun y hy us w' hb hd=>zlE y us w' (zaa (hE.out.kept (btZ HB.out hb))) (zaa (hP.out.below (btZ HB.out hb))) (hl.h y hy).1 (hl.h y hy).2.1 (hl.h y hy).2.2 (zaa hd))));generalize hb5:(x.health.all zbe)=z5 at HC;have HZ5:=zaa hb5;clear hb5
      cases z5 with
      |false=>
       refine HC.out.mono ?_;rintro e w6 ⟨rfl,hb⟩;have HBn:=zaa (btZ HB.out hb);go_wp2_with fail;go_ret;exact⟨by unfold zev;rw[HZ0.out,HZ1.out,HZ2.out,HZ3.out,HZ4.out,HZ5.out];rfl,HBn.out⟩
      |true=>
       refine HC.out.mono ?_;rintro e w6 ⟨rfl,hb⟩;have HBn:=zaa (btZ HB.out hb);have HXn:=zaa (bkZ hb HX.out);clear HX HB HC hb;have HX:=HXn;have HB:=HBn;clear HXn HBn;obtain⟨c0,c1,c2,c3,c4,c5,c6,c7⟩:=zmg HX.out rfl;go_wp2_with fail;clear c0 c1 c2 c3 c4 c5 c6 c7;have HC:=zaa (zjk _ x.causes zch w6 (zaa (H6.out.later HB.out)) hl.nk (zaa (fun y hy us w' hb hd=>zmx y us w' (zaa (hE.out.kept (btZ HB.out hb))) (hl.k y hy).1 (hl.k y hy).2 (zaa hd))));generalize hb6:(x.causes.all zch)=z6 at HC;have HZ6:=zaa hb6;clear hb6
       cases z6 with
       |false=>
        refine HC.out.mono ?_;rintro e w7 ⟨rfl,hb⟩;have HBn:=zaa (btZ HB.out hb);go_wp2_with fail;go_ret;exact⟨by unfold zev;rw[HZ0.out,HZ1.out,HZ2.out,HZ3.out,HZ4.out,HZ5.out,HZ6.out];rfl,HBn.out⟩
       |true=>
        refine HC.out.mono ?_;rintro e w7 ⟨rfl,hb⟩;have HBn:=zaa (btZ HB.out hb);have HXn:=zaa (bkZ hb HX.out);clear HX HB HC hb;have HX:=HXn;have HB:=HBn;clear HXn HBn;obtain⟨c0,c1,c2,c3,c4,c5,c6,c7⟩:=zmg HX.out rfl;go_wp2_with fail;clear c0 c1 c2 c3 c4 c5 c6 c7;have HC:=zaa (zmB _ x.versions zgN w7 (zaa (H7.out.later HB.out)) hl.nr (zaa (fun y hy us w' hb hd=>zpl y us w' (zaa (hE.out.kept (btZ HB.out hb))) (zaa hd))));generalize hb7:(x.versions.all zgN)=z7 at HC;have HZ7:=zaa hb7;clear hb7;refine HC.out.mono ?_;rintro e w8 ⟨rfl,hb⟩;have HBn:=zaa (btZ HB.out hb);go_wp2_with fail;go_ret;exact⟨by unfold zev;rw[HZ0.out,HZ1.out,HZ2.out,HZ3.out,HZ4.out,HZ5.out,HZ6.out,HZ7.out];rfl,HBn.out⟩
theorem zbt {B:Nat} {a w:World} (h:Below B a w) (n:Nat):Below B a (w.drewN n):=h.trans ⟨rfl,rfl,rfl,Nat.le_refl _,fun _ _=>rfl⟩
def zem (W:World) (l:List Obj):World:=l.foldl World.alloc W
theorem zgT: ∀(l:List Obj) (W:World),(zem W l).heap.size=W.heap.size+l.length
 |[],W=>rfl
 |o::l,W=>by
  show(zem (W.alloc o) l).heap.size=_
  rw[zgT l (W.alloc o),World.size_alloc,List.length_cons]
  omega
theorem zc2: ∀(l:List Obj) (W:World),Below W.heap.size W (zem W l)
 |[],W=>Below.refl _ _
 |o::l,W=>((Below.refl W.heap.size W).alloc (Nat.le_refl _) o).trans ((zc2 l (W.alloc o)).mono (by simp))
theorem zdg: ∀(l:List Obj) (W:World) (i:Nat) (o:Obj),l[i]? =some o→(zem W l).heap[W.heap.size+i]? =some o
 |[],W,i,o,h=>by simp at h
 |p::l,W,0,o,h=>by
  have h:p=o:=by simpa using h
  subst h;have hb:=(zc2 l (W.alloc p)).block W.heap.size (by simp);rw[Nat.add_zero];exact hb.trans (heap_alloc_new W p)
 |p::l,W,i+1,o,h=>by
  have:=zdg l (W.alloc p) i o (by simpa using h);rw[World.size_alloc] at this;rw[show W.heap.size+(i+1)=W.heap.size+1+i by omega];exact this
def sOb (z:Nat) (us vs:List Value):List Obj:=[.cells us.toArray 31,.cells vs.toArray 31,.cells #[.func (.func 36) #[] #[]] 95,.cells #[.func (.func 38) #[] #[.pointer (some ⟨z+1+1,0,none⟩)]] 99]
end Go.Proofs.YtgbfaompondolaaGreatDoor
