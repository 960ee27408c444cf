/- Merged texts of the walks and of the plain laws on which the statement leans.-/
import Derived.Test.YtgbfaompondolaaGreatDoorPk1
import Derived.Test.YtgbfaompondolaaGreatDoorPk10
import Derived.Test.YtgbfaompondolaaGreatDoorPk9
import Derived.Test.YtgbfaompondolaaGreatDoorPk8
set_option maxHeartbeats 4000000
set_option maxRecDepth 100000
namespace Go.Proofs.YtgbfaompondolaaGreatDoor
open Go.RowKit
attribute [local go_sem] zal.cell
def zbJ (y:zaY):Prop:=y.code.length≤140737488355328∧ ∀z∈y.code,z.op≤255
def zbv (x:zaM):Prop:=x.semas.length≤140737488355328∧x.bufs.length≤140737488355328∧x.ports.length≤140737488355328∧x.procs.length≤140737488355328∧ ∀y∈x.procs,zbJ y
def zb8 (x:zcl):Prop:=x.parts.length≤140737488355328∧ ∀y∈x.parts,zbv y
def zff (x:zaY):Bool:=zbC x.name&&([x.prio,x.period,x.limit].all zbQ&&(x.code.all zed))
theorem znW (x:zaY) (us:List Value) (W:World) (hE:Hid (Env W)) (hd:Hid (zab W (fun _=>True) us x.cells)) (hP:Hid (zcL W)) (hl:zbJ x):
 Calls Tryz.prog 226 #[.agg us.toArray] W fun e w'=>e= .returned (.bool (zff x))∧Below W.heap.size W w':=by
 have hd:=hd.out
 obtain⟨u0,u1,u2,u3,u4,rfl,h0,h1,h2,h3,h4⟩:=dc5 hd
 obtain rfl:=h0.leaf_eq
 obtain rfl:=h1.leaf_eq
 obtain rfl:=h2.leaf_eq
 obtain rfl:=h3.leaf_eq
 have H4:=zaa h4
 obtain⟨A4,q4,rfl, -⟩:=h4.slice
 simp only[List.length_map] at H4 ⊢
 clear hd h0 h1 h2 h3 h4
 simp only[zaF]
 have HX:=zaa (heap_alloc_new W (.cells #[.string ⟨x.name.toArray⟩,.int .i64 x.prio,.int .i64 x.period,.int .i64 x.limit,.slice A4 x.code.length q4] 53))
 have HB:=zaa ((Below.refl W.heap.size W).alloc (Nat.le_refl _) (.cells #[.string ⟨x.name.toArray⟩,.int .i64 x.prio,.int .i64 x.period,.int .i64 x.limit,.slice A4 x.code.length q4] 53))
 go_enter Tryz.func226,Tryz.ntmps226
 go_wp2_with fail
 generalize W.alloc _=w0 at *
 have HC:=zaa (zbT ⟨x.name.toArray⟩ w0 (zaa (hE.out.kept HB.out)))
 simp only at HC
 generalize hb0:(zbC x.name)=z0 at HC
 have HZ0:=zaa hb0
 clear hb0
 cases z0 with
 |false=>
  refine HC.out.mono ?_
  rintro e w1 ⟨rfl,hb⟩
  have HBn:=zaa (btZ HB.out hb)
  go_wp2_with fail
  go_ret
  exact⟨by unfold zff;rw[HZ0.out];rfl,HBn.out⟩
 |true=>
  refine HC.out.mono ?_
  rintro e w1 ⟨rfl,hb⟩
  have HBn:=zaa (btZ HB.out hb)
  have HXn:=zaa (bkZ hb HX.out)
  clear HX HB HC hb
  have HX:=HXn
  have HB:=HBn
  clear HXn HBn
  have c0:=cell_of_row _ _ 0 _ _ _ HX.out
  have c1:=cell_of_row _ _ 1 _ _ _ HX.out
  have c2:=cell_of_row _ _ 2 _ _ _ HX.out
  have c3:=cell_of_row _ _ 3 _ _ _ HX.out
  have c4:=cell_of_row _ _ 4 _ _ _ HX.out
  go_wp2_with fail
  clear c0 c1 c2 c3 c4
  have HBa:=zaa (HB.out.alloc HB.out.size (.cells #[.int .i64 x.prio,.int .i64 x.period,.int .i64 x.limit] 3))
  have HC:=zaa (zbN (.slice (some ⟨w1.heap.size,0,none⟩) 3 3) [x.prio,x.period,x.limit] (w1.alloc (.cells #[.int .i64 x.prio,.int .i64 x.period,.int .i64 x.limit] 3)) (zaa (zb4 w1 [x.prio,x.period,x.limit] 3)) (by simp))
  generalize hb1:([x.prio,x.period,x.limit].all zbQ)=z1 at HC
  have HZ1:=zaa hb1
  clear hb1
  cases z1 with
  |false=>
   refine HC.out.mono ?_
   rintro e w2 ⟨rfl,hb⟩
   have HBn:=zaa (btZ HBa.out hb)
   go_wp2_with fail
   go_ret
   exact⟨by unfold zff;rw[HZ0.out,HZ1.out];rfl,HBn.out⟩
  |true=>
   refine HC.out.mono ?_
   rintro e w2 ⟨rfl,hb⟩
   have HBn:=zaa (btZ HBa.out hb)
   have HXn:=zaa ((hb.block _ (by have:=(zaJ HX.out);simp;omega)).trans ((Below.heap_alloc _ _ _ (zaJ HX.out)).trans HX.out))
   clear HX HB HC hb HBa
   have HX:=HXn
   have HB:=HBn
   clear HXn HBn
   have c0:=cell_of_row _ _ 0 _ _ _ HX.out
   have c1:=cell_of_row _ _ 1 _ _ _ HX.out
   have c2:=cell_of_row _ _ 2 _ _ _ HX.out
   have c3:=cell_of_row _ _ 3 _ _ _ HX.out
   have c4:=cell_of_row _ _ 4 _ _ _ HX.out
   go_wp2_with fail
   clear c0 c1 c2 c3 c4
   have HC:=zaa (zjo _ x.code zed w2 (zaa (H4.out.later HB.out)) hl.1 (zaa (fun y hy us w' hb hd=>zm8 y (hl.2 y hy) us w' (zaa (hP.out.below (btZ HB.out hb))) (zaa hd))))
   generalize hb2:(x.code.all zed)=z2 at HC
   have HZ2:=zaa hb2
   clear hb2
   refine HC.out.mono ?_
   rintro e w3 ⟨rfl,hb⟩
   have HBn:=zaa (btZ HB.out hb)
   go_wp2_with fail
   go_ret
   exact⟨by unfold zff;rw[HZ0.out,HZ1.out,HZ2.out];rfl,HBn.out⟩
def zdY (x:zaM):Bool:=zbC x.name&&([x.period,x.length,x.mem,x.events,x.boards].all zbQ&&(x.semas.all zbQ&&(x.bufs.all zbQ&&(x.ports.all zez&&(x.procs.all zff)))))
theorem znw (x:zaM) (us:List Value) (W:World) (hE:Hid (Env W)) (hd:Hid (zab W (fun _=>True) us x.cells)) (hP:Hid (zcL W)) (hl:zbv x):
 Calls Tryz.prog 164 #[.agg us.toArray] W fun e w'=>e= .returned (.bool (zdY x))∧Below W.heap.size W w':=by
 have hd:=hd.out
 obtain⟨u0,u1,u2,u3,u4,u5,u6,u7,u8,u9,rfl,h0,h1,h2,h3,h4,h5,h6,h7,h8,h9⟩:=zlF hd
 obtain rfl:=h0.leaf_eq
 obtain rfl:=h1.leaf_eq
 obtain rfl:=h2.leaf_eq
 obtain rfl:=h3.leaf_eq
 have H4:=zaa h4
 obtain⟨A4,q4,rfl, -⟩:=h4.slice
 rw[show(zah x.semas).length=x.semas.length from by simp[zah]] at H4 ⊢
 obtain rfl:=h5.leaf_eq
 obtain rfl:=h6.leaf_eq
 have H7:=zaa h7
 obtain⟨A7,q7,rfl, -⟩:=h7.slice
 rw[show(zah x.bufs).length=x.bufs.length from by simp[zah]] at H7 ⊢
 have H8:=zaa h8
 obtain⟨A8,q8,rfl, -⟩:=h8.slice
 simp only[List.length_map] at H8 ⊢
 have H9:=zaa h9
 obtain⟨A9,q9,rfl, -⟩:=h9.slice
 simp only[List.length_map] at H9 ⊢
 clear hd h0 h1 h2 h3 h4 h5 h6 h7 h8 h9
 simp only[zaF]
 have HX:=zaa (heap_alloc_new W (.cells #[.string ⟨x.name.toArray⟩,.int .i64 x.period,.int .i64 x.length,.int .i64 x.mem,.slice A4 x.semas.length q4,.int .i64 x.events,.int .i64 x.boards,.slice A7 x.bufs.length q7,.slice A8 x.ports.length q8,.slice A9 x.procs.length q9] 49))
 have HB:=zaa ((Below.refl W.heap.size W).alloc (Nat.le_refl _) (.cells #[.string ⟨x.name.toArray⟩,.int .i64 x.period,.int .i64 x.length,.int .i64 x.mem,.slice A4 x.semas.length q4,.int .i64 x.events,.int .i64 x.boards,.slice A7 x.bufs.length q7,.slice A8 x.ports.length q8,.slice A9 x.procs.length q9] 49))
 go_enter Tryz.func164,Tryz.ntmps164
 go_wp2_with fail
 generalize W.alloc _=w0 at *
 have HC:=zaa (zbT ⟨x.name.toArray⟩ w0 (zaa (hE.out.kept HB.out)))
 simp only at HC
 generalize hb0:(zbC x.name)=z0 at HC
 have HZ0:=zaa hb0
 clear hb0
 cases z0 with
 |false=>
  refine HC.out.mono ?_
  rintro e w1 ⟨rfl,hb⟩
  have HBn:=zaa (btZ HB.out hb)
  go_wp2_with fail
  go_ret
  exact⟨by unfold zdY;rw[HZ0.out];rfl,HBn.out⟩
 |true=>
  refine HC.out.mono ?_
  rintro e w1 ⟨rfl,hb⟩
  have HBn:=zaa (btZ HB.out hb)
  have HXn:=zaa (bkZ hb HX.out)
  clear HX HB HC hb
  have HX:=HXn
  have HB:=HBn
  clear HXn HBn
  have c0:=cell_of_row _ _ 0 _ _ _ HX.out
  have c1:=cell_of_row _ _ 1 _ _ _ HX.out
  have c2:=cell_of_row _ _ 2 _ _ _ HX.out
  have c3:=cell_of_row _ _ 3 _ _ _ HX.out
  have c4:=cell_of_row _ _ 4 _ _ _ HX.out
  have c5:=cell_of_row _ _ 5 _ _ _ HX.out
  have c6:=cell_of_row _ _ 6 _ _ _ HX.out
  have c7:=cell_of_row _ _ 7 _ _ _ HX.out
  have c8:=cell_of_row _ _ 8 _ _ _ HX.out
  have c9:=cell_of_row _ _ 9 _ _ _ HX.out
  go_wp2_with fail
  clear c0 c1 c2 c3 c4 c5 c6 c7 c8 c9
  have HBa:=zaa (HB.out.alloc HB.out.size (.cells #[.int .i64 x.period,.int .i64 x.length,.int .i64 x.mem,.int .i64 x.events,.int .i64 x.boards] 3))
  have HC:=zaa (zbN (.slice (some ⟨w1.heap.size,0,none⟩) 5 5) [x.period,x.length,x.mem,x.events,x.boards] (w1.alloc (.cells #[.int .i64 x.period,.int .i64 x.length,.int .i64 x.mem,.int .i64 x.events,.int .i64 x.boards] 3)) (zaa (zb4 w1 [x.period,x.length,x.mem,x.events,x.boards] 3)) (by simp))
  generalize hb1:([x.period,x.length,x.mem,x.events,x.boards].all zbQ)=z1 at HC
  have HZ1:=zaa hb1
  clear hb1
  cases z1 with
  |false=>
   refine HC.out.mono ?_
   rintro e w2 ⟨rfl,hb⟩
   have HBn:=zaa (btZ HBa.out hb)
   go_wp2_with fail
   go_ret
   exact⟨by unfold zdY;rw[HZ0.out,HZ1.out];rfl,HBn.out⟩
  |true=>
   refine HC.out.mono ?_
   rintro e w2 ⟨rfl,hb⟩
   have HBn:=zaa (btZ HBa.out hb)
   have HXn:=zaa ((hb.block _ (by have:=(zaJ HX.out);simp;omega)).trans ((Below.heap_alloc _ _ _ (zaJ HX.out)).trans HX.out))
   clear HX HB HC hb HBa
   have HX:=HXn
   have HB:=HBn
   clear HXn HBn
   have c0:=cell_of_row _ _ 0 _ _ _ HX.out
   have c1:=cell_of_row _ _ 1 _ _ _ HX.out
   have c2:=cell_of_row _ _ 2 _ _ _ HX.out
   have c3:=cell_of_row _ _ 3 _ _ _ HX.out
   have c4:=cell_of_row _ _ 4 _ _ _ HX.out
   have c5:=cell_of_row _ _ 5 _ _ _ HX.out
   have c6:=cell_of_row _ _ 6 _ _ _ HX.out
   have c7:=cell_of_row _ _ 7 _ _ _ HX.out
   have c8:=cell_of_row _ _ 8 _ _ _ HX.out
   have c9:=cell_of_row _ _ 9 _ _ _ HX.out
   go_wp2_with fail
   clear c0 c1 c2 c3 c4 c5 c6 c7 c8 c9
   have HC:=zaa (zbN _ x.semas w2 (zaa (H4.out.later HB.out)) hl.1)
   generalize hb2:(x.semas.all zbQ)=z2 at HC
   have HZ2:=zaa hb2
   clear hb2
   cases z2 with
   |false=>
    refine HC.out.mono ?_
    rintro e w3 ⟨rfl,hb⟩
    have HBn:=zaa (btZ HB.out hb)
    go_wp2_with fail
    go_ret
    exact⟨by unfold zdY;rw[HZ0.out,HZ1.out,HZ2.out];rfl,HBn.out⟩
   |true=>
    refine HC.out.mono ?_
    rintro e w3 ⟨rfl,hb⟩
    have HBn:=zaa (btZ HB.out hb)
    have HXn:=zaa (bkZ hb HX.out)
    clear HX HB HC hb
    have HX:=HXn
    have HB:=HBn
    clear HXn HBn
    have c0:=cell_of_row _ _ 0 _ _ _ HX.out
    have c1:=cell_of_row _ _ 1 _ _ _ HX.out
    have c2:=cell_of_row _ _ 2 _ _ _ HX.out
    have c3:=cell_of_row _ _ 3 _ _ _ HX.out
    have c4:=cell_of_row _ _ 4 _ _ _ HX.out
    have c5:=cell_of_row _ _ 5 _ _ _ HX.out
    have c6:=cell_of_row _ _ 6 _ _ _ HX.out
    have c7:=cell_of_row _ _ 7 _ _ _ HX.out
    have c8:=cell_of_row _ _ 8 _ _ _ HX.out
    have c9:=cell_of_row _ _ 9 _ _ _ HX.out
    go_wp2_with fail
    clear c0 c1 c2 c3 c4 c5 c6 c7 c8 c9
    have HC:=zaa (zbN _ x.bufs w3 (zaa (H7.out.later HB.out)) hl.2.1)
    generalize hb3:(x.bufs.all zbQ)=z3 at HC
    have HZ3:=zaa hb3
    clear hb3
    cases z3 with
    |false=>
     refine HC.out.mono ?_
     rintro e w4 ⟨rfl,hb⟩
     have HBn:=zaa (btZ HB.out hb)
     go_wp2_with fail
     go_ret
     exact⟨by unfold zdY;rw[HZ0.out,HZ1.out,HZ2.out,HZ3.out];rfl,HBn.out⟩
    |true=>
     refine HC.out.mono ?_
     rintro e w4 ⟨rfl,hb⟩
     have HBn:=zaa (btZ HB.out hb)
     have HXn:=zaa (bkZ hb HX.out)
     clear HX HB HC hb
     have HX:=HXn
     have HB:=HBn
     clear HXn HBn
     have c0:=cell_of_row _ _ 0 _ _ _ HX.out
     have c1:=cell_of_row _ _ 1 _ _ _ HX.out
     have c2:=cell_of_row _ _ 2 _ _ _ HX.out
     have c3:=cell_of_row _ _ 3 _ _ _ HX.out
     have c4:=cell_of_row _ _ 4 _ _ _ HX.out
     have c5:=cell_of_row _ _ 5 _ _ _ HX.out
     have c6:=cell_of_row _ _ 6 _ _ _ HX.out
     have c7:=cell_of_row _ _ 7 _ _ _ HX.out
     have c8:=cell_of_row _ _ 8 _ _ _ HX.out
     have c9:=cell_of_row _ _ 9 _ _ _ HX.out
     go_wp2_with fail
     clear c0 c1 c2 c3 c4 c5 c6 c7 c8 c9
     have HC:=zaa (zjP _ x.ports zez w4 (zaa (H8.out.later HB.out)) hl.2.2.1 (zaa (fun y hy us w' hb hd=>znn y us w' (zaa (hE.out.kept (btZ HB.out hb))) (zaa hd))))
     generalize hb4:(x.ports.all zez)=z4 at HC
     have HZ4:=zaa hb4
     clear hb4
     cases z4 with
     |false=>
      refine HC.out.mono ?_
      rintro e w5 ⟨rfl,hb⟩
      have HBn:=zaa (btZ HB.out hb)
      go_wp2_with fail
      go_ret
      exact⟨by unfold zdY;rw[HZ0.out,HZ1.out,HZ2.out,HZ3.out,HZ4.out];rfl,HBn.out⟩
     |true=>
      refine HC.out.mono ?_
      rintro e w5 ⟨rfl,hb⟩
      have HBn:=zaa (btZ HB.out hb)
      have HXn:=zaa (bkZ hb HX.out)
      clear HX HB HC hb
      have HX:=HXn
      have HB:=HBn
      clear HXn HBn
      have c0:=cell_of_row _ _ 0 _ _ _ HX.out
      have c1:=cell_of_row _ _ 1 _ _ _ HX.out
      have c2:=cell_of_row _ _ 2 _ _ _ HX.out
      have c3:=cell_of_row _ _ 3 _ _ _ HX.out
      have c4:=cell_of_row _ _ 4 _ _ _ HX.out
      have c5:=cell_of_row _ _ 5 _ _ _ HX.out
      have c6:=cell_of_row _ _ 6 _ _ _ HX.out
      have c7:=cell_of_row _ _ 7 _ _ _ HX.out
      have c8:=cell_of_row _ _ 8 _ _ _ HX.out
      have c9:=cell_of_row _ _ 9 _ _ _ HX.out
      go_wp2_with fail
      clear c0 c1 c2 c3 c4 c5 c6 c7 c8 c9
      have HC:=zaa (zk8 _ x.procs zff w5 (zaa (H9.out.later HB.out)) hl.2.2.2.1 (zaa (fun y hy us w' hb hd=>znW y us w' (zaa (hE.out.kept (btZ HB.out hb))) (zaa hd) (zaa (hP.out.below (btZ HB.out hb))) (hl.2.2.2.2 y hy))))
      generalize hb5:(x.procs.all zff)=z5 at HC
      have HZ5:=zaa hb5
      clear hb5
      refine HC.out.mono ?_
      rintro e w6 ⟨rfl,hb⟩
      have HBn:=zaa (btZ HB.out hb)
      go_wp2_with fail
      go_ret
      exact⟨by unfold zdY;rw[HZ0.out,HZ1.out,HZ2.out,HZ3.out,HZ4.out,HZ5.out];rfl,HBn.out⟩
def zig (x:zcl):Bool:=zbC x.name&&([x.mem,x.frame].all zbQ&&(x.parts.all zdY))
theorem zoS (x:zcl) (us:List Value) (W:World) (hE:Hid (Env W)) (hd:Hid (zab W (fun _=>True) us x.cells)) (hP:Hid (zcL W)) (hl:zb8 x):
 Calls Tryz.prog 87 #[.agg us.toArray] W fun e w'=>e= .returned (.bool (zig x))∧Below W.heap.size W w':=by
 have hd:=hd.out
 obtain⟨u0,u1,u2,u3,rfl,h0,h1,h2,h3⟩:=dc4 hd
 obtain rfl:=h0.leaf_eq
 obtain rfl:=h1.leaf_eq
 obtain rfl:=h2.leaf_eq
 have H3:=zaa h3
 obtain⟨A3,q3,rfl, -⟩:=h3.slice
 simp only[List.length_map] at H3 ⊢
 clear hd h0 h1 h2 h3
 simp only[zaF]
 have HX:=zaa (heap_alloc_new W (.cells #[.string ⟨x.name.toArray⟩,.int .i64 x.mem,.int .i64 x.frame,.slice A3 x.parts.length q3] 44))
 have HB:=zaa ((Below.refl W.heap.size W).alloc (Nat.le_refl _) (.cells #[.string ⟨x.name.toArray⟩,.int .i64 x.mem,.int .i64 x.frame,.slice A3 x.parts.length q3] 44))
 go_enter Tryz.func87,Tryz.ntmps87
 go_wp2_with fail
 generalize W.alloc _=w0 at *
 have HC:=zaa (zbT ⟨x.name.toArray⟩ w0 (zaa (hE.out.kept HB.out)))
 simp only at HC
 generalize hb0:(zbC x.name)=z0 at HC
 have HZ0:=zaa hb0
 clear hb0
 cases z0 with
 |false=>
  refine HC.out.mono ?_
  rintro e w1 ⟨rfl,hb⟩
  have HBn:=zaa (btZ HB.out hb)
  go_wp2_with fail
  go_ret
  exact⟨by unfold zig;rw[HZ0.out];rfl,HBn.out⟩
 |true=>
  refine HC.out.mono ?_
  rintro e w1 ⟨rfl,hb⟩
  have HBn:=zaa (btZ HB.out hb)
  have HXn:=zaa (bkZ hb HX.out)
  clear HX HB HC hb
  have HX:=HXn
  have HB:=HBn
  clear HXn HBn
  have c0:=cell_of_row _ _ 0 _ _ _ HX.out
  have c1:=cell_of_row _ _ 1 _ _ _ HX.out
  have c2:=cell_of_row _ _ 2 _ _ _ HX.out
  have c3:=cell_of_row _ _ 3 _ _ _ HX.out
  go_wp2_with fail
  clear c0 c1 c2 c3
  have HBa:=zaa (HB.out.alloc HB.out.size (.cells #[.int .i64 x.mem,.int .i64 x.frame] 3))
  have HC:=zaa (zbN (.slice (some ⟨w1.heap.size,0,none⟩) 2 2) [x.mem,x.frame] (w1.alloc (.cells #[.int .i64 x.mem,.int .i64 x.frame] 3)) (zaa (zb4 w1 [x.mem,x.frame] 3)) (by simp))
  generalize hb1:([x.mem,x.frame].all zbQ)=z1 at HC
  have HZ1:=zaa hb1
  clear hb1
  cases z1 with
  |false=>
   refine HC.out.mono ?_
   rintro e w2 ⟨rfl,hb⟩
   have HBn:=zaa (btZ HBa.out hb)
   go_wp2_with fail
   go_ret
   exact⟨by unfold zig;rw[HZ0.out,HZ1.out];rfl,HBn.out⟩
  |true=>
   refine HC.out.mono ?_
   rintro e w2 ⟨rfl,hb⟩
   have HBn:=zaa (btZ HBa.out hb)
   have HXn:=zaa ((hb.block _ (by have:=(zaJ HX.out);simp;omega)).trans ((Below.heap_alloc _ _ _ (zaJ HX.out)).trans HX.out))
   clear HX HB HC hb HBa
   have HX:=HXn
   have HB:=HBn
   clear HXn HBn
   have c0:=cell_of_row _ _ 0 _ _ _ HX.out
   have c1:=cell_of_row _ _ 1 _ _ _ HX.out
   have c2:=cell_of_row _ _ 2 _ _ _ HX.out
   have c3:=cell_of_row _ _ 3 _ _ _ HX.out
   go_wp2_with fail
   clear c0 c1 c2 c3
   have HC:=zaa (zkF _ x.parts zdY w2 (zaa (H3.out.later HB.out)) hl.1 (zaa (fun y hy us w' hb hd=>znw y us w' (zaa (hE.out.kept (btZ HB.out hb))) (zaa hd) (zaa (hP.out.below (btZ HB.out hb))) (hl.2 y hy))))
   generalize hb2:(x.parts.all zdY)=z2 at HC
   have HZ2:=zaa hb2
   clear hb2
   refine HC.out.mono ?_
   rintro e w3 ⟨rfl,hb⟩
   have HBn:=zaa (btZ HB.out hb)
   go_wp2_with fail
   go_ret
   exact⟨by unfold zig;rw[HZ0.out,HZ1.out,HZ2.out];rfl,HBn.out⟩
end Go.Proofs.YtgbfaompondolaaGreatDoor
namespace Go.Proofs.YtgbfaompondolaaGreatDoor
open Go.RowKit
attribute [local go_sem] zal.cell
def zd5 (l:List UInt8):Bool:=l.isEmpty||zbC l
theorem zgk (s:ByteArray) (W:World) (hE:Hid (Env W)):
 Calls Tryz.prog 177 #[.string s] W fun e w'=>e= .returned (.bool (zd5 s.data.toList))∧Below W.heap.size W w':=by
 have HC:=zaa (zbT s W hE)
 by_cases h:s=⟨#[]⟩
 ·subst h
  go_enter Tryz.func177,Tryz.ntmps177
  go_wp2_with fail
  go_ret
  exact⟨rfl,Below.refl _ _⟩
 ·have h0:=zl0 h
  have hF:zd5 s.data.toList=zbC s.data.toList:=by
   rw[ByteArray.toList_eq] at h0
   unfold zd5
   rw[h0]
   rfl
  rw[hF]
  clear hF h
  generalize zbC s.data.toList=z at *
  go_enter Tryz.func177,Tryz.ntmps177
  go_wp2_with fail
  refine HC.out.mono ?_
  rintro e w1 ⟨rfl,hb⟩
  have HB:=zaa hb
  go_wp2_with fail
  go_ret
  exact⟨rfl,HB.out⟩
theorem zc9 (l:List UInt8):(⟨l.toArray⟩:ByteArray)=⟨#[]⟩∧(l != [])=false∨(⟨l.toArray⟩:ByteArray).toList.isEmpty=false∧(l != [])=true:=by
 by_cases h:l=[]
 ·exact .inl ⟨by rw[h],by rw[h];rfl⟩
 ·exact .inr ⟨zl0 (fun e=>h (by have:=congrArg (fun b:ByteArray=>b.data.toList) e;simpa using this)),by simpa using h⟩
def zdi (x:zaH):Bool:=zd5 x.module&&(zd5 x.part&&((zaj zax x.fault != [])&&((zaj zas x.level != [])&&(zaj zap x.do_ != []))))
theorem zkg (x:zaH) (us:List Value) (W:World) (hE:Hid (Env W)) (hP:Hid (zcL W)) (hf:x.fault≤255) (hl:x.level≤255) (ha:x.do_≤255) (hd:Hid (zab W (fun _=>True) us x.cells)):
 Calls Tryz.prog 97 #[.agg us.toArray] W fun e w'=>e= .returned (.bool (zdi x))∧Below W.heap.size W w':=by
 have hd:=hd.out
 obtain⟨u0,u1,u2,u3,u4,rfl,h0,h1,h2,h3,h4⟩:=dc5 hd
 obtain rfl:=h0.leaf_eq
 obtain rfl:=h1.leaf_eq
 obtain rfl:=h2.leaf_eq
 obtain rfl:=h3.leaf_eq
 obtain rfl:=h4.leaf_eq
 clear hd h0 h1 h2 h3 h4
 simp only[zaF]
 have HX:=zaa (heap_alloc_new W (.cells #[.string ⟨x.module.toArray⟩,.string ⟨x.part.toArray⟩,.int .u8 (x.fault:Int),.int .u8 (x.level:Int),.int .u8 (x.do_:Int)] 73))
 have HB:=zaa ((Below.refl W.heap.size W).alloc (Nat.le_refl _) (.cells #[.string ⟨x.module.toArray⟩,.string ⟨x.part.toArray⟩,.int .u8 (x.fault:Int),.int .u8 (x.level:Int),.int .u8 (x.do_:Int)] 73))
 have H1:=zaa (fun V (h:Hid (Env V))=>zgk ⟨x.module.toArray⟩ V h)
 have H2:=zaa (fun V (h:Hid (Env V))=>zgk ⟨x.part.toArray⟩ V h)
 simp only at H1 H2
 have HFA:=zaa (fun V (h:Hid (zcL V))=>zf5 x.fault V h.out hf)
 have HLE:=zaa (fun V (h:Hid (zcL V))=>zdr x.level V h.out hl)
 have HAC:=zaa (fun V (h:Hid (zcL V))=>zcZ x.do_ V h.out ha)
 have HF:=zaa (show zdi x=(zd5 x.module&&(zd5 x.part&&((zaj zax x.fault != [])&&((zaj zas x.level != [])&&(zaj zap x.do_ != []))))) from rfl)
 have k3:=zc9 (zaj zax x.fault)
 have k4:=zc9 (zaj zas x.level)
 have k5:=zc9 (zaj zap x.do_)
 generalize zd5 x.module=z1 at *
 generalize zd5 x.part=z2 at *
 generalize(zaj zax x.fault != [])=z3 at *
 generalize(zaj zas x.level != [])=z4 at *
 generalize(zaj zap x.do_ != [])=z5 at *
 generalize(⟨(zaj zax x.fault).toArray⟩:ByteArray)=F at *
 generalize(⟨(zaj zas x.level).toArray⟩:ByteArray)=L at *
 generalize(⟨(zaj zap x.do_).toArray⟩:ByteArray)=D at *
 generalize zdi x=z at *
 go_enter Tryz.func97,Tryz.ntmps97
 go_wp2_with fail
 generalize W.alloc _=w0 at *
 cases z1 with
 |false=>
  refine(H1.out w0 (zaa (hE.out.kept HB.out))).mono ?_
  rintro e w1 ⟨rfl,hb⟩
  have HBn:=zaa (btZ HB.out hb)
  go_wp2_with fail
  go_ret
  exact⟨by rw[HF.out];rfl,HBn.out⟩
 |true=>
  refine(H1.out w0 (zaa (hE.out.kept HB.out))).mono ?_
  rintro e w1 ⟨rfl,hb⟩
  have HBn:=zaa (btZ HB.out hb)
  have HXn:=zaa (bkZ hb HX.out)
  clear HX HB hb H1
  have HX:=HXn
  have HB:=HBn
  clear HXn HBn
  have c0:=cell_of_row _ _ 0 _ _ _ HX.out
  have c1:=cell_of_row _ _ 1 _ _ _ HX.out
  have c2:=cell_of_row _ _ 2 _ _ _ HX.out
  have c3:=cell_of_row _ _ 3 _ _ _ HX.out
  have c4:=cell_of_row _ _ 4 _ _ _ HX.out
  go_wp2_with fail
  clear c0 c1 c2 c3 c4
  cases z2 with
  |false=>
   refine(H2.out w1 (zaa (hE.out.kept HB.out))).mono ?_
   rintro e w2 ⟨rfl,hb⟩
   have HBn:=zaa (btZ HB.out hb)
   go_wp2_with fail
   go_ret
   exact⟨by rw[HF.out];rfl,HBn.out⟩
  |true=>
   refine(H2.out w1 (zaa (hE.out.kept HB.out))).mono ?_
   rintro e w2 ⟨rfl,hb⟩
   have HBn:=zaa (btZ HB.out hb)
   have HXn:=zaa (bkZ hb HX.out)
   clear HX HB hb H2
   have HX:=HXn
   have HB:=HBn
   clear HXn HBn
   have c0:=cell_of_row _ _ 0 _ _ _ HX.out
   have c1:=cell_of_row _ _ 1 _ _ _ HX.out
   have c2:=cell_of_row _ _ 2 _ _ _ HX.out
   have c3:=cell_of_row _ _ 3 _ _ _ HX.out
   have c4:=cell_of_row _ _ 4 _ _ _ HX.out
   go_wp2_with fail
   clear c0 c1 c2 c3 c4
   rcases k3 with⟨rfl,rfl⟩|⟨j3,rfl⟩
   ·refine(HFA.out w2 (zaa (hP.out.below HB.out))).mono ?_
    rintro e w3 ⟨rfl,hb⟩
    have HBn:=zaa (btZ HB.out hb)
    go_wp2_with fail
    go_ret
    exact⟨by rw[HF.out];rfl,HBn.out⟩
   ·refine(HFA.out w2 (zaa (hP.out.below HB.out))).mono ?_
    rintro e w3 ⟨rfl,hb⟩
    have HBn:=zaa (btZ HB.out hb)
    have HXn:=zaa (bkZ hb HX.out)
    clear HX HB hb HFA
    have HX:=HXn
    have HB:=HBn
    clear HXn HBn
    have c0:=cell_of_row _ _ 0 _ _ _ HX.out
    have c1:=cell_of_row _ _ 1 _ _ _ HX.out
    have c2:=cell_of_row _ _ 2 _ _ _ HX.out
    have c3:=cell_of_row _ _ 3 _ _ _ HX.out
    have c4:=cell_of_row _ _ 4 _ _ _ HX.out
    go_wp2_with fail
    clear c0 c1 c2 c3 c4
    rcases k4 with⟨rfl,rfl⟩|⟨j4,rfl⟩
    ·refine(HLE.out w3 (zaa (hP.out.below HB.out))).mono ?_
     rintro e w4 ⟨rfl,hb⟩
     have HBn:=zaa (btZ HB.out hb)
     go_wp2_with fail
     go_ret
     exact⟨by rw[HF.out];rfl,HBn.out⟩
    ·refine(HLE.out w3 (zaa (hP.out.below HB.out))).mono ?_
     rintro e w4 ⟨rfl,hb⟩
     have HBn:=zaa (btZ HB.out hb)
     have HXn:=zaa (bkZ hb HX.out)
     clear HX HB hb HLE
     have HX:=HXn
     have HB:=HBn
     clear HXn HBn
     have c0:=cell_of_row _ _ 0 _ _ _ HX.out
     have c1:=cell_of_row _ _ 1 _ _ _ HX.out
     have c2:=cell_of_row _ _ 2 _ _ _ HX.out
     have c3:=cell_of_row _ _ 3 _ _ _ HX.out
     have c4:=cell_of_row _ _ 4 _ _ _ HX.out
     go_wp2_with fail
     clear c0 c1 c2 c3 c4
     rcases k5 with⟨rfl,rfl⟩|⟨j5,rfl⟩
     ·refine(HAC.out w4 (zaa (hP.out.below HB.out))).mono ?_
      rintro e w5 ⟨rfl,hb⟩
      have HBn:=zaa (btZ HB.out hb)
      go_wp2_with fail
      go_ret
      exact⟨by rw[HF.out];rfl,HBn.out⟩
     ·refine(HAC.out w4 (zaa (hP.out.below HB.out))).mono ?_
      rintro e w5 ⟨rfl,hb⟩
      have HBn:=zaa (btZ HB.out hb)
      go_wp2_with fail
      go_ret
      exact⟨by rw[HF.out];rfl,HBn.out⟩
end Go.Proofs.YtgbfaompondolaaGreatDoor
namespace Go.Proofs.YtgbfaompondolaaGreatDoor
open Go.RowKit
attribute [local go_sem] zal.cell
def zgV (l:List (List UInt8)):List Value:=l.map fun s=> .string ⟨s.toArray⟩
theorem zjw {w:World} {A:Option Addr} {n q:Nat} {l:List (List UInt8)} (h:DAt w (fun _=>True) (.slice A n q) (.row 1 (zao l))):zbr w w.heap.size 1 A n (zgV l):=by
 generalize hd:Dat.row 1 (zao l)=d at h
 generalize hv:Value.slice A n q=v at h
 cases h with
 |leaf v=>cases hd
 |nil A' c size=>
  injection hd with _ h1
  injection hv with _ h2
  subst h2
  have:l=[]:=by cases l with
   |nil=>rfl
   |cons a l=>simp[zao] at h1
  subst this
  exact⟨rfl,fun h=>absurd h (by omega)⟩
 |row b off c size m es val hn hG hb hc hdd=>
  injection hd with h0 h1
  injection hv with h2 h3 h4
  subst h0 h1 h2 h3 h4
  have hl:l.length=n:=by rw[←hn];simp[zao]
  refine⟨by simp[zgV,hl],fun _=>⟨_,rfl,hb,fun j u hu=> ?_⟩⟩
  unfold zgV at hu
  rw[List.getElem?_map] at hu
  obtain⟨s,hs,rfl⟩:=Option.map_eq_some_iff.1 hu
  have he:(zao l)[j]? =some [lS s]:=by unfold zao;rw[List.getElem?_map,hs];rfl
  have h5:=hc j 0 _ _ he rfl
  have h6:=(hdd j 0 _ _ he rfl).leaf_eq
  rw[h6] at h5
  rw[Nat.mul_one,Nat.add_zero] at h5
  refine Eq.trans ?_ h5
  congr 1
  unfold Addr.add
  split
  ·rename_i h;rw[h];rfl
  ·simp
theorem zeG {w:World} {base:Nat} {v:Value} {n:Nat} {l:List (List UInt8)} (h:w.ownsRow base 9 1 v n (zgV l)):DAt w (fun _=>True) v (.row 1 (zao l)):=by
 have hl:(zao l).length=n:=by have:=h.1;simp[zgV] at this;simp[zao,this]
 have hf:(zao l).flatten=(zgV l).map Dat.leaf:=zeC _ l
 exact(zgy (G:=fun _=>True) hl (fun e he=>by
  unfold zao at he
  obtain⟨s,_,rfl⟩:=List.mem_map.1 he
  rfl) h (by rw[hf];exact zcB _)).mono fun _ _ _=>trivial
def zdH (x:zaN):Bool:=(x.unit::x.but).all zbC&&(decide (0<x.needs.length)&&x.needs.all zjO)
theorem zci:(Tryz.prog.info? 9).map (fun i=>(i.zero,i.size,i.bytes))=some (some (.string ⟨#[]⟩),1,16):=by kernel_rfl
theorem zmn (x:zaN) (us:List Value) (W:World) (hE:Hid (Env W)) (hn:x.needs.length≤140737488355328) (hb:x.but.length<1000000000000) (hd:Hid (zab W (fun _=>True) us x.cells)):
 Calls Tryz.prog 99 #[.agg us.toArray] W fun e w'=>e= .returned (.bool (zdH x))∧Below W.heap.size W w':=by
 have hd:=hd.out
 obtain⟨u0,u1,u2,rfl,h0,h1,h2⟩:=dc3 hd
 obtain rfl:=h0.leaf_eq
 have H1:=zaa h1
 obtain⟨A1,q1,rfl, -⟩:=h1.slice
 simp only[List.length_map] at H1 ⊢
 have H2:=zaa h2
 obtain⟨A2,q2,rfl, -⟩:=h2.slice
 rw[show(zao x.but).length=x.but.length from by simp[zao]] at H2 ⊢
 clear hd h0 h1 h2
 simp only[zaF]
 obtain⟨i0,hi0,hz0,hz1,hz2⟩:=info_parts zci
 have HX:=zaa (heap_alloc_new W (.cells #[.string ⟨x.unit.toArray⟩,.slice A1 x.needs.length q1,.slice A2 x.but.length q2] 65))
 have HB:=zaa ((Below.refl W.heap.size W).alloc (Nat.le_refl _) (.cells #[.string ⟨x.unit.toArray⟩,.slice A1 x.needs.length q1,.slice A2 x.but.length q2] 65))
 go_enter Tryz.func99,Tryz.ntmps99
 go_wp2_with(at_builtin;apply Hid.out)
 have hzw:(W.alloc (.cells #[.string ⟨x.unit.toArray⟩,.slice A1 x.needs.length q1,.slice A2 x.but.length q2] 65)).heap.size=W.heap.size+1:=by simp
 rw[←hzw]
 generalize W.alloc _=w0 at *
 have hw0:W.heap.size≤w0.heap.size:=by omega
 have HO:=zaa (World.ownsRow_lit (base:=W.heap.size) (e:=9) (size:=1) w0 #[.string ⟨x.unit.toArray⟩] 1 hw0 (by unfold maxLen;omega) rfl)
 have HRD:=zaa ((zjw (H2.out.later HB.out)).alloc (Nat.le_refl _) (.cells #[.string ⟨x.unit.toArray⟩] 9))
 have HX1:=zaa ((Below.heap_alloc w0 (.cells #[.string ⟨x.unit.toArray⟩] 9) _ (zaJ HX.out)).trans HX.out)
 have HB1:=zaa (HB.out.alloc HB.out.size (.cells #[.string ⟨x.unit.toArray⟩] 9))
 have HBs:=zaa hw0
 have HZ:=zaa hzw
 clear HX HB hw0 hzw H2
 refine zay _ rfl _ _ 63 rfl W.heap.size 9 i0 _ 1 16 Tryz.underlying63 hi0 hz0 hz1 hz2 rfl (by decide) (.slice (some ⟨w0.heap.size,0,none⟩) 1 1) _ _ rfl HO.out _ A2 x.but.length q2 _ rfl HRD.out (fun u hu=>by unfold zgV at hu;obtain⟨s,_,rfl⟩:=List.mem_map.1 hu;rfl) (by unfold maxLen;omega) (by omega) (by have:=HB1.out.size;omega) ?_
 intro v5 w1 hown hg hat
 have HD:=zaa (zeG (l:=x.unit::x.but) hown)
 have HB2:=zaa (HB1.out.grown hg HB1.out.size (fun g e=>by injection e with e;subst e;exact HBs.out))
 have HX2:=zaa ((hg.block W.heap.size (by have:=(zaJ HX1.out);exact this) (fun e=>by injection e with e;have e':W.heap.size=w0.heap.size:=e;have:=HZ.out;omega)).trans HX1.out)
 clear HX1 HB1 hown hg hat HRD HO hi0 hz0 hz1 hz2
 have HW:=zaa (zdS _ _ _ HD (by simp;omega) (zaa (hE.out.kept HB2.out)))
 have HF:=zaa (show zdH x=((x.unit::x.but).all zbC&&(decide (0<x.needs.length)&&x.needs.all zjO)) from rfl)
 have HRP:=zaa (fun w (hw:Below W.heap.size W w)=>zl9 _ x.needs zjO w (zaa (H1.out.later hw)) hn (zaa (fun y _ us w' hb hd=>zoH y us w' (zaa (hE.out.kept (btZ hw hb))) (zaa hd))))
 generalize(x.unit::x.but).all zbC=z1 at *
 generalize x.needs.all zjO=z2 at *
 clear HD H1
 go_wp2_with fail
 refine HW.out.mono ?_
 rintro e w2 ⟨rfl,hb⟩
 have HB3:=zaa (btZ HB2.out hb)
 have HX3:=zaa (bkZ hb HX2.out)
 clear hb HW HX2 HB2
 cases z1 with
 |false=>
  go_wp2_with fail
  go_ret
  exact⟨by rw[HF.out];rfl,HB3.out⟩
 |true=>
  have c1:=cell_of_row _ _ 1 _ _ _ HX3.out
  by_cases h0:x.needs.length=0
  ·rw[h0] at c1 HF
   go_wp2_with fail
   go_ret
   exact⟨by rw[HF.out];rfl,HB3.out⟩
  ·have h1:(0:Int)<(x.needs.length:Int):=by omega
   have HD1:=zaa (show decide (0<x.needs.length)=true by simp;omega)
   rw[HD1.out] at HF
   have HR:=zaa (HRP.out w2 HB3.out)
   clear h0 HRP HX3
   go_wp2_with fail
   refine HR.out.mono ?_
   rintro e w3 ⟨rfl,hb⟩
   have HB4:=zaa (btZ HB3.out hb)
   clear hb HR c1
   go_wp2_with fail
   go_ret
   exact⟨by rw[HF.out];rfl,HB4.out⟩
end Go.Proofs.YtgbfaompondolaaGreatDoor
namespace Go.Proofs.YtgbfaompondolaaGreatDoor
open Go.RowKit
attribute [local go_sem] zal.cell
def zbe (x:zaN):Prop:=x.needs.length≤140737488355328∧x.but.length<1000000000000
def zeQ (x:zaH):Prop:=x.fault≤255∧x.level≤255∧x.do_≤255
structure zdE (x:zbR):Prop where
 nm:x.modules.length≤140737488355328
 m: ∀y∈x.modules,zb8 y
 nc:x.channels.length≤140737488355328
 c: ∀y∈x.channels,y.to.length≤140737488355328
 ns:x.switches.length≤140737488355328
 nl:x.links.length≤140737488355328
 nv:x.vls.length≤140737488355328
 v: ∀y∈x.vls,y.to.length≤140737488355328
 nh:x.health.length≤140737488355328
 h: ∀y∈x.health,zeQ y
 nk:x.causes.length≤140737488355328
 k: ∀y∈x.causes,zbe y
 nr:x.versions.length≤140737488355328
def zfG (x:zbR):Bool:=x.modules.all zig&&(x.channels.all zgO&&(x.switches.all swF&&(x.links.all zeA&&(x.vls.all vlF&&(x.health.all zdi&&(x.causes.all zdH&&(x.versions.all zij)))))))
theorem zoX (x:zbR) (us:List Value) (W:World) (hE:Hid (Env W)) (hd:Hid (zab W (fun _=>True) us x.cells)) (hP:Hid (zcL W)) (hl:zdE x):
 Calls Tryz.prog 20 #[.agg us.toArray] W fun e w'=>e= .returned (.bool (zfG x))∧Below W.heap.size W w':=by
 have hd:=hd.out
 obtain⟨u0,u1,u2,u3,u4,u5,u6,u7,rfl,h0,h1,h2,h3,h4,h5,h6,h7⟩:=dc8 hd
 have H0:=zaa h0
 obtain⟨A0,q0,rfl, -⟩:=h0.slice
 simp only[List.length_map] at H0 ⊢
 have H1:=zaa h1
 obtain⟨A1,q1,rfl, -⟩:=h1.slice
 simp only[List.length_map] at H1 ⊢
 have H2:=zaa h2
 obtain⟨A2,q2,rfl, -⟩:=h2.slice
 simp only[List.length_map] at H2 ⊢
 have H3:=zaa h3
 obtain⟨A3,q3,rfl, -⟩:=h3.slice
 simp only[List.length_map] at H3 ⊢
 have H4:=zaa h4
 obtain⟨A4,q4,rfl, -⟩:=h4.slice
 simp only[List.length_map] at H4 ⊢
 have H5:=zaa h5
 obtain⟨A5,q5,rfl, -⟩:=h5.slice
 simp only[List.length_map] at H5 ⊢
 have H6:=zaa h6
 obtain⟨A6,q6,rfl, -⟩:=h6.slice
 simp only[List.length_map] at H6 ⊢
 have H7:=zaa h7
 obtain⟨A7,q7,rfl, -⟩:=h7.slice
 simp only[List.length_map] at H7 ⊢
 clear hd h0 h1 h2 h3 h4 h5 h6 h7
 have HX:=zaa (heap_alloc_new W (.cells #[.slice A0 x.modules.length q0,.slice A1 x.channels.length q1,.slice A2 x.switches.length q2,.slice A3 x.links.length q3,.slice A4 x.vls.length q4,.slice A5 x.health.length q5,.slice A6 x.causes.length q6,.slice A7 x.versions.length q7] 31))
 have HB:=zaa ((Below.refl W.heap.size W).alloc (Nat.le_refl _) (.cells #[.slice A0 x.modules.length q0,.slice A1 x.channels.length q1,.slice A2 x.switches.length q2,.slice A3 x.links.length q3,.slice A4 x.vls.length q4,.slice A5 x.health.length q5,.slice A6 x.causes.length q6,.slice A7 x.versions.length q7] 31))
 go_enter Tryz.func20,Tryz.ntmps20
 go_wp2_with fail
 generalize W.alloc _=w0 at *
 have HC:=zaa (zl2 _ x.modules zig w0 (zaa (H0.out.later HB.out)) hl.nm (zaa (fun y hy us w' hb hd=>zoS y us w' (zaa (hE.out.kept (btZ HB.out hb))) (zaa hd) (zaa (hP.out.below (btZ HB.out hb))) (hl.m y hy))))
 generalize hb0:(x.modules.all zig)=z0 at HC
 have HZ0:=zaa hb0
 clear hb0
 cases z0 with
 |false=>
  refine HC.out.mono ?_
  rintro e w1 ⟨rfl,hb⟩
  have HBn:=zaa (btZ HB.out hb)
  go_wp2_with fail
  go_ret
  exact⟨by unfold zfG;rw[HZ0.out];rfl,HBn.out⟩
 |true=>
  refine HC.out.mono ?_
  rintro e w1 ⟨rfl,hb⟩
  have HBn:=zaa (btZ HB.out hb)
  have HXn:=zaa (bkZ hb HX.out)
  clear HX HB HC hb
  have HX:=HXn
  have HB:=HBn
  clear HXn HBn
  have c0:=cell_of_row _ _ 0 _ _ _ HX.out
  have c1:=cell_of_row _ _ 1 _ _ _ HX.out
  have c2:=cell_of_row _ _ 2 _ _ _ HX.out
  have c3:=cell_of_row _ _ 3 _ _ _ HX.out
  have c4:=cell_of_row _ _ 4 _ _ _ HX.out
  have c5:=cell_of_row _ _ 5 _ _ _ HX.out
  have c6:=cell_of_row _ _ 6 _ _ _ HX.out
  have c7:=cell_of_row _ _ 7 _ _ _ HX.out
  go_wp2_with fail
  clear c0 c1 c2 c3 c4 c5 c6 c7
  have HC:=zaa (zkk _ x.channels zgO w1 (zaa (H1.out.later HB.out)) hl.nc (zaa (fun y hy us w' hb hd=>zne y us w' (zaa (hE.out.kept (btZ HB.out hb))) (zaa hd) (hl.c y hy))))
  generalize hb1:(x.channels.all zgO)=z1 at HC
  have HZ1:=zaa hb1
  clear hb1
  cases z1 with
  |false=>
   refine HC.out.mono ?_
   rintro e w2 ⟨rfl,hb⟩
   have HBn:=zaa (btZ HB.out hb)
   go_wp2_with fail
   go_ret
   exact⟨by unfold zfG;rw[HZ0.out,HZ1.out];rfl,HBn.out⟩
  |true=>
   refine HC.out.mono ?_
   rintro e w2 ⟨rfl,hb⟩
   have HBn:=zaa (btZ HB.out hb)
   have HXn:=zaa (bkZ hb HX.out)
   clear HX HB HC hb
   have HX:=HXn
   have HB:=HBn
   clear HXn HBn
   have c0:=cell_of_row _ _ 0 _ _ _ HX.out
   have c1:=cell_of_row _ _ 1 _ _ _ HX.out
   have c2:=cell_of_row _ _ 2 _ _ _ HX.out
   have c3:=cell_of_row _ _ 3 _ _ _ HX.out
   have c4:=cell_of_row _ _ 4 _ _ _ HX.out
   have c5:=cell_of_row _ _ 5 _ _ _ HX.out
   have c6:=cell_of_row _ _ 6 _ _ _ HX.out
   have c7:=cell_of_row _ _ 7 _ _ _ HX.out
   go_wp2_with fail
   clear c0 c1 c2 c3 c4 c5 c6 c7
   have HC:=zaa (zni _ x.switches swF w2 (zaa (H2.out.later HB.out)) hl.ns (zaa (fun y hy us w' hb hd=>f_sw y us w' (zaa (hE.out.kept (btZ HB.out hb))) (zaa hd))))
   generalize hb2:(x.switches.all swF)=z2 at HC
   have HZ2:=zaa hb2
   clear hb2
   cases z2 with
   |false=>
    refine HC.out.mono ?_
    rintro e w3 ⟨rfl,hb⟩
    have HBn:=zaa (btZ HB.out hb)
    go_wp2_with fail
    go_ret
    exact⟨by unfold zfG;rw[HZ0.out,HZ1.out,HZ2.out];rfl,HBn.out⟩
   |true=>
    refine HC.out.mono ?_
    rintro e w3 ⟨rfl,hb⟩
    have HBn:=zaa (btZ HB.out hb)
    have HXn:=zaa (bkZ hb HX.out)
    clear HX HB HC hb
    have HX:=HXn
    have HB:=HBn
    clear HXn HBn
    have c0:=cell_of_row _ _ 0 _ _ _ HX.out
    have c1:=cell_of_row _ _ 1 _ _ _ HX.out
    have c2:=cell_of_row _ _ 2 _ _ _ HX.out
    have c3:=cell_of_row _ _ 3 _ _ _ HX.out
    have c4:=cell_of_row _ _ 4 _ _ _ HX.out
    have c5:=cell_of_row _ _ 5 _ _ _ HX.out
    have c6:=cell_of_row _ _ 6 _ _ _ HX.out
    have c7:=cell_of_row _ _ 7 _ _ _ HX.out
    go_wp2_with fail
    clear c0 c1 c2 c3 c4 c5 c6 c7
    have HC:=zaa (zky _ x.links zeA w3 (zaa (H3.out.later HB.out)) hl.nl (zaa (fun y hy us w' hb hd=>zno y us w' (zaa (hE.out.kept (btZ HB.out hb))) (zaa hd))))
    generalize hb3:(x.links.all zeA)=z3 at HC
    have HZ3:=zaa hb3
    clear hb3
    cases z3 with
    |false=>
     refine HC.out.mono ?_
     rintro e w4 ⟨rfl,hb⟩
     have HBn:=zaa (btZ HB.out hb)
     go_wp2_with fail
     go_ret
     exact⟨by unfold zfG;rw[HZ0.out,HZ1.out,HZ2.out,HZ3.out];rfl,HBn.out⟩
    |true=>
     refine HC.out.mono ?_
     rintro e w4 ⟨rfl,hb⟩
     have HBn:=zaa (btZ HB.out hb)
     have HXn:=zaa (bkZ hb HX.out)
     clear HX HB HC hb
     have HX:=HXn
     have HB:=HBn
     clear HXn HBn
     have c0:=cell_of_row _ _ 0 _ _ _ HX.out
     have c1:=cell_of_row _ _ 1 _ _ _ HX.out
     have c2:=cell_of_row _ _ 2 _ _ _ HX.out
     have c3:=cell_of_row _ _ 3 _ _ _ HX.out
     have c4:=cell_of_row _ _ 4 _ _ _ HX.out
     have c5:=cell_of_row _ _ 5 _ _ _ HX.out
     have c6:=cell_of_row _ _ 6 _ _ _ HX.out
     have c7:=cell_of_row _ _ 7 _ _ _ HX.out
     go_wp2_with fail
     clear c0 c1 c2 c3 c4 c5 c6 c7
     have HC:=zaa (znT _ x.vls vlF w4 (zaa (H4.out.later HB.out)) hl.nv (zaa (fun y hy us w' hb hd=>f_vl y us w' (zaa (hE.out.kept (btZ HB.out hb))) (zaa hd) (hl.v y hy))))
     generalize hb4:(x.vls.all vlF)=z4 at HC
     have HZ4:=zaa hb4
     clear hb4
     cases z4 with
     |false=>
      refine HC.out.mono ?_
      rintro e w5 ⟨rfl,hb⟩
      have HBn:=zaa (btZ HB.out hb)
      go_wp2_with fail
      go_ret
      exact⟨by unfold zfG;rw[HZ0.out,HZ1.out,HZ2.out,HZ3.out,HZ4.out];rfl,HBn.out⟩
     |true=>
      refine HC.out.mono ?_
      rintro e w5 ⟨rfl,hb⟩
      have HBn:=zaa (btZ HB.out hb)
      have HXn:=zaa (bkZ hb HX.out)
      clear HX HB HC hb
      have HX:=HXn
      have HB:=HBn
      clear HXn HBn
      have c0:=cell_of_row _ _ 0 _ _ _ HX.out
      have c1:=cell_of_row _ _ 1 _ _ _ HX.out
      have c2:=cell_of_row _ _ 2 _ _ _ HX.out
      have c3:=cell_of_row _ _ 3 _ _ _ HX.out
      have c4:=cell_of_row _ _ 4 _ _ _ HX.out
      have c5:=cell_of_row _ _ 5 _ _ _ HX.out
      have c6:=cell_of_row _ _ 6 _ _ _ HX.out
      have c7:=cell_of_row _ _ 7 _ _ _ HX.out
      go_wp2_with fail
      clear c0 c1 c2 c3 c4 c5 c6 c7
      have HC:=zaa (zhM _ x.health zdi w5 (zaa (H5.out.later HB.out)) hl.nh (zaa (fun y hy us w' hb hd=>zkg y us w' (zaa (hE.out.kept (btZ HB.out hb))) (zaa (hP.out.below (btZ HB.out hb))) (hl.h y hy).1 (hl.h y hy).2.1 (hl.h y hy).2.2 (zaa hd))))
      generalize hb5:(x.health.all zdi)=z5 at HC
      have HZ5:=zaa hb5
      clear hb5
      cases z5 with
      |false=>
       refine HC.out.mono ?_
       rintro e w6 ⟨rfl,hb⟩
       have HBn:=zaa (btZ HB.out hb)
       go_wp2_with fail
       go_ret
       exact⟨by unfold zfG;rw[HZ0.out,HZ1.out,HZ2.out,HZ3.out,HZ4.out,HZ5.out];rfl,HBn.out⟩
      |true=>
       refine HC.out.mono ?_
       rintro e w6 ⟨rfl,hb⟩
       have HBn:=zaa (btZ HB.out hb)
       have HXn:=zaa (bkZ hb HX.out)
       clear HX HB HC hb
       have HX:=HXn
       have HB:=HBn
       clear HXn HBn
       have c0:=cell_of_row _ _ 0 _ _ _ HX.out
       have c1:=cell_of_row _ _ 1 _ _ _ HX.out
       have c2:=cell_of_row _ _ 2 _ _ _ HX.out
       have c3:=cell_of_row _ _ 3 _ _ _ HX.out
       have c4:=cell_of_row _ _ 4 _ _ _ HX.out
       have c5:=cell_of_row _ _ 5 _ _ _ HX.out
       have c6:=cell_of_row _ _ 6 _ _ _ HX.out
       have c7:=cell_of_row _ _ 7 _ _ _ HX.out
       go_wp2_with fail
       clear c0 c1 c2 c3 c4 c5 c6 c7
       have HC:=zaa (zjF _ x.causes zdH w6 (zaa (H6.out.later HB.out)) hl.nk (zaa (fun y hy us w' hb hd=>zmn y us w' (zaa (hE.out.kept (btZ HB.out hb))) (hl.k y hy).1 (hl.k y hy).2 (zaa hd))))
       generalize hb6:(x.causes.all zdH)=z6 at HC
       have HZ6:=zaa hb6
       clear hb6
       cases z6 with
       |false=>
        refine HC.out.mono ?_
        rintro e w7 ⟨rfl,hb⟩
        have HBn:=zaa (btZ HB.out hb)
        go_wp2_with fail
        go_ret
        exact⟨by unfold zfG;rw[HZ0.out,HZ1.out,HZ2.out,HZ3.out,HZ4.out,HZ5.out,HZ6.out];rfl,HBn.out⟩
       |true=>
        refine HC.out.mono ?_
        rintro e w7 ⟨rfl,hb⟩
        have HBn:=zaa (btZ HB.out hb)
        have HXn:=zaa (bkZ hb HX.out)
        clear HX HB HC hb
        have HX:=HXn
        have HB:=HBn
        clear HXn HBn
        have c0:=cell_of_row _ _ 0 _ _ _ HX.out
        have c1:=cell_of_row _ _ 1 _ _ _ HX.out
        have c2:=cell_of_row _ _ 2 _ _ _ HX.out
        have c3:=cell_of_row _ _ 3 _ _ _ HX.out
        have c4:=cell_of_row _ _ 4 _ _ _ HX.out
        have c5:=cell_of_row _ _ 5 _ _ _ HX.out
        have c6:=cell_of_row _ _ 6 _ _ _ HX.out
        have c7:=cell_of_row _ _ 7 _ _ _ HX.out
        go_wp2_with fail
        clear c0 c1 c2 c3 c4 c5 c6 c7
        have HC:=zaa (zmw _ x.versions zij w7 (zaa (H7.out.later HB.out)) hl.nr (zaa (fun y hy us w' hb hd=>zoy y us w' (zaa (hE.out.kept (btZ HB.out hb))) (zaa hd))))
        generalize hb7:(x.versions.all zij)=z7 at HC
        have HZ7:=zaa hb7
        clear hb7
        refine HC.out.mono ?_
        rintro e w8 ⟨rfl,hb⟩
        have HBn:=zaa (btZ HB.out hb)
        go_wp2_with fail
        go_ret
        exact⟨by unfold zfG;rw[HZ0.out,HZ1.out,HZ2.out,HZ3.out,HZ4.out,HZ5.out,HZ6.out,HZ7.out];rfl,HBn.out⟩
end Go.Proofs.YtgbfaompondolaaGreatDoor
namespace Go.Proofs.YtgbfaompondolaaGreatDoor
open Go.RowKit
theorem zaq {B:Nat} {a w:World} (h:Below B a w) (n:Nat):Below B a (w.drewN n):=h.trans ⟨rfl,rfl,rfl,Nat.le_refl _,fun _ _=>rfl⟩
def zd3 (W:World) (l:List Obj):World:=l.foldl World.alloc W
theorem zgP: ∀(l:List Obj) (W:World),(zd3 W l).heap.size=W.heap.size+l.length
 |[],W=>rfl
 |o::l,W=>by
  show(zd3 (W.alloc o) l).heap.size=_
  rw[zgP l (W.alloc o),World.size_alloc,List.length_cons]
  omega
theorem zcN: ∀(l:List Obj) (W:World),Below W.heap.size W (zd3 W l)
 |[],W=>Below.refl _ _
 |o::l,W=>((Below.refl W.heap.size W).alloc (Nat.le_refl _) o).trans ((zcN l (W.alloc o)).mono (by simp))
theorem zc2: ∀(l:List Obj) (W:World) (i:Nat) (o:Obj),l[i]? =some o→(zd3 W l).heap[W.heap.size+i]? =some o
 |[],W,i,o,h=>by simp at h
 |p::l,W,0,o,h=>by
  have h:p=o:=by simpa using h
  subst h
  have hb:=(zcN l (W.alloc p)).block W.heap.size (by simp)
  rw[Nat.add_zero]
  exact hb.trans (heap_alloc_new W p)
 |p::l,W,i+1,o,h=>by
  have:=zc2 l (W.alloc p) i o (by simpa using h)
  rw[World.size_alloc] at this
  rw[show W.heap.size+(i+1)=W.heap.size+1+i by omega]
  exact this
def sOb (z:Nat) (us vs:List Value):List Obj:=[.cells us.toArray 31,.cells vs.toArray 31,.cells #[.func (.func 36) #[] #[]] 95,.cells #[.func (.func 38) #[] #[.pointer (some ⟨z+1+1,0,none⟩)]] 99]
end Go.Proofs.YtgbfaompondolaaGreatDoor
