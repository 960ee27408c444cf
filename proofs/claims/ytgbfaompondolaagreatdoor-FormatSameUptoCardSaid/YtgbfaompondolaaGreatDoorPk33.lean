/- Merged texts of the walks and of the plain laws on which the statement leans.-/
import Derived.Test.YtgbfaompondolaaGreatDoorPk21
import Derived.Test.YtgbfaompondolaaGreatDoorPk14
import Derived.Test.YtgbfaompondolaaGreatDoorPk32
import Derived.Test.YtgbfaompondolaaGreatDoorPk19
import Derived.Test.YtgbfaompondolaaGreatDoorPk1
import Derived.Deep.MidRow
set_option maxHeartbeats 4000000
set_option maxRecDepth 100000
namespace Go.Proofs.YtgbfaompondolaaGreatDoor
open Go.RowKit
attribute [local go_sem] zal.cell
theorem zeI {α:Type} (f:α→Nat): ∀(l:List α) (x:α),x∈l→f x≤(l.map f).sum
 |a::l,x,h=>by
  rw[List.map_cons,List.sum_cons]
  rcases List.mem_cons.1 h with rfl|h
  ·omega
  ·have:=zeI f l x h
   omega
theorem zdJ {α:Type} (f:α→Nat) (h: ∀x,1≤f x): ∀l:List α,l.length≤(l.map f).sum
 |[]=>by simp
 |a::l=>by
  have:=zdJ f h l
  have:=h a
  simp only[List.length_cons,List.map_cons,List.sum_cons]
  omega
theorem zhC {x:zaM} (h:zcA x≤400):zeT x:=by
 unfold zcA at h
 have h1:=zdJ zcE (fun y=>by unfold zcE;omega) x.procs
 exact⟨by omega,by omega,by omega,by omega,fun y hy=>by have:=zeI zcE x.procs y hy;have h9:zcE y=2+y.code.length:=rfl;omega⟩
theorem ziI {x:zcl} (h:ze6 x≤400):x.parts.length≤1000000∧ ∀z∈x.parts,zeT z:=by
 unfold ze6 at h
 have h1:=zdJ zcA (fun y=>by unfold zcA;omega) x.parts
 exact⟨by omega,fun y hy=>zhC (by have:=zeI zcA x.parts y hy;omega)⟩
theorem zdU {x:zbR} (h:zeu x≤400):zoR x:=by
 unfold zeu at h
 have h1:=zdJ ze6 (fun y=>by unfold ze6;omega) x.modules
 have h2:=zdJ zcQ (fun y=>by unfold zcQ;omega) x.channels
 have h3:=zdJ vlN (fun y=>by unfold vlN;omega) x.vls
 have h4:=zdJ zbS (fun y=>by unfold zbS;omega) x.causes
 exact⟨by omega,fun y hy=>ziI (by have:=zeI ze6 x.modules y hy;omega),by omega,fun y hy=>by have:=zeI zcQ x.channels y hy;have h9:zcQ y=2+2*y.to.length:=rfl;omega,by omega,by omega,by omega,
  fun y hy=>by have:=zeI vlN x.vls y hy;have h9:vlN y=3+2*y.to.length:=rfl;omega,by omega,by omega,fun y hy=>by have:=zeI zbS x.causes y hy;have h9:zbS y=1+2*y.needs.length+y.but.length:=rfl;omega,by omega⟩
theorem zae {α:Type} {size:Nat} {ms:List (List Value)} {E:Elt α} {w:World} {G:Nat→Prop} {v:Value} {l:List α} (h:LL size ms E w G v l): ∃g c,v= .slice (some ⟨g,0,none⟩) l.length c:=by
 obtain⟨g,c,rows,e, -⟩:=h
 exact⟨g,c,e⟩
def z8:Obj:= .cells #[.slice none 0 0,.slice none 0 0,.slice none 0 0,.slice none 0 0,.slice none 0 0,.slice none 0 0,.slice none 0 0,.slice none 0 0] 31
def st8 (w:World) (b:Nat) (l:List Value):World:=w.setCells b 0 l
theorem zhp {w:World} {b:Nat} {p0 p1 p2 p3 p4 p5 p6 p7:Value} (h:w.heap[b]? =some z8):(st8 w b [p0,p1,p2,p3,p4,p5,p6,p7]).heap[b]? =some (.cells #[p0,p1,p2,p3,p4,p5,p6,p7] 31):=by
 have h0:(w.setCell ⟨b,0,none⟩ p0).heap[b]? =some (.cells #[p0,.slice none 0 0,.slice none 0 0,.slice none 0 0,.slice none 0 0,.slice none 0 0,.slice none 0 0,.slice none 0 0] 31):=heap_setCell_same _ _ 0 _ _ p0 h
 have h1:((w.setCell ⟨b,0,none⟩ p0).setCell ⟨b,1,none⟩ p1).heap[b]? =some (.cells #[p0,p1,.slice none 0 0,.slice none 0 0,.slice none 0 0,.slice none 0 0,.slice none 0 0,.slice none 0 0] 31):=heap_setCell_same _ _ 1 _ _ p1 h0
 have h2:(((w.setCell ⟨b,0,none⟩ p0).setCell ⟨b,1,none⟩ p1).setCell ⟨b,2,none⟩ p2).heap[b]? =some (.cells #[p0,p1,p2,.slice none 0 0,.slice none 0 0,.slice none 0 0,.slice none 0 0,.slice none 0 0] 31):=heap_setCell_same _ _ 2 _ _ p2 h1
 have h3:((((w.setCell ⟨b,0,none⟩ p0).setCell ⟨b,1,none⟩ p1).setCell ⟨b,2,none⟩ p2).setCell ⟨b,3,none⟩ p3).heap[b]? =some (.cells #[p0,p1,p2,p3,.slice none 0 0,.slice none 0 0,.slice none 0 0,.slice none 0 0] 31):=heap_setCell_same _ _ 3 _ _ p3 h2
 have h4:(((((w.setCell ⟨b,0,none⟩ p0).setCell ⟨b,1,none⟩ p1).setCell ⟨b,2,none⟩ p2).setCell ⟨b,3,none⟩ p3).setCell ⟨b,4,none⟩ p4).heap[b]? =some (.cells #[p0,p1,p2,p3,p4,.slice none 0 0,.slice none 0 0,.slice none 0 0] 31):=heap_setCell_same _ _ 4 _ _ p4 h3
 have h5:((((((w.setCell ⟨b,0,none⟩ p0).setCell ⟨b,1,none⟩ p1).setCell ⟨b,2,none⟩ p2).setCell ⟨b,3,none⟩ p3).setCell ⟨b,4,none⟩ p4).setCell ⟨b,5,none⟩ p5).heap[b]? =some (.cells #[p0,p1,p2,p3,p4,p5,.slice none 0 0,.slice none 0 0] 31):=heap_setCell_same _ _ 5 _ _ p5 h4
 have h6:(((((((w.setCell ⟨b,0,none⟩ p0).setCell ⟨b,1,none⟩ p1).setCell ⟨b,2,none⟩ p2).setCell ⟨b,3,none⟩ p3).setCell ⟨b,4,none⟩ p4).setCell ⟨b,5,none⟩ p5).setCell ⟨b,6,none⟩ p6).heap[b]? =some (.cells #[p0,p1,p2,p3,p4,p5,p6,.slice none 0 0] 31):=heap_setCell_same _ _ 6 _ _ p6 h5
 have h7:((((((((w.setCell ⟨b,0,none⟩ p0).setCell ⟨b,1,none⟩ p1).setCell ⟨b,2,none⟩ p2).setCell ⟨b,3,none⟩ p3).setCell ⟨b,4,none⟩ p4).setCell ⟨b,5,none⟩ p5).setCell ⟨b,6,none⟩ p6).setCell ⟨b,7,none⟩ p7).heap[b]? =some (.cells #[p0,p1,p2,p3,p4,p5,p6,p7] 31):=heap_setCell_same _ _ 7 _ _ p7 h6
 exact h7
theorem zfj {b c:Nat} (h:c≠b): ∀(l:List Value) (o:Nat) (w:World),(w.setCells b o l).heap[c]? =w.heap[c]?
 |[],_,_=>rfl
 |_v::l,o,_w=>(zfj h l (o+1) _).trans (Below.heap_setCell _ _ _ _ h)
theorem zdN {w:World} {b c:Nat} {l:List Value} (h:c≠b):(st8 w b l).heap[c]? =w.heap[c]? :=zfj h l 0 w
theorem zfr {B b:Nat} {w0:World} (hb:B≤b): ∀(l:List Value) (o:Nat) (w:World),Below B w0 w→Below B w0 (w.setCells b o l)
 |[],_,_,h=>h
 |v::l,o,_w,h=>zfr hb l (o+1) _ (h.setCell (p:=⟨b,o,none⟩) hb v)
theorem zfN {B b:Nat} {w0 w:World} {l:List Value} (h:Below B w0 w) (hb:B≤b):Below B w0 (st8 w b l):=zfr hb l 0 w h
theorem zfY {b:Nat}: ∀(l:List Value) (o:Nat) (w:World),(w.setCells b o l).heap.size=w.heap.size
 |[],_,_=>rfl
 |v::l,o,w=>(zfY l (o+1) _).trans (by simp[World.setCell])
theorem zeB {w:World} {b:Nat} {l:List Value}:(st8 w b l).heap.size=w.heap.size:=zfY l 0 w
theorem zbG {w:World} {b:Nat} (h:w.heap[b]? =some z8):w.there b 0 8:=by
 unfold z8 at h
 obtain⟨d0,d1,d2,d3,d4,d5,d6,d7⟩:=zaI h
 intro j hj
 rcases(by omega:j=0∨j=1∨j=2∨j=3∨j=4∨j=5∨j=6∨j=7) with rfl|rfl|rfl|rfl|rfl|rfl|rfl|rfl
 ·exact⟨by show(w.cell? ⟨b,0,none⟩).isSome=true;rw[d0];rfl,frozen_of_row _ _ 0 _ _ h⟩
 ·exact⟨by show(w.cell? ⟨b,1,none⟩).isSome=true;rw[d1];rfl,frozen_of_row _ _ 1 _ _ h⟩
 ·exact⟨by show(w.cell? ⟨b,2,none⟩).isSome=true;rw[d2];rfl,frozen_of_row _ _ 2 _ _ h⟩
 ·exact⟨by show(w.cell? ⟨b,3,none⟩).isSome=true;rw[d3];rfl,frozen_of_row _ _ 3 _ _ h⟩
 ·exact⟨by show(w.cell? ⟨b,4,none⟩).isSome=true;rw[d4];rfl,frozen_of_row _ _ 4 _ _ h⟩
 ·exact⟨by show(w.cell? ⟨b,5,none⟩).isSome=true;rw[d5];rfl,frozen_of_row _ _ 5 _ _ h⟩
 ·exact⟨by show(w.cell? ⟨b,6,none⟩).isSome=true;rw[d6];rfl,frozen_of_row _ _ 6 _ _ h⟩
 ·exact⟨by show(w.cell? ⟨b,7,none⟩).isSome=true;rw[d7];rfl,frozen_of_row _ _ 7 _ _ h⟩
structure R3 (B:Nat) (x y:zbR) (w:World) (o5 o6:Option Nat) (r1 r2:Option (List Value)):Prop where
 z5: ∀b,o5=some b→w.heap[b]? =some z8∧B≤b
 z6: ∀b,o6=some b→w.heap[b]? =some z8∧B≤b
 ne: ∀b,o5=some b→o6≠some b
 e1: ∀r,r1=some r→zeM w (fun b=>B≤b∧o5≠some b∧o6≠some b) r x
 e2: ∀r,r2=some r→zeM w (fun b=>B≤b∧o5≠some b∧o6≠some b) r y
theorem R3.start {B:Nat} {x y:zbR} {w:World}:R3 B x y w none none none none:=⟨nofun,nofun,nofun,nofun,nofun⟩
theorem za8 {w:World} {b:Nat} {o:Obj} (h:w.heap[b]? =some o):b<w.heap.size:=(zaJ h)
theorem R3.call1 {B:Nat} {x y:zbR} {w w':World} {o5 o6:Option Nat} {r:List Value} {r2:Option (List Value)} (h:R3 B x y w o5 o6 none r2) (hB:B≤w.heap.size) (hb:Below w.heap.size w w') (hE:zeM w' (fun b=>w.heap.size≤b) r x):R3 B x y w' o5 o6 (some r) r2 where
 z5:=fun b e=>⟨(hb.block b (za8 (h.z5 b e).1)).trans (h.z5 b e).1,(h.z5 b e).2⟩
 z6:=fun b e=>⟨(hb.block b (za8 (h.z6 b e).1)).trans (h.z6 b e).1,(h.z6 b e).2⟩
 ne:=h.ne
 e1:=fun q e=>by
  injection e with e
  subst e
  exact zcH.mono _ _ _ _ _ (fun b hb2 _=>⟨Nat.le_trans hB hb2,fun e=>by have:=za8 (h.z5 b e).1;have h2:w.heap.size≤b:=hb2;omega,fun e=>by have:=za8 (h.z6 b e).1;have h2:w.heap.size≤b:=hb2;omega⟩) hE
 e2:=fun q e=>zcH.keep _ _ _ _ _ hb.size (fun b _ hl=>hb.block b hl) (h.e2 q e)
theorem R3.call2 {B:Nat} {x y:zbR} {w w':World} {o5 o6:Option Nat} {r:List Value} {r1:Option (List Value)} (h:R3 B x y w o5 o6 r1 none) (hB:B≤w.heap.size) (hb:Below w.heap.size w w') (hE:zeM w' (fun b=>w.heap.size≤b) r y):R3 B x y w' o5 o6 r1 (some r) where
 z5:=fun b e=>⟨(hb.block b (za8 (h.z5 b e).1)).trans (h.z5 b e).1,(h.z5 b e).2⟩
 z6:=fun b e=>⟨(hb.block b (za8 (h.z6 b e).1)).trans (h.z6 b e).1,(h.z6 b e).2⟩
 ne:=h.ne
 e1:=fun q e=>zcH.keep _ _ _ _ _ hb.size (fun b _ hl=>hb.block b hl) (h.e1 q e)
 e2:=fun q e=>by
  injection e with e
  subst e
  exact zcH.mono _ _ _ _ _ (fun b hb2 _=>⟨Nat.le_trans hB hb2,fun e=>by have:=za8 (h.z5 b e).1;have h2:w.heap.size≤b:=hb2;omega,fun e=>by have:=za8 (h.z6 b e).1;have h2:w.heap.size≤b:=hb2;omega⟩) hE
theorem zkW {G H:Nat→Prop} {w:World} {r:List Value} {x:zbR} {o:Obj} (h:zeM w G r x) (hg: ∀b,G b→b<w.heap.size→H b):zeM (w.alloc o) H r x:=zcH.keep _ _ _ _ _ (by simp) (fun b _ hl=>Below.heap_alloc _ _ _ hl) (zcH.mono _ _ _ _ _ hg h)
theorem R3.alloc5 {B:Nat} {x y:zbR} {w:World} {o6:Option Nat} {r1 r2:Option (List Value)} (h:R3 B x y w none o6 r1 r2) (hB:B≤w.heap.size):R3 B x y (w.alloc z8) (some w.heap.size) o6 r1 r2 where
 z5:=fun b e=>by injection e with e;subst e;exact⟨heap_alloc_new _ _,hB⟩
 z6:=fun b e=>⟨(Below.heap_alloc _ _ _ (za8 (h.z6 b e).1)).trans (h.z6 b e).1,(h.z6 b e).2⟩
 ne:=fun b e e6=>by injection e with e;have:=za8 (h.z6 b e6).1;omega
 e1:=fun q e=>zkW (h.e1 q e) (fun b hb hl=>⟨hb.1,fun e=>by injection e with e;omega,hb.2.2⟩)
 e2:=fun q e=>zkW (h.e2 q e) (fun b hb hl=>⟨hb.1,fun e=>by injection e with e;omega,hb.2.2⟩)
theorem R3.alloc6 {B:Nat} {x y:zbR} {w:World} {o5:Option Nat} {r1 r2:Option (List Value)} (h:R3 B x y w o5 none r1 r2) (hB:B≤w.heap.size):R3 B x y (w.alloc z8) o5 (some w.heap.size) r1 r2 where
 z5:=fun b e=>⟨(Below.heap_alloc _ _ _ (za8 (h.z5 b e).1)).trans (h.z5 b e).1,(h.z5 b e).2⟩
 z6:=fun b e=>by injection e with e;subst e;exact⟨heap_alloc_new _ _,hB⟩
 ne:=fun b e e6=>by injection e6 with e6;have:=za8 (h.z5 b e).1;omega
 e1:=fun q e=>zkW (h.e1 q e) (fun b hb hl=>⟨hb.1,hb.2.1,fun e=>by injection e with e;omega⟩)
 e2:=fun q e=>zkW (h.e2 q e) (fun b hb hl=>⟨hb.1,hb.2.1,fun e=>by injection e with e;omega⟩)
structure F3 (B:Nat) (w0:World) (x y:zbR) (b5 b6:Nat) (r q:List Value) (w:World):Prop where
 hb:Below B w0 w
 z5:w.heap[b5]? =some (.cells r.toArray 31)
 z6:w.heap[b6]? =some (.cells q.toArray 31)
 e1:zeM w (fun _=>True) r x
 e2:zeM w (fun _=>True) q y
theorem R3.fin {B b5 b6:Nat} {w0 w:World} {x y:zbR} {p0 p1 p2 p3 p4 p5 p6 p7 q0 q1 q2 q3 q4 q5 q6 q7:Value} (h:R3 B x y w (some b5) (some b6) (some [p0,p1,p2,p3,p4,p5,p6,p7]) (some [q0,q1,q2,q3,q4,q5,q6,q7])) (hb:Below B w0 w):F3 B w0 x y b5 b6 [p0,p1,p2,p3,p4,p5,p6,p7] [q0,q1,q2,q3,q4,q5,q6,q7] (st8 (st8 w b5 [p0,p1,p2,p3,p4,p5,p6,p7]) b6 [q0,q1,q2,q3,q4,q5,q6,q7]):=by
 have hne:b5≠b6:=fun e=>h.ne b5 rfl (by rw[e])
 have hk: ∀b,(B≤b∧some b5≠some b∧some b6≠some b)→(st8 (st8 w b5 [p0,p1,p2,p3,p4,p5,p6,p7]) b6 [q0,q1,q2,q3,q4,q5,q6,q7]).heap[b]? =w.heap[b]? :=fun b hb2=>(zdN (fun e=>hb2.2.2 (by rw[e]))).trans (zdN (fun e=>hb2.2.1 (by rw[e])))
 exact⟨zfN (zfN hb (h.z5 b5 rfl).2) (h.z6 b6 rfl).2,(zdN hne).trans (zhp (h.z5 b5 rfl).1),zhp ((zdN (Ne.symm hne)).trans (h.z6 b6 rfl).1),
  zcH.mono _ _ _ _ _ (fun _ _ _=>trivial) (zcH.keep _ _ _ _ _ (by rw[zeB,zeB];exact Nat.le_refl _) (fun b hb2 _=>hk b hb2) (h.e1 _ rfl)),
  zcH.mono _ _ _ _ _ (fun _ _ _=>trivial) (zcH.keep _ _ _ _ _ (by rw[zeB,zeB];exact Nat.le_refl _) (fun b hb2 _=>hk b hb2) (h.e2 _ rfl))⟩
theorem ziV (x y:zbR) (us vs:List Value) (W:World) (hE:Hid (Env W)) (hP:Hid (zcL W)) (hd:Hid (zab W (fun _=>True) us x.cells)) (he:Hid (zab W (fun _=>True) vs y.cells)) (hl:zdE x) (hm:zdE y) (hn:zeu x+zeJ x≤1000000000) (hn2:zeu y+zeJ y≤1000000000):
 Calls Tryz.prog 5 #[.agg us.toArray,.agg vs.toArray] W fun e w'=>e= .returned (.bool true)∧Below W.heap.size W w':=by
 have HA:=zaa (fun V hE hP=>zi9 V hE hP)
 have HZ:=zaa (fun V hd=>zhm x us V hd hn)
 have HZ2:=zaa (fun V hd=>zhm y vs V hd hn2)
 have HD:=hd
 have HD2:=he
 have HLX:=zaa (fun(h:zeu x+zeJ x/8≤400) V hd=>zfW x us V hd (zdU (by omega)))
 have HLY:=zaa (fun(h:zeu y+zeJ y/8≤400) V hd=>zfW y vs V hd (zdU (by omega)))
 have HSX:=zaa (fun(h:zeu x+zeJ x/8≤400)=>zdU (x:=x) (by omega))
 have HSY:=zaa (fun(h:zeu y+zeJ y/8≤400)=>zdU (x:=y) (by omega))
 have hd:=hd.out
 have he:=he.out
 obtain⟨xu0,xu1,xu2,xu3,xu4,xu5,xu6,xu7,rfl,h0,h1,h2,h3,h4,h5,h6,h7⟩:=dc8 hd
 clear hd h0 h1 h2 h3 h4 h5 h6 h7
 obtain⟨xv0,xv1,xv2,xv3,xv4,xv5,xv6,xv7,rfl,i0,i1,i2,i3,i4,i5,i6,i7⟩:=dc8 he
 clear he i0 i1 i2 i3 i4 i5 i6 i7
 have HX0:=zaa ((Below.heap_alloc (W.alloc (.cells #[xu0,xu1,xu2,xu3,xu4,xu5,xu6,xu7] 31)) (.cells #[xv0,xv1,xv2,xv3,xv4,xv5,xv6,xv7] 31) W.heap.size (by simp)).trans (heap_alloc_new W (.cells #[xu0,xu1,xu2,xu3,xu4,xu5,xu6,xu7] 31)))
 have HY0:=zaa (heap_alloc_new (W.alloc (.cells #[xu0,xu1,xu2,xu3,xu4,xu5,xu6,xu7] 31)) (.cells #[xv0,xv1,xv2,xv3,xv4,xv5,xv6,xv7] 31))
 rw[World.size_alloc] at HY0
 have HB0:=zaa (((Below.refl W.heap.size W).alloc (Nat.le_refl _) (.cells #[xu0,xu1,xu2,xu3,xu4,xu5,xu6,xu7] 31)).alloc (by simp) (.cells #[xv0,xv1,xv2,xv3,xv4,xv5,xv6,xv7] 31))
 have H4:=zaa (show¬zeu x+zeJ x/8≤400→(400:Int)<((zeu x+zeJ x/8:Nat):Int) by omega)
 have H5:=zaa (show zeu x+zeJ x/8≤400→ ¬(400:Int)<((zeu x+zeJ x/8:Nat):Int) by omega)
 have H6:=zaa (show¬zeu y+zeJ y/8≤400→(400:Int)<((zeu y+zeJ y/8:Nat):Int) by omega)
 have H7:=zaa (show zeu y+zeJ y/8≤400→ ¬(400:Int)<((zeu y+zeJ y/8:Nat):Int) by omega)
 generalize zeu x+zeJ x/8=zx at *
 generalize zeu y+zeJ y/8=zy at *
 go_enter Tryz.func5,Tryz.ntmps5
 go_wp2_with fail
 generalize(W.alloc _).alloc _=w0 at *
 have c0:=cell_of_row _ _ 0 _ _ _ HX0.out
 have c1:=cell_of_row _ _ 1 _ _ _ HX0.out
 have c2:=cell_of_row _ _ 2 _ _ _ HX0.out
 have c3:=cell_of_row _ _ 3 _ _ _ HX0.out
 have c4:=cell_of_row _ _ 4 _ _ _ HX0.out
 have c5:=cell_of_row _ _ 5 _ _ _ HX0.out
 have c6:=cell_of_row _ _ 6 _ _ _ HX0.out
 have c7:=cell_of_row _ _ 7 _ _ _ HX0.out
 by_cases hs:zx≤400
 rotate_left
 ·have h4:=H4.out hs
  clear hs HLX HLY HSX HSY
  go_wp2_with fail
  refine(HZ.out w0 (zaa (HD.out.below HB0.out))).mono ?_
  rintro e w1 ⟨rfl,hb⟩
  have HB1:=zaa (btZ HB0.out hb)
  have HX1:=zaa (bkZ hb HX0.out)
  have HY1:=zaa (bkZ hb HY0.out)
  clear hb
  go_wp2_with fail
  refine(HA.out w1 (zaa (hE.out.kept HB1.out)) (zaa (hP.out.below HB1.out))).mono ?_
  rintro e w2 ⟨rfl,hb⟩
  have HB2:=zaa (btZ HB1.out hb)
  have HX2:=zaa (bkZ hb HX1.out)
  have HY2:=zaa (bkZ hb HY1.out)
  clear hb
  go_wp2_with fail
  go_ret
  exact⟨rfl,HB2.out⟩
 have h5:=H5.out hs
 have HLX:=zaa (HLX.out hs)
 have HSX:=zaa (HSX.out hs)
 go_wp2_with fail
 refine(HZ.out w0 (zaa (HD.out.below HB0.out))).mono ?_
 rintro e w1 ⟨rfl,hb⟩
 have HB1:=zaa (btZ HB0.out hb)
 have HX1:=zaa (bkZ hb HX0.out)
 have HY1:=zaa (bkZ hb HY0.out)
 clear hb HZ HB0 HX0 HY0 c0 c1 c2 c3 c4 c5 c6 c7
 have c0:=cell_of_row _ _ 0 _ _ _ HY1.out
 have c1:=cell_of_row _ _ 1 _ _ _ HY1.out
 have c2:=cell_of_row _ _ 2 _ _ _ HY1.out
 have c3:=cell_of_row _ _ 3 _ _ _ HY1.out
 have c4:=cell_of_row _ _ 4 _ _ _ HY1.out
 have c5:=cell_of_row _ _ 5 _ _ _ HY1.out
 have c6:=cell_of_row _ _ 6 _ _ _ HY1.out
 have c7:=cell_of_row _ _ 7 _ _ _ HY1.out
 by_cases hs2:zy≤400
 rotate_left
 ·have h6:=H6.out hs2
  clear hs hs2 HLX HLY HSX HSY
  go_wp2_with fail
  refine(HZ2.out w1 (zaa (HD2.out.below HB1.out))).mono ?_
  rintro e w2 ⟨rfl,hb⟩
  have HB2:=zaa (btZ HB1.out hb)
  have HX2:=zaa (bkZ hb HX1.out)
  have HY2:=zaa (bkZ hb HY1.out)
  clear hb HB1 HX1 HY1 c0 c1 c2 c3 c4 c5 c6 c7
  go_wp2_with fail
  refine(HA.out w2 (zaa (hE.out.kept HB2.out)) (zaa (hP.out.below HB2.out))).mono ?_
  rintro e w3 ⟨rfl,hb⟩
  have HB3:=zaa (btZ HB2.out hb)
  have HX3:=zaa (bkZ hb HX2.out)
  have HY3:=zaa (bkZ hb HY2.out)
  clear hb
  go_wp2_with fail
  go_ret
  exact⟨rfl,HB3.out⟩
 have h7:=H7.out hs2
 have HLY:=zaa (HLY.out hs2)
 have HSY:=zaa (HSY.out hs2)
 go_wp2_with fail
 refine(HZ2.out w1 (zaa (HD2.out.below HB1.out))).mono ?_
 rintro e w2 ⟨rfl,hb⟩
 have HB2:=zaa (btZ HB1.out hb)
 have HX2:=zaa (bkZ hb HX1.out)
 have HY2:=zaa (bkZ hb HY1.out)
 clear hb HZ2 HB1 HX1 HY1 c0 c1 c2 c3 c4 c5 c6 c7 hs hs2 H4 H5 H6 H7
 go_upto_region 3 with fail
 go_cut [5,6] (fun v5 v6 wx=> ∃b5 b6 r q,v5= .pointer (some ⟨b5,0,none⟩)∧v6= .pointer (some ⟨b6,0,none⟩)∧Hid (F3 w2.heap.size w2 x y b5 b6 r q wx))
 case first=>
  have hx16:W.heap.size<w2.heap.size:=za8 HX2.out
  have hx18:W.heap.size+1<w2.heap.size:=za8 HY2.out
  refine zak (S:=fun w'=>Below w2.heap.size w2 w') 6 (by kernel_rfl) (by kernel_rfl) (Below.refl _ _).drew (fun hHeld=> ?_)
  generalize w2.drew=U at *
  have HR:=zaa (R3.start (B:=w2.heap.size) (x:=x) (y:=y) (w:=U))
  refine zad (i:=0) (oi:=⟨some 16,_,_,_,_,_⟩) (v:= ?_) rfl (by kernel_rfl) (fun _ _ _ h=>h) (Or.inl ⟨by rfl,?_⟩) hHeld ?_
  rotate_left
  ·intro v hS
   have e0:=(hS.cell (p:=⟨W.heap.size,0,none⟩) hx16).trans (cell_of_row _ _ 0 _ _ _ HX2.out)
   have e1:=(hS.cell (p:=⟨W.heap.size,1,none⟩) hx16).trans (cell_of_row _ _ 1 _ _ _ HX2.out)
   have e2:=(hS.cell (p:=⟨W.heap.size,2,none⟩) hx16).trans (cell_of_row _ _ 2 _ _ _ HX2.out)
   have e3:=(hS.cell (p:=⟨W.heap.size,3,none⟩) hx16).trans (cell_of_row _ _ 3 _ _ _ HX2.out)
   have e4:=(hS.cell (p:=⟨W.heap.size,4,none⟩) hx16).trans (cell_of_row _ _ 4 _ _ _ HX2.out)
   have e5:=(hS.cell (p:=⟨W.heap.size,5,none⟩) hx16).trans (cell_of_row _ _ 5 _ _ _ HX2.out)
   have e6:=(hS.cell (p:=⟨W.heap.size,6,none⟩) hx16).trans (cell_of_row _ _ 6 _ _ _ HX2.out)
   have e7:=(hS.cell (p:=⟨W.heap.size,7,none⟩) hx16).trans (cell_of_row _ _ 7 _ _ _ HX2.out)
   go_simp
   with_reducible rfl
  (try simp only[pu])
  refine zad (i:=2) (oi:=⟨some 18,_,_,_,_,_⟩) (v:= ?_) rfl (by kernel_rfl) (fun _ _ _ h=>h) (Or.inl ⟨by rfl,?_⟩) hHeld ?_
  rotate_left
  ·intro v hS
   have e0:=(hS.cell (p:=⟨W.heap.size+1,0,none⟩) hx18).trans (cell_of_row _ _ 0 _ _ _ HY2.out)
   have e1:=(hS.cell (p:=⟨W.heap.size+1,1,none⟩) hx18).trans (cell_of_row _ _ 1 _ _ _ HY2.out)
   have e2:=(hS.cell (p:=⟨W.heap.size+1,2,none⟩) hx18).trans (cell_of_row _ _ 2 _ _ _ HY2.out)
   have e3:=(hS.cell (p:=⟨W.heap.size+1,3,none⟩) hx18).trans (cell_of_row _ _ 3 _ _ _ HY2.out)
   have e4:=(hS.cell (p:=⟨W.heap.size+1,4,none⟩) hx18).trans (cell_of_row _ _ 4 _ _ _ HY2.out)
   have e5:=(hS.cell (p:=⟨W.heap.size+1,5,none⟩) hx18).trans (cell_of_row _ _ 5 _ _ _ HY2.out)
   have e6:=(hS.cell (p:=⟨W.heap.size+1,6,none⟩) hx18).trans (cell_of_row _ _ 6 _ _ _ HY2.out)
   have e7:=(hS.cell (p:=⟨W.heap.size+1,7,none⟩) hx18).trans (cell_of_row _ _ 7 _ _ _ HY2.out)
   go_simp
   with_reducible rfl
  (try simp only[pu])
  refine zac (rs:=[1,4,5]) (by kernel_rfl) (by simp) (by rfl) (zaz.cons rfl (fun K hK=> ?_) (zaz.cons rfl (fun K hK=> ?_) (zaz.cons rfl (fun K hK=> ?_) zaz.nil)))
  ·go_simp
   refine(HLX.out U (zaa (HD.out.below (btZ HB2.out hHeld)))).mono ?_
   rintro e w3 ⟨r,rfl,hE,hb⟩
   have HR:=zaa (HR.out.call1 hHeld.size hb hE)
   obtain⟨p0,p1,p2,p3,p4,p5,p6,p7,rfl,k0,k1,k2,k3,k4,k5,k6,k7⟩:=hE
   obtain⟨gp0,cp0,h_⟩:=zae k0
   subst h_
   obtain⟨gp1,cp1,h_⟩:=zae k1
   subst h_
   obtain⟨gp2,cp2,h_⟩:=zae k2
   subst h_
   obtain⟨gp3,cp3,h_⟩:=zae k3
   subst h_
   obtain⟨gp4,cp4,h_⟩:=zae k4
   subst h_
   obtain⟨gp5,cp5,h_⟩:=zae k5
   subst h_
   obtain⟨gp6,cp6,h_⟩:=zae k6
   subst h_
   obtain⟨gp7,cp7,h_⟩:=zae k7
   subst h_
   clear k0 k1 k2 k3 k4 k5 k6 k7
   have hS:=hHeld.trans (hb.mono hHeld.size)
   clear hb hHeld
   go_wp2_with fail
   refine hK.out _ _ hS (fun hHeld=> ?_)
   clear hK K hS
   (try simp only[pu])
   refine zac (rs:=[3,4,5]) (by kernel_rfl) (by simp) (by rfl) (zaz.cons rfl (fun K hK=> ?_) (zaz.cons rfl (fun K hK=> ?_) (zaz.cons rfl (fun K hK=> ?_) zaz.nil)))
   ·go_simp
    refine(HLY.out w3 (zaa (HD2.out.below (btZ HB2.out hHeld)))).mono ?_
    rintro e w4 ⟨r,rfl,hE,hb⟩
    have HR:=zaa (HR.out.call2 hHeld.size hb hE)
    obtain⟨q0,q1,q2,q3,q4,q5,q6,q7,rfl,k0,k1,k2,k3,k4,k5,k6,k7⟩:=hE
    obtain⟨gq0,cq0,h_⟩:=zae k0
    subst h_
    obtain⟨gq1,cq1,h_⟩:=zae k1
    subst h_
    obtain⟨gq2,cq2,h_⟩:=zae k2
    subst h_
    obtain⟨gq3,cq3,h_⟩:=zae k3
    subst h_
    obtain⟨gq4,cq4,h_⟩:=zae k4
    subst h_
    obtain⟨gq5,cq5,h_⟩:=zae k5
    subst h_
    obtain⟨gq6,cq6,h_⟩:=zae k6
    subst h_
    obtain⟨gq7,cq7,h_⟩:=zae k7
    subst h_
    clear k0 k1 k2 k3 k4 k5 k6 k7
    have hS:=hHeld.trans (hb.mono hHeld.size)
    clear hb hHeld
    go_wp2_with fail
    refine hK.out _ _ hS (fun hHeld=> ?_)
    clear hK K hS
    (try simp only[pu])
    refine zac (rs:=[4,5]) (by kernel_rfl) (by simp) (by rfl) (zaz.cons rfl (fun K hK=> ?_) (zaz.cons rfl (fun K hK=> ?_) zaz.nil))
    ·go_simp
     have HR:=zaa (HR.out.alloc5 hHeld.size)
     have hS:=hHeld.alloc hHeld.size z8
     unfold z8 at HR hS
     refine hK.out _ _ hS (fun hHeld=> ?_)
     clear hK K hS
     (try simp only[pu])
     generalize w4.alloc _=w5 at *
     refine zac (rs:=[5]) (by kernel_rfl) (by simp) (by rfl) (zaz.cons rfl (fun K hK=> ?_) zaz.nil)
     ·go_simp
      have HR:=zaa (HR.out.alloc6 hHeld.size)
      have hS:=hHeld.alloc hHeld.size z8
      unfold z8 at HR hS
      refine hK.out _ _ hS (fun hHeld=> ?_)
      clear hK K hS
      (try simp only[pu])
      generalize w5.alloc _=w6 at *
      refine zai (by kernel_rfl) ?_
      simp only[List.drop_succ_cons,List.drop_zero]
      have HF:=zaa (HR.out.fin hHeld)
      have t5:=zbG (HR.out.z5 _ rfl).1
      have t6:=zbG (HR.out.z6 _ rfl).1
      clear HR hHeld
      refine wpList_store_mid rfl 31 (.tmp 5) (.tmp 17) rfl _ 0 _ rfl rfl t5 (by kernel_rfl) (by simp[Value.oneCell']) ?_
      refine wpList_store_mid rfl 31 (.tmp 6) (.tmp 19) rfl _ 0 _ rfl rfl (World.there_setCells t6 _ _ _) (by kernel_rfl) (by simp[Value.oneCell']) ?_
      simp only[Act.put]
      change wpList _ _ _ _ _ (st8 (st8 w6 _ [_,_,_,_,_,_,_,_]) _ [_,_,_,_,_,_,_,_])
      generalize st8 (st8 w6 _ _) _ _=wz at *
      clear t5 t6
      go_wp2_with fail
      go_meet
      exact⟨_,_,_,_,rfl,rfl,HF⟩
    ·go_simp
     have HR:=zaa (HR.out.alloc6 hHeld.size)
     have hS:=hHeld.alloc hHeld.size z8
     unfold z8 at HR hS
     refine hK.out _ _ hS (fun hHeld=> ?_)
     clear hK K hS
     (try simp only[pu])
     generalize w4.alloc _=w5 at *
     refine zac (rs:=[4]) (by kernel_rfl) (by simp) (by rfl) (zaz.cons rfl (fun K hK=> ?_) zaz.nil)
     ·go_simp
      have HR:=zaa (HR.out.alloc5 hHeld.size)
      have hS:=hHeld.alloc hHeld.size z8
      unfold z8 at HR hS
      refine hK.out _ _ hS (fun hHeld=> ?_)
      clear hK K hS
      (try simp only[pu])
      generalize w5.alloc _=w6 at *
      refine zai (by kernel_rfl) ?_
      simp only[List.drop_succ_cons,List.drop_zero]
      have HF:=zaa (HR.out.fin hHeld)
      have t5:=zbG (HR.out.z5 _ rfl).1
      have t6:=zbG (HR.out.z6 _ rfl).1
      clear HR hHeld
      refine wpList_store_mid rfl 31 (.tmp 5) (.tmp 17) rfl _ 0 _ rfl rfl t5 (by kernel_rfl) (by simp[Value.oneCell']) ?_
      refine wpList_store_mid rfl 31 (.tmp 6) (.tmp 19) rfl _ 0 _ rfl rfl (World.there_setCells t6 _ _ _) (by kernel_rfl) (by simp[Value.oneCell']) ?_
      simp only[Act.put]
      change wpList _ _ _ _ _ (st8 (st8 w6 _ [_,_,_,_,_,_,_,_]) _ [_,_,_,_,_,_,_,_])
      generalize st8 (st8 w6 _ _) _ _=wz at *
      clear t5 t6
      go_wp2_with fail
      go_meet
      exact⟨_,_,_,_,rfl,rfl,HF⟩
   ·go_simp
    have HR:=zaa (HR.out.alloc5 hHeld.size)
    have hS:=hHeld.alloc hHeld.size z8
    unfold z8 at HR hS
    refine hK.out _ _ hS (fun hHeld=> ?_)
    clear hK K hS
    (try simp only[pu])
    generalize w3.alloc _=w4 at *
    refine zac (rs:=[3,5]) (by kernel_rfl) (by simp) (by rfl) (zaz.cons rfl (fun K hK=> ?_) (zaz.cons rfl (fun K hK=> ?_) zaz.nil))
    ·go_simp
     refine(HLY.out w4 (zaa (HD2.out.below (btZ HB2.out hHeld)))).mono ?_
     rintro e w5 ⟨r,rfl,hE,hb⟩
     have HR:=zaa (HR.out.call2 hHeld.size hb hE)
     obtain⟨q0,q1,q2,q3,q4,q5,q6,q7,rfl,k0,k1,k2,k3,k4,k5,k6,k7⟩:=hE
     obtain⟨gq0,cq0,h_⟩:=zae k0
     subst h_
     obtain⟨gq1,cq1,h_⟩:=zae k1
     subst h_
     obtain⟨gq2,cq2,h_⟩:=zae k2
     subst h_
     obtain⟨gq3,cq3,h_⟩:=zae k3
     subst h_
     obtain⟨gq4,cq4,h_⟩:=zae k4
     subst h_
     obtain⟨gq5,cq5,h_⟩:=zae k5
     subst h_
     obtain⟨gq6,cq6,h_⟩:=zae k6
     subst h_
     obtain⟨gq7,cq7,h_⟩:=zae k7
     subst h_
     clear k0 k1 k2 k3 k4 k5 k6 k7
     have hS:=hHeld.trans (hb.mono hHeld.size)
     clear hb hHeld
     go_wp2_with fail
     refine hK.out _ _ hS (fun hHeld=> ?_)
     clear hK K hS
     (try simp only[pu])
     refine zac (rs:=[5]) (by kernel_rfl) (by simp) (by rfl) (zaz.cons rfl (fun K hK=> ?_) zaz.nil)
     ·go_simp
      have HR:=zaa (HR.out.alloc6 hHeld.size)
      have hS:=hHeld.alloc hHeld.size z8
      unfold z8 at HR hS
      refine hK.out _ _ hS (fun hHeld=> ?_)
      clear hK K hS
      (try simp only[pu])
      generalize w5.alloc _=w6 at *
      refine zai (by kernel_rfl) ?_
      simp only[List.drop_succ_cons,List.drop_zero]
      have HF:=zaa (HR.out.fin hHeld)
      have t5:=zbG (HR.out.z5 _ rfl).1
      have t6:=zbG (HR.out.z6 _ rfl).1
      clear HR hHeld
      refine wpList_store_mid rfl 31 (.tmp 5) (.tmp 17) rfl _ 0 _ rfl rfl t5 (by kernel_rfl) (by simp[Value.oneCell']) ?_
      refine wpList_store_mid rfl 31 (.tmp 6) (.tmp 19) rfl _ 0 _ rfl rfl (World.there_setCells t6 _ _ _) (by kernel_rfl) (by simp[Value.oneCell']) ?_
      simp only[Act.put]
      change wpList _ _ _ _ _ (st8 (st8 w6 _ [_,_,_,_,_,_,_,_]) _ [_,_,_,_,_,_,_,_])
      generalize st8 (st8 w6 _ _) _ _=wz at *
      clear t5 t6
      go_wp2_with fail
      go_meet
      exact⟨_,_,_,_,rfl,rfl,HF⟩
    ·go_simp
     have HR:=zaa (HR.out.alloc6 hHeld.size)
     have hS:=hHeld.alloc hHeld.size z8
     unfold z8 at HR hS
     refine hK.out _ _ hS (fun hHeld=> ?_)
     clear hK K hS
     (try simp only[pu])
     generalize w4.alloc _=w5 at *
     refine zac (rs:=[3]) (by kernel_rfl) (by simp) (by rfl) (zaz.cons rfl (fun K hK=> ?_) zaz.nil)
     ·go_simp
      refine(HLY.out w5 (zaa (HD2.out.below (btZ HB2.out hHeld)))).mono ?_
      rintro e w6 ⟨r,rfl,hE,hb⟩
      have HR:=zaa (HR.out.call2 hHeld.size hb hE)
      obtain⟨q0,q1,q2,q3,q4,q5,q6,q7,rfl,k0,k1,k2,k3,k4,k5,k6,k7⟩:=hE
      obtain⟨gq0,cq0,h_⟩:=zae k0
      subst h_
      obtain⟨gq1,cq1,h_⟩:=zae k1
      subst h_
      obtain⟨gq2,cq2,h_⟩:=zae k2
      subst h_
      obtain⟨gq3,cq3,h_⟩:=zae k3
      subst h_
      obtain⟨gq4,cq4,h_⟩:=zae k4
      subst h_
      obtain⟨gq5,cq5,h_⟩:=zae k5
      subst h_
      obtain⟨gq6,cq6,h_⟩:=zae k6
      subst h_
      obtain⟨gq7,cq7,h_⟩:=zae k7
      subst h_
      clear k0 k1 k2 k3 k4 k5 k6 k7
      have hS:=hHeld.trans (hb.mono hHeld.size)
      clear hb hHeld
      go_wp2_with fail
      refine hK.out _ _ hS (fun hHeld=> ?_)
      clear hK K hS
      (try simp only[pu])
      refine zai (by kernel_rfl) ?_
      simp only[List.drop_succ_cons,List.drop_zero]
      have HF:=zaa (HR.out.fin hHeld)
      have t5:=zbG (HR.out.z5 _ rfl).1
      have t6:=zbG (HR.out.z6 _ rfl).1
      clear HR hHeld
      refine wpList_store_mid rfl 31 (.tmp 5) (.tmp 17) rfl _ 0 _ rfl rfl t5 (by kernel_rfl) (by simp[Value.oneCell']) ?_
      refine wpList_store_mid rfl 31 (.tmp 6) (.tmp 19) rfl _ 0 _ rfl rfl (World.there_setCells t6 _ _ _) (by kernel_rfl) (by simp[Value.oneCell']) ?_
      simp only[Act.put]
      change wpList _ _ _ _ _ (st8 (st8 w6 _ [_,_,_,_,_,_,_,_]) _ [_,_,_,_,_,_,_,_])
      generalize st8 (st8 w6 _ _) _ _=wz at *
      clear t5 t6
      go_wp2_with fail
      go_meet
      exact⟨_,_,_,_,rfl,rfl,HF⟩
   ·go_simp
    have HR:=zaa (HR.out.alloc6 hHeld.size)
    have hS:=hHeld.alloc hHeld.size z8
    unfold z8 at HR hS
    refine hK.out _ _ hS (fun hHeld=> ?_)
    clear hK K hS
    (try simp only[pu])
    generalize w3.alloc _=w4 at *
    refine zac (rs:=[3,4]) (by kernel_rfl) (by simp) (by rfl) (zaz.cons rfl (fun K hK=> ?_) (zaz.cons rfl (fun K hK=> ?_) zaz.nil))
    ·go_simp
     refine(HLY.out w4 (zaa (HD2.out.below (btZ HB2.out hHeld)))).mono ?_
     rintro e w5 ⟨r,rfl,hE,hb⟩
     have HR:=zaa (HR.out.call2 hHeld.size hb hE)
     obtain⟨q0,q1,q2,q3,q4,q5,q6,q7,rfl,k0,k1,k2,k3,k4,k5,k6,k7⟩:=hE
     obtain⟨gq0,cq0,h_⟩:=zae k0
     subst h_
     obtain⟨gq1,cq1,h_⟩:=zae k1
     subst h_
     obtain⟨gq2,cq2,h_⟩:=zae k2
     subst h_
     obtain⟨gq3,cq3,h_⟩:=zae k3
     subst h_
     obtain⟨gq4,cq4,h_⟩:=zae k4
     subst h_
     obtain⟨gq5,cq5,h_⟩:=zae k5
     subst h_
     obtain⟨gq6,cq6,h_⟩:=zae k6
     subst h_
     obtain⟨gq7,cq7,h_⟩:=zae k7
     subst h_
     clear k0 k1 k2 k3 k4 k5 k6 k7
     have hS:=hHeld.trans (hb.mono hHeld.size)
     clear hb hHeld
     go_wp2_with fail
     refine hK.out _ _ hS (fun hHeld=> ?_)
     clear hK K hS
     (try simp only[pu])
     refine zac (rs:=[4]) (by kernel_rfl) (by simp) (by rfl) (zaz.cons rfl (fun K hK=> ?_) zaz.nil)
     ·go_simp
      have HR:=zaa (HR.out.alloc5 hHeld.size)
      have hS:=hHeld.alloc hHeld.size z8
      unfold z8 at HR hS
      refine hK.out _ _ hS (fun hHeld=> ?_)
      clear hK K hS
      (try simp only[pu])
      generalize w5.alloc _=w6 at *
      refine zai (by kernel_rfl) ?_
      simp only[List.drop_succ_cons,List.drop_zero]
      have HF:=zaa (HR.out.fin hHeld)
      have t5:=zbG (HR.out.z5 _ rfl).1
      have t6:=zbG (HR.out.z6 _ rfl).1
      clear HR hHeld
      refine wpList_store_mid rfl 31 (.tmp 5) (.tmp 17) rfl _ 0 _ rfl rfl t5 (by kernel_rfl) (by simp[Value.oneCell']) ?_
      refine wpList_store_mid rfl 31 (.tmp 6) (.tmp 19) rfl _ 0 _ rfl rfl (World.there_setCells t6 _ _ _) (by kernel_rfl) (by simp[Value.oneCell']) ?_
      simp only[Act.put]
      change wpList _ _ _ _ _ (st8 (st8 w6 _ [_,_,_,_,_,_,_,_]) _ [_,_,_,_,_,_,_,_])
      generalize st8 (st8 w6 _ _) _ _=wz at *
      clear t5 t6
      go_wp2_with fail
      go_meet
      exact⟨_,_,_,_,rfl,rfl,HF⟩
    ·go_simp
     have HR:=zaa (HR.out.alloc5 hHeld.size)
     have hS:=hHeld.alloc hHeld.size z8
     unfold z8 at HR hS
     refine hK.out _ _ hS (fun hHeld=> ?_)
     clear hK K hS
     (try simp only[pu])
     generalize w4.alloc _=w5 at *
     refine zac (rs:=[3]) (by kernel_rfl) (by simp) (by rfl) (zaz.cons rfl (fun K hK=> ?_) zaz.nil)
     ·go_simp
      refine(HLY.out w5 (zaa (HD2.out.below (btZ HB2.out hHeld)))).mono ?_
      rintro e w6 ⟨r,rfl,hE,hb⟩
      have HR:=zaa (HR.out.call2 hHeld.size hb hE)
      obtain⟨q0,q1,q2,q3,q4,q5,q6,q7,rfl,k0,k1,k2,k3,k4,k5,k6,k7⟩:=hE
      obtain⟨gq0,cq0,h_⟩:=zae k0
      subst h_
      obtain⟨gq1,cq1,h_⟩:=zae k1
      subst h_
      obtain⟨gq2,cq2,h_⟩:=zae k2
      subst h_
      obtain⟨gq3,cq3,h_⟩:=zae k3
      subst h_
      obtain⟨gq4,cq4,h_⟩:=zae k4
      subst h_
      obtain⟨gq5,cq5,h_⟩:=zae k5
      subst h_
      obtain⟨gq6,cq6,h_⟩:=zae k6
      subst h_
      obtain⟨gq7,cq7,h_⟩:=zae k7
      subst h_
      clear k0 k1 k2 k3 k4 k5 k6 k7
      have hS:=hHeld.trans (hb.mono hHeld.size)
      clear hb hHeld
      go_wp2_with fail
      refine hK.out _ _ hS (fun hHeld=> ?_)
      clear hK K hS
      (try simp only[pu])
      refine zai (by kernel_rfl) ?_
      simp only[List.drop_succ_cons,List.drop_zero]
      have HF:=zaa (HR.out.fin hHeld)
      have t5:=zbG (HR.out.z5 _ rfl).1
      have t6:=zbG (HR.out.z6 _ rfl).1
      clear HR hHeld
      refine wpList_store_mid rfl 31 (.tmp 5) (.tmp 17) rfl _ 0 _ rfl rfl t5 (by kernel_rfl) (by simp[Value.oneCell']) ?_
      refine wpList_store_mid rfl 31 (.tmp 6) (.tmp 19) rfl _ 0 _ rfl rfl (World.there_setCells t6 _ _ _) (by kernel_rfl) (by simp[Value.oneCell']) ?_
      simp only[Act.put]
      change wpList _ _ _ _ _ (st8 (st8 w6 _ [_,_,_,_,_,_,_,_]) _ [_,_,_,_,_,_,_,_])
      generalize st8 (st8 w6 _ _) _ _=wz at *
      clear t5 t6
      go_wp2_with fail
      go_meet
      exact⟨_,_,_,_,rfl,rfl,HF⟩
  ·go_simp
   have HR:=zaa (HR.out.alloc5 hHeld.size)
   have hS:=hHeld.alloc hHeld.size z8
   unfold z8 at HR hS
   refine hK.out _ _ hS (fun hHeld=> ?_)
   clear hK K hS
   (try simp only[pu])
   generalize U.alloc _=w3 at *
   refine zac (rs:=[1,5]) (by kernel_rfl) (by simp) (by rfl) (zaz.cons rfl (fun K hK=> ?_) (zaz.cons rfl (fun K hK=> ?_) zaz.nil))
   ·go_simp
    refine(HLX.out w3 (zaa (HD.out.below (btZ HB2.out hHeld)))).mono ?_
    rintro e w4 ⟨r,rfl,hE,hb⟩
    have HR:=zaa (HR.out.call1 hHeld.size hb hE)
    obtain⟨p0,p1,p2,p3,p4,p5,p6,p7,rfl,k0,k1,k2,k3,k4,k5,k6,k7⟩:=hE
    obtain⟨gp0,cp0,h_⟩:=zae k0
    subst h_
    obtain⟨gp1,cp1,h_⟩:=zae k1
    subst h_
    obtain⟨gp2,cp2,h_⟩:=zae k2
    subst h_
    obtain⟨gp3,cp3,h_⟩:=zae k3
    subst h_
    obtain⟨gp4,cp4,h_⟩:=zae k4
    subst h_
    obtain⟨gp5,cp5,h_⟩:=zae k5
    subst h_
    obtain⟨gp6,cp6,h_⟩:=zae k6
    subst h_
    obtain⟨gp7,cp7,h_⟩:=zae k7
    subst h_
    clear k0 k1 k2 k3 k4 k5 k6 k7
    have hS:=hHeld.trans (hb.mono hHeld.size)
    clear hb hHeld
    go_wp2_with fail
    refine hK.out _ _ hS (fun hHeld=> ?_)
    clear hK K hS
    (try simp only[pu])
    refine zac (rs:=[3,5]) (by kernel_rfl) (by simp) (by rfl) (zaz.cons rfl (fun K hK=> ?_) (zaz.cons rfl (fun K hK=> ?_) zaz.nil))
    ·go_simp
     refine(HLY.out w4 (zaa (HD2.out.below (btZ HB2.out hHeld)))).mono ?_
     rintro e w5 ⟨r,rfl,hE,hb⟩
     have HR:=zaa (HR.out.call2 hHeld.size hb hE)
     obtain⟨q0,q1,q2,q3,q4,q5,q6,q7,rfl,k0,k1,k2,k3,k4,k5,k6,k7⟩:=hE
     obtain⟨gq0,cq0,h_⟩:=zae k0
     subst h_
     obtain⟨gq1,cq1,h_⟩:=zae k1
     subst h_
     obtain⟨gq2,cq2,h_⟩:=zae k2
     subst h_
     obtain⟨gq3,cq3,h_⟩:=zae k3
     subst h_
     obtain⟨gq4,cq4,h_⟩:=zae k4
     subst h_
     obtain⟨gq5,cq5,h_⟩:=zae k5
     subst h_
     obtain⟨gq6,cq6,h_⟩:=zae k6
     subst h_
     obtain⟨gq7,cq7,h_⟩:=zae k7
     subst h_
     clear k0 k1 k2 k3 k4 k5 k6 k7
     have hS:=hHeld.trans (hb.mono hHeld.size)
     clear hb hHeld
     go_wp2_with fail
     refine hK.out _ _ hS (fun hHeld=> ?_)
     clear hK K hS
     (try simp only[pu])
     refine zac (rs:=[5]) (by kernel_rfl) (by simp) (by rfl) (zaz.cons rfl (fun K hK=> ?_) zaz.nil)
     ·go_simp
      have HR:=zaa (HR.out.alloc6 hHeld.size)
      have hS:=hHeld.alloc hHeld.size z8
      unfold z8 at HR hS
      refine hK.out _ _ hS (fun hHeld=> ?_)
      clear hK K hS
      (try simp only[pu])
      generalize w5.alloc _=w6 at *
      refine zai (by kernel_rfl) ?_
      simp only[List.drop_succ_cons,List.drop_zero]
      have HF:=zaa (HR.out.fin hHeld)
      have t5:=zbG (HR.out.z5 _ rfl).1
      have t6:=zbG (HR.out.z6 _ rfl).1
      clear HR hHeld
      refine wpList_store_mid rfl 31 (.tmp 5) (.tmp 17) rfl _ 0 _ rfl rfl t5 (by kernel_rfl) (by simp[Value.oneCell']) ?_
      refine wpList_store_mid rfl 31 (.tmp 6) (.tmp 19) rfl _ 0 _ rfl rfl (World.there_setCells t6 _ _ _) (by kernel_rfl) (by simp[Value.oneCell']) ?_
      simp only[Act.put]
      change wpList _ _ _ _ _ (st8 (st8 w6 _ [_,_,_,_,_,_,_,_]) _ [_,_,_,_,_,_,_,_])
      generalize st8 (st8 w6 _ _) _ _=wz at *
      clear t5 t6
      go_wp2_with fail
      go_meet
      exact⟨_,_,_,_,rfl,rfl,HF⟩
    ·go_simp
     have HR:=zaa (HR.out.alloc6 hHeld.size)
     have hS:=hHeld.alloc hHeld.size z8
     unfold z8 at HR hS
     refine hK.out _ _ hS (fun hHeld=> ?_)
     clear hK K hS
     (try simp only[pu])
     generalize w4.alloc _=w5 at *
     refine zac (rs:=[3]) (by kernel_rfl) (by simp) (by rfl) (zaz.cons rfl (fun K hK=> ?_) zaz.nil)
     ·go_simp
      refine(HLY.out w5 (zaa (HD2.out.below (btZ HB2.out hHeld)))).mono ?_
      rintro e w6 ⟨r,rfl,hE,hb⟩
      have HR:=zaa (HR.out.call2 hHeld.size hb hE)
      obtain⟨q0,q1,q2,q3,q4,q5,q6,q7,rfl,k0,k1,k2,k3,k4,k5,k6,k7⟩:=hE
      obtain⟨gq0,cq0,h_⟩:=zae k0
      subst h_
      obtain⟨gq1,cq1,h_⟩:=zae k1
      subst h_
      obtain⟨gq2,cq2,h_⟩:=zae k2
      subst h_
      obtain⟨gq3,cq3,h_⟩:=zae k3
      subst h_
      obtain⟨gq4,cq4,h_⟩:=zae k4
      subst h_
      obtain⟨gq5,cq5,h_⟩:=zae k5
      subst h_
      obtain⟨gq6,cq6,h_⟩:=zae k6
      subst h_
      obtain⟨gq7,cq7,h_⟩:=zae k7
      subst h_
      clear k0 k1 k2 k3 k4 k5 k6 k7
      have hS:=hHeld.trans (hb.mono hHeld.size)
      clear hb hHeld
      go_wp2_with fail
      refine hK.out _ _ hS (fun hHeld=> ?_)
      clear hK K hS
      (try simp only[pu])
      refine zai (by kernel_rfl) ?_
      simp only[List.drop_succ_cons,List.drop_zero]
      have HF:=zaa (HR.out.fin hHeld)
      have t5:=zbG (HR.out.z5 _ rfl).1
      have t6:=zbG (HR.out.z6 _ rfl).1
      clear HR hHeld
      refine wpList_store_mid rfl 31 (.tmp 5) (.tmp 17) rfl _ 0 _ rfl rfl t5 (by kernel_rfl) (by simp[Value.oneCell']) ?_
      refine wpList_store_mid rfl 31 (.tmp 6) (.tmp 19) rfl _ 0 _ rfl rfl (World.there_setCells t6 _ _ _) (by kernel_rfl) (by simp[Value.oneCell']) ?_
      simp only[Act.put]
      change wpList _ _ _ _ _ (st8 (st8 w6 _ [_,_,_,_,_,_,_,_]) _ [_,_,_,_,_,_,_,_])
      generalize st8 (st8 w6 _ _) _ _=wz at *
      clear t5 t6
      go_wp2_with fail
      go_meet
      exact⟨_,_,_,_,rfl,rfl,HF⟩
   ·go_simp
    have HR:=zaa (HR.out.alloc6 hHeld.size)
    have hS:=hHeld.alloc hHeld.size z8
    unfold z8 at HR hS
    refine hK.out _ _ hS (fun hHeld=> ?_)
    clear hK K hS
    (try simp only[pu])
    generalize w3.alloc _=w4 at *
    refine zac (rs:=[1]) (by kernel_rfl) (by simp) (by rfl) (zaz.cons rfl (fun K hK=> ?_) zaz.nil)
    ·go_simp
     refine(HLX.out w4 (zaa (HD.out.below (btZ HB2.out hHeld)))).mono ?_
     rintro e w5 ⟨r,rfl,hE,hb⟩
     have HR:=zaa (HR.out.call1 hHeld.size hb hE)
     obtain⟨p0,p1,p2,p3,p4,p5,p6,p7,rfl,k0,k1,k2,k3,k4,k5,k6,k7⟩:=hE
     obtain⟨gp0,cp0,h_⟩:=zae k0
     subst h_
     obtain⟨gp1,cp1,h_⟩:=zae k1
     subst h_
     obtain⟨gp2,cp2,h_⟩:=zae k2
     subst h_
     obtain⟨gp3,cp3,h_⟩:=zae k3
     subst h_
     obtain⟨gp4,cp4,h_⟩:=zae k4
     subst h_
     obtain⟨gp5,cp5,h_⟩:=zae k5
     subst h_
     obtain⟨gp6,cp6,h_⟩:=zae k6
     subst h_
     obtain⟨gp7,cp7,h_⟩:=zae k7
     subst h_
     clear k0 k1 k2 k3 k4 k5 k6 k7
     have hS:=hHeld.trans (hb.mono hHeld.size)
     clear hb hHeld
     go_wp2_with fail
     refine hK.out _ _ hS (fun hHeld=> ?_)
     clear hK K hS
     (try simp only[pu])
     refine zac (rs:=[3]) (by kernel_rfl) (by simp) (by rfl) (zaz.cons rfl (fun K hK=> ?_) zaz.nil)
     ·go_simp
      refine(HLY.out w5 (zaa (HD2.out.below (btZ HB2.out hHeld)))).mono ?_
      rintro e w6 ⟨r,rfl,hE,hb⟩
      have HR:=zaa (HR.out.call2 hHeld.size hb hE)
      obtain⟨q0,q1,q2,q3,q4,q5,q6,q7,rfl,k0,k1,k2,k3,k4,k5,k6,k7⟩:=hE
      obtain⟨gq0,cq0,h_⟩:=zae k0
      subst h_
      obtain⟨gq1,cq1,h_⟩:=zae k1
      subst h_
      obtain⟨gq2,cq2,h_⟩:=zae k2
      subst h_
      obtain⟨gq3,cq3,h_⟩:=zae k3
      subst h_
      obtain⟨gq4,cq4,h_⟩:=zae k4
      subst h_
      obtain⟨gq5,cq5,h_⟩:=zae k5
      subst h_
      obtain⟨gq6,cq6,h_⟩:=zae k6
      subst h_
      obtain⟨gq7,cq7,h_⟩:=zae k7
      subst h_
      clear k0 k1 k2 k3 k4 k5 k6 k7
      have hS:=hHeld.trans (hb.mono hHeld.size)
      clear hb hHeld
      go_wp2_with fail
      refine hK.out _ _ hS (fun hHeld=> ?_)
      clear hK K hS
      (try simp only[pu])
      refine zai (by kernel_rfl) ?_
      simp only[List.drop_succ_cons,List.drop_zero]
      have HF:=zaa (HR.out.fin hHeld)
      have t5:=zbG (HR.out.z5 _ rfl).1
      have t6:=zbG (HR.out.z6 _ rfl).1
      clear HR hHeld
      refine wpList_store_mid rfl 31 (.tmp 5) (.tmp 17) rfl _ 0 _ rfl rfl t5 (by kernel_rfl) (by simp[Value.oneCell']) ?_
      refine wpList_store_mid rfl 31 (.tmp 6) (.tmp 19) rfl _ 0 _ rfl rfl (World.there_setCells t6 _ _ _) (by kernel_rfl) (by simp[Value.oneCell']) ?_
      simp only[Act.put]
      change wpList _ _ _ _ _ (st8 (st8 w6 _ [_,_,_,_,_,_,_,_]) _ [_,_,_,_,_,_,_,_])
      generalize st8 (st8 w6 _ _) _ _=wz at *
      clear t5 t6
      go_wp2_with fail
      go_meet
      exact⟨_,_,_,_,rfl,rfl,HF⟩
  ·go_simp
   have HR:=zaa (HR.out.alloc6 hHeld.size)
   have hS:=hHeld.alloc hHeld.size z8
   unfold z8 at HR hS
   refine hK.out _ _ hS (fun hHeld=> ?_)
   clear hK K hS
   (try simp only[pu])
   generalize U.alloc _=w3 at *
   refine zac (rs:=[1,4]) (by kernel_rfl) (by simp) (by rfl) (zaz.cons rfl (fun K hK=> ?_) (zaz.cons rfl (fun K hK=> ?_) zaz.nil))
   ·go_simp
    refine(HLX.out w3 (zaa (HD.out.below (btZ HB2.out hHeld)))).mono ?_
    rintro e w4 ⟨r,rfl,hE,hb⟩
    have HR:=zaa (HR.out.call1 hHeld.size hb hE)
    obtain⟨p0,p1,p2,p3,p4,p5,p6,p7,rfl,k0,k1,k2,k3,k4,k5,k6,k7⟩:=hE
    obtain⟨gp0,cp0,h_⟩:=zae k0
    subst h_
    obtain⟨gp1,cp1,h_⟩:=zae k1
    subst h_
    obtain⟨gp2,cp2,h_⟩:=zae k2
    subst h_
    obtain⟨gp3,cp3,h_⟩:=zae k3
    subst h_
    obtain⟨gp4,cp4,h_⟩:=zae k4
    subst h_
    obtain⟨gp5,cp5,h_⟩:=zae k5
    subst h_
    obtain⟨gp6,cp6,h_⟩:=zae k6
    subst h_
    obtain⟨gp7,cp7,h_⟩:=zae k7
    subst h_
    clear k0 k1 k2 k3 k4 k5 k6 k7
    have hS:=hHeld.trans (hb.mono hHeld.size)
    clear hb hHeld
    go_wp2_with fail
    refine hK.out _ _ hS (fun hHeld=> ?_)
    clear hK K hS
    (try simp only[pu])
    refine zac (rs:=[3,4]) (by kernel_rfl) (by simp) (by rfl) (zaz.cons rfl (fun K hK=> ?_) (zaz.cons rfl (fun K hK=> ?_) zaz.nil))
    ·go_simp
     refine(HLY.out w4 (zaa (HD2.out.below (btZ HB2.out hHeld)))).mono ?_
     rintro e w5 ⟨r,rfl,hE,hb⟩
     have HR:=zaa (HR.out.call2 hHeld.size hb hE)
     obtain⟨q0,q1,q2,q3,q4,q5,q6,q7,rfl,k0,k1,k2,k3,k4,k5,k6,k7⟩:=hE
     obtain⟨gq0,cq0,h_⟩:=zae k0
     subst h_
     obtain⟨gq1,cq1,h_⟩:=zae k1
     subst h_
     obtain⟨gq2,cq2,h_⟩:=zae k2
     subst h_
     obtain⟨gq3,cq3,h_⟩:=zae k3
     subst h_
     obtain⟨gq4,cq4,h_⟩:=zae k4
     subst h_
     obtain⟨gq5,cq5,h_⟩:=zae k5
     subst h_
     obtain⟨gq6,cq6,h_⟩:=zae k6
     subst h_
     obtain⟨gq7,cq7,h_⟩:=zae k7
     subst h_
     clear k0 k1 k2 k3 k4 k5 k6 k7
     have hS:=hHeld.trans (hb.mono hHeld.size)
     clear hb hHeld
     go_wp2_with fail
     refine hK.out _ _ hS (fun hHeld=> ?_)
     clear hK K hS
     (try simp only[pu])
     refine zac (rs:=[4]) (by kernel_rfl) (by simp) (by rfl) (zaz.cons rfl (fun K hK=> ?_) zaz.nil)
     ·go_simp
      have HR:=zaa (HR.out.alloc5 hHeld.size)
      have hS:=hHeld.alloc hHeld.size z8
      unfold z8 at HR hS
      refine hK.out _ _ hS (fun hHeld=> ?_)
      clear hK K hS
      (try simp only[pu])
      generalize w5.alloc _=w6 at *
      refine zai (by kernel_rfl) ?_
      simp only[List.drop_succ_cons,List.drop_zero]
      have HF:=zaa (HR.out.fin hHeld)
      have t5:=zbG (HR.out.z5 _ rfl).1
      have t6:=zbG (HR.out.z6 _ rfl).1
      clear HR hHeld
      refine wpList_store_mid rfl 31 (.tmp 5) (.tmp 17) rfl _ 0 _ rfl rfl t5 (by kernel_rfl) (by simp[Value.oneCell']) ?_
      refine wpList_store_mid rfl 31 (.tmp 6) (.tmp 19) rfl _ 0 _ rfl rfl (World.there_setCells t6 _ _ _) (by kernel_rfl) (by simp[Value.oneCell']) ?_
      simp only[Act.put]
      change wpList _ _ _ _ _ (st8 (st8 w6 _ [_,_,_,_,_,_,_,_]) _ [_,_,_,_,_,_,_,_])
      generalize st8 (st8 w6 _ _) _ _=wz at *
      clear t5 t6
      go_wp2_with fail
      go_meet
      exact⟨_,_,_,_,rfl,rfl,HF⟩
    ·go_simp
     have HR:=zaa (HR.out.alloc5 hHeld.size)
     have hS:=hHeld.alloc hHeld.size z8
     unfold z8 at HR hS
     refine hK.out _ _ hS (fun hHeld=> ?_)
     clear hK K hS
     (try simp only[pu])
     generalize w4.alloc _=w5 at *
     refine zac (rs:=[3]) (by kernel_rfl) (by simp) (by rfl) (zaz.cons rfl (fun K hK=> ?_) zaz.nil)
     ·go_simp
      refine(HLY.out w5 (zaa (HD2.out.below (btZ HB2.out hHeld)))).mono ?_
      rintro e w6 ⟨r,rfl,hE,hb⟩
      have HR:=zaa (HR.out.call2 hHeld.size hb hE)
      obtain⟨q0,q1,q2,q3,q4,q5,q6,q7,rfl,k0,k1,k2,k3,k4,k5,k6,k7⟩:=hE
      obtain⟨gq0,cq0,h_⟩:=zae k0
      subst h_
      obtain⟨gq1,cq1,h_⟩:=zae k1
      subst h_
      obtain⟨gq2,cq2,h_⟩:=zae k2
      subst h_
      obtain⟨gq3,cq3,h_⟩:=zae k3
      subst h_
      obtain⟨gq4,cq4,h_⟩:=zae k4
      subst h_
      obtain⟨gq5,cq5,h_⟩:=zae k5
      subst h_
      obtain⟨gq6,cq6,h_⟩:=zae k6
      subst h_
      obtain⟨gq7,cq7,h_⟩:=zae k7
      subst h_
      clear k0 k1 k2 k3 k4 k5 k6 k7
      have hS:=hHeld.trans (hb.mono hHeld.size)
      clear hb hHeld
      go_wp2_with fail
      refine hK.out _ _ hS (fun hHeld=> ?_)
      clear hK K hS
      (try simp only[pu])
      refine zai (by kernel_rfl) ?_
      simp only[List.drop_succ_cons,List.drop_zero]
      have HF:=zaa (HR.out.fin hHeld)
      have t5:=zbG (HR.out.z5 _ rfl).1
      have t6:=zbG (HR.out.z6 _ rfl).1
      clear HR hHeld
      refine wpList_store_mid rfl 31 (.tmp 5) (.tmp 17) rfl _ 0 _ rfl rfl t5 (by kernel_rfl) (by simp[Value.oneCell']) ?_
      refine wpList_store_mid rfl 31 (.tmp 6) (.tmp 19) rfl _ 0 _ rfl rfl (World.there_setCells t6 _ _ _) (by kernel_rfl) (by simp[Value.oneCell']) ?_
      simp only[Act.put]
      change wpList _ _ _ _ _ (st8 (st8 w6 _ [_,_,_,_,_,_,_,_]) _ [_,_,_,_,_,_,_,_])
      generalize st8 (st8 w6 _ _) _ _=wz at *
      clear t5 t6
      go_wp2_with fail
      go_meet
      exact⟨_,_,_,_,rfl,rfl,HF⟩
   ·go_simp
    have HR:=zaa (HR.out.alloc5 hHeld.size)
    have hS:=hHeld.alloc hHeld.size z8
    unfold z8 at HR hS
    refine hK.out _ _ hS (fun hHeld=> ?_)
    clear hK K hS
    (try simp only[pu])
    generalize w3.alloc _=w4 at *
    refine zac (rs:=[1]) (by kernel_rfl) (by simp) (by rfl) (zaz.cons rfl (fun K hK=> ?_) zaz.nil)
    ·go_simp
     refine(HLX.out w4 (zaa (HD.out.below (btZ HB2.out hHeld)))).mono ?_
     rintro e w5 ⟨r,rfl,hE,hb⟩
     have HR:=zaa (HR.out.call1 hHeld.size hb hE)
     obtain⟨p0,p1,p2,p3,p4,p5,p6,p7,rfl,k0,k1,k2,k3,k4,k5,k6,k7⟩:=hE
     obtain⟨gp0,cp0,h_⟩:=zae k0
     subst h_
     obtain⟨gp1,cp1,h_⟩:=zae k1
     subst h_
     obtain⟨gp2,cp2,h_⟩:=zae k2
     subst h_
     obtain⟨gp3,cp3,h_⟩:=zae k3
     subst h_
     obtain⟨gp4,cp4,h_⟩:=zae k4
     subst h_
     obtain⟨gp5,cp5,h_⟩:=zae k5
     subst h_
     obtain⟨gp6,cp6,h_⟩:=zae k6
     subst h_
     obtain⟨gp7,cp7,h_⟩:=zae k7
     subst h_
     clear k0 k1 k2 k3 k4 k5 k6 k7
     have hS:=hHeld.trans (hb.mono hHeld.size)
     clear hb hHeld
     go_wp2_with fail
     refine hK.out _ _ hS (fun hHeld=> ?_)
     clear hK K hS
     (try simp only[pu])
     refine zac (rs:=[3]) (by kernel_rfl) (by simp) (by rfl) (zaz.cons rfl (fun K hK=> ?_) zaz.nil)
     ·go_simp
      refine(HLY.out w5 (zaa (HD2.out.below (btZ HB2.out hHeld)))).mono ?_
      rintro e w6 ⟨r,rfl,hE,hb⟩
      have HR:=zaa (HR.out.call2 hHeld.size hb hE)
      obtain⟨q0,q1,q2,q3,q4,q5,q6,q7,rfl,k0,k1,k2,k3,k4,k5,k6,k7⟩:=hE
      obtain⟨gq0,cq0,h_⟩:=zae k0
      subst h_
      obtain⟨gq1,cq1,h_⟩:=zae k1
      subst h_
      obtain⟨gq2,cq2,h_⟩:=zae k2
      subst h_
      obtain⟨gq3,cq3,h_⟩:=zae k3
      subst h_
      obtain⟨gq4,cq4,h_⟩:=zae k4
      subst h_
      obtain⟨gq5,cq5,h_⟩:=zae k5
      subst h_
      obtain⟨gq6,cq6,h_⟩:=zae k6
      subst h_
      obtain⟨gq7,cq7,h_⟩:=zae k7
      subst h_
      clear k0 k1 k2 k3 k4 k5 k6 k7
      have hS:=hHeld.trans (hb.mono hHeld.size)
      clear hb hHeld
      go_wp2_with fail
      refine hK.out _ _ hS (fun hHeld=> ?_)
      clear hK K hS
      (try simp only[pu])
      refine zai (by kernel_rfl) ?_
      simp only[List.drop_succ_cons,List.drop_zero]
      have HF:=zaa (HR.out.fin hHeld)
      have t5:=zbG (HR.out.z5 _ rfl).1
      have t6:=zbG (HR.out.z6 _ rfl).1
      clear HR hHeld
      refine wpList_store_mid rfl 31 (.tmp 5) (.tmp 17) rfl _ 0 _ rfl rfl t5 (by kernel_rfl) (by simp[Value.oneCell']) ?_
      refine wpList_store_mid rfl 31 (.tmp 6) (.tmp 19) rfl _ 0 _ rfl rfl (World.there_setCells t6 _ _ _) (by kernel_rfl) (by simp[Value.oneCell']) ?_
      simp only[Act.put]
      change wpList _ _ _ _ _ (st8 (st8 w6 _ [_,_,_,_,_,_,_,_]) _ [_,_,_,_,_,_,_,_])
      generalize st8 (st8 w6 _ _) _ _=wz at *
      clear t5 t6
      go_wp2_with fail
      go_meet
      exact⟨_,_,_,_,rfl,rfl,HF⟩
 case rest=>
  clear HLX HLY
  obtain⟨b5,b6,r,q,rfl,rfl,HF⟩:=hcut
  obtain⟨w3,rfl⟩: ∃w3,w3=wc:=⟨_,rfl⟩
  have HB3:=zaa (HB2.out.trans (HF.out.hb.mono HB2.out.size))
  have HX3:=zaa ((HF.out.hb.block _ (za8 HX2.out)).trans HX2.out)
  have HY3:=zaa ((HF.out.hb.block _ (za8 HY2.out)).trans HY2.out)
  have HP3:=zaa HF.out.z5
  have HQ3:=zaa HF.out.z6
  have HS1:=zaa (fun s:zal w3=>zil x y (x=y) (zaa Iff.rfl) r q s.w (zaa (zab.below (zcH.dat _ _ _ _ HF.out.e1) s.below)) (zaa (zab.below (zcH.dat _ _ _ _ HF.out.e2) s.below)) hl hm)
  have HS2:=zaa (fun s:zal w3=>zlz x y (x=y) (zaa Iff.rfl) [xu0,xu1,xu2,xu3,xu4,xu5,xu6,xu7] [xv0,xv1,xv2,xv3,xv4,xv5,xv6,xv7] s.w (zaa (zab.below HD.out (HB3.out.trans (s.below.mono HB3.out.size)))) (zaa (zab.below HD2.out (HB3.out.trans (s.below.mono HB3.out.size)))) hl)
  have HS3:=zaa (fun s:zal w3=>(zil x x True (zaa ⟨fun _=>rfl,fun _=>trivial⟩) [xu0,xu1,xu2,xu3,xu4,xu5,xu6,xu7] [xu0,xu1,xu2,xu3,xu4,xu5,xu6,xu7] s.w (zaa (zab.below HD.out (HB3.out.trans (s.below.mono HB3.out.size)))) (zaa (zab.below HD.out (HB3.out.trans (s.below.mono HB3.out.size)))) hl hl).mono (fun _ _ h=>zau.yes trivial h))
  have HK1:=zaa (fun s:zal w3=>zf9 x (fun _=>True) r [xu0,xu1,xu2,xu3,xu4,xu5,xu6,xu7] s.w (zaa (zcH.keep _ _ _ _ _ s.below.size (fun b _ hl=>s.below.block b hl) HF.out.e1)) (zaa (zab.below HD.out (HB3.out.trans (s.below.mono HB3.out.size)))) hl HSX.out)
  have HK2:=zaa (fun s:zal w3=>zf9 y (fun _=>True) q [xv0,xv1,xv2,xv3,xv4,xv5,xv6,xv7] s.w (zaa (zcH.keep _ _ _ _ _ s.below.size (fun b _ hl=>s.below.block b hl) HF.out.e2)) (zaa (zab.below HD2.out (HB3.out.trans (s.below.mono HB3.out.size)))) hm HSY.out)
  have HAW:=zaa (fun s:zal w3=>HA.out s.w (zaa (hE.out.kept (HB3.out.trans (s.below.mono HB3.out.size)))) (zaa (hP.out.below (HB3.out.trans (s.below.mono HB3.out.size)))))
  obtain⟨p0,p1,p2,p3,p4,p5,p6,p7,rfl, -⟩:=HF.out.e1
  obtain⟨q0,q1,q2,q3,q4,q5,q6,q7,rfl, -⟩:=HF.out.e2
  have l1:=za8 HX3.out
  have l2:=za8 HY3.out
  have l3:=za8 HP3.out
  have l4:=za8 HQ3.out
  obtain⟨a0,a1,a2,a3,a4,a5,a6,a7⟩:=zaI HX3.out
  obtain⟨c0,c1,c2,c3,c4,c5,c6,c7⟩:=zaI HY3.out
  obtain⟨d0,d1,d2,d3,d4,d5,d6,d7⟩:=zaI HP3.out
  obtain⟨e0,e1,e2,e3,e4,e5,e6,e7⟩:=zaI HQ3.out
  clear HA HX2 HY2 HF HD HD2 HSX HSY hE hP HB2
  by_cases hxy:x=y
  ·have HS1:=zaa (fun s:zal w3=>(HS1.out s).mono (fun _ _ h=>zau.yes hxy h))
   have HS2:=zaa (fun s:zal w3=>(HS2.out s).mono (fun _ _ h=>zau.yes hxy h))
   clear hxy
   go_wp2_with fail
   refine zaf (W:=w3) (by kernel_rfl) (by kernel_rfl) ?_
   repeat(go_big_quiet_step (first
    |(go_at_call 13;first|(with_reducible exact zal.call (HS1.out _))|(with_reducible exact zal.call (HS3.out _)))
    |(go_at_call 14;exact zal.call (HS2.out _))
    |(go_at_call 15;first|(with_reducible exact zal.call (HK1.out _))|(with_reducible exact zal.call (HK2.out _)))
    |(go_at_call 9;exact zal.call (HAW.out _))))
   refine wpQuiet_nil ?_
   rintro _ ⟨s,rfl⟩
   go_wp2_with fail
   go_ret
   exact⟨rfl,HB3.out.trans (s.below.mono HB3.out.size)⟩
  ·have HS1:=zaa (fun s:zal w3=>(HS1.out s).mono (fun _ _ h=>zau.no hxy h))
   have HS2:=zaa (fun s:zal w3=>(HS2.out s).mono (fun _ _ h=>zau.no hxy h))
   clear hxy
   go_wp2_with fail
   refine zaf (W:=w3) (by kernel_rfl) (by kernel_rfl) ?_
   repeat(go_big_quiet_step (first
    |(go_at_call 13;first|(with_reducible exact zal.call (HS1.out _))|(with_reducible exact zal.call (HS3.out _)))
    |(go_at_call 14;exact zal.call (HS2.out _))
    |(go_at_call 15;first|(with_reducible exact zal.call (HK1.out _))|(with_reducible exact zal.call (HK2.out _)))
    |(go_at_call 9;exact zal.call (HAW.out _))))
   refine wpQuiet_nil ?_
   rintro _ ⟨s,rfl⟩
   go_wp2_with fail
   go_ret
   exact⟨rfl,HB3.out.trans (s.below.mono HB3.out.size)⟩
end Go.Proofs.YtgbfaompondolaaGreatDoor
