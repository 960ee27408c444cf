/- Merged texts of the walks and of the plain laws on which the statement leans.-/
import Derived.Test.YtgbfaompondolaaGreatDoorPk1
import Derived.Test.YtgbfaompondolaaGreatDoorPk2
set_option maxHeartbeats 4000000
set_option maxRecDepth 100000
namespace Go.Proofs.YtgbfaompondolaaGreatDoor
open Tryz
open Go.RowKit
attribute [local go_sem] zaj.cell
theorem zaK {α:Type} {l:List α} {p:α→Bool} {k:Nat} {x:α} (h:(l.take k).all p=true) (hx:l[k]? =some x) (hp:p x=true):(l.take (k+1)).all p=true:=by
 obtain⟨hk,rfl⟩:=List.getElem?_eq_some_iff.1 hx;rw[List.take_succ_eq_append_getElem hk,List.all_append,h];simp[hp]
theorem zaH {α:Type} {l:List α} {p:α→Bool} {k:Nat} {x:α} (hx:l[k]? =some x) (hp:p x=false):l.all p=false:=by
 rw[List.all_eq_false];exact⟨x,List.mem_of_getElem? hx,by simp[hp]⟩
def zeu (f:FuncId) {α:Type} (cells:α→List Dat) (l:List α) (p:α→Bool) (W:World):Prop:= ∀x∈l,∀us w',Below W.heap.size W w'→zab w' (fun _=>True) us (cells x)→Calls prog f #[.agg us.toArray] w' fun e w''=>e= .returned (.bool (p x))∧Below w'.heap.size w' w''
theorem baZ {W w w3:World} {o:Obj} (h:Below W.heap.size W w) (k:Below (w.alloc o).heap.size (w.alloc o) w3):Below W.heap.size W w3:=(h.alloc h.size o).trans (k.mono (h.alloc h.size o).size)
theorem zm7 (bx:Nat) (v:Value) (l:List zcy) (p:zcy→Bool) (W:World) (hv:Hid (DAt W (fun _=>True) v (.row 4 (l.map zcy.cells)))) (hl:l.length≤140737488355328) (hx0:W.cell? ⟨bx,0,none⟩=some (.func (.func 87) #[] #[])) (hc:Hid (zeu 87 zcy.cells l p W)):
 Calls prog 219 #[v,.func (.func 161) #[] #[.pointer (some ⟨bx,0,none⟩)]] W fun e w'=> ∃r:Int,e= .returned (.int .i64 r)∧(r<0∧l.all p=true∨0≤r∧l.all p=false)∧Below W.heap.size W w':=by
 obtain⟨A,c,rfl,hA⟩:=hv.out.slice;have HA:=zaa hA;clear hA hv;rw[List.length_map];have hbx:=zbp hx0
 go_enter func219,ntmps219
 go_wp2_with fail
 go_loopw [8] (fun v8 wr=> ∃k:Nat,k≤l.length∧v8= .int .i64 k∧(l.take k).all p=true∧Below W.heap.size W wr) (fun v8 _=>l.length-(intOf v8).toNat)
 case atStart=>exact⟨0,by omega,rfl,by simp,Below.refl _ _⟩
 case round=>
  obtain⟨k,hk,rfl,ht,hbr⟩:=hrel;have HT:=zaa ht;have HBR:=zaa hbr;clear ht;by_cases hlt:k<l.length
  rotate_left
  ·obtain rfl:k=l.length:=by omega
   rw[List.take_length] at HT;clear hbr hlt;go_wp2_with fail;go_ret;exact⟨_,rfl,.inl ⟨by decide,HT.out⟩,HBR.out⟩
  obtain⟨x,hx⟩:=zbE hlt;obtain⟨b,off,rfl,hb,hca⟩:=HA.out.at_ hx;obtain⟨u0,c0,g0⟩:=hca 0 _ rfl;obtain⟨u1,c1,g1⟩:=hca 1 _ rfl;obtain⟨u2,c2,g2⟩:=hca 2 _ rfl;obtain⟨u3,c3,g3⟩:=hca 3 _ rfl;clear hca;have c0:=zeF HBR.out hb c0;have c1:=zaI HBR.out hb c1;have c2:=zaI HBR.out hb c2;have c3:=zaI HBR.out hb c3;have hbxw:=(hbr.cell hbx).trans hx0;have lbx:bx<wr.heap.size:=Nat.lt_of_lt_of_le hbx hbr.size;have HC:=zaa (fun w' (hbw:Below W.heap.size W w')=>hc.out x (List.mem_of_getElem? hx) [u0,u1,u2,u3] w' hbw (zab.cons (g0.later hbw) (zab.cons (g1.later hbw) (zab.cons (g2.later hbw) (zab.cons (g3.later hbw) zab.nil)))));have k0:=kbZ k l.length;have HX:=zaa hx;clear hx hbr;go_wp2_with(first|(go_at_call 161;go_in))
  refine(HC.out _ (HBR.out.alloc HBR.out.size _)).mono ?_;rintro e w3 ⟨rfl,hb3⟩;have HB3:=zaa (baZ HBR.out hb3);clear hb3 HC
  cases hp:p x with
  |true=>
   have HTK:=zaa (zaK HT.out HX.out hp);go_wp2_with fail;go_roundw
   case rel=>exact⟨k+1,by omega,by go_num,HTK.out,HB3.out⟩
   case measure=>simp[intOf];omega
  |false=>
   have HNO:=zaa (zaH HX.out hp);go_wp2_with fail;go_ret;exact⟨_,rfl,.inr ⟨by omega,HNO.out⟩,HB3.out⟩
theorem zm5 (v:Value) (l:List zcy) (p:zcy→Bool) (W:World) (hv:Hid (DAt W (fun _=>True) v (.row 4 (l.map zcy.cells)))) (hl:l.length≤140737488355328) (hc:Hid (zeu 87 zcy.cells l p W)):
 Calls prog 86 #[v,.func (.func 87) #[] #[]] W fun e w'=>e= .returned (.bool (l.all p))∧Below W.heap.size W w':=by
 have hmf: ∀(fn:Fn) (first cap:Array Value) (w:World),(Instr.makeFunc fn first cap).run prog w= .ok (.func fn first cap) w:=fun _ _ _ _=>rfl
 have HB:=zaa ((Below.refl W.heap.size W).alloc (Nat.le_refl _) (.cells #[.func (.func 87) #[] #[]] 135));have HI:=zaa (zm7 W.heap.size v l p (W.alloc (.cells #[.func (.func 87) #[] #[]] 135)) (zaa (hv.out.later HB.out)) hl (by rw[cell_of_row _ _ 0 _ _ _ (heap_alloc_new W _)];rfl) (zaa (fun x hx us w' hb hd=>hc.out x hx us w' (btZ HB.out hb) hd)))
 go_enter func86,ntmps86
 go_wp2_with(first|(go_at_call 160;go_in))
 refine HI.out.mono ?_;rintro e w2 ⟨r,rfl,hr,hb⟩;have HB2:=zaa (btZ HB.out hb);have HR:=zaa (show l.all p= !decide (0≤r) by rcases hr with⟨h1,h2⟩|⟨h1,h2⟩<;>simp[h2]<;>omega);clear hb hr HI;go_wp2_with fail;go_ret;exact⟨by rw[HR.out];rfl,HB2.out⟩
theorem zlm (bx:Nat) (v:Value) (l:List zbi) (p:zbi→Bool) (W:World) (hv:Hid (DAt W (fun _=>True) v (.row 4 (l.map zbi.cells)))) (hl:l.length≤140737488355328) (hx0:W.cell? ⟨bx,0,none⟩=some (.func (.func 89) #[] #[])) (hc:Hid (zeu 89 zbi.cells l p W)):
 Calls prog 227 #[v,.func (.func 166) #[] #[.pointer (some ⟨bx,0,none⟩)]] W fun e w'=> ∃r:Int,e= .returned (.int .i64 r)∧(r<0∧l.all p=true∨0≤r∧l.all p=false)∧Below W.heap.size W w':=by
 obtain⟨A,c,rfl,hA⟩:=hv.out.slice;have HA:=zaa hA;clear hA hv;rw[List.length_map];have hbx:=zbp hx0
 go_enter func227,ntmps227
 go_wp2_with fail
 go_loopw [8] (fun v8 wr=> ∃k:Nat,k≤l.length∧v8= .int .i64 k∧(l.take k).all p=true∧Below W.heap.size W wr) (fun v8 _=>l.length-(intOf v8).toNat)
 case atStart=>exact⟨0,by omega,rfl,by simp,Below.refl _ _⟩
 case round=>
  obtain⟨k,hk,rfl,ht,hbr⟩:=hrel;have HT:=zaa ht;have HBR:=zaa hbr;clear ht;by_cases hlt:k<l.length
  rotate_left
  ·obtain rfl:k=l.length:=by omega
   rw[List.take_length] at HT;clear hbr hlt;go_wp2_with fail;go_ret;exact⟨_,rfl,.inl ⟨by decide,HT.out⟩,HBR.out⟩
  obtain⟨x,hx⟩:=zbE hlt;obtain⟨b,off,rfl,hb,hca⟩:=HA.out.at_ hx;obtain⟨u0,c0,g0⟩:=hca 0 _ rfl;obtain⟨u1,c1,g1⟩:=hca 1 _ rfl;obtain⟨u2,c2,g2⟩:=hca 2 _ rfl;obtain⟨u3,c3,g3⟩:=hca 3 _ rfl;clear hca;have c0:=zeF HBR.out hb c0;have c1:=zaI HBR.out hb c1;have c2:=zaI HBR.out hb c2;have c3:=zaI HBR.out hb c3;have hbxw:=(hbr.cell hbx).trans hx0;have lbx:bx<wr.heap.size:=Nat.lt_of_lt_of_le hbx hbr.size;have HC:=zaa (fun w' (hbw:Below W.heap.size W w')=>hc.out x (List.mem_of_getElem? hx) [u0,u1,u2,u3] w' hbw (zab.cons (g0.later hbw) (zab.cons (g1.later hbw) (zab.cons (g2.later hbw) (zab.cons (g3.later hbw) zab.nil)))));have k0:=kbZ k l.length;have HX:=zaa hx;clear hx hbr;go_wp2_with(first|(go_at_call 166;go_in))
  refine(HC.out _ (HBR.out.alloc HBR.out.size _)).mono ?_;rintro e w3 ⟨rfl,hb3⟩;have HB3:=zaa (baZ HBR.out hb3);clear hb3 HC
  cases hp:p x with
  |true=>
   have HTK:=zaa (zaK HT.out HX.out hp);go_wp2_with fail;go_roundw
   case rel=>exact⟨k+1,by omega,by go_num,HTK.out,HB3.out⟩
   case measure=>simp[intOf];omega
  |false=>
   have HNO:=zaa (zaH HX.out hp);go_wp2_with fail;go_ret;exact⟨_,rfl,.inr ⟨by omega,HNO.out⟩,HB3.out⟩
theorem zl4 (v:Value) (l:List zbi) (p:zbi→Bool) (W:World) (hv:Hid (DAt W (fun _=>True) v (.row 4 (l.map zbi.cells)))) (hl:l.length≤140737488355328) (hc:Hid (zeu 89 zbi.cells l p W)):
 Calls prog 88 #[v,.func (.func 89) #[] #[]] W fun e w'=>e= .returned (.bool (l.all p))∧Below W.heap.size W w':=by
 have hmf: ∀(fn:Fn) (first cap:Array Value) (w:World),(Instr.makeFunc fn first cap).run prog w= .ok (.func fn first cap) w:=fun _ _ _ _=>rfl
 have HB:=zaa ((Below.refl W.heap.size W).alloc (Nat.le_refl _) (.cells #[.func (.func 89) #[] #[]] 137));have HI:=zaa (zlm W.heap.size v l p (W.alloc (.cells #[.func (.func 89) #[] #[]] 137)) (zaa (hv.out.later HB.out)) hl (by rw[cell_of_row _ _ 0 _ _ _ (heap_alloc_new W _)];rfl) (zaa (fun x hx us w' hb hd=>hc.out x hx us w' (btZ HB.out hb) hd)))
 go_enter func88,ntmps88
 go_wp2_with(first|(go_at_call 165;go_in))
 refine HI.out.mono ?_;rintro e w2 ⟨r,rfl,hr,hb⟩;have HB2:=zaa (btZ HB.out hb);have HR:=zaa (show l.all p= !decide (0≤r) by rcases hr with⟨h1,h2⟩|⟨h1,h2⟩<;>simp[h2]<;>omega);clear hb hr HI;go_wp2_with fail;go_ret;exact⟨by rw[HR.out];rfl,HB2.out⟩
theorem zoT (bx:Nat) (v:Value) (l:List SwD) (p:SwD→Bool) (W:World) (hv:Hid (DAt W (fun _=>True) v (.row 4 (l.map SwD.cells)))) (hl:l.length≤140737488355328) (hx0:W.cell? ⟨bx,0,none⟩=some (.func (.func 91) #[] #[])) (hc:Hid (zeu 91 SwD.cells l p W)):
 Calls prog 230 #[v,.func (.func 169) #[] #[.pointer (some ⟨bx,0,none⟩)]] W fun e w'=> ∃r:Int,e= .returned (.int .i64 r)∧(r<0∧l.all p=true∨0≤r∧l.all p=false)∧Below W.heap.size W w':=by
 obtain⟨A,c,rfl,hA⟩:=hv.out.slice;have HA:=zaa hA;clear hA hv;rw[List.length_map];have hbx:=zbp hx0
 go_enter func230,ntmps230
 go_wp2_with fail
 go_loopw [8] (fun v8 wr=> ∃k:Nat,k≤l.length∧v8= .int .i64 k∧(l.take k).all p=true∧Below W.heap.size W wr) (fun v8 _=>l.length-(intOf v8).toNat)
 case atStart=>exact⟨0,by omega,rfl,by simp,Below.refl _ _⟩
 case round=>
  obtain⟨k,hk,rfl,ht,hbr⟩:=hrel;have HT:=zaa ht;have HBR:=zaa hbr;clear ht;by_cases hlt:k<l.length
  rotate_left
  ·obtain rfl:k=l.length:=by omega
   rw[List.take_length] at HT;clear hbr hlt;go_wp2_with fail;go_ret;exact⟨_,rfl,.inl ⟨by decide,HT.out⟩,HBR.out⟩
  obtain⟨x,hx⟩:=zbE hlt;obtain⟨b,off,rfl,hb,hca⟩:=HA.out.at_ hx;obtain⟨u0,c0,g0⟩:=hca 0 _ rfl;obtain⟨u1,c1,g1⟩:=hca 1 _ rfl;obtain⟨u2,c2,g2⟩:=hca 2 _ rfl;obtain⟨u3,c3,g3⟩:=hca 3 _ rfl;clear hca;have c0:=zeF HBR.out hb c0;have c1:=zaI HBR.out hb c1;have c2:=zaI HBR.out hb c2;have c3:=zaI HBR.out hb c3;have hbxw:=(hbr.cell hbx).trans hx0;have lbx:bx<wr.heap.size:=Nat.lt_of_lt_of_le hbx hbr.size;have HC:=zaa (fun w' (hbw:Below W.heap.size W w')=>hc.out x (List.mem_of_getElem? hx) [u0,u1,u2,u3] w' hbw (zab.cons (g0.later hbw) (zab.cons (g1.later hbw) (zab.cons (g2.later hbw) (zab.cons (g3.later hbw) zab.nil)))));have k0:=kbZ k l.length;have HX:=zaa hx;clear hx hbr;go_wp2_with(first|(go_at_call 169;go_in))
  refine(HC.out _ (HBR.out.alloc HBR.out.size _)).mono ?_;rintro e w3 ⟨rfl,hb3⟩;have HB3:=zaa (baZ HBR.out hb3);clear hb3 HC
  cases hp:p x with
  |true=>
   have HTK:=zaa (zaK HT.out HX.out hp);go_wp2_with fail;go_roundw
   case rel=>exact⟨k+1,by omega,by go_num,HTK.out,HB3.out⟩
   case measure=>simp[intOf];omega
  |false=>
   have HNO:=zaa (zaH HX.out hp);go_wp2_with fail;go_ret;exact⟨_,rfl,.inr ⟨by omega,HNO.out⟩,HB3.out⟩
theorem znZ (v:Value) (l:List SwD) (p:SwD→Bool) (W:World) (hv:Hid (DAt W (fun _=>True) v (.row 4 (l.map SwD.cells)))) (hl:l.length≤140737488355328) (hc:Hid (zeu 91 SwD.cells l p W)):
 Calls prog 90 #[v,.func (.func 91) #[] #[]] W fun e w'=>e= .returned (.bool (l.all p))∧Below W.heap.size W w':=by
 have hmf: ∀(fn:Fn) (first cap:Array Value) (w:World),(Instr.makeFunc fn first cap).run prog w= .ok (.func fn first cap) w:=fun _ _ _ _=>rfl
 have HB:=zaa ((Below.refl W.heap.size W).alloc (Nat.le_refl _) (.cells #[.func (.func 91) #[] #[]] 139));have HI:=zaa (zoT W.heap.size v l p (W.alloc (.cells #[.func (.func 91) #[] #[]] 139)) (zaa (hv.out.later HB.out)) hl (by rw[cell_of_row _ _ 0 _ _ _ (heap_alloc_new W _)];rfl) (zaa (fun x hx us w' hb hd=>hc.out x hx us w' (btZ HB.out hb) hd)))
 go_enter func90,ntmps90
 go_wp2_with(first|(go_at_call 168;go_in))
 refine HI.out.mono ?_;rintro e w2 ⟨r,rfl,hr,hb⟩;have HB2:=zaa (btZ HB.out hb);have HR:=zaa (show l.all p= !decide (0≤r) by rcases hr with⟨h1,h2⟩|⟨h1,h2⟩<;>simp[h2]<;>omega);clear hb hr HI;go_wp2_with fail;go_ret;exact⟨by rw[HR.out];rfl,HB2.out⟩
theorem zlr (bx:Nat) (v:Value) (l:List zby) (p:zby→Bool) (W:World) (hv:Hid (DAt W (fun _=>True) v (.row 4 (l.map zby.cells)))) (hl:l.length≤140737488355328) (hx0:W.cell? ⟨bx,0,none⟩=some (.func (.func 93) #[] #[])) (hc:Hid (zeu 93 zby.cells l p W)):
 Calls prog 231 #[v,.func (.func 171) #[] #[.pointer (some ⟨bx,0,none⟩)]] W fun e w'=> ∃r:Int,e= .returned (.int .i64 r)∧(r<0∧l.all p=true∨0≤r∧l.all p=false)∧Below W.heap.size W w':=by
 obtain⟨A,c,rfl,hA⟩:=hv.out.slice;have HA:=zaa hA;clear hA hv;rw[List.length_map];have hbx:=zbp hx0
 go_enter func231,ntmps231
 go_wp2_with fail
 go_loopw [8] (fun v8 wr=> ∃k:Nat,k≤l.length∧v8= .int .i64 k∧(l.take k).all p=true∧Below W.heap.size W wr) (fun v8 _=>l.length-(intOf v8).toNat)
 case atStart=>exact⟨0,by omega,rfl,by simp,Below.refl _ _⟩
 case round=>
  obtain⟨k,hk,rfl,ht,hbr⟩:=hrel;have HT:=zaa ht;have HBR:=zaa hbr;clear ht;by_cases hlt:k<l.length
  rotate_left
  ·obtain rfl:k=l.length:=by omega
   rw[List.take_length] at HT;clear hbr hlt;go_wp2_with fail;go_ret;exact⟨_,rfl,.inl ⟨by decide,HT.out⟩,HBR.out⟩
  obtain⟨x,hx⟩:=zbE hlt;obtain⟨b,off,rfl,hb,hca⟩:=HA.out.at_ hx;obtain⟨u0,c0,g0⟩:=hca 0 _ rfl;obtain⟨u1,c1,g1⟩:=hca 1 _ rfl;obtain⟨u2,c2,g2⟩:=hca 2 _ rfl;obtain⟨u3,c3,g3⟩:=hca 3 _ rfl;clear hca;have c0:=zeF HBR.out hb c0;have c1:=zaI HBR.out hb c1;have c2:=zaI HBR.out hb c2;have c3:=zaI HBR.out hb c3;have hbxw:=(hbr.cell hbx).trans hx0;have lbx:bx<wr.heap.size:=Nat.lt_of_lt_of_le hbx hbr.size;have HC:=zaa (fun w' (hbw:Below W.heap.size W w')=>hc.out x (List.mem_of_getElem? hx) [u0,u1,u2,u3] w' hbw (zab.cons (g0.later hbw) (zab.cons (g1.later hbw) (zab.cons (g2.later hbw) (zab.cons (g3.later hbw) zab.nil)))));have k0:=kbZ k l.length;have HX:=zaa hx;clear hx hbr;go_wp2_with(first|(go_at_call 171;go_in))
  refine(HC.out _ (HBR.out.alloc HBR.out.size _)).mono ?_;rintro e w3 ⟨rfl,hb3⟩;have HB3:=zaa (baZ HBR.out hb3);clear hb3 HC
  cases hp:p x with
  |true=>
   have HTK:=zaa (zaK HT.out HX.out hp);go_wp2_with fail;go_roundw
   case rel=>exact⟨k+1,by omega,by go_num,HTK.out,HB3.out⟩
   case measure=>simp[intOf];omega
  |false=>
   have HNO:=zaa (zaH HX.out hp);go_wp2_with fail;go_ret;exact⟨_,rfl,.inr ⟨by omega,HNO.out⟩,HB3.out⟩
theorem zkP (v:Value) (l:List zby) (p:zby→Bool) (W:World) (hv:Hid (DAt W (fun _=>True) v (.row 4 (l.map zby.cells)))) (hl:l.length≤140737488355328) (hc:Hid (zeu 93 zby.cells l p W)):
 Calls prog 92 #[v,.func (.func 93) #[] #[]] W fun e w'=>e= .returned (.bool (l.all p))∧Below W.heap.size W w':=by
 have hmf: ∀(fn:Fn) (first cap:Array Value) (w:World),(Instr.makeFunc fn first cap).run prog w= .ok (.func fn first cap) w:=fun _ _ _ _=>rfl
 have HB:=zaa ((Below.refl W.heap.size W).alloc (Nat.le_refl _) (.cells #[.func (.func 93) #[] #[]] 141));have HI:=zaa (zlr W.heap.size v l p (W.alloc (.cells #[.func (.func 93) #[] #[]] 141)) (zaa (hv.out.later HB.out)) hl (by rw[cell_of_row _ _ 0 _ _ _ (heap_alloc_new W _)];rfl) (zaa (fun x hx us w' hb hd=>hc.out x hx us w' (btZ HB.out hb) hd)))
 go_enter func92,ntmps92
 go_wp2_with(first|(go_at_call 170;go_in))
 refine HI.out.mono ?_;rintro e w2 ⟨r,rfl,hr,hb⟩;have HB2:=zaa (btZ HB.out hb);have HR:=zaa (show l.all p= !decide (0≤r) by rcases hr with⟨h1,h2⟩|⟨h1,h2⟩<;>simp[h2]<;>omega);clear hb hr HI;go_wp2_with fail;go_ret;exact⟨by rw[HR.out];rfl,HB2.out⟩
theorem znW (bx:Nat) (v:Value) (l:List VlD) (p:VlD→Bool) (W:World) (hv:Hid (DAt W (fun _=>True) v (.row 7 (l.map VlD.cells)))) (hl:l.length≤140737488355328) (hx0:W.cell? ⟨bx,0,none⟩=some (.func (.func 95) #[] #[])) (hc:Hid (zeu 95 VlD.cells l p W)):
 Calls prog 234 #[v,.func (.func 174) #[] #[.pointer (some ⟨bx,0,none⟩)]] W fun e w'=> ∃r:Int,e= .returned (.int .i64 r)∧(r<0∧l.all p=true∨0≤r∧l.all p=false)∧Below W.heap.size W w':=by
 obtain⟨A,c,rfl,hA⟩:=hv.out.slice;have HA:=zaa hA;clear hA hv;rw[List.length_map];have hbx:=zbp hx0
 go_enter func234,ntmps234
 go_wp2_with fail
 go_loopw [8] (fun v8 wr=> ∃k:Nat,k≤l.length∧v8= .int .i64 k∧(l.take k).all p=true∧Below W.heap.size W wr) (fun v8 _=>l.length-(intOf v8).toNat)
 case atStart=>exact⟨0,by omega,rfl,by simp,Below.refl _ _⟩
 case round=>
  obtain⟨k,hk,rfl,ht,hbr⟩:=hrel;have HT:=zaa ht;have HBR:=zaa hbr;clear ht;by_cases hlt:k<l.length
  rotate_left
  ·obtain rfl:k=l.length:=by omega
   rw[List.take_length] at HT;clear hbr hlt;go_wp2_with fail;go_ret;exact⟨_,rfl,.inl ⟨by decide,HT.out⟩,HBR.out⟩
  obtain⟨x,hx⟩:=zbE hlt;obtain⟨b,off,rfl,hb,hca⟩:=HA.out.at_ hx;obtain⟨u0,c0,g0⟩:=hca 0 _ rfl;obtain⟨u1,c1,g1⟩:=hca 1 _ rfl;obtain⟨u2,c2,g2⟩:=hca 2 _ rfl;obtain⟨u3,c3,g3⟩:=hca 3 _ rfl;obtain⟨u4,c4,g4⟩:=hca 4 _ rfl;obtain⟨u5,c5,g5⟩:=hca 5 _ rfl;obtain⟨u6,c6,g6⟩:=hca 6 _ rfl;clear hca;have c0:=zeF HBR.out hb c0;have c1:=zaI HBR.out hb c1;have c2:=zaI HBR.out hb c2;have c3:=zaI HBR.out hb c3;have c4:=zaI HBR.out hb c4;have c5:=zaI HBR.out hb c5;have c6:=zaI HBR.out hb c6;have hbxw:=(hbr.cell hbx).trans hx0;have lbx:bx<wr.heap.size:=Nat.lt_of_lt_of_le hbx hbr.size;have HC:=zaa (fun w' (hbw:Below W.heap.size W w')=>hc.out x (List.mem_of_getElem? hx) [u0,u1,u2,u3,u4,u5,u6] w' hbw (zab.cons (g0.later hbw) (zab.cons (g1.later hbw) (zab.cons (g2.later hbw) (zab.cons (g3.later hbw) (zab.cons (g4.later hbw) (zab.cons (g5.later hbw) (zab.cons (g6.later hbw) zab.nil))))))));have k0:=kbZ k l.length;have HX:=zaa hx;clear hx hbr;go_wp2_with(first|(go_at_call 174;go_in))
  refine(HC.out _ (HBR.out.alloc HBR.out.size _)).mono ?_;rintro e w3 ⟨rfl,hb3⟩;have HB3:=zaa (baZ HBR.out hb3);clear hb3 HC
  cases hp:p x with
  |true=>
   have HTK:=zaa (zaK HT.out HX.out hp);go_wp2_with fail;go_roundw
   case rel=>exact⟨k+1,by omega,by go_num,HTK.out,HB3.out⟩
   case measure=>simp[intOf];omega
  |false=>
   have HNO:=zaa (zaH HX.out hp);go_wp2_with fail;go_ret;exact⟨_,rfl,.inr ⟨by omega,HNO.out⟩,HB3.out⟩
theorem zog (v:Value) (l:List VlD) (p:VlD→Bool) (W:World) (hv:Hid (DAt W (fun _=>True) v (.row 7 (l.map VlD.cells)))) (hl:l.length≤140737488355328) (hc:Hid (zeu 95 VlD.cells l p W)):
 Calls prog 94 #[v,.func (.func 95) #[] #[]] W fun e w'=>e= .returned (.bool (l.all p))∧Below W.heap.size W w':=by
 have hmf: ∀(fn:Fn) (first cap:Array Value) (w:World),(Instr.makeFunc fn first cap).run prog w= .ok (.func fn first cap) w:=fun _ _ _ _=>rfl
 have HB:=zaa ((Below.refl W.heap.size W).alloc (Nat.le_refl _) (.cells #[.func (.func 95) #[] #[]] 143));have HI:=zaa (znW W.heap.size v l p (W.alloc (.cells #[.func (.func 95) #[] #[]] 143)) (zaa (hv.out.later HB.out)) hl (by rw[cell_of_row _ _ 0 _ _ _ (heap_alloc_new W _)];rfl) (zaa (fun x hx us w' hb hd=>hc.out x hx us w' (btZ HB.out hb) hd)))
 go_enter func94,ntmps94
 go_wp2_with(first|(go_at_call 173;go_in))
 refine HI.out.mono ?_;rintro e w2 ⟨r,rfl,hr,hb⟩;have HB2:=zaa (btZ HB.out hb);have HR:=zaa (show l.all p= !decide (0≤r) by rcases hr with⟨h1,h2⟩|⟨h1,h2⟩<;>simp[h2]<;>omega);clear hb hr HI;go_wp2_with fail;go_ret;exact⟨by rw[HR.out];rfl,HB2.out⟩
theorem zis (bx:Nat) (v:Value) (l:List zaB) (p:zaB→Bool) (W:World) (hv:Hid (DAt W (fun _=>True) v (.row 5 (l.map zaB.cells)))) (hl:l.length≤140737488355328) (hx0:W.cell? ⟨bx,0,none⟩=some (.func (.func 97) #[] #[])) (hc:Hid (zeu 97 zaB.cells l p W)):
 Calls prog 235 #[v,.func (.func 176) #[] #[.pointer (some ⟨bx,0,none⟩)]] W fun e w'=> ∃r:Int,e= .returned (.int .i64 r)∧(r<0∧l.all p=true∨0≤r∧l.all p=false)∧Below W.heap.size W w':=by
 obtain⟨A,c,rfl,hA⟩:=hv.out.slice;have HA:=zaa hA;clear hA hv;rw[List.length_map];have hbx:=zbp hx0
 go_enter func235,ntmps235
 go_wp2_with fail
 go_loopw [8] (fun v8 wr=> ∃k:Nat,k≤l.length∧v8= .int .i64 k∧(l.take k).all p=true∧Below W.heap.size W wr) (fun v8 _=>l.length-(intOf v8).toNat)
 case atStart=>exact⟨0,by omega,rfl,by simp,Below.refl _ _⟩
 case round=>
  obtain⟨k,hk,rfl,ht,hbr⟩:=hrel;have HT:=zaa ht;have HBR:=zaa hbr;clear ht;by_cases hlt:k<l.length
  rotate_left
  ·obtain rfl:k=l.length:=by omega
   rw[List.take_length] at HT;clear hbr hlt;go_wp2_with fail;go_ret;exact⟨_,rfl,.inl ⟨by decide,HT.out⟩,HBR.out⟩
  obtain⟨x,hx⟩:=zbE hlt;obtain⟨b,off,rfl,hb,hca⟩:=HA.out.at_ hx;obtain⟨u0,c0,g0⟩:=hca 0 _ rfl;obtain⟨u1,c1,g1⟩:=hca 1 _ rfl;obtain⟨u2,c2,g2⟩:=hca 2 _ rfl;obtain⟨u3,c3,g3⟩:=hca 3 _ rfl;obtain⟨u4,c4,g4⟩:=hca 4 _ rfl;clear hca;have c0:=zeF HBR.out hb c0;have c1:=zaI HBR.out hb c1;have c2:=zaI HBR.out hb c2;have c3:=zaI HBR.out hb c3;have c4:=zaI HBR.out hb c4;have hbxw:=(hbr.cell hbx).trans hx0;have lbx:bx<wr.heap.size:=Nat.lt_of_lt_of_le hbx hbr.size;have HC:=zaa (fun w' (hbw:Below W.heap.size W w')=>hc.out x (List.mem_of_getElem? hx) [u0,u1,u2,u3,u4] w' hbw (zab.cons (g0.later hbw) (zab.cons (g1.later hbw) (zab.cons (g2.later hbw) (zab.cons (g3.later hbw) (zab.cons (g4.later hbw) zab.nil))))));have k0:=kbZ k l.length;have HX:=zaa hx;clear hx hbr;go_wp2_with(first|(go_at_call 176;go_in))
  refine(HC.out _ (HBR.out.alloc HBR.out.size _)).mono ?_;rintro e w3 ⟨rfl,hb3⟩;have HB3:=zaa (baZ HBR.out hb3);clear hb3 HC
  cases hp:p x with
  |true=>
   have HTK:=zaa (zaK HT.out HX.out hp);go_wp2_with fail;go_roundw
   case rel=>exact⟨k+1,by omega,by go_num,HTK.out,HB3.out⟩
   case measure=>simp[intOf];omega
  |false=>
   have HNO:=zaa (zaH HX.out hp);go_wp2_with fail;go_ret;exact⟨_,rfl,.inr ⟨by omega,HNO.out⟩,HB3.out⟩
theorem ziy (v:Value) (l:List zaB) (p:zaB→Bool) (W:World) (hv:Hid (DAt W (fun _=>True) v (.row 5 (l.map zaB.cells)))) (hl:l.length≤140737488355328) (hc:Hid (zeu 97 zaB.cells l p W)):
 Calls prog 96 #[v,.func (.func 97) #[] #[]] W fun e w'=>e= .returned (.bool (l.all p))∧Below W.heap.size W w':=by
 have hmf: ∀(fn:Fn) (first cap:Array Value) (w:World),(Instr.makeFunc fn first cap).run prog w= .ok (.func fn first cap) w:=fun _ _ _ _=>rfl
 have HB:=zaa ((Below.refl W.heap.size W).alloc (Nat.le_refl _) (.cells #[.func (.func 97) #[] #[]] 145));have HI:=zaa (zis W.heap.size v l p (W.alloc (.cells #[.func (.func 97) #[] #[]] 145)) (zaa (hv.out.later HB.out)) hl (by rw[cell_of_row _ _ 0 _ _ _ (heap_alloc_new W _)];rfl) (zaa (fun x hx us w' hb hd=>hc.out x hx us w' (btZ HB.out hb) hd)))
 go_enter func96,ntmps96
 go_wp2_with(first|(go_at_call 175;go_in))
 refine HI.out.mono ?_;rintro e w2 ⟨r,rfl,hr,hb⟩;have HB2:=zaa (btZ HB.out hb);have HR:=zaa (show l.all p= !decide (0≤r) by rcases hr with⟨h1,h2⟩|⟨h1,h2⟩<;>simp[h2]<;>omega);clear hb hr HI;go_wp2_with fail;go_ret;exact⟨by rw[HR.out];rfl,HB2.out⟩
theorem zjr (bx:Nat) (v:Value) (l:List zaF) (p:zaF→Bool) (W:World) (hv:Hid (DAt W (fun _=>True) v (.row 3 (l.map zaF.cells)))) (hl:l.length≤140737488355328) (hx0:W.cell? ⟨bx,0,none⟩=some (.func (.func 99) #[] #[])) (hc:Hid (zeu 99 zaF.cells l p W)):
 Calls prog 236 #[v,.func (.func 179) #[] #[.pointer (some ⟨bx,0,none⟩)]] W fun e w'=> ∃r:Int,e= .returned (.int .i64 r)∧(r<0∧l.all p=true∨0≤r∧l.all p=false)∧Below W.heap.size W w':=by
 obtain⟨A,c,rfl,hA⟩:=hv.out.slice;have HA:=zaa hA;clear hA hv;rw[List.length_map];have hbx:=zbp hx0
 go_enter func236,ntmps236
 go_wp2_with fail
 go_loopw [8] (fun v8 wr=> ∃k:Nat,k≤l.length∧v8= .int .i64 k∧(l.take k).all p=true∧Below W.heap.size W wr) (fun v8 _=>l.length-(intOf v8).toNat)
 case atStart=>exact⟨0,by omega,rfl,by simp,Below.refl _ _⟩
 case round=>
  obtain⟨k,hk,rfl,ht,hbr⟩:=hrel;have HT:=zaa ht;have HBR:=zaa hbr;clear ht;by_cases hlt:k<l.length
  rotate_left
  ·obtain rfl:k=l.length:=by omega
   rw[List.take_length] at HT;clear hbr hlt;go_wp2_with fail;go_ret;exact⟨_,rfl,.inl ⟨by decide,HT.out⟩,HBR.out⟩
  obtain⟨x,hx⟩:=zbE hlt;obtain⟨b,off,rfl,hb,hca⟩:=HA.out.at_ hx;obtain⟨u0,c0,g0⟩:=hca 0 _ rfl;obtain⟨u1,c1,g1⟩:=hca 1 _ rfl;obtain⟨u2,c2,g2⟩:=hca 2 _ rfl;clear hca;have c0:=zeF HBR.out hb c0;have c1:=zaI HBR.out hb c1;have c2:=zaI HBR.out hb c2;have hbxw:=(hbr.cell hbx).trans hx0;have lbx:bx<wr.heap.size:=Nat.lt_of_lt_of_le hbx hbr.size;have HC:=zaa (fun w' (hbw:Below W.heap.size W w')=>hc.out x (List.mem_of_getElem? hx) [u0,u1,u2] w' hbw (zab.cons (g0.later hbw) (zab.cons (g1.later hbw) (zab.cons (g2.later hbw) zab.nil))));have k0:=kbZ k l.length;have HX:=zaa hx;clear hx hbr;go_wp2_with(first|(go_at_call 179;go_in))
  refine(HC.out _ (HBR.out.alloc HBR.out.size _)).mono ?_;rintro e w3 ⟨rfl,hb3⟩;have HB3:=zaa (baZ HBR.out hb3);clear hb3 HC
  cases hp:p x with
  |true=>
   have HTK:=zaa (zaK HT.out HX.out hp);go_wp2_with fail;go_roundw
   case rel=>exact⟨k+1,by omega,by go_num,HTK.out,HB3.out⟩
   case measure=>simp[intOf];omega
  |false=>
   have HNO:=zaa (zaH HX.out hp);go_wp2_with fail;go_ret;exact⟨_,rfl,.inr ⟨by omega,HNO.out⟩,HB3.out⟩
theorem zjk (v:Value) (l:List zaF) (p:zaF→Bool) (W:World) (hv:Hid (DAt W (fun _=>True) v (.row 3 (l.map zaF.cells)))) (hl:l.length≤140737488355328) (hc:Hid (zeu 99 zaF.cells l p W)):
 Calls prog 98 #[v,.func (.func 99) #[] #[]] W fun e w'=>e= .returned (.bool (l.all p))∧Below W.heap.size W w':=by
 have hmf: ∀(fn:Fn) (first cap:Array Value) (w:World),(Instr.makeFunc fn first cap).run prog w= .ok (.func fn first cap) w:=fun _ _ _ _=>rfl
 have HB:=zaa ((Below.refl W.heap.size W).alloc (Nat.le_refl _) (.cells #[.func (.func 99) #[] #[]] 147));have HI:=zaa (zjr W.heap.size v l p (W.alloc (.cells #[.func (.func 99) #[] #[]] 147)) (zaa (hv.out.later HB.out)) hl (by rw[cell_of_row _ _ 0 _ _ _ (heap_alloc_new W _)];rfl) (zaa (fun x hx us w' hb hd=>hc.out x hx us w' (btZ HB.out hb) hd)))
 go_enter func98,ntmps98
 go_wp2_with(first|(go_at_call 178;go_in))
 refine HI.out.mono ?_;rintro e w2 ⟨r,rfl,hr,hb⟩;have HB2:=zaa (btZ HB.out hb);have HR:=zaa (show l.all p= !decide (0≤r) by rcases hr with⟨h1,h2⟩|⟨h1,h2⟩<;>simp[h2]<;>omega);clear hb hr HI;go_wp2_with fail;go_ret;exact⟨by rw[HR.out];rfl,HB2.out⟩
theorem znw (bx:Nat) (v:Value) (l:List zdt) (p:zdt→Bool) (W:World) (hv:Hid (DAt W (fun _=>True) v (.row 4 (l.map zdt.cells)))) (hl:l.length≤140737488355328) (hx0:W.cell? ⟨bx,0,none⟩=some (.func (.func 101) #[] #[])) (hc:Hid (zeu 101 zdt.cells l p W)):
 Calls prog 239 #[v,.func (.func 183) #[] #[.pointer (some ⟨bx,0,none⟩)]] W fun e w'=> ∃r:Int,e= .returned (.int .i64 r)∧(r<0∧l.all p=true∨0≤r∧l.all p=false)∧Below W.heap.size W w':=by
 obtain⟨A,c,rfl,hA⟩:=hv.out.slice;have HA:=zaa hA;clear hA hv;rw[List.length_map];have hbx:=zbp hx0
 go_enter func239,ntmps239
 go_wp2_with fail
 go_loopw [8] (fun v8 wr=> ∃k:Nat,k≤l.length∧v8= .int .i64 k∧(l.take k).all p=true∧Below W.heap.size W wr) (fun v8 _=>l.length-(intOf v8).toNat)
 case atStart=>exact⟨0,by omega,rfl,by simp,Below.refl _ _⟩
 case round=>
  obtain⟨k,hk,rfl,ht,hbr⟩:=hrel;have HT:=zaa ht;have HBR:=zaa hbr;clear ht;by_cases hlt:k<l.length
  rotate_left
  ·obtain rfl:k=l.length:=by omega
   rw[List.take_length] at HT;clear hbr hlt;go_wp2_with fail;go_ret;exact⟨_,rfl,.inl ⟨by decide,HT.out⟩,HBR.out⟩
  obtain⟨x,hx⟩:=zbE hlt;obtain⟨b,off,rfl,hb,hca⟩:=HA.out.at_ hx;obtain⟨u0,c0,g0⟩:=hca 0 _ rfl;obtain⟨u1,c1,g1⟩:=hca 1 _ rfl;obtain⟨u2,c2,g2⟩:=hca 2 _ rfl;obtain⟨u3,c3,g3⟩:=hca 3 _ rfl;clear hca;have c0:=zeF HBR.out hb c0;have c1:=zaI HBR.out hb c1;have c2:=zaI HBR.out hb c2;have c3:=zaI HBR.out hb c3;have hbxw:=(hbr.cell hbx).trans hx0;have lbx:bx<wr.heap.size:=Nat.lt_of_lt_of_le hbx hbr.size;have HC:=zaa (fun w' (hbw:Below W.heap.size W w')=>hc.out x (List.mem_of_getElem? hx) [u0,u1,u2,u3] w' hbw (zab.cons (g0.later hbw) (zab.cons (g1.later hbw) (zab.cons (g2.later hbw) (zab.cons (g3.later hbw) zab.nil)))));have k0:=kbZ k l.length;have HX:=zaa hx;clear hx hbr;go_wp2_with(first|(go_at_call 183;go_in))
  refine(HC.out _ (HBR.out.alloc HBR.out.size _)).mono ?_;rintro e w3 ⟨rfl,hb3⟩;have HB3:=zaa (baZ HBR.out hb3);clear hb3 HC
  cases hp:p x with
  |true=>
   have HTK:=zaa (zaK HT.out HX.out hp);go_wp2_with fail;go_roundw
   case rel=>exact⟨k+1,by omega,by go_num,HTK.out,HB3.out⟩
   case measure=>simp[intOf];omega
  |false=>
   have HNO:=zaa (zaH HX.out hp);go_wp2_with fail;go_ret;exact⟨_,rfl,.inr ⟨by omega,HNO.out⟩,HB3.out⟩
theorem zmB (v:Value) (l:List zdt) (p:zdt→Bool) (W:World) (hv:Hid (DAt W (fun _=>True) v (.row 4 (l.map zdt.cells)))) (hl:l.length≤140737488355328) (hc:Hid (zeu 101 zdt.cells l p W)):
 Calls prog 100 #[v,.func (.func 101) #[] #[]] W fun e w'=>e= .returned (.bool (l.all p))∧Below W.heap.size W w':=by
 have hmf: ∀(fn:Fn) (first cap:Array Value) (w:World),(Instr.makeFunc fn first cap).run prog w= .ok (.func fn first cap) w:=fun _ _ _ _=>rfl
 have HB:=zaa ((Below.refl W.heap.size W).alloc (Nat.le_refl _) (.cells #[.func (.func 101) #[] #[]] 149));have HI:=zaa (znw W.heap.size v l p (W.alloc (.cells #[.func (.func 101) #[] #[]] 149)) (zaa (hv.out.later HB.out)) hl (by rw[cell_of_row _ _ 0 _ _ _ (heap_alloc_new W _)];rfl) (zaa (fun x hx us w' hb hd=>hc.out x hx us w' (btZ HB.out hb) hd)))
 go_enter func100,ntmps100
 go_wp2_with(first|(go_at_call 182;go_in))
 refine HI.out.mono ?_;rintro e w2 ⟨r,rfl,hr,hb⟩;have HB2:=zaa (btZ HB.out hb);have HR:=zaa (show l.all p= !decide (0≤r) by rcases hr with⟨h1,h2⟩|⟨h1,h2⟩<;>simp[h2]<;>omega);clear hb hr HI;go_wp2_with fail;go_ret;exact⟨by rw[HR.out];rfl,HB2.out⟩
theorem zlq (bx:Nat) (v:Value) (l:List zaQ) (p:zaQ→Bool) (W:World) (hv:Hid (DAt W (fun _=>True) v (.row 10 (l.map zaQ.cells)))) (hl:l.length≤140737488355328) (hx0:W.cell? ⟨bx,0,none⟩=some (.func (.func 164) #[] #[])) (hc:Hid (zeu 164 zaQ.cells l p W)):
 Calls prog 264 #[v,.func (.func 222) #[] #[.pointer (some ⟨bx,0,none⟩)]] W fun e w'=> ∃r:Int,e= .returned (.int .i64 r)∧(r<0∧l.all p=true∨0≤r∧l.all p=false)∧Below W.heap.size W w':=by
 obtain⟨A,c,rfl,hA⟩:=hv.out.slice;have HA:=zaa hA;clear hA hv;rw[List.length_map];have hbx:=zbp hx0
 go_enter func264,ntmps264
 go_wp2_with fail
 go_loopw [8] (fun v8 wr=> ∃k:Nat,k≤l.length∧v8= .int .i64 k∧(l.take k).all p=true∧Below W.heap.size W wr) (fun v8 _=>l.length-(intOf v8).toNat)
 case atStart=>exact⟨0,by omega,rfl,by simp,Below.refl _ _⟩
 case round=>
  obtain⟨k,hk,rfl,ht,hbr⟩:=hrel;have HT:=zaa ht;have HBR:=zaa hbr;clear ht;by_cases hlt:k<l.length
  rotate_left
  ·obtain rfl:k=l.length:=by omega
   rw[List.take_length] at HT;clear hbr hlt;go_wp2_with fail;go_ret;exact⟨_,rfl,.inl ⟨by decide,HT.out⟩,HBR.out⟩
  obtain⟨x,hx⟩:=zbE hlt;obtain⟨b,off,rfl,hb,hca⟩:=HA.out.at_ hx;obtain⟨u0,c0,g0⟩:=hca 0 _ rfl;obtain⟨u1,c1,g1⟩:=hca 1 _ rfl;obtain⟨u2,c2,g2⟩:=hca 2 _ rfl;obtain⟨u3,c3,g3⟩:=hca 3 _ rfl;obtain⟨u4,c4,g4⟩:=hca 4 _ rfl;obtain⟨u5,c5,g5⟩:=hca 5 _ rfl;obtain⟨u6,c6,g6⟩:=hca 6 _ rfl;obtain⟨u7,c7,g7⟩:=hca 7 _ rfl;obtain⟨u8,c8,g8⟩:=hca 8 _ rfl;obtain⟨u9,c9,g9⟩:=hca 9 _ rfl;clear hca;have c0:=zeF HBR.out hb c0;have c1:=zaI HBR.out hb c1;have c2:=zaI HBR.out hb c2;have c3:=zaI HBR.out hb c3;have c4:=zaI HBR.out hb c4;have c5:=zaI HBR.out hb c5;have c6:=zaI HBR.out hb c6;have c7:=zaI HBR.out hb c7;have c8:=zaI HBR.out hb c8;have c9:=zaI HBR.out hb c9;have hbxw:=(hbr.cell hbx).trans hx0;have lbx:bx<wr.heap.size:=Nat.lt_of_lt_of_le hbx hbr.size;have HC:=zaa (fun w' (hbw:Below W.heap.size W w')=>hc.out x (List.mem_of_getElem? hx) [u0,u1,u2,u3,u4,u5,u6,u7,u8,u9] w' hbw (zab.cons (g0.later hbw) (zab.cons (g1.later hbw) (zab.cons (g2.later hbw) (zab.cons (g3.later hbw) (zab.cons (g4.later hbw) (zab.cons (g5.later hbw) (zab.cons (g6.later hbw) (zab.cons (g7.later hbw) (zab.cons (g8.later hbw) (zab.cons (g9.later hbw) zab.nil)))))))))));have k0:=kbZ k l.length;have HX:=zaa hx;clear hx hbr;go_wp2_with(first|(go_at_call 222;go_in))
  refine(HC.out _ (HBR.out.alloc HBR.out.size _)).mono ?_;rintro e w3 ⟨rfl,hb3⟩;have HB3:=zaa (baZ HBR.out hb3);clear hb3 HC
  cases hp:p x with
  |true=>
   have HTK:=zaa (zaK HT.out HX.out hp);go_wp2_with fail;go_roundw
   case rel=>exact⟨k+1,by omega,by go_num,HTK.out,HB3.out⟩
   case measure=>simp[intOf];omega
  |false=>
   have HNO:=zaa (zaH HX.out hp);go_wp2_with fail;go_ret;exact⟨_,rfl,.inr ⟨by omega,HNO.out⟩,HB3.out⟩
theorem zkN (v:Value) (l:List zaQ) (p:zaQ→Bool) (W:World) (hv:Hid (DAt W (fun _=>True) v (.row 10 (l.map zaQ.cells)))) (hl:l.length≤140737488355328) (hc:Hid (zeu 164 zaQ.cells l p W)):
 Calls prog 163 #[v,.func (.func 164) #[] #[]] W fun e w'=>e= .returned (.bool (l.all p))∧Below W.heap.size W w':=by
 have hmf: ∀(fn:Fn) (first cap:Array Value) (w:World),(Instr.makeFunc fn first cap).run prog w= .ok (.func fn first cap) w:=fun _ _ _ _=>rfl
 have HB:=zaa ((Below.refl W.heap.size W).alloc (Nat.le_refl _) (.cells #[.func (.func 164) #[] #[]] 152));have HI:=zaa (zlq W.heap.size v l p (W.alloc (.cells #[.func (.func 164) #[] #[]] 152)) (zaa (hv.out.later HB.out)) hl (by rw[cell_of_row _ _ 0 _ _ _ (heap_alloc_new W _)];rfl) (zaa (fun x hx us w' hb hd=>hc.out x hx us w' (btZ HB.out hb) hd)))
 go_enter func163,ntmps163
 go_wp2_with(first|(go_at_call 221;go_in))
 refine HI.out.mono ?_;rintro e w2 ⟨r,rfl,hr,hb⟩;have HB2:=zaa (btZ HB.out hb);have HR:=zaa (show l.all p= !decide (0≤r) by rcases hr with⟨h1,h2⟩|⟨h1,h2⟩<;>simp[h2]<;>omega);clear hb hr HI;go_wp2_with fail;go_ret;exact⟨by rw[HR.out];rfl,HB2.out⟩
theorem zkM (bx:Nat) (v:Value) (l:List zaT) (p:zaT→Bool) (W:World) (hv:Hid (DAt W (fun _=>True) v (.row 6 (l.map zaT.cells)))) (hl:l.length≤140737488355328) (hx0:W.cell? ⟨bx,0,none⟩=some (.func (.func 224) #[] #[])) (hc:Hid (zeu 224 zaT.cells l p W)):
 Calls prog 300 #[v,.func (.func 266) #[] #[.pointer (some ⟨bx,0,none⟩)]] W fun e w'=> ∃r:Int,e= .returned (.int .i64 r)∧(r<0∧l.all p=true∨0≤r∧l.all p=false)∧Below W.heap.size W w':=by
 obtain⟨A,c,rfl,hA⟩:=hv.out.slice;have HA:=zaa hA;clear hA hv;rw[List.length_map];have hbx:=zbp hx0
 go_enter func300,ntmps300
 go_wp2_with fail
 go_loopw [8] (fun v8 wr=> ∃k:Nat,k≤l.length∧v8= .int .i64 k∧(l.take k).all p=true∧Below W.heap.size W wr) (fun v8 _=>l.length-(intOf v8).toNat)
 case atStart=>exact⟨0,by omega,rfl,by simp,Below.refl _ _⟩
 case round=>
  obtain⟨k,hk,rfl,ht,hbr⟩:=hrel;have HT:=zaa ht;have HBR:=zaa hbr;clear ht;by_cases hlt:k<l.length
  rotate_left
  ·obtain rfl:k=l.length:=by omega
   rw[List.take_length] at HT;clear hbr hlt;go_wp2_with fail;go_ret;exact⟨_,rfl,.inl ⟨by decide,HT.out⟩,HBR.out⟩
  obtain⟨x,hx⟩:=zbE hlt;obtain⟨b,off,rfl,hb,hca⟩:=HA.out.at_ hx;obtain⟨u0,c0,g0⟩:=hca 0 _ rfl;obtain⟨u1,c1,g1⟩:=hca 1 _ rfl;obtain⟨u2,c2,g2⟩:=hca 2 _ rfl;obtain⟨u3,c3,g3⟩:=hca 3 _ rfl;obtain⟨u4,c4,g4⟩:=hca 4 _ rfl;obtain⟨u5,c5,g5⟩:=hca 5 _ rfl;clear hca;have c0:=zeF HBR.out hb c0;have c1:=zaI HBR.out hb c1;have c2:=zaI HBR.out hb c2;have c3:=zaI HBR.out hb c3;have c4:=zaI HBR.out hb c4;have c5:=zaI HBR.out hb c5;have hbxw:=(hbr.cell hbx).trans hx0;have lbx:bx<wr.heap.size:=Nat.lt_of_lt_of_le hbx hbr.size;have HC:=zaa (fun w' (hbw:Below W.heap.size W w')=>hc.out x (List.mem_of_getElem? hx) [u0,u1,u2,u3,u4,u5] w' hbw (zab.cons (g0.later hbw) (zab.cons (g1.later hbw) (zab.cons (g2.later hbw) (zab.cons (g3.later hbw) (zab.cons (g4.later hbw) (zab.cons (g5.later hbw) zab.nil)))))));have k0:=kbZ k l.length;have HX:=zaa hx;clear hx hbr;go_wp2_with(first|(go_at_call 266;go_in))
  refine(HC.out _ (HBR.out.alloc HBR.out.size _)).mono ?_;rintro e w3 ⟨rfl,hb3⟩;have HB3:=zaa (baZ HBR.out hb3);clear hb3 HC
  cases hp:p x with
  |true=>
   have HTK:=zaa (zaK HT.out HX.out hp);go_wp2_with fail;go_roundw
   case rel=>exact⟨k+1,by omega,by go_num,HTK.out,HB3.out⟩
   case measure=>simp[intOf];omega
  |false=>
   have HNO:=zaa (zaH HX.out hp);go_wp2_with fail;go_ret;exact⟨_,rfl,.inr ⟨by omega,HNO.out⟩,HB3.out⟩
theorem zk3 (v:Value) (l:List zaT) (p:zaT→Bool) (W:World) (hv:Hid (DAt W (fun _=>True) v (.row 6 (l.map zaT.cells)))) (hl:l.length≤140737488355328) (hc:Hid (zeu 224 zaT.cells l p W)):
 Calls prog 223 #[v,.func (.func 224) #[] #[]] W fun e w'=>e= .returned (.bool (l.all p))∧Below W.heap.size W w':=by
 have hmf: ∀(fn:Fn) (first cap:Array Value) (w:World),(Instr.makeFunc fn first cap).run prog w= .ok (.func fn first cap) w:=fun _ _ _ _=>rfl
 have HB:=zaa ((Below.refl W.heap.size W).alloc (Nat.le_refl _) (.cells #[.func (.func 224) #[] #[]] 196));have HI:=zaa (zkM W.heap.size v l p (W.alloc (.cells #[.func (.func 224) #[] #[]] 196)) (zaa (hv.out.later HB.out)) hl (by rw[cell_of_row _ _ 0 _ _ _ (heap_alloc_new W _)];rfl) (zaa (fun x hx us w' hb hd=>hc.out x hx us w' (btZ HB.out hb) hd)))
 go_enter func223,ntmps223
 go_wp2_with(first|(go_at_call 265;go_in))
 refine HI.out.mono ?_;rintro e w2 ⟨r,rfl,hr,hb⟩;have HB2:=zaa (btZ HB.out hb);have HR:=zaa (show l.all p= !decide (0≤r) by rcases hr with⟨h1,h2⟩|⟨h1,h2⟩<;>simp[h2]<;>omega);clear hb hr HI;go_wp2_with fail;go_ret;exact⟨by rw[HR.out];rfl,HB2.out⟩
theorem zk4 (bx:Nat) (v:Value) (l:List za0) (p:za0→Bool) (W:World) (hv:Hid (DAt W (fun _=>True) v (.row 5 (l.map za0.cells)))) (hl:l.length≤140737488355328) (hx0:W.cell? ⟨bx,0,none⟩=some (.func (.func 226) #[] #[])) (hc:Hid (zeu 226 za0.cells l p W)):
 Calls prog 301 #[v,.func (.func 268) #[] #[.pointer (some ⟨bx,0,none⟩)]] W fun e w'=> ∃r:Int,e= .returned (.int .i64 r)∧(r<0∧l.all p=true∨0≤r∧l.all p=false)∧Below W.heap.size W w':=by
 obtain⟨A,c,rfl,hA⟩:=hv.out.slice;have HA:=zaa hA;clear hA hv;rw[List.length_map];have hbx:=zbp hx0
 go_enter func301,ntmps301
 go_wp2_with fail
 go_loopw [8] (fun v8 wr=> ∃k:Nat,k≤l.length∧v8= .int .i64 k∧(l.take k).all p=true∧Below W.heap.size W wr) (fun v8 _=>l.length-(intOf v8).toNat)
 case atStart=>exact⟨0,by omega,rfl,by simp,Below.refl _ _⟩
 case round=>
  obtain⟨k,hk,rfl,ht,hbr⟩:=hrel;have HT:=zaa ht;have HBR:=zaa hbr;clear ht;by_cases hlt:k<l.length
  rotate_left
  ·obtain rfl:k=l.length:=by omega
   rw[List.take_length] at HT;clear hbr hlt;go_wp2_with fail;go_ret;exact⟨_,rfl,.inl ⟨by decide,HT.out⟩,HBR.out⟩
  obtain⟨x,hx⟩:=zbE hlt;obtain⟨b,off,rfl,hb,hca⟩:=HA.out.at_ hx;obtain⟨u0,c0,g0⟩:=hca 0 _ rfl;obtain⟨u1,c1,g1⟩:=hca 1 _ rfl;obtain⟨u2,c2,g2⟩:=hca 2 _ rfl;obtain⟨u3,c3,g3⟩:=hca 3 _ rfl;obtain⟨u4,c4,g4⟩:=hca 4 _ rfl;clear hca;have c0:=zeF HBR.out hb c0;have c1:=zaI HBR.out hb c1;have c2:=zaI HBR.out hb c2;have c3:=zaI HBR.out hb c3;have c4:=zaI HBR.out hb c4;have hbxw:=(hbr.cell hbx).trans hx0;have lbx:bx<wr.heap.size:=Nat.lt_of_lt_of_le hbx hbr.size;have HC:=zaa (fun w' (hbw:Below W.heap.size W w')=>hc.out x (List.mem_of_getElem? hx) [u0,u1,u2,u3,u4] w' hbw (zab.cons (g0.later hbw) (zab.cons (g1.later hbw) (zab.cons (g2.later hbw) (zab.cons (g3.later hbw) (zab.cons (g4.later hbw) zab.nil))))));have k0:=kbZ k l.length;have HX:=zaa hx;clear hx hbr;go_wp2_with(first|(go_at_call 268;go_in))
  refine(HC.out _ (HBR.out.alloc HBR.out.size _)).mono ?_;rintro e w3 ⟨rfl,hb3⟩;have HB3:=zaa (baZ HBR.out hb3);clear hb3 HC
  cases hp:p x with
  |true=>
   have HTK:=zaa (zaK HT.out HX.out hp);go_wp2_with fail;go_roundw
   case rel=>exact⟨k+1,by omega,by go_num,HTK.out,HB3.out⟩
   case measure=>simp[intOf];omega
  |false=>
   have HNO:=zaa (zaH HX.out hp);go_wp2_with fail;go_ret;exact⟨_,rfl,.inr ⟨by omega,HNO.out⟩,HB3.out⟩
theorem zlR (v:Value) (l:List za0) (p:za0→Bool) (W:World) (hv:Hid (DAt W (fun _=>True) v (.row 5 (l.map za0.cells)))) (hl:l.length≤140737488355328) (hc:Hid (zeu 226 za0.cells l p W)):
 Calls prog 225 #[v,.func (.func 226) #[] #[]] W fun e w'=>e= .returned (.bool (l.all p))∧Below W.heap.size W w':=by
 have hmf: ∀(fn:Fn) (first cap:Array Value) (w:World),(Instr.makeFunc fn first cap).run prog w= .ok (.func fn first cap) w:=fun _ _ _ _=>rfl
 have HB:=zaa ((Below.refl W.heap.size W).alloc (Nat.le_refl _) (.cells #[.func (.func 226) #[] #[]] 197));have HI:=zaa (zk4 W.heap.size v l p (W.alloc (.cells #[.func (.func 226) #[] #[]] 197)) (zaa (hv.out.later HB.out)) hl (by rw[cell_of_row _ _ 0 _ _ _ (heap_alloc_new W _)];rfl) (zaa (fun x hx us w' hb hd=>hc.out x hx us w' (btZ HB.out hb) hd)))
 go_enter func225,ntmps225
 go_wp2_with(first|(go_at_call 267;go_in))
 refine HI.out.mono ?_;rintro e w2 ⟨r,rfl,hr,hb⟩;have HB2:=zaa (btZ HB.out hb);have HR:=zaa (show l.all p= !decide (0≤r) by rcases hr with⟨h1,h2⟩|⟨h1,h2⟩<;>simp[h2]<;>omega);clear hb hr HI;go_wp2_with fail;go_ret;exact⟨by rw[HR.out];rfl,HB2.out⟩
theorem zmy (bx:Nat) (v:Value) (l:List zb3) (p:zb3→Bool) (W:World) (hv:Hid (DAt W (fun _=>True) v (.row 4 (l.map zb3.cells)))) (hl:l.length≤140737488355328) (hx0:W.cell? ⟨bx,0,none⟩=some (.func (.func 82) #[] #[])) (hc:Hid (zeu 82 zb3.cells l p W)):
 Calls prog 211 #[v,.func (.func 144) #[] #[.pointer (some ⟨bx,0,none⟩)]] W fun e w'=> ∃r:Int,e= .returned (.int .i64 r)∧(r<0∧l.all p=true∨0≤r∧l.all p=false)∧Below W.heap.size W w':=by
 obtain⟨A,c,rfl,hA⟩:=hv.out.slice;have HA:=zaa hA;clear hA hv;rw[List.length_map];have hbx:=zbp hx0
 go_enter func211,ntmps211
 go_wp2_with fail
 go_loopw [8] (fun v8 wr=> ∃k:Nat,k≤l.length∧v8= .int .i64 k∧(l.take k).all p=true∧Below W.heap.size W wr) (fun v8 _=>l.length-(intOf v8).toNat)
 case atStart=>exact⟨0,by omega,rfl,by simp,Below.refl _ _⟩
 case round=>
  obtain⟨k,hk,rfl,ht,hbr⟩:=hrel;have HT:=zaa ht;have HBR:=zaa hbr;clear ht;by_cases hlt:k<l.length
  rotate_left
  ·obtain rfl:k=l.length:=by omega
   rw[List.take_length] at HT;clear hbr hlt;go_wp2_with fail;go_ret;exact⟨_,rfl,.inl ⟨by decide,HT.out⟩,HBR.out⟩
  obtain⟨x,hx⟩:=zbE hlt;obtain⟨b,off,rfl,hb,hca⟩:=HA.out.at_ hx;obtain⟨u0,c0,g0⟩:=hca 0 _ rfl;obtain⟨u1,c1,g1⟩:=hca 1 _ rfl;obtain⟨u2,c2,g2⟩:=hca 2 _ rfl;obtain⟨u3,c3,g3⟩:=hca 3 _ rfl;clear hca;have c0:=zeF HBR.out hb c0;have c1:=zaI HBR.out hb c1;have c2:=zaI HBR.out hb c2;have c3:=zaI HBR.out hb c3;have hbxw:=(hbr.cell hbx).trans hx0;have lbx:bx<wr.heap.size:=Nat.lt_of_lt_of_le hbx hbr.size;have HC:=zaa (fun w' (hbw:Below W.heap.size W w')=>hc.out x (List.mem_of_getElem? hx) [u0,u1,u2,u3] w' hbw (zab.cons (g0.later hbw) (zab.cons (g1.later hbw) (zab.cons (g2.later hbw) (zab.cons (g3.later hbw) zab.nil)))));have k0:=kbZ k l.length;have HX:=zaa hx;clear hx hbr;go_wp2_with(first|(go_at_call 144;go_in))
  refine(HC.out _ (HBR.out.alloc HBR.out.size _)).mono ?_;rintro e w3 ⟨rfl,hb3⟩;have HB3:=zaa (baZ HBR.out hb3);clear hb3 HC
  cases hp:p x with
  |true=>
   have HTK:=zaa (zaK HT.out HX.out hp);go_wp2_with fail;go_roundw
   case rel=>exact⟨k+1,by omega,by go_num,HTK.out,HB3.out⟩
   case measure=>simp[intOf];omega
  |false=>
   have HNO:=zaa (zaH HX.out hp);go_wp2_with fail;go_ret;exact⟨_,rfl,.inr ⟨by omega,HNO.out⟩,HB3.out⟩
theorem zjX (v:Value) (l:List zb3) (p:zb3→Bool) (W:World) (hv:Hid (DAt W (fun _=>True) v (.row 4 (l.map zb3.cells)))) (hl:l.length≤140737488355328) (hc:Hid (zeu 82 zb3.cells l p W)):
 Calls prog 81 #[v,.func (.func 82) #[] #[]] W fun e w'=>e= .returned (.bool (l.all p))∧Below W.heap.size W w':=by
 have hmf: ∀(fn:Fn) (first cap:Array Value) (w:World),(Instr.makeFunc fn first cap).run prog w= .ok (.func fn first cap) w:=fun _ _ _ _=>rfl
 have HB:=zaa ((Below.refl W.heap.size W).alloc (Nat.le_refl _) (.cells #[.func (.func 82) #[] #[]] 130));have HI:=zaa (zmy W.heap.size v l p (W.alloc (.cells #[.func (.func 82) #[] #[]] 130)) (zaa (hv.out.later HB.out)) hl (by rw[cell_of_row _ _ 0 _ _ _ (heap_alloc_new W _)];rfl) (zaa (fun x hx us w' hb hd=>hc.out x hx us w' (btZ HB.out hb) hd)))
 go_enter func81,ntmps81
 go_wp2_with(first|(go_at_call 143;go_in))
 refine HI.out.mono ?_;rintro e w2 ⟨r,rfl,hr,hb⟩;have HB2:=zaa (btZ HB.out hb);have HR:=zaa (show l.all p= !decide (0≤r) by rcases hr with⟨h1,h2⟩|⟨h1,h2⟩<;>simp[h2]<;>omega);clear hb hr HI;go_wp2_with fail;go_ret;exact⟨by rw[HR.out];rfl,HB2.out⟩
theorem zm2 (bx:Nat) (v:Value) (l:List zb7) (p:zb7→Bool) (W:World) (hv:Hid (DAt W (fun _=>True) v (.row 3 (l.map zb7.cells)))) (hl:l.length≤140737488355328) (hx0:W.cell? ⟨bx,0,none⟩=some (.func (.func 228) #[] #[])) (hc:Hid (zeu 228 zb7.cells l p W)):
 Calls prog 302 #[v,.func (.func 270) #[] #[.pointer (some ⟨bx,0,none⟩)]] W fun e w'=> ∃r:Int,e= .returned (.int .i64 r)∧(r<0∧l.all p=true∨0≤r∧l.all p=false)∧Below W.heap.size W w':=by
 obtain⟨A,c,rfl,hA⟩:=hv.out.slice;have HA:=zaa hA;clear hA hv;rw[List.length_map];have hbx:=zbp hx0
 go_enter func302,ntmps302
 go_wp2_with fail
 go_loopw [8] (fun v8 wr=> ∃k:Nat,k≤l.length∧v8= .int .i64 k∧(l.take k).all p=true∧Below W.heap.size W wr) (fun v8 _=>l.length-(intOf v8).toNat)
 case atStart=>exact⟨0,by omega,rfl,by simp,Below.refl _ _⟩
 case round=>
  obtain⟨k,hk,rfl,ht,hbr⟩:=hrel;have HT:=zaa ht;have HBR:=zaa hbr;clear ht;by_cases hlt:k<l.length
  rotate_left
  ·obtain rfl:k=l.length:=by omega
   rw[List.take_length] at HT;clear hbr hlt;go_wp2_with fail;go_ret;exact⟨_,rfl,.inl ⟨by decide,HT.out⟩,HBR.out⟩
  obtain⟨x,hx⟩:=zbE hlt;obtain⟨b,off,rfl,hb,hca⟩:=HA.out.at_ hx;obtain⟨u0,c0,g0⟩:=hca 0 _ rfl;obtain⟨u1,c1,g1⟩:=hca 1 _ rfl;obtain⟨u2,c2,g2⟩:=hca 2 _ rfl;clear hca;have c0:=zeF HBR.out hb c0;have c1:=zaI HBR.out hb c1;have c2:=zaI HBR.out hb c2;have hbxw:=(hbr.cell hbx).trans hx0;have lbx:bx<wr.heap.size:=Nat.lt_of_lt_of_le hbx hbr.size;have HC:=zaa (fun w' (hbw:Below W.heap.size W w')=>hc.out x (List.mem_of_getElem? hx) [u0,u1,u2] w' hbw (zab.cons (g0.later hbw) (zab.cons (g1.later hbw) (zab.cons (g2.later hbw) zab.nil))));have k0:=kbZ k l.length;have HX:=zaa hx;clear hx hbr;go_wp2_with(first|(go_at_call 270;go_in))
  refine(HC.out _ (HBR.out.alloc HBR.out.size _)).mono ?_;rintro e w3 ⟨rfl,hb3⟩;have HB3:=zaa (baZ HBR.out hb3);clear hb3 HC
  cases hp:p x with
  |true=>
   have HTK:=zaa (zaK HT.out HX.out hp);go_wp2_with fail;go_roundw
   case rel=>exact⟨k+1,by omega,by go_num,HTK.out,HB3.out⟩
   case measure=>simp[intOf];omega
  |false=>
   have HNO:=zaa (zaH HX.out hp);go_wp2_with fail;go_ret;exact⟨_,rfl,.inr ⟨by omega,HNO.out⟩,HB3.out⟩
theorem zmM (v:Value) (l:List zb7) (p:zb7→Bool) (W:World) (hv:Hid (DAt W (fun _=>True) v (.row 3 (l.map zb7.cells)))) (hl:l.length≤140737488355328) (hc:Hid (zeu 228 zb7.cells l p W)):
 Calls prog 229 #[v,.func (.func 228) #[] #[]] W fun e w'=>e= .returned (.bool (l.all p))∧Below W.heap.size W w':=by
 have hmf: ∀(fn:Fn) (first cap:Array Value) (w:World),(Instr.makeFunc fn first cap).run prog w= .ok (.func fn first cap) w:=fun _ _ _ _=>rfl
 have HB:=zaa ((Below.refl W.heap.size W).alloc (Nat.le_refl _) (.cells #[.func (.func 228) #[] #[]] 224));have HI:=zaa (zm2 W.heap.size v l p (W.alloc (.cells #[.func (.func 228) #[] #[]] 224)) (zaa (hv.out.later HB.out)) hl (by rw[cell_of_row _ _ 0 _ _ _ (heap_alloc_new W _)];rfl) (zaa (fun x hx us w' hb hd=>hc.out x hx us w' (btZ HB.out hb) hd)))
 go_enter func229,ntmps229
 go_wp2_with(first|(go_at_call 269;go_in))
 refine HI.out.mono ?_;rintro e w2 ⟨r,rfl,hr,hb⟩;have HB2:=zaa (btZ HB.out hb);have HR:=zaa (show l.all p= !decide (0≤r) by rcases hr with⟨h1,h2⟩|⟨h1,h2⟩<;>simp[h2]<;>omega);clear hb hr HI;go_wp2_with fail;go_ret;exact⟨by rw[HR.out];rfl,HB2.out⟩
theorem znq (bx:Nat) (v:Value) (l:List zcu) (p:zcu→Bool) (W:World) (hv:Hid (DAt W (fun _=>True) v (.row 2 (l.map zcu.cells)))) (hl:l.length≤140737488355328) (hx0:W.cell? ⟨bx,0,none⟩=some (.func (.func 181) #[] #[])) (hc:Hid (zeu 181 zcu.cells l p W)):
 Calls prog 272 #[v,.func (.func 238) #[] #[.pointer (some ⟨bx,0,none⟩)]] W fun e w'=> ∃r:Int,e= .returned (.int .i64 r)∧(r<0∧l.all p=true∨0≤r∧l.all p=false)∧Below W.heap.size W w':=by
 obtain⟨A,c,rfl,hA⟩:=hv.out.slice;have HA:=zaa hA;clear hA hv;rw[List.length_map];have hbx:=zbp hx0
 go_enter func272,ntmps272
 go_wp2_with fail
 go_loopw [8] (fun v8 wr=> ∃k:Nat,k≤l.length∧v8= .int .i64 k∧(l.take k).all p=true∧Below W.heap.size W wr) (fun v8 _=>l.length-(intOf v8).toNat)
 case atStart=>exact⟨0,by omega,rfl,by simp,Below.refl _ _⟩
 case round=>
  obtain⟨k,hk,rfl,ht,hbr⟩:=hrel;have HT:=zaa ht;have HBR:=zaa hbr;clear ht;by_cases hlt:k<l.length
  rotate_left
  ·obtain rfl:k=l.length:=by omega
   rw[List.take_length] at HT;clear hbr hlt;go_wp2_with fail;go_ret;exact⟨_,rfl,.inl ⟨by decide,HT.out⟩,HBR.out⟩
  obtain⟨x,hx⟩:=zbE hlt;obtain⟨b,off,rfl,hb,hca⟩:=HA.out.at_ hx;obtain⟨u0,c0,g0⟩:=hca 0 _ rfl;obtain⟨u1,c1,g1⟩:=hca 1 _ rfl;clear hca;have c0:=zeF HBR.out hb c0;have c1:=zaI HBR.out hb c1;have hbxw:=(hbr.cell hbx).trans hx0;have lbx:bx<wr.heap.size:=Nat.lt_of_lt_of_le hbx hbr.size;have HC:=zaa (fun w' (hbw:Below W.heap.size W w')=>hc.out x (List.mem_of_getElem? hx) [u0,u1] w' hbw (zab.cons (g0.later hbw) (zab.cons (g1.later hbw) zab.nil)));have k0:=kbZ k l.length;have HX:=zaa hx;clear hx hbr;go_wp2_with(first|(go_at_call 238;go_in))
  refine(HC.out _ (HBR.out.alloc HBR.out.size _)).mono ?_;rintro e w3 ⟨rfl,hb3⟩;have HB3:=zaa (baZ HBR.out hb3);clear hb3 HC
  cases hp:p x with
  |true=>
   have HTK:=zaa (zaK HT.out HX.out hp);go_wp2_with fail;go_roundw
   case rel=>exact⟨k+1,by omega,by go_num,HTK.out,HB3.out⟩
   case measure=>simp[intOf];omega
  |false=>
   have HNO:=zaa (zaH HX.out hp);go_wp2_with fail;go_ret;exact⟨_,rfl,.inr ⟨by omega,HNO.out⟩,HB3.out⟩
theorem znu (v:Value) (l:List zcu) (p:zcu→Bool) (W:World) (hv:Hid (DAt W (fun _=>True) v (.row 2 (l.map zcu.cells)))) (hl:l.length≤140737488355328) (hc:Hid (zeu 181 zcu.cells l p W)):
 Calls prog 180 #[v,.func (.func 181) #[] #[]] W fun e w'=>e= .returned (.bool (l.all p))∧Below W.heap.size W w':=by
 have hmf: ∀(fn:Fn) (first cap:Array Value) (w:World),(Instr.makeFunc fn first cap).run prog w= .ok (.func fn first cap) w:=fun _ _ _ _=>rfl
 have HB:=zaa ((Below.refl W.heap.size W).alloc (Nat.le_refl _) (.cells #[.func (.func 181) #[] #[]] 195));have HI:=zaa (znq W.heap.size v l p (W.alloc (.cells #[.func (.func 181) #[] #[]] 195)) (zaa (hv.out.later HB.out)) hl (by rw[cell_of_row _ _ 0 _ _ _ (heap_alloc_new W _)];rfl) (zaa (fun x hx us w' hb hd=>hc.out x hx us w' (btZ HB.out hb) hd)))
 go_enter func180,ntmps180
 go_wp2_with(first|(go_at_call 237;go_in))
 refine HI.out.mono ?_;rintro e w2 ⟨r,rfl,hr,hb⟩;have HB2:=zaa (btZ HB.out hb);have HR:=zaa (show l.all p= !decide (0≤r) by rcases hr with⟨h1,h2⟩|⟨h1,h2⟩<;>simp[h2]<;>omega);clear hb hr HI;go_wp2_with fail;go_ret;exact⟨by rw[HR.out];rfl,HB2.out⟩
end Go.Proofs.YtgbfaompondolaaGreatDoor
