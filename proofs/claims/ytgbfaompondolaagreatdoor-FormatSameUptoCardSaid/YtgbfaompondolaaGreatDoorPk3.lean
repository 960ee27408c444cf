/- Merged texts of the walks and of the plain laws on which the statement leans.-/
import Derived.Test.YtgbfaompondolaaGreatDoorPk1
import Derived.Test.YtgbfaompondolaaGreatDoorPk2
set_option maxHeartbeats 4000000
set_option maxRecDepth 100000
namespace Go.Proofs.YtgbfaompondolaaGreatDoor
open Go.RowKit
attribute [local go_sem] zal.cell
theorem zbb {α:Type} {l:List α} {p:α→Bool} {k:Nat} {x:α} (h:(l.take k).all p=true) (hx:l[k]? =some x) (hp:p x=true):(l.take (k+1)).all p=true:=by
 obtain⟨hk,rfl⟩:=List.getElem?_eq_some_iff.1 hx
 rw[List.take_succ_eq_append_getElem hk,List.all_append,h]
 simp[hp]
theorem za3 {α:Type} {l:List α} {p:α→Bool} {k:Nat} {x:α} (hx:l[k]? =some x) (hp:p x=false):l.all p=false:=by
 rw[List.all_eq_false]
 exact⟨x,List.mem_of_getElem? hx,by simp[hp]⟩
theorem zmW (bx:Nat) (v:Value) (l:List zcl) (p:zcl→Bool) (W:World) (hv:Hid (DAt W (fun _=>True) v (.row 4 (l.map zcl.cells)))) (hl:l.length≤140737488355328) (hx0:W.cell? ⟨bx,0,none⟩=some (.func (.func 87) #[] #[])) (hc:Hid (∀x∈l,∀us w',Below W.heap.size W w'→zab w' (fun _=>True) us (zcl.cells x)→Calls Tryz.prog 87 #[.agg us.toArray] w' fun e w''=>e= .returned (.bool (p x))∧Below w'.heap.size w' w'')):
 Calls Tryz.prog 219 #[v,.func (.func 161) #[] #[.pointer (some ⟨bx,0,none⟩)]] W fun e w'=> ∃r:Int,e= .returned (.int .i64 r)∧(r<0∧l.all p=true∨0≤r∧l.all p=false)∧Below W.heap.size W w':=by
 obtain⟨A,c,rfl,hA⟩:=hv.out.slice
 have HA:=zaa hA
 clear hA hv
 rw[List.length_map]
 have hbx:=zbm hx0
 go_enter Tryz.func219,Tryz.ntmps219
 go_wp2_with fail
 go_loopw [8] (fun v8 wr=> ∃k:Nat,k≤l.length∧v8= .int .i64 k∧(l.take k).all p=true∧Below W.heap.size W wr) (fun v8 _=>l.length-(intOf v8).toNat)
 case atStart=>exact⟨0,by omega,rfl,by simp,Below.refl _ _⟩
 case round=>
  obtain⟨k,hk,rfl,ht,hbr⟩:=hrel
  have HT:=zaa ht
  have HBR:=zaa hbr
  clear ht
  by_cases hlt:k<l.length
  rotate_left
  ·obtain rfl:k=l.length:=by omega
   rw[List.take_length] at HT
   clear hbr hlt
   go_wp2_with fail
   go_ret
   exact⟨_,rfl,.inl ⟨by decide,HT.out⟩,HBR.out⟩
  obtain⟨x,hx⟩:=za9 hlt
  obtain⟨b,off,rfl,hb,hca⟩:=HA.out.at_ hx
  obtain⟨u0,c0,g0⟩:=hca 0 _ rfl
  obtain⟨u1,c1,g1⟩:=hca 1 _ rfl
  obtain⟨u2,c2,g2⟩:=hca 2 _ rfl
  obtain⟨u3,c3,g3⟩:=hca 3 _ rfl
  clear hca
  have c0:=zbH HBR.out hb c0
  have c1:=zat HBR.out hb c1
  have c2:=zat HBR.out hb c2
  have c3:=zat HBR.out hb c3
  have hbxw:=(hbr.cell hbx).trans hx0
  have lbx:bx<wr.heap.size:=Nat.lt_of_lt_of_le hbx hbr.size
  have HC:=zaa (fun w' (hbw:Below W.heap.size W w')=>hc.out x (List.mem_of_getElem? hx) [u0,u1,u2,u3] w' hbw (zab.cons (g0.later hbw) (zab.cons (g1.later hbw) (zab.cons (g2.later hbw) (zab.cons (g3.later hbw) zab.nil)))))
  have k0:=kbZ k l.length
  have HX:=zaa hx
  clear hx hbr
  cases hp:p x with
  |true=>
   have HTK:=zaa (zbb HT.out HX.out hp)
   rw[hp] at HC
   go_wp2_with(first|(go_at_call 161;go_in))
   refine(HC.out _ (HBR.out.alloc HBR.out.size _)).mono ?_
   rintro e w3 ⟨rfl,hb3⟩
   have HB3:=zaa ((HBR.out.alloc HBR.out.size (.cells #[u0,u1,u2,u3] 44)).trans (hb3.mono (HBR.out.alloc HBR.out.size _).size))
   clear hb3 HC
   go_wp2_with fail
   go_roundw
   case rel=>exact⟨k+1,by omega,by go_num,HTK.out,HB3.out⟩
   case measure=>simp[intOf];omega
  |false=>
   have HNO:=zaa (za3 HX.out hp)
   rw[hp] at HC
   go_wp2_with(first|(go_at_call 161;go_in))
   refine(HC.out _ (HBR.out.alloc HBR.out.size _)).mono ?_
   rintro e w3 ⟨rfl,hb3⟩
   have HB3:=zaa ((HBR.out.alloc HBR.out.size (.cells #[u0,u1,u2,u3] 44)).trans (hb3.mono (HBR.out.alloc HBR.out.size _).size))
   clear hb3 HC
   go_wp2_with fail
   go_ret
   exact⟨_,rfl,.inr ⟨by omega,HNO.out⟩,HB3.out⟩
theorem zl2 (v:Value) (l:List zcl) (p:zcl→Bool) (W:World) (hv:Hid (DAt W (fun _=>True) v (.row 4 (l.map zcl.cells)))) (hl:l.length≤140737488355328) (hc:Hid (∀x∈l,∀us w',Below W.heap.size W w'→zab w' (fun _=>True) us (zcl.cells x)→Calls Tryz.prog 87 #[.agg us.toArray] w' fun e w''=>e= .returned (.bool (p x))∧Below w'.heap.size w' w'')):
 Calls Tryz.prog 86 #[v,.func (.func 87) #[] #[]] W fun e w'=>e= .returned (.bool (l.all p))∧Below W.heap.size W w':=by
 have hmf: ∀(fn:Fn) (first cap:Array Value) (w:World),(Instr.makeFunc fn first cap).run Tryz.prog w= .ok (.func fn first cap) w:=fun _ _ _ _=>rfl
 have HB:=zaa ((Below.refl W.heap.size W).alloc (Nat.le_refl _) (.cells #[.func (.func 87) #[] #[]] 135))
 have HI:=zaa (zmW W.heap.size v l p (W.alloc (.cells #[.func (.func 87) #[] #[]] 135)) (zaa (hv.out.later HB.out)) hl (by rw[cell_of_row _ _ 0 _ _ _ (heap_alloc_new W _)];rfl) (zaa (fun x hx us w' hb hd=>hc.out x hx us w' (btZ HB.out hb) hd)))
 go_enter Tryz.func86,Tryz.ntmps86
 go_wp2_with(first|(go_at_call 160;go_in))
 refine HI.out.mono ?_
 rintro e w2 ⟨r,rfl,hr,hb⟩
 have HB2:=zaa (btZ HB.out hb)
 have HR:=zaa (show l.all p= !decide (0≤r) by rcases hr with⟨h1,h2⟩|⟨h1,h2⟩<;>simp[h2]<;>omega)
 clear hb hr HI
 go_wp2_with fail
 go_ret
 exact⟨by rw[HR.out];rfl,HB2.out⟩
theorem zkV (bx:Nat) (v:Value) (l:List zbd) (p:zbd→Bool) (W:World) (hv:Hid (DAt W (fun _=>True) v (.row 4 (l.map zbd.cells)))) (hl:l.length≤140737488355328) (hx0:W.cell? ⟨bx,0,none⟩=some (.func (.func 89) #[] #[])) (hc:Hid (∀x∈l,∀us w',Below W.heap.size W w'→zab w' (fun _=>True) us (zbd.cells x)→Calls Tryz.prog 89 #[.agg us.toArray] w' fun e w''=>e= .returned (.bool (p x))∧Below w'.heap.size w' w'')):
 Calls Tryz.prog 227 #[v,.func (.func 166) #[] #[.pointer (some ⟨bx,0,none⟩)]] W fun e w'=> ∃r:Int,e= .returned (.int .i64 r)∧(r<0∧l.all p=true∨0≤r∧l.all p=false)∧Below W.heap.size W w':=by
 obtain⟨A,c,rfl,hA⟩:=hv.out.slice
 have HA:=zaa hA
 clear hA hv
 rw[List.length_map]
 have hbx:=zbm hx0
 go_enter Tryz.func227,Tryz.ntmps227
 go_wp2_with fail
 go_loopw [8] (fun v8 wr=> ∃k:Nat,k≤l.length∧v8= .int .i64 k∧(l.take k).all p=true∧Below W.heap.size W wr) (fun v8 _=>l.length-(intOf v8).toNat)
 case atStart=>exact⟨0,by omega,rfl,by simp,Below.refl _ _⟩
 case round=>
  obtain⟨k,hk,rfl,ht,hbr⟩:=hrel
  have HT:=zaa ht
  have HBR:=zaa hbr
  clear ht
  by_cases hlt:k<l.length
  rotate_left
  ·obtain rfl:k=l.length:=by omega
   rw[List.take_length] at HT
   clear hbr hlt
   go_wp2_with fail
   go_ret
   exact⟨_,rfl,.inl ⟨by decide,HT.out⟩,HBR.out⟩
  obtain⟨x,hx⟩:=za9 hlt
  obtain⟨b,off,rfl,hb,hca⟩:=HA.out.at_ hx
  obtain⟨u0,c0,g0⟩:=hca 0 _ rfl
  obtain⟨u1,c1,g1⟩:=hca 1 _ rfl
  obtain⟨u2,c2,g2⟩:=hca 2 _ rfl
  obtain⟨u3,c3,g3⟩:=hca 3 _ rfl
  clear hca
  have c0:=zbH HBR.out hb c0
  have c1:=zat HBR.out hb c1
  have c2:=zat HBR.out hb c2
  have c3:=zat HBR.out hb c3
  have hbxw:=(hbr.cell hbx).trans hx0
  have lbx:bx<wr.heap.size:=Nat.lt_of_lt_of_le hbx hbr.size
  have HC:=zaa (fun w' (hbw:Below W.heap.size W w')=>hc.out x (List.mem_of_getElem? hx) [u0,u1,u2,u3] w' hbw (zab.cons (g0.later hbw) (zab.cons (g1.later hbw) (zab.cons (g2.later hbw) (zab.cons (g3.later hbw) zab.nil)))))
  have k0:=kbZ k l.length
  have HX:=zaa hx
  clear hx hbr
  cases hp:p x with
  |true=>
   have HTK:=zaa (zbb HT.out HX.out hp)
   rw[hp] at HC
   go_wp2_with(first|(go_at_call 166;go_in))
   refine(HC.out _ (HBR.out.alloc HBR.out.size _)).mono ?_
   rintro e w3 ⟨rfl,hb3⟩
   have HB3:=zaa ((HBR.out.alloc HBR.out.size (.cells #[u0,u1,u2,u3] 58)).trans (hb3.mono (HBR.out.alloc HBR.out.size _).size))
   clear hb3 HC
   go_wp2_with fail
   go_roundw
   case rel=>exact⟨k+1,by omega,by go_num,HTK.out,HB3.out⟩
   case measure=>simp[intOf];omega
  |false=>
   have HNO:=zaa (za3 HX.out hp)
   rw[hp] at HC
   go_wp2_with(first|(go_at_call 166;go_in))
   refine(HC.out _ (HBR.out.alloc HBR.out.size _)).mono ?_
   rintro e w3 ⟨rfl,hb3⟩
   have HB3:=zaa ((HBR.out.alloc HBR.out.size (.cells #[u0,u1,u2,u3] 58)).trans (hb3.mono (HBR.out.alloc HBR.out.size _).size))
   clear hb3 HC
   go_wp2_with fail
   go_ret
   exact⟨_,rfl,.inr ⟨by omega,HNO.out⟩,HB3.out⟩
theorem zkk (v:Value) (l:List zbd) (p:zbd→Bool) (W:World) (hv:Hid (DAt W (fun _=>True) v (.row 4 (l.map zbd.cells)))) (hl:l.length≤140737488355328) (hc:Hid (∀x∈l,∀us w',Below W.heap.size W w'→zab w' (fun _=>True) us (zbd.cells x)→Calls Tryz.prog 89 #[.agg us.toArray] w' fun e w''=>e= .returned (.bool (p x))∧Below w'.heap.size w' w'')):
 Calls Tryz.prog 88 #[v,.func (.func 89) #[] #[]] W fun e w'=>e= .returned (.bool (l.all p))∧Below W.heap.size W w':=by
 have hmf: ∀(fn:Fn) (first cap:Array Value) (w:World),(Instr.makeFunc fn first cap).run Tryz.prog w= .ok (.func fn first cap) w:=fun _ _ _ _=>rfl
 have HB:=zaa ((Below.refl W.heap.size W).alloc (Nat.le_refl _) (.cells #[.func (.func 89) #[] #[]] 137))
 have HI:=zaa (zkV W.heap.size v l p (W.alloc (.cells #[.func (.func 89) #[] #[]] 137)) (zaa (hv.out.later HB.out)) hl (by rw[cell_of_row _ _ 0 _ _ _ (heap_alloc_new W _)];rfl) (zaa (fun x hx us w' hb hd=>hc.out x hx us w' (btZ HB.out hb) hd)))
 go_enter Tryz.func88,Tryz.ntmps88
 go_wp2_with(first|(go_at_call 165;go_in))
 refine HI.out.mono ?_
 rintro e w2 ⟨r,rfl,hr,hb⟩
 have HB2:=zaa (btZ HB.out hb)
 have HR:=zaa (show l.all p= !decide (0≤r) by rcases hr with⟨h1,h2⟩|⟨h1,h2⟩<;>simp[h2]<;>omega)
 clear hb hr HI
 go_wp2_with fail
 go_ret
 exact⟨by rw[HR.out];rfl,HB2.out⟩
theorem znx (bx:Nat) (v:Value) (l:List SwD) (p:SwD→Bool) (W:World) (hv:Hid (DAt W (fun _=>True) v (.row 4 (l.map SwD.cells)))) (hl:l.length≤140737488355328) (hx0:W.cell? ⟨bx,0,none⟩=some (.func (.func 91) #[] #[])) (hc:Hid (∀x∈l,∀us w',Below W.heap.size W w'→zab w' (fun _=>True) us (SwD.cells x)→Calls Tryz.prog 91 #[.agg us.toArray] w' fun e w''=>e= .returned (.bool (p x))∧Below w'.heap.size w' w'')):
 Calls Tryz.prog 230 #[v,.func (.func 169) #[] #[.pointer (some ⟨bx,0,none⟩)]] W fun e w'=> ∃r:Int,e= .returned (.int .i64 r)∧(r<0∧l.all p=true∨0≤r∧l.all p=false)∧Below W.heap.size W w':=by
 obtain⟨A,c,rfl,hA⟩:=hv.out.slice
 have HA:=zaa hA
 clear hA hv
 rw[List.length_map]
 have hbx:=zbm hx0
 go_enter Tryz.func230,Tryz.ntmps230
 go_wp2_with fail
 go_loopw [8] (fun v8 wr=> ∃k:Nat,k≤l.length∧v8= .int .i64 k∧(l.take k).all p=true∧Below W.heap.size W wr) (fun v8 _=>l.length-(intOf v8).toNat)
 case atStart=>exact⟨0,by omega,rfl,by simp,Below.refl _ _⟩
 case round=>
  obtain⟨k,hk,rfl,ht,hbr⟩:=hrel
  have HT:=zaa ht
  have HBR:=zaa hbr
  clear ht
  by_cases hlt:k<l.length
  rotate_left
  ·obtain rfl:k=l.length:=by omega
   rw[List.take_length] at HT
   clear hbr hlt
   go_wp2_with fail
   go_ret
   exact⟨_,rfl,.inl ⟨by decide,HT.out⟩,HBR.out⟩
  obtain⟨x,hx⟩:=za9 hlt
  obtain⟨b,off,rfl,hb,hca⟩:=HA.out.at_ hx
  obtain⟨u0,c0,g0⟩:=hca 0 _ rfl
  obtain⟨u1,c1,g1⟩:=hca 1 _ rfl
  obtain⟨u2,c2,g2⟩:=hca 2 _ rfl
  obtain⟨u3,c3,g3⟩:=hca 3 _ rfl
  clear hca
  have c0:=zbH HBR.out hb c0
  have c1:=zat HBR.out hb c1
  have c2:=zat HBR.out hb c2
  have c3:=zat HBR.out hb c3
  have hbxw:=(hbr.cell hbx).trans hx0
  have lbx:bx<wr.heap.size:=Nat.lt_of_lt_of_le hbx hbr.size
  have HC:=zaa (fun w' (hbw:Below W.heap.size W w')=>hc.out x (List.mem_of_getElem? hx) [u0,u1,u2,u3] w' hbw (zab.cons (g0.later hbw) (zab.cons (g1.later hbw) (zab.cons (g2.later hbw) (zab.cons (g3.later hbw) zab.nil)))))
  have k0:=kbZ k l.length
  have HX:=zaa hx
  clear hx hbr
  cases hp:p x with
  |true=>
   have HTK:=zaa (zbb HT.out HX.out hp)
   rw[hp] at HC
   go_wp2_with(first|(go_at_call 169;go_in))
   refine(HC.out _ (HBR.out.alloc HBR.out.size _)).mono ?_
   rintro e w3 ⟨rfl,hb3⟩
   have HB3:=zaa ((HBR.out.alloc HBR.out.size (.cells #[u0,u1,u2,u3] 69)).trans (hb3.mono (HBR.out.alloc HBR.out.size _).size))
   clear hb3 HC
   go_wp2_with fail
   go_roundw
   case rel=>exact⟨k+1,by omega,by go_num,HTK.out,HB3.out⟩
   case measure=>simp[intOf];omega
  |false=>
   have HNO:=zaa (za3 HX.out hp)
   rw[hp] at HC
   go_wp2_with(first|(go_at_call 169;go_in))
   refine(HC.out _ (HBR.out.alloc HBR.out.size _)).mono ?_
   rintro e w3 ⟨rfl,hb3⟩
   have HB3:=zaa ((HBR.out.alloc HBR.out.size (.cells #[u0,u1,u2,u3] 69)).trans (hb3.mono (HBR.out.alloc HBR.out.size _).size))
   clear hb3 HC
   go_wp2_with fail
   go_ret
   exact⟨_,rfl,.inr ⟨by omega,HNO.out⟩,HB3.out⟩
theorem zni (v:Value) (l:List SwD) (p:SwD→Bool) (W:World) (hv:Hid (DAt W (fun _=>True) v (.row 4 (l.map SwD.cells)))) (hl:l.length≤140737488355328) (hc:Hid (∀x∈l,∀us w',Below W.heap.size W w'→zab w' (fun _=>True) us (SwD.cells x)→Calls Tryz.prog 91 #[.agg us.toArray] w' fun e w''=>e= .returned (.bool (p x))∧Below w'.heap.size w' w'')):
 Calls Tryz.prog 90 #[v,.func (.func 91) #[] #[]] W fun e w'=>e= .returned (.bool (l.all p))∧Below W.heap.size W w':=by
 have hmf: ∀(fn:Fn) (first cap:Array Value) (w:World),(Instr.makeFunc fn first cap).run Tryz.prog w= .ok (.func fn first cap) w:=fun _ _ _ _=>rfl
 have HB:=zaa ((Below.refl W.heap.size W).alloc (Nat.le_refl _) (.cells #[.func (.func 91) #[] #[]] 139))
 have HI:=zaa (znx W.heap.size v l p (W.alloc (.cells #[.func (.func 91) #[] #[]] 139)) (zaa (hv.out.later HB.out)) hl (by rw[cell_of_row _ _ 0 _ _ _ (heap_alloc_new W _)];rfl) (zaa (fun x hx us w' hb hd=>hc.out x hx us w' (btZ HB.out hb) hd)))
 go_enter Tryz.func90,Tryz.ntmps90
 go_wp2_with(first|(go_at_call 168;go_in))
 refine HI.out.mono ?_
 rintro e w2 ⟨r,rfl,hr,hb⟩
 have HB2:=zaa (btZ HB.out hb)
 have HR:=zaa (show l.all p= !decide (0≤r) by rcases hr with⟨h1,h2⟩|⟨h1,h2⟩<;>simp[h2]<;>omega)
 clear hb hr HI
 go_wp2_with fail
 go_ret
 exact⟨by rw[HR.out];rfl,HB2.out⟩
theorem zle (bx:Nat) (v:Value) (l:List zbw) (p:zbw→Bool) (W:World) (hv:Hid (DAt W (fun _=>True) v (.row 4 (l.map zbw.cells)))) (hl:l.length≤140737488355328) (hx0:W.cell? ⟨bx,0,none⟩=some (.func (.func 93) #[] #[])) (hc:Hid (∀x∈l,∀us w',Below W.heap.size W w'→zab w' (fun _=>True) us (zbw.cells x)→Calls Tryz.prog 93 #[.agg us.toArray] w' fun e w''=>e= .returned (.bool (p x))∧Below w'.heap.size w' w'')):
 Calls Tryz.prog 231 #[v,.func (.func 171) #[] #[.pointer (some ⟨bx,0,none⟩)]] W fun e w'=> ∃r:Int,e= .returned (.int .i64 r)∧(r<0∧l.all p=true∨0≤r∧l.all p=false)∧Below W.heap.size W w':=by
 obtain⟨A,c,rfl,hA⟩:=hv.out.slice
 have HA:=zaa hA
 clear hA hv
 rw[List.length_map]
 have hbx:=zbm hx0
 go_enter Tryz.func231,Tryz.ntmps231
 go_wp2_with fail
 go_loopw [8] (fun v8 wr=> ∃k:Nat,k≤l.length∧v8= .int .i64 k∧(l.take k).all p=true∧Below W.heap.size W wr) (fun v8 _=>l.length-(intOf v8).toNat)
 case atStart=>exact⟨0,by omega,rfl,by simp,Below.refl _ _⟩
 case round=>
  obtain⟨k,hk,rfl,ht,hbr⟩:=hrel
  have HT:=zaa ht
  have HBR:=zaa hbr
  clear ht
  by_cases hlt:k<l.length
  rotate_left
  ·obtain rfl:k=l.length:=by omega
   rw[List.take_length] at HT
   clear hbr hlt
   go_wp2_with fail
   go_ret
   exact⟨_,rfl,.inl ⟨by decide,HT.out⟩,HBR.out⟩
  obtain⟨x,hx⟩:=za9 hlt
  obtain⟨b,off,rfl,hb,hca⟩:=HA.out.at_ hx
  obtain⟨u0,c0,g0⟩:=hca 0 _ rfl
  obtain⟨u1,c1,g1⟩:=hca 1 _ rfl
  obtain⟨u2,c2,g2⟩:=hca 2 _ rfl
  obtain⟨u3,c3,g3⟩:=hca 3 _ rfl
  clear hca
  have c0:=zbH HBR.out hb c0
  have c1:=zat HBR.out hb c1
  have c2:=zat HBR.out hb c2
  have c3:=zat HBR.out hb c3
  have hbxw:=(hbr.cell hbx).trans hx0
  have lbx:bx<wr.heap.size:=Nat.lt_of_lt_of_le hbx hbr.size
  have HC:=zaa (fun w' (hbw:Below W.heap.size W w')=>hc.out x (List.mem_of_getElem? hx) [u0,u1,u2,u3] w' hbw (zab.cons (g0.later hbw) (zab.cons (g1.later hbw) (zab.cons (g2.later hbw) (zab.cons (g3.later hbw) zab.nil)))))
  have k0:=kbZ k l.length
  have HX:=zaa hx
  clear hx hbr
  cases hp:p x with
  |true=>
   have HTK:=zaa (zbb HT.out HX.out hp)
   rw[hp] at HC
   go_wp2_with(first|(go_at_call 171;go_in))
   refine(HC.out _ (HBR.out.alloc HBR.out.size _)).mono ?_
   rintro e w3 ⟨rfl,hb3⟩
   have HB3:=zaa ((HBR.out.alloc HBR.out.size (.cells #[u0,u1,u2,u3] 71)).trans (hb3.mono (HBR.out.alloc HBR.out.size _).size))
   clear hb3 HC
   go_wp2_with fail
   go_roundw
   case rel=>exact⟨k+1,by omega,by go_num,HTK.out,HB3.out⟩
   case measure=>simp[intOf];omega
  |false=>
   have HNO:=zaa (za3 HX.out hp)
   rw[hp] at HC
   go_wp2_with(first|(go_at_call 171;go_in))
   refine(HC.out _ (HBR.out.alloc HBR.out.size _)).mono ?_
   rintro e w3 ⟨rfl,hb3⟩
   have HB3:=zaa ((HBR.out.alloc HBR.out.size (.cells #[u0,u1,u2,u3] 71)).trans (hb3.mono (HBR.out.alloc HBR.out.size _).size))
   clear hb3 HC
   go_wp2_with fail
   go_ret
   exact⟨_,rfl,.inr ⟨by omega,HNO.out⟩,HB3.out⟩
theorem zky (v:Value) (l:List zbw) (p:zbw→Bool) (W:World) (hv:Hid (DAt W (fun _=>True) v (.row 4 (l.map zbw.cells)))) (hl:l.length≤140737488355328) (hc:Hid (∀x∈l,∀us w',Below W.heap.size W w'→zab w' (fun _=>True) us (zbw.cells x)→Calls Tryz.prog 93 #[.agg us.toArray] w' fun e w''=>e= .returned (.bool (p x))∧Below w'.heap.size w' w'')):
 Calls Tryz.prog 92 #[v,.func (.func 93) #[] #[]] W fun e w'=>e= .returned (.bool (l.all p))∧Below W.heap.size W w':=by
 have hmf: ∀(fn:Fn) (first cap:Array Value) (w:World),(Instr.makeFunc fn first cap).run Tryz.prog w= .ok (.func fn first cap) w:=fun _ _ _ _=>rfl
 have HB:=zaa ((Below.refl W.heap.size W).alloc (Nat.le_refl _) (.cells #[.func (.func 93) #[] #[]] 141))
 have HI:=zaa (zle W.heap.size v l p (W.alloc (.cells #[.func (.func 93) #[] #[]] 141)) (zaa (hv.out.later HB.out)) hl (by rw[cell_of_row _ _ 0 _ _ _ (heap_alloc_new W _)];rfl) (zaa (fun x hx us w' hb hd=>hc.out x hx us w' (btZ HB.out hb) hd)))
 go_enter Tryz.func92,Tryz.ntmps92
 go_wp2_with(first|(go_at_call 170;go_in))
 refine HI.out.mono ?_
 rintro e w2 ⟨r,rfl,hr,hb⟩
 have HB2:=zaa (btZ HB.out hb)
 have HR:=zaa (show l.all p= !decide (0≤r) by rcases hr with⟨h1,h2⟩|⟨h1,h2⟩<;>simp[h2]<;>omega)
 clear hb hr HI
 go_wp2_with fail
 go_ret
 exact⟨by rw[HR.out];rfl,HB2.out⟩
theorem znp (bx:Nat) (v:Value) (l:List VlD) (p:VlD→Bool) (W:World) (hv:Hid (DAt W (fun _=>True) v (.row 7 (l.map VlD.cells)))) (hl:l.length≤140737488355328) (hx0:W.cell? ⟨bx,0,none⟩=some (.func (.func 95) #[] #[])) (hc:Hid (∀x∈l,∀us w',Below W.heap.size W w'→zab w' (fun _=>True) us (VlD.cells x)→Calls Tryz.prog 95 #[.agg us.toArray] w' fun e w''=>e= .returned (.bool (p x))∧Below w'.heap.size w' w'')):
 Calls Tryz.prog 234 #[v,.func (.func 174) #[] #[.pointer (some ⟨bx,0,none⟩)]] W fun e w'=> ∃r:Int,e= .returned (.int .i64 r)∧(r<0∧l.all p=true∨0≤r∧l.all p=false)∧Below W.heap.size W w':=by
 obtain⟨A,c,rfl,hA⟩:=hv.out.slice
 have HA:=zaa hA
 clear hA hv
 rw[List.length_map]
 have hbx:=zbm hx0
 go_enter Tryz.func234,Tryz.ntmps234
 go_wp2_with fail
 go_loopw [8] (fun v8 wr=> ∃k:Nat,k≤l.length∧v8= .int .i64 k∧(l.take k).all p=true∧Below W.heap.size W wr) (fun v8 _=>l.length-(intOf v8).toNat)
 case atStart=>exact⟨0,by omega,rfl,by simp,Below.refl _ _⟩
 case round=>
  obtain⟨k,hk,rfl,ht,hbr⟩:=hrel
  have HT:=zaa ht
  have HBR:=zaa hbr
  clear ht
  by_cases hlt:k<l.length
  rotate_left
  ·obtain rfl:k=l.length:=by omega
   rw[List.take_length] at HT
   clear hbr hlt
   go_wp2_with fail
   go_ret
   exact⟨_,rfl,.inl ⟨by decide,HT.out⟩,HBR.out⟩
  obtain⟨x,hx⟩:=za9 hlt
  obtain⟨b,off,rfl,hb,hca⟩:=HA.out.at_ hx
  obtain⟨u0,c0,g0⟩:=hca 0 _ rfl
  obtain⟨u1,c1,g1⟩:=hca 1 _ rfl
  obtain⟨u2,c2,g2⟩:=hca 2 _ rfl
  obtain⟨u3,c3,g3⟩:=hca 3 _ rfl
  obtain⟨u4,c4,g4⟩:=hca 4 _ rfl
  obtain⟨u5,c5,g5⟩:=hca 5 _ rfl
  obtain⟨u6,c6,g6⟩:=hca 6 _ rfl
  clear hca
  have c0:=zbH HBR.out hb c0
  have c1:=zat HBR.out hb c1
  have c2:=zat HBR.out hb c2
  have c3:=zat HBR.out hb c3
  have c4:=zat HBR.out hb c4
  have c5:=zat HBR.out hb c5
  have c6:=zat HBR.out hb c6
  have hbxw:=(hbr.cell hbx).trans hx0
  have lbx:bx<wr.heap.size:=Nat.lt_of_lt_of_le hbx hbr.size
  have HC:=zaa (fun w' (hbw:Below W.heap.size W w')=>hc.out x (List.mem_of_getElem? hx) [u0,u1,u2,u3,u4,u5,u6] w' hbw (zab.cons (g0.later hbw) (zab.cons (g1.later hbw) (zab.cons (g2.later hbw) (zab.cons (g3.later hbw) (zab.cons (g4.later hbw) (zab.cons (g5.later hbw) (zab.cons (g6.later hbw) zab.nil))))))))
  have k0:=kbZ k l.length
  have HX:=zaa hx
  clear hx hbr
  cases hp:p x with
  |true=>
   have HTK:=zaa (zbb HT.out HX.out hp)
   rw[hp] at HC
   go_wp2_with(first|(go_at_call 174;go_in))
   refine(HC.out _ (HBR.out.alloc HBR.out.size _)).mono ?_
   rintro e w3 ⟨rfl,hb3⟩
   have HB3:=zaa ((HBR.out.alloc HBR.out.size (.cells #[u0,u1,u2,u3,u4,u5,u6] 61)).trans (hb3.mono (HBR.out.alloc HBR.out.size _).size))
   clear hb3 HC
   go_wp2_with fail
   go_roundw
   case rel=>exact⟨k+1,by omega,by go_num,HTK.out,HB3.out⟩
   case measure=>simp[intOf];omega
  |false=>
   have HNO:=zaa (za3 HX.out hp)
   rw[hp] at HC
   go_wp2_with(first|(go_at_call 174;go_in))
   refine(HC.out _ (HBR.out.alloc HBR.out.size _)).mono ?_
   rintro e w3 ⟨rfl,hb3⟩
   have HB3:=zaa ((HBR.out.alloc HBR.out.size (.cells #[u0,u1,u2,u3,u4,u5,u6] 61)).trans (hb3.mono (HBR.out.alloc HBR.out.size _).size))
   clear hb3 HC
   go_wp2_with fail
   go_ret
   exact⟨_,rfl,.inr ⟨by omega,HNO.out⟩,HB3.out⟩
theorem znT (v:Value) (l:List VlD) (p:VlD→Bool) (W:World) (hv:Hid (DAt W (fun _=>True) v (.row 7 (l.map VlD.cells)))) (hl:l.length≤140737488355328) (hc:Hid (∀x∈l,∀us w',Below W.heap.size W w'→zab w' (fun _=>True) us (VlD.cells x)→Calls Tryz.prog 95 #[.agg us.toArray] w' fun e w''=>e= .returned (.bool (p x))∧Below w'.heap.size w' w'')):
 Calls Tryz.prog 94 #[v,.func (.func 95) #[] #[]] W fun e w'=>e= .returned (.bool (l.all p))∧Below W.heap.size W w':=by
 have hmf: ∀(fn:Fn) (first cap:Array Value) (w:World),(Instr.makeFunc fn first cap).run Tryz.prog w= .ok (.func fn first cap) w:=fun _ _ _ _=>rfl
 have HB:=zaa ((Below.refl W.heap.size W).alloc (Nat.le_refl _) (.cells #[.func (.func 95) #[] #[]] 143))
 have HI:=zaa (znp W.heap.size v l p (W.alloc (.cells #[.func (.func 95) #[] #[]] 143)) (zaa (hv.out.later HB.out)) hl (by rw[cell_of_row _ _ 0 _ _ _ (heap_alloc_new W _)];rfl) (zaa (fun x hx us w' hb hd=>hc.out x hx us w' (btZ HB.out hb) hd)))
 go_enter Tryz.func94,Tryz.ntmps94
 go_wp2_with(first|(go_at_call 173;go_in))
 refine HI.out.mono ?_
 rintro e w2 ⟨r,rfl,hr,hb⟩
 have HB2:=zaa (btZ HB.out hb)
 have HR:=zaa (show l.all p= !decide (0≤r) by rcases hr with⟨h1,h2⟩|⟨h1,h2⟩<;>simp[h2]<;>omega)
 clear hb hr HI
 go_wp2_with fail
 go_ret
 exact⟨by rw[HR.out];rfl,HB2.out⟩
theorem zh8 (bx:Nat) (v:Value) (l:List zaH) (p:zaH→Bool) (W:World) (hv:Hid (DAt W (fun _=>True) v (.row 5 (l.map zaH.cells)))) (hl:l.length≤140737488355328) (hx0:W.cell? ⟨bx,0,none⟩=some (.func (.func 97) #[] #[])) (hc:Hid (∀x∈l,∀us w',Below W.heap.size W w'→zab w' (fun _=>True) us (zaH.cells x)→Calls Tryz.prog 97 #[.agg us.toArray] w' fun e w''=>e= .returned (.bool (p x))∧Below w'.heap.size w' w'')):
 Calls Tryz.prog 235 #[v,.func (.func 176) #[] #[.pointer (some ⟨bx,0,none⟩)]] W fun e w'=> ∃r:Int,e= .returned (.int .i64 r)∧(r<0∧l.all p=true∨0≤r∧l.all p=false)∧Below W.heap.size W w':=by
 obtain⟨A,c,rfl,hA⟩:=hv.out.slice
 have HA:=zaa hA
 clear hA hv
 rw[List.length_map]
 have hbx:=zbm hx0
 go_enter Tryz.func235,Tryz.ntmps235
 go_wp2_with fail
 go_loopw [8] (fun v8 wr=> ∃k:Nat,k≤l.length∧v8= .int .i64 k∧(l.take k).all p=true∧Below W.heap.size W wr) (fun v8 _=>l.length-(intOf v8).toNat)
 case atStart=>exact⟨0,by omega,rfl,by simp,Below.refl _ _⟩
 case round=>
  obtain⟨k,hk,rfl,ht,hbr⟩:=hrel
  have HT:=zaa ht
  have HBR:=zaa hbr
  clear ht
  by_cases hlt:k<l.length
  rotate_left
  ·obtain rfl:k=l.length:=by omega
   rw[List.take_length] at HT
   clear hbr hlt
   go_wp2_with fail
   go_ret
   exact⟨_,rfl,.inl ⟨by decide,HT.out⟩,HBR.out⟩
  obtain⟨x,hx⟩:=za9 hlt
  obtain⟨b,off,rfl,hb,hca⟩:=HA.out.at_ hx
  obtain⟨u0,c0,g0⟩:=hca 0 _ rfl
  obtain⟨u1,c1,g1⟩:=hca 1 _ rfl
  obtain⟨u2,c2,g2⟩:=hca 2 _ rfl
  obtain⟨u3,c3,g3⟩:=hca 3 _ rfl
  obtain⟨u4,c4,g4⟩:=hca 4 _ rfl
  clear hca
  have c0:=zbH HBR.out hb c0
  have c1:=zat HBR.out hb c1
  have c2:=zat HBR.out hb c2
  have c3:=zat HBR.out hb c3
  have c4:=zat HBR.out hb c4
  have hbxw:=(hbr.cell hbx).trans hx0
  have lbx:bx<wr.heap.size:=Nat.lt_of_lt_of_le hbx hbr.size
  have HC:=zaa (fun w' (hbw:Below W.heap.size W w')=>hc.out x (List.mem_of_getElem? hx) [u0,u1,u2,u3,u4] w' hbw (zab.cons (g0.later hbw) (zab.cons (g1.later hbw) (zab.cons (g2.later hbw) (zab.cons (g3.later hbw) (zab.cons (g4.later hbw) zab.nil))))))
  have k0:=kbZ k l.length
  have HX:=zaa hx
  clear hx hbr
  cases hp:p x with
  |true=>
   have HTK:=zaa (zbb HT.out HX.out hp)
   rw[hp] at HC
   go_wp2_with(first|(go_at_call 176;go_in))
   refine(HC.out _ (HBR.out.alloc HBR.out.size _)).mono ?_
   rintro e w3 ⟨rfl,hb3⟩
   have HB3:=zaa ((HBR.out.alloc HBR.out.size (.cells #[u0,u1,u2,u3,u4] 73)).trans (hb3.mono (HBR.out.alloc HBR.out.size _).size))
   clear hb3 HC
   go_wp2_with fail
   go_roundw
   case rel=>exact⟨k+1,by omega,by go_num,HTK.out,HB3.out⟩
   case measure=>simp[intOf];omega
  |false=>
   have HNO:=zaa (za3 HX.out hp)
   rw[hp] at HC
   go_wp2_with(first|(go_at_call 176;go_in))
   refine(HC.out _ (HBR.out.alloc HBR.out.size _)).mono ?_
   rintro e w3 ⟨rfl,hb3⟩
   have HB3:=zaa ((HBR.out.alloc HBR.out.size (.cells #[u0,u1,u2,u3,u4] 73)).trans (hb3.mono (HBR.out.alloc HBR.out.size _).size))
   clear hb3 HC
   go_wp2_with fail
   go_ret
   exact⟨_,rfl,.inr ⟨by omega,HNO.out⟩,HB3.out⟩
theorem zhM (v:Value) (l:List zaH) (p:zaH→Bool) (W:World) (hv:Hid (DAt W (fun _=>True) v (.row 5 (l.map zaH.cells)))) (hl:l.length≤140737488355328) (hc:Hid (∀x∈l,∀us w',Below W.heap.size W w'→zab w' (fun _=>True) us (zaH.cells x)→Calls Tryz.prog 97 #[.agg us.toArray] w' fun e w''=>e= .returned (.bool (p x))∧Below w'.heap.size w' w'')):
 Calls Tryz.prog 96 #[v,.func (.func 97) #[] #[]] W fun e w'=>e= .returned (.bool (l.all p))∧Below W.heap.size W w':=by
 have hmf: ∀(fn:Fn) (first cap:Array Value) (w:World),(Instr.makeFunc fn first cap).run Tryz.prog w= .ok (.func fn first cap) w:=fun _ _ _ _=>rfl
 have HB:=zaa ((Below.refl W.heap.size W).alloc (Nat.le_refl _) (.cells #[.func (.func 97) #[] #[]] 145))
 have HI:=zaa (zh8 W.heap.size v l p (W.alloc (.cells #[.func (.func 97) #[] #[]] 145)) (zaa (hv.out.later HB.out)) hl (by rw[cell_of_row _ _ 0 _ _ _ (heap_alloc_new W _)];rfl) (zaa (fun x hx us w' hb hd=>hc.out x hx us w' (btZ HB.out hb) hd)))
 go_enter Tryz.func96,Tryz.ntmps96
 go_wp2_with(first|(go_at_call 175;go_in))
 refine HI.out.mono ?_
 rintro e w2 ⟨r,rfl,hr,hb⟩
 have HB2:=zaa (btZ HB.out hb)
 have HR:=zaa (show l.all p= !decide (0≤r) by rcases hr with⟨h1,h2⟩|⟨h1,h2⟩<;>simp[h2]<;>omega)
 clear hb hr HI
 go_wp2_with fail
 go_ret
 exact⟨by rw[HR.out];rfl,HB2.out⟩
theorem ziO (bx:Nat) (v:Value) (l:List zaN) (p:zaN→Bool) (W:World) (hv:Hid (DAt W (fun _=>True) v (.row 3 (l.map zaN.cells)))) (hl:l.length≤140737488355328) (hx0:W.cell? ⟨bx,0,none⟩=some (.func (.func 99) #[] #[])) (hc:Hid (∀x∈l,∀us w',Below W.heap.size W w'→zab w' (fun _=>True) us (zaN.cells x)→Calls Tryz.prog 99 #[.agg us.toArray] w' fun e w''=>e= .returned (.bool (p x))∧Below w'.heap.size w' w'')):
 Calls Tryz.prog 236 #[v,.func (.func 179) #[] #[.pointer (some ⟨bx,0,none⟩)]] W fun e w'=> ∃r:Int,e= .returned (.int .i64 r)∧(r<0∧l.all p=true∨0≤r∧l.all p=false)∧Below W.heap.size W w':=by
 obtain⟨A,c,rfl,hA⟩:=hv.out.slice
 have HA:=zaa hA
 clear hA hv
 rw[List.length_map]
 have hbx:=zbm hx0
 go_enter Tryz.func236,Tryz.ntmps236
 go_wp2_with fail
 go_loopw [8] (fun v8 wr=> ∃k:Nat,k≤l.length∧v8= .int .i64 k∧(l.take k).all p=true∧Below W.heap.size W wr) (fun v8 _=>l.length-(intOf v8).toNat)
 case atStart=>exact⟨0,by omega,rfl,by simp,Below.refl _ _⟩
 case round=>
  obtain⟨k,hk,rfl,ht,hbr⟩:=hrel
  have HT:=zaa ht
  have HBR:=zaa hbr
  clear ht
  by_cases hlt:k<l.length
  rotate_left
  ·obtain rfl:k=l.length:=by omega
   rw[List.take_length] at HT
   clear hbr hlt
   go_wp2_with fail
   go_ret
   exact⟨_,rfl,.inl ⟨by decide,HT.out⟩,HBR.out⟩
  obtain⟨x,hx⟩:=za9 hlt
  obtain⟨b,off,rfl,hb,hca⟩:=HA.out.at_ hx
  obtain⟨u0,c0,g0⟩:=hca 0 _ rfl
  obtain⟨u1,c1,g1⟩:=hca 1 _ rfl
  obtain⟨u2,c2,g2⟩:=hca 2 _ rfl
  clear hca
  have c0:=zbH HBR.out hb c0
  have c1:=zat HBR.out hb c1
  have c2:=zat HBR.out hb c2
  have hbxw:=(hbr.cell hbx).trans hx0
  have lbx:bx<wr.heap.size:=Nat.lt_of_lt_of_le hbx hbr.size
  have HC:=zaa (fun w' (hbw:Below W.heap.size W w')=>hc.out x (List.mem_of_getElem? hx) [u0,u1,u2] w' hbw (zab.cons (g0.later hbw) (zab.cons (g1.later hbw) (zab.cons (g2.later hbw) zab.nil))))
  have k0:=kbZ k l.length
  have HX:=zaa hx
  clear hx hbr
  cases hp:p x with
  |true=>
   have HTK:=zaa (zbb HT.out HX.out hp)
   rw[hp] at HC
   go_wp2_with(first|(go_at_call 179;go_in))
   refine(HC.out _ (HBR.out.alloc HBR.out.size _)).mono ?_
   rintro e w3 ⟨rfl,hb3⟩
   have HB3:=zaa ((HBR.out.alloc HBR.out.size (.cells #[u0,u1,u2] 65)).trans (hb3.mono (HBR.out.alloc HBR.out.size _).size))
   clear hb3 HC
   go_wp2_with fail
   go_roundw
   case rel=>exact⟨k+1,by omega,by go_num,HTK.out,HB3.out⟩
   case measure=>simp[intOf];omega
  |false=>
   have HNO:=zaa (za3 HX.out hp)
   rw[hp] at HC
   go_wp2_with(first|(go_at_call 179;go_in))
   refine(HC.out _ (HBR.out.alloc HBR.out.size _)).mono ?_
   rintro e w3 ⟨rfl,hb3⟩
   have HB3:=zaa ((HBR.out.alloc HBR.out.size (.cells #[u0,u1,u2] 65)).trans (hb3.mono (HBR.out.alloc HBR.out.size _).size))
   clear hb3 HC
   go_wp2_with fail
   go_ret
   exact⟨_,rfl,.inr ⟨by omega,HNO.out⟩,HB3.out⟩
theorem zjF (v:Value) (l:List zaN) (p:zaN→Bool) (W:World) (hv:Hid (DAt W (fun _=>True) v (.row 3 (l.map zaN.cells)))) (hl:l.length≤140737488355328) (hc:Hid (∀x∈l,∀us w',Below W.heap.size W w'→zab w' (fun _=>True) us (zaN.cells x)→Calls Tryz.prog 99 #[.agg us.toArray] w' fun e w''=>e= .returned (.bool (p x))∧Below w'.heap.size w' w'')):
 Calls Tryz.prog 98 #[v,.func (.func 99) #[] #[]] W fun e w'=>e= .returned (.bool (l.all p))∧Below W.heap.size W w':=by
 have hmf: ∀(fn:Fn) (first cap:Array Value) (w:World),(Instr.makeFunc fn first cap).run Tryz.prog w= .ok (.func fn first cap) w:=fun _ _ _ _=>rfl
 have HB:=zaa ((Below.refl W.heap.size W).alloc (Nat.le_refl _) (.cells #[.func (.func 99) #[] #[]] 147))
 have HI:=zaa (ziO W.heap.size v l p (W.alloc (.cells #[.func (.func 99) #[] #[]] 147)) (zaa (hv.out.later HB.out)) hl (by rw[cell_of_row _ _ 0 _ _ _ (heap_alloc_new W _)];rfl) (zaa (fun x hx us w' hb hd=>hc.out x hx us w' (btZ HB.out hb) hd)))
 go_enter Tryz.func98,Tryz.ntmps98
 go_wp2_with(first|(go_at_call 178;go_in))
 refine HI.out.mono ?_
 rintro e w2 ⟨r,rfl,hr,hb⟩
 have HB2:=zaa (btZ HB.out hb)
 have HR:=zaa (show l.all p= !decide (0≤r) by rcases hr with⟨h1,h2⟩|⟨h1,h2⟩<;>simp[h2]<;>omega)
 clear hb hr HI
 go_wp2_with fail
 go_ret
 exact⟨by rw[HR.out];rfl,HB2.out⟩
theorem zma (bx:Nat) (v:Value) (l:List zc7) (p:zc7→Bool) (W:World) (hv:Hid (DAt W (fun _=>True) v (.row 4 (l.map zc7.cells)))) (hl:l.length≤140737488355328) (hx0:W.cell? ⟨bx,0,none⟩=some (.func (.func 101) #[] #[])) (hc:Hid (∀x∈l,∀us w',Below W.heap.size W w'→zab w' (fun _=>True) us (zc7.cells x)→Calls Tryz.prog 101 #[.agg us.toArray] w' fun e w''=>e= .returned (.bool (p x))∧Below w'.heap.size w' w'')):
 Calls Tryz.prog 239 #[v,.func (.func 183) #[] #[.pointer (some ⟨bx,0,none⟩)]] W fun e w'=> ∃r:Int,e= .returned (.int .i64 r)∧(r<0∧l.all p=true∨0≤r∧l.all p=false)∧Below W.heap.size W w':=by
 obtain⟨A,c,rfl,hA⟩:=hv.out.slice
 have HA:=zaa hA
 clear hA hv
 rw[List.length_map]
 have hbx:=zbm hx0
 go_enter Tryz.func239,Tryz.ntmps239
 go_wp2_with fail
 go_loopw [8] (fun v8 wr=> ∃k:Nat,k≤l.length∧v8= .int .i64 k∧(l.take k).all p=true∧Below W.heap.size W wr) (fun v8 _=>l.length-(intOf v8).toNat)
 case atStart=>exact⟨0,by omega,rfl,by simp,Below.refl _ _⟩
 case round=>
  obtain⟨k,hk,rfl,ht,hbr⟩:=hrel
  have HT:=zaa ht
  have HBR:=zaa hbr
  clear ht
  by_cases hlt:k<l.length
  rotate_left
  ·obtain rfl:k=l.length:=by omega
   rw[List.take_length] at HT
   clear hbr hlt
   go_wp2_with fail
   go_ret
   exact⟨_,rfl,.inl ⟨by decide,HT.out⟩,HBR.out⟩
  obtain⟨x,hx⟩:=za9 hlt
  obtain⟨b,off,rfl,hb,hca⟩:=HA.out.at_ hx
  obtain⟨u0,c0,g0⟩:=hca 0 _ rfl
  obtain⟨u1,c1,g1⟩:=hca 1 _ rfl
  obtain⟨u2,c2,g2⟩:=hca 2 _ rfl
  obtain⟨u3,c3,g3⟩:=hca 3 _ rfl
  clear hca
  have c0:=zbH HBR.out hb c0
  have c1:=zat HBR.out hb c1
  have c2:=zat HBR.out hb c2
  have c3:=zat HBR.out hb c3
  have hbxw:=(hbr.cell hbx).trans hx0
  have lbx:bx<wr.heap.size:=Nat.lt_of_lt_of_le hbx hbr.size
  have HC:=zaa (fun w' (hbw:Below W.heap.size W w')=>hc.out x (List.mem_of_getElem? hx) [u0,u1,u2,u3] w' hbw (zab.cons (g0.later hbw) (zab.cons (g1.later hbw) (zab.cons (g2.later hbw) (zab.cons (g3.later hbw) zab.nil)))))
  have k0:=kbZ k l.length
  have HX:=zaa hx
  clear hx hbr
  cases hp:p x with
  |true=>
   have HTK:=zaa (zbb HT.out HX.out hp)
   rw[hp] at HC
   go_wp2_with(first|(go_at_call 183;go_in))
   refine(HC.out _ (HBR.out.alloc HBR.out.size _)).mono ?_
   rintro e w3 ⟨rfl,hb3⟩
   have HB3:=zaa ((HBR.out.alloc HBR.out.size (.cells #[u0,u1,u2,u3] 75)).trans (hb3.mono (HBR.out.alloc HBR.out.size _).size))
   clear hb3 HC
   go_wp2_with fail
   go_roundw
   case rel=>exact⟨k+1,by omega,by go_num,HTK.out,HB3.out⟩
   case measure=>simp[intOf];omega
  |false=>
   have HNO:=zaa (za3 HX.out hp)
   rw[hp] at HC
   go_wp2_with(first|(go_at_call 183;go_in))
   refine(HC.out _ (HBR.out.alloc HBR.out.size _)).mono ?_
   rintro e w3 ⟨rfl,hb3⟩
   have HB3:=zaa ((HBR.out.alloc HBR.out.size (.cells #[u0,u1,u2,u3] 75)).trans (hb3.mono (HBR.out.alloc HBR.out.size _).size))
   clear hb3 HC
   go_wp2_with fail
   go_ret
   exact⟨_,rfl,.inr ⟨by omega,HNO.out⟩,HB3.out⟩
theorem zmw (v:Value) (l:List zc7) (p:zc7→Bool) (W:World) (hv:Hid (DAt W (fun _=>True) v (.row 4 (l.map zc7.cells)))) (hl:l.length≤140737488355328) (hc:Hid (∀x∈l,∀us w',Below W.heap.size W w'→zab w' (fun _=>True) us (zc7.cells x)→Calls Tryz.prog 101 #[.agg us.toArray] w' fun e w''=>e= .returned (.bool (p x))∧Below w'.heap.size w' w'')):
 Calls Tryz.prog 100 #[v,.func (.func 101) #[] #[]] W fun e w'=>e= .returned (.bool (l.all p))∧Below W.heap.size W w':=by
 have hmf: ∀(fn:Fn) (first cap:Array Value) (w:World),(Instr.makeFunc fn first cap).run Tryz.prog w= .ok (.func fn first cap) w:=fun _ _ _ _=>rfl
 have HB:=zaa ((Below.refl W.heap.size W).alloc (Nat.le_refl _) (.cells #[.func (.func 101) #[] #[]] 149))
 have HI:=zaa (zma W.heap.size v l p (W.alloc (.cells #[.func (.func 101) #[] #[]] 149)) (zaa (hv.out.later HB.out)) hl (by rw[cell_of_row _ _ 0 _ _ _ (heap_alloc_new W _)];rfl) (zaa (fun x hx us w' hb hd=>hc.out x hx us w' (btZ HB.out hb) hd)))
 go_enter Tryz.func100,Tryz.ntmps100
 go_wp2_with(first|(go_at_call 182;go_in))
 refine HI.out.mono ?_
 rintro e w2 ⟨r,rfl,hr,hb⟩
 have HB2:=zaa (btZ HB.out hb)
 have HR:=zaa (show l.all p= !decide (0≤r) by rcases hr with⟨h1,h2⟩|⟨h1,h2⟩<;>simp[h2]<;>omega)
 clear hb hr HI
 go_wp2_with fail
 go_ret
 exact⟨by rw[HR.out];rfl,HB2.out⟩
theorem zjT (bx:Nat) (v:Value) (l:List zaM) (p:zaM→Bool) (W:World) (hv:Hid (DAt W (fun _=>True) v (.row 10 (l.map zaM.cells)))) (hl:l.length≤140737488355328) (hx0:W.cell? ⟨bx,0,none⟩=some (.func (.func 164) #[] #[])) (hc:Hid (∀x∈l,∀us w',Below W.heap.size W w'→zab w' (fun _=>True) us (zaM.cells x)→Calls Tryz.prog 164 #[.agg us.toArray] w' fun e w''=>e= .returned (.bool (p x))∧Below w'.heap.size w' w'')):
 Calls Tryz.prog 264 #[v,.func (.func 222) #[] #[.pointer (some ⟨bx,0,none⟩)]] W fun e w'=> ∃r:Int,e= .returned (.int .i64 r)∧(r<0∧l.all p=true∨0≤r∧l.all p=false)∧Below W.heap.size W w':=by
 obtain⟨A,c,rfl,hA⟩:=hv.out.slice
 have HA:=zaa hA
 clear hA hv
 rw[List.length_map]
 have hbx:=zbm hx0
 go_enter Tryz.func264,Tryz.ntmps264
 go_wp2_with fail
 go_loopw [8] (fun v8 wr=> ∃k:Nat,k≤l.length∧v8= .int .i64 k∧(l.take k).all p=true∧Below W.heap.size W wr) (fun v8 _=>l.length-(intOf v8).toNat)
 case atStart=>exact⟨0,by omega,rfl,by simp,Below.refl _ _⟩
 case round=>
  obtain⟨k,hk,rfl,ht,hbr⟩:=hrel
  have HT:=zaa ht
  have HBR:=zaa hbr
  clear ht
  by_cases hlt:k<l.length
  rotate_left
  ·obtain rfl:k=l.length:=by omega
   rw[List.take_length] at HT
   clear hbr hlt
   go_wp2_with fail
   go_ret
   exact⟨_,rfl,.inl ⟨by decide,HT.out⟩,HBR.out⟩
  obtain⟨x,hx⟩:=za9 hlt
  obtain⟨b,off,rfl,hb,hca⟩:=HA.out.at_ hx
  obtain⟨u0,c0,g0⟩:=hca 0 _ rfl
  obtain⟨u1,c1,g1⟩:=hca 1 _ rfl
  obtain⟨u2,c2,g2⟩:=hca 2 _ rfl
  obtain⟨u3,c3,g3⟩:=hca 3 _ rfl
  obtain⟨u4,c4,g4⟩:=hca 4 _ rfl
  obtain⟨u5,c5,g5⟩:=hca 5 _ rfl
  obtain⟨u6,c6,g6⟩:=hca 6 _ rfl
  obtain⟨u7,c7,g7⟩:=hca 7 _ rfl
  obtain⟨u8,c8,g8⟩:=hca 8 _ rfl
  obtain⟨u9,c9,g9⟩:=hca 9 _ rfl
  clear hca
  have c0:=zbH HBR.out hb c0
  have c1:=zat HBR.out hb c1
  have c2:=zat HBR.out hb c2
  have c3:=zat HBR.out hb c3
  have c4:=zat HBR.out hb c4
  have c5:=zat HBR.out hb c5
  have c6:=zat HBR.out hb c6
  have c7:=zat HBR.out hb c7
  have c8:=zat HBR.out hb c8
  have c9:=zat HBR.out hb c9
  have hbxw:=(hbr.cell hbx).trans hx0
  have lbx:bx<wr.heap.size:=Nat.lt_of_lt_of_le hbx hbr.size
  have HC:=zaa (fun w' (hbw:Below W.heap.size W w')=>hc.out x (List.mem_of_getElem? hx) [u0,u1,u2,u3,u4,u5,u6,u7,u8,u9] w' hbw (zab.cons (g0.later hbw) (zab.cons (g1.later hbw) (zab.cons (g2.later hbw) (zab.cons (g3.later hbw) (zab.cons (g4.later hbw) (zab.cons (g5.later hbw) (zab.cons (g6.later hbw) (zab.cons (g7.later hbw) (zab.cons (g8.later hbw) (zab.cons (g9.later hbw) zab.nil)))))))))))
  have k0:=kbZ k l.length
  have HX:=zaa hx
  clear hx hbr
  cases hp:p x with
  |true=>
   have HTK:=zaa (zbb HT.out HX.out hp)
   rw[hp] at HC
   go_wp2_with(first|(go_at_call 222;go_in))
   refine(HC.out _ (HBR.out.alloc HBR.out.size _)).mono ?_
   rintro e w3 ⟨rfl,hb3⟩
   have HB3:=zaa ((HBR.out.alloc HBR.out.size (.cells #[u0,u1,u2,u3,u4,u5,u6,u7,u8,u9] 49)).trans (hb3.mono (HBR.out.alloc HBR.out.size _).size))
   clear hb3 HC
   go_wp2_with fail
   go_roundw
   case rel=>exact⟨k+1,by omega,by go_num,HTK.out,HB3.out⟩
   case measure=>simp[intOf];omega
  |false=>
   have HNO:=zaa (za3 HX.out hp)
   rw[hp] at HC
   go_wp2_with(first|(go_at_call 222;go_in))
   refine(HC.out _ (HBR.out.alloc HBR.out.size _)).mono ?_
   rintro e w3 ⟨rfl,hb3⟩
   have HB3:=zaa ((HBR.out.alloc HBR.out.size (.cells #[u0,u1,u2,u3,u4,u5,u6,u7,u8,u9] 49)).trans (hb3.mono (HBR.out.alloc HBR.out.size _).size))
   clear hb3 HC
   go_wp2_with fail
   go_ret
   exact⟨_,rfl,.inr ⟨by omega,HNO.out⟩,HB3.out⟩
theorem zkF (v:Value) (l:List zaM) (p:zaM→Bool) (W:World) (hv:Hid (DAt W (fun _=>True) v (.row 10 (l.map zaM.cells)))) (hl:l.length≤140737488355328) (hc:Hid (∀x∈l,∀us w',Below W.heap.size W w'→zab w' (fun _=>True) us (zaM.cells x)→Calls Tryz.prog 164 #[.agg us.toArray] w' fun e w''=>e= .returned (.bool (p x))∧Below w'.heap.size w' w'')):
 Calls Tryz.prog 163 #[v,.func (.func 164) #[] #[]] W fun e w'=>e= .returned (.bool (l.all p))∧Below W.heap.size W w':=by
 have hmf: ∀(fn:Fn) (first cap:Array Value) (w:World),(Instr.makeFunc fn first cap).run Tryz.prog w= .ok (.func fn first cap) w:=fun _ _ _ _=>rfl
 have HB:=zaa ((Below.refl W.heap.size W).alloc (Nat.le_refl _) (.cells #[.func (.func 164) #[] #[]] 152))
 have HI:=zaa (zjT W.heap.size v l p (W.alloc (.cells #[.func (.func 164) #[] #[]] 152)) (zaa (hv.out.later HB.out)) hl (by rw[cell_of_row _ _ 0 _ _ _ (heap_alloc_new W _)];rfl) (zaa (fun x hx us w' hb hd=>hc.out x hx us w' (btZ HB.out hb) hd)))
 go_enter Tryz.func163,Tryz.ntmps163
 go_wp2_with(first|(go_at_call 221;go_in))
 refine HI.out.mono ?_
 rintro e w2 ⟨r,rfl,hr,hb⟩
 have HB2:=zaa (btZ HB.out hb)
 have HR:=zaa (show l.all p= !decide (0≤r) by rcases hr with⟨h1,h2⟩|⟨h1,h2⟩<;>simp[h2]<;>omega)
 clear hb hr HI
 go_wp2_with fail
 go_ret
 exact⟨by rw[HR.out];rfl,HB2.out⟩
theorem zkB (bx:Nat) (v:Value) (l:List zaT) (p:zaT→Bool) (W:World) (hv:Hid (DAt W (fun _=>True) v (.row 6 (l.map zaT.cells)))) (hl:l.length≤140737488355328) (hx0:W.cell? ⟨bx,0,none⟩=some (.func (.func 224) #[] #[])) (hc:Hid (∀x∈l,∀us w',Below W.heap.size W w'→zab w' (fun _=>True) us (zaT.cells x)→Calls Tryz.prog 224 #[.agg us.toArray] w' fun e w''=>e= .returned (.bool (p x))∧Below w'.heap.size w' w'')):
 Calls Tryz.prog 300 #[v,.func (.func 266) #[] #[.pointer (some ⟨bx,0,none⟩)]] W fun e w'=> ∃r:Int,e= .returned (.int .i64 r)∧(r<0∧l.all p=true∨0≤r∧l.all p=false)∧Below W.heap.size W w':=by
 obtain⟨A,c,rfl,hA⟩:=hv.out.slice
 have HA:=zaa hA
 clear hA hv
 rw[List.length_map]
 have hbx:=zbm hx0
 go_enter Tryz.func300,Tryz.ntmps300
 go_wp2_with fail
 go_loopw [8] (fun v8 wr=> ∃k:Nat,k≤l.length∧v8= .int .i64 k∧(l.take k).all p=true∧Below W.heap.size W wr) (fun v8 _=>l.length-(intOf v8).toNat)
 case atStart=>exact⟨0,by omega,rfl,by simp,Below.refl _ _⟩
 case round=>
  obtain⟨k,hk,rfl,ht,hbr⟩:=hrel
  have HT:=zaa ht
  have HBR:=zaa hbr
  clear ht
  by_cases hlt:k<l.length
  rotate_left
  ·obtain rfl:k=l.length:=by omega
   rw[List.take_length] at HT
   clear hbr hlt
   go_wp2_with fail
   go_ret
   exact⟨_,rfl,.inl ⟨by decide,HT.out⟩,HBR.out⟩
  obtain⟨x,hx⟩:=za9 hlt
  obtain⟨b,off,rfl,hb,hca⟩:=HA.out.at_ hx
  obtain⟨u0,c0,g0⟩:=hca 0 _ rfl
  obtain⟨u1,c1,g1⟩:=hca 1 _ rfl
  obtain⟨u2,c2,g2⟩:=hca 2 _ rfl
  obtain⟨u3,c3,g3⟩:=hca 3 _ rfl
  obtain⟨u4,c4,g4⟩:=hca 4 _ rfl
  obtain⟨u5,c5,g5⟩:=hca 5 _ rfl
  clear hca
  have c0:=zbH HBR.out hb c0
  have c1:=zat HBR.out hb c1
  have c2:=zat HBR.out hb c2
  have c3:=zat HBR.out hb c3
  have c4:=zat HBR.out hb c4
  have c5:=zat HBR.out hb c5
  have hbxw:=(hbr.cell hbx).trans hx0
  have lbx:bx<wr.heap.size:=Nat.lt_of_lt_of_le hbx hbr.size
  have HC:=zaa (fun w' (hbw:Below W.heap.size W w')=>hc.out x (List.mem_of_getElem? hx) [u0,u1,u2,u3,u4,u5] w' hbw (zab.cons (g0.later hbw) (zab.cons (g1.later hbw) (zab.cons (g2.later hbw) (zab.cons (g3.later hbw) (zab.cons (g4.later hbw) (zab.cons (g5.later hbw) zab.nil)))))))
  have k0:=kbZ k l.length
  have HX:=zaa hx
  clear hx hbr
  cases hp:p x with
  |true=>
   have HTK:=zaa (zbb HT.out HX.out hp)
   rw[hp] at HC
   go_wp2_with(first|(go_at_call 266;go_in))
   refine(HC.out _ (HBR.out.alloc HBR.out.size _)).mono ?_
   rintro e w3 ⟨rfl,hb3⟩
   have HB3:=zaa ((HBR.out.alloc HBR.out.size (.cells #[u0,u1,u2,u3,u4,u5] 51)).trans (hb3.mono (HBR.out.alloc HBR.out.size _).size))
   clear hb3 HC
   go_wp2_with fail
   go_roundw
   case rel=>exact⟨k+1,by omega,by go_num,HTK.out,HB3.out⟩
   case measure=>simp[intOf];omega
  |false=>
   have HNO:=zaa (za3 HX.out hp)
   rw[hp] at HC
   go_wp2_with(first|(go_at_call 266;go_in))
   refine(HC.out _ (HBR.out.alloc HBR.out.size _)).mono ?_
   rintro e w3 ⟨rfl,hb3⟩
   have HB3:=zaa ((HBR.out.alloc HBR.out.size (.cells #[u0,u1,u2,u3,u4,u5] 51)).trans (hb3.mono (HBR.out.alloc HBR.out.size _).size))
   clear hb3 HC
   go_wp2_with fail
   go_ret
   exact⟨_,rfl,.inr ⟨by omega,HNO.out⟩,HB3.out⟩
theorem zjP (v:Value) (l:List zaT) (p:zaT→Bool) (W:World) (hv:Hid (DAt W (fun _=>True) v (.row 6 (l.map zaT.cells)))) (hl:l.length≤140737488355328) (hc:Hid (∀x∈l,∀us w',Below W.heap.size W w'→zab w' (fun _=>True) us (zaT.cells x)→Calls Tryz.prog 224 #[.agg us.toArray] w' fun e w''=>e= .returned (.bool (p x))∧Below w'.heap.size w' w'')):
 Calls Tryz.prog 223 #[v,.func (.func 224) #[] #[]] W fun e w'=>e= .returned (.bool (l.all p))∧Below W.heap.size W w':=by
 have hmf: ∀(fn:Fn) (first cap:Array Value) (w:World),(Instr.makeFunc fn first cap).run Tryz.prog w= .ok (.func fn first cap) w:=fun _ _ _ _=>rfl
 have HB:=zaa ((Below.refl W.heap.size W).alloc (Nat.le_refl _) (.cells #[.func (.func 224) #[] #[]] 196))
 have HI:=zaa (zkB W.heap.size v l p (W.alloc (.cells #[.func (.func 224) #[] #[]] 196)) (zaa (hv.out.later HB.out)) hl (by rw[cell_of_row _ _ 0 _ _ _ (heap_alloc_new W _)];rfl) (zaa (fun x hx us w' hb hd=>hc.out x hx us w' (btZ HB.out hb) hd)))
 go_enter Tryz.func223,Tryz.ntmps223
 go_wp2_with(first|(go_at_call 265;go_in))
 refine HI.out.mono ?_
 rintro e w2 ⟨r,rfl,hr,hb⟩
 have HB2:=zaa (btZ HB.out hb)
 have HR:=zaa (show l.all p= !decide (0≤r) by rcases hr with⟨h1,h2⟩|⟨h1,h2⟩<;>simp[h2]<;>omega)
 clear hb hr HI
 go_wp2_with fail
 go_ret
 exact⟨by rw[HR.out];rfl,HB2.out⟩
theorem zkp (bx:Nat) (v:Value) (l:List zaY) (p:zaY→Bool) (W:World) (hv:Hid (DAt W (fun _=>True) v (.row 5 (l.map zaY.cells)))) (hl:l.length≤140737488355328) (hx0:W.cell? ⟨bx,0,none⟩=some (.func (.func 226) #[] #[])) (hc:Hid (∀x∈l,∀us w',Below W.heap.size W w'→zab w' (fun _=>True) us (zaY.cells x)→Calls Tryz.prog 226 #[.agg us.toArray] w' fun e w''=>e= .returned (.bool (p x))∧Below w'.heap.size w' w'')):
 Calls Tryz.prog 301 #[v,.func (.func 268) #[] #[.pointer (some ⟨bx,0,none⟩)]] W fun e w'=> ∃r:Int,e= .returned (.int .i64 r)∧(r<0∧l.all p=true∨0≤r∧l.all p=false)∧Below W.heap.size W w':=by
 obtain⟨A,c,rfl,hA⟩:=hv.out.slice
 have HA:=zaa hA
 clear hA hv
 rw[List.length_map]
 have hbx:=zbm hx0
 go_enter Tryz.func301,Tryz.ntmps301
 go_wp2_with fail
 go_loopw [8] (fun v8 wr=> ∃k:Nat,k≤l.length∧v8= .int .i64 k∧(l.take k).all p=true∧Below W.heap.size W wr) (fun v8 _=>l.length-(intOf v8).toNat)
 case atStart=>exact⟨0,by omega,rfl,by simp,Below.refl _ _⟩
 case round=>
  obtain⟨k,hk,rfl,ht,hbr⟩:=hrel
  have HT:=zaa ht
  have HBR:=zaa hbr
  clear ht
  by_cases hlt:k<l.length
  rotate_left
  ·obtain rfl:k=l.length:=by omega
   rw[List.take_length] at HT
   clear hbr hlt
   go_wp2_with fail
   go_ret
   exact⟨_,rfl,.inl ⟨by decide,HT.out⟩,HBR.out⟩
  obtain⟨x,hx⟩:=za9 hlt
  obtain⟨b,off,rfl,hb,hca⟩:=HA.out.at_ hx
  obtain⟨u0,c0,g0⟩:=hca 0 _ rfl
  obtain⟨u1,c1,g1⟩:=hca 1 _ rfl
  obtain⟨u2,c2,g2⟩:=hca 2 _ rfl
  obtain⟨u3,c3,g3⟩:=hca 3 _ rfl
  obtain⟨u4,c4,g4⟩:=hca 4 _ rfl
  clear hca
  have c0:=zbH HBR.out hb c0
  have c1:=zat HBR.out hb c1
  have c2:=zat HBR.out hb c2
  have c3:=zat HBR.out hb c3
  have c4:=zat HBR.out hb c4
  have hbxw:=(hbr.cell hbx).trans hx0
  have lbx:bx<wr.heap.size:=Nat.lt_of_lt_of_le hbx hbr.size
  have HC:=zaa (fun w' (hbw:Below W.heap.size W w')=>hc.out x (List.mem_of_getElem? hx) [u0,u1,u2,u3,u4] w' hbw (zab.cons (g0.later hbw) (zab.cons (g1.later hbw) (zab.cons (g2.later hbw) (zab.cons (g3.later hbw) (zab.cons (g4.later hbw) zab.nil))))))
  have k0:=kbZ k l.length
  have HX:=zaa hx
  clear hx hbr
  cases hp:p x with
  |true=>
   have HTK:=zaa (zbb HT.out HX.out hp)
   rw[hp] at HC
   go_wp2_with(first|(go_at_call 268;go_in))
   refine(HC.out _ (HBR.out.alloc HBR.out.size _)).mono ?_
   rintro e w3 ⟨rfl,hb3⟩
   have HB3:=zaa ((HBR.out.alloc HBR.out.size (.cells #[u0,u1,u2,u3,u4] 53)).trans (hb3.mono (HBR.out.alloc HBR.out.size _).size))
   clear hb3 HC
   go_wp2_with fail
   go_roundw
   case rel=>exact⟨k+1,by omega,by go_num,HTK.out,HB3.out⟩
   case measure=>simp[intOf];omega
  |false=>
   have HNO:=zaa (za3 HX.out hp)
   rw[hp] at HC
   go_wp2_with(first|(go_at_call 268;go_in))
   refine(HC.out _ (HBR.out.alloc HBR.out.size _)).mono ?_
   rintro e w3 ⟨rfl,hb3⟩
   have HB3:=zaa ((HBR.out.alloc HBR.out.size (.cells #[u0,u1,u2,u3,u4] 53)).trans (hb3.mono (HBR.out.alloc HBR.out.size _).size))
   clear hb3 HC
   go_wp2_with fail
   go_ret
   exact⟨_,rfl,.inr ⟨by omega,HNO.out⟩,HB3.out⟩
theorem zk8 (v:Value) (l:List zaY) (p:zaY→Bool) (W:World) (hv:Hid (DAt W (fun _=>True) v (.row 5 (l.map zaY.cells)))) (hl:l.length≤140737488355328) (hc:Hid (∀x∈l,∀us w',Below W.heap.size W w'→zab w' (fun _=>True) us (zaY.cells x)→Calls Tryz.prog 226 #[.agg us.toArray] w' fun e w''=>e= .returned (.bool (p x))∧Below w'.heap.size w' w'')):
 Calls Tryz.prog 225 #[v,.func (.func 226) #[] #[]] W fun e w'=>e= .returned (.bool (l.all p))∧Below W.heap.size W w':=by
 have hmf: ∀(fn:Fn) (first cap:Array Value) (w:World),(Instr.makeFunc fn first cap).run Tryz.prog w= .ok (.func fn first cap) w:=fun _ _ _ _=>rfl
 have HB:=zaa ((Below.refl W.heap.size W).alloc (Nat.le_refl _) (.cells #[.func (.func 226) #[] #[]] 197))
 have HI:=zaa (zkp W.heap.size v l p (W.alloc (.cells #[.func (.func 226) #[] #[]] 197)) (zaa (hv.out.later HB.out)) hl (by rw[cell_of_row _ _ 0 _ _ _ (heap_alloc_new W _)];rfl) (zaa (fun x hx us w' hb hd=>hc.out x hx us w' (btZ HB.out hb) hd)))
 go_enter Tryz.func225,Tryz.ntmps225
 go_wp2_with(first|(go_at_call 267;go_in))
 refine HI.out.mono ?_
 rintro e w2 ⟨r,rfl,hr,hb⟩
 have HB2:=zaa (btZ HB.out hb)
 have HR:=zaa (show l.all p= !decide (0≤r) by rcases hr with⟨h1,h2⟩|⟨h1,h2⟩<;>simp[h2]<;>omega)
 clear hb hr HI
 go_wp2_with fail
 go_ret
 exact⟨by rw[HR.out];rfl,HB2.out⟩
theorem zmH (bx:Nat) (v:Value) (l:List zbU) (p:zbU→Bool) (W:World) (hv:Hid (DAt W (fun _=>True) v (.row 4 (l.map zbU.cells)))) (hl:l.length≤140737488355328) (hx0:W.cell? ⟨bx,0,none⟩=some (.func (.func 82) #[] #[])) (hc:Hid (∀x∈l,∀us w',Below W.heap.size W w'→zab w' (fun _=>True) us (zbU.cells x)→Calls Tryz.prog 82 #[.agg us.toArray] w' fun e w''=>e= .returned (.bool (p x))∧Below w'.heap.size w' w'')):
 Calls Tryz.prog 211 #[v,.func (.func 144) #[] #[.pointer (some ⟨bx,0,none⟩)]] W fun e w'=> ∃r:Int,e= .returned (.int .i64 r)∧(r<0∧l.all p=true∨0≤r∧l.all p=false)∧Below W.heap.size W w':=by
 obtain⟨A,c,rfl,hA⟩:=hv.out.slice
 have HA:=zaa hA
 clear hA hv
 rw[List.length_map]
 have hbx:=zbm hx0
 go_enter Tryz.func211,Tryz.ntmps211
 go_wp2_with fail
 go_loopw [8] (fun v8 wr=> ∃k:Nat,k≤l.length∧v8= .int .i64 k∧(l.take k).all p=true∧Below W.heap.size W wr) (fun v8 _=>l.length-(intOf v8).toNat)
 case atStart=>exact⟨0,by omega,rfl,by simp,Below.refl _ _⟩
 case round=>
  obtain⟨k,hk,rfl,ht,hbr⟩:=hrel
  have HT:=zaa ht
  have HBR:=zaa hbr
  clear ht
  by_cases hlt:k<l.length
  rotate_left
  ·obtain rfl:k=l.length:=by omega
   rw[List.take_length] at HT
   clear hbr hlt
   go_wp2_with fail
   go_ret
   exact⟨_,rfl,.inl ⟨by decide,HT.out⟩,HBR.out⟩
  obtain⟨x,hx⟩:=za9 hlt
  obtain⟨b,off,rfl,hb,hca⟩:=HA.out.at_ hx
  obtain⟨u0,c0,g0⟩:=hca 0 _ rfl
  obtain⟨u1,c1,g1⟩:=hca 1 _ rfl
  obtain⟨u2,c2,g2⟩:=hca 2 _ rfl
  obtain⟨u3,c3,g3⟩:=hca 3 _ rfl
  clear hca
  have c0:=zbH HBR.out hb c0
  have c1:=zat HBR.out hb c1
  have c2:=zat HBR.out hb c2
  have c3:=zat HBR.out hb c3
  have hbxw:=(hbr.cell hbx).trans hx0
  have lbx:bx<wr.heap.size:=Nat.lt_of_lt_of_le hbx hbr.size
  have HC:=zaa (fun w' (hbw:Below W.heap.size W w')=>hc.out x (List.mem_of_getElem? hx) [u0,u1,u2,u3] w' hbw (zab.cons (g0.later hbw) (zab.cons (g1.later hbw) (zab.cons (g2.later hbw) (zab.cons (g3.later hbw) zab.nil)))))
  have k0:=kbZ k l.length
  have HX:=zaa hx
  clear hx hbr
  cases hp:p x with
  |true=>
   have HTK:=zaa (zbb HT.out HX.out hp)
   rw[hp] at HC
   go_wp2_with(first|(go_at_call 144;go_in))
   refine(HC.out _ (HBR.out.alloc HBR.out.size _)).mono ?_
   rintro e w3 ⟨rfl,hb3⟩
   have HB3:=zaa ((HBR.out.alloc HBR.out.size (.cells #[u0,u1,u2,u3] 78)).trans (hb3.mono (HBR.out.alloc HBR.out.size _).size))
   clear hb3 HC
   go_wp2_with fail
   go_roundw
   case rel=>exact⟨k+1,by omega,by go_num,HTK.out,HB3.out⟩
   case measure=>simp[intOf];omega
  |false=>
   have HNO:=zaa (za3 HX.out hp)
   rw[hp] at HC
   go_wp2_with(first|(go_at_call 144;go_in))
   refine(HC.out _ (HBR.out.alloc HBR.out.size _)).mono ?_
   rintro e w3 ⟨rfl,hb3⟩
   have HB3:=zaa ((HBR.out.alloc HBR.out.size (.cells #[u0,u1,u2,u3] 78)).trans (hb3.mono (HBR.out.alloc HBR.out.size _).size))
   clear hb3 HC
   go_wp2_with fail
   go_ret
   exact⟨_,rfl,.inr ⟨by omega,HNO.out⟩,HB3.out⟩
theorem zjo (v:Value) (l:List zbU) (p:zbU→Bool) (W:World) (hv:Hid (DAt W (fun _=>True) v (.row 4 (l.map zbU.cells)))) (hl:l.length≤140737488355328) (hc:Hid (∀x∈l,∀us w',Below W.heap.size W w'→zab w' (fun _=>True) us (zbU.cells x)→Calls Tryz.prog 82 #[.agg us.toArray] w' fun e w''=>e= .returned (.bool (p x))∧Below w'.heap.size w' w'')):
 Calls Tryz.prog 81 #[v,.func (.func 82) #[] #[]] W fun e w'=>e= .returned (.bool (l.all p))∧Below W.heap.size W w':=by
 have hmf: ∀(fn:Fn) (first cap:Array Value) (w:World),(Instr.makeFunc fn first cap).run Tryz.prog w= .ok (.func fn first cap) w:=fun _ _ _ _=>rfl
 have HB:=zaa ((Below.refl W.heap.size W).alloc (Nat.le_refl _) (.cells #[.func (.func 82) #[] #[]] 130))
 have HI:=zaa (zmH W.heap.size v l p (W.alloc (.cells #[.func (.func 82) #[] #[]] 130)) (zaa (hv.out.later HB.out)) hl (by rw[cell_of_row _ _ 0 _ _ _ (heap_alloc_new W _)];rfl) (zaa (fun x hx us w' hb hd=>hc.out x hx us w' (btZ HB.out hb) hd)))
 go_enter Tryz.func81,Tryz.ntmps81
 go_wp2_with(first|(go_at_call 143;go_in))
 refine HI.out.mono ?_
 rintro e w2 ⟨r,rfl,hr,hb⟩
 have HB2:=zaa (btZ HB.out hb)
 have HR:=zaa (show l.all p= !decide (0≤r) by rcases hr with⟨h1,h2⟩|⟨h1,h2⟩<;>simp[h2]<;>omega)
 clear hb hr HI
 go_wp2_with fail
 go_ret
 exact⟨by rw[HR.out];rfl,HB2.out⟩
theorem zl5 (bx:Nat) (v:Value) (l:List zb2) (p:zb2→Bool) (W:World) (hv:Hid (DAt W (fun _=>True) v (.row 3 (l.map zb2.cells)))) (hl:l.length≤140737488355328) (hx0:W.cell? ⟨bx,0,none⟩=some (.func (.func 228) #[] #[])) (hc:Hid (∀x∈l,∀us w',Below W.heap.size W w'→zab w' (fun _=>True) us (zb2.cells x)→Calls Tryz.prog 228 #[.agg us.toArray] w' fun e w''=>e= .returned (.bool (p x))∧Below w'.heap.size w' w'')):
 Calls Tryz.prog 302 #[v,.func (.func 270) #[] #[.pointer (some ⟨bx,0,none⟩)]] W fun e w'=> ∃r:Int,e= .returned (.int .i64 r)∧(r<0∧l.all p=true∨0≤r∧l.all p=false)∧Below W.heap.size W w':=by
 obtain⟨A,c,rfl,hA⟩:=hv.out.slice
 have HA:=zaa hA
 clear hA hv
 rw[List.length_map]
 have hbx:=zbm hx0
 go_enter Tryz.func302,Tryz.ntmps302
 go_wp2_with fail
 go_loopw [8] (fun v8 wr=> ∃k:Nat,k≤l.length∧v8= .int .i64 k∧(l.take k).all p=true∧Below W.heap.size W wr) (fun v8 _=>l.length-(intOf v8).toNat)
 case atStart=>exact⟨0,by omega,rfl,by simp,Below.refl _ _⟩
 case round=>
  obtain⟨k,hk,rfl,ht,hbr⟩:=hrel
  have HT:=zaa ht
  have HBR:=zaa hbr
  clear ht
  by_cases hlt:k<l.length
  rotate_left
  ·obtain rfl:k=l.length:=by omega
   rw[List.take_length] at HT
   clear hbr hlt
   go_wp2_with fail
   go_ret
   exact⟨_,rfl,.inl ⟨by decide,HT.out⟩,HBR.out⟩
  obtain⟨x,hx⟩:=za9 hlt
  obtain⟨b,off,rfl,hb,hca⟩:=HA.out.at_ hx
  obtain⟨u0,c0,g0⟩:=hca 0 _ rfl
  obtain⟨u1,c1,g1⟩:=hca 1 _ rfl
  obtain⟨u2,c2,g2⟩:=hca 2 _ rfl
  clear hca
  have c0:=zbH HBR.out hb c0
  have c1:=zat HBR.out hb c1
  have c2:=zat HBR.out hb c2
  have hbxw:=(hbr.cell hbx).trans hx0
  have lbx:bx<wr.heap.size:=Nat.lt_of_lt_of_le hbx hbr.size
  have HC:=zaa (fun w' (hbw:Below W.heap.size W w')=>hc.out x (List.mem_of_getElem? hx) [u0,u1,u2] w' hbw (zab.cons (g0.later hbw) (zab.cons (g1.later hbw) (zab.cons (g2.later hbw) zab.nil))))
  have k0:=kbZ k l.length
  have HX:=zaa hx
  clear hx hbr
  cases hp:p x with
  |true=>
   have HTK:=zaa (zbb HT.out HX.out hp)
   rw[hp] at HC
   go_wp2_with(first|(go_at_call 270;go_in))
   refine(HC.out _ (HBR.out.alloc HBR.out.size _)).mono ?_
   rintro e w3 ⟨rfl,hb3⟩
   have HB3:=zaa ((HBR.out.alloc HBR.out.size (.cells #[u0,u1,u2] 55)).trans (hb3.mono (HBR.out.alloc HBR.out.size _).size))
   clear hb3 HC
   go_wp2_with fail
   go_roundw
   case rel=>exact⟨k+1,by omega,by go_num,HTK.out,HB3.out⟩
   case measure=>simp[intOf];omega
  |false=>
   have HNO:=zaa (za3 HX.out hp)
   rw[hp] at HC
   go_wp2_with(first|(go_at_call 270;go_in))
   refine(HC.out _ (HBR.out.alloc HBR.out.size _)).mono ?_
   rintro e w3 ⟨rfl,hb3⟩
   have HB3:=zaa ((HBR.out.alloc HBR.out.size (.cells #[u0,u1,u2] 55)).trans (hb3.mono (HBR.out.alloc HBR.out.size _).size))
   clear hb3 HC
   go_wp2_with fail
   go_ret
   exact⟨_,rfl,.inr ⟨by omega,HNO.out⟩,HB3.out⟩
theorem zlS (v:Value) (l:List zb2) (p:zb2→Bool) (W:World) (hv:Hid (DAt W (fun _=>True) v (.row 3 (l.map zb2.cells)))) (hl:l.length≤140737488355328) (hc:Hid (∀x∈l,∀us w',Below W.heap.size W w'→zab w' (fun _=>True) us (zb2.cells x)→Calls Tryz.prog 228 #[.agg us.toArray] w' fun e w''=>e= .returned (.bool (p x))∧Below w'.heap.size w' w'')):
 Calls Tryz.prog 229 #[v,.func (.func 228) #[] #[]] W fun e w'=>e= .returned (.bool (l.all p))∧Below W.heap.size W w':=by
 have hmf: ∀(fn:Fn) (first cap:Array Value) (w:World),(Instr.makeFunc fn first cap).run Tryz.prog w= .ok (.func fn first cap) w:=fun _ _ _ _=>rfl
 have HB:=zaa ((Below.refl W.heap.size W).alloc (Nat.le_refl _) (.cells #[.func (.func 228) #[] #[]] 224))
 have HI:=zaa (zl5 W.heap.size v l p (W.alloc (.cells #[.func (.func 228) #[] #[]] 224)) (zaa (hv.out.later HB.out)) hl (by rw[cell_of_row _ _ 0 _ _ _ (heap_alloc_new W _)];rfl) (zaa (fun x hx us w' hb hd=>hc.out x hx us w' (btZ HB.out hb) hd)))
 go_enter Tryz.func229,Tryz.ntmps229
 go_wp2_with(first|(go_at_call 269;go_in))
 refine HI.out.mono ?_
 rintro e w2 ⟨r,rfl,hr,hb⟩
 have HB2:=zaa (btZ HB.out hb)
 have HR:=zaa (show l.all p= !decide (0≤r) by rcases hr with⟨h1,h2⟩|⟨h1,h2⟩<;>simp[h2]<;>omega)
 clear hb hr HI
 go_wp2_with fail
 go_ret
 exact⟨by rw[HR.out];rfl,HB2.out⟩
theorem zmS (bx:Nat) (v:Value) (l:List zck) (p:zck→Bool) (W:World) (hv:Hid (DAt W (fun _=>True) v (.row 2 (l.map zck.cells)))) (hl:l.length≤140737488355328) (hx0:W.cell? ⟨bx,0,none⟩=some (.func (.func 181) #[] #[])) (hc:Hid (∀x∈l,∀us w',Below W.heap.size W w'→zab w' (fun _=>True) us (zck.cells x)→Calls Tryz.prog 181 #[.agg us.toArray] w' fun e w''=>e= .returned (.bool (p x))∧Below w'.heap.size w' w'')):
 Calls Tryz.prog 272 #[v,.func (.func 238) #[] #[.pointer (some ⟨bx,0,none⟩)]] W fun e w'=> ∃r:Int,e= .returned (.int .i64 r)∧(r<0∧l.all p=true∨0≤r∧l.all p=false)∧Below W.heap.size W w':=by
 obtain⟨A,c,rfl,hA⟩:=hv.out.slice
 have HA:=zaa hA
 clear hA hv
 rw[List.length_map]
 have hbx:=zbm hx0
 go_enter Tryz.func272,Tryz.ntmps272
 go_wp2_with fail
 go_loopw [8] (fun v8 wr=> ∃k:Nat,k≤l.length∧v8= .int .i64 k∧(l.take k).all p=true∧Below W.heap.size W wr) (fun v8 _=>l.length-(intOf v8).toNat)
 case atStart=>exact⟨0,by omega,rfl,by simp,Below.refl _ _⟩
 case round=>
  obtain⟨k,hk,rfl,ht,hbr⟩:=hrel
  have HT:=zaa ht
  have HBR:=zaa hbr
  clear ht
  by_cases hlt:k<l.length
  rotate_left
  ·obtain rfl:k=l.length:=by omega
   rw[List.take_length] at HT
   clear hbr hlt
   go_wp2_with fail
   go_ret
   exact⟨_,rfl,.inl ⟨by decide,HT.out⟩,HBR.out⟩
  obtain⟨x,hx⟩:=za9 hlt
  obtain⟨b,off,rfl,hb,hca⟩:=HA.out.at_ hx
  obtain⟨u0,c0,g0⟩:=hca 0 _ rfl
  obtain⟨u1,c1,g1⟩:=hca 1 _ rfl
  clear hca
  have c0:=zbH HBR.out hb c0
  have c1:=zat HBR.out hb c1
  have hbxw:=(hbr.cell hbx).trans hx0
  have lbx:bx<wr.heap.size:=Nat.lt_of_lt_of_le hbx hbr.size
  have HC:=zaa (fun w' (hbw:Below W.heap.size W w')=>hc.out x (List.mem_of_getElem? hx) [u0,u1] w' hbw (zab.cons (g0.later hbw) (zab.cons (g1.later hbw) zab.nil)))
  have k0:=kbZ k l.length
  have HX:=zaa hx
  clear hx hbr
  cases hp:p x with
  |true=>
   have HTK:=zaa (zbb HT.out HX.out hp)
   rw[hp] at HC
   go_wp2_with(first|(go_at_call 238;go_in))
   refine(HC.out _ (HBR.out.alloc HBR.out.size _)).mono ?_
   rintro e w3 ⟨rfl,hb3⟩
   have HB3:=zaa ((HBR.out.alloc HBR.out.size (.cells #[u0,u1] 67)).trans (hb3.mono (HBR.out.alloc HBR.out.size _).size))
   clear hb3 HC
   go_wp2_with fail
   go_roundw
   case rel=>exact⟨k+1,by omega,by go_num,HTK.out,HB3.out⟩
   case measure=>simp[intOf];omega
  |false=>
   have HNO:=zaa (za3 HX.out hp)
   rw[hp] at HC
   go_wp2_with(first|(go_at_call 238;go_in))
   refine(HC.out _ (HBR.out.alloc HBR.out.size _)).mono ?_
   rintro e w3 ⟨rfl,hb3⟩
   have HB3:=zaa ((HBR.out.alloc HBR.out.size (.cells #[u0,u1] 67)).trans (hb3.mono (HBR.out.alloc HBR.out.size _).size))
   clear hb3 HC
   go_wp2_with fail
   go_ret
   exact⟨_,rfl,.inr ⟨by omega,HNO.out⟩,HB3.out⟩
theorem zl9 (v:Value) (l:List zck) (p:zck→Bool) (W:World) (hv:Hid (DAt W (fun _=>True) v (.row 2 (l.map zck.cells)))) (hl:l.length≤140737488355328) (hc:Hid (∀x∈l,∀us w',Below W.heap.size W w'→zab w' (fun _=>True) us (zck.cells x)→Calls Tryz.prog 181 #[.agg us.toArray] w' fun e w''=>e= .returned (.bool (p x))∧Below w'.heap.size w' w'')):
 Calls Tryz.prog 180 #[v,.func (.func 181) #[] #[]] W fun e w'=>e= .returned (.bool (l.all p))∧Below W.heap.size W w':=by
 have hmf: ∀(fn:Fn) (first cap:Array Value) (w:World),(Instr.makeFunc fn first cap).run Tryz.prog w= .ok (.func fn first cap) w:=fun _ _ _ _=>rfl
 have HB:=zaa ((Below.refl W.heap.size W).alloc (Nat.le_refl _) (.cells #[.func (.func 181) #[] #[]] 195))
 have HI:=zaa (zmS W.heap.size v l p (W.alloc (.cells #[.func (.func 181) #[] #[]] 195)) (zaa (hv.out.later HB.out)) hl (by rw[cell_of_row _ _ 0 _ _ _ (heap_alloc_new W _)];rfl) (zaa (fun x hx us w' hb hd=>hc.out x hx us w' (btZ HB.out hb) hd)))
 go_enter Tryz.func180,Tryz.ntmps180
 go_wp2_with(first|(go_at_call 237;go_in))
 refine HI.out.mono ?_
 rintro e w2 ⟨r,rfl,hr,hb⟩
 have HB2:=zaa (btZ HB.out hb)
 have HR:=zaa (show l.all p= !decide (0≤r) by rcases hr with⟨h1,h2⟩|⟨h1,h2⟩<;>simp[h2]<;>omega)
 clear hb hr HI
 go_wp2_with fail
 go_ret
 exact⟨by rw[HR.out];rfl,HB2.out⟩
end Go.Proofs.YtgbfaompondolaaGreatDoor
