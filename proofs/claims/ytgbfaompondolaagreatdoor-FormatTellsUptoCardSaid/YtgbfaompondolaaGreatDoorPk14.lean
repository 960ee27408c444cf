/- Merged texts of the walks and of the plain laws on which the statement leans.-/
import Derived.Test.YtgbfaompondolaaGreatDoorPk1
import Derived.Test.YtgbfaompondolaaGreatDoorPk13
set_option maxHeartbeats 4000000
set_option maxRecDepth 100000
namespace Go.Proofs.YtgbfaompondolaaGreatDoor
open Tryz
open Go.RowKit
attribute [local go_sem] zaj.cell
theorem zbh: ∀a∈([]:List Arg),a.ok:=fun a h=>by cases h
theorem za4 {t:List UInt8} {l:List Arg} (h: ∀a∈l,a.ok): ∀a∈(.s t::l),a.ok:=fun a ha=>by
 rcases List.mem_cons.1 ha with rfl|ha
 ·exact trivial
 ·exact h a ha
theorem zeR {n:Int} {l:List Arg} (hn:zbj n=true) (h: ∀a∈l,a.ok): ∀a∈(.n n::l),a.ok:=fun a ha=>by
 rcases List.mem_cons.1 ha with rfl|ha
 ·simp[zbj] at hn
  exact⟨by omega,by omega⟩
 ·exact h a ha
theorem zb6.lt {B b:Nat} {k:C8} {L:List UInt8} {w:World} (h:zb6 B b k L w):b<w.heap.size:=h.elim (fun h=>h.lt) (fun h=>h.lt)
theorem zb6.row {B b:Nat} {k:C8} {L:List UInt8} {w:World} (h:zb6 B b k L w): ∃p v,w.heap[b]? =some (.cells (k.row p v) 125 (0,0)):=by
 rcases h with⟨_,v,h,_⟩|⟨_,v,h,_⟩
 ·exact⟨_,v,h⟩
 ·exact⟨_,v,h⟩
def C8.get (k:C8):Nat→Value
 |0=>k.c0
 |1=>k.c1
 |2=>k.c2
 |3=>k.c3
 |4=>k.c4
 |5=>k.c5
 |6=>k.c6
 |_=>k.c7
theorem zb6.cell {B b:Nat} {k:C8} {L:List UInt8} {w:World} (h:zb6 B b k L w) (j:Nat) (hj:j<8):w.cell? ⟨b,j+2,none⟩=some (k.get j):=by
 obtain⟨p,v,h⟩:=h.row;rw[cell_of_row _ _ (j+2) _ _ _ h]
 match j,hj with
 |0,_=>rfl
 |1,_=>rfl
 |2,_=>rfl
 |3,_=>rfl
 |4,_=>rfl
 |5,_=>rfl
 |6,_=>rfl
 |7,_=>rfl
theorem ziN (B b:Nat) (k8:C8) (L:List UInt8) (l:List zbi) (W:World) (h:Hid (zb6 B b k8 L W)) (hv:Hid (DAt W (fun g=>g<B) k8.c1 (.row 4 (l.map zbi.cells)))) (hF:Hid (l.all zed=true)) (hlen:L.length+(zap zbI l).length≤1000000) (hnl:l.length≤140737488355328) (hBw:B≤W.heap.size) (hGB:8≤B) (hE:Hid (Env W)) (_hGP:2≤B) (_hP:Hid (zcT W)):
 Calls prog 72 #[.pointer (some ⟨b,0,none⟩)] W fun e w'=>e= .returned (.tuple #[])∧zb6 B b k8 (L++zap zbI l) w'∧Below B W w'∧PrK b W w':=by
 obtain⟨A,c,ek,hA⟩:=hv.out.sliceG;have HA:=zaa hA;rw[List.length_map] at ek;clear hA hv;have cb:W.cell? ⟨b,3,none⟩=some (.slice A l.length c):=(h.out.cell 1 (by decide)).trans (congrArg some ek);clear ek;have HL:=zaa hlen;clear hlen
 go_enter func72,ntmps72
 go_wp2_with fail;clear cb
 go_loopw [10] (fun v wr=> ∃k:Nat,k≤l.length∧v= .int .i64 k∧zb6 B b k8 (L++zap zbI (l.take k)) wr∧Below B W wr∧PrK b W wr) (fun v _=>l.length-(intOf v).toNat)
 case atStart=>exact⟨0,by omega,rfl,by rw[zbl,List.append_nil];exact h.out,Below.refl _ _,PrK.refl _ _⟩
 case round=>
  obtain⟨k,hk,rfl,hp,hbr,hkr⟩:=hrel;have HP:=zaa hp;have HBR:=zaa hbr;have HKR:=zaa hkr;clear hp hbr hkr h;by_cases hlt:k<l.length
  rotate_left
  ·obtain rfl:k=l.length:=by omega
   rw[List.take_length] at HP;clear hlt;go_wp2_with fail
   go_end0
   exact⟨rfl,HP.out,HBR.out,HKR.out⟩
  obtain⟨x,hx⟩:=zbE hlt;obtain⟨g,off,rfl,hG,hg,hca⟩:=(HA.out.keep HBR.out).at_ hx;obtain⟨u0,c0,g0⟩:=hca 0 _ rfl;obtain rfl:=g0.leaf_eq;obtain⟨u1,c1,g1⟩:=hca 1 _ rfl;obtain rfl:=g1.leaf_eq;obtain⟨u2,c2,g2⟩:=hca 2 _ rfl;obtain rfl:=g2.leaf_eq;obtain⟨u3,c3,g3⟩:=hca 3 _ rfl;have HG3:=zaa g3;obtain⟨A3,q3,rfl, -⟩:=g3.sliceG;rw[List.length_map] at HG3 c3;clear hca g0 g1 g2 g3;simp only[zav] at c0 c1 c2 c3;rw[Nat.add_zero] at c0;have k0:=kbZ k l.length;have HFx:=zaa (List.all_eq_true.1 hF.out x (List.mem_of_getElem? hx));have HX:=zaa hx;have hroom:=zat (f:=zbI) hx;have hL:=HL.out;clear hx;have HXb:=zaa (heap_alloc_new wr (.cells #[.string ⟨x.from_.m.toArray⟩,.string ⟨x.from_.p.toArray⟩,.string ⟨x.from_.o.toArray⟩,.slice A3 x.to.length q3] 58));have HBA:=zaa ((Below.refl wr.heap.size wr).alloc (Nat.le_refl _) (.cells #[.string ⟨x.from_.m.toArray⟩,.string ⟨x.from_.p.toArray⟩,.string ⟨x.from_.o.toArray⟩,.slice A3 x.to.length q3] 58));have hxl:wr.heap.size<(wr.alloc (.cells #[.string ⟨x.from_.m.toArray⟩,.string ⟨x.from_.p.toArray⟩,.string ⟨x.from_.o.toArray⟩,.slice A3 x.to.length q3] 58)).heap.size:=by simp
  go_wp2_with fail;clear c0 c1 c2 c3;generalize wr.alloc _=w0 at *;have HP0:=zaa (HP.out.later HBA.out);have HKR0:=zaa (HKR.out.trans (.later HBA.out));have hBr:B≤wr.heap.size:=Nat.le_trans hBw HBR.out.size;have HBR0:=zaa (HBR.out.trans (HBA.out.mono hBr));have hB0:B≤w0.heap.size:=Nat.le_trans hBw HBR0.out.size;obtain⟨x0,x1,x2,x3⟩:=zc1 HXb.out rfl;have hroom2:=hroom;rw[zbI,zaz] at hroom2;simp only[zbK,Arg.txt,List.map_cons,List.map_nil,List.flatten_cons,List.flatten_nil,List.length_append,List.length_cons,List.length_nil] at hroom2;have r0:=ze6 (x:=x.from_) (by omega);have r1:(zcL x.to).length≤1000000:=by omega
  clear hroom2;refine zak (S:=fun w'=>Below w0.heap.size w0 w') 14 (by kernel_rfl) (by kernel_rfl) (Below.refl _ _).drew (fun hHeld=> ?_);generalize w0.drew=U at *;refine tq 0 14 rfl hHeld ?_;refine tq 1 15 rfl hHeld ?_;refine tq 2 16 rfl hHeld ?_;refine tq 3 17 rfl hHeld ?_;refine tq 4 18 rfl hHeld ?_
  (try simp only[pu])
  refine tyZ (v:= ?_) 5 19 rfl hHeld (fun v hS=> ?_) ?_;rotate_left
  ·have e0:=zad hS hxl 0 x0
   have e1:=zad hS hxl 1 x1;have e2:=zad hS hxl 2 x2;go_simp
   with_reducible rfl
  refine tq 8 22 rfl hHeld ?_;refine tq 9 23 rfl hHeld ?_
  (try simp only[pu])
  refine tyZ (v:= ?_) 10 24 rfl hHeld (fun v hS=> ?_) ?_;rotate_left
  ·have e0:=zad hS hxl 3 x3
   go_simp
   with_reducible rfl
  (try simp only[pu])
  refine trZ [6] (zaN.cons rfl (fun K hK=> ?_) zaN.nil);go_simp;have HI:=zaa (zfN x.from_ [.string ⟨x.from_.m.toArray⟩,.string ⟨x.from_.p.toArray⟩,.string ⟨x.from_.o.toArray⟩] U r0.1 r0.2.1 r0.2.2 (zaa (zab.cons (.leaf _) (zab.cons (.leaf _) (zab.cons (.leaf _) zab.nil)))));refine HI.out.mono ?_;rintro e Ua ⟨rfl,hb⟩;have hSUa:=hHeld.trans (hb.mono hHeld.size);clear hb HI hHeld;go_wp2_with fail;refine hK.out _ _ hSUa (fun hHeld=> ?_);clear hK K hSUa;refine tq 7 21 rfl hHeld ?_
  (try simp only[pu])
  refine trZ [11] (zaN.cons rfl (fun K hK=> ?_) zaN.nil);go_simp;have HI:=zaa (zgy (.slice A3 x.to.length q3) x.to Ua (zaa (((HG3.out.lateG (HBA.out.mono hBr)).lateG (hHeld.mono hB0)).mono (fun _ _ _=>trivial))) r1);refine HI.out.mono ?_;rintro e Uaa ⟨rfl,hb⟩;have hSUaa:=hHeld.trans (hb.mono hHeld.size);clear hb HI hHeld;go_wp2_with fail;refine hK.out _ _ hSUaa (fun hHeld=> ?_);clear hK K hSUaa;refine tq 12 26 rfl hHeld ?_
  (try simp only[pu])
  refine trZ [13] (zaN.cons rfl (fun K hK=> ?_) zaN.nil);go_simp;have HD:=zaa (zbL Uaa ([.s ([99,104,97,110,110,101,108]),.s (zdv x.from_),.s ([116,111]),.s (zcL x.to)]:List Arg) (b:=b) (HP0.out.later hHeld).lt);refine hK.out _ _ (hHeld.alloc hHeld.size _) (fun hHeld1=> ?_);clear hK K hHeld
  (try simp only[pu])
  refine zan (by kernel_rfl) ?_;simp only[List.drop_succ_cons,List.drop_zero];have HBl:=zaa (HBR0.out.trans (hHeld1.mono hB0));have HKl:=zaa (HKR0.out.trans (.later hHeld1));have HC:=zaa (zbx B b k8 _ 0 [59] _ ([.s ([99,104,97,110,110,101,108]),.s (zdv x.from_),.s ([116,111]),.s (zcL x.to)]:List Arg) _ (zaa (HP0.out.later hHeld1)) HD (zaa (za4 (za4 (za4 (za4 zbh))))) (by simp) (by omega) (by simp) (by rw[List.length_append];rw[zbI,zaz] at hroom;omega) (Nat.le_trans hB0 hHeld1.size) hGB (zaa (hE.out.keptB HBl.out hGB)));clear hHeld1 HD;go_wp2_with fail;refine HC.out.mono ?_;rintro e w9 ⟨rfl,h1,h2,h3⟩;have HP9:=zaa h1;have HB9:=zaa (HBl.out.trans h2);have HK9:=zaa (HKl.out.trans h3);clear h1 h2 h3 HC;go_wp2_with fail;go_roundw
  case rel=>exact⟨k+1,by omega,by go_num,by rw[zaq HX.out,←List.append_assoc];exact HP9.out,HB9.out,HK9.out⟩
  case measure=>simp[intOf];omega
theorem ziq (B b:Nat) (k8:C8) (L:List UInt8) (l:List SwD) (W:World) (h:Hid (zb6 B b k8 L W)) (hv:Hid (DAt W (fun g=>g<B) k8.c2 (.row 4 (l.map SwD.cells)))) (hF:Hid (l.all swF=true)) (hlen:L.length+(zap swT l).length≤1000000) (hnl:l.length≤140737488355328) (hBw:B≤W.heap.size) (hGB:8≤B) (hE:Hid (Env W)) (_hGP:2≤B) (_hP:Hid (zcT W)):
 Calls prog 73 #[.pointer (some ⟨b,0,none⟩)] W fun e w'=>e= .returned (.tuple #[])∧zb6 B b k8 (L++zap swT l) w'∧Below B W w'∧PrK b W w':=by
 obtain⟨A,c,ek,hA⟩:=hv.out.sliceG;have HA:=zaa hA;rw[List.length_map] at ek;clear hA hv;have cb:W.cell? ⟨b,4,none⟩=some (.slice A l.length c):=(h.out.cell 2 (by decide)).trans (congrArg some ek);clear ek;have HL:=zaa hlen;clear hlen
 go_enter func73,ntmps73
 go_wp2_with fail;clear cb
 go_loopw [10] (fun v wr=> ∃k:Nat,k≤l.length∧v= .int .i64 k∧zb6 B b k8 (L++zap swT (l.take k)) wr∧Below B W wr∧PrK b W wr) (fun v _=>l.length-(intOf v).toNat)
 case atStart=>exact⟨0,by omega,rfl,by rw[zbl,List.append_nil];exact h.out,Below.refl _ _,PrK.refl _ _⟩
 case round=>
  obtain⟨k,hk,rfl,hp,hbr,hkr⟩:=hrel;have HP:=zaa hp;have HBR:=zaa hbr;have HKR:=zaa hkr;clear hp hbr hkr h;by_cases hlt:k<l.length
  rotate_left
  ·obtain rfl:k=l.length:=by omega
   rw[List.take_length] at HP;clear hlt;go_wp2_with fail
   go_end0
   exact⟨rfl,HP.out,HBR.out,HKR.out⟩
  obtain⟨x,hx⟩:=zbE hlt;obtain⟨g,off,rfl,hG,hg,hca⟩:=(HA.out.keep HBR.out).at_ hx;obtain⟨u0,c0,g0⟩:=hca 0 _ rfl;obtain rfl:=g0.leaf_eq;obtain⟨u1,c1,g1⟩:=hca 1 _ rfl;obtain rfl:=g1.leaf_eq;obtain⟨u2,c2,g2⟩:=hca 2 _ rfl;obtain rfl:=g2.leaf_eq;obtain⟨u3,c3,g3⟩:=hca 3 _ rfl;obtain rfl:=g3.leaf_eq;clear hca g0 g1 g2 g3;simp only[zav] at c0 c1 c2 c3;rw[Nat.add_zero] at c0;have k0:=kbZ k l.length;have HFx:=zaa (List.all_eq_true.1 hF.out x (List.mem_of_getElem? hx));have HX:=zaa hx;have hroom:=zat (f:=swT) hx;have hL:=HL.out;clear hx;have HXb:=zaa (heap_alloc_new wr (.cells #[.string ⟨x.name.toArray⟩,.int .i64 x.net,.int .i64 x.delay,.int .i64 x.store] 69));have HBA:=zaa ((Below.refl wr.heap.size wr).alloc (Nat.le_refl _) (.cells #[.string ⟨x.name.toArray⟩,.int .i64 x.net,.int .i64 x.delay,.int .i64 x.store] 69));have hxl:wr.heap.size<(wr.alloc (.cells #[.string ⟨x.name.toArray⟩,.int .i64 x.net,.int .i64 x.delay,.int .i64 x.store] 69)).heap.size:=by simp
  go_wp2_with fail;clear c0 c1 c2 c3;generalize wr.alloc _=w0 at *;have HP0:=zaa (HP.out.later HBA.out);have HKR0:=zaa (HKR.out.trans (.later HBA.out));have hBr:B≤wr.heap.size:=Nat.le_trans hBw HBR.out.size;have HBR0:=zaa (HBR.out.trans (HBA.out.mono hBr));have hB0:B≤w0.heap.size:=Nat.le_trans hBw HBR0.out.size;obtain⟨x0,x1,x2,x3⟩:=zc1 HXb.out rfl;have hq:=HFx.out;simp only[swF,Bool.and_eq_true,beq_iff_eq,List.all_cons,List.all_nil,Bool.and_true] at hq;have nt:=hq.2.1;have d0:=hq.2.2.1;have d1:=hq.2.2.2;clear hq;refine zak (S:=fun w'=>Below w0.heap.size w0 w') 21 (by kernel_rfl) (by kernel_rfl) (Below.refl _ _).drew (fun hHeld=> ?_);generalize w0.drew=U at *;refine tq 0 14 rfl hHeld ?_;refine tq 1 15 rfl hHeld ?_;refine tq 2 16 rfl hHeld ?_;refine tq 3 17 rfl hHeld ?_;refine tq 4 18 rfl hHeld ?_
  (try simp only[pu])
  refine tyZ (v:= ?_) 5 19 rfl hHeld (fun v hS=> ?_) ?_;rotate_left
  ·have e0:=zad hS hxl 0 x0
   go_simp
   with_reducible rfl
  refine tq 6 20 rfl hHeld ?_;refine tq 7 21 rfl hHeld ?_;refine tq 8 22 rfl hHeld ?_
  (try simp only[pu])
  refine tyZ (v:= ?_) 9 23 rfl hHeld (fun v hS=> ?_) ?_;rotate_left
  ·have e0:=zad hS hxl 1 x1
   go_simp
   with_reducible rfl
  refine tq 12 26 rfl hHeld ?_;refine tq 13 27 rfl hHeld ?_
  (try simp only[pu])
  refine tyZ (v:= ?_) 14 28 rfl hHeld (fun v hS=> ?_) ?_;rotate_left
  ·have e0:=zad hS hxl 2 x2
   go_simp
   with_reducible rfl
  refine tq 15 29 rfl hHeld ?_;refine tq 16 30 rfl hHeld ?_;refine tq 17 31 rfl hHeld ?_
  (try simp only[pu])
  refine tyZ (v:= ?_) 18 32 rfl hHeld (fun v hS=> ?_) ?_;rotate_left
  ·have e0:=zad hS hxl 3 x3
   go_simp
   with_reducible rfl
  refine tq 19 33 rfl hHeld ?_
  (try simp only[pu])
  refine trZ [10] (zaN.cons rfl (fun K hK=> ?_) zaN.nil);go_simp;have HI:=zaa (zh6 x.net U nt);refine HI.out.mono ?_;rintro e wq ⟨rfl,rfl⟩;clear HI;go_wp2_with fail;refine hK.out _ _ hHeld (fun hHeld=> ?_);clear hK K;refine tq 11 25 rfl hHeld ?_
  (try simp only[pu])
  refine trZ [20] (zaN.cons rfl (fun K hK=> ?_) zaN.nil);go_simp;have HD:=zaa (zbL wq ([.s ([115,119,105,116,99,104]),.s (x.name),.s ([110,101,116]),.s (ziZ x.net),.s ([100,101,108,97,121]),.n (x.delay),.s ([115,116,111,114,101]),.n (x.store)]:List Arg) (b:=b) (HP0.out.later hHeld).lt);refine hK.out _ _ (hHeld.alloc hHeld.size _) (fun hHeld1=> ?_);clear hK K hHeld
  (try simp only[pu])
  refine zan (by kernel_rfl) ?_;simp only[List.drop_succ_cons,List.drop_zero];have HBl:=zaa (HBR0.out.trans (hHeld1.mono hB0));have HKl:=zaa (HKR0.out.trans (.later hHeld1));have HC:=zaa (zbx B b k8 _ 0 [59] _ ([.s ([115,119,105,116,99,104]),.s (x.name),.s ([110,101,116]),.s (ziZ x.net),.s ([100,101,108,97,121]),.n (x.delay),.s ([115,116,111,114,101]),.n (x.store)]:List Arg) _ (zaa (HP0.out.later hHeld1)) HD (zaa (za4 (za4 (za4 (za4 (za4 (zeR d0 (za4 (zeR d1 zbh))))))))) (by simp) (by omega) (by simp) (by rw[List.length_append];rw[swT,zaz] at hroom;omega) (Nat.le_trans hB0 hHeld1.size) hGB (zaa (hE.out.keptB HBl.out hGB)));clear hHeld1 HD;go_wp2_with fail;refine HC.out.mono ?_;rintro e w9 ⟨rfl,h1,h2,h3⟩;have HP9:=zaa h1;have HB9:=zaa (HBl.out.trans h2);have HK9:=zaa (HKl.out.trans h3);clear h1 h2 h3 HC;go_wp2_with fail;go_roundw
  case rel=>exact⟨k+1,by omega,by go_num,by rw[zaq HX.out,←List.append_assoc];exact HP9.out,HB9.out,HK9.out⟩
  case measure=>simp[intOf];omega
theorem znd (B b:Nat) (k8:C8) (L:List UInt8) (l:List zby) (W:World) (h:Hid (zb6 B b k8 L W)) (hv:Hid (DAt W (fun g=>g<B) k8.c3 (.row 4 (l.map zby.cells)))) (hF:Hid (l.all zdc=true)) (hlen:L.length+(zap zb9 l).length≤1000000) (hnl:l.length≤140737488355328) (hBw:B≤W.heap.size) (hGB:8≤B) (hE:Hid (Env W)) (_hGP:2≤B) (_hP:Hid (zcT W)):
 Calls prog 74 #[.pointer (some ⟨b,0,none⟩)] W fun e w'=>e= .returned (.tuple #[])∧zb6 B b k8 (L++zap zb9 l) w'∧Below B W w'∧PrK b W w':=by
 obtain⟨A,c,ek,hA⟩:=hv.out.sliceG;have HA:=zaa hA;rw[List.length_map] at ek;clear hA hv;have cb:W.cell? ⟨b,5,none⟩=some (.slice A l.length c):=(h.out.cell 3 (by decide)).trans (congrArg some ek);clear ek;have HL:=zaa hlen;clear hlen
 go_enter func74,ntmps74
 go_wp2_with fail;clear cb
 go_loopw [10] (fun v wr=> ∃k:Nat,k≤l.length∧v= .int .i64 k∧zb6 B b k8 (L++zap zb9 (l.take k)) wr∧Below B W wr∧PrK b W wr) (fun v _=>l.length-(intOf v).toNat)
 case atStart=>exact⟨0,by omega,rfl,by rw[zbl,List.append_nil];exact h.out,Below.refl _ _,PrK.refl _ _⟩
 case round=>
  obtain⟨k,hk,rfl,hp,hbr,hkr⟩:=hrel;have HP:=zaa hp;have HBR:=zaa hbr;have HKR:=zaa hkr;clear hp hbr hkr h;by_cases hlt:k<l.length
  rotate_left
  ·obtain rfl:k=l.length:=by omega
   rw[List.take_length] at HP;clear hlt;go_wp2_with fail
   go_end0
   exact⟨rfl,HP.out,HBR.out,HKR.out⟩
  obtain⟨x,hx⟩:=zbE hlt;obtain⟨g,off,rfl,hG,hg,hca⟩:=(HA.out.keep HBR.out).at_ hx;obtain⟨u0,c0,g0⟩:=hca 0 _ rfl;obtain rfl:=g0.leaf_eq;obtain⟨u1,c1,g1⟩:=hca 1 _ rfl;obtain rfl:=g1.leaf_eq;obtain⟨u2,c2,g2⟩:=hca 2 _ rfl;obtain rfl:=g2.leaf_eq;obtain⟨u3,c3,g3⟩:=hca 3 _ rfl;obtain rfl:=g3.leaf_eq;clear hca g0 g1 g2 g3;simp only[zav] at c0 c1 c2 c3;rw[Nat.add_zero] at c0;have k0:=kbZ k l.length;have HFx:=zaa (List.all_eq_true.1 hF.out x (List.mem_of_getElem? hx));have HX:=zaa hx;have hroom:=zat (f:=zb9) hx;have hL:=HL.out;clear hx;have HXb:=zaa (heap_alloc_new wr (.cells #[.string ⟨x.a.toArray⟩,.string ⟨x.b.toArray⟩,.int .i64 x.net,.int .i64 x.slow] 71));have HBA:=zaa ((Below.refl wr.heap.size wr).alloc (Nat.le_refl _) (.cells #[.string ⟨x.a.toArray⟩,.string ⟨x.b.toArray⟩,.int .i64 x.net,.int .i64 x.slow] 71));have hxl:wr.heap.size<(wr.alloc (.cells #[.string ⟨x.a.toArray⟩,.string ⟨x.b.toArray⟩,.int .i64 x.net,.int .i64 x.slow] 71)).heap.size:=by simp
  go_wp2_with fail;clear c0 c1 c2 c3;generalize wr.alloc _=w0 at *;have HP0:=zaa (HP.out.later HBA.out);have HKR0:=zaa (HKR.out.trans (.later HBA.out));have hBr:B≤wr.heap.size:=Nat.le_trans hBw HBR.out.size;have HBR0:=zaa (HBR.out.trans (HBA.out.mono hBr));have hB0:B≤w0.heap.size:=Nat.le_trans hBw HBR0.out.size;obtain⟨x0,x1,x2,x3⟩:=zc1 HXb.out rfl;have hq:=HFx.out;simp only[zdc,Bool.and_eq_true,beq_iff_eq,List.all_cons,List.all_nil,Bool.and_true] at hq;have nt:=hq.2.1;have d0:=hq.2.2;clear hq;refine zak (S:=fun w'=>Below w0.heap.size w0 w') 20 (by kernel_rfl) (by kernel_rfl) (Below.refl _ _).drew (fun hHeld=> ?_);generalize w0.drew=U at *;refine tq 0 14 rfl hHeld ?_;refine tq 1 15 rfl hHeld ?_;refine tq 2 16 rfl hHeld ?_;refine tq 3 17 rfl hHeld ?_;refine tq 4 18 rfl hHeld ?_
  (try simp only[pu])
  refine tyZ (v:= ?_) 5 19 rfl hHeld (fun v hS=> ?_) ?_;rotate_left
  ·have e0:=zad hS hxl 0 x0
   go_simp
   with_reducible rfl
  refine tq 6 20 rfl hHeld ?_;refine tq 7 21 rfl hHeld ?_
  (try simp only[pu])
  refine tyZ (v:= ?_) 8 22 rfl hHeld (fun v hS=> ?_) ?_;rotate_left
  ·have e0:=zad hS hxl 1 x1
   go_simp
   with_reducible rfl
  refine tq 9 23 rfl hHeld ?_;refine tq 10 24 rfl hHeld ?_;refine tq 11 25 rfl hHeld ?_
  (try simp only[pu])
  refine tyZ (v:= ?_) 12 26 rfl hHeld (fun v hS=> ?_) ?_;rotate_left
  ·have e0:=zad hS hxl 2 x2
   go_simp
   with_reducible rfl
  refine tq 15 29 rfl hHeld ?_;refine tq 16 30 rfl hHeld ?_
  (try simp only[pu])
  refine tyZ (v:= ?_) 17 31 rfl hHeld (fun v hS=> ?_) ?_;rotate_left
  ·have e0:=zad hS hxl 3 x3
   go_simp
   with_reducible rfl
  refine tq 18 32 rfl hHeld ?_
  (try simp only[pu])
  refine trZ [13] (zaN.cons rfl (fun K hK=> ?_) zaN.nil);go_simp;have HI:=zaa (zh6 x.net U nt);refine HI.out.mono ?_;rintro e wq ⟨rfl,rfl⟩;clear HI;go_wp2_with fail;refine hK.out _ _ hHeld (fun hHeld=> ?_);clear hK K;refine tq 14 28 rfl hHeld ?_
  (try simp only[pu])
  refine trZ [19] (zaN.cons rfl (fun K hK=> ?_) zaN.nil);go_simp;have HD:=zaa (zbL wq ([.s ([108,105,110,107]),.s (x.a),.s (x.b),.s ([110,101,116]),.s (ziZ x.net),.s ([115,108,111,119]),.n (x.slow)]:List Arg) (b:=b) (HP0.out.later hHeld).lt);refine hK.out _ _ (hHeld.alloc hHeld.size _) (fun hHeld1=> ?_);clear hK K hHeld
  (try simp only[pu])
  refine zan (by kernel_rfl) ?_;simp only[List.drop_succ_cons,List.drop_zero];have HBl:=zaa (HBR0.out.trans (hHeld1.mono hB0));have HKl:=zaa (HKR0.out.trans (.later hHeld1));have HC:=zaa (zbx B b k8 _ 0 [59] _ ([.s ([108,105,110,107]),.s (x.a),.s (x.b),.s ([110,101,116]),.s (ziZ x.net),.s ([115,108,111,119]),.n (x.slow)]:List Arg) _ (zaa (HP0.out.later hHeld1)) HD (zaa (za4 (za4 (za4 (za4 (za4 (za4 (zeR d0 zbh)))))))) (by simp) (by omega) (by simp) (by rw[List.length_append];rw[zb9,zaz] at hroom;omega) (Nat.le_trans hB0 hHeld1.size) hGB (zaa (hE.out.keptB HBl.out hGB)));clear hHeld1 HD;go_wp2_with fail;refine HC.out.mono ?_;rintro e w9 ⟨rfl,h1,h2,h3⟩;have HP9:=zaa h1;have HB9:=zaa (HBl.out.trans h2);have HK9:=zaa (HKl.out.trans h3);clear h1 h2 h3 HC;go_wp2_with fail;go_roundw
  case rel=>exact⟨k+1,by omega,by go_num,by rw[zaq HX.out,←List.append_assoc];exact HP9.out,HB9.out,HK9.out⟩
  case measure=>simp[intOf];omega
theorem zpo (B b:Nat) (k8:C8) (L:List UInt8) (l:List VlD) (W:World) (h:Hid (zb6 B b k8 L W)) (hv:Hid (DAt W (fun g=>g<B) k8.c4 (.row 7 (l.map VlD.cells)))) (hF:Hid (l.all vlF=true)) (hlen:L.length+(zap vlT l).length≤1000000) (hnl:l.length≤140737488355328) (hBw:B≤W.heap.size) (hGB:8≤B) (hE:Hid (Env W)) (_hGP:2≤B) (_hP:Hid (zcT W)):
 Calls prog 75 #[.pointer (some ⟨b,0,none⟩)] W fun e w'=>e= .returned (.tuple #[])∧zb6 B b k8 (L++zap vlT l) w'∧Below B W w'∧PrK b W w':=by
 obtain⟨A,c,ek,hA⟩:=hv.out.sliceG;have HA:=zaa hA;rw[List.length_map] at ek;clear hA hv;have cb:W.cell? ⟨b,6,none⟩=some (.slice A l.length c):=(h.out.cell 4 (by decide)).trans (congrArg some ek);clear ek;have HL:=zaa hlen;clear hlen
 go_enter func75,ntmps75
 go_wp2_with fail;clear cb
 go_loopw [10] (fun v wr=> ∃k:Nat,k≤l.length∧v= .int .i64 k∧zb6 B b k8 (L++zap vlT (l.take k)) wr∧Below B W wr∧PrK b W wr) (fun v _=>l.length-(intOf v).toNat)
 case atStart=>exact⟨0,by omega,rfl,by rw[zbl,List.append_nil];exact h.out,Below.refl _ _,PrK.refl _ _⟩
 case round=>
  obtain⟨k,hk,rfl,hp,hbr,hkr⟩:=hrel;have HP:=zaa hp;have HBR:=zaa hbr;have HKR:=zaa hkr;clear hp hbr hkr h;by_cases hlt:k<l.length
  rotate_left
  ·obtain rfl:k=l.length:=by omega
   rw[List.take_length] at HP;clear hlt;go_wp2_with fail
   go_end0
   exact⟨rfl,HP.out,HBR.out,HKR.out⟩
  obtain⟨x,hx⟩:=zbE hlt;obtain⟨g,off,rfl,hG,hg,hca⟩:=(HA.out.keep HBR.out).at_ hx;obtain⟨u0,c0,g0⟩:=hca 0 _ rfl;obtain rfl:=g0.leaf_eq;obtain⟨u1,c1,g1⟩:=hca 1 _ rfl;obtain rfl:=g1.leaf_eq;obtain⟨u2,c2,g2⟩:=hca 2 _ rfl;obtain rfl:=g2.leaf_eq;obtain⟨u3,c3,g3⟩:=hca 3 _ rfl;obtain rfl:=g3.leaf_eq;obtain⟨u4,c4,g4⟩:=hca 4 _ rfl;obtain rfl:=g4.leaf_eq;obtain⟨u5,c5,g5⟩:=hca 5 _ rfl;obtain rfl:=g5.leaf_eq;obtain⟨u6,c6,g6⟩:=hca 6 _ rfl;have HG6:=zaa g6;obtain⟨A6,q6,rfl, -⟩:=g6.sliceG;rw[List.length_map] at HG6 c6;clear hca g0 g1 g2 g3 g4 g5 g6;simp only[zav] at c0 c1 c2 c3 c4 c5 c6;rw[Nat.add_zero] at c0;have k0:=kbZ k l.length;have HFx:=zaa (List.all_eq_true.1 hF.out x (List.mem_of_getElem? hx));have HX:=zaa hx;have hroom:=zat (f:=vlT) hx;have hL:=HL.out;clear hx;have HXb:=zaa (heap_alloc_new wr (.cells #[.string ⟨x.name.toArray⟩,.string ⟨x.from_.m.toArray⟩,.string ⟨x.from_.p.toArray⟩,.string ⟨x.from_.o.toArray⟩,.int .i64 x.bag,.int .i64 x.max,.slice A6 x.to.length q6] 61));have HBA:=zaa ((Below.refl wr.heap.size wr).alloc (Nat.le_refl _) (.cells #[.string ⟨x.name.toArray⟩,.string ⟨x.from_.m.toArray⟩,.string ⟨x.from_.p.toArray⟩,.string ⟨x.from_.o.toArray⟩,.int .i64 x.bag,.int .i64 x.max,.slice A6 x.to.length q6] 61));have hxl:wr.heap.size<(wr.alloc (.cells #[.string ⟨x.name.toArray⟩,.string ⟨x.from_.m.toArray⟩,.string ⟨x.from_.p.toArray⟩,.string ⟨x.from_.o.toArray⟩,.int .i64 x.bag,.int .i64 x.max,.slice A6 x.to.length q6] 61)).heap.size:=by simp
  go_wp2_with fail;clear c0 c1 c2 c3 c4 c5 c6;generalize wr.alloc _=w0 at *;have HP0:=zaa (HP.out.later HBA.out);have HKR0:=zaa (HKR.out.trans (.later HBA.out));have hBr:B≤wr.heap.size:=Nat.le_trans hBw HBR.out.size;have HBR0:=zaa (HBR.out.trans (HBA.out.mono hBr));have hB0:B≤w0.heap.size:=Nat.le_trans hBw HBR0.out.size;obtain⟨x0,x1,x2,x3,x4,x5,x6⟩:=zpm HXb.out rfl;have hq:=HFx.out;simp only[vlF,Bool.and_eq_true,List.all_cons,List.all_nil,Bool.and_true] at hq;have d0:=hq.2.2.1;have d1:=hq.2.2.2;clear hq;have hroom2:=hroom;rw[vlT,zaz] at hroom2;simp only[zbK,Arg.txt,List.map_cons,List.map_nil,List.flatten_cons,List.flatten_nil,List.length_append,List.length_cons,List.length_nil] at hroom2;have r0:=ze6 (x:=x.from_) (by omega);have r1:(zcL x.to).length≤1000000:=by omega
  clear hroom2;refine zak (S:=fun w'=>Below w0.heap.size w0 w') 26 (by kernel_rfl) (by kernel_rfl) (Below.refl _ _).drew (fun hHeld=> ?_);generalize w0.drew=U at *;refine tq 0 14 rfl hHeld ?_;refine tq 1 15 rfl hHeld ?_;refine tq 2 16 rfl hHeld ?_;refine tq 3 17 rfl hHeld ?_;refine tq 4 18 rfl hHeld ?_
  (try simp only[pu])
  refine tyZ (v:= ?_) 5 19 rfl hHeld (fun v hS=> ?_) ?_;rotate_left
  ·have e0:=zad hS hxl 0 x0
   go_simp
   with_reducible rfl
  refine tq 6 20 rfl hHeld ?_;refine tq 7 21 rfl hHeld ?_;refine tq 8 22 rfl hHeld ?_
  (try simp only[pu])
  refine tyZ (v:= ?_) 9 23 rfl hHeld (fun v hS=> ?_) ?_;rotate_left
  ·have e0:=zad hS hxl 1 x1
   have e1:=zad hS hxl 2 x2;have e2:=zad hS hxl 3 x3;go_simp
   with_reducible rfl
  refine tq 12 26 rfl hHeld ?_;refine tq 13 27 rfl hHeld ?_
  (try simp only[pu])
  refine tyZ (v:= ?_) 14 28 rfl hHeld (fun v hS=> ?_) ?_;rotate_left
  ·have e0:=zad hS hxl 4 x4
   go_simp
   with_reducible rfl
  refine tq 15 29 rfl hHeld ?_;refine tq 16 30 rfl hHeld ?_;refine tq 17 31 rfl hHeld ?_
  (try simp only[pu])
  refine tyZ (v:= ?_) 18 32 rfl hHeld (fun v hS=> ?_) ?_;rotate_left
  ·have e0:=zad hS hxl 5 x5
   go_simp
   with_reducible rfl
  refine tq 19 33 rfl hHeld ?_;refine tq 20 34 rfl hHeld ?_;refine tq 21 35 rfl hHeld ?_
  (try simp only[pu])
  refine tyZ (v:= ?_) 22 36 rfl hHeld (fun v hS=> ?_) ?_;rotate_left
  ·have e0:=zad hS hxl 6 x6
   go_simp
   with_reducible rfl
  (try simp only[pu])
  refine trZ [10] (zaN.cons rfl (fun K hK=> ?_) zaN.nil);go_simp;have HI:=zaa (zfN x.from_ [.string ⟨x.from_.m.toArray⟩,.string ⟨x.from_.p.toArray⟩,.string ⟨x.from_.o.toArray⟩] U r0.1 r0.2.1 r0.2.2 (zaa (zab.cons (.leaf _) (zab.cons (.leaf _) (zab.cons (.leaf _) zab.nil)))));refine HI.out.mono ?_;rintro e Ua ⟨rfl,hb⟩;have hSUa:=hHeld.trans (hb.mono hHeld.size);clear hb HI hHeld;go_wp2_with fail;refine hK.out _ _ hSUa (fun hHeld=> ?_);clear hK K hSUa;refine tq 11 25 rfl hHeld ?_
  (try simp only[pu])
  refine trZ [23] (zaN.cons rfl (fun K hK=> ?_) zaN.nil);go_simp;have HI:=zaa (zgy (.slice A6 x.to.length q6) x.to Ua (zaa (((HG6.out.lateG (HBA.out.mono hBr)).lateG (hHeld.mono hB0)).mono (fun _ _ _=>trivial))) r1);refine HI.out.mono ?_;rintro e Uaa ⟨rfl,hb⟩;have hSUaa:=hHeld.trans (hb.mono hHeld.size);clear hb HI hHeld;go_wp2_with fail;refine hK.out _ _ hSUaa (fun hHeld=> ?_);clear hK K hSUaa;refine tq 24 38 rfl hHeld ?_
  (try simp only[pu])
  refine trZ [25] (zaN.cons rfl (fun K hK=> ?_) zaN.nil);go_simp;have HD:=zaa (zbL Uaa ([.s ([118,108]),.s (x.name),.s ([102,114,111,109]),.s (zdv x.from_),.s ([98,97,103]),.n (x.bag),.s ([109,97,120]),.n (x.max),.s ([116,111]),.s (zcL x.to)]:List Arg) (b:=b) (HP0.out.later hHeld).lt);refine hK.out _ _ (hHeld.alloc hHeld.size _) (fun hHeld1=> ?_);clear hK K hHeld
  (try simp only[pu])
  refine zan (by kernel_rfl) ?_;simp only[List.drop_succ_cons,List.drop_zero];have HBl:=zaa (HBR0.out.trans (hHeld1.mono hB0));have HKl:=zaa (HKR0.out.trans (.later hHeld1));have HC:=zaa (zbx B b k8 _ 0 [59] _ ([.s ([118,108]),.s (x.name),.s ([102,114,111,109]),.s (zdv x.from_),.s ([98,97,103]),.n (x.bag),.s ([109,97,120]),.n (x.max),.s ([116,111]),.s (zcL x.to)]:List Arg) _ (zaa (HP0.out.later hHeld1)) HD (zaa (za4 (za4 (za4 (za4 (za4 (zeR d0 (za4 (zeR d1 (za4 (za4 zbh))))))))))) (by simp) (by omega) (by simp) (by rw[List.length_append];rw[vlT,zaz] at hroom;omega) (Nat.le_trans hB0 hHeld1.size) hGB (zaa (hE.out.keptB HBl.out hGB)));clear hHeld1 HD;go_wp2_with fail;refine HC.out.mono ?_;rintro e w9 ⟨rfl,h1,h2,h3⟩;have HP9:=zaa h1;have HB9:=zaa (HBl.out.trans h2);have HK9:=zaa (HKl.out.trans h3);clear h1 h2 h3 HC;go_wp2_with fail;go_roundw
  case rel=>exact⟨k+1,by omega,by go_num,by rw[zaq HX.out,←List.append_assoc];exact HP9.out,HB9.out,HK9.out⟩
  case measure=>simp[intOf];omega
theorem ziv (B b:Nat) (k8:C8) (L:List UInt8) (l:List zdt) (W:World) (h:Hid (zb6 B b k8 L W)) (hv:Hid (DAt W (fun g=>g<B) k8.c7 (.row 4 (l.map zdt.cells)))) (hF:Hid (l.all zgN=true)) (hlen:L.length+(zap zf2 l).length≤1000000) (hnl:l.length≤140737488355328) (hBw:B≤W.heap.size) (hGB:8≤B) (hE:Hid (Env W)) (_hGP:2≤B) (_hP:Hid (zcT W)):
 Calls prog 78 #[.pointer (some ⟨b,0,none⟩)] W fun e w'=>e= .returned (.tuple #[])∧zb6 B b k8 (L++zap zf2 l) w'∧Below B W w'∧PrK b W w':=by
 obtain⟨A,c,ek,hA⟩:=hv.out.sliceG;have HA:=zaa hA;rw[List.length_map] at ek;clear hA hv;have cb:W.cell? ⟨b,9,none⟩=some (.slice A l.length c):=(h.out.cell 7 (by decide)).trans (congrArg some ek);clear ek;have HL:=zaa hlen;clear hlen
 go_enter func78,ntmps78
 go_wp2_with fail;clear cb
 go_loopw [10] (fun v wr=> ∃k:Nat,k≤l.length∧v= .int .i64 k∧zb6 B b k8 (L++zap zf2 (l.take k)) wr∧Below B W wr∧PrK b W wr) (fun v _=>l.length-(intOf v).toNat)
 case atStart=>exact⟨0,by omega,rfl,by rw[zbl,List.append_nil];exact h.out,Below.refl _ _,PrK.refl _ _⟩
 case round=>
  obtain⟨k,hk,rfl,hp,hbr,hkr⟩:=hrel;have HP:=zaa hp;have HBR:=zaa hbr;have HKR:=zaa hkr;clear hp hbr hkr h;by_cases hlt:k<l.length
  rotate_left
  ·obtain rfl:k=l.length:=by omega
   rw[List.take_length] at HP;clear hlt;go_wp2_with fail
   go_end0
   exact⟨rfl,HP.out,HBR.out,HKR.out⟩
  obtain⟨x,hx⟩:=zbE hlt;obtain⟨g,off,rfl,hG,hg,hca⟩:=(HA.out.keep HBR.out).at_ hx;obtain⟨u0,c0,g0⟩:=hca 0 _ rfl;obtain rfl:=g0.leaf_eq;obtain⟨u1,c1,g1⟩:=hca 1 _ rfl;obtain rfl:=g1.leaf_eq;obtain⟨u2,c2,g2⟩:=hca 2 _ rfl;obtain rfl:=g2.leaf_eq;obtain⟨u3,c3,g3⟩:=hca 3 _ rfl;obtain rfl:=g3.leaf_eq;clear hca g0 g1 g2 g3;simp only[zav] at c0 c1 c2 c3;rw[Nat.add_zero] at c0;have k0:=kbZ k l.length;have HFx:=zaa (List.all_eq_true.1 hF.out x (List.mem_of_getElem? hx));have HX:=zaa hx;have hroom:=zat (f:=zf2) hx;have hL:=HL.out;clear hx;have HXb:=zaa (heap_alloc_new wr (.cells #[.string ⟨x.a.toArray⟩,.int .i64 x.va,.string ⟨x.b.toArray⟩,.int .i64 x.vb] 75));have HBA:=zaa ((Below.refl wr.heap.size wr).alloc (Nat.le_refl _) (.cells #[.string ⟨x.a.toArray⟩,.int .i64 x.va,.string ⟨x.b.toArray⟩,.int .i64 x.vb] 75));have hxl:wr.heap.size<(wr.alloc (.cells #[.string ⟨x.a.toArray⟩,.int .i64 x.va,.string ⟨x.b.toArray⟩,.int .i64 x.vb] 75)).heap.size:=by simp
  go_wp2_with fail;clear c0 c1 c2 c3;generalize wr.alloc _=w0 at *;have HP0:=zaa (HP.out.later HBA.out);have HKR0:=zaa (HKR.out.trans (.later HBA.out));have hBr:B≤wr.heap.size:=Nat.le_trans hBw HBR.out.size;have HBR0:=zaa (HBR.out.trans (HBA.out.mono hBr));have hB0:B≤w0.heap.size:=Nat.le_trans hBw HBR0.out.size;obtain⟨x0,x1,x2,x3⟩:=zc1 HXb.out rfl;have hq:=HFx.out;simp only[zgN,Bool.and_eq_true,List.all_cons,List.all_nil,Bool.and_true] at hq;have d0:=hq.2.1;have d1:=hq.2.2;clear hq;refine zak (S:=fun w'=>Below w0.heap.size w0 w') 18 (by kernel_rfl) (by kernel_rfl) (Below.refl _ _).drew (fun hHeld=> ?_);generalize w0.drew=U at *;refine tq 0 14 rfl hHeld ?_;refine tq 1 15 rfl hHeld ?_;refine tq 2 16 rfl hHeld ?_;refine tq 3 17 rfl hHeld ?_;refine tq 4 18 rfl hHeld ?_
  (try simp only[pu])
  refine tyZ (v:= ?_) 5 19 rfl hHeld (fun v hS=> ?_) ?_;rotate_left
  ·have e0:=zad hS hxl 0 x0
   go_simp
   with_reducible rfl
  refine tq 6 20 rfl hHeld ?_;refine tq 7 21 rfl hHeld ?_
  (try simp only[pu])
  refine tyZ (v:= ?_) 8 22 rfl hHeld (fun v hS=> ?_) ?_;rotate_left
  ·have e0:=zad hS hxl 1 x1
   go_simp
   with_reducible rfl
  refine tq 9 23 rfl hHeld ?_;refine tq 10 24 rfl hHeld ?_;refine tq 11 25 rfl hHeld ?_
  (try simp only[pu])
  refine tyZ (v:= ?_) 12 26 rfl hHeld (fun v hS=> ?_) ?_;rotate_left
  ·have e0:=zad hS hxl 2 x2
   go_simp
   with_reducible rfl
  refine tq 13 27 rfl hHeld ?_;refine tq 14 28 rfl hHeld ?_
  (try simp only[pu])
  refine tyZ (v:= ?_) 15 29 rfl hHeld (fun v hS=> ?_) ?_;rotate_left
  ·have e0:=zad hS hxl 3 x3
   go_simp
   with_reducible rfl
  refine tq 16 30 rfl hHeld ?_
  (try simp only[pu])
  refine trZ [17] (zaN.cons rfl (fun K hK=> ?_) zaN.nil);go_simp;have HD:=zaa (zbL U ([.s ([119,111,114,107,115]),.s (x.a),.n (x.va),.s ([119,105,116,104]),.s (x.b),.n (x.vb)]:List Arg) (b:=b) (HP0.out.later hHeld).lt);refine hK.out _ _ (hHeld.alloc hHeld.size _) (fun hHeld1=> ?_);clear hK K hHeld
  (try simp only[pu])
  refine zan (by kernel_rfl) ?_;simp only[List.drop_succ_cons,List.drop_zero];have HBl:=zaa (HBR0.out.trans (hHeld1.mono hB0));have HKl:=zaa (HKR0.out.trans (.later hHeld1));have HC:=zaa (zbx B b k8 _ 0 [59] _ ([.s ([119,111,114,107,115]),.s (x.a),.n (x.va),.s ([119,105,116,104]),.s (x.b),.n (x.vb)]:List Arg) _ (zaa (HP0.out.later hHeld1)) HD (zaa (za4 (za4 (zeR d0 (za4 (za4 (zeR d1 zbh))))))) (by simp) (by omega) (by simp) (by rw[List.length_append];rw[zf2,zaz] at hroom;omega) (Nat.le_trans hB0 hHeld1.size) hGB (zaa (hE.out.keptB HBl.out hGB)));clear hHeld1 HD;go_wp2_with fail;refine HC.out.mono ?_;rintro e w9 ⟨rfl,h1,h2,h3⟩;have HP9:=zaa h1;have HB9:=zaa (HBl.out.trans h2);have HK9:=zaa (HKl.out.trans h3);clear h1 h2 h3 HC;go_wp2_with fail;go_roundw
  case rel=>exact⟨k+1,by omega,by go_num,by rw[zaq HX.out,←List.append_assoc];exact HP9.out,HB9.out,HK9.out⟩
  case measure=>simp[intOf];omega
end Go.Proofs.YtgbfaompondolaaGreatDoor
