/- Merged texts of the walks and of the plain laws on which the statement leans.-/
import Derived.Test.YtgbfaompondolaaGreatDoorPk1
import Derived.Test.YtgbfaompondolaaGreatDoorPk21
import Derived.Test.YtgbfaompondolaaGreatDoorPk11
import Derived.Laws.MakeOwn
set_option maxHeartbeats 4000000
set_option maxRecDepth 100000
namespace Go.Proofs.YtgbfaompondolaaGreatDoor
open Go.Proofs.Tryz
open Go.RowKit
attribute [local go_sem] zaj.cell
theorem zmf {n:Int} (h:zdq n=true):zbj n=true:=by
 simp[zdq] at h;subst h
 decide
theorem zlZ {x:zb3} (h:zeg x=true):[x.a,x.b,x.c].all zbj=true:=by
 simp only[zeg,Bool.and_eq_true] at h;have e:=List.take_append_drop (zaf zaP x.op).length [x.a,x.b,x.c];rw[←e,List.all_append,Bool.and_eq_true];exact⟨h.2.1,List.all_eq_true.2 (fun z hz=>zmf (List.all_eq_true.1 h.2.2 z hz))⟩
theorem eq0 (n:Int):((n==0)=true∧zdq n=true)∨((n==0)=false∧zdq n=false):=by
 by_cases h:n=0
 ·exact .inl ⟨by simp[h],by simp[zdq,h]⟩
 ·exact .inr ⟨by simp[h],by simp[zdq,h]⟩
theorem zhB (x:zb3) (hop:x.op≤255) (W:World):
 Calls prog 110 #[.agg #[.int .u8 (x.op:Int),.int .i64 x.a,.int .i64 x.b,.int .i64 x.c]] W fun e w'=>e= .returned (.bool (zeg x))∧Below W.heap.size W w':=by
 have h3:=zdR x.op hop;have HO:=zaa (fun V=>zhm x.op hop V);have HW:=zaa (fun V=>zga x.op hop V);obtain⟨O,hO⟩: ∃O:ByteArray,(⟨(zaf zaP x.op).toArray⟩:ByteArray)=O:=⟨_,rfl⟩;have hOs:O.size=(zaf zaP x.op).length:=by rw[←hO];simp[ByteArray.size]
 rw[hO] at HO;have hI:zeg x=((zaf zaA x.op != [])&&(([x.a,x.b,x.c].take (zaf zaP x.op).length).all zbj&&([x.a,x.b,x.c].drop (zaf zaP x.op).length).all zdq)):=rfl;have hw:=za9 (zaf zaA x.op);have HNO:=zaa (fun h:[x.a,x.b,x.c].all zbj=false=>show zeg x=false by
  cases hf:zeg x with
  |false=>rfl
  |true=>rw[zlZ hf] at h;cases h)
 generalize(zaf zaA x.op != [])=z0 at *;generalize hS:(⟨(zaf zaA x.op).toArray⟩:ByteArray)=S at *;clear hO hS;have HX:=zaa (heap_alloc_new W (.cells #[.int .u8 (x.op:Int),.int .i64 x.a,.int .i64 x.b,.int .i64 x.c] 78));have HB:=zaa ((Below.refl W.heap.size W).alloc (Nat.le_refl _) (.cells #[.int .u8 (x.op:Int),.int .i64 x.a,.int .i64 x.b,.int .i64 x.c] 78))
 go_enter func110,ntmps110
 go_wp2_with fail;generalize W.alloc _=w0 at *;refine(HO.out w0).mono ?_;rintro e w1 ⟨rfl,hb⟩;have HBn:=zaa (btZ HB.out hb);have HXn:=zaa (bkZ hb HX.out);clear HB HX hb;have HB:=HBn;have HX:=HXn;clear HBn HXn;have HI:=zaa hI;clear hI;rcases hw with⟨hw,hz⟩|⟨hw,hz⟩
 ·subst hz
  rw[hw] at HW;clear hw hOs h3;obtain⟨c0,c1,c2,c3⟩:=zc1 HX.out rfl;go_wp2_with fail;clear c0 c1 c2 c3;refine(HW.out w1).mono ?_;rintro e w2 ⟨rfl,hb⟩;have HBn:=zaa (btZ HB.out hb);have HXn:=zaa (bkZ hb HX.out);clear HB HX hb;have HB:=HBn;have HX:=HXn;clear HBn HXn;obtain⟨c0,c1,c2,c3⟩:=zc1 HX.out rfl;go_wp2_with fail;clear c0 c1 c2 c3;go_ret;exact⟨by rw[HI.out];rfl,HB.out⟩
 subst hz;obtain⟨c0,c1,c2,c3⟩:=zc1 HX.out rfl;go_wp2_with fail;clear c0 c1 c2 c3;refine(HW.out w1).mono ?_;rintro e w2 ⟨rfl,hb⟩;have HBn:=zaa (btZ HB.out hb);have HXn:=zaa (bkZ hb HX.out);clear HB HX hb;have HB:=HBn;have HX:=HXn;clear HBn HXn;obtain⟨c0,c1,c2,c3⟩:=zc1 HX.out rfl;go_wp2_with fail;clear c0 c1 c2 c3;have HBa:=zaa (HB.out.alloc HB.out.size (.cells #[.int .i64 x.a,.int .i64 x.b,.int .i64 x.c] 3));have HXa:=zaa ((Below.heap_alloc w2 (.cells #[.int .i64 x.a,.int .i64 x.b,.int .i64 x.c] 3) _ (zau HX.out)).trans HX.out);have HC:=zaa (zbB (.slice (some ⟨w2.heap.size,0,none⟩) 3 3) [x.a,x.b,x.c] (w2.alloc (.cells #[.int .i64 x.a,.int .i64 x.b,.int .i64 x.c] 3)) (zaa (za6 w2 [x.a,x.b,x.c] 3)) (by simp));clear HX HB;have HX:=HXa;have HB:=HBa;clear HXa HBa
 cases hal:[x.a,x.b,x.c].all zbj with
 |false=>
  have HNI:=zaa (HNO.out hal);rw[hal] at HC;clear hal HNO HI hOs h3;refine HC.out.mono ?_;rintro e w3 ⟨rfl,hb⟩;have HBn:=zaa (btZ HB.out hb);have HXn:=zaa (bkZ hb HX.out);clear HB HX hb;have HB:=HBn;have HX:=HXn;clear HBn HXn;obtain⟨c0,c1,c2,c3⟩:=zc1 HX.out rfl;go_wp2_with fail;clear c0 c1 c2 c3;go_ret;exact⟨by rw[HNI.out];rfl,HB.out⟩
 |true=>
  have HA:=zaa (show zbj x.a=true∧zbj x.b=true∧zbj x.c=true by simpa using hal);rw[hal] at HC;clear hal HNO;refine HC.out.mono ?_;rintro e w3 ⟨rfl,hb⟩;have HBn:=zaa (btZ HB.out hb);have HXn:=zaa (bkZ hb HX.out);clear HB HX hb;have HB:=HBn;have HX:=HXn;clear HBn HXn;rcases(by omega:(zaf zaP x.op).length=0∨(zaf zaP x.op).length=1∨(zaf zaP x.op).length=2∨(zaf zaP x.op).length=3) with hn|hn|hn|hn
  ·rw[hn] at hOs HI
   clear h3;rcases eq0 x.a with⟨ea,fa⟩|⟨ea,fa⟩
   ·rcases eq0 x.b with⟨eb,fb⟩|⟨eb,fb⟩
    ·rcases eq0 x.c with⟨ec,fc⟩|⟨ec,fc⟩
     ·skip
      obtain⟨c0,c1,c2,c3⟩:=zc1 HX.out rfl;go_wp2_with fail;clear c0 c1 c2 c3;go_ret;exact⟨by rw[HI.out];have:=HA.out;simp[*],HB.out⟩
     ·skip
      obtain⟨c0,c1,c2,c3⟩:=zc1 HX.out rfl;go_wp2_with fail;clear c0 c1 c2 c3;go_ret;exact⟨by rw[HI.out];have:=HA.out;simp[*],HB.out⟩
    ·skip
     obtain⟨c0,c1,c2,c3⟩:=zc1 HX.out rfl;go_wp2_with fail;clear c0 c1 c2 c3;go_ret;exact⟨by rw[HI.out];have:=HA.out;simp[*],HB.out⟩
   ·skip
    obtain⟨c0,c1,c2,c3⟩:=zc1 HX.out rfl;go_wp2_with fail;clear c0 c1 c2 c3;go_ret;exact⟨by rw[HI.out];have:=HA.out;simp[*],HB.out⟩
  ·rw[hn] at hOs HI
   clear h3;rcases eq0 x.b with⟨eb,fb⟩|⟨eb,fb⟩
   ·rcases eq0 x.c with⟨ec,fc⟩|⟨ec,fc⟩
    ·skip
     obtain⟨c0,c1,c2,c3⟩:=zc1 HX.out rfl;go_wp2_with fail;clear c0 c1 c2 c3;go_ret;exact⟨by rw[HI.out];have:=HA.out;simp[*],HB.out⟩
    ·skip
     obtain⟨c0,c1,c2,c3⟩:=zc1 HX.out rfl;go_wp2_with fail;clear c0 c1 c2 c3;go_ret;exact⟨by rw[HI.out];have:=HA.out;simp[*],HB.out⟩
   ·skip
    obtain⟨c0,c1,c2,c3⟩:=zc1 HX.out rfl;go_wp2_with fail;clear c0 c1 c2 c3;go_ret;exact⟨by rw[HI.out];have:=HA.out;simp[*],HB.out⟩
  ·rw[hn] at hOs HI
   clear h3;rcases eq0 x.c with⟨ec,fc⟩|⟨ec,fc⟩
   ·skip
    obtain⟨c0,c1,c2,c3⟩:=zc1 HX.out rfl;go_wp2_with fail;clear c0 c1 c2 c3;go_ret;exact⟨by rw[HI.out];have:=HA.out;simp[*],HB.out⟩
   ·skip
    obtain⟨c0,c1,c2,c3⟩:=zc1 HX.out rfl;go_wp2_with fail;clear c0 c1 c2 c3;go_ret;exact⟨by rw[HI.out];have:=HA.out;simp[*],HB.out⟩
  ·rw[hn] at hOs HI
   clear h3;obtain⟨c0,c1,c2,c3⟩:=zc1 HX.out rfl;go_wp2_with fail;clear c0 c1 c2 c3;go_ret;exact⟨by rw[HI.out];have:=HA.out;simp[*],HB.out⟩
theorem zjj {α:Type} (f:α→List UInt8) (l:List α) (k:Nat) (x:α) (h:l[k]? =some x):Lib.join ((l.take (k+1)).map f) [32]=Lib.join ((l.take k).map f) [32]++(if k=0 then[] else[32])++f x:=by
 cases l with
 |nil=>simp at h
 |cons a l=>
  cases k with
  |zero=>
   simp only[List.getElem?_cons_zero,Option.some.injEq] at h;subst h;simp[Lib.join_nil,Lib.join_one]
  |succ k=>
   simp only[List.getElem?_cons_succ] at h;rw[List.take_succ_cons,List.take_succ_cons,List.map_cons,List.map_cons,Lib.join_cons,Lib.join_cons,List.map_take,List.map_take,Lib.joinTail_take_succ [32] (l.map f) k (f x) (by rw[List.getElem?_map,h];rfl)];simp
theorem cells2 {w:World} {b:Nat} {T:TypeId} {v0 v1:Value} (h:w.heap[b]? =some (.cells #[v0,v1] T (0,0))):w.cell? ⟨b,0,none⟩=some v0∧w.cell? ⟨b,1,none⟩=some v1:=⟨cell_of_row _ _ 0 _ _ _ h,cell_of_row _ _ 1 _ _ _ h⟩
theorem zcW {w:World} {b:Nat} {T:TypeId} {v0 v1 v2:Value} (h:w.heap[b]? =some (.cells #[v0,v1,v2] T (0,0))):w.cell? ⟨b,0,none⟩=some v0∧w.cell? ⟨b,1,none⟩=some v1∧w.cell? ⟨b,2,none⟩=some v2:=⟨cell_of_row _ _ 0 _ _ _ h,cell_of_row _ _ 1 _ _ _ h,cell_of_row _ _ 2 _ _ _ h⟩
theorem zci {w:World} {b:Nat} {T:TypeId} {v0 v1 v2 v3:Value} (h:w.heap[b]? =some (.cells #[v0,v1,v2,v3] T (0,0))):w.cell? ⟨b,0,none⟩=some v0∧w.cell? ⟨b,1,none⟩=some v1∧w.cell? ⟨b,2,none⟩=some v2∧w.cell? ⟨b,3,none⟩=some v3:=⟨cell_of_row _ _ 0 _ _ _ h,cell_of_row _ _ 1 _ _ _ h,cell_of_row _ _ 2 _ _ _ h,cell_of_row _ _ 3 _ _ _ h⟩
theorem zet {w:World} {b:Nat} {T:TypeId} {v0 v1 v2 v3 v4:Value} (h:w.heap[b]? =some (.cells #[v0,v1,v2,v3,v4] T (0,0))):w.cell? ⟨b,0,none⟩=some v0∧w.cell? ⟨b,1,none⟩=some v1∧w.cell? ⟨b,2,none⟩=some v2∧w.cell? ⟨b,3,none⟩=some v3∧w.cell? ⟨b,4,none⟩=some v4:=⟨cell_of_row _ _ 0 _ _ _ h,cell_of_row _ _ 1 _ _ _ h,cell_of_row _ _ 2 _ _ _ h,cell_of_row _ _ 3 _ _ _ h,cell_of_row _ _ 4 _ _ _ h⟩
theorem zej {w:World} {b:Nat} {T:TypeId} {v0 v1 v2 v3 v4 v5 v6:Value} (h:w.heap[b]? =some (.cells #[v0,v1,v2,v3,v4,v5,v6] T (0,0))):w.cell? ⟨b,0,none⟩=some v0∧w.cell? ⟨b,1,none⟩=some v1∧w.cell? ⟨b,2,none⟩=some v2∧w.cell? ⟨b,3,none⟩=some v3∧w.cell? ⟨b,4,none⟩=some v4∧w.cell? ⟨b,5,none⟩=some v5∧w.cell? ⟨b,6,none⟩=some v6:=⟨cell_of_row _ _ 0 _ _ _ h,cell_of_row _ _ 1 _ _ _ h,cell_of_row _ _ 2 _ _ _ h,cell_of_row _ _ 3 _ _ _ h,cell_of_row _ _ 4 _ _ _ h,cell_of_row _ _ 5 _ _ _ h,cell_of_row _ _ 6 _ _ _ h⟩
theorem zaG {w:World} {b:Nat} {T:TypeId} {v0 v1 v2 v3 v4 v5 v6 v7:Value} (h:w.heap[b]? =some (.cells #[v0,v1,v2,v3,v4,v5,v6,v7] T (0,0))):w.cell? ⟨b,0,none⟩=some v0∧w.cell? ⟨b,1,none⟩=some v1∧w.cell? ⟨b,2,none⟩=some v2∧w.cell? ⟨b,3,none⟩=some v3∧w.cell? ⟨b,4,none⟩=some v4∧w.cell? ⟨b,5,none⟩=some v5∧w.cell? ⟨b,6,none⟩=some v6∧w.cell? ⟨b,7,none⟩=some v7:=⟨cell_of_row _ _ 0 _ _ _ h,cell_of_row _ _ 1 _ _ _ h,cell_of_row _ _ 2 _ _ _ h,cell_of_row _ _ 3 _ _ _ h,cell_of_row _ _ 4 _ _ _ h,cell_of_row _ _ 5 _ _ _ h,cell_of_row _ _ 6 _ _ _ h,cell_of_row _ _ 7 _ _ _ h⟩
theorem zaZ {w:World} {b:Nat} {T:TypeId} {v0 v1 v2 v3 v4 v5 v6 v7 v8 v9:Value} (h:w.heap[b]? =some (.cells #[v0,v1,v2,v3,v4,v5,v6,v7,v8,v9] T (0,0))):w.cell? ⟨b,0,none⟩=some v0∧w.cell? ⟨b,1,none⟩=some v1∧w.cell? ⟨b,2,none⟩=some v2∧w.cell? ⟨b,3,none⟩=some v3∧w.cell? ⟨b,4,none⟩=some v4∧w.cell? ⟨b,5,none⟩=some v5∧w.cell? ⟨b,6,none⟩=some v6∧w.cell? ⟨b,7,none⟩=some v7∧w.cell? ⟨b,8,none⟩=some v8∧w.cell? ⟨b,9,none⟩=some v9:=⟨cell_of_row _ _ 0 _ _ _ h,cell_of_row _ _ 1 _ _ _ h,cell_of_row _ _ 2 _ _ _ h,cell_of_row _ _ 3 _ _ _ h,cell_of_row _ _ 4 _ _ _ h,cell_of_row _ _ 5 _ _ _ h,cell_of_row _ _ 6 _ _ _ h,cell_of_row _ _ 7 _ _ _ h,cell_of_row _ _ 8 _ _ _ h,cell_of_row _ _ 9 _ _ _ h⟩
structure Two (W0:World) (b1:Nat) (o1:Obj) (b2:Nat) (o2:Obj) (w:World):Prop where
 x:w.heap[b1]? =some o1
 y:w.heap[b2]? =some o2
 b:Below W0.heap.size W0 w
theorem zbY (W:World) (a b:Obj):Two W W.heap.size a (W.heap.size+1) b ((W.alloc a).alloc b) where
 x:=(Below.heap_alloc (W.alloc a) b W.heap.size (by simp)).trans (heap_alloc_new W a)
 y:=by
  have h:=heap_alloc_new (W.alloc a) b;rw[World.size_alloc] at h;exact h
 b:=((Below.refl W.heap.size W).alloc (Nat.le_refl _) a).alloc (by simp) b
theorem Two.step {W0:World} {b1 b2:Nat} {o1 o2:Obj} {w w':World} (h:Two W0 b1 o1 b2 o2 w) (hb:Below w.heap.size w w'):Two W0 b1 o1 b2 o2 w' where
 x:=(hb.block _ (zau h.x)).trans h.x
 y:=(hb.block _ (zau h.y)).trans h.y
 b:=h.b.trans (hb.mono h.b.size)
theorem zlJ {l:List zb3} {k:Nat} {x:zb3} (h:l[k]? =some x) (hF:zeg x=false):codeE l= .tuple #[.string ⟨#[]⟩,.int .i64 2]:=by
 unfold codeE;rw[if_neg (by rw[zaH h hF];decide)]
theorem znO (v:Value) (l:List zb3) (W:World) (hv:Hid (DAt W (fun _=>True) v (.row 4 (l.map zb3.cells)))) (hop: ∀x∈l,x.op≤255) (hn:l.length≤1000000):
 Calls prog 23 #[v] W fun e w'=>e= .returned (codeE l)∧Below W.heap.size W w':=by
 obtain⟨A,c,rfl,hA⟩:=hv.out.slice;have HA:=zaa hA;clear hA hv;rw[List.length_map]
 go_enter func23,ntmps23
 go_wp2_with fail
 go_loopw [4,5] (fun v4 v5 wr=> ∃(k:Nat) (S:ByteArray),k≤l.length∧v5= .int .i64 k∧v4= .string S∧S.data.toList=Lib.join ((l.take k).map zep) [32]∧S.size≤51*k∧(l.take k).all zeg=true∧Below W.heap.size W wr) (fun _ v5 _=>l.length-(intOf v5).toNat)
 case atStart=>exact⟨0,_,by omega,rfl,rfl,by simp[Lib.join_nil],by decide,by simp,Below.refl _ _⟩
 case round=>
  obtain⟨k,S,hk,rfl,rfl,hS,hsz,ht,hbr⟩:=hrel;have HS:=zaa hS;have HT:=zaa ht;have HBR:=zaa hbr;clear hS ht hbr;by_cases hlt:k<l.length
  rotate_left
  ·obtain rfl:k=l.length:=by omega
   rw[List.take_length] at HS HT;have hE:codeE l=zdj S:=by
    unfold codeE;rw[if_pos HT.out]
    congr 1
    apply ByteArray.ext;apply Array.toList_inj.1;rw[HS.out]
    rfl
   have HE:=zaa hE;clear hE hlt;by_cases h:65536<S.size
   ·have h1:(65536:Int)<(S.size:Int):=by omega
    have HX:=zaa (HE.out.trans (show zdj S= .tuple #[.string ⟨#[]⟩,.int .i64 3] from if_pos h));clear h;go_wp2_with fail;go_ret2;exact⟨by rw[HX.out];rfl,HBR.out⟩
   ·have h1: ¬(65536:Int)<(S.size:Int):=by omega
    have HX:=zaa (HE.out.trans (show zdj S= .tuple #[.string S,.int .i64 0] from if_neg h));clear h;go_wp2_with fail;go_ret2;exact⟨by rw[HX.out];rfl,HBR.out⟩
  obtain⟨x,hx⟩:=zbE hlt;obtain⟨b,off,rfl,hb,hca⟩:=HA.out.at_ hx;obtain⟨u0,c0,g0⟩:=hca 0 _ rfl;obtain⟨u1,c1,g1⟩:=hca 1 _ rfl;obtain⟨u2,c2,g2⟩:=hca 2 _ rfl;obtain⟨u3,c3,g3⟩:=hca 3 _ rfl;clear hca;obtain rfl:=g0.leaf_eq;obtain rfl:=g1.leaf_eq;obtain rfl:=g2.leaf_eq;obtain rfl:=g3.leaf_eq;have HC0:=zaa c0;have HC1:=zaa c1;have HC2:=zaa c2;have HC3:=zaa c3;have c0:=zeF HBR.out hb HC0.out;have c1:=zaI HBR.out hb HC1.out;have c2:=zaI HBR.out hb HC2.out;have c3:=zaI HBR.out hb HC3.out;have k0:=kbZ k l.length;have hopx:=hop x (List.mem_of_getElem? hx);have HX:=zaa hx;have HI:=zaa (zhB x hopx wr);clear hx;go_wp2_with fail;clear c0 c1 c2 c3
  cases hF:zeg x with
  |false=>
   have HN:=zaa (zlJ HX.out hF);rw[hF] at HI;clear hF;refine HI.out.mono ?_;rintro e w1 ⟨rfl,hb1⟩;have HB1:=zaa (btZ HBR.out hb1);clear hb1 HI;go_wp2_with fail;go_ret2;exact⟨by rw[HN.out];rfl,HB1.out⟩
  |true=>
   have HFx:=zaa hF;have hln:=zeX hF;have HTK:=zaa (zaK HT.out HX.out hF);rw[hF] at HI;clear hF;refine HI.out.mono ?_;rintro e w1 ⟨rfl,hb1⟩;have HB1:=zaa (btZ HBR.out hb1);clear hb1 HI;have c0:=zeF HB1.out hb HC0.out;have c1:=zaI HB1.out hb HC1.out;have c2:=zaI HB1.out hb HC2.out;have c3:=zaI HB1.out hb HC3.out;have HL:=zaa (zgA x hopx w1 HFx.out);have HJ:=zaa (zjj zep l k x HX.out);by_cases hk0:k=0
   ·subst hk0
    have hs1:=smZ (S.size+(zep x).length);simp only[Nat.zero_mul,Nat.add_zero] at c0 c1 c2 c3;go_wp2_with fail;clear c0 c1 c2 c3;refine HL.out.mono ?_;rintro e w2 ⟨rfl,hb2⟩;have HB2:=zaa (btZ HB1.out hb2);clear hb2 HL;go_wp2_with fail;go_roundw
    case rel=>exact⟨1,_,by omega,by go_num,rfl,by rw[ByteArray.data_append,Array.toList_append,HS.out,show(1:Nat)=0+1 from rfl,HJ.out];simp,by rw[ByteArray.size_append];show _+(zep x).length≤_;omega,HTK.out,HB2.out⟩
    case measure=>simp[intOf];omega
   ·have hk1:(0:Int)<(k:Int):=by omega
    have hs0:=smZ (S.size+1);have hs1:=smZ (S.size+1+(zep x).length);go_wp2_with fail;clear c0 c1 c2 c3;refine HL.out.mono ?_;rintro e w2 ⟨rfl,hb2⟩;have HB2:=zaa (btZ HB1.out hb2);clear hb2 HL;go_wp2_with fail;go_roundw
    case rel=>exact⟨k+1,_,by omega,by go_num,rfl,by rw[ByteArray.data_append,ByteArray.data_append,Array.toList_append,Array.toList_append,HS.out,HJ.out,if_neg hk0],by rw[ByteArray.size_append,ByteArray.size_append];show _+1+(zep x).length≤_;omega,HTK.out,HB2.out⟩
    case measure=>simp[intOf];omega
def mkI (k i:Int):Int:=1000003*(k+7)+i
theorem zbO (k i:Int) (w:World) (k0:0≤k) (k1:k≤1000) (i0:0≤i) (i1:i≤281474976710656):Calls prog 190 #[.int .i64 k,.int .i64 i] w fun e w'=>e= .returned (.int .i64 (mkI k i))∧w=w':=by
 have HM:Hid (mkI k i=1000003*(k+7)+i):=rfl
 go_enter func190,ntmps190
 go_wp2_with fail;go_ret;exact⟨by rw[HM.out];rfl,rfl⟩
def insM (i:Int):zb3:=⟨0,mkI 1 i,0,0⟩
def insVs (x:zb3):List Value:=[.int .u8 (x.op:Int),.int .i64 x.a,.int .i64 x.b,.int .i64 x.c]
theorem zm3 (i:Int) (w:World) (i0:0≤i) (i1:i≤281474976710656):Calls prog 109 #[.int .i64 1,.int .i64 i] w fun e w'=>e= .returned (.agg #[.int .u8 0,.int .i64 (mkI 1 i),.int .i64 0,.int .i64 0])∧Below w.heap.size w w':=by
 have HM:=zaa (fun w=>zbO 1 i w (by omega) (by omega) i0 i1);generalize mkI 1 i=m at *;have HB:=zaa ((Below.refl w.heap.size w).alloc (Nat.le_refl _) (.cells #[.int .u8 0,.int .i64 0,.int .i64 0,.int .i64 0] 78));have HX:=zaa (heap_alloc_new w (.cells #[.int .u8 0,.int .i64 0,.int .i64 0,.int .i64 0] 78))
 go_enter func109,ntmps109
 go_wp2_with fail;generalize w.alloc _=w0 at *;refine(HM.out w0).mono ?_;rintro e w' ⟨rfl,rfl⟩;have hlt:=(zau HX.out);obtain⟨c0,c1,c2,c3⟩:=zc1 HX.out rfl;have f0:=frozen_of_row _ _ 0 _ _ HX.out;have f1:=frozen_of_row _ _ 1 _ _ HX.out;have f2:=frozen_of_row _ _ 2 _ _ HX.out;have f3:=frozen_of_row _ _ 3 _ _ HX.out;go_wp2_with fail;refine bodyPost_ret (v:= .agg #[.int .u8 0,.int .i64 m,.int .i64 0,.int .i64 0]) (by simp[results,Tryz.results109,go_sem,c0,c1,c2,c3]) rfl ⟨rfl,?_⟩;exact(((HB.out.setCell (p:=⟨w.heap.size,0,none⟩) (Nat.le_refl _) _).setCell (p:=⟨w.heap.size,1,none⟩) (Nat.le_refl _) _).setCell (p:=⟨w.heap.size,2,none⟩) (Nat.le_refl _) _).setCell (p:=⟨w.heap.size,3,none⟩) (Nat.le_refl _) _
section
variable {α:Type}
theorem zfH {β:Type} (size:Nat): ∀(rows:List (List β)),(∀r∈rows,r.length=size)→rows.flatten.length=rows.length*size
 |[],_=>by simp
 |a::rows,h=>by
  rw[List.flatten_cons,List.length_append,h a List.mem_cons_self,zfH size rows (fun r hr=>h r (List.mem_cons_of_mem _ hr)),List.length_cons,Nat.add_mul]
  omega
abbrev Elt (α:Type):=World→(Nat→Prop)→List Value→α→Prop
structure zcm (E:Elt α) (size:Nat) (cells:α→List Dat):Prop where
 keep: ∀(w w':World) (G:Nat→Prop) r x,w.heap.size≤w'.heap.size→(∀b,G b→b<w.heap.size→w'.heap[b]? =w.heap[b]?)→E w G r x→E w' G r x
 mono: ∀(w:World) (G H:Nat→Prop) r x,(∀b,G b→b<w.heap.size→H b)→E w G r x→E w H r x
 wide: ∀(w:World) (G:Nat→Prop) r x,E w G r x→r.length=size
 dat: ∀(w:World) (G:Nat→Prop) r x,E w G r x→zab w (fun _=>True) r (cells x)
 one: ∀(w:World) (G:Nat→Prop) r x,E w G r x→ ∀u∈r,u.oneCell'=true
def LL (_size:Nat) (ms:List (List Value)) (E:Elt α) (w:World) (G:Nat→Prop) (v:Value) (l:List α):Prop:=
 ∃g c rows,v= .slice (some ⟨g,0,none⟩) l.length c∧l.length+12≤c∧c≤maxLen∧G g∧g<w.heap.size∧rows.length=l.length∧
  (∀(i:Nat) r x,rows[i]? =some r→l[i]? =some x→E w G r x)∧ ∀(j:Nat) u,(rows++ms).flatten[j]? =some u→w.cell? ⟨g,j,none⟩=some u
theorem LL.keep {size:Nat} {ms:List (List Value)} {E:Elt α} {cells:α→List Dat} (hE:zcm E size cells) {w w':World} {G:Nat→Prop} {v:Value} {l:List α} (h:LL size ms E w G v l) (hz:w.heap.size≤w'.heap.size)
 (hk: ∀b,G b→b<w.heap.size→w'.heap[b]? =w.heap[b]?):LL size ms E w' G v l:=by
 obtain⟨g,c,rows,e,h1,h2,h3,h4,h5,h6,h7⟩:=h;refine⟨g,c,rows,e,h1,h2,h3,Nat.lt_of_lt_of_le h4 hz,h5,fun i r x hr hx=>hE.keep _ _ _ _ _ hz hk (h6 i r x hr hx),fun j u hu=> ?_⟩;rw[World.cell?_of_block (a:=⟨g,j,none⟩) (hk g h3 h4)];exact h7 j u hu
theorem LL.below {size:Nat} {ms:List (List Value)} {E:Elt α} {cells:α→List Dat} (hE:zcm E size cells) {w w':World} {G:Nat→Prop} {v:Value} {l:List α} (h:LL size ms E w G v l) (hb:Below w.heap.size w w'):LL size ms E w' G v l:=
 h.keep hE hb.size (fun b _ hl=>hb.block b hl)
theorem LL.mono {size:Nat} {ms:List (List Value)} {E:Elt α} {cells:α→List Dat} (hE:zcm E size cells) {w:World} {G H:Nat→Prop} {v:Value} {l:List α} (h:LL size ms E w G v l) (hg: ∀b,G b→b<w.heap.size→H b):LL size ms E w H v l:=by
 obtain⟨g,c,rows,e,h1,h2,h3,h4,h5,h6,h7⟩:=h;exact⟨g,c,rows,e,h1,h2,hg g h3 h4,h4,h5,fun i r x hr hx=>hE.mono _ _ _ _ _ hg (h6 i r x hr hx),h7⟩
theorem LL.at_ {size:Nat} {ms:List (List Value)} {E:Elt α} {cells:α→List Dat} (hE:zcm E size cells) {w:World} {G:Nat→Prop} {g n c:Nat} {l:List α} (h:LL size ms E w G (.slice (some ⟨g,0,none⟩) n c) l) {i:Nat} {x:α} (hx:l[i]? =some x):
 ∃r,E w G r x∧ ∀(j:Nat) u,r[j]? =some u→w.cell? ⟨g,i*size+j,none⟩=some u:=by
 obtain⟨g',c',rows,e,h1,h2,h3,h4,h5,h6,h7⟩:=h;injection e with e1 e2 e3
 injection e1 with e1
 injection e1 with e1
 subst e1;have hi:i<rows.length:=by rw[h5];exact(List.getElem?_eq_some_iff.1 hx).1
 have hr:rows[i]? =some rows[i]:=List.getElem?_eq_getElem hi;refine⟨rows[i],h6 i _ x hr hx,fun j u hu=>h7 _ u ?_⟩;have hj:j<size:=by rw[←hE.wide _ _ _ _ (h6 i _ x hr hx)];exact(List.getElem?_eq_some_iff.1 hu).1
 rw[List.flatten_append,List.getElem?_append_left]
 ·rw[zeH rows (fun r hr=> ?_) i j _ hr hj,hu]
  obtain⟨k,hk,rfl⟩:=List.getElem_of_mem hr;exact hE.wide _ _ _ _ (h6 k _ _ (List.getElem?_eq_getElem hk) (List.getElem?_eq_getElem (by omega)))
 ·have hf:rows.flatten.length=rows.length*size:=zfH _ _ (fun r hr=>by
   obtain⟨k,hk,rfl⟩:=List.getElem_of_mem hr;exact hE.wide _ _ _ _ (h6 k _ _ (List.getElem?_eq_getElem hk) (List.getElem?_eq_getElem (by omega))))
  rw[hf];have:(i+1)*size≤rows.length*size:=Nat.mul_le_mul_right _ hi;rw[Nat.add_mul] at this
  omega
structure LB (E:Elt α) (w:World) (B:Nat) (ty:TypeId) (size:Nat) (v:Value) (l:List α) (rows:List (List Value)):Prop where
 own:w.ownsRow B ty size v rows.length rows.flatten
 each: ∀(i:Nat) r x,rows[i]? =some r→l[i]? =some x→E w (fun b=>B≤b∧v.ownBlock≠some b) r x
theorem LB.below {E:Elt α} {cells:α→List Dat} {size:Nat} (hE:zcm E size cells) {w w':World} {B:Nat} {ty:TypeId} {v:Value} {l:List α} {rows:List (List Value)} (h:LB E w B ty size v l rows) (hb:Below w.heap.size w w'):LB E w' B ty size v l rows where
 own:=zaJ h.own (fun g hg _=>hb.block g (zas h.own hg).2)
 each:=fun i r x hr hx=>hE.keep _ _ _ _ _ hb.size (fun b _ hl=>hb.block b hl) (h.each i r x hr hx)
theorem LB.push {E:Elt α} {cells:α→List Dat} {size:Nat} (hE:zcm E size cells) {w w':World} {B g cap n:Nat} {ty:TypeId} {v:Value} {l:List α} {rows:List (List Value)} {r:List Value} (h:LB E w B ty size v l rows)
 (hown:w'.ownsRow B ty size (.slice (some ⟨g,0,none⟩) n cap) n (rows.flatten++r)) (hn:n=rows.length+1) (hg:w.grownBy w' v.ownBlock) (hat:v.ownBlock=some g∨g=w.heap.size)
 (hr: ∀x,l[rows.length]? =some x→E w (fun b=>B≤b∧v.ownBlock≠some b) r x):LB E w' B ty size (.slice (some ⟨g,0,none⟩) n cap) l (rows++[r]) where
 own:=by
  rw[List.length_append,List.flatten_append];subst hn
  simpa using hown
 each:=fun i q x hq hx=>by
  have hG: ∀b,(B≤b∧v.ownBlock≠some b)→b<w.heap.size→(B≤b∧(Value.slice (some ⟨g,0,none⟩) n cap).ownBlock≠some b):=fun b hb hl=>⟨hb.1,fun e=>by
   have e2:g=b:=by injection e
   rcases hat with h1|h1
   ·exact hb.2 (by rw[h1,e2])
   ·omega⟩
  have hK:E w (fun b=>B≤b∧v.ownBlock≠some b) q x:=by
   by_cases hi:i<rows.length
   ·rw[List.getElem?_append_left hi] at hq
    exact h.each i q x hq hx
   ·rw[List.getElem?_append_right (by omega)] at hq
    have hi0:i-rows.length=0:=by
     have:=(List.getElem?_eq_some_iff.1 hq).1;simp at this
     omega
    rw[hi0] at hq;injection hq with hq
    subst hq;have hi1:i=rows.length:=by omega
    subst hi1;exact hr x hx
  have h2:E w' (fun b=>(B≤b∧v.ownBlock≠some b)∧b<w.heap.size) q x:=hE.keep _ _ _ _ _ hg.size (fun b hb hl=>hg.block b hl (fun e=>hb.1.2 e.symm)) (hE.mono _ _ _ _ _ (fun b hb hl=>⟨hb,hl⟩) hK);exact hE.mono _ _ _ _ _ (fun b hb _=>hG b hb.1 hb.2) h2
theorem LB.lent {E:Elt α} {cells:α→List Dat} {size:Nat} (hE:zcm E size cells) {w:World} {B:Nat} {ty:TypeId} {v:Value} {l:List α} {ls ms:List (List Value)} (h:LB E w B ty size v l (ls++ms)) (hl:ls.length=l.length) (hm:ms.length=12):
 ∃g c,v= .slice (some ⟨g,0,none⟩) (l.length+12) c∧l.length+12≤c∧c≤maxLen∧LL size ms E w (fun b=>B≤b) (.slice (some ⟨g,0,none⟩) l.length c) l:=by
 have hlen:(ls++ms).length=l.length+12:=by rw[List.length_append,hl,hm]
 have ho:=h.own;rcases ho.2 with⟨-,h0⟩|⟨g,c,cur,hvv,hbg,hh,hc1,hc2, -⟩
 ·omega
 rw[hlen] at hvv hc1 ho;refine⟨g,c,hvv,hc1,hc2,g,c,ls,rfl,hc1,hc2,hbg,(zau hh),hl,fun i r x hr hx=> ?_,fun j u hu=> ?_⟩
 ·refine hE.mono _ _ _ _ _ (fun b hb _=>hb.1) (h.each i r x ?_ hx)
  rw[List.getElem?_append_left (List.getElem?_eq_some_iff.1 hr).1];exact hr
 ·subst hvv
  have hj:j<(ls++ms).flatten.length:=(List.getElem?_eq_some_iff.1 hu).1;rw[ho.cellAt j (by rw[←ho.1];exact hj)];exact hu
end
end Go.Proofs.YtgbfaompondolaaGreatDoor
