/- Merged texts of the walks and of the plain laws on which the statement leans.-/
import Derived.Test.YtgbfaompondolaaGreatDoorPk1
import Derived.Test.YtgbfaompondolaaGreatDoorPk11
import Derived.Test.YtgbfaompondolaaGreatDoorShelf
import Derived.Lib.Builder
import Derived.Lib.AppendStr
import Derived.Shelf.Strings.Builder1
import Derived.Lib.Repeat
import Derived.Lib.Join
import Derived.Lib.ItoaLen
import Derived.Test.YtgbfaompondolaaGreatDoorPk8
set_option maxHeartbeats 4000000
set_option maxRecDepth 100000
namespace Go.Proofs.YtgbfaompondolaaGreatDoor
open Tryz
open Go.RowKit
attribute [local go_sem] zaj.cell
theorem zh3:(prog.info? 121).map (·.size)=some 2:=by kernel_rfl
theorem zkW:liesAt prog prog.depth 125 (10/prog.cellsOf 125) 0 121 1=true:=by kernel_rfl
theorem ziH (b:Nat) (w:World) (h0:w.cell? ⟨b,0,none⟩=some (.pointer (some ⟨b,0,none⟩))):
 Calls prog 216 #[.pointer (some ⟨b,0,none⟩)] w fun e w'=>e= .returned (.tuple #[])∧w'=w:=by
 obtain⟨j,hj,_⟩:=Option.map_eq_some_iff.1 zh3
 go_enter func216,ntmps216
 go_wp2_with fail;rw[Lib.run_neq_ptr_same w _ underlying118 hj];go_wp2_with fail
 go_end0
 exact⟨rfl,rfl⟩
theorem zgS (b:Nat) (w:World) (h0:w.cell? ⟨b,0,none⟩=some (.pointer none)) (hsh:w.shape? b=some (125,10)) (hfz:w.frozen? ⟨b,0,none⟩=false):
 Calls prog 216 #[.pointer (some ⟨b,0,none⟩)] w fun e w'=>e= .returned (.tuple #[])∧w'=w.setCell ⟨b,0,none⟩ (.pointer (some ⟨b,0,none⟩)):=by
 obtain⟨j,hj,hjs⟩:=Option.map_eq_some_iff.1 zh3
 go_enter func216,ntmps216
 go_wp2_with fail;rw[Lib.run_to_unsafe w ⟨b,0,none⟩ underlying118 underlying248 hj (by rw[hjs];decide) hsh (Nat.zero_lt_succ 9)];simp only[Result.andThen];rw[Oper.upon_value];go_wp2_with fail;rw[run_callFunc_extern func257 (by kernel_rfl) (by kernel_rfl) (by kernel_rfl) (e:=Extern.AbiNoEscape.same) (by kernel_rfl)];rw[Lib.run_noEscape];simp only[Result.andThen];rw[Oper.upon_value];go_wp2_with fail;rw[Lib.run_from_unsafe w ⟨b,0,none⟩ underlying248 underlying118 hj hsh zkW];simp only[Result.andThen];rw[Oper.upon_value];go_wp2_with fail
 go_end0
 exact⟨rfl,rfl⟩
structure C8 where
 c0:Value
 c1:Value
 c2:Value
 c3:Value
 c4:Value
 c5:Value
 c6:Value
 c7:Value
def C8.row (k:C8) (p v:Value):Array Value:= #[p,v,k.c0,k.c1,k.c2,k.c3,k.c4,k.c5,k.c6,k.c7]
def PrU (B b:Nat) (k:C8) (p:Value) (L:List UInt8) (w:World):Prop:=B≤b∧ ∃v,w.heap[b]? =some (.cells (k.row p v) 125 (0,0))∧w.ownsRow B 5 1 v L.length (Lib.byteCells L)
def zb6 (B b:Nat) (k:C8) (L:List UInt8) (w:World):Prop:=PrU B b k (.pointer none) L w∨PrU B b k (.pointer (some ⟨b,0,none⟩)) L w
theorem PrU.lt {B b:Nat} {k:C8} {p:Value} {L:List UInt8} {w:World} (h:PrU B b k p L w):b<w.heap.size:=by
 obtain⟨_,v,hb,_⟩:=h;exact(zau hb)
theorem PrU.put {B b:Nat} {k:C8} {p v v':Value} {L:List UInt8} {w:World} (hB:B≤b) (hb:w.heap[b]? =some (.cells (k.row p v) 125 (0,0))) (hown:w.ownsRow B 5 1 v' L.length (Lib.byteCells L)):PrU B b k p L (w.setCell ⟨b,1,none⟩ v'):=by
 have hne:=Lib.ownBlock_ne hown hb (by decide);refine⟨hB,v',?_,?_⟩
 ·simp[World.setCell,Array.getElem?_modify,hb,C8.row]
 ·exact hown.kept (row:=some b) ⟨rfl,rfl,rfl,by simp[World.setCell],fun k _ hk=>Below.heap_setCell _ _ _ _ (fun e=>hk (by simp[e]))⟩ (Or.inr hne)
theorem PrU.used {B b:Nat} {k:C8} {p:Value} {L:List UInt8} {w:World} (h:PrU B b k p L w) (q:Value):PrU B b k q L (w.setCell ⟨b,0,none⟩ q):=by
 obtain⟨hB,v,hb,hown⟩:=h;have hne:=Lib.ownBlock_ne hown hb (by decide);refine⟨hB,v,?_,?_⟩
 ·simp[World.setCell,Array.getElem?_modify,hb,C8.row]
 ·exact hown.kept (row:=some b) ⟨rfl,rfl,rfl,by simp[World.setCell],fun k _ hk=>Below.heap_setCell _ _ _ _ (fun e=>hk (by simp[e]))⟩ (Or.inr hne)
def Oth (w:World) (g:Nat):Prop:= ∃cs T fr,w.heap[g]? =some (.cells cs T fr)∧T≠5
structure PrK (b:Nat) (w w':World):Prop where
 size:w.heap.size≤w'.heap.size
 block: ∀g,g≠b→Oth w g→w'.heap[g]? =w.heap[g]?
theorem PrK.refl (b:Nat) (w:World):PrK b w w:=⟨Nat.le_refl _,fun _ _ _=>rfl⟩
theorem PrK.trans {b:Nat} {w w' w'':World} (h:PrK b w w') (k:PrK b w' w''):PrK b w w'':=
 ⟨Nat.le_trans h.size k.size,fun g hg ho=>(k.block g hg (by obtain⟨cs,T,fr,h1,h2⟩:=ho;exact⟨cs,T,fr,(h.block g hg ⟨cs,T,fr,h1,h2⟩).trans h1,h2⟩)).trans (h.block g hg ho)⟩
theorem PrK.set (b j:Nat) (w:World) (x:Value):PrK b w (w.setCell ⟨b,j,none⟩ x):=
 ⟨by simp[World.setCell],fun g hg _=>Below.heap_setCell _ _ _ _ hg⟩
theorem PrK.grown {b B n:Nat} {w w':World} {v:Value} {xs:List Value} (hg:w.grownBy w' v.ownBlock) (ho:w.ownsRow B 5 1 v n xs):PrK b w w':=
 ⟨hg.size,fun g _ ⟨_,_,_,h1,h2⟩=>hg.block g (zau h1) (fun e=>Lib.ownBlock_ne ho h1 h2 e.symm)⟩
theorem PrK.alloc (b:Nat) (w:World) (o:Obj):PrK b w (w.alloc o):=
 ⟨by simp,fun g _ ⟨_,_,_,h1,_⟩=>Lib.alloc_old w o g (zau h1)⟩
theorem zhP (B b:Nat) (k:C8) (L:List UInt8) (w:World) (h:zb6 B b k L w):
 Calls prog 216 #[.pointer (some ⟨b,0,none⟩)] w fun e w'=>e= .returned (.tuple #[])∧PrU B b k (.pointer (some ⟨b,0,none⟩)) L w'∧Below B w w'∧PrK b w w':=by
 rcases h with h|h
 ·obtain⟨hB,v,hb,hown⟩:=id h
  refine(zgS b w (by rw[Lib.cell_of_heap hb];rfl) (by simp[World.shape?,hb,C8.row]) (Lib.frozen_of_heap hb 0)).mono ?_;rintro e w' ⟨rfl,rfl⟩;exact⟨rfl,h.used _,(Below.refl B w).setCell (p:=⟨b,0,none⟩) hB _,.set _ _ _ _⟩
 ·obtain⟨hB,v,hb,hown⟩:=id h
  refine(ziH b w (by rw[Lib.cell_of_heap hb];rfl)).mono ?_;rintro e w' ⟨rfl,rfl⟩;exact⟨rfl,h,Below.refl B _,.refl _ _⟩
theorem zju:(prog.info? 5).map (fun i=>(i.zero,i.size,i.bytes))=some (some (.int .u8 0),1,1):=by kernel_rfl
theorem zfF (B b:Nat) (k:C8) (L:List UInt8) (s:ByteArray) (w:World) (h:Hid (zb6 B b k L w)) (hlen:L.length+s.size≤140737488355328) (hBw:B≤w.heap.size):
 Calls prog 152 #[.pointer (some ⟨b,0,none⟩),.string s] w fun e w'=>e= .returned (.tuple #[.int .i64 s.size,.nilIface])∧zb6 B b k (L++s.data.toList) w'∧Below B w w'∧PrK b w w':=by
 obtain⟨i0,hi,hz0,hz1,hz2⟩:=info_parts zju;have HC:=zaa (zhP B b k L w h.out)
 go_enter func152,ntmps152
 go_wp2_with fail;refine HC.out.mono ?_;rintro e w1 ⟨rfl,h1,hb1,hk1⟩;obtain⟨hB,v,hbk,hown⟩:=id h1;have hlt:=h1.lt;have HB:=zaa hb1;have HQ:=zaa hk1;have HK:=zaa hbk;have HO:=zaa hown;have c1:w1.cell? ⟨b,1,none⟩=some v:=by rw[Lib.cell_of_heap hbk];rfl
 clear h1 hb1 hk1 hbk hown HC h;go_wp2_with(at_builtin;apply Hid.out)
 refine zaa ?_;have hl:(Lib.byteCells L).length=L.length:=by simp[Lib.byteCells]
 refine Lib.wpList_append_own_string _ rfl _ _ 119 9 rfl B 5 i0 underlying119 underlying9 hi hz0 hz1 hz2 _ _ _ rfl HO.out s rfl ?c3 ?c4 ?c5 ?_
 case c3=>unfold maxLen;omega
 case c4=>omega
 case c5=>have:=HB.out.size;omega
 intro v' w2 hown' hgrow _;obtain⟨ao,n',cap,rfl⟩: ∃ao n' cap,v'= .slice ao n' cap:=by
  rcases hown'.2 with⟨hv,_⟩|⟨g,cap,cur,hv,_⟩
  ·exact⟨_,_,_,hv⟩
  ·exact⟨_,_,_,hv⟩
 have hne:=Lib.ownBlock_ne HO.out HK.out (by decide);have hb2:=(hgrow.block b hlt (fun e=>hne e.symm)).trans HK.out;have d1:w2.cell? ⟨b,1,none⟩=some v:=by rw[Lib.cell_of_heap hb2];rfl
 have f1:w2.frozen? ⟨b,1,none⟩=false:=Lib.frozen_of_heap hb2 1;have HB2:=zaa ((HB.out.grown hgrow (by have:=HB.out.size;omega) (fun k hk=>(HO.out.lt k hk).1)).setCell (p:=⟨b,1,none⟩) hB (.slice ao n' cap));have HQ2:=zaa ((HQ.out.trans (.grown hgrow HO.out)).trans (.set b 1 _ (.slice ao n' cap)));have HP:=zaa (PrU.put (v':= .slice ao n' cap) (L:=L++s.data.toList) hB hb2 (by
  rw[Lib.strCells_eq] at hown';have e1:Lib.byteCells (L++s.data.toList)=Lib.byteCells L++Lib.byteCells s.data.toList:=by simp[Lib.byteCells]
  have e2:(L++s.data.toList).length=L.length+s.size:=by rw[List.length_append,Array.length_toList];rfl
  rw[e1,e2];exact hown'))
 clear c1 hown' hgrow hb2 HB HK HO HQ;go_wp2_with fail;go_ret2;exact⟨rfl,.inr HP.out,HB2.out,HQ2.out⟩
theorem zjC (B b:Nat) (k:C8) (L:List UInt8) (c:UInt8) (w:World) (h:Hid (zb6 B b k L w)) (hlen:L.length+1≤140737488355328) (hBw:B≤w.heap.size):
 Calls prog 252 #[.pointer (some ⟨b,0,none⟩),.int .u8 (c.toNat:Int)] w fun e w'=>e= .returned .nilIface∧zb6 B b k (L++[c]) w'∧Below B w w'∧PrK b w w':=by
 obtain⟨i0,hi,hz0,hz1,hz2⟩:=info_parts zju;have HC:=zaa (zhP B b k L w h.out)
 go_enter func252,ntmps252
 go_wp2_with fail;refine HC.out.mono ?_;rintro e w1 ⟨rfl,h1,hb1,hk1⟩;obtain⟨hB,v,hbk,hown⟩:=id h1;have hlt:=h1.lt;have HB:=zaa hb1;have HQ:=zaa hk1;have HK:=zaa hbk;have HO:=zaa hown;have c1:w1.cell? ⟨b,1,none⟩=some v:=by rw[Lib.cell_of_heap hbk];rfl
 clear h1 hb1 hk1 hbk hown HC h;go_wp2_with(at_builtin;apply Hid.out)
 refine zaa ?_;have hl:(Lib.byteCells L).length=L.length:=by simp[Lib.byteCells]
 refine wpList_append_own _ rfl _ _ 119 rfl B 5 i0 (.int .u8 0) 1 1 underlying119 hi hz0 hz1 hz2 rfl (by decide) _ _ _ rfl (HO.out.alloc _) ⟨w1.heap.size,0,none⟩ 1 1 [.int .u8 (c.toNat:Int)] rfl rfl ?c1 ?c2 ?c3 ?c4 ?c5 ?_
 case c1=>
  intro j u hj;exact World.news_of_block (heap_alloc_new w1 _) j u hj
 case c2=>intro u hu;simp at hu;subst hu;rfl
 case c3=>unfold maxLen;omega
 case c4=>omega
 case c5=>have:=HB.out.size;simp;omega
 intro v' w2 hown' hgrow _;obtain⟨ao,n',cap,rfl⟩: ∃ao n' cap,v'= .slice ao n' cap:=by
  rcases hown'.2 with⟨hv,_⟩|⟨g,cap,cur,hv,_⟩
  ·exact⟨_,_,_,hv⟩
  ·exact⟨_,_,_,hv⟩
 have hne:=Lib.ownBlock_ne HO.out HK.out (by decide);have hb2:=(hgrow.block b (by simp;omega) (fun e=>hne e.symm)).trans ((Lib.alloc_old w1 _ b hlt).trans HK.out);have d1:w2.cell? ⟨b,1,none⟩=some v:=by rw[Lib.cell_of_heap hb2];rfl
 have f1:w2.frozen? ⟨b,1,none⟩=false:=Lib.frozen_of_heap hb2 1;have HB2:=zaa (((HB.out.alloc (by have:=HB.out.size;omega) (.cells #[.int .u8 (c.toNat:Int)] 5)).grown hgrow (by have:=HB.out.size;simp;omega) (fun k hk=>(HO.out.lt k hk).1)).setCell (p:=⟨b,1,none⟩) hB (.slice ao n' cap));have HQ2:=zaa (((HQ.out.trans (.alloc b _ (.cells #[.int .u8 (c.toNat:Int)] 5))).trans (.grown hgrow (HO.out.alloc _))).trans (.set b 1 _ (.slice ao n' cap)));have HP:=zaa (PrU.put (v':= .slice ao n' cap) (L:=L++[c]) hB hb2 (by
  have e1:Lib.byteCells (L++[c])=Lib.byteCells L++[.int .u8 (c.toNat:Int)]:=by simp[Lib.byteCells]
  rw[e1,List.length_append];exact hown'))
 clear c1 hown' hgrow hb2 HB HK HO HQ;go_wp2_with fail;go_ret;exact⟨rfl,.inr HP.out,HB2.out,HQ2.out⟩
theorem zlP:prog.cellsOf 5=1:=by kernel_rfl
theorem zfn (B b:Nat) (k:C8) (p:Value) (l:List UInt8) (w:World) (h:Hid (PrU B b k p l w)) (h0:l≠[]):
 Calls prog 80 #[.pointer (some ⟨b,0,none⟩)] w fun e w'=>e= .returned (.string ⟨l.toArray⟩)∧Below B w w':=by
 obtain⟨hB,v,hbk,hown⟩:=h.out;have hl0:l.length≠0:=by simpa using h0
 obtain⟨g,cap,cur,rfl,hbg,hg,hnc,hcm,hcs,htake⟩: ∃g cap cur,v= .slice (some ⟨g,0,none⟩) l.length cap∧B≤g∧w.heap[g]? =some (.cells cur 5 (0,0))∧l.length≤cap∧cap≤maxLen∧cur.size=cap*1∧cur.toList.take (l.length*1)=Lib.byteCells l:=by
  rcases hown.2 with⟨_,hz⟩|⟨g,cap,cur,hv,r⟩
  ·exact absurd hz hl0
  ·exact⟨g,cap,cur,hv,r⟩
 have c1:w.drew.cell? ⟨b,1,none⟩=some (.slice (some ⟨g,0,none⟩) l.length cap):=by
  have:w.drew.heap[b]? =some (.cells (k.row p (.slice (some ⟨g,0,none⟩) l.length cap)) 125 (0,0)):=hbk;rw[Lib.cell_of_heap this];rfl
 have hSD:(Builtin.unsafeSliceData_ #[119] 177 #[.slice (some ⟨g,0,none⟩) l.length cap]).run prog w.drew= .ok (.pointer (some ⟨g,0,none⟩)) w.drew:=
  Lib.run_unsafeSliceData_row _ _ _ _ _ _ (by omega)
 have hUS:(Builtin.unsafeString_ #[177,3] 9 #[.pointer (some ⟨g,0,none⟩),.int .i64 l.length]).run prog w.drew= .ok (.string ⟨l.toArray⟩) (w.drew.freeze ⟨g,0,none⟩ l.length):=by
  refine Lib.run_unsafeString_row w.drew 177 3 9 5 underlying177 zlP g cur.size (by have hg':w.drew.heap[g]? =some (.cells cur 5 (0,0)):=hg;simp[World.shape?,hg']) l h0 (by omega) (by unfold maxLen at hcm;omega) ?_;intro j x hx;exact hown.cells (g:=g) rfl j (.int .u8 x.toNat) (by simp[Lib.byteCells,hx])
 clear hown hbk hg htake h;have mixed:prog.follows Departure.mixedOrders=true:=by kernel_rfl
 go_enter func80,ntmps80
 go_wp2_with fail
 go_region_o
 all_goals(go_wp2_with fail;go_ret;exact⟨rfl,Lib.below_freeze (Below.drew (Below.refl B w)) (p:=⟨g,0,none⟩) hbg _⟩)
theorem zf0 (B b:Nat) (k:C8) (p:Value) (w:World) (hbk:w.heap[b]? =some (.cells (k.row p (.slice none 0 0)) 125 (0,0))):
 Calls prog 80 #[.pointer (some ⟨b,0,none⟩)] w fun e w'=>e= .returned (.string ⟨#[]⟩)∧Below B w w':=by
 have hUS: ∀(W:World) (q:Option Addr),(Builtin.unsafeString_ #[177,3] 9 #[.pointer q,.int .i64 0]).run prog W= .ok (.string .empty) W:=fun W q=>Lib.run_unsafeString_none W _ _ _ q
 have c1:w.drew.cell? ⟨b,1,none⟩=some (.slice none 0 0):=by
  have:w.drew.heap[b]? =some (.cells (k.row p (.slice none 0 0)) 125 (0,0)):=hbk;rw[Lib.cell_of_heap this];rfl
 have hSD:(Builtin.unsafeSliceData_ #[119] 177 #[.slice none 0 0]).run prog w.drew= .ok (.pointer none) w.drew:=rfl;have mixed:prog.follows Departure.mixedOrders=true:=by kernel_rfl
 go_enter func80,ntmps80
 go_wp2_with fail
 go_region_o
 all_goals(go_wp2_with fail;go_ret;exact⟨rfl,Below.drew (Below.refl B w)⟩)
theorem zfv (B b g cap:Nat) (k:C8) (p:Value) (w:World) (hc0:cap≠0) (hbk:w.heap[b]? =some (.cells (k.row p (.slice (some ⟨g,0,none⟩) 0 cap)) 125 (0,0))):
 Calls prog 80 #[.pointer (some ⟨b,0,none⟩)] w fun e w'=>e= .returned (.string ⟨#[]⟩)∧Below B w w':=by
 have hUS: ∀(W:World) (q:Option Addr),(Builtin.unsafeString_ #[177,3] 9 #[.pointer q,.int .i64 0]).run prog W= .ok (.string .empty) W:=fun W q=>Lib.run_unsafeString_none W _ _ _ q
 have c1:w.drew.cell? ⟨b,1,none⟩=some (.slice (some ⟨g,0,none⟩) 0 cap):=by
  have:w.drew.heap[b]? =some (.cells (k.row p (.slice (some ⟨g,0,none⟩) 0 cap)) 125 (0,0)):=hbk;rw[Lib.cell_of_heap this];rfl
 have hSD:(Builtin.unsafeSliceData_ #[119] 177 #[.slice (some ⟨g,0,none⟩) 0 cap]).run prog w.drew= .ok (.pointer (some ⟨g,0,none⟩)) w.drew:=
  Lib.run_unsafeSliceData_row _ _ _ _ _ _ hc0
 clear hc0;have mixed:prog.follows Departure.mixedOrders=true:=by kernel_rfl
 go_enter func80,ntmps80
 go_wp2_with fail
 go_region_o
 all_goals(go_wp2_with fail;go_ret;exact⟨rfl,Below.drew (Below.refl B w)⟩)
theorem zeV (B b g:Nat) (k:C8) (p:Value) (w:World) (cur:Array Value) (hBw:B≤w.heap.size) (hbk:w.heap[b]? =some (.cells (k.row p (.slice (some ⟨g,0,none⟩) 0 0)) 125 (0,0))) (hg:w.heap[g]? =some (.cells cur 5 (0,0))):
 Calls prog 80 #[.pointer (some ⟨b,0,none⟩)] w fun e w'=>e= .returned (.string ⟨#[]⟩)∧Below B w w':=by
 have hUS: ∀(W:World) (q:Option Addr),(Builtin.unsafeString_ #[177,3] 9 #[.pointer q,.int .i64 0]).run prog W= .ok (.string .empty) W:=fun W q=>Lib.run_unsafeString_none W _ _ _ q
 have c1:w.drew.cell? ⟨b,1,none⟩=some (.slice (some ⟨g,0,none⟩) 0 0):=by
  have:w.drew.heap[b]? =some (.cells (k.row p (.slice (some ⟨g,0,none⟩) 0 0)) 125 (0,0)):=hbk;rw[Lib.cell_of_heap this];rfl
 have hlt:b<w.heap.size:=(zau hbk);have hSD:(Builtin.unsafeSliceData_ #[119] 177 #[.slice (some ⟨g,0,none⟩) 0 0]).run prog w.drew= .ok (.pointer (some ⟨w.drew.heap.size,0,none⟩)) (w.drew.alloc (.view ⟨g,0,none⟩ 5)):=
  Lib.run_unsafeSliceData_zero w.drew _ _ 5 underlying177 ⟨g,0,none⟩ 0 (5,cur.size) (by have hg':w.drew.heap[g]? =some (.cells cur 5 (0,0)):=hg;simp[World.shape?,hg'])
 have c2:(w.drew.alloc (.view ⟨g,0,none⟩ 5)).cell? ⟨b,1,none⟩=some (.slice (some ⟨g,0,none⟩) 0 0):=by
  have:(w.drew.alloc (.view ⟨g,0,none⟩ 5)).heap[b]? =_:=(Lib.alloc_old w.drew _ b hlt).trans hbk;rw[Lib.cell_of_heap this];rfl
 have c3:(w.alloc (.view ⟨g,0,none⟩ 5)).drew.cell? ⟨b,1,none⟩=some (.slice (some ⟨g,0,none⟩) 0 0):=c2;have c0:w.cell? ⟨b,1,none⟩=some (.slice (some ⟨g,0,none⟩) 0 0):=c1;have mixed:prog.follows Departure.mixedOrders=true:=by kernel_rfl
 go_enter func80,ntmps80
 go_wp2_with fail
 go_region_o
 all_goals(go_wp2_with fail;go_ret;exact⟨rfl,(Below.drew (Below.refl B w)).alloc hBw _⟩)
theorem zj1 (B b:Nat) (k:C8) (l:List UInt8) (w:World) (h:zb6 B b k l w) (hBw:B≤w.heap.size):
 Calls prog 80 #[.pointer (some ⟨b,0,none⟩)] w fun e w'=>e= .returned (.string ⟨l.toArray⟩)∧Below B w w':=by
 obtain⟨p,hp⟩: ∃p,PrU B b k p l w:=by
  rcases h with h|h
  ·exact⟨_,h⟩
  ·exact⟨_,h⟩
 cases l with
 |cons x r=>exact zfn B b k p (x::r) w (zaa hp) (by simp)
 |nil=>
  obtain⟨hB,v,hbk,hown⟩:=hp;rcases hown.2 with⟨rfl,_⟩|⟨g,cap,cur,rfl,hbg,hg,_,_,_,_⟩
  ·exact zf0 B b k p w hbk
  ·by_cases hc0:cap=0
   ·subst hc0
    exact zeV B b g k p w cur hBw hbk hg
   ·exact zfv B b g cap k p w hc0 hbk
def zdv (x:zb7):List UInt8:=x.m++[46]++x.p++[46]++x.o
theorem zfN (x:zb7) (us:List Value) (W:World) (l0:x.m.length≤1000000) (l1:x.p.length≤1000000) (l2:x.o.length≤1000000) (hd:Hid (zab W (fun _=>True) us x.cells)):
 Calls prog 134 #[.agg us.toArray] W fun e w'=>e= .returned (.string ⟨(zdv x).toArray⟩)∧Below W.heap.size W w':=by
 have hd:=hd.out;obtain⟨u0,u1,u2,rfl,h0,h1,h2⟩:=dc3 hd;obtain rfl:=h0.leaf_eq;obtain rfl:=h1.leaf_eq;obtain rfl:=h2.leaf_eq;clear hd h0 h1 h2;simp only[zav];have HB:=zaa ((Below.refl W.heap.size W).alloc (Nat.le_refl _) (.cells #[.string ⟨x.m.toArray⟩,.string ⟨x.p.toArray⟩,.string ⟨x.o.toArray⟩] 55));have HT:(⟨x.m.toArray⟩++⟨#[46]⟩++⟨x.p.toArray⟩++⟨#[46]⟩++⟨x.o.toArray⟩:ByteArray)=⟨(zdv x).toArray⟩:=by
  apply ByteArray.ext;simp[zdv,ByteArray.data_append]
 have k1:=smZ (x.m.length+1);have k2:=smZ (x.m.length+1+x.p.length);have k3:=smZ (x.m.length+1+x.p.length+1);have k4:=smZ (x.m.length+1+x.p.length+1+x.o.length)
 go_enter func134,ntmps134
 go_wp2_with fail;go_ret;exact⟨by rw[←HT];rfl,HB.out⟩
def ziZ (n:Int):List UInt8:=if n=0 then[97] else[98]
theorem zh6 (n:Int) (W:World) (h:n/2=0):
 Calls prog 136 #[.int .i64 n] W fun e w'=>e= .returned (.string ⟨(ziZ n).toArray⟩)∧w'=W:=by
 rcases(by omega:n=0∨n=1) with rfl|rfl
 ·go_enter func136,ntmps136
  go_wp2_with fail;go_ret;exact⟨rfl,rfl⟩
 ·go_enter func136,ntmps136
  go_wp2_with fail;go_ret;exact⟨rfl,rfl⟩
def zdj (s:ByteArray):Value:=if 65536<s.size then .tuple #[.string ⟨#[]⟩,.int .i64 3] else .tuple #[.string s,.int .i64 0]
theorem zhZ (s:ByteArray) (W:World) (hs:s.size≤140737488355328):
 Calls prog 79 #[.string s] W fun e w'=>e= .returned (zdj s)∧w'=W:=by
 by_cases h:65536<s.size
 ·have h1:(65536:Int)<(s.size:Int):=by omega
  have e:zdj s= .tuple #[.string ⟨#[]⟩,.int .i64 3]:=if_pos h
  go_enter func79,ntmps79
  go_wp2_with fail;go_ret2;exact⟨by first|rfl|(rw[e];rfl),rfl⟩
 ·have h1: ¬(65536:Int)<(s.size:Int):=by omega
  have e:zdj s= .tuple #[.string s,.int .i64 0]:=if_neg h
  go_enter func79,ntmps79
  go_wp2_with fail;go_ret2;exact⟨by first|rfl|(rw[e];rfl),rfl⟩
inductive Arg where
 |s (l:List UInt8)
 |n (x:Int)
def Arg.val:Arg→Value
 | .s l=> .iface 9 (.string ⟨l.toArray⟩)
 | .n x=> .iface 3 (.int .i64 x)
def Arg.txt:Arg→List UInt8
 | .s l=>l
 | .n x=>Lib.itoa x
def Arg.ok:Arg→Prop
 | .s _=>True
 | .n x=> -9223372036854775808≤x∧x≤9223372036854775807
def zbN (l:List Arg):List (List Dat):=l.map fun a=>[Dat.leaf a.val]
def zbK:List Arg→List UInt8
 |[]=>[]
 |a::l=>a.txt++(l.map fun b=>32::b.txt).flatten
theorem zkp {l:List Arg} {k:Nat} {x:Arg} (h:l[k]? =some x):zbK (l.take (k+1))=zbK (l.take k)++(if k=0 then[] else[32])++x.txt:=by
 cases l with
 |nil=>simp at h
 |cons a l=>
  cases k with
  |zero=>
   simp only[List.getElem?_cons_zero,Option.some.injEq] at h;subst h;simp[zbK]
  |succ k=>
   simp only[List.getElem?_cons_succ] at h;have e:l.take (k+1)=l.take k++[x]:=by rw[List.take_add_one,h];rfl
   simp[zbK,e]
theorem zjM {l:List Arg} {k:Nat}:(zbK (l.take k)).length≤(zbK l).length:=by
 cases l with
 |nil=>simp
 |cons a l=>
  cases k with
  |zero=>simp[zbK]
  |succ k=>
   simp only[List.take_succ_cons,zbK,List.length_append];have e:(l.map fun b=>(32:UInt8)::b.txt).flatten=((l.take k).map fun b=>(32:UInt8)::b.txt).flatten++((l.drop k).map fun b=>(32:UInt8)::b.txt).flatten:=by
    rw[←List.flatten_append,←List.map_append,List.take_append_drop]
   rw[e,List.length_append]
   omega
theorem zkc {w:World} {G:Nat→Prop} {v:Value} {l:List Arg} (h:DAt w G v (.row 1 (zbN l))): ∃A c,v= .slice A l.length c∧ ∀k x,l[k]? =some x→ ∃g off,A=some ⟨g,off,none⟩∧G g∧g<w.heap.size∧w.cell? ⟨g,off+k,none⟩=some x.val:=by
 generalize hd:Dat.row 1 (zbN l)=d at h
 cases h with
 |leaf v=>cases hd
 |nil A' c size=>
  injection hd with _ h1
  have:l=[]:=by cases l with
   |nil=>rfl
   |cons a l=>simp[zbN] at h1
  subst this;exact⟨A',c,rfl,fun k x h=>by simp at h⟩
 |row g off c size m es val hn hG hb hc hdd=>
  injection hd with h0 h1
  subst h0 h1;have hl:l.length=m:=by rw[←hn];simp[zbN]
  subst hl;refine⟨_,c,rfl,fun k x hx=>⟨g,off,rfl,hG,hb,?_⟩⟩;have he:(zbN l)[k]? =some [Dat.leaf x.val]:=by unfold zbN;rw[List.getElem?_map,hx];rfl
  have h5:=hc k 0 _ _ he rfl;have h6:=(hdd k 0 _ _ he rfl).leaf_eq;rw[h6] at h5;rw[Nat.mul_one,Nat.add_zero] at h5;exact h5
theorem PrU.later {B b:Nat} {k:C8} {p:Value} {L:List UInt8} {w w':World} (h:PrU B b k p L w) (hb:Below w.heap.size w w'):PrU B b k p L w':=by
 obtain⟨hB,v,h1,ho⟩:=h;exact⟨hB,v,(hb.block b (zau h1)).trans h1,zaJ ho (fun g e _=>hb.block g (zas ho e).2)⟩
theorem zb6.later {B b:Nat} {k:C8} {L:List UInt8} {w w':World} (h:zb6 B b k L w) (hb:Below w.heap.size w w'):zb6 B b k L w':=h.elim (fun h=> .inl (h.later hb)) (fun h=> .inr (h.later hb))
theorem PrK.later {b:Nat} {w w':World} (hb:Below w.heap.size w w'):PrK b w w':=⟨hb.size,fun g _ ⟨_,_,_,h1,_⟩=>hb.block g (zau h1)⟩
@[local go_sem] theorem ta_ss (s:ByteArray) (w:World):(Instr.typeAssert (.iface 9 (.string s)) 20 9 true).run prog w= .ok (.tuple #[.string s,.bool true]) w:=by kernel_rfl
@[local go_sem] theorem ta_is (n:Int) (w:World):(Instr.typeAssert (.iface 3 (.int .i64 n)) 20 9 true).run prog w= .ok (.tuple #[.string ⟨#[]⟩,.bool false]) w:=by kernel_rfl
@[local go_sem] theorem ta_ii (n:Int) (w:World):(Instr.typeAssert (.iface 3 (.int .i64 n)) 20 3 true).run prog w= .ok (.tuple #[.int .i64 n,.bool true]) w:=by kernel_rfl
theorem zmX (B b:Nat) (k8:C8) (L:List UInt8) (v:Value) (l:List Arg) (W:World) (h:Hid (zb6 B b k8 L W)) (hv:Hid (DAt W (fun g=>g≠b∧Oth W g) v (.row 1 (zbN l)))) (hok:Hid (∀a∈l,a.ok)) (hl:l.length≤1000) (hlen:L.length+(zbK l).length≤1000000000000) (hBw:B≤W.heap.size) (hGB:8≤B) (hE:Hid (Env W)):
 Calls prog 207 #[.pointer (some ⟨b,0,none⟩),v] W fun e w'=>e= .returned (.tuple #[])∧zb6 B b k8 (L++zbK l) w'∧Below B W w'∧PrK b W w':=by
 obtain⟨A,c,rfl,hA⟩:=zkc hv.out;have HA:=zaa hA;clear hA hv
 go_enter func207,ntmps207
 go_wp2_with fail
 go_loopw [10] (fun v4 wr=> ∃k:Nat,k≤l.length∧v4= .int .i64 k∧zb6 B b k8 (L++zbK (l.take k)) wr∧Below B W wr∧PrK b W wr) (fun v4 _=>l.length-(intOf v4).toNat)
 case atStart=>exact⟨0,by omega,rfl,by rw[List.take_zero,zbK,List.append_nil];exact h.out,Below.refl _ _,.refl _ _⟩
 case round=>
  obtain⟨k,hk,rfl,hp,hbr,hkr⟩:=hrel;have HP:=zaa hp;have HBR:=zaa hbr;have HKR:=zaa hkr;clear hp hbr hkr h;by_cases hlt:k<l.length
  rotate_left
  ·obtain rfl:k=l.length:=by omega
   rw[List.take_length] at HP;clear hlt;go_wp2_with fail
   go_end0
   exact⟨rfl,HP.out,HBR.out,HKR.out⟩
  obtain⟨x,hx⟩:=zbE hlt;obtain⟨g,off,rfl,hG,hg,hc⟩:=HA.out k x hx;have c0:wr.cell? ⟨g,off+k,none⟩=some x.val:=(World.cell?_of_block (HKR.out.block g hG.1 hG.2)).trans hc;have k0:=kbZ k l.length;have HX:=zaa hx;have HS:=zaa (zkp hx);have hle:=zjM (l:=l) (k:=k);have hle1:=zjM (l:=l) (k:=k+1);rw[HS.out,List.length_append,List.length_append] at hle1;clear hx hc
  cases x with
  |s t=>
   change wr.cell? ⟨g,off+k,none⟩=some (.iface 9 (.string ⟨t.toArray⟩)) at c0
   have hts:(Arg.s t).txt=t:=rfl;rw[hts] at HS hle1;by_cases hk0:k=0
   ·subst hk0
    simp only[Nat.add_zero] at c0;have e1:L++zbK (l.take 1)=L++zbK (l.take 0)++t:=by rw[show(1:Nat)=0+1 from rfl,HS.out];simp
    go_wp2_with fail;have HC:=zaa (zfF B b k8 _ ⟨t.toArray⟩ wr HP (by rw[List.length_append];show _+t.length≤_;omega) (Nat.le_trans hBw HBR.out.size));refine HC.out.mono ?_;rintro e w2 ⟨rfl,h1,h2,h3⟩;have HP2:=zaa h1;have HB2:=zaa (HBR.out.trans h2);have HK2:=zaa (HKR.out.trans h3);clear h1 h2 h3 HC;go_wp2_with fail;go_roundw
    case rel=>exact⟨1,by omega,by go_num,by rw[e1];exact HP2.out,HB2.out,HK2.out⟩
    case measure=>simp[intOf];omega
   ·have k1:(0:Int)<(k:Int):=by omega
    have e1:L++zbK (l.take (k+1))=L++zbK (l.take k)++[32]++t:=by rw[HS.out,if_neg hk0];simp
    rw[if_neg hk0] at hle1;go_wp2_with fail;have HC:=zaa (zjC B b k8 _ 32 wr HP (by rw[List.length_append];omega) (Nat.le_trans hBw HBR.out.size));refine HC.out.mono ?_;rintro e w1 ⟨rfl,h1,h2,h3⟩;have HP1:=zaa h1;have HB1:=zaa (HBR.out.trans h2);have HK1:=zaa (HKR.out.trans h3);clear h1 h2 h3 HC;go_wp2_with fail;have HC:=zaa (zfF B b k8 _ ⟨t.toArray⟩ w1 HP1 (by rw[List.length_append,List.length_append];show _+_+t.length≤_;simp at hle1 ⊢;omega) (Nat.le_trans hBw HB1.out.size));refine HC.out.mono ?_;rintro e w2 ⟨rfl,h1,h2,h3⟩;have HP2:=zaa h1;have HB2:=zaa (HB1.out.trans h2);have HK2:=zaa (HK1.out.trans h3);clear h1 h2 h3 HC;go_wp2_with fail;go_roundw
    case rel=>exact⟨k+1,by omega,by go_num,by rw[e1];exact HP2.out,HB2.out,HK2.out⟩
    case measure=>simp[intOf];omega
  |n z=>
   change wr.cell? ⟨g,off+k,none⟩=some (.iface 3 (.int .i64 z)) at c0
   have hts:(Arg.n z).txt=Lib.itoa z:=rfl;rw[hts] at HS hle1;have hok1: -9223372036854775808≤z∧z≤9223372036854775807:=hok.out _ (List.mem_of_getElem? HX.out);by_cases hk0:k=0
   ·subst hk0
    simp only[Nat.add_zero] at c0;have e1:L++zbK (l.take 1)=L++zbK (l.take 0)++Lib.itoa z:=by rw[show(1:Nat)=0+1 from rfl,HS.out];simp
    go_wp2_with fail;have HPd:=zaa (show zb6 B b k8 _ wr.drew from HP.out);have HBd:=zaa HBR.out.drew;have HKd:=zaa (show PrK b W wr.drew from⟨HKR.out.size,HKR.out.block⟩);refine zak (S:=fun _=>True) 5 (by kernel_rfl) (by kernel_rfl) trivial (fun hHeld=> ?_);clear c0;generalize wr.drew=U at *;refine tq 0 33 rfl hHeld ?_;refine tq 1 34 rfl hHeld ?_;refine tq 2 35 rfl hHeld ?_;refine tq 3 36 rfl hHeld ?_
    (try simp only[pu])
    refine trZ [4] (zaN.cons rfl (fun K hK=> ?_) zaN.nil);go_simp;have HI:=zaa (zdY z U (hE.out.keptB HBd.out hGB) hok1.1 hok1.2);refine HI.out.mono ?_;rintro e w5 ⟨rfl,h1⟩;have HP5:=zaa (HPd.out.later h1);have HB5:=zaa (HBd.out.trans (h1.mono (Nat.le_trans hBw HBd.out.size)));have HK5:=zaa (HKd.out.trans (.later h1));clear h1 HI;go_wp2_with fail;refine hK.out _ _ trivial (fun hHeld=> ?_);clear hK K
    (try simp only[pu])
    refine zan (by kernel_rfl) ?_;simp only[List.drop_succ_cons,List.drop_zero];go_wp2_with fail;have HC:=zaa (zfF B b k8 _ ⟨(Lib.itoa z).toArray⟩ w5 HP5 (by simp only[List.length_append];show _+(Lib.itoa z).length≤_;simp at hle1 ⊢;omega) (Nat.le_trans hBw HB5.out.size));refine HC.out.mono ?_;rintro e w6 ⟨rfl,h1,h2,h3⟩;have HP6:=zaa h1;have HB6:=zaa (HB5.out.trans h2);have HK6:=zaa (HK5.out.trans h3);clear h1 h2 h3 HC;go_wp2_with fail;go_roundw
    case rel=>exact⟨1,by omega,by go_num,by rw[e1];exact HP6.out,HB6.out,HK6.out⟩
    case measure=>simp[intOf];omega
   ·have k1:(0:Int)<(k:Int):=by omega
    have e1:L++zbK (l.take (k+1))=L++zbK (l.take k)++[32]++Lib.itoa z:=by rw[HS.out,if_neg hk0];simp
    rw[if_neg hk0] at hle1;go_wp2_with fail;have HC:=zaa (zjC B b k8 _ 32 wr HP (by rw[List.length_append];omega) (Nat.le_trans hBw HBR.out.size));refine HC.out.mono ?_;rintro e w1 ⟨rfl,h1,h2,h3⟩;have HP1:=zaa h1;have HB1:=zaa (HBR.out.trans h2);have HK1:=zaa (HKR.out.trans h3);clear h1 h2 h3 HC;go_wp2_with fail;have HPd:=zaa (show zb6 B b k8 _ w1.drew from HP1.out);have HBd:=zaa HB1.out.drew;have HKd:=zaa (show PrK b W w1.drew from⟨HK1.out.size,HK1.out.block⟩);refine zak (S:=fun _=>True) 5 (by kernel_rfl) (by kernel_rfl) trivial (fun hHeld=> ?_);clear c0;generalize w1.drew=U at *;refine tq 0 33 rfl hHeld ?_;refine tq 1 34 rfl hHeld ?_;refine tq 2 35 rfl hHeld ?_;refine tq 3 36 rfl hHeld ?_
    (try simp only[pu])
    refine trZ [4] (zaN.cons rfl (fun K hK=> ?_) zaN.nil);go_simp;have HI:=zaa (zdY z U (hE.out.keptB HBd.out hGB) hok1.1 hok1.2);refine HI.out.mono ?_;rintro e w5 ⟨rfl,h1⟩;have HP5:=zaa (HPd.out.later h1);have HB5:=zaa (HBd.out.trans (h1.mono (Nat.le_trans hBw HBd.out.size)));have HK5:=zaa (HKd.out.trans (.later h1));clear h1 HI;go_wp2_with fail;refine hK.out _ _ trivial (fun hHeld=> ?_);clear hK K
    (try simp only[pu])
    refine zan (by kernel_rfl) ?_;simp only[List.drop_succ_cons,List.drop_zero];go_wp2_with fail;have HC:=zaa (zfF B b k8 _ ⟨(Lib.itoa z).toArray⟩ w5 HP5 (by simp only[List.length_append];show _+(Lib.itoa z).length≤_;simp at hle1 ⊢;omega) (Nat.le_trans hBw HB5.out.size));refine HC.out.mono ?_;rintro e w6 ⟨rfl,h1,h2,h3⟩;have HP6:=zaa h1;have HB6:=zaa (HB5.out.trans h2);have HK6:=zaa (HK5.out.trans h3);clear h1 h2 h3 HC;go_wp2_with fail;go_roundw
    case rel=>exact⟨k+1,by omega,by go_num,by rw[e1];exact HP6.out,HB6.out,HK6.out⟩
    case measure=>simp[intOf];omega
def zap {α:Type} (f:α→List UInt8) (l:List α):List UInt8:=(l.map f).flatten
theorem zaq {α:Type} {f:α→List UInt8} {l:List α} {k:Nat} {x:α} (h:l[k]? =some x):zap f (l.take (k+1))=zap f (l.take k)++f x:=by
 unfold zap;rw[List.take_add_one,h];simp
theorem zbl {α:Type} {f:α→List UInt8} {l:List α}:zap f (l.take 0)=[]:=by simp[zap]
theorem zje {α:Type} {f:α→List UInt8} {l:List α} {k:Nat}:(zap f (l.take k)).length≤(zap f l).length:=by
 have e:zap f l=zap f (l.take k)++zap f (l.drop k):=by
  unfold zap;rw[←List.flatten_append,←List.map_append,List.take_append_drop]
 rw[e,List.length_append]
 omega
theorem zat {α:Type} {f:α→List UInt8} {l:List α} {k:Nat} {x:α} (h:l[k]? =some x):(zap f (l.take k)).length+(f x).length≤(zap f l).length:=by
 have:=zje (f:=f) (l:=l) (k:=k+1);rw[zaq h,List.length_append] at this;exact this
def lnT (t:Nat) (en:List UInt8) (l:List Arg):List UInt8:=Lib.repeatL [9] t++zbK l++(en++[10])
def zcZ:List UInt8:=[44,32]
def zcp (l:List Int):List UInt8:=Lib.join (l.map Lib.itoa) zcZ
def zcL (l:List zb7):List UInt8:=Lib.join (l.map zdv) zcZ
def zeP (x:zcu):List UInt8:=x.unit++[58]++Lib.itoa x.code
def zdk (l:List zcu):List UInt8:=Lib.join (l.map zeP) zcZ
def zcK (x:zb3):List Int:=[x.a,x.b,x.c].take (zaf zaP x.op).length
def zep (x:zb3):List UInt8:=zaf zaA x.op++zap (fun n=>32::Lib.itoa n) (zcK x)++[59]
def zbI (x:zbi):List UInt8:=lnT 0 [59] [.s [99,104,97,110,110,101,108],.s (zdv x.from_),.s [116,111],.s (zcL x.to)]
def swT (x:SwD):List UInt8:=lnT 0 [59] [.s [115,119,105,116,99,104],.s x.name,.s [110,101,116],.s (ziZ x.net),.s [100,101,108,97,121],.n x.delay,.s [115,116,111,114,101],.n x.store]
def zb9 (x:zby):List UInt8:=lnT 0 [59] [.s [108,105,110,107],.s x.a,.s x.b,.s [110,101,116],.s (ziZ x.net),.s [115,108,111,119],.n x.slow]
def vlT (x:VlD):List UInt8:=lnT 0 [59] [.s [118,108],.s x.name,.s [102,114,111,109],.s (zdv x.from_),.s [98,97,103],.n x.bag,.s [109,97,120],.n x.max,.s [116,111],.s (zcL x.to)]
def zef (x:zaB):List Arg:=[.s [111,110],.s (zaf zal x.fault)]++(if x.module=[] then[] else[.s [109,111,100,117,108,101],.s x.module])++(if x.part=[] then[] else[.s [112,97,114,116],.s x.part])++[.s [108,101,118,101,108],.s (zaf zai x.level),.s [100,111],.s (zaf zag x.do_)]
def zaC (x:zaB):List UInt8:=lnT 0 [59] (zef x)
def zes (x:zaF):List Arg:=[.s [99,97,117,115,101],.s x.unit,.s [110,101,101,100,115],.s (zdk x.needs)]++(if x.but=[] then[] else[.s [117,110,108,101,115,115],.s (Lib.join x.but zcZ)])
def zbg (x:zaF):List UInt8:=lnT 0 [59] (zes x)
def zf2 (x:zdt):List UInt8:=lnT 0 [59] [.s [119,111,114,107,115],.s x.a,.n x.va,.s [119,105,116,104],.s x.b,.n x.vb]
def zfJ (x:zaT):List UInt8:=if x.out then[111,117,116] else[105,110]
def zbP (x:zaT):List UInt8:=if x.kind=1 then lnT 2 [59] [.s (zfJ x),.s x.name,.s [115,97,109,112,108,105,110,103,32,115,105,122,101],.n x.size,.s [114,101,102,114,101,115,104],.n x.refresh] else lnT 2 [59] [.s (zfJ x),.s x.name,.s [113,117,101,117,105,110,103,32,115,105,122,101],.n x.size,.s [100,101,112,116,104],.n x.depth]
def zeE (x:za0):List UInt8:=lnT 2 [32,123] [.s [112,114,111,99],.s x.name,.s [112,114,105,111],.n x.prio,.s [112,101,114,105,111,100],.n x.period,.s [108,105,109,105,116],.n x.limit]
def zeb (x:zb3):List UInt8:=lnT 3 [] [.s (zep x)]
def zcB (x:za0):List UInt8:=zeE x++zap zeb x.code++lnT 2 [125] []
def zbM (x:zaQ):List UInt8:=lnT 1 [32,123] [.s [112,97,114,116],.s x.name,.s [112,101,114,105,111,100],.n x.period,.s [108,101,110,103,116,104],.n x.length,.s [109,101,109],.n x.mem]
def za7 (x:zaQ):List UInt8:=if x.semas=[] then[] else lnT 2 [59] [.s [115,101,109,97,115],.s (zcp x.semas)]
def zaR (x:zaQ):List UInt8:=if 0<x.events then lnT 2 [59] [.s [101,118,101,110,116,115],.n x.events] else[]
def zaW (x:zaQ):List UInt8:=if 0<x.boards then lnT 2 [59] [.s [98,111,97,114,100,115],.n x.boards] else[]
def zcA (x:zaQ):List UInt8:=if x.bufs=[] then[] else lnT 2 [59] [.s [98,117,102,115],.s (zcp x.bufs)]
def zcq (x:zaQ):List UInt8:=zbM x++za7 x++zaR x++zaW x++zcA x++zap zbP x.ports++zap zcB x.procs++lnT 1 [125] []
def zhl (x:zcy):List UInt8:=lnT 0 [32,123] [.s [109,111,100,117,108,101],.s x.name,.s [109,101,109],.n x.mem,.s [102,114,97,109,101],.n x.frame]
def zcO (x:zcy):List UInt8:=zhl x++zap zcq x.parts++lnT 0 [125] []
def zfq (x:zcS):List UInt8:=zap zcO x.modules++zap zbI x.channels++zap swT x.switches++zap zb9 x.links++zap vlT x.vls++zap zaC x.health++zap zbg x.causes++zap zf2 x.versions
theorem ze4 (l:List (List UInt8)):l.length≤(Lib.join l zcZ).length+1:=by
 cases l with
 |nil=>simp
 |cons a l=>
  rw[Lib.join_length];simp[zcZ]
  omega
theorem zlu {l:List (List UInt8)} {x:List UInt8} (h:x∈l):x.length≤Lib.lens l:=by
 induction l with
 |nil=>simp at h
 |cons a l ih=>
  simp only[Lib.lens,List.map_cons,List.sum_cons] at ih ⊢;rcases List.mem_cons.1 h with rfl|h
  ·omega
  ·have:=ih h
   omega
theorem zfW {l:List (List UInt8)} {x:List UInt8} (h:x∈l):x.length≤(Lib.join l zcZ).length:=by
 cases l with
 |nil=>simp at h
 |cons a l=>
  rw[Lib.join_length];have:=zlu h
  omega
def ziR (w:World) (G:Nat→Prop) (A:Option Addr) (size:Nat) (es:List (List Dat)):Prop:=
 es=[]∨ ∃b off,A=some ⟨b,off,none⟩∧G b∧b<w.heap.size∧ ∀(i j:Nat) e d,es[i]? =some e→e[j]? =some d→ ∃u,w.cell? ⟨b,off+i*size+j,none⟩=some u∧DAt w G u d
theorem DAt.sliceG {w:World} {G:Nat→Prop} {v:Value} {size:Nat} {es:List (List Dat)} (h:DAt w G v (.row size es)): ∃A c,v= .slice A es.length c∧ziR w G A size es:=by
 generalize hd:Dat.row size es=d at h
 cases h with
 |leaf v=>cases hd
 |nil A c size'=>
  injection hd with h1 h2
  subst h2;exact⟨A,c,rfl,.inl rfl⟩
 |row b off c size' n es' val hn hG hb hc hdd=>
  injection hd with h1 h2
  subst h1 h2;exact⟨_,c,by rw[hn],.inr ⟨b,off,rfl,hG,hb,fun i j e d he hd=>⟨_,hc i j e d he hd,hdd i j e d he hd⟩⟩⟩
theorem DAt.cap {w:World} {G:Nat→Prop} {A:Option Addr} {n c size:Nat} {es:List (List Dat)} (h:DAt w G (.slice A n c) (.row size es)):n≤c:=by
 generalize hd:Dat.row size es=d at h;generalize hv:Value.slice A n c=v at h
 cases h with
 |leaf v=>cases hd
 |nil A' c' size'=>
  injection hv with _ h2 _
  omega
 |row b off c' size' n' es' val hn hG hb hc hdd hcap=>
  injection hv with _ h2 h3
  omega
theorem ziR.at_ {α:Type} {w:World} {G:Nat→Prop} {A:Option Addr} {size k:Nat} {l:List α} {cells:α→List Dat} {x:α} (h:ziR w G A size (l.map cells)) (hx:l[k]? =some x):
 ∃b off,A=some ⟨b,off,none⟩∧G b∧b<w.heap.size∧ ∀(j:Nat) d,(cells x)[j]? =some d→ ∃u,w.cell? ⟨b,off+k*size+j,none⟩=some u∧DAt w G u d:=by
 rcases h with h|⟨b,off,h1,hG,h2,h3⟩
 ·rw[List.map_eq_nil_iff] at h
  subst h;simp at hx
 ·exact⟨b,off,h1,hG,h2,fun j d hd=>h3 k j (cells x) d (by rw[List.getElem?_map,hx];rfl) hd⟩
theorem ziR.keep {w w':World} {B:Nat} {A:Option Addr} {size:Nat} {es:List (List Dat)} (h:ziR w (fun g=>g<B) A size es) (hb:Below B w w'):ziR w' (fun g=>g<B) A size es:=by
 rcases h with h|⟨b,off,h1,hG,h2,h3⟩
 ·exact .inl h
 ·refine .inr ⟨b,off,h1,hG,Nat.lt_of_lt_of_le h2 hb.size,fun i j e d he hd=> ?_⟩
  obtain⟨u,hu,hdu⟩:=h3 i j e d he hd;exact⟨u,(World.cell?_of_block (hb.block b hG)).trans hu,hdu.keep hb.size (fun g hg _=>hb.block g hg)⟩
theorem DAt.lateG {w w':World} {B:Nat} {v:Value} {d:Dat} (h:DAt w (fun g=>g<B) v d) (hb:Below B w w'):DAt w' (fun g=>g<B) v d:=h.keep hb.size (fun g hg _=>hb.block g hg)
theorem leafG {w:World} {G:Nat→Prop} {p:Addr} {v:Value} (h: ∃u,w.cell? p=some u∧DAt w G u (.leaf v)):w.cell? p=some v:=by
 obtain⟨u,h1,h2⟩:=h;rw[h1,h2.leaf_eq]
theorem zlK {b:Nat} {w w':World} {v:Value} {d:Dat} (h:DAt w (fun g=>g≠b∧Oth w g) v d) (k:PrK b w w'):DAt w' (fun g=>g≠b∧Oth w' g) v d:=by
 refine(h.keep k.size (fun g hg _=>k.block g hg.1 hg.2)).mono (fun g hg _=>⟨hg.1,?_⟩);obtain⟨cs,T,fr,h1,h2⟩:=hg.2;exact⟨cs,T,fr,(k.block g hg.1 hg.2).trans h1,h2⟩
theorem zbL (w:World) (l:List Arg) {b:Nat} (hb:b<w.heap.size):DAt (w.alloc (.cells (l.map Arg.val).toArray 20)) (fun g=>g≠b∧Oth (w.alloc (.cells (l.map Arg.val).toArray 20)) g) (.slice (some ⟨w.heap.size,0,none⟩) l.length l.length) (.row 1 (zbN l)):=by
 refine DAt.block (heap_alloc_new w _) (by simp[zbN]) (fun e he=> ?_) ?_ ⟨by omega,_,_,_,heap_alloc_new w _,by decide⟩
 ·unfold zbN at he
  obtain⟨s,_,rfl⟩:=List.mem_map.1 he
  rfl
 ·have hf:(zbN l).flatten=(l.map Arg.val).map Dat.leaf:=zeW Arg.val l
  rw[hf];exact zcI _
theorem zbx (B b:Nat) (k8:C8) (L:List UInt8) (t:Nat) (en:List UInt8) (v:Value) (l:List Arg) (W:World) (h:Hid (zb6 B b k8 L W)) (hv:Hid (DAt W (fun g=>g≠b∧Oth W g) v (.row 1 (zbN l)))) (hok:Hid (∀a∈l,a.ok)) (hl:l.length≤1000) (ht:t≤1000) (hen:en.length≤1000) (hlen:L.length+(zbK l).length≤100000000000) (hBw:B≤W.heap.size) (hGB:8≤B) (hE:Hid (Env W)):
 Calls prog 132 #[.pointer (some ⟨b,0,none⟩),.int .i64 t,.string ⟨en.toArray⟩,v] W fun e w'=>e= .returned (.tuple #[])∧zb6 B b k8 (L++lnT t en l) w'∧Below B W w'∧PrK b W w':=by
 have k1:=smZ (en.length+1);have hrl:=Lib.repeatL_length [9] t;simp only[List.length_cons,List.length_nil] at hrl;have HR:=zaa (fun V=>Tryz.strings_Repeat ⟨#[9]⟩ t V (by omega) (by show 1*t≤_;omega))
 go_enter func132,ntmps132
 go_wp2_with fail;refine zak (S:=fun w'=>Below W.heap.size W w') 5 (by kernel_rfl) (by kernel_rfl) (Below.refl _ _).drew (fun hHeld=> ?_);generalize W.drew=U at *;refine tq 0 8 rfl hHeld ?_;refine tq 1 9 rfl hHeld ?_;refine tq 2 10 rfl hHeld ?_;refine tq 3 11 rfl hHeld ?_
 (try simp only[pu])
 refine trZ [4] (zaN.cons rfl (fun K hK=> ?_) zaN.nil);go_simp;refine(HR.out U).mono ?_;rintro e w1 ⟨rfl,h1⟩;have hS:=hHeld.trans (h1.mono hHeld.size);have HP1:=zaa (h.out.later hS);have HB1:=zaa (hS.mono hBw);have HK1:=zaa (PrK.later (b:=b) hS);clear h1 HR hHeld;go_wp2_with fail;refine hK.out _ _ hS (fun hHeld=> ?_);clear hK K hS hHeld
 (try simp only[pu])
 refine zan (by kernel_rfl) ?_;simp only[List.drop_succ_cons,List.drop_zero];go_wp2_with fail;have HC:=zaa (zfF B b k8 _ ⟨(Lib.repeatL [9] t).toArray⟩ w1 HP1 (by show _+(Lib.repeatL [9] t).length≤_;omega) (Nat.le_trans hBw HB1.out.size));refine HC.out.mono ?_;rintro e w2 ⟨rfl,h1,h2,h3⟩;have HP2:=zaa h1;have HB2:=zaa (HB1.out.trans h2);have HK2:=zaa (HK1.out.trans h3);clear h1 h2 h3 HC;go_wp2_with fail;have HC:=zaa (zmX B b k8 _ v l w2 HP2 (zaa (zlK hv.out HK2.out)) hok hl (by rw[List.length_append];show _+(Lib.repeatL [9] t).length+_≤_;omega) (Nat.le_trans hBw HB2.out.size) hGB (zaa (hE.out.keptB HB2.out hGB)));refine HC.out.mono ?_;rintro e w3 ⟨rfl,h1,h2,h3⟩;have HP3:=zaa h1;have HB3:=zaa (HB2.out.trans h2);have HK3:=zaa (HK2.out.trans h3);clear h1 h2 h3 HC;go_wp2_with fail;have HT:(⟨en.toArray⟩++⟨#[10]⟩:ByteArray)=⟨(en++[10]).toArray⟩:=by
  apply ByteArray.ext;simp[ByteArray.data_append]
 rw[HT];have HC:=zaa (zfF B b k8 _ ⟨(en++[10]).toArray⟩ w3 HP3 (by simp only[List.length_append];show _+(Lib.repeatL [9] t).length+_+(en++[10]).length≤_;simp;omega) (Nat.le_trans hBw HB3.out.size));refine HC.out.mono ?_;rintro e w4 ⟨rfl,h1,h2,h3⟩;have HP4:=zaa h1;have HB4:=zaa (HB3.out.trans h2);have HK4:=zaa (HK3.out.trans h3);clear h1 h2 h3 HC;go_wp2_with fail
 go_end0
 refine⟨rfl,?_,HB4.out,HK4.out⟩;have:=HP4.out
 simpa only[lnT,List.append_assoc] using this
end Go.Proofs.YtgbfaompondolaaGreatDoor
