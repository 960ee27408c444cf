/- Merged texts of the walks and of the plain laws on which the statement leans.-/
import Derived.Test.YtlngbjphagnloaaGreatDoorPk5
import Derived.Test.YtlngbjphagnloaaGreatDoorPk2
import Derived.OwnWalkIn
import Derived.RangeFuncBox
import Derived.Maps.AppendAt
import Derived.Laws.EntriesVeiled
import Derived.Test.YtlngbjphagnloaaGreatDoorPk4
import Derived.Test.YtlngbjphagnloaaGreatDoorPk1
set_option maxHeartbeats 4000000
set_option maxRecDepth 100000
namespace Go.Proofs.YtlngbjphagnloaaGreatDoor
open Tryz
open Go.RowKit Go.Shelf
attribute [local go_sem] Oper.semAt_some
theorem zlA {w:World} {x:Nat} {a:Value} {t:TypeId} (h:w.heap[x]? =some (.cells #[a] t (0,0))):w.cell? ⟨x,0,none⟩=some a∧w.frozen? ⟨x,0,none⟩=false∧x<w.heap.size:=by
 have c0:=cell_of_row w x 0 _ _ _ h;simp only[List.getElem?_toArray,List.getElem?_cons_zero] at c0;exact⟨c0,frozen_of_row w x 0 _ _ h,(zal h)⟩
theorem ziM {sb xb lb n₀ j:Nat} {src:ByteArray} {F:Nat→Prop} {g1 g2 g3:Nat} {k1 k2 k3:Array Value} {w:World} (h:ItS sb xb lb n₀ src F g1 g2 g3 k1 k2 k3 j w) (hj:j≤src.size) (hs:src.size≤1099511627776):
 Calls prog 74 #[.pointer (some ⟨sb,0,none⟩)] w fun e w'=>e= .returned (.tuple #[])∧AtJ sb (za8 src j) w w':=
 zmC sb j src w (zaa h.sc.s0) (zaa h.here) (zaa h.free) hj hs
theorem zmc {sb xb lb n₀ j:Nat} {src:ByteArray} {F:Nat→Prop} {g1 g2 g3:Nat} {k1 k2 k3:Array Value} {w:World} (h:ItS sb xb lb n₀ src F g1 g2 g3 k1 k2 k3 j w) (hj:j<src.size) (hs:src.size≤1099511627776) (kd ln er:Nat) (ht:za9 ((zan src).drop j)=(kd,ln,er)):
 Calls prog 75 #[.pointer (some ⟨sb,0,none⟩)] w fun e w'=>e= .returned (.tuple #[.agg #[.int .u8 (kd:Int),.string (src.extract j (j+ln)),.int .i64 (j:Int)],.int .i64 (er:Int)])∧AtJ sb (j+ln) w w':=
 zmY sb j src F g1 g2 g3 k1 k2 k3 w h.s4 (zaa h.sc) hj hs (zaa h.here) (zaa h.free) (zaa h.env) kd ln er (zaa ht)
theorem zl3 (l sb xb lb n₀:Nat) (src:ByteArray) (F:Nat→Prop) (g1 g2 g3:Nat) (k1 k2 k3:Array Value) (J Jx:List (Tok×Nat)→World→Prop) (W:World) (hI:Hid (ItS sb xb lb n₀ src F g1 g2 g3 k1 k2 k3 0 W)) (hs:src.size≤1099511627776)
 (hT:Hid (∀s A B,J s A→zam (fun k=>k=sb) A B→J s B))
 (hY:Hid (∀pre x W1,J pre W1→pre.length<src.size→pre++[x] <+:zeW 0 (zan src)→YieldAt Fence.wide (4-1) prog l (zoX x) W1 fun e W'=>
   (e= .returned (.bool true)∧J (pre++[x]) W'∧KpL lb n₀ W1 W')∨(e= .returned (.bool false)∧Jx (pre++[x]) W'))) (h0:Hid (J [] W)):
 CallsIn Fence.wide 4 prog 73 #[.func (.yield l) #[] #[],.pointer (some ⟨xb,0,none⟩)] W fun e W'=>(∃v,e= .returned v)∧
  ((∃xs,xs=zeW 0 (zan src)∧J xs W')∨(∃pre,pre <+:zeW 0 (zan src)∧Jx pre W')):=by
 obtain⟨b0,bf,bl⟩:=zlA hI.out.box;refine callsIn_of_wp func73 rfl trivial ?_ rfl;simp only[ntmps73,List.size_toArray,List.length_cons,List.length_nil,Nat.reduceAdd,Nat.reduceSub,Array.replicate_succ,Array.replicate_zero,List.push_toArray,List.append_toArray,List.nil_append,List.cons_append]
 gi_wp2_with (first
  |(refine⟨trivial,?_⟩;gi_at_call 74;refine(callsIn_wide.2 (ziM hI.out (Nat.zero_le _) hs)).mono ?_;rintro e w1 ⟨rfl,hJ1⟩;have HJ1:=zaa hJ1;clear hJ1))
 have HI1:=zaa (hI.out.atJ HJ1.out);have HJJ:=zaa (hT.out _ _ _ h0.out HJ1.out.kept);clear b0 bf bl
 gi_loopw [] (fun wr=> ∃j pre,AtE src pre j∧J pre wr∧ItS sb xb lb n₀ src F g1 g2 g3 k1 k2 k3 j wr) (fun wr=>src.size-zbL sb wr)
 case atStart=>exact⟨_,_,AtE.start src,HJJ.out,HI1.out⟩
 case round=>
  obtain⟨j,pre,hA,hJ,hIt⟩:=hrel;have HA:=zaa hA;have HJ:=zaa hJ;have HIt:=zaa hIt;obtain⟨b0,bf,bl⟩:=zlA hIt.box;have d0:=hIt.sc.s0;have d1:=hIt.here;have hj:j≤src.size:=hA.1;clear hA hJ hIt HI1 HJJ HJ1;by_cases hlt:j<src.size
  ·obtain⟨⟨kd,ln,er⟩,ht⟩: ∃t,za9 ((zan src).drop j)=t:=⟨_,rfl⟩
   obtain⟨e1,e2,e3⟩:=HA.out.step hlt ht;have HE1:=zaa e1;have HE2:=zaa e2;have HPre:Hid (pre++[(⟨kd,((zan src).drop j).take ln,j⟩,er)] <+:zeW 0 (zan src)):=zaa (by rw[e1];exact List.prefix_append _ _);have HNx:=zaa (fun nq=>zmc (HIt.out.below (below_drewN (Below.refl _ _) nq)) hlt hs kd ln er ht);clear e1 e2 ht
   gi_wp2
   gi_quiet (fail)
   gi_wp2
   refine⟨trivial,?_⟩;refine(callsIn_wide.2 (HNx.out _)).mono ?_;rintro e w2 ⟨rfl,hJ2⟩;have HI2:=zaa ((HIt.out.below (below_drewN (Below.refl _ _) _)).atJ hJ2);have hK:zam (fun k=>k=sb) wr (w2.alloc (.cells #[.int .u8 (kd:Int),.string (src.extract j (j+ln)),.int .i64 (j:Int)] 43)):=((((zam.refl _ wr).drewN _).trans hJ2.kept).alloc _);have HI3:=zaa (HI2.out.below ((Below.refl _ _).alloc (Nat.le_refl _) (.cells #[.int .u8 (kd:Int),.string (src.extract j (j+ln)),.int .i64 (j:Int)] 43)));obtain⟨fn,tmps,assign,body,hy,hRd⟩:=hY.out pre (⟨kd,((zan src).drop j).take ln,j⟩,er) _ (hT.out _ _ _ HJ.out hK) (HA.out.len hlt) HPre.out;dsimp only[zoX,Tok.val] at hy;rw[←zfa] at hy;clear hJ2 hK d0 d1;by_cases her:er=0
   ·have hb0:((er:Int) != 0)=false:=by simp;omega
    have HE4:=zaa (HE2.out her);clear her
    gi_wp2
    refine hRd.mono ?_;rintro e W3 (⟨rfl,hJ3,hk3⟩|⟨rfl,hJx3⟩)
    ·have HI4:=zaa (HI3.out.kp hk3)
     have HJ3:=zaa hJ3;clear hJ3 hk3 hy hRd;obtain⟨b0,bf,bl⟩:=zlA HI4.out.box
     gi_wp2
     refine⟨trivial,?_⟩;refine(callsIn_wide.2 (ziM HI4.out e3 hs)).mono ?_;rintro e w4 ⟨rfl,hJ4⟩;have HI5:=zaa (HI4.out.atJ hJ4);have HJ5:=zaa (hT.out _ _ _ HJ3.out hJ4.kept);have m2:zbL sb wr=j:=by unfold zbL;rw[HIt.out.here];simp[intOf]
     have m1:zbL sb w4=za8 src (j+ln):=by unfold zbL;rw[HI5.out.here];simp[intOf]
     have HM:=zaa (show src.size-zbL sb w4<src.size-zbL sb wr by rw[m1,m2];have:=HE4.out.2;omega);clear m1 m2 hJ4
     gi_wp2
     go_roundw
     case rel=>exact⟨_,_,HE4.out.1,HJ5.out,HI5.out⟩
     case measure=>exact HM.out
    ·gi_wp2
     refine bodyPost_ret (results_none rfl _ _ _) rfl ?_;exact⟨⟨_,rfl⟩,.inr ⟨_,HPre.out,hJx3⟩⟩
   ·have hb0:((er:Int) != 0)=true:=by simp;omega
    have HFull:=zaa (show pre++[(⟨kd,((zan src).drop j).take ln,j⟩,er)]=zeW 0 (zan src) by rw[HE1.out,if_neg her];simp);clear her
    gi_wp2
    refine hRd.mono ?_;rintro e W3 (⟨rfl,hJ3,hk3⟩|⟨rfl,hJx3⟩)
    ·have HJ3:=zaa hJ3
     clear hJ3 hk3
     gi_wp2
     refine bodyPost_ret (results_none rfl _ _ _) rfl ?_;exact⟨⟨_,rfl⟩,.inl ⟨_,HFull.out,HJ3.out⟩⟩
    ·gi_wp2
     refine bodyPost_ret (results_none rfl _ _ _) rfl ?_;exact⟨⟨_,rfl⟩,.inr ⟨_,HPre.out,hJx3⟩⟩
  ·have HF:=zaa (HA.out.full (Nat.le_of_not_lt hlt))
   gi_wp2
   gi_quiet (fail)
   gi_wp2
   go_end0
   exact⟨⟨_,rfl⟩,.inl ⟨_,HF.out,hT.out _ _ _ HJ.out ((zam.refl _ wr).drewN _)⟩⟩
def zf0 (l:List Tok):List Value:=zf3 .u8 (l.map Tok.toZ)
theorem znN (p:Option Addr) (w:World):Calls prog 46 #[.pointer p] w fun e w'=>e= .returned (.func (.func 73) #[] #[.pointer (some ⟨w.heap.size,0,none⟩)])∧w'=w.alloc (.cells #[.pointer p] 99):=by
 go_enter func46,ntmps46
 have hmf: ∀(fn:Fn) (first cap:Array Value) (w:World),(Instr.makeFunc fn first cap).run prog w= .ok (.func fn first cap) w:=fun _ _ _ _=>rfl
 go_wp2
 go_ret;exact⟨rfl,rfl⟩
def zbr (src:List UInt8):List Tok×Nat×Nat:=if 65536<src.length then([],0,3) else if(zbM 0 src).2.2=0 then zbM 0 src else([],(zbM 0 src).2.1,(zbM 0 src).2.2)
def zoV (w:World) (src:ByteArray) (e:Ending) (w':World):Prop:=
 ∃v,e= .returned (.tuple #[v,.int .i64 ((zbr src.data.toList).2.1:Int),.int .i64 ((zbr src.data.toList).2.2:Int)])∧w'.ownsRow w.heap.size 43 3 v (zbr src.data.toList).1.length (zf0 (zbr src.data.toList).1)∧((zbr src.data.toList).1=[]→v= .slice none 0 0)∧Below w.heap.size w w'
theorem zmx (src:ByteArray) (w:World) (hl:65536<src.size):Calls prog 13 #[.string src] w (zoV w src):=by
 have HR:Hid (∀w',Below w.heap.size w w'→zoV w src (.returned (.tuple #[.slice none 0 0,.int .i64 0,.int .i64 3])) w'):=by
  intro w' hb;have he:zbr src.data.toList=([],0,3):=by unfold zbr;rw[if_pos (by simpa using hl)]
  refine⟨.slice none 0 0,by rw[he];rfl,?_,fun _=>rfl,hb⟩;rw[he];exact⟨rfl,.inl ⟨rfl,rfl⟩⟩
 go_enter func13,ntmps13
 go_wp2
 refine bodyPost_ret (v:= .tuple #[.slice none 0 0,.int .i64 0,.int .i64 3]) (by simp[results,Tryz.results13,go_sem]) rfl (HR.out _ ?_);exact(((Below.refl _ _).alloc (Nat.le_refl _) _).alloc (by simp) _).alloc (by simp;omega) _
theorem mixed:prog.follows .mixedOrders=true:=by kernel_rfl
theorem zlp (w:World) (X Y Z:Obj):(((w.alloc X).alloc Y).alloc Z).heap[w.heap.size]? =some X∧(((w.alloc X).alloc Y).alloc Z).heap[w.heap.size+1]? =some Y∧(((w.alloc X).alloc Y).alloc Z).heap[w.heap.size+1+1]? =some Z∧
 (((w.alloc X).alloc Y).alloc Z).heap.size=w.heap.size+3∧Below w.heap.size w (((w.alloc X).alloc Y).alloc Z):=by
 have h1:(w.alloc X).heap[w.heap.size]? =some X:=heap_alloc_new w X;have h2:((w.alloc X).alloc Y).heap[w.heap.size+1]? =some Y:=by have:=heap_alloc_new (w.alloc X) Y;rw[World.size_alloc] at this;exact this
 have h3:(((w.alloc X).alloc Y).alloc Z).heap[w.heap.size+1+1]? =some Z:=by have:=heap_alloc_new ((w.alloc X).alloc Y) Z;rw[World.size_alloc,World.size_alloc] at this;exact this
 have s:(((w.alloc X).alloc Y).alloc Z).heap.size=w.heap.size+3:=by simp
 have a1:((w.alloc X).alloc Y).heap[w.heap.size]? =some X:=(Below.heap_alloc _ _ _ (by simp)).trans h1;have a2:(((w.alloc X).alloc Y).alloc Z).heap[w.heap.size]? =some X:=(Below.heap_alloc _ _ _ (by simp;omega)).trans a1;have a3:(((w.alloc X).alloc Y).alloc Z).heap[w.heap.size+1]? =some Y:=(Below.heap_alloc _ _ _ (by simp)).trans h2;exact⟨a2,a3,h3,s,(((Below.refl _ _).alloc (Nat.le_refl _) X).alloc (by simp) Y).alloc (by simp;omega) Z⟩
theorem zoO {w:World} {x:Nat} {a b c d e f:Value} {t:TypeId} (h:w.heap[x]? =some (.cells #[a,b,c,d,e,f] t (0,0))):w.cell? ⟨x,0,none⟩=some a∧w.cell? ⟨x,1,none⟩=some b∧w.cell? ⟨x,2,none⟩=some c∧
 w.cell? ⟨x,3,none⟩=some d∧w.cell? ⟨x,4,none⟩=some e∧w.cell? ⟨x,5,none⟩=some f∧w.frozen? ⟨x,1,none⟩=false∧x<w.heap.size:=by
 have c0:=cell_of_row w x 0 _ _ _ h;have c1:=cell_of_row w x 1 _ _ _ h;have c2:=cell_of_row w x 2 _ _ _ h;have c3:=cell_of_row w x 3 _ _ _ h;have c4:=cell_of_row w x 4 _ _ _ h;have c5:=cell_of_row w x 5 _ _ _ h;simp only[List.getElem?_toArray,List.getElem?_cons_zero,List.getElem?_cons_succ] at c0 c1 c2 c3 c4 c5;exact⟨c0,c1,c2,c3,c4,c5,frozen_of_row w x 1 _ _ h,(zal h)⟩
theorem ziV {w w':World} {F:Nat→Prop} {base e size n:Nat} {v:Value} {xs:List Value} (h:w.ownsRow base e size v n xs) (k:zam F w w') (hF: ∀g,F g→g<base):w'.ownsRow base e size v n xs:=by
 refine⟨h.1,?_⟩;rcases h.2 with hn|⟨g,cap,cur,hv,hb,hg,rest⟩
 ·exact .inl hn
 ·exact .inr ⟨g,cap,cur,hv,hb,(k.block g (zal hg) (fun hf=>by have:=hF g hf;omega)).trans hg,rest⟩
theorem zmB {w:World} {base base' e size n:Nat} {v:Value} {xs:List Value} (h:w.ownsRow base e size v n xs) (hb:base'≤base):w.ownsRow base' e size v n xs:=by
 refine⟨h.1,?_⟩;rcases h.2 with hn|⟨g,cap,cur,hv,hg0,rest⟩
 ·exact .inl hn
 ·exact .inr ⟨g,cap,cur,hv,Nat.le_trans hb hg0,rest⟩
theorem zam.putObj {F:Nat→Prop} (W:World) (l:Nat) (o':Obj) (hF:F l):zam F W (W.putObj l o'):=
 ⟨rfl,rfl,rfl,by simp,fun k _ hf=>World.putObj_heap_other (fun e=>hf (e ▸ hF))⟩
theorem zay {w w':World} {F:Nat→Prop} {B:Nat} {t:TypeId} {v:Value} (h:Boxed w B t v) (k:zam F w w') (hF: ¬F B):Boxed w' B t v:=(k.block B h.lt hF).trans h
structure zgt (w:World) (lb n₀:Nat) (pre:List (Tok×Nat)) (W:World):Prop where
 row: ∃v,Boxed W lb 38 v∧W.ownsRow n₀ 43 3 v pre.length (zf0 (pre.map (·.1)))∧(pre=[]→v= .slice none 0 0)
 r0:Boxed W w.heap.size 38 (.slice none 0 0)
 r1:Boxed W (w.heap.size+1) 3 (.int .i64 0)
 r2:Boxed W (w.heap.size+1+1) 33 (.int .i64 0)
 below:Below w.heap.size w W
 big:n₀≤W.heap.size
 fine: ∀y∈pre,y.2=0
structure zom (w:World) (n₀:Nat) (c:Code) (pre:List (Tok×Nat)) (W:World):Prop where
 ret:c= .ret
 last: ∃pre' x,pre=pre'++[x]∧x.2≠0∧Boxed W w.heap.size 38 (.slice none 0 0)∧Boxed W (w.heap.size+1) 3 (.int .i64 (x.1.at_:Int))∧Boxed W (w.heap.size+1+1) 33 (.int .i64 (x.2:Int))
 below:Below w.heap.size w W
 big:n₀≤W.heap.size
section
variable {w:World} {lb n₀:Nat}
theorem zgt.keep {F:Nat→Prop} {pre:List (Tok×Nat)} {A B:World} (h:zgt w lb n₀ pre A) (k:zam F A B) (h1: ∀i,i≤w.heap.size+1+1→ ¬F i) (h2: ¬F lb) (h3: ∀v,A.ownsRow n₀ 43 3 v pre.length (zf0 (pre.map (·.1)))→B.ownsRow n₀ 43 3 v pre.length (zf0 (pre.map (·.1)))):zgt w lb n₀ pre B:=by
 obtain⟨v,hv,ho,hn⟩:=h.row;exact⟨⟨v,zay hv k h2,h3 v ho,hn⟩,zay h.r0 k (h1 _ (by omega)),zay h.r1 k (h1 _ (by omega)),zay h.r2 k (h1 _ (by omega)),h.below.trans (k.below h.below.size (fun i hi=>h1 i (by omega))),Nat.le_trans h.big k.size,h.fine⟩
theorem zgt.own (hn:w.heap.size+3≤n₀) (hlb:lb<n₀):OwnFrom n₀ (zgt w lb n₀):=fun pre A B row hs hg hr=>by
 have hk:zam (fun k=>row=some k) A B:=⟨hg.os,hg.tape,hg.output,hg.size,fun k hk hf=>hg.block k hk (fun e=>hf e.symm)⟩;refine hs.keep hk (fun i hi e=>by have:=(hr i e).1;omega) (fun e=>by have:=(hr lb e).1;omega) (fun v ho=>ho.kept hg ?_);rcases ho.2 with⟨rfl,_⟩|⟨g,cap,cur,rfl,_,hgb,_⟩
 ·exact .inl rfl
 ·refine .inr fun e'=> ?_
  obtain⟨o,ho,hc⟩:=(hr g (by simpa [Value.ownBlock] using e'.symm)).2;rw[hgb] at ho;cases ho;cases hc
theorem zgt.state {sb:Nat} (h0:w.heap.size+1+1<sb) (h1:sb≠lb) (h2:sb<n₀) {pre:List (Tok×Nat)} {A B:World} (h:zgt w lb n₀ pre A) (k:zam (fun k=>k=sb) A B):zgt w lb n₀ pre B:=
 h.keep k (fun i hi e=>by omega) (fun e=>h1 e.symm) (fun v ho=>ziV ho k (fun g hg=>by omega))
theorem zgt.append (h0:w.heap.size+1+1<lb) (h1:lb<n₀) {pre:List (Tok×Nat)} {x:Tok×Nat} {W w3:World} {tmp:Obj} {v v':Value} (HI:zgt w lb n₀ pre W) (hx:x.2=0) (hv:Boxed W lb 38 v) (ho:W.ownsRow n₀ 43 3 v pre.length (zf0 (pre.map (·.1))))
 (hown:w3.ownsRow n₀ 43 3 v' (pre.length+1) (zf0 (pre.map (·.1))++x.1.toZ.cells .u8)) (hg:(W.alloc tmp).grownBy w3 v.ownBlock):
 Boxed w3 lb 38 v∧KeepsFrom n₀ W (w3.setCell ⟨lb,0,none⟩ v')∧KpL lb n₀ W (w3.setCell ⟨lb,0,none⟩ v')∧zgt w lb n₀ (pre++[x]) (w3.setCell ⟨lb,0,none⟩ v'):=by
 have hrow: ∀g,v.ownBlock=some g→n₀≤g:=fun g hg=>(ho.lt g hg).1
 have hk3:zam (fun k=>n₀≤k) W w3:=by
  refine⟨hg.os,hg.tape,hg.output,by have:=hg.size;simp at this;omega,fun k hk hf=>(hg.block k (by simp;omega) (fun e=>hf (hrow k e.symm))).trans (Below.heap_alloc _ _ _ hk)⟩
 have hv3:Boxed w3 lb 38 v:=zay hv hk3 (by omega);have hk4:zam (fun k=>k=lb∨n₀≤k) W (w3.setCell ⟨lb,0,none⟩ v'):=(hk3.mono (fun i hi=> .inr hi)).setCell (p:=⟨lb,0,none⟩) (.inl (.inl rfl)) _;have hne:some lb≠v'.ownBlock:=fun e=>by have:=(hown.lt lb e.symm).1;omega
 refine⟨hv3,?_,hk4,⟨v',hv3.set v',?_,fun e=>by simp at e⟩,zay HI.r0 hk4 (by omega),zay HI.r1 hk4 (by omega),zay HI.r2 hk4 (by omega),HI.below.trans (hk4.below HI.below.size (fun i hi=>by omega)),Nat.le_trans HI.big hk4.size,fun y hy=> ?_⟩
 ·refine(((KeepsOthers.alloc W tmp).trans (KeepsOthers.of_grownBy hg fun j o ej hj=> ?_)).trans (KeepsOthers.setCell _ _ _)).from _
  rcases(ho.alloc tmp).2 with⟨rfl,_⟩|⟨g,cap,cur,rfl,_,hgb,_⟩
  ·simp[Value.ownBlock] at ej
  ·obtain rfl:g=j:=by simpa [Value.ownBlock] using ej
   rw[hgb] at hj;cases hj;rfl
 ·have e1:(pre++[x]).length=pre.length+1:=by simp
  have e2:zf0 ((pre++[x]).map (·.1))=zf0 (pre.map (·.1))++x.1.toZ.cells .u8:=by
   unfold zf0;rw[List.map_append,List.map_append];exact zeK _ _ _
  rw[e1,e2];exact hown.kept (grownBy_setCell' w3 lb v') (.inr hne.symm)
 ·rcases List.mem_append.1 hy with hy|hy
  ·exact HI.fine y hy
  ·rw[List.mem_singleton] at hy;rw[hy];exact hx
theorem zgt.leave (_h0:w.heap.size+1+1<n₀) {pre:List (Tok×Nat)} {x:Tok×Nat} {W:World} (HI:zgt w lb n₀ pre W) (hx:x.2≠0):
 KeepsFrom n₀ W (((W.setCell ⟨w.heap.size,0,none⟩ (.slice none 0 0)).setCell ⟨w.heap.size+1,0,none⟩ (.int .i64 (x.1.at_:Int))).setCell ⟨w.heap.size+1+1,0,none⟩ (.int .i64 (x.2:Int))).drew∧
 zom w n₀ .ret (pre++[x]) (((W.setCell ⟨w.heap.size,0,none⟩ (.slice none 0 0)).setCell ⟨w.heap.size+1,0,none⟩ (.int .i64 (x.1.at_:Int))).setCell ⟨w.heap.size+1+1,0,none⟩ (.int .i64 (x.2:Int))).drew:=by
 obtain⟨X,hX⟩: ∃X,W.setCell ⟨w.heap.size,0,none⟩ (.slice none 0 0)=X:=⟨_,rfl⟩;have k1:zam (fun k=>k=w.heap.size) W X:=by rw[←hX];exact(zam.refl (fun k=>k=w.heap.size) W).setCell (p:=⟨w.heap.size,0,none⟩) (.inl rfl) _
 have o1:KeepsOthers W X:=by rw[←hX];exact KeepsOthers.setCell _ _ _
 have b0:Boxed X w.heap.size 38 (.slice none 0 0):=by rw[←hX];exact HI.r0.set (.slice none 0 0)
 have b1:=zay HI.r1 k1 (by omega);have b2:=zay HI.r2 k1 (by omega);rw[hX];clear hX;obtain⟨Y,hY⟩: ∃Y,X.setCell ⟨w.heap.size+1,0,none⟩ (.int .i64 (x.1.at_:Int))=Y:=⟨_,rfl⟩;have k2:zam (fun k=>k=w.heap.size+1) X Y:=by rw[←hY];exact(zam.refl (fun k=>k=w.heap.size+1) X).setCell (p:=⟨w.heap.size+1,0,none⟩) (.inl rfl) _
 have o2:KeepsOthers X Y:=by rw[←hY];exact KeepsOthers.setCell _ _ _
 have d1:Boxed Y (w.heap.size+1) 3 (.int .i64 (x.1.at_:Int)):=by rw[←hY];exact b1.set _
 have d0:=zay b0 k2 (by omega);have d2:=zay b2 k2 (by omega);rw[hY];clear hY;obtain⟨Z,hZ⟩: ∃Z,Y.setCell ⟨w.heap.size+1+1,0,none⟩ (.int .i64 (x.2:Int))=Z:=⟨_,rfl⟩;have k3:zam (fun k=>k=w.heap.size+1+1) Y Z:=by rw[←hZ];exact(zam.refl (fun k=>k=w.heap.size+1+1) Y).setCell (p:=⟨w.heap.size+1+1,0,none⟩) (.inl rfl) _
 have o3:KeepsOthers Y Z:=by rw[←hZ];exact KeepsOthers.setCell _ _ _
 have e2:Boxed Z (w.heap.size+1+1) 33 (.int .i64 (x.2:Int)):=by rw[←hZ];exact d2.set _
 have e0:=zay d0 k3 (by omega);have e1:=zay d1 k3 (by omega);rw[hZ];clear hZ;have hbl:=HI.below.size;have hk:zam (fun k=>w.heap.size≤k) W Z:=((k1.mono (fun i hi=>by omega)).trans (k2.mono (fun i hi=>by omega))).trans (k3.mono (fun i hi=>by omega));have hw:=((o1.trans o2).trans o3).from n₀
 exact⟨⟨hw.size,hw.same⟩,rfl,⟨pre,x,rfl,hx,e0,e1,e2⟩,HI.below.trans (hk.drew.below hbl (fun i hi=>by omega)),Nat.le_trans HI.big hk.size⟩
theorem zom.own (hn:w.heap.size+3≤n₀) (c:Code):OwnFrom n₀ (zom w n₀ c):=fun pre A B row hs hg hr=>by
 have hk:zam (fun k=>row=some k) A B:=⟨hg.os,hg.tape,hg.output,hg.size,fun k hk hf=>hg.block k hk (fun e=>hf e.symm)⟩;have hf: ∀i,i≤w.heap.size+1+1→ ¬row=some i:=fun i hi e=>by have:=(hr i e).1;omega
 obtain⟨hr,⟨pre',x,h1,h2,h3,h4,h5⟩,hb,hbig⟩:=hs;exact⟨hr,⟨pre',x,h1,h2,zay h3 hk (hf _ (by omega)),zay h4 hk (hf _ (by omega)),zay h5 hk (hf _ (by omega))⟩,hb.trans (hk.below hb.size (fun i hi=>hf i (by omega))),Nat.le_trans hbig hk.size⟩
end
theorem zhp {X:World} {D:Nat} {o':Obj} {t0 t1 t2:TypeId} {B:Nat} {a b c:Value} (e0:Boxed X B t0 a) (e1:Boxed X (B+1) t1 b) (e2:Boxed X (B+1+1) t2 c) (hD:B+1+1<D):
 (X.putObj D o').cell? ⟨B,0,none⟩=some a∧(X.putObj D o').cell? ⟨B+1,0,none⟩=some b∧(X.putObj D o').cell? ⟨B+1+1,0,none⟩=some c∧Below B X (X.putObj D o'):=by
 have k:=zam.putObj (F:=fun k=>k=D) X D o' rfl;exact⟨(zay e0 k (by omega)).cell,(zay e1 k (by omega)).cell,(zay e2 k (by omega)).cell,k.below (by have:=e0.lt;omega) (fun i hi=>by omega)⟩
theorem zla (src:ByteArray) (hl:src.size≤65536) {xs:List (Tok×Nat)} (hS:xs=zeW 0 (zan src)) (hf: ∀y∈xs,y.2=0):zbr src.data.toList=(xs.map (·.1),0,0):=by
 have hll: ¬65536<src.data.toList.length:=by simp;show src.size≤65536;exact hl
 obtain⟨h1,h2⟩:=zgy _ 0 (zan src) (Nat.le_refl _);by_cases h0:(zbM 0 (zan src)).2.2=0
 ·obtain⟨e1,e2⟩:=h1 h0
  have e:zbM 0 (zan src)=(xs.map (·.1),0,0):=by
   have ex:xs.map (·.1)=(zbM 0 (zan src)).1:=by rw[hS,e1,List.map_map];simp[Function.comp_def]
   rw[ex];exact Prod.ext rfl (Prod.ext e2 h0)
  unfold zbr;rw[if_neg hll]
  show(if(zbM 0 (zan src)).2.2=0 then zbM 0 (zan src) else _)=_
  rw[if_pos h0,e]
 ·obtain⟨t,e1,e2⟩:=h2 h0
  exact absurd (hf (t,(zbM 0 (zan src)).2.2) (by rw[hS,e1];simp)) h0
theorem zmG (src:ByteArray) (hl:src.size≤65536) {pre:List (Tok×Nat)} {x:Tok×Nat} (hS:pre++[x] <+:zeW 0 (zan src)) (hx:x.2≠0):zbr src.data.toList=([],x.1.at_,x.2):=by
 have hll: ¬65536<src.data.toList.length:=by simp;show src.size≤65536;exact hl
 obtain⟨suf,hs⟩:=hS;have he:zeW 0 (zan src)=pre++x::suf:=by rw[←hs];simp
 have hn:=(zkJ _ 0 (zan src) (Nat.le_refl _) pre x suf he).2 hx;subst hn;obtain⟨h1,h2⟩:=zgy _ 0 (zan src) (Nat.le_refl _);by_cases h0:(zbM 0 (zan src)).2.2=0
 ·obtain⟨e1,e2⟩:=h1 h0
  rw[e1] at he;have:x∈(zbM 0 (zan src)).1.map (·,0):=by rw[he];simp
  obtain⟨t,_,rfl⟩:=List.mem_map.1 this;exact absurd rfl hx
 ·obtain⟨t,e1,e2⟩:=h2 h0
  rw[e1] at he;have hi:=List.append_inj' he rfl;simp only[List.cons.injEq,and_true] at hi;unfold zbr;rw[if_neg hll]
  show(if(zbM 0 (zan src)).2.2=0 then zbM 0 (zan src) else _)=_
  rw[if_neg h0]
  show([],(zbM 0 (zan src)).2.1,(zbM 0 (zan src)).2.2)=_
  rw[←hi.2,e2]
theorem zmJ (src:ByteArray) (w:World) (hl:src.size≤65536) (hE:Hid (Env w)):Calls prog 13 #[.string src] w (zoV w src):=by
 refine(callsIn_wide (n:=5)).1 ?_;refine callsIn_of_wp_marks func13 rfl trivial ?_ rfl;simp only[ntmps13,List.size_toArray,List.length_cons,List.length_nil,Nat.reduceAdd,Nat.reduceSub,Array.replicate_succ,Array.replicate_zero,List.push_toArray,List.append_toArray,List.nil_append,List.cons_append]
 gi_wp2
 obtain⟨a0,a1,a2,az,ab⟩:=zlp w (.cells #[.slice none 0 0] 38) (.cells #[.int .i64 0] 3) (.cells #[.int .i64 0] 33);refine⟨trivial,?_⟩;refine(callsIn_wide.2 (zjz _)).mono ?_;rintro e w1 ⟨⟨g1,g2,g3,c1,c2,c3,rfl,hT1,hT2,hT3⟩,hb1⟩;have HA0:=zaa ((hb1.block _ (by omega)).trans a0);have HA1:=zaa ((hb1.block _ (by omega)).trans a1);have HA2:=zaa ((hb1.block _ (by omega)).trans a2);have hz1:w.heap.size+3≤w1.heap.size:=by have:=hb1.size;omega
 have HB1:=zaa (ab.trans (hb1.mono (by omega)));rw[az] at hT1 hT2 hT3;have HT1:=zaa hT1;have HT2:=zaa hT2;have HT3:=zaa hT3;clear a0 a1 a2 az ab hT1 hT2 hT3 hb1
 gi_wp2
 refine⟨trivial,?_⟩;refine(callsIn_wide.2 (znN _ _)).mono ?_;rintro e w2 ⟨rfl,rfl⟩;have hbl:=zlp w1 (.cells #[.string src,.int .i64 0,.nilFunc,.func (.func g1) #[] c1,.func (.func g2) #[] c2,.func (.func g3) #[] c3] 106) (.cells #[.slice none 0 0] 38) (.cells #[.pointer (some ⟨w1.heap.size,0,none⟩)] 99);obtain⟨b0,b1,b2,bz,bb⟩:=hbl
 gi_wp2
 have hN:=zaa bz;have HB2:=zaa bb;have HSC:=zaa b0;have HLB:=zaa b1;have HXB:=zaa b2;clear b0 b1 b2 bz bb;generalize((w1.alloc _).alloc _).alloc _=wL at *;obtain⟨s0,s1,s2,s3,s4,s5,sf,sl⟩:=zoO HSC.out;have hz:wL.heap.size=w1.heap.size+3:=hN.out;have hw4:6≤w.heap.size:=by have:=hE.out.big;omega
 have HI:Hid (ItS w1.heap.size (w1.heap.size+1+1) (w1.heap.size+1) wL.heap.size src (fun k=>w.heap.size+3<k∧k<w1.heap.size) g1 g2 g3 c1 c2 c3 0 wL):=by
  refine zaa ⟨⟨s0,s3,s4,s5,HT1.out.below HB2.out,HT2.out.below HB2.out,HT3.out.below HB2.out,fun k hk=>by omega⟩,s1,sf,HXB.out,hE.out.keptB (HB1.out.trans (HB2.out.mono (by omega))) hw4,Nat.le_refl _,by omega,by omega,⟨by omega,by omega⟩,⟨by omega,by omega⟩,by omega,by omega,fun k hk=>⟨by omega,by omega⟩⟩
 clear s0 s1 s2 s3 s4 s5 sf sl HT1 HT2 HT3;have HI0:Hid (zgt w (w1.heap.size+1) wL.heap.size [] wL):=
  zaa ⟨⟨_,HLB.out,⟨rfl,.inl ⟨rfl,rfl⟩⟩,fun _=>rfl⟩,(HB2.out.block _ (by omega)).trans HA0.out,(HB2.out.block _ (by omega)).trans HA1.out,(HB2.out.block _ (by omega)).trans HA2.out,HB1.out.trans (HB2.out.mono (by omega)),Nat.le_refl _,fun y hy=>by simp at hy⟩
 have hs:src.size≤1099511627776:=by omega
 have hseq:SeqW 4 prog 73 #[.pointer (some ⟨w1.heap.size+1+1,0,none⟩)] zoX (fun A B=>zam (fun k=>k=w1.heap.size) A B) (KpL (w1.heap.size+1) wL.heap.size) (fun xs=>xs=zeW 0 (zan src)) (fun pre=>pre <+:zeW 0 (zan src)) src.size wL:=by
  intro l J Jx W hW hT hY h0;exact zl3 l w1.heap.size (w1.heap.size+1+1) (w1.heap.size+1) wL.heap.size src _ g1 g2 g3 c1 c2 c3 J Jx W (zaa (HI.out.below hW)) hs (zaa hT) (zaa hY) (zaa h0)
 have HSQ:=zaa hseq;clear hseq HI HSC HXB;refine zf4 (n:=5) (by omega) (gf:=73) (lb:= #[.pointer (some ⟨w1.heap.size+1+1,0,none⟩)]) rfl (enters_of func73 (by kernel_rfl) rfl) HSQ.out
  (fun h k=>h.trans k) (fun W l o o' hl' _ _ _=>zam.putObj W l o' (.inr hl')) (fun A B k o hT hk ho=>(hT.block k (zal ho) (by omega)).trans ho) (Below.refl _ _) (fun _=>rfl)
  (zgt w (w1.heap.size+1) wL.heap.size) (zom w wL.heap.size) (zgt.own (by omega) (by omega)) (fun s A B h hT=>zgt.state (by omega) (by omega) (by omega) h hT) (zom.own (by omega)) HI0.out
  (fun x a' W=> ∃Bx,wL.heap.size≤Bx∧W.heap[Bx]? =some (.cells #[.int .u8 (x.1.kind:Int),.string ⟨x.1.text.toArray⟩,.int .i64 (x.1.at_:Int)] 43 (0,0))∧a'={tmps:= #[.string src,undef,.pointer (some ⟨w.heap.size,0,none⟩),.pointer (some ⟨w.heap.size+1,0,none⟩),.pointer (some ⟨w.heap.size+1+1,0,none⟩),.pointer (some ⟨w1.heap.size,0,none⟩),.pointer (some ⟨w1.heap.size+1,0,none⟩),.pointer (some ⟨Bx,0,none⟩),.int .i64 (x.2:Int),.string src,.int .i64 (src.size:Int),.bool (decide ((65536:Int)<(src.size:Int))),.string src,.agg #[.string src,.int .i64 0],.agg #[.nilFunc,.func (.func g1) #[] c1,.func (.func g2) #[] c2,.func (.func g3) #[] c3],.agg #[.string src,.int .i64 0,.nilFunc,.func (.func g1) #[] c1,.func (.func g2) #[] c2,.func (.func g3) #[] c3],.pointer (some ⟨w1.heap.size,0,none⟩),.pointer (some ⟨w1.heap.size,0,none⟩),.func (.func 73) #[] #[.pointer (some ⟨w1.heap.size+1+1,0,none⟩)],x.1.val,.int .i64 (x.2:Int),undef,undef,undef,undef,undef,undef,undef,undef,undef,undef],defers:=[]})
  (fun x a' _ X Y row hs hg hr=>by obtain⟨Bx,h1,h2,h3⟩:=hs;exact⟨Bx,h1,(hg.block Bx (zal h2) (fun e'=>by obtain⟨-,o,ho,hc⟩:=hr Bx e'.symm;rw[h2] at ho;cases ho;cases hc)).trans h2,h3⟩)
  ?assign ?body ?done ?stop
 case assign=>
  rintro l pre ⟨⟨kd,tx,at_⟩,er⟩ W K-hI hK;have HII:=zaa hI;unfold zoX Tok.val
  gi_wp2
  refine hK _ _ ((KeepsOthers.alloc _ _).from _) ((zam.refl _ W).alloc _) (HII.out.keep (F:=fun _=>False) ((zam.refl _ W).alloc _) (fun _ _ h=>h) (fun h=>h) (fun v ho=>ho.alloc _)) ⟨W.heap.size,HII.out.big,heap_alloc_new W _,rfl⟩
 case body=>
  rintro l pre ⟨⟨kd,tx,at_⟩,er⟩ a' W hSp hI ⟨Bx,hBx,hX,rfl⟩ hlen;have hzl:w1.heap.size+3≤wL.heap.size:=by omega
  have HZ:=zaa hz;clear hz;have hmo:=mixed;obtain⟨i0,hi0,hz0,hz1',hz2⟩:=info_parts znB;have HII:=zaa hI;have HX:=zaa hX;have HV:=zaa hI.row;have HSp:=zaa hSp;obtain⟨x0,x1,x2, -, -, -,xl⟩:=zaF hX;have c0:=hI.r0.cell;have f0:=hI.r0.frozen;have c1':=hI.r1.cell;have f1:=hI.r1.frozen;have c2':=hI.r2.cell;have f2:=hI.r2.frozen;have l0:=hI.r0.lt;have l1:=hI.r1.lt;have l2:=hI.r2.lt;obtain⟨v,hv,ho,hnil⟩:=hI.row;have hbig:=hI.big;have cv:=hv.cell;have fv:=hv.frozen;have lv:=hv.lt;have HO:=zaa ho;have HVB:=zaa hv;clear hI hX hSp hv ho hnil;unfold Tok.val;simp only at x0 x1 x2;by_cases her:er=0
  ·have hb0:((er:Int) != 0)=false:=by simp;omega
   have HER:=zaa her;clear her
   gi_wp2_with (gi_at_builtin;apply Hid.out)
   refine zaa ?_;refine wpListIn_append_own _ rfl _ _ 38 rfl wL.heap.size 43 i0 (.agg #[.int .u8 0,.string ⟨#[]⟩,.int .i64 0]) 3 32 underlying38 hi0 hz0 hz1' hz2 rfl (by decide) _ _ _ rfl (HO.out.alloc _) ⟨W.heap.size,0,none⟩ 1 1 [.int .u8 (kd:Int),.string ⟨tx.toArray⟩,.int .i64 (at_:Int)] rfl rfl (World.news_of_block (heap_alloc_new W _)) (by simp[Value.oneCell']) (by unfold maxLen;omega) (by omega) (by simp;omega) ?_;intro v' w3 hown' hg3 hnil3;obtain⟨g',cap',hv'⟩:=ownsRow_succ hown';subst hv';obtain⟨h1,h2,h3,h4⟩:=zgt.append (x:=(⟨kd,tx,at_⟩,er)) (by omega) (by omega) HII.out HER.out HVB.out HO.out hown' hg3;have d0:=h1.cell;have d1:=h1.frozen;have H2:=zaa h2;have H3:=zaa h3;have H4:=zaa h4;clear h1 h2 h3 h4 hown' hg3 hnil3
   gi_wp2
   exact⟨H2.out,H3.out,H4.out⟩
  ·have hb0:((er:Int) != 0)=true:=by simp;omega
   have H2:=zaa (zgt.leave (x:=(⟨kd,tx,at_⟩,er)) (by omega) HII.out her);have HER:=zaa her;clear her
   gi_wp2
   gi_region_with_o (fail)
   all_goals
    gi_wp2
    exact H2.out
 case done=>
  rintro D xs W hD hS hI hk;have c0:=hI.r0.cell;have f0:=hI.r0.frozen;have c1':=hI.r1.cell;have f1:=hI.r1.frozen;have c2':=hI.r2.cell;have f2:=hI.r2.frozen;have l0:=hI.r0.lt;have l1:=hI.r1.lt;have l2:=hI.r2.lt;obtain⟨v,hv,ho,hnil⟩:=hI.row;obtain⟨va,vn,vc,hvs⟩: ∃va vn vc,v= .slice va vn vc:=by
   rcases ho.2 with⟨h,_⟩|⟨g,cap,cur,h,_⟩
   ·exact⟨_,_,_,h⟩
   ·exact⟨_,_,_,h⟩
  subst hvs;have cv:=hv.cell;have HO:=zaa ho;have HI1:=zaa hI;have HS1:=zaa hS;have HK:=zaa hk;have HNil:=zaa hnil;have HR:=zaa (zla src hl hS hI.fine);have HBx:=zaa hv;have HBl:=zaa hI.below;have HB0:=zaa hI.r0;have HB1':=zaa hI.r1;have HB2':=zaa hI.r2;have hbig:=hI.big;clear hv ho hnil hI hS hk
  gi_wp2
  obtain⟨X,hX⟩: ∃X,W.setCell ⟨w.heap.size,0,none⟩ (.slice va vn vc)=X:=⟨_,rfl⟩;have k1:zam (fun k=>k=w.heap.size) W X:=by rw[←hX];exact(zam.refl (fun k=>k=w.heap.size) W).setCell (p:=⟨w.heap.size,0,none⟩) (.inl rfl) _
  have b0:Boxed X w.heap.size 38 (.slice va vn vc):=by rw[←hX];exact HB0.out.set _
  have b1:=zay HB1'.out k1 (by omega);have b2:=zay HB2'.out k1 (by omega);rw[hX];clear hX;obtain⟨Y,hY⟩: ∃Y,X.setCell ⟨w.heap.size+1,0,none⟩ (.int .i64 0)=Y:=⟨_,rfl⟩;have k2:zam (fun k=>k=w.heap.size+1) X Y:=by rw[←hY];exact(zam.refl (fun k=>k=w.heap.size+1) X).setCell (p:=⟨w.heap.size+1,0,none⟩) (.inl rfl) _
  have d1:Boxed Y (w.heap.size+1) 3 (.int .i64 0):=by rw[←hY];exact b1.set _
  have d0:=zay b0 k2 (by omega);have d2:=zay b2 k2 (by omega);rw[hY];clear hY;obtain⟨Z,hZ⟩: ∃Z,Y.setCell ⟨w.heap.size+1+1,0,none⟩ (.int .i64 0)=Z:=⟨_,rfl⟩;have k3:zam (fun k=>k=w.heap.size+1+1) Y Z:=by rw[←hZ];exact(zam.refl (fun k=>k=w.heap.size+1+1) Y).setCell (p:=⟨w.heap.size+1+1,0,none⟩) (.inl rfl) _
  have e2:Boxed Z (w.heap.size+1+1) 33 (.int .i64 0):=by rw[←hZ];exact d2.set _
  have e0:=zay d0 k3 (by omega);have e1:=zay d1 k3 (by omega);rw[hZ];clear hZ;have hk4:zam (fun k=>w.heap.size≤k∧k<w.heap.size+3) W Z:=((k1.mono (fun i hi=>by omega)).trans (k2.mono (fun i hi=>by omega))).trans (k3.mono (fun i hi=>by omega));have hDl:=(zal HK.out);have hkD:Z.heap[D]? =some (.deferred (some [])):=(hk4.block D hDl (fun h=>by omega)).trans HK.out;obtain⟨q0,q1,q2,qb⟩:=zhp (o':= .deferred none) e0 e1 e2 (show w.heap.size+1+1<D by omega);have hoZ:Z.ownsRow wL.heap.size 43 3 (.slice va vn vc) xs.length (zf0 (xs.map (·.1))):=ziV HO.out hk4 (fun g hg=>by omega);have hoF:=zmB (base':=w.heap.size) (ownsRow_putObj hoZ (.deferred none) hkD rfl) (by omega);refine⟨by simp,.inl ⟨_,_,rfl,run_takeDeferred hkD,?_⟩⟩;refine⟨_,(by simp only[results,Tryz.results13];simp[go_sem,q0,q1,q2];rfl),?_⟩;refine⟨.slice va vn vc,by rw[HR.out];rfl,?_,fun h=> ?_,HBl.out.trans ((hk4.below (by omega) (fun i hi=>by omega)).trans qb)⟩
  ·rw[HR.out];simpa using hoF
  ·rw[HR.out] at h;exact HNil.out (by simpa using h)
 case stop=>
  rintro D c pre W hD hSp hX hk;obtain⟨rfl,⟨pre',x,rfl,hx,e0,e1,e2⟩,hb,hbig⟩:=hX;have HR:=zaa (zmG src hl hSp hx);obtain⟨q0,q1,q2,qb⟩:=zhp (o':= .deferred none) e0 e1 e2 (show w.heap.size+1+1<D by omega);have HQ0:=zaa q0;have HQ1:=zaa q1;have HQ2:=zaa q2;clear q0 q1 q2 e0 e1 e2
  gi_wp2
  refine⟨by simp,.inl ⟨_,_,rfl,run_takeDeferred hk,?_⟩⟩;have q0:=HQ0.out;have q1:=HQ1.out;have q2:=HQ2.out;refine⟨_,(by simp only[results,Tryz.results13];simp[go_sem,q0,q1,q2];rfl),?_⟩;refine⟨.slice none 0 0,by rw[HR.out],?_,fun h=>rfl,hb.trans qb⟩;rw[HR.out];exact⟨rfl,.inl ⟨rfl,rfl⟩⟩
theorem znv (src:ByteArray) (w:World) (hE:Env w):Calls prog 13 #[.string src] w (zoV w src):=by
 by_cases hl:src.size≤65536
 ·exact zmJ src w hl (zaa hE)
 ·exact zmx src w (by omega)
open Go.RowKit
noncomputable def eqB {α:Type} (a b:α):Bool:= @decide (a=b) (Classical.propDecidable _)
theorem zaT {α:Type} {a b:α} (h:a=b):eqB a b=true:=by unfold eqB;simpa using h
theorem zbm {α:Type} {a b:α} (h:a≠b):eqB a b=false:=by unfold eqB;simpa using h
theorem zpd {α:Type} {a b:α}:eqB a b=true↔a=b:=by unfold eqB;simp
def zpf (w:World) (A:Option Addr) (size:Nat) (es:List (List Dat)):Prop:=
 es=[]∨ ∃b off,A=some ⟨b,off,none⟩∧b<w.heap.size∧ ∀(i j:Nat) e d,es[i]? =some e→e[j]? =some d→ ∃u,w.cell? ⟨b,off+i*size+j,none⟩=some u∧DAt w (fun _=>True) u d
theorem DAt.slice {w:World} {v:Value} {size:Nat} {es:List (List Dat)} (h:DAt w (fun _=>True) v (.row size es)): ∃A c,v= .slice A es.length c∧zpf w A size es:=by
 generalize hd:Dat.row size es=d at h
 cases h with
 |leaf v=>cases hd
 |nil A c size'=>
  injection hd with h1 h2
  subst h2;exact⟨A,c,rfl,.inl rfl⟩
 |row b off c size' n es' val hn hG hb hc hdd=>
  injection hd with h1 h2
  subst h1 h2;exact⟨_,c,by rw[hn],.inr ⟨b,off,rfl,hb,fun i j e d he hd=>⟨_,hc i j e d he hd,hdd i j e d he hd⟩⟩⟩
theorem DAt.leaf_eq {w:World} {G:Nat→Prop} {u v:Value} (h:DAt w G u (.leaf v)):u=v:=by
 generalize hd:Dat.leaf v=d at h
 cases h with
 |leaf v=>injection hd with h1;exact h1.symm
 |nil=>cases hd
 |row=>cases hd
def ziQ (w:World) (p:Addr) (d:Dat):Prop:= ∃u,w.cell? p=some u∧DAt w (fun _=>True) u d
theorem ziQ.leafc {w:World} {p:Addr} {v:Value} (h:ziQ w p (.leaf v)):w.cell? p=some v:=by
 obtain⟨u,h1,h2⟩:=h;rw[h1,h2.leaf_eq]
theorem zpf.at_ {α:Type} {w:World} {A:Option Addr} {size k:Nat} {l:List α} {cells:α→List Dat} {x:α} (h:zpf w A size (l.map cells)) (hx:l[k]? =some x):
 ∃b off,A=some ⟨b,off,none⟩∧b<w.heap.size∧ ∀(j:Nat) d,(cells x)[j]? =some d→ziQ w ⟨b,off+k*size+j,none⟩ d:=by
 rcases h with h|⟨b,off,h1,h2,h3⟩
 ·rw[List.map_eq_nil_iff] at h
  subst h;simp at hx
 ·exact⟨b,off,h1,h2,fun j d hd=>h3 k j (cells x) d (by rw[List.getElem?_map,hx];rfl) hd⟩
theorem zdY {α:Type} {la lb:List α} {k:Nat} {x y:α} (hx:la[k]? =some x) (hy:lb[k]? =some y) (h:x≠y):eqB la lb=false:=zbm (fun e=>h (by rw[e,hy] at hx;injection hx with hx;exact hx.symm))
theorem zbg {α:Type} {la lb:List α} {k:Nat} {x:α} (h:la.take k=lb.take k) (hx:la[k]? =some x) (hy:lb[k]? =some x):la.take (k+1)=lb.take (k+1):=by
 obtain⟨h1,rfl⟩:=List.getElem?_eq_some_iff.1 hx;obtain⟨h2,h3⟩:=List.getElem?_eq_some_iff.1 hy;rw[List.take_succ_eq_append_getElem h1,List.take_succ_eq_append_getElem h2,h,h3]
theorem zbe {α:Type} {la lb:List α} {k:Nat} (h:la.take k=lb.take k) (hk: ¬k<la.length) (hn:la.length=lb.length):la=lb:=by
 rwa[List.take_of_length_le (by omega),List.take_of_length_le (by omega)] at h
theorem dS (p q:List UInt8):((⟨p.toArray⟩:ByteArray).toList==(⟨q.toArray⟩:ByteArray).toList)=false∨p=q:=by
 by_cases h:p=q
 ·exact .inr h
 ·exact .inl (by rw[ByteArray.toList_eq,ByteArray.toList_eq];simpa using h)
theorem dI (p q:Int):((p==q)=false∧(p != q)=true)∨p=q:=by
 by_cases h:p=q
 ·exact .inr h
 ·exact .inl ⟨by simpa using h,by simpa using h⟩
theorem dU (p q:Nat):(((p:Int)==(q:Int))=false∧((p:Int) != (q:Int))=true)∨p=q:=by
 rcases dI p q with h|h
 ·exact .inl h
 ·exact .inr (by omega)
theorem dB (p q:Bool):((p==q)=false∧(p != q)=true)∨p=q:=by cases p<;>cases q<;>simp
theorem dR {α:Type} (p q:α):eqB p q=false∨p=q:=by
 by_cases h:p=q
 ·exact .inr h
 ·exact .inl (zbm h)
theorem zbW {α:Type} (p:α):eqB p p=true:=zaT rfl
theorem lc {W wr:World} (hbr:Below W.heap.size W wr) {b o:Nat} {v:Value} (hb:b<W.heap.size) (h:ziQ W ⟨b,o,none⟩ (.leaf v)):wr.cell? ⟨b,o,none⟩=some v:=(hbr.cell (p:=⟨b,o,none⟩) hb).trans h.leafc
def zca.sm (x:zca):Prop:=x.code.length≤1099511627776
def zas.sm (x:zas):Prop:=x.semas.length≤1099511627776∧x.bufs.length≤1099511627776∧x.ports.length≤1099511627776∧x.procs.length≤1099511627776∧ ∀p∈x.procs,p.sm
def zdZ.sm (x:zdZ):Prop:=x.parts.length≤1099511627776∧ ∀p∈x.parts,p.sm
def zcU.sm (x:zcU):Prop:=x.to.length≤1099511627776
def VlD.sm (x:VlD):Prop:=x.to.length≤1099511627776
def zbl.sm (x:zbl):Prop:=x.needs.length≤1099511627776∧x.but.length≤1099511627776
structure zaK.sm (x:zaK):Prop where
 modules:x.modules.length≤1099511627776∧ ∀p∈x.modules,p.sm
 channels:x.channels.length≤1099511627776∧ ∀p∈x.channels,p.sm
 switches:x.switches.length≤1099511627776
 links:x.links.length≤1099511627776
 vls:x.vls.length≤1099511627776∧ ∀p∈x.vls,p.sm
 health:x.health.length≤1099511627776
 causes:x.causes.length≤1099511627776∧ ∀p∈x.causes,p.sm
 versions:x.versions.length≤1099511627776
def zck {α:Type} (P:α→Prop) (m:Ps α):Prop:= ∀r a r',m r= .ok a r'→P a
theorem zck.any {α:Type} (m:Ps α):zck (fun _=>True) m:=fun _ _ _ _=>trivial
theorem zck.bind {α β:Type} {P:α→Prop} {Q:β→Prop} {m:Ps α} {x:α→Ps β} (h:zck P m) (hx: ∀a,P a→zck Q (x a)):zck Q (m >>= x):=fun r b r' e=>by
 cases hm:m r with
 |bad n r1=>rw[zab hm] at e;cases e
 |ok a r1=>
  rw[zac hm] at e;exact hx a (h r a r1 hm) r1 b r' e
theorem zck.then {α β:Type} {Q:β→Prop} {m:Ps α} {x:α→Ps β} (hx: ∀a,zck Q (x a)):zck Q (m >>= x):=(zck.any m).bind fun a _=>hx a
theorem zck.ret {α:Type} {P:α→Prop} {a:α} (h:P a):zck P (pure a:Ps α):=fun r b r' e=>by
 have e:(Res.ok a r:Res α)= .ok b r':=e;injection e with e _
 rw[←e];exact h
theorem zck.use {α:Type} {P:α→Prop} {m:Ps α} {r r':List Tok} {a:α} (e:m r= .ok a r') (h:zck P m):P a:=h r a r' e
theorem zgu {α:Type} {P:α→Prop} {l:List α} {x:α} (h: ∀p∈l,P p) (hx:P x): ∀p∈l++[x],P p:=fun p hp=>by
 rcases List.mem_append.1 hp with hp|hp
 ·exact h p hp
 ·rw[List.mem_singleton.1 hp];exact hx
def zcp.fine (x:zcp):Prop:=(x.kind=1∨x.kind=2)∧(x.kind=1→x.depth=0)∧(x.kind=2→x.refresh=0)
def zas.fine (p:zas):Prop:= ∀x∈p.ports,x.fine
def zdZ.fine (m:zdZ):Prop:= ∀p∈m.parts,p.fine
def zaK.fine (c:zaK):Prop:= ∀m∈c.modules,m.fine
theorem zkC:zck (fun k=>k=1∨k=2) (ofP zbO):=fun r a r' h=>by
 unfold ofP at h
 split at h
 ·rename_i hc
  injection h with h _
  rw[h] at hc;simp only[Bool.and_eq_true,bne_iff_ne,ne_eq] at hc;have:a≤2:=by
   rw[←h];unfold zbN
   cases hf:zbO.findIdx? (· ==(hdT r).text) with
   |none=>simp
   |some i=>
    have:=(List.findIdx?_eq_some_iff_getElem.1 hf).1;have h2:zbO.length=2:=rfl
    show i+1≤2
    omega
  omega
 ·cases h
theorem zkS:zck zcp.fine zei:= .then fun _=> .then fun _=>zkC.bind fun k hk=> .then fun _=>by
 split
 ·rename_i h1
  exact .then fun _=> .then fun _=> .ret ⟨hk,fun _=>rfl,fun h2=>by rw[h1] at h2;cases h2⟩
 ·rename_i h1
  exact .then fun _=> .then fun _=> .ret ⟨hk,fun h2=>absurd h2 h1,fun _=>rfl⟩
theorem zed {w:List UInt8} {b:zag} {x:Ps zas} (h:zck zas.fine x):zck (fun a:zag=>a.p.fine) (zcE w b x):=fun r a r' e=>by
 unfold zcE at e
 split at e
 ·cases e
 ·exact(zck.then (Q:=fun a:zag=>a.p.fine) fun _=>h.bind fun p hp=> .then fun _=> .ret hp) r a r' e
theorem zj4 {b:zag} (h:b.p.fine):zck (fun a:zag=>a.p.fine) (za3 b):=fun r a r' e=>by
 unfold za3 at e
 split at e
 ·exact zck.use (P:=fun a:zag=>a.p.fine) e (zed (zck.then fun _=> .ret h))
 split at e
 ·exact zck.use (P:=fun a:zag=>a.p.fine) e (zed (zck.then fun _=> .ret h))
 split at e
 ·exact zck.use (P:=fun a:zag=>a.p.fine) e (zed (zck.then fun _=> .ret h))
 split at e
 ·exact zck.use (P:=fun a:zag=>a.p.fine) e (zed (zck.then fun _=> .ret h))
 split at e
 ·exact zck.use (P:=fun a:zag=>a.p.fine) e (.then fun _=> .then fun _=> .ret h)
 ·exact zck.use (P:=fun a:zag=>a.p.fine) e (zkS.bind fun x hx=> .ret (zgu h hx))
theorem zfT: ∀(f:Nat) {b:zag},b.p.fine→zck (fun a:zag=>a.p.fine) (zav f b)
 |0,b,h=> .ret h
 |f+1,b,h=>fun r a r' e=>by
  unfold zav at e
  split at e
  ·injection e with e _
   rw[←e];exact h
  ·exact((zj4 h).bind fun b' hb=>zfT f hb) r a r' e
theorem zk1:zck zas.fine zdX:= .then fun _=> .then fun _=> .then fun _=> .then fun _=> .then fun _=>
 zck.bind (P:=fun a:zag=>a.p.fine) (fun r a r' e=>zfT _ (fun x hx=>by cases hx) r a r' e) fun b hb=> .ret hb
theorem zgh: ∀(f:Nat) {acc:List zas},(∀p∈acc,p.fine)→zck (fun l:List zas=> ∀p∈l,p.fine) (zaS f acc)
 |0,acc,h=> .ret h
 |f+1,acc,h=> .then fun b=>by
  cases b with
  |true=>exact zk1.bind fun x hx=>zgh f (zgu h hx)
  |false=>exact .ret h
theorem zmH:zck zdZ.fine zf9:= .then fun _=> .then fun _=> .then fun _=> .then fun _=>
 zck.bind (P:=fun l:List zas=> ∀p∈l,p.fine) (fun r a r' e=>zgh _ (fun p hp=>by cases hp) r a r' e) fun l hl=> .then fun _=> .ret hl
theorem zlG {c:zaK} (h:c.fine):zck zaK.fine (zb1 c):=fun r a r' e=>by
 unfold zb1 at e
 split at e
 ·exact zck.use (P:=zaK.fine) e (.then fun _=>zmH.bind fun x hx=> .ret (zgu h hx))
 split at e
 ·exact zck.use (P:=zaK.fine) e (.then fun _=> .then fun _=> .ret h)
 split at e
 ·exact zck.use (P:=zaK.fine) e (.then fun _=> .then fun _=> .ret h)
 split at e
 ·exact zck.use (P:=zaK.fine) e (.then fun _=> .then fun _=> .ret h)
 split at e
 ·exact zck.use (P:=zaK.fine) e (.then fun _=> .then fun _=> .ret h)
 split at e
 ·exact zck.use (P:=zaK.fine) e (.then fun _=> .then fun _=> .ret h)
 split at e
 ·exact zck.use (P:=zaK.fine) e (.then fun _=> .then fun _=> .ret h)
 split at e
 ·exact zck.use (P:=zaK.fine) e (.then fun _=> .then fun _=> .ret h)
 ·cases e
theorem zgb: ∀(f:Nat) {c:zaK},c.fine→zck zaK.fine (zbp f c)
 |0,c,h=> .ret h
 |f+1,c,h=>fun r a r' e=>by
  unfold zbp at e
  split at e
  ·injection e with e _
   rw[←e];exact h
  ·exact((zlG h).bind fun c' hc=>zgb f hc) _ a r' e
theorem zoH (c:zaK) (r r':List Tok) (e:zgN r= .ok c r'):c.fine:=zgb _ (fun m hm=>by cases hm) r c r' e
theorem zjj {P:zas→Prop} {w:List UInt8} {b:zag} {x:Ps zas} (h:zck P x):zck (fun a:zag=>P a.p) (zcE w b x):=fun r a r' e=>by
 unfold zcE at e
 split at e
 ·cases e
 ·exact(zck.then (Q:=fun a:zag=>P a.p) fun _=>h.bind fun p hp=> .then fun _=> .ret hp) r a r' e
def zas.things (p:zas):Nat:=p.procs.length+p.ports.length
theorem zeh {N:Nat} {w:List UInt8} {b b':zag} {x:Ps zas} {r r':List Tok} (h:zck (fun p:zas=>p.things=N) x) (e:zcE w b x r= .ok b' r'):b'.p.things≤N+1:=by
 have:=zjj h r b' r' e;dsimp only at this
 omega
theorem zjL {b b':zag} {r r':List Tok} (e:za3 b r= .ok b' r'):b'.p.things≤b.p.things+1:=by
 unfold za3 at e
 split at e
 ·exact zeh (x:=zdw b.p) (N:=b.p.things) (zck.then (Q:=fun p:zas=>p.things=b.p.things) fun _=> .ret rfl) e
 ·split at e
  ·exact zeh (x:=zfb b.p) (N:=b.p.things) (zck.then (Q:=fun p:zas=>p.things=b.p.things) fun _=> .ret rfl) e
  ·split at e
   ·exact zeh (x:=zcw b.p) (N:=b.p.things) (zck.then (Q:=fun p:zas=>p.things=b.p.things) fun _=> .ret rfl) e
   ·split at e
    ·exact zeh (x:=zcA b.p) (N:=b.p.things) (zck.then (Q:=fun p:zas=>p.things=b.p.things) fun _=> .ret rfl) e
    ·split at e
     ·exact(zck.then (Q:=fun a:zag=>a.p.things≤b.p.things+1) fun _=> .then fun x=> .ret (by simp[zas.things];omega)) r b' r' e
     ·exact(zck.then (Q:=fun a:zag=>a.p.things≤b.p.things+1) fun x=> .ret (by simp[zas.things];omega)) r b' r' e
def zg6 (f:Nat) (b:zag):Ps zas:=(fun r=>zav f b r) >>= fun b=>pure b.p
theorem zly {f:Nat} {b:zag} {r:List Tok} (h:zaA [125] r=true):zg6 (f+1) b r= .ok b.p r.tail:=by
 have e:zav (f+1) b r= .ok b r.tail:=by
  show(if zaA [125] r then _ else _)=_
  rw[h];rfl
 exact zac (m:=fun r=>zav (f+1) b r) e
theorem zmv {f:Nat} {b b':zag} {r r':List Tok} (h:zaA [125] r=false) (ht:za3 b r= .ok b' r'):zg6 (f+1) b r=zg6 f b' r':=by
 have e:zav (f+1) b r=zav f b' r':=by
  show(if zaA [125] r then _ else(za3 b >>= fun b'=>zav f b') r)=_
  rw[h];exact zac ht
 have h1:zg6 f b' r'=((fun r=>zav f b' r) >>= fun b=>(pure b.p:Ps zas)) r':=rfl;have h2:zg6 (f+1) b r=((fun r=>zav (f+1) b r) >>= fun b=>(pure b.p:Ps zas)) r:=rfl
 cases hx:zav f b' r' with
 |ok a r2=>rw[h1,h2,zac (m:=fun r=>zav (f+1) b r) (e.trans hx),zac (m:=fun r=>zav f b' r) hx]
 |bad n r2=>rw[h1,h2,zab (m:=fun r=>zav (f+1) b r) (e.trans hx),zab (m:=fun r=>zav f b' r) hx]
theorem zkE {f n:Nat} {b:zag} {r r':List Tok} (h:zaA [125] r=false) (ht:za3 b r= .bad n r'):zg6 (f+1) b r= .bad n r':=by
 have e:zav (f+1) b r= .bad n r':=by
  show(if zaA [125] r then _ else(za3 b >>= fun b'=>zav f b') r)=_
  rw[h];exact zab ht
 exact zab (m:=fun r=>zav (f+1) b r) e
end Go.Proofs.YtlngbjphagnloaaGreatDoor
