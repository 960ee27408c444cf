/- Merged texts of the walks and of the plain laws on which the statement leans.-/
import Derived.Test.YtgbfaompondolaaGreatDoorPk6
import Derived.Test.YtgbfaompondolaaGreatDoorPk1
import Derived.Maps.AppendAt
import Derived.Deep.AppendLies
import Derived.Lib.Join
import Derived.OwnWalkIn
import Derived.RangeFuncBox
import Derived.Laws.EntriesVeiled
import Derived.Test.YtgbfaompondolaaGreatDoorPk4
set_option maxHeartbeats 4000000
set_option maxRecDepth 100000
namespace Go.Proofs.YtgbfaompondolaaGreatDoor
open Tryz
open Go.RowKit Go.Shelf
attribute [local go_sem] Oper.semAt_some
theorem zi8 {w:World} {x:Nat} {a:Value} {t:TypeId} (h:w.heap[x]? =some (.cells #[a] t (0,0))):w.cell? ⟨x,0,none⟩=some a∧w.frozen? ⟨x,0,none⟩=false∧x<w.heap.size:=by
 have c0:=cell_of_row w x 0 _ _ _ h;simp only[List.getElem?_toArray,List.getElem?_cons_zero] at c0;exact⟨c0,frozen_of_row w x 0 _ _ h,(zau h)⟩
theorem zhx {sb xb lb n₀ j:Nat} {src:ByteArray} {F:Nat→Prop} {g1 g2 g3:Nat} {k1 k2 k3:Array Value} {w:World} (h:ItS sb xb lb n₀ src F g1 g2 g3 k1 k2 k3 j w) (hj:j≤src.size) (hs:src.size≤1099511627776):
 Calls prog 298 #[.pointer (some ⟨sb,0,none⟩)] w fun e w'=>e= .returned (.tuple #[])∧AtJ sb (zbr src j) w w':=
 zlk sb j src w (zaa h.sc.s0) (zaa h.here) (zaa h.free) hj hs
theorem zk7 {sb xb lb n₀ j:Nat} {src:ByteArray} {F:Nat→Prop} {g1 g2 g3:Nat} {k1 k2 k3:Array Value} {w:World} (h:ItS sb xb lb n₀ src F g1 g2 g3 k1 k2 k3 j w) (hj:j<src.size) (hs:src.size≤1099511627776) (kd ln er:Nat) (ht:zb4 ((zax src).drop j)=(kd,ln,er)):
 Calls prog 299 #[.pointer (some ⟨sb,0,none⟩)] w fun e w'=>e= .returned (.tuple #[.agg #[.int .u8 (kd:Int),.string (src.extract j (j+ln)),.int .i64 (j:Int)],.int .i64 (er:Int)])∧AtJ sb (j+ln) w w':=
 zkQ sb j src F g1 g2 g3 k1 k2 k3 w h.s4 (zaa h.sc) hj hs (zaa h.here) (zaa h.free) (zaa h.env) kd ln er (zaa ht)
theorem zk5 (l sb xb lb n₀:Nat) (src:ByteArray) (F:Nat→Prop) (g1 g2 g3:Nat) (k1 k2 k3:Array Value) (J Jx:List (Tok×Nat)→World→Prop) (W:World) (hI:Hid (ItS sb xb lb n₀ src F g1 g2 g3 k1 k2 k3 0 W)) (hs:src.size≤1099511627776)
 (hT:Hid (∀s A B,J s A→zbu (fun k=>k=sb) A B→J s B))
 (hY:Hid (∀pre x W1,J pre W1→pre.length<src.size→pre++[x] <+:zeM 0 (zax src)→YieldAt Fence.wide (4-1) prog l (zo5 x) W1 fun e W'=>
   (e= .returned (.bool true)∧J (pre++[x]) W'∧KpL lb n₀ W1 W')∨(e= .returned (.bool false)∧Jx (pre++[x]) W'))) (h0:Hid (J [] W)):
 CallsIn Fence.wide 4 prog 297 #[.func (.yield l) #[] #[],.pointer (some ⟨xb,0,none⟩)] W fun e W'=>(∃v,e= .returned v)∧
  ((∃xs,xs=zeM 0 (zax src)∧J xs W')∨(∃pre,pre <+:zeM 0 (zax src)∧Jx pre W')):=by
 obtain⟨b0,bf,bl⟩:=zi8 hI.out.box;refine callsIn_of_wp func297 rfl trivial ?_ rfl;simp only[ntmps297,List.size_toArray,List.length_cons,List.length_nil,Nat.reduceAdd,Nat.reduceSub,Array.replicate_succ,Array.replicate_zero,List.push_toArray,List.append_toArray,List.nil_append,List.cons_append]
 gi_wp2_with (first
  |(refine⟨trivial,?_⟩;gi_at_call 298;refine(callsIn_wide.2 (zhx hI.out (Nat.zero_le _) hs)).mono ?_;rintro e w1 ⟨rfl,hJ1⟩;have HJ1:=zaa hJ1;clear hJ1))
 have HI1:=zaa (hI.out.atJ HJ1.out);have HJJ:=zaa (hT.out _ _ _ h0.out HJ1.out.kept);clear b0 bf bl
 gi_loopw [] (fun wr=> ∃j pre,AtE src pre j∧J pre wr∧ItS sb xb lb n₀ src F g1 g2 g3 k1 k2 k3 j wr) (fun wr=>src.size-zfo sb wr)
 case atStart=>exact⟨_,_,AtE.start src,HJJ.out,HI1.out⟩
 case round=>
  obtain⟨j,pre,hA,hJ,hIt⟩:=hrel;have HA:=zaa hA;have HJ:=zaa hJ;have HIt:=zaa hIt;obtain⟨b0,bf,bl⟩:=zi8 hIt.box;have d0:=hIt.sc.s0;have d1:=hIt.here;have hj:j≤src.size:=hA.1;clear hA hJ hIt HI1 HJJ HJ1;by_cases hlt:j<src.size
  ·obtain⟨⟨kd,ln,er⟩,ht⟩: ∃t,zb4 ((zax src).drop j)=t:=⟨_,rfl⟩
   obtain⟨e1,e2,e3⟩:=HA.out.step hlt ht;have HE1:=zaa e1;have HE2:=zaa e2;have HPre:Hid (pre++[(⟨kd,((zax src).drop j).take ln,j⟩,er)] <+:zeM 0 (zax src)):=zaa (by rw[e1];exact List.prefix_append _ _);have HNx:=zaa (fun nq=>zk7 (HIt.out.below (below_drewN (Below.refl _ _) nq)) hlt hs kd ln er ht);clear e1 e2 ht
   gi_wp2
   gi_quiet (fail)
   gi_wp2
   refine⟨trivial,?_⟩;refine(callsIn_wide.2 (HNx.out _)).mono ?_;rintro e w2 ⟨rfl,hJ2⟩;have HI2:=zaa ((HIt.out.below (below_drewN (Below.refl _ _) _)).atJ hJ2);have hK:zbu (fun k=>k=sb) wr (w2.alloc (.cells #[.int .u8 (kd:Int),.string (src.extract j (j+ln)),.int .i64 (j:Int)] 220)):=((((zbu.refl _ wr).drewN _).trans hJ2.kept).alloc _);have HI3:=zaa (HI2.out.below ((Below.refl _ _).alloc (Nat.le_refl _) (.cells #[.int .u8 (kd:Int),.string (src.extract j (j+ln)),.int .i64 (j:Int)] 220)));obtain⟨fn,tmps,assign,body,hy,hRd⟩:=hY.out pre (⟨kd,((zax src).drop j).take ln,j⟩,er) _ (hT.out _ _ _ HJ.out hK) (HA.out.len hlt) HPre.out;dsimp only[zo5,Tok.val] at hy;rw[←zgu] at hy;clear hJ2 hK d0 d1;by_cases her:er=0
   ·have hb0:((er:Int) != 0)=false:=by simp;omega
    have HE4:=zaa (HE2.out her);clear her
    gi_wp2
    refine hRd.mono ?_;rintro e W3 (⟨rfl,hJ3,hk3⟩|⟨rfl,hJx3⟩)
    ·have HI4:=zaa (HI3.out.kp hk3)
     have HJ3:=zaa hJ3;clear hJ3 hk3 hy hRd;obtain⟨b0,bf,bl⟩:=zi8 HI4.out.box
     gi_wp2
     refine⟨trivial,?_⟩;refine(callsIn_wide.2 (zhx HI4.out e3 hs)).mono ?_;rintro e w4 ⟨rfl,hJ4⟩;have HI5:=zaa (HI4.out.atJ hJ4);have HJ5:=zaa (hT.out _ _ _ HJ3.out hJ4.kept);have m2:zfo sb wr=j:=by unfold zfo;rw[HIt.out.here];simp[intOf]
     have m1:zfo sb w4=zbr src (j+ln):=by unfold zfo;rw[HI5.out.here];simp[intOf]
     have HM:=zaa (show src.size-zfo sb w4<src.size-zfo sb wr by rw[m1,m2];have:=HE4.out.2;omega);clear m1 m2 hJ4
     gi_wp2
     go_roundw
     case rel=>exact⟨_,_,HE4.out.1,HJ5.out,HI5.out⟩
     case measure=>exact HM.out
    ·gi_wp2
     refine bodyPost_ret (results_none rfl _ _ _) rfl ?_;exact⟨⟨_,rfl⟩,.inr ⟨_,HPre.out,hJx3⟩⟩
   ·have hb0:((er:Int) != 0)=true:=by simp;omega
    have HFull:=zaa (show pre++[(⟨kd,((zax src).drop j).take ln,j⟩,er)]=zeM 0 (zax src) by rw[HE1.out,if_neg her];simp);clear her
    gi_wp2
    refine hRd.mono ?_;rintro e W3 (⟨rfl,hJ3,hk3⟩|⟨rfl,hJx3⟩)
    ·have HJ3:=zaa hJ3
     clear hJ3 hk3
     gi_wp2
     refine bodyPost_ret (results_none rfl _ _ _) rfl ?_;exact⟨⟨_,rfl⟩,.inl ⟨_,HFull.out,HJ3.out⟩⟩
    ·gi_wp2
     refine bodyPost_ret (results_none rfl _ _ _) rfl ?_;exact⟨⟨_,rfl⟩,.inr ⟨_,HPre.out,hJx3⟩⟩
  ·have HF:=zaa (HA.out.full (Nat.le_of_not_lt hlt))
   gi_wp2
   gi_quiet (fail)
   gi_wp2
   go_end0
   exact⟨⟨_,rfl⟩,.inl ⟨_,HF.out,hT.out _ _ _ HJ.out ((zbu.refl _ wr).drewN _)⟩⟩
open Go.RowKit
structure zfe where
 kind:Int
 text:ByteArray
 at_:Int
def Tok.toZ (t:Tok):zfe:=⟨(t.kind:Int),⟨t.text.toArray⟩,(t.at_:Int)⟩
def zfe.cells (K:IntKind) (t:zfe):List Value:=[.int K t.kind,.string t.text,.int .i64 t.at_]
def zfK (K:IntKind) (ts:List zfe):List Value:=ts.flatMap (zfe.cells K)
theorem zfx (K:IntKind) (ts:List zfe) (t:zfe):zfK K (ts++[t])=zfK K ts++t.cells K:=by simp[zfK]
theorem zkO (K:IntKind) (ts:List zfe) (i:Nat) (t:zfe) (h:ts[i]? =some t) (j:Nat) (hj:j<3):(zfK K ts)[i*3+j]? =(t.cells K)[j]? :=by
 induction ts generalizing i with
 |nil=>simp at h
 |cons x ts ih=>
  have hx:(x.cells K).length=3:=rfl
  show(x.cells K++zfK K ts)[i*3+j]? =_
  cases i with
  |zero=>
   simp only[List.getElem?_cons_zero,Option.some.injEq] at h;subst h;rw[List.getElem?_append_left (by omega)];simp
  |succ i=>
   rw[List.getElem?_append_right (by omega)];have:(i+1)*3+j-(x.cells K).length=i*3+j:=by omega
   rw[this];exact ih i (by simpa using h)
theorem znI (K:IntKind) (ts:List zfe) (k:Nat) (t:zfe) (h:ts[k]? =some t):zfK K (ts.take k)++t.cells K=zfK K (ts.take (k+1)):=by
 obtain⟨hk,rfl⟩:=List.getElem?_eq_some_iff.1 h;rw[←zfx,List.take_succ_eq_append_getElem hk]
def zjq (K:IntKind) (w:World) (A:Option Addr) (ts:List zfe):Prop:=
 ts=[]∨ ∃b off,A=some ⟨b,off,none⟩∧b<w.heap.size∧ ∀i t,ts[i]? =some t→w.cell? ⟨b,off+i*3,none⟩=some (.int K t.kind)∧w.cell? ⟨b,off+i*3+1,none⟩=some (.string t.text)∧w.cell? ⟨b,off+i*3+2,none⟩=some (.int .i64 t.at_)
theorem zjq.below {K:IntKind} {w w':World} {A:Option Addr} {ts:List zfe} (h:zjq K w A ts) (hb:Below w.heap.size w w'):zjq K w' A ts:=by
 rcases h with h|⟨b,off,e,hlt,hc⟩
 ·exact .inl h
 ·refine .inr ⟨b,off,e,Nat.lt_of_lt_of_le hlt hb.size,fun i t ht=> ?_⟩
  obtain⟨h0,h1,h2⟩:=hc i t ht;exact⟨(hb.cell (p:=⟨b,off+i*3,none⟩) hlt).trans h0,(hb.cell (p:=⟨b,off+i*3+1,none⟩) hlt).trans h1,(hb.cell (p:=⟨b,off+i*3+2,none⟩) hlt).trans h2⟩
theorem zff {K:IntKind} {w:World} {base n:Nat} {e:TypeId} {v:Value} {ts:List zfe} (h:w.ownsRow base e 3 v n (zfK K ts)) (hl:ts.length=n):
 ∃a cap,v= .slice a n cap∧zjq K w a ts:=by
 rcases h.2 with⟨rfl,rfl⟩|⟨g,cap,cur,rfl,_,hg,_⟩
 ·exact⟨none,0,rfl,.inl (List.eq_nil_of_length_eq_zero hl)⟩
 ·refine⟨some ⟨g,0,none⟩,cap,rfl,.inr ⟨g,0,rfl,(zau hg),fun i t ht=> ?_⟩⟩
  have hi:i<n:=by rw[←hl];exact(List.getElem?_eq_some_iff.1 ht).1
  have hc: ∀j,j<3→w.cell? ⟨g,i*3+j,none⟩=(t.cells K)[j]? :=fun j hj=>by
   rw[World.ownsRow.cellAt h (i*3+j) (by omega),zkO K ts i t ht j hj]
  refine⟨?_,?_,?_⟩
  ·have h1:=hc 0 (by omega)
   simp[zfe.cells] at h1 ⊢ <;>exact h1
  ·have h1:=hc 1 (by omega)
   simp[zfe.cells] at h1 ⊢ <;>exact h1
  ·have h1:=hc 2 (by omega)
   simp[zfe.cells] at h1 ⊢ <;>exact h1
theorem zpx {K:IntKind} {w w':World} {A:Option Addr} {ts:List zfe} {n k:Nat} (HL:Hid (ts.length=n)) (h:Hid (zjq K w A ts)) (hb:Below w.heap.size w w') (hk:k<n):
 ∃b off t,A=some ⟨b,off,none⟩∧b<w.heap.size∧Hid (ts[k]? =some t)∧w'.cell? ⟨b,off+k*3,none⟩=some (.int K t.kind)∧w'.cell? ⟨b,off+k*3+1,none⟩=some (.string t.text)∧w'.cell? ⟨b,off+k*3+2,none⟩=some (.int .i64 t.at_):=by
 rcases h.out with h0|⟨b,off,e,hlt,hc⟩
 ·have:=HL.out;rw[h0] at this;simp at this;omega
 ·have hkl:k<ts.length:=by rw[HL.out];exact hk
  obtain⟨h0,h1,h2⟩:=hc k ts[k] (List.getElem?_eq_getElem hkl);exact⟨b,off,ts[k],e,hlt,List.getElem?_eq_getElem hkl,(hb.cell (p:=⟨b,off+k*3,none⟩) hlt).trans h0,(hb.cell (p:=⟨b,off+k*3+1,none⟩) hlt).trans h1,(hb.cell (p:=⟨b,off+k*3+2,none⟩) hlt).trans h2⟩
theorem zaS {W:World} {t:TypeId} {cs:Array Value} {b:Nat} (hb:b=W.heap.size): ∀j u,cs.toList[j]? =some u→(W.alloc (.cells cs t)).cell? ((⟨b,0,none⟩:Addr).add j)=some u:=by
 subst hb;exact World.news_of_block (cs:=cs) (t:=t) (fr:=(0,0)) (heap_alloc_new W _)
theorem zmZ:(prog.info? 9).map (fun i=>(i.zero,i.size,i.bytes))=some (some (.string ⟨#[]⟩),1,16):=by kernel_rfl
theorem znE:(prog.info? 220).map (fun i=>(i.zero,i.size,i.bytes))=some (some (.agg #[.int .u8 0,.string ⟨#[]⟩,.int .i64 0]),3,32):=by kernel_rfl
def zgi (ts:List zfe):List UInt8:=Lib.join (ts.map (·.text.data.toList)) [32]
theorem zio (ts:List zfe) (t:zfe):zgi (ts++[t])=(if ts=[] then[] else zgi ts++[32])++t.text.data.toList:=by
 unfold zgi Lib.join;rw[List.map_append]
 induction ts with
 |nil=>simp
 |cons x r ih=>
  cases r with
  |nil=>simp[List.intercalate,List.intersperse]
  |cons y r=>
   simp only[List.cons_append,List.map_cons,List.map_nil,reduceCtorEq,if_false] at ih ⊢;simp only[List.intercalate,List.intersperse,List.flatten_cons,List.append_assoc] at ih ⊢;rw[ih]
theorem zlQ (ts:List zfe): ∀k,(zgi (ts.take k)).length≤(zgi ts).length:=by
 have h1: ∀(a b:List zfe),(zgi a).length≤(zgi (a++b)).length:=by
  intro a b;obtain⟨n,hn⟩: ∃n,b.length=n:=⟨_,rfl⟩
  induction n generalizing b with
  |zero=>rw[List.eq_nil_of_length_eq_zero hn];simp
  |succ n ih=>
   rcases List.eq_nil_or_concat b with rfl|⟨b,t,rfl⟩
   ·simp
   ·have:=ih b (by simpa using hn)
    rw[List.concat_eq_append,←List.append_assoc,zio]
    split
    ·rename_i h;simp at h;rw[h.1];simp[zgi,Lib.join,List.intercalate]
    ·simp;omega
 intro k;have:=h1 (ts.take k) (ts.drop k)
 rwa[List.take_append_drop] at this
def zfk (l:List Tok):List Value:=zfK .u8 (l.map Tok.toZ)
theorem zno (p:Option Addr) (w:World):Calls prog 263 #[.pointer p] w fun e w'=>e= .returned (.func (.func 297) #[] #[.pointer (some ⟨w.heap.size,0,none⟩)])∧w'=w.alloc (.cells #[.pointer p] 254):=by
 go_enter func263,ntmps263
 have hmf: ∀(fn:Fn) (first cap:Array Value) (w:World),(Instr.makeFunc fn first cap).run prog w= .ok (.func fn first cap) w:=fun _ _ _ _=>rfl
 go_wp2
 go_ret;exact⟨rfl,rfl⟩
def zgO (src:List UInt8):List Tok×Nat×Nat:=if 65536<src.length then([],0,3) else if(zdG 0 src).2.2=0 then zdG 0 src else([],(zdG 0 src).2.1,(zdG 0 src).2.2)
def zoJ (w:World) (src:ByteArray) (e:Ending) (w':World):Prop:=
 ∃v,e= .returned (.tuple #[v,.int .i64 ((zgO src.data.toList).2.1:Int),.int .i64 ((zgO src.data.toList).2.2:Int)])∧w'.ownsRow w.heap.size 220 3 v (zgO src.data.toList).1.length (zfk (zgO src.data.toList).1)∧((zgO src.data.toList).1=[]→v= .slice none 0 0)∧Below w.heap.size w w'
theorem zlY (src:ByteArray) (w:World) (hl:65536<src.size):Calls prog 220 #[.string src] w (zoJ w src):=by
 have HR:Hid (∀w',Below w.heap.size w w'→zoJ w src (.returned (.tuple #[.slice none 0 0,.int .i64 0,.int .i64 3])) w'):=by
  intro w' hb;have he:zgO src.data.toList=([],0,3):=by unfold zgO;rw[if_pos (by simpa using hl)]
  refine⟨.slice none 0 0,by rw[he];rfl,?_,fun _=>rfl,hb⟩;rw[he];exact⟨rfl,.inl ⟨rfl,rfl⟩⟩
 go_enter func220,ntmps220
 go_wp2
 refine bodyPost_ret (v:= .tuple #[.slice none 0 0,.int .i64 0,.int .i64 3]) (by simp[results,Tryz.results220,go_sem]) rfl (HR.out _ ?_);exact(((Below.refl _ _).alloc (Nat.le_refl _) _).alloc (by simp) _).alloc (by simp;omega) _
theorem mixed:prog.follows .mixedOrders=true:=by kernel_rfl
theorem zmm (w:World) (X Y Z:Obj):(((w.alloc X).alloc Y).alloc Z).heap[w.heap.size]? =some X∧(((w.alloc X).alloc Y).alloc Z).heap[w.heap.size+1]? =some Y∧(((w.alloc X).alloc Y).alloc Z).heap[w.heap.size+1+1]? =some Z∧
 (((w.alloc X).alloc Y).alloc Z).heap.size=w.heap.size+3∧Below w.heap.size w (((w.alloc X).alloc Y).alloc Z):=by
 have h1:(w.alloc X).heap[w.heap.size]? =some X:=heap_alloc_new w X;have h2:((w.alloc X).alloc Y).heap[w.heap.size+1]? =some Y:=by have:=heap_alloc_new (w.alloc X) Y;rw[World.size_alloc] at this;exact this
 have h3:(((w.alloc X).alloc Y).alloc Z).heap[w.heap.size+1+1]? =some Z:=by have:=heap_alloc_new ((w.alloc X).alloc Y) Z;rw[World.size_alloc,World.size_alloc] at this;exact this
 have s:(((w.alloc X).alloc Y).alloc Z).heap.size=w.heap.size+3:=by simp
 have a1:((w.alloc X).alloc Y).heap[w.heap.size]? =some X:=(Below.heap_alloc _ _ _ (by simp)).trans h1;have a2:(((w.alloc X).alloc Y).alloc Z).heap[w.heap.size]? =some X:=(Below.heap_alloc _ _ _ (by simp;omega)).trans a1;have a3:(((w.alloc X).alloc Y).alloc Z).heap[w.heap.size+1]? =some Y:=(Below.heap_alloc _ _ _ (by simp)).trans h2;exact⟨a2,a3,h3,s,(((Below.refl _ _).alloc (Nat.le_refl _) X).alloc (by simp) Y).alloc (by simp;omega) Z⟩
theorem zn5 {w:World} {x:Nat} {a b c d e f:Value} {t:TypeId} (h:w.heap[x]? =some (.cells #[a,b,c,d,e,f] t (0,0))):w.cell? ⟨x,0,none⟩=some a∧w.cell? ⟨x,1,none⟩=some b∧w.cell? ⟨x,2,none⟩=some c∧
 w.cell? ⟨x,3,none⟩=some d∧w.cell? ⟨x,4,none⟩=some e∧w.cell? ⟨x,5,none⟩=some f∧w.frozen? ⟨x,1,none⟩=false∧x<w.heap.size:=by
 have c0:=cell_of_row w x 0 _ _ _ h;have c1:=cell_of_row w x 1 _ _ _ h;have c2:=cell_of_row w x 2 _ _ _ h;have c3:=cell_of_row w x 3 _ _ _ h;have c4:=cell_of_row w x 4 _ _ _ h;have c5:=cell_of_row w x 5 _ _ _ h;simp only[List.getElem?_toArray,List.getElem?_cons_zero,List.getElem?_cons_succ] at c0 c1 c2 c3 c4 c5;exact⟨c0,c1,c2,c3,c4,c5,frozen_of_row w x 1 _ _ h,(zau h)⟩
theorem zhR {w w':World} {F:Nat→Prop} {base e size n:Nat} {v:Value} {xs:List Value} (h:w.ownsRow base e size v n xs) (k:zbu F w w') (hF: ∀g,F g→g<base):w'.ownsRow base e size v n xs:=by
 refine⟨h.1,?_⟩;rcases h.2 with hn|⟨g,cap,cur,hv,hb,hg,rest⟩
 ·exact .inl hn
 ·exact .inr ⟨g,cap,cur,hv,hb,(k.block g (zau hg) (fun hf=>by have:=hF g hf;omega)).trans hg,rest⟩
theorem zlO {w:World} {base base' e size n:Nat} {v:Value} {xs:List Value} (h:w.ownsRow base e size v n xs) (hb:base'≤base):w.ownsRow base' e size v n xs:=by
 refine⟨h.1,?_⟩;rcases h.2 with hn|⟨g,cap,cur,hv,hg0,rest⟩
 ·exact .inl hn
 ·exact .inr ⟨g,cap,cur,hv,Nat.le_trans hb hg0,rest⟩
theorem zbu.putObj {F:Nat→Prop} (W:World) (l:Nat) (o':Obj) (hF:F l):zbu F W (W.putObj l o'):=
 ⟨rfl,rfl,rfl,by simp,fun k _ hf=>World.putObj_heap_other (fun e=>hf (e ▸ hF))⟩
theorem zay {w w':World} {F:Nat→Prop} {B:Nat} {t:TypeId} {v:Value} (h:Boxed w B t v) (k:zbu F w w') (hF: ¬F B):Boxed w' B t v:=(k.block B h.lt hF).trans h
structure zfV (w:World) (lb n₀:Nat) (pre:List (Tok×Nat)) (W:World):Prop where
 row: ∃v,Boxed W lb 215 v∧W.ownsRow n₀ 220 3 v pre.length (zfk (pre.map (·.1)))∧(pre=[]→v= .slice none 0 0)
 r0:Boxed W w.heap.size 215 (.slice none 0 0)
 r1:Boxed W (w.heap.size+1) 3 (.int .i64 0)
 r2:Boxed W (w.heap.size+1+1) 39 (.int .i64 0)
 below:Below w.heap.size w W
 big:n₀≤W.heap.size
 fine: ∀y∈pre,y.2=0
structure zn0 (w:World) (n₀:Nat) (c:Code) (pre:List (Tok×Nat)) (W:World):Prop where
 ret:c= .ret
 last: ∃pre' x,pre=pre'++[x]∧x.2≠0∧Boxed W w.heap.size 215 (.slice none 0 0)∧Boxed W (w.heap.size+1) 3 (.int .i64 (x.1.at_:Int))∧Boxed W (w.heap.size+1+1) 39 (.int .i64 (x.2:Int))
 below:Below w.heap.size w W
 big:n₀≤W.heap.size
section
variable {w:World} {lb n₀:Nat}
theorem zfV.keep {F:Nat→Prop} {pre:List (Tok×Nat)} {A B:World} (h:zfV w lb n₀ pre A) (k:zbu F A B) (h1: ∀i,i≤w.heap.size+1+1→ ¬F i) (h2: ¬F lb) (h3: ∀v,A.ownsRow n₀ 220 3 v pre.length (zfk (pre.map (·.1)))→B.ownsRow n₀ 220 3 v pre.length (zfk (pre.map (·.1)))):zfV w lb n₀ pre B:=by
 obtain⟨v,hv,ho,hn⟩:=h.row;exact⟨⟨v,zay hv k h2,h3 v ho,hn⟩,zay h.r0 k (h1 _ (by omega)),zay h.r1 k (h1 _ (by omega)),zay h.r2 k (h1 _ (by omega)),h.below.trans (k.below h.below.size (fun i hi=>h1 i (by omega))),Nat.le_trans h.big k.size,h.fine⟩
theorem zfV.own (hn:w.heap.size+3≤n₀) (hlb:lb<n₀):OwnFrom n₀ (zfV w lb n₀):=fun pre A B row hs hg hr=>by
 have hk:zbu (fun k=>row=some k) A B:=⟨hg.os,hg.tape,hg.output,hg.size,fun k hk hf=>hg.block k hk (fun e=>hf e.symm)⟩;refine hs.keep hk (fun i hi e=>by have:=(hr i e).1;omega) (fun e=>by have:=(hr lb e).1;omega) (fun v ho=>ho.kept hg ?_);rcases ho.2 with⟨rfl,_⟩|⟨g,cap,cur,rfl,_,hgb,_⟩
 ·exact .inl rfl
 ·refine .inr fun e'=> ?_
  obtain⟨o,ho,hc⟩:=(hr g (by simpa [Value.ownBlock] using e'.symm)).2;rw[hgb] at ho;cases ho;cases hc
theorem zfV.state {sb:Nat} (h0:w.heap.size+1+1<sb) (h1:sb≠lb) (h2:sb<n₀) {pre:List (Tok×Nat)} {A B:World} (h:zfV w lb n₀ pre A) (k:zbu (fun k=>k=sb) A B):zfV w lb n₀ pre B:=
 h.keep k (fun i hi e=>by omega) (fun e=>h1 e.symm) (fun v ho=>zhR ho k (fun g hg=>by omega))
theorem zfV.append (h0:w.heap.size+1+1<lb) (h1:lb<n₀) {pre:List (Tok×Nat)} {x:Tok×Nat} {W w3:World} {tmp:Obj} {v v':Value} (HI:zfV w lb n₀ pre W) (hx:x.2=0) (hv:Boxed W lb 215 v) (ho:W.ownsRow n₀ 220 3 v pre.length (zfk (pre.map (·.1))))
 (hown:w3.ownsRow n₀ 220 3 v' (pre.length+1) (zfk (pre.map (·.1))++x.1.toZ.cells .u8)) (hg:(W.alloc tmp).grownBy w3 v.ownBlock):
 Boxed w3 lb 215 v∧KeepsFrom n₀ W (w3.setCell ⟨lb,0,none⟩ v')∧KpL lb n₀ W (w3.setCell ⟨lb,0,none⟩ v')∧zfV w lb n₀ (pre++[x]) (w3.setCell ⟨lb,0,none⟩ v'):=by
 have hrow: ∀g,v.ownBlock=some g→n₀≤g:=fun g hg=>(ho.lt g hg).1
 have hk3:zbu (fun k=>n₀≤k) W w3:=by
  refine⟨hg.os,hg.tape,hg.output,by have:=hg.size;simp at this;omega,fun k hk hf=>(hg.block k (by simp;omega) (fun e=>hf (hrow k e.symm))).trans (Below.heap_alloc _ _ _ hk)⟩
 have hv3:Boxed w3 lb 215 v:=zay hv hk3 (by omega);have hk4:zbu (fun k=>k=lb∨n₀≤k) W (w3.setCell ⟨lb,0,none⟩ v'):=(hk3.mono (fun i hi=> .inr hi)).setCell (p:=⟨lb,0,none⟩) (.inl (.inl rfl)) _;have hne:some lb≠v'.ownBlock:=fun e=>by have:=(hown.lt lb e.symm).1;omega
 refine⟨hv3,?_,hk4,⟨v',hv3.set v',?_,fun e=>by simp at e⟩,zay HI.r0 hk4 (by omega),zay HI.r1 hk4 (by omega),zay HI.r2 hk4 (by omega),HI.below.trans (hk4.below HI.below.size (fun i hi=>by omega)),Nat.le_trans HI.big hk4.size,fun y hy=> ?_⟩
 ·refine(((KeepsOthers.alloc W tmp).trans (KeepsOthers.of_grownBy hg fun j o ej hj=> ?_)).trans (KeepsOthers.setCell _ _ _)).from _
  rcases(ho.alloc tmp).2 with⟨rfl,_⟩|⟨g,cap,cur,rfl,_,hgb,_⟩
  ·simp[Value.ownBlock] at ej
  ·obtain rfl:g=j:=by simpa [Value.ownBlock] using ej
   rw[hgb] at hj;cases hj;rfl
 ·have e1:(pre++[x]).length=pre.length+1:=by simp
  have e2:zfk ((pre++[x]).map (·.1))=zfk (pre.map (·.1))++x.1.toZ.cells .u8:=by
   unfold zfk;rw[List.map_append,List.map_append];exact zfx _ _ _
  rw[e1,e2];exact hown.kept (grownBy_setCell' w3 lb v') (.inr hne.symm)
 ·rcases List.mem_append.1 hy with hy|hy
  ·exact HI.fine y hy
  ·rw[List.mem_singleton] at hy;rw[hy];exact hx
theorem zfV.leave (_h0:w.heap.size+1+1<n₀) {pre:List (Tok×Nat)} {x:Tok×Nat} {W:World} (HI:zfV w lb n₀ pre W) (hx:x.2≠0):
 KeepsFrom n₀ W (((W.setCell ⟨w.heap.size,0,none⟩ (.slice none 0 0)).setCell ⟨w.heap.size+1,0,none⟩ (.int .i64 (x.1.at_:Int))).setCell ⟨w.heap.size+1+1,0,none⟩ (.int .i64 (x.2:Int))).drew∧
 zn0 w n₀ .ret (pre++[x]) (((W.setCell ⟨w.heap.size,0,none⟩ (.slice none 0 0)).setCell ⟨w.heap.size+1,0,none⟩ (.int .i64 (x.1.at_:Int))).setCell ⟨w.heap.size+1+1,0,none⟩ (.int .i64 (x.2:Int))).drew:=by
 obtain⟨X,hX⟩: ∃X,W.setCell ⟨w.heap.size,0,none⟩ (.slice none 0 0)=X:=⟨_,rfl⟩;have k1:zbu (fun k=>k=w.heap.size) W X:=by rw[←hX];exact(zbu.refl (fun k=>k=w.heap.size) W).setCell (p:=⟨w.heap.size,0,none⟩) (.inl rfl) _
 have o1:KeepsOthers W X:=by rw[←hX];exact KeepsOthers.setCell _ _ _
 have b0:Boxed X w.heap.size 215 (.slice none 0 0):=by rw[←hX];exact HI.r0.set (.slice none 0 0)
 have b1:=zay HI.r1 k1 (by omega);have b2:=zay HI.r2 k1 (by omega);rw[hX];clear hX;obtain⟨Y,hY⟩: ∃Y,X.setCell ⟨w.heap.size+1,0,none⟩ (.int .i64 (x.1.at_:Int))=Y:=⟨_,rfl⟩;have k2:zbu (fun k=>k=w.heap.size+1) X Y:=by rw[←hY];exact(zbu.refl (fun k=>k=w.heap.size+1) X).setCell (p:=⟨w.heap.size+1,0,none⟩) (.inl rfl) _
 have o2:KeepsOthers X Y:=by rw[←hY];exact KeepsOthers.setCell _ _ _
 have d1:Boxed Y (w.heap.size+1) 3 (.int .i64 (x.1.at_:Int)):=by rw[←hY];exact b1.set _
 have d0:=zay b0 k2 (by omega);have d2:=zay b2 k2 (by omega);rw[hY];clear hY;obtain⟨Z,hZ⟩: ∃Z,Y.setCell ⟨w.heap.size+1+1,0,none⟩ (.int .i64 (x.2:Int))=Z:=⟨_,rfl⟩;have k3:zbu (fun k=>k=w.heap.size+1+1) Y Z:=by rw[←hZ];exact(zbu.refl (fun k=>k=w.heap.size+1+1) Y).setCell (p:=⟨w.heap.size+1+1,0,none⟩) (.inl rfl) _
 have o3:KeepsOthers Y Z:=by rw[←hZ];exact KeepsOthers.setCell _ _ _
 have e2:Boxed Z (w.heap.size+1+1) 39 (.int .i64 (x.2:Int)):=by rw[←hZ];exact d2.set _
 have e0:=zay d0 k3 (by omega);have e1:=zay d1 k3 (by omega);rw[hZ];clear hZ;have hbl:=HI.below.size;have hk:zbu (fun k=>w.heap.size≤k) W Z:=((k1.mono (fun i hi=>by omega)).trans (k2.mono (fun i hi=>by omega))).trans (k3.mono (fun i hi=>by omega));have hw:=((o1.trans o2).trans o3).from n₀
 exact⟨⟨hw.size,hw.same⟩,rfl,⟨pre,x,rfl,hx,e0,e1,e2⟩,HI.below.trans (hk.drew.below hbl (fun i hi=>by omega)),Nat.le_trans HI.big hk.size⟩
theorem zn0.own (hn:w.heap.size+3≤n₀) (c:Code):OwnFrom n₀ (zn0 w n₀ c):=fun pre A B row hs hg hr=>by
 have hk:zbu (fun k=>row=some k) A B:=⟨hg.os,hg.tape,hg.output,hg.size,fun k hk hf=>hg.block k hk (fun e=>hf e.symm)⟩;have hf: ∀i,i≤w.heap.size+1+1→ ¬row=some i:=fun i hi e=>by have:=(hr i e).1;omega
 obtain⟨hr,⟨pre',x,h1,h2,h3,h4,h5⟩,hb,hbig⟩:=hs;exact⟨hr,⟨pre',x,h1,h2,zay h3 hk (hf _ (by omega)),zay h4 hk (hf _ (by omega)),zay h5 hk (hf _ (by omega))⟩,hb.trans (hk.below hb.size (fun i hi=>hf i (by omega))),Nat.le_trans hbig hk.size⟩
end
theorem zgn {X:World} {D:Nat} {o':Obj} {t0 t1 t2:TypeId} {B:Nat} {a b c:Value} (e0:Boxed X B t0 a) (e1:Boxed X (B+1) t1 b) (e2:Boxed X (B+1+1) t2 c) (hD:B+1+1<D):
 (X.putObj D o').cell? ⟨B,0,none⟩=some a∧(X.putObj D o').cell? ⟨B+1,0,none⟩=some b∧(X.putObj D o').cell? ⟨B+1+1,0,none⟩=some c∧Below B X (X.putObj D o'):=by
 have k:=zbu.putObj (F:=fun k=>k=D) X D o' rfl;exact⟨(zay e0 k (by omega)).cell,(zay e1 k (by omega)).cell,(zay e2 k (by omega)).cell,k.below (by have:=e0.lt;omega) (fun i hi=>by omega)⟩
theorem zj7 (src:ByteArray) (hl:src.size≤65536) {xs:List (Tok×Nat)} (hS:xs=zeM 0 (zax src)) (hf: ∀y∈xs,y.2=0):zgO src.data.toList=(xs.map (·.1),0,0):=by
 have hll: ¬65536<src.data.toList.length:=by simp;show src.size≤65536;exact hl
 obtain⟨h1,h2⟩:=zfI _ 0 (zax src) (Nat.le_refl _);by_cases h0:(zdG 0 (zax src)).2.2=0
 ·obtain⟨e1,e2⟩:=h1 h0
  have e:zdG 0 (zax src)=(xs.map (·.1),0,0):=by
   have ex:xs.map (·.1)=(zdG 0 (zax src)).1:=by rw[hS,e1,List.map_map];simp[Function.comp_def]
   rw[ex];exact Prod.ext rfl (Prod.ext e2 h0)
  unfold zgO;rw[if_neg hll]
  show(if(zdG 0 (zax src)).2.2=0 then zdG 0 (zax src) else _)=_
  rw[if_pos h0,e]
 ·obtain⟨t,e1,e2⟩:=h2 h0
  exact absurd (hf (t,(zdG 0 (zax src)).2.2) (by rw[hS,e1];simp)) h0
theorem zlh (src:ByteArray) (hl:src.size≤65536) {pre:List (Tok×Nat)} {x:Tok×Nat} (hS:pre++[x] <+:zeM 0 (zax src)) (hx:x.2≠0):zgO src.data.toList=([],x.1.at_,x.2):=by
 have hll: ¬65536<src.data.toList.length:=by simp;show src.size≤65536;exact hl
 obtain⟨suf,hs⟩:=hS;have he:zeM 0 (zax src)=pre++x::suf:=by rw[←hs];simp
 have hn:=(zj9 _ 0 (zax src) (Nat.le_refl _) pre x suf he).2 hx;subst hn;obtain⟨h1,h2⟩:=zfI _ 0 (zax src) (Nat.le_refl _);by_cases h0:(zdG 0 (zax src)).2.2=0
 ·obtain⟨e1,e2⟩:=h1 h0
  rw[e1] at he;have:x∈(zdG 0 (zax src)).1.map (·,0):=by rw[he];simp
  obtain⟨t,_,rfl⟩:=List.mem_map.1 this;exact absurd rfl hx
 ·obtain⟨t,e1,e2⟩:=h2 h0
  rw[e1] at he;have hi:=List.append_inj' he rfl;simp only[List.cons.injEq,and_true] at hi;unfold zgO;rw[if_neg hll]
  show(if(zdG 0 (zax src)).2.2=0 then zdG 0 (zax src) else _)=_
  rw[if_neg h0]
  show([],(zdG 0 (zax src)).2.1,(zdG 0 (zax src)).2.2)=_
  rw[←hi.2,e2]
theorem zlN (src:ByteArray) (w:World) (hl:src.size≤65536) (hE:Hid (Env w)):Calls prog 220 #[.string src] w (zoJ w src):=by
 refine(callsIn_wide (n:=5)).1 ?_;refine callsIn_of_wp_marks func220 rfl trivial ?_ rfl;simp only[ntmps220,List.size_toArray,List.length_cons,List.length_nil,Nat.reduceAdd,Nat.reduceSub,Array.replicate_succ,Array.replicate_zero,List.push_toArray,List.append_toArray,List.nil_append,List.cons_append]
 gi_wp2
 obtain⟨a0,a1,a2,az,ab⟩:=zmm w (.cells #[.slice none 0 0] 215) (.cells #[.int .i64 0] 3) (.cells #[.int .i64 0] 39);refine⟨trivial,?_⟩;refine(callsIn_wide.2 (ziS _)).mono ?_;rintro e w1 ⟨⟨g1,g2,g3,c1,c2,c3,rfl,hT1,hT2,hT3⟩,hb1⟩;have HA0:=zaa ((hb1.block _ (by omega)).trans a0);have HA1:=zaa ((hb1.block _ (by omega)).trans a1);have HA2:=zaa ((hb1.block _ (by omega)).trans a2);have hz1:w.heap.size+3≤w1.heap.size:=by have:=hb1.size;omega
 have HB1:=zaa (ab.trans (hb1.mono (by omega)));rw[az] at hT1 hT2 hT3;have HT1:=zaa hT1;have HT2:=zaa hT2;have HT3:=zaa hT3;clear a0 a1 a2 az ab hT1 hT2 hT3 hb1
 gi_wp2
 refine⟨trivial,?_⟩;refine(callsIn_wide.2 (zno _ _)).mono ?_;rintro e w2 ⟨rfl,rfl⟩;have hbl:=zmm w1 (.cells #[.string src,.int .i64 0,.nilFunc,.func (.func g1) #[] c1,.func (.func g2) #[] c2,.func (.func g3) #[] c3] 260) (.cells #[.slice none 0 0] 215) (.cells #[.pointer (some ⟨w1.heap.size,0,none⟩)] 254);obtain⟨b0,b1,b2,bz,bb⟩:=hbl
 gi_wp2
 have hN:=zaa bz;have HB2:=zaa bb;have HSC:=zaa b0;have HLB:=zaa b1;have HXB:=zaa b2;clear b0 b1 b2 bz bb;generalize((w1.alloc _).alloc _).alloc _=wL at *;obtain⟨s0,s1,s2,s3,s4,s5,sf,sl⟩:=zn5 HSC.out;have hz:wL.heap.size=w1.heap.size+3:=hN.out;have hw4:8≤w.heap.size:=by have:=hE.out.big;omega
 have HI:Hid (ItS w1.heap.size (w1.heap.size+1+1) (w1.heap.size+1) wL.heap.size src (fun k=>w.heap.size+3<k∧k<w1.heap.size) g1 g2 g3 c1 c2 c3 0 wL):=by
  refine zaa ⟨⟨s0,s3,s4,s5,HT1.out.below HB2.out,HT2.out.below HB2.out,HT3.out.below HB2.out,fun k hk=>by omega⟩,s1,sf,HXB.out,hE.out.keptB (HB1.out.trans (HB2.out.mono (by omega))) hw4,Nat.le_refl _,by omega,by omega,⟨by omega,by omega⟩,⟨by omega,by omega⟩,by omega,by omega,fun k hk=>⟨by omega,by omega⟩⟩
 clear s0 s1 s2 s3 s4 s5 sf sl HT1 HT2 HT3;have HI0:Hid (zfV w (w1.heap.size+1) wL.heap.size [] wL):=
  zaa ⟨⟨_,HLB.out,⟨rfl,.inl ⟨rfl,rfl⟩⟩,fun _=>rfl⟩,(HB2.out.block _ (by omega)).trans HA0.out,(HB2.out.block _ (by omega)).trans HA1.out,(HB2.out.block _ (by omega)).trans HA2.out,HB1.out.trans (HB2.out.mono (by omega)),Nat.le_refl _,fun y hy=>by simp at hy⟩
 have hs:src.size≤1099511627776:=by omega
 have hseq:SeqW 4 prog 297 #[.pointer (some ⟨w1.heap.size+1+1,0,none⟩)] zo5 (fun A B=>zbu (fun k=>k=w1.heap.size) A B) (KpL (w1.heap.size+1) wL.heap.size) (fun xs=>xs=zeM 0 (zax src)) (fun pre=>pre <+:zeM 0 (zax src)) src.size wL:=by
  intro l J Jx W hW hT hY h0;exact zk5 l w1.heap.size (w1.heap.size+1+1) (w1.heap.size+1) wL.heap.size src _ g1 g2 g3 c1 c2 c3 J Jx W (zaa (HI.out.below hW)) hs (zaa hT) (zaa hY) (zaa h0)
 have HSQ:=zaa hseq;clear hseq HI HSC HXB;refine zfr (n:=5) (by omega) (gf:=297) (lb:= #[.pointer (some ⟨w1.heap.size+1+1,0,none⟩)]) rfl (enters_of func297 (by kernel_rfl) rfl) HSQ.out
  (fun h k=>h.trans k) (fun W l o o' hl' _ _ _=>zbu.putObj W l o' (.inr hl')) (fun A B k o hT hk ho=>(hT.block k (zau ho) (by omega)).trans ho) (Below.refl _ _) (fun _=>rfl)
  (zfV w (w1.heap.size+1) wL.heap.size) (zn0 w wL.heap.size) (zfV.own (by omega) (by omega)) (fun s A B h hT=>zfV.state (by omega) (by omega) (by omega) h hT) (zn0.own (by omega)) HI0.out
  (fun x a' W=> ∃Bx,wL.heap.size≤Bx∧W.heap[Bx]? =some (.cells #[.int .u8 (x.1.kind:Int),.string ⟨x.1.text.toArray⟩,.int .i64 (x.1.at_:Int)] 220 (0,0))∧a'={tmps:= #[.string src,undef,.pointer (some ⟨w.heap.size,0,none⟩),.pointer (some ⟨w.heap.size+1,0,none⟩),.pointer (some ⟨w.heap.size+1+1,0,none⟩),.pointer (some ⟨w1.heap.size,0,none⟩),.pointer (some ⟨w1.heap.size+1,0,none⟩),.pointer (some ⟨Bx,0,none⟩),.int .i64 (x.2:Int),.string src,.int .i64 (src.size:Int),.bool (decide ((65536:Int)<(src.size:Int))),.string src,.agg #[.string src,.int .i64 0],.agg #[.nilFunc,.func (.func g1) #[] c1,.func (.func g2) #[] c2,.func (.func g3) #[] c3],.agg #[.string src,.int .i64 0,.nilFunc,.func (.func g1) #[] c1,.func (.func g2) #[] c2,.func (.func g3) #[] c3],.pointer (some ⟨w1.heap.size,0,none⟩),.pointer (some ⟨w1.heap.size,0,none⟩),.func (.func 297) #[] #[.pointer (some ⟨w1.heap.size+1+1,0,none⟩)],x.1.val,.int .i64 (x.2:Int),undef,undef,undef,undef,undef,undef,undef,undef,undef,undef],defers:=[]})
  (fun x a' _ X Y row hs hg hr=>by obtain⟨Bx,h1,h2,h3⟩:=hs;exact⟨Bx,h1,(hg.block Bx (zau h2) (fun e'=>by obtain⟨-,o,ho,hc⟩:=hr Bx e'.symm;rw[h2] at ho;cases ho;cases hc)).trans h2,h3⟩)
  ?assign ?body ?done ?stop
 case assign=>
  rintro l pre ⟨⟨kd,tx,at_⟩,er⟩ W K-hI hK;have HII:=zaa hI;unfold zo5 Tok.val
  gi_wp2
  refine hK _ _ ((KeepsOthers.alloc _ _).from _) ((zbu.refl _ W).alloc _) (HII.out.keep (F:=fun _=>False) ((zbu.refl _ W).alloc _) (fun _ _ h=>h) (fun h=>h) (fun v ho=>ho.alloc _)) ⟨W.heap.size,HII.out.big,heap_alloc_new W _,rfl⟩
 case body=>
  rintro l pre ⟨⟨kd,tx,at_⟩,er⟩ a' W hSp hI ⟨Bx,hBx,hX,rfl⟩ hlen;have hzl:w1.heap.size+3≤wL.heap.size:=by omega
  have HZ:=zaa hz;clear hz;have hmo:=mixed;obtain⟨i0,hi0,hz0,hz1',hz2⟩:=info_parts znE;have HII:=zaa hI;have HX:=zaa hX;have HV:=zaa hI.row;have HSp:=zaa hSp;obtain⟨x0,x1,x2, -, -, -,xl⟩:=zaE hX;have c0:=hI.r0.cell;have f0:=hI.r0.frozen;have c1':=hI.r1.cell;have f1:=hI.r1.frozen;have c2':=hI.r2.cell;have f2:=hI.r2.frozen;have l0:=hI.r0.lt;have l1:=hI.r1.lt;have l2:=hI.r2.lt;obtain⟨v,hv,ho,hnil⟩:=hI.row;have hbig:=hI.big;have cv:=hv.cell;have fv:=hv.frozen;have lv:=hv.lt;have HO:=zaa ho;have HVB:=zaa hv;clear hI hX hSp hv ho hnil;unfold Tok.val;simp only at x0 x1 x2;by_cases her:er=0
  ·have hb0:((er:Int) != 0)=false:=by simp;omega
   have HER:=zaa her;clear her
   gi_wp2_with (gi_at_builtin;apply Hid.out)
   refine zaa ?_;refine wpListIn_append_own _ rfl _ _ 215 rfl wL.heap.size 220 i0 (.agg #[.int .u8 0,.string ⟨#[]⟩,.int .i64 0]) 3 32 underlying215 hi0 hz0 hz1' hz2 rfl (by decide) _ _ _ rfl (HO.out.alloc _) ⟨W.heap.size,0,none⟩ 1 1 [.int .u8 (kd:Int),.string ⟨tx.toArray⟩,.int .i64 (at_:Int)] rfl rfl (World.news_of_block (heap_alloc_new W _)) (by simp[Value.oneCell']) (by unfold maxLen;omega) (by omega) (by simp;omega) ?_;intro v' w3 hown' hg3 hnil3;obtain⟨g',cap',hv'⟩:=ownsRow_succ hown';subst hv';obtain⟨h1,h2,h3,h4⟩:=zfV.append (x:=(⟨kd,tx,at_⟩,er)) (by omega) (by omega) HII.out HER.out HVB.out HO.out hown' hg3;have d0:=h1.cell;have d1:=h1.frozen;have H2:=zaa h2;have H3:=zaa h3;have H4:=zaa h4;clear h1 h2 h3 h4 hown' hg3 hnil3
   gi_wp2
   exact⟨H2.out,H3.out,H4.out⟩
  ·have hb0:((er:Int) != 0)=true:=by simp;omega
   have H2:=zaa (zfV.leave (x:=(⟨kd,tx,at_⟩,er)) (by omega) HII.out her);have HER:=zaa her;clear her
   gi_wp2
   gi_region_with_o (fail)
   all_goals
    gi_wp2
    exact H2.out
 case done=>
  rintro D xs W hD hS hI hk;have c0:=hI.r0.cell;have f0:=hI.r0.frozen;have c1':=hI.r1.cell;have f1:=hI.r1.frozen;have c2':=hI.r2.cell;have f2:=hI.r2.frozen;have l0:=hI.r0.lt;have l1:=hI.r1.lt;have l2:=hI.r2.lt;obtain⟨v,hv,ho,hnil⟩:=hI.row;obtain⟨va,vn,vc,hvs⟩: ∃va vn vc,v= .slice va vn vc:=by
   rcases ho.2 with⟨h,_⟩|⟨g,cap,cur,h,_⟩
   ·exact⟨_,_,_,h⟩
   ·exact⟨_,_,_,h⟩
  subst hvs;have cv:=hv.cell;have HO:=zaa ho;have HI1:=zaa hI;have HS1:=zaa hS;have HK:=zaa hk;have HNil:=zaa hnil;have HR:=zaa (zj7 src hl hS hI.fine);have HBx:=zaa hv;have HBl:=zaa hI.below;have HB0:=zaa hI.r0;have HB1':=zaa hI.r1;have HB2':=zaa hI.r2;have hbig:=hI.big;clear hv ho hnil hI hS hk
  gi_wp2
  obtain⟨X,hX⟩: ∃X,W.setCell ⟨w.heap.size,0,none⟩ (.slice va vn vc)=X:=⟨_,rfl⟩;have k1:zbu (fun k=>k=w.heap.size) W X:=by rw[←hX];exact(zbu.refl (fun k=>k=w.heap.size) W).setCell (p:=⟨w.heap.size,0,none⟩) (.inl rfl) _
  have b0:Boxed X w.heap.size 215 (.slice va vn vc):=by rw[←hX];exact HB0.out.set _
  have b1:=zay HB1'.out k1 (by omega);have b2:=zay HB2'.out k1 (by omega);rw[hX];clear hX;obtain⟨Y,hY⟩: ∃Y,X.setCell ⟨w.heap.size+1,0,none⟩ (.int .i64 0)=Y:=⟨_,rfl⟩;have k2:zbu (fun k=>k=w.heap.size+1) X Y:=by rw[←hY];exact(zbu.refl (fun k=>k=w.heap.size+1) X).setCell (p:=⟨w.heap.size+1,0,none⟩) (.inl rfl) _
  have d1:Boxed Y (w.heap.size+1) 3 (.int .i64 0):=by rw[←hY];exact b1.set _
  have d0:=zay b0 k2 (by omega);have d2:=zay b2 k2 (by omega);rw[hY];clear hY;obtain⟨Z,hZ⟩: ∃Z,Y.setCell ⟨w.heap.size+1+1,0,none⟩ (.int .i64 0)=Z:=⟨_,rfl⟩;have k3:zbu (fun k=>k=w.heap.size+1+1) Y Z:=by rw[←hZ];exact(zbu.refl (fun k=>k=w.heap.size+1+1) Y).setCell (p:=⟨w.heap.size+1+1,0,none⟩) (.inl rfl) _
  have e2:Boxed Z (w.heap.size+1+1) 39 (.int .i64 0):=by rw[←hZ];exact d2.set _
  have e0:=zay d0 k3 (by omega);have e1:=zay d1 k3 (by omega);rw[hZ];clear hZ;have hk4:zbu (fun k=>w.heap.size≤k∧k<w.heap.size+3) W Z:=((k1.mono (fun i hi=>by omega)).trans (k2.mono (fun i hi=>by omega))).trans (k3.mono (fun i hi=>by omega));have hDl:=(zau HK.out);have hkD:Z.heap[D]? =some (.deferred (some [])):=(hk4.block D hDl (fun h=>by omega)).trans HK.out;obtain⟨q0,q1,q2,qb⟩:=zgn (o':= .deferred none) e0 e1 e2 (show w.heap.size+1+1<D by omega);have hoZ:Z.ownsRow wL.heap.size 220 3 (.slice va vn vc) xs.length (zfk (xs.map (·.1))):=zhR HO.out hk4 (fun g hg=>by omega);have hoF:=zlO (base':=w.heap.size) (ownsRow_putObj hoZ (.deferred none) hkD rfl) (by omega);refine⟨by simp,.inl ⟨_,_,rfl,run_takeDeferred hkD,?_⟩⟩;refine⟨_,(by simp only[results,Tryz.results220];simp[go_sem,q0,q1,q2];rfl),?_⟩;refine⟨.slice va vn vc,by rw[HR.out];rfl,?_,fun h=> ?_,HBl.out.trans ((hk4.below (by omega) (fun i hi=>by omega)).trans qb)⟩
  ·rw[HR.out];simpa using hoF
  ·rw[HR.out] at h;exact HNil.out (by simpa using h)
 case stop=>
  rintro D c pre W hD hSp hX hk;obtain⟨rfl,⟨pre',x,rfl,hx,e0,e1,e2⟩,hb,hbig⟩:=hX;have HR:=zaa (zlh src hl hSp hx);obtain⟨q0,q1,q2,qb⟩:=zgn (o':= .deferred none) e0 e1 e2 (show w.heap.size+1+1<D by omega);have HQ0:=zaa q0;have HQ1:=zaa q1;have HQ2:=zaa q2;clear q0 q1 q2 e0 e1 e2
  gi_wp2
  refine⟨by simp,.inl ⟨_,_,rfl,run_takeDeferred hk,?_⟩⟩;have q0:=HQ0.out;have q1:=HQ1.out;have q2:=HQ2.out;refine⟨_,(by simp only[results,Tryz.results220];simp[go_sem,q0,q1,q2];rfl),?_⟩;refine⟨.slice none 0 0,by rw[HR.out],?_,fun h=>rfl,hb.trans qb⟩;rw[HR.out];exact⟨rfl,.inl ⟨rfl,rfl⟩⟩
theorem zmK (src:ByteArray) (w:World) (hE:Env w):Calls prog 220 #[.string src] w (zoJ w src):=by
 by_cases hl:src.size≤65536
 ·exact zlN src w hl (zaa hE)
 ·exact zlY src w (by omega)
attribute [local go_sem] zaj.cell
def zaD (s:List UInt8):Bool:=match zgO s with
 |([t],_,0)=>t.kind==1&&t.text==s
 |_=>false
theorem zbX (s:ByteArray) (W:World) (hE:Hid (Env W)):
 Calls prog 162 #[.string s] W fun e w'=>e= .returned (.bool (zaD s.data.toList))∧Below W.heap.size W w':=by
 have hl:=zmK s W hE.out;unfold zoJ at hl;have hF:zaD s.data.toList=(match zgO s.data.toList with|([t],_,0)=>t.kind==1&&t.text==s.data.toList|_=>false):=rfl;generalize zgO s.data.toList=x at *;obtain⟨ts,p,er⟩:=x;dsimp only at hl;have HL:=zaa hl;have HF:=zaa hF;clear hl hF;generalize zaD s.data.toList=z at *;by_cases h0:er=0
 rotate_left
 ·have e1:((er:Int)==0)=false:=by simp;omega
  have hz:z=false:=by
   rw[HF.out]
   split
   ·rename_i h;injection h with _ h;injection h with _ h;omega
   ·rfl
  subst hz;clear h0 HF
  go_enter func162,ntmps162
  go_wp2_with fail;refine HL.out.mono ?_;rintro e w1 ⟨v,rfl,ho, -,hb⟩;obtain⟨A,c,rfl, -⟩:=zff (ts:=ts.map Tok.toZ) ho (by simp);have HB:=zaa hb;clear hb ho HL;go_wp2_with fail;go_ret;exact⟨rfl,HB.out⟩
 subst h0
 match ts,HL,HF with
 |[],HL,HF=>
  have hz:z=false:=HF.out;subst hz;clear HF
  go_enter func162,ntmps162
  go_wp2_with fail;refine HL.out.mono ?_;rintro e w1 ⟨v,rfl,ho,h2,hb⟩;obtain rfl:=h2 trivial;have HB:=zaa hb;clear hb ho HL h2;go_wp2_with fail;go_ret;exact⟨rfl,HB.out⟩
 |t::t2::r,HL,HF=>
  have hz:z=false:=HF.out;subst hz;have e1:(((t::t2::r).length:Int)==1)=false:=by simp;omega
  generalize hm:(t::t2::r).length=m at *;clear HF
  go_enter func162,ntmps162
  go_wp2_with fail;refine HL.out.mono ?_;rintro e w1 ⟨v,rfl,ho, -,hb⟩;obtain⟨A,c,rfl, -⟩:=zff (ts:=(t::t2::r).map Tok.toZ) ho (by simpa using hm);have HB:=zaa hb;clear hb ho HL hm;go_wp2_with fail;go_ret;exact⟨rfl,HB.out⟩
 |[t],HL,HF=>
  have hz:z=(t.kind==1&&t.text==s.data.toList):=HF.out;clear HF;have hs:s=⟨s.data.toList.toArray⟩:=by simp
  generalize s.data.toList=y at *;subst hs;obtain⟨tk,tx,ta⟩:=t;dsimp only at hz;have hc:(((tk:Int)==1)=true∧(tk==1)=true∨((tk:Int)==1)=false∧(tk==1)=false)∧((tx==y)=true∨(tx==y)=false):=by
   constructor
   ·simp;omega
   ·cases tx==y<;>simp
  rcases hc with⟨⟨k1,k2⟩|⟨k1,k2⟩,k3|k3⟩
  all_goals
   rw[k2,k3] at hz;have hz:=hz.trans rfl;subst hz;clear k2
   go_enter func162,ntmps162
   go_wp2_with fail;refine HL.out.mono ?_;rintro e w1 ⟨v,rfl,ho, -,hb⟩;obtain⟨A,c,rfl,hT⟩:=zff (ts:=[Tok.toZ ⟨tk,tx,ta⟩]) ho rfl;have HB:=zaa hb;rcases hT with hT|⟨b,off,rfl,hlt,hc⟩
   ·cases hT
   obtain⟨c0,c1, -⟩:=hc 0 _ rfl;simp only[Tok.toZ,Nat.zero_mul,Nat.add_zero] at c0 c1;clear hb ho HL hc;go_wp2_with fail;go_ret;exact⟨rfl,HB.out⟩
def wordsF (l:List (List UInt8)):Bool:=l.all zaD
theorem zjQ (v:Value) (l:List (List UInt8)) (W:World) (hv:Hid (DAt W (fun _=>True) v (.row 1 (zao l)))) (hl:l.length≤140737488355328) (hE:Hid (Env W)):
 Calls prog 271 #[v,.func (.func 233) #[] #[]] W fun e w'=> ∃r:Int,e= .returned (.int .i64 r)∧(r<0∧l.all zaD=true∨0≤r∧l.all zaD=false)∧Below W.heap.size W w':=by
 obtain⟨A,c,rfl,hA⟩:=hv.out.slice;have HA:=zaa hA;clear hA hv;unfold zao at *;rw[List.length_map];have _:=hl
 go_enter func271,ntmps271
 go_wp2_with fail
 go_loopw [8] (fun v8 wr=> ∃k:Nat,k≤l.length∧v8= .int .i64 k∧(l.take k).all zaD=true∧Below W.heap.size W wr) (fun v8 _=>l.length-(intOf v8).toNat)
 case atStart=>exact⟨0,by omega,rfl,by simp,Below.refl _ _⟩
 case round=>
  obtain⟨k,hk,rfl,ht,hbr⟩:=hrel;have HT:=zaa ht;have HBR:=zaa hbr;clear ht;by_cases hlt:k<l.length
  rotate_left
  ·obtain rfl:k=l.length:=by omega
   rw[List.take_length] at HT;clear hbr hlt;go_wp2_with fail;go_ret;exact⟨_,rfl,.inl ⟨by decide,HT.out⟩,HBR.out⟩
  obtain⟨x,hx⟩:=zbE hlt;obtain⟨b,off,rfl,hb,hca⟩:=HA.out.at_ hx;have c0:=(hca 0 _ rfl).leafc;clear hca;have c0:=zad HBR.out hb (off+k) (by simpa using c0);have k0:=kbZ k l.length;have HX:=zaa hx;clear hx hbr;have HC:=zaa (fun V (h:Hid (Env V))=>zbX ⟨x.toArray⟩ V h);simp only at HC
  cases hp:zaD x with
  |true=>
   have HTK:=zaa (zaK HT.out HX.out hp);rw[hp] at HC;go_wp2_with(first|(go_at_call 233;go_in))
   refine(HC.out _ (zaa (hE.out.kept HBR.out))).mono ?_;rintro e w3 ⟨rfl,hb3⟩;have HB3:=zaa (btZ HBR.out hb3);clear hb3 HC;go_wp2_with fail;go_roundw
   case rel=>exact⟨k+1,by omega,by go_num,HTK.out,HB3.out⟩
   case measure=>simp[intOf];omega
  |false=>
   have HNO:=zaa (zaH HX.out hp);rw[hp] at HC;go_wp2_with(first|(go_at_call 233;go_in))
   refine(HC.out _ (zaa (hE.out.kept HBR.out))).mono ?_;rintro e w3 ⟨rfl,hb3⟩;have HB3:=zaa (btZ HBR.out hb3);clear hb3 HC;go_wp2_with fail;go_ret;exact⟨_,rfl,.inr ⟨by omega,by first|exact HNO.out|simpa using HNO.out⟩,HB3.out⟩
theorem zeq (v:Value) (l:List (List UInt8)) (W:World) (hv:Hid (DAt W (fun _=>True) v (.row 1 (zao l)))) (hl:l.length≤140737488355328) (hE:Hid (Env W)):
 Calls prog 172 #[v] W fun e w'=>e= .returned (.bool (l.all zaD))∧Below W.heap.size W w':=by
 have HI:=zaa (zjQ v l W hv hl hE)
 go_enter func172,ntmps172
 go_wp2_with(first|(go_at_call 232;go_in))
 refine HI.out.mono ?_;rintro e w2 ⟨r,rfl,hr,hb⟩;have HB2:=zaa hb;have HR:=zaa (show l.all zaD= !decide (0≤r) by rcases hr with⟨h1,h2⟩|⟨h1,h2⟩<;>simp[h2]<;>omega);clear hb hr HI;go_wp2_with fail;go_ret;exact⟨by rw[HR.out];rfl,HB2.out⟩
end Go.Proofs.YtgbfaompondolaaGreatDoor
