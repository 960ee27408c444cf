/- Merged texts of the walks and of the plain laws on which the statement leans.-/
import Derived.Test.YtlngbjphagnloaaGreatDoorProg
import Derived.WalkKit
import Derived.WalkSpells
import Derived.WalkLawsBesides
import Derived.Handy
import Derived.BigQuiet
import Derived.Deep.QuietTactic
import Derived.Laws.Rows
import Derived.OrdersHeld
import Derived.StillTail
import Derived.RegionTactic
import Derived.Deep.RegionHeld3
import Derived.Deep.MidRow
import Derived.Deep.Draws
import Derived.Lib.Hide
import Derived.Deep.Quiet
import Derived.Conc.MuLone
set_option maxHeartbeats 1000000
set_option maxRecDepth 100000
namespace Go.Proofs.YtlngbjphagnloaaGreatDoor
open Tryz
open Go.RowKit
theorem zaa {p:Prop} (h:p):Hid p:=h
theorem zap {a b:Bool} (h:a=b):Ending.returned (.bool a)= .returned (.bool b):=by rw[h]
theorem zpx {k:IntKind} {a b:Int} (h:a=b):Ending.returned (.int k a)= .returned (.int k b):=by rw[h]
theorem zdz {W w1:World} (hb:Below W.heap.size W w1):(∀b o,b<W.heap.size→w1.cell? ⟨b,o,none⟩=W.cell? ⟨b,o,none⟩)∧(∀b o,b<W.heap.size→w1.frozen? ⟨b,o,none⟩=W.frozen? ⟨b,o,none⟩):=
 ⟨fun b o h=>hb.cell (p:=⟨b,o,none⟩) h,fun b o h=>hb.frozen (p:=⟨b,o,none⟩) h⟩
theorem zal {α:Type _} {xs:Array α} {i:Nat} {a:α} (h:xs[i]? =some a):i<xs.size:=by obtain⟨p,_⟩:=Array.getElem?_eq_some_iff.1 h;exact p
theorem zhG {α:Type _} {l:List α} {k:Nat} (h:k<l.length): ∃x,l[k]? =some x:=⟨_,List.getElem?_eq_getElem h⟩
theorem kbZ (k n:Nat) (h:k<n:=by omega):(0:Int)≤(k:Int)∧(k:Int)<((n:Nat):Int):=by omega
theorem smZ (n:Nat) (h:n≤9223372036854775807:=by omega): ¬9223372036854775807<n:=by omega
theorem zlW {B b o:Nat} {w w':World} {v:Value} (h:Below B w w') (hb:b<B) (a:w.cell? ⟨b,o,none⟩=some v):w'.cell? ⟨b,o,none⟩=some v:=Eq.trans (h.cell (p:=⟨b,o,none⟩) hb) a
theorem bczZ {B b o:Nat} {w w':World} {v:Value} (h:Below B w w') (hb:b<B) (a:w.cell? ⟨b,o+0,none⟩=some v):w'.cell? ⟨b,o,none⟩=some v:=Eq.trans (h.cell (p:=⟨b,o,none⟩) hb) a
theorem bcoZ {B b:Nat} {w w':World} {v:Value} (h:Below B w w') (hb:b<B) (o:Nat) (a:w.cell? ⟨b,o,none⟩=some v):w'.cell? ⟨b,o,none⟩=some v:=Eq.trans (h.cell (p:=⟨b,o,none⟩) hb) a
theorem btZ {W w1 w2:World} (h:Below W.heap.size W w1) (k:Below w1.heap.size w1 w2):Below W.heap.size W w2:=h.trans (k.mono h.size)
theorem bkZ {b:Nat} {w w':World} {o:Obj} (k:Below w.heap.size w w') (h:w.heap[b]? =some o):w'.heap[b]? =some o:=(k.block _ (zal h)).trans h
theorem pf3Z {w:World} {b:Nat} {cs:Array Value} {t:TypeId} {u0 u1 u2:Value} {us:List Value} (h:w.heap[b]? =some (.cells cs t (0,0))) (e:cs.toList=u0::u1::u2::us):w.cell? ⟨b,0,none⟩=some u0∧w.cell? ⟨b,1,none⟩=some u1∧w.cell? ⟨b,2,none⟩=some u2:=by and_intros<;>(rw[cell_of_row _ _ _ _ _ _ h,←Array.getElem?_toList,e];rfl)
theorem pf4Z {w:World} {b:Nat} {cs:Array Value} {t:TypeId} {u0 u1 u2 u3:Value} {us:List Value} (h:w.heap[b]? =some (.cells cs t (0,0))) (e:cs.toList=u0::u1::u2::u3::us):w.cell? ⟨b,0,none⟩=some u0∧w.cell? ⟨b,1,none⟩=some u1∧w.cell? ⟨b,2,none⟩=some u2∧w.cell? ⟨b,3,none⟩=some u3:=by and_intros<;>(rw[cell_of_row _ _ _ _ _ _ h,←Array.getElem?_toList,e];rfl)
theorem pf5Z {w:World} {b:Nat} {cs:Array Value} {t:TypeId} {u0 u1 u2 u3 u4:Value} {us:List Value} (h:w.heap[b]? =some (.cells cs t (0,0))) (e:cs.toList=u0::u1::u2::u3::u4::us):w.cell? ⟨b,0,none⟩=some u0∧w.cell? ⟨b,1,none⟩=some u1∧w.cell? ⟨b,2,none⟩=some u2∧w.cell? ⟨b,3,none⟩=some u3∧w.cell? ⟨b,4,none⟩=some u4:=by and_intros<;>(rw[cell_of_row _ _ _ _ _ _ h,←Array.getElem?_toList,e];rfl)
theorem pf6Z {w:World} {b:Nat} {cs:Array Value} {t:TypeId} {u0 u1 u2 u3 u4 u5:Value} {us:List Value} (h:w.heap[b]? =some (.cells cs t (0,0))) (e:cs.toList=u0::u1::u2::u3::u4::u5::us):w.cell? ⟨b,0,none⟩=some u0∧w.cell? ⟨b,1,none⟩=some u1∧w.cell? ⟨b,2,none⟩=some u2∧w.cell? ⟨b,3,none⟩=some u3∧w.cell? ⟨b,4,none⟩=some u4∧w.cell? ⟨b,5,none⟩=some u5:=by and_intros<;>(rw[cell_of_row _ _ _ _ _ _ h,←Array.getElem?_toList,e];rfl)
theorem pf7Z {w:World} {b:Nat} {cs:Array Value} {t:TypeId} {u0 u1 u2 u3 u4 u5 u6:Value} {us:List Value} (h:w.heap[b]? =some (.cells cs t (0,0))) (e:cs.toList=u0::u1::u2::u3::u4::u5::u6::us):w.cell? ⟨b,0,none⟩=some u0∧w.cell? ⟨b,1,none⟩=some u1∧w.cell? ⟨b,2,none⟩=some u2∧w.cell? ⟨b,3,none⟩=some u3∧w.cell? ⟨b,4,none⟩=some u4∧w.cell? ⟨b,5,none⟩=some u5∧w.cell? ⟨b,6,none⟩=some u6:=by and_intros<;>(rw[cell_of_row _ _ _ _ _ _ h,←Array.getElem?_toList,e];rfl)
theorem pf8Z {w:World} {b:Nat} {cs:Array Value} {t:TypeId} {u0 u1 u2 u3 u4 u5 u6 u7:Value} {us:List Value} (h:w.heap[b]? =some (.cells cs t (0,0))) (e:cs.toList=u0::u1::u2::u3::u4::u5::u6::u7::us):w.cell? ⟨b,0,none⟩=some u0∧w.cell? ⟨b,1,none⟩=some u1∧w.cell? ⟨b,2,none⟩=some u2∧w.cell? ⟨b,3,none⟩=some u3∧w.cell? ⟨b,4,none⟩=some u4∧w.cell? ⟨b,5,none⟩=some u5∧w.cell? ⟨b,6,none⟩=some u6∧w.cell? ⟨b,7,none⟩=some u7:=by and_intros<;>(rw[cell_of_row _ _ _ _ _ _ h,←Array.getElem?_toList,e];rfl)
theorem pf9Z {w:World} {b:Nat} {cs:Array Value} {t:TypeId} {u0 u1 u2 u3 u4 u5 u6 u7 u8:Value} {us:List Value} (h:w.heap[b]? =some (.cells cs t (0,0))) (e:cs.toList=u0::u1::u2::u3::u4::u5::u6::u7::u8::us):w.cell? ⟨b,0,none⟩=some u0∧w.cell? ⟨b,1,none⟩=some u1∧w.cell? ⟨b,2,none⟩=some u2∧w.cell? ⟨b,3,none⟩=some u3∧w.cell? ⟨b,4,none⟩=some u4∧w.cell? ⟨b,5,none⟩=some u5∧w.cell? ⟨b,6,none⟩=some u6∧w.cell? ⟨b,7,none⟩=some u7∧w.cell? ⟨b,8,none⟩=some u8:=by and_intros<;>(rw[cell_of_row _ _ _ _ _ _ h,←Array.getElem?_toList,e];rfl)
theorem pf10Z {w:World} {b:Nat} {cs:Array Value} {t:TypeId} {u0 u1 u2 u3 u4 u5 u6 u7 u8 u9:Value} {us:List Value} (h:w.heap[b]? =some (.cells cs t (0,0))) (e:cs.toList=u0::u1::u2::u3::u4::u5::u6::u7::u8::u9::us):w.cell? ⟨b,0,none⟩=some u0∧w.cell? ⟨b,1,none⟩=some u1∧w.cell? ⟨b,2,none⟩=some u2∧w.cell? ⟨b,3,none⟩=some u3∧w.cell? ⟨b,4,none⟩=some u4∧w.cell? ⟨b,5,none⟩=some u5∧w.cell? ⟨b,6,none⟩=some u6∧w.cell? ⟨b,7,none⟩=some u7∧w.cell? ⟨b,8,none⟩=some u8∧w.cell? ⟨b,9,none⟩=some u9:=by and_intros<;>(rw[cell_of_row _ _ _ _ _ _ h,←Array.getElem?_toList,e];rfl)
section
variable {P:Program} {ops:Array Oper} {md:Region.Mode} {Q:Exit→Act→World→Prop} {S:World→Prop}
def zcl (P:Program) (md:Region.Mode) (ops:Array Oper) (Q:Exit→Act→World→Prop) (S:World→Prop) (n:Nat) (L:Array Bool→Act→World→Prop):Nat→Array Bool→Act→World→Prop
 |0,listed,a,w=>L listed a w
 |f+1,listed,a,w=>Region.ready md ops listed≠[]∧ ∀i∈Region.ready md ops listed,i<n∧wpOp P ops Q i (fun a' w'=>S w'∧zcl P md ops Q S n L f (listed.setIfInBounds i true) a' w') a w
theorem zgf {n g:Nat} {L:Array Bool→Act→World→Prop} (hL: ∀listed a w,L listed a w→wpAny P md ops Q g listed a w):
 ∀(f:Nat) (listed:Array Bool) (a:Act) (w:World),zcl P md ops Q S n L f listed a w→wpAny P md ops Q (f+g) listed a w
 |0,listed,a,w,h=>by rw[Nat.zero_add];exact hL _ _ _ h
 |f+1,listed,a,w,h=>by
  rw[show f+1+g=(f+g)+1 by omega];exact⟨fun h0=>absurd h0 h.1,fun i hi=>wpOp_mono (fun a' w' h'=>zgf hL f _ a' w' h'.2) (h.2 i hi).2⟩
def zjm (md:Region.Mode) (ops:Array Oper) (n:Nat) (listed:Array Bool):Bool:=
 listed.size==ops.size&&(List.range ops.size).all (fun j=> !listed.getD j false||((ops[j]?).map (·.after.all fun e=> !Region.binds md e||listed.getD e.on false)).getD true)&&(List.range ops.size).all (fun t=>decide (t<n)|| !listed.getD t true)
theorem zjv {n:Nat} {listed:Array Bool} (h:zjm md ops n listed=true):HeadInv md ops n listed:=by
 unfold zjm at h;simp only[Bool.and_eq_true,beq_iff_eq] at h;obtain⟨⟨h1,h2⟩,h3⟩:=h;refine⟨h1,fun j oj hj hl e he hb=> ?_,fun t ht ht'=> ?_⟩
 ·have hlt:j<ops.size:=(zal hj)
  have:=List.all_eq_true.1 h2 j (List.mem_range.2 hlt);rw[hj,hl] at this;simp only[Bool.not_true,Bool.false_or,Option.map_some,Option.getD_some] at this;have:=(Array.all_eq_true_iff_forall_mem).1 this e he
  simpa [hb] using this
 ·have:=List.all_eq_true.1 h3 t (List.mem_range.2 ht')
  have h4:decide (t<n)=false:=by simpa using ht
  rw[h4] at this
  simpa using this
theorem zhz {n i:Nat} {oi:Oper} {v:Value} {L:Array Bool→Act→World→Prop} (hi:ops[i]? =some oi) (hsel: ∀(j:Nat) (o:Oper) cs b,ops[j]? =some o→o.op≠ .select cs b)
 (hs:Region.sinkB md ops n=true) (hc:Region.chainB md ops n=true) (hn:n<ops.size) (hin:i<n)
 (hQ: ∀c a w,Q (.panic c) (a.put oi.dst v) w→Q (.panic c) a w)
 (hdone: ∀listed a w,L listed a w→ ∀j∈Region.ready md ops listed,n≤j):
 ∀(f:Nat) (listed:Array Bool) (a:Act) (w:World),HeadInv md ops n listed→
  (∀j oj,ops[j]? =some oj→j≠i→listed.getD j true=false→(∀e∈oj.after,Region.binds md e=true→e.on≠i)→oi.apart ops oj=true)→
  i∈Region.ready md ops listed→YieldsIf P ops S oi v a→S w→
  zcl P md ops Q S n L f (listed.setIfInBounds i true) (a.put oi.dst v) w→zcl P md ops Q S n L (f+1) listed a w:=by
 intro f
 induction f with
 |zero=>
  intro listed a w inv _ hr hy hS H;have hun:=(mem_ready.1 hr).1;refine⟨fun h=>(by rw[h] at hr;cases hr),fun j hj=> ?_⟩;have hjn:j<n:=by
   rcases Nat.lt_or_ge j n with h|h
   ·exact h
   ·exact absurd hj (tail_waits hs hc hn inv _ i rfl hin hun j h)
  refine⟨hjn,?_⟩;by_cases hji:j=i
  ·subst hji;exact hy.wpOp hi hS ⟨hS,H⟩
  ·have:=hdone _ _ _ H j (ready_mono hj hji)
   omega
 |succ f ih=>
  intro listed a w inv hfree hr hy hS H;have hun:=(mem_ready.1 hr).1;refine⟨fun h=>(by rw[h] at hr;cases hr),fun j hj=> ?_⟩;have hjn:j<n:=by
   rcases Nat.lt_or_ge j n with h|h
   ·exact h
   ·exact absurd hj (tail_waits hs hc hn inv _ i rfl hin hun j h)
  refine⟨hjn,?_⟩;by_cases hji:j=i
  ·subst hji;exact hy.wpOp hi hS ⟨hS,H⟩
  ·have h1:=(H.2 j (ready_mono hj hji)).2
   obtain⟨hjun,oj,hoj,hall⟩:=mem_ready.1 hj;have hnot: ∀e∈oj.after,Region.binds md e=true→e.on≠i:=fun e he hb heq=>by
    have h1:=hall e he hb;rw[heq,getD_both hun] at h1
    cases h1
   have h2:=wpOp_putIf hoj (hfree j oj hoj hji hjun hnot) (fun cs b=>hsel i oi cs b hi) (fun cs b=>hsel j oj cs b hoj) hQ hy h1;have hfree': ∀k ok,ops[k]? =some ok→k≠i→(listed.setIfInBounds j true).getD k true=false→
    (∀e∈ok.after,Region.binds md e=true→e.on≠i)→oi.apart ops ok=true:=fun k ok hk hki hun hno=>by
    refine hfree k ok hk hki ?_ hno;by_cases hjk:j=k
    ·subst hjk;exact hjun
    ·rw[getD_set_ne true hjk] at hun;exact hun
   refine wpOp_mono (fun a' w' h3=>⟨h3.2.1,ih (listed.setIfInBounds j true) a' w' (inv.set hj hjn) hfree' (ready_mono hr (Ne.symm hji)) h3.1 h3.2.1 ?_⟩) h2;rw[Array.setIfInBounds_comm _ _ hji];exact h3.2.2
def zdd (P:Program) (ops:Array Oper) (Q:Exit→Act→World→Prop) (n:Nat) (listed:Array Bool) (a:Act) (w:World):Prop:=
 Region.seqB .any ops (ops.size-n) n listed=true∧wpList P ops Q (ops.toList.drop n) a w
theorem zdd.any {n:Nat} {listed:Array Bool} {a:Act} {w:World} (h:zdd P ops Q n listed a w):wpAny P .any ops Q (ops.size-n) listed a w:=by
 have hdl:(ops.toList.drop n).length=ops.size-n:=by simp
 have:=wpAny_of_seq (md:= .any) (Q':=Q) (ops.toList.drop n) n listed a w (fun j=>by simp[List.getElem?_drop]) (by rw[hdl];exact h.1) h.2
 rwa[hdl] at this
theorem zdd.done {n:Nat}: ∀listed a w,zdd P ops Q n listed a w→ ∀j∈Region.ready .any ops listed,n≤j:=fun _ _ _ h=>seqB_ready h.1
theorem zad {id:Nat} {a:Act} {w:World} (n:Nat) (hm:P.follows .mixedOrders=true) (hn:decide (n≤ops.size)=true) (hS:S w.drew)
 (h:S w.drew→zcl P .any ops Q S n (zdd P ops Q n) n (Array.replicate ops.size false) a w.drew):(Code.region id ops true).wp P Q a w:=by
 refine wp_region_any hm ?_;have hn':=of_decide_eq_true hn;have:=zgf (fun _ _ _ h=>zdd.any h) _ _ _ _ (h hS);rw[show n+(ops.size-n)=ops.size by omega] at this;exact this
theorem zaH {n i:Nat} {oi:Oper} {v:Value} {fuel:Nat} {listed:Array Bool} {a:Act} {w:World} (hi:ops[i]? =some oi)
 (hB:(Region.noSelect ops&&Region.sinkB .any ops n&&Region.chainB .any ops n&&decide (n<ops.size)&&decide (i<n)&&zjm .any ops n listed&&Region.free .any ops listed i&&(Region.ready .any ops listed).contains i)=true)
 (hQ: ∀c a w,Q (.panic c) (a.put oi.dst v) w→Q (.panic c) a w) (hy:YieldsIf P ops S oi v a) (hS:S w)
 (h:zcl P .any ops Q S n (zdd P ops Q n) fuel (listed.setIfInBounds i true) (a.put oi.dst v) w):zcl P .any ops Q S n (zdd P ops Q n) (fuel+1) listed a w:=by
 simp only[Bool.and_eq_true,decide_eq_true_eq] at hB;obtain⟨⟨⟨⟨⟨⟨⟨h1,h2⟩,h3⟩,h4⟩,h5⟩,h6⟩,h7⟩,h8⟩:=hB;exact zhz hi (Region.noSelect_spec h1) h2 h3 h4 h5 hQ zdd.done fuel listed a w (zjv h6) (Region.free_spec hi h7) (by simpa using h8) hy hS h
def zau (P:Program) (ops:Array Oper) (Q:Exit→Act→World→Prop) (S:World→Prop) (n fuel:Nat) (listed:Array Bool) (a:Act) (w:World) (rs:List Nat):Prop:=
 ∀i∈rs,wpOp P ops Q i (fun a' w'=>S w'∧zcl P .any ops Q S n (zdd P ops Q n) fuel (listed.setIfInBounds i true) a' w') a w
theorem zau.nil {n fuel:Nat} {listed:Array Bool} {a:Act} {w:World}:zau P ops Q S n fuel listed a w []:=fun _ h=>by cases h
theorem zau.cons {n fuel:Nat} {listed:Array Bool} {a:Act} {w:World} {i:Nat} {o:Oper} {rs:List Nat} (ho:ops[i]? =some o)
 (h: ∀K':Act→World→Prop,Shut (∀a w,S w→(S w→zcl P .any ops Q S n (zdd P ops Q n) fuel (listed.setIfInBounds i true) a w)→K' a w)→if Region.wanted o (yielded ops a.tmps)=true then Oper.wp P o a w K' Q else K' (a.put o.dst undef) w)
 (hs:zau P ops Q S n fuel listed a w rs):zau P ops Q S n fuel listed a w (i::rs):=fun j hj=>by
 rcases List.mem_cons.1 hj with rfl|hj
 ·exact wpOp_step ho (fun K' hK=>h K' (fun a w hS hW=>hK a w ⟨hS,hW hS⟩))
 ·exact hs j hj
theorem zhn {n:Nat} {rs:List Nat} {fuel:Nat} {listed:Array Bool} {a:Act} {w:World} (hr:Region.ready .any ops listed=rs) (hne:rs≠[]) (hlt:(rs.all fun i=>decide (i<n))=true)
 (h:zau P ops Q S n fuel listed a w rs):zcl P .any ops Q S n (zdd P ops Q n) (fuel+1) listed a w:=
 ⟨by rw[hr];exact hne,fun i hi=>by rw[hr] at hi;exact⟨of_decide_eq_true (List.all_eq_true.1 hlt i hi),h i hi⟩⟩
theorem zae {n:Nat} {listed:Array Bool} {a:Act} {w:World} (hB:Region.seqB .any ops (ops.size-n) n listed=true) (h:wpList P ops Q (ops.toList.drop n) a w):zcl P .any ops Q S n (zdd P ops Q n) 0 listed a w:=⟨hB,h⟩
end
section
variable {P:Program} {ops:Array Oper} {Q:Exit→Act→World→Prop} {S:World→Prop}
theorem putA {α:Type _} {l:List α} {i:Nat} {a:α}:l.toArray.setIfInBounds i a=(l.set i a).toArray:=List.setIfInBounds_toArray ..
theorem putB {α:Type _} {x a:α} {xs:List α}:(x::xs).set 0 a=a::xs:=List.set_cons_zero
theorem putC {α:Type _} {x a:α} {xs:List α} {n:Nat}:(x::xs).set (n+1) a=x::xs.set n a:=List.set_cons_succ
theorem tk (i d:Nat) {op:Op} {ty:TypeId} {pos:String} {after:Array Edge} {guard:Option (Nat×Bool)} {n:Nat} {v:Value} {fuel:Nat} {listed:Array Bool} {a:Act} {w:World} (hi:ops[i]? =some ⟨some d,op,ty,pos,after,guard⟩)
 (hB:(Region.noSelect ops&&Region.sinkB .any ops n&&Region.chainB .any ops n&&decide (n<ops.size)&&decide (i<n)&&zjm .any ops n listed&&Region.free .any ops listed i&&(Region.ready .any ops listed).contains i)=true)
 (hQ: ∀c a w,Q (.panic c) (a.put (some d) v) w→Q (.panic c) a w) (hw:Region.wanted ⟨some d,op,ty,pos,after,guard⟩ (yielded ops a.tmps)=true) (hy: ∀w,S w→(execOp a.eval ⟨some d,op,ty,pos,after,guard⟩).run P w= .ok (.value v) w) (hS:S w)
 (h:zcl P .any ops Q S n (zdd P ops Q n) fuel (listed.setIfInBounds i true) (a.put (some d) v) w):zcl P .any ops Q S n (zdd P ops Q n) (fuel+1) listed a w:=
 zaH hi hB hQ (.inl ⟨hw,hy⟩) hS h
theorem tq (i d:Nat) {op:Op} {ty:TypeId} {pos:String} {after:Array Edge} {guard:Option (Nat×Bool)} {n:Nat} {v:Value} {fuel:Nat} {listed:Array Bool} {a:Act} {w:World} (hi:ops[i]? =some ⟨some d,op,ty,pos,after,guard⟩) (hS:S w)
 (h:zcl P .any ops Q S n (zdd P ops Q n) fuel (listed.setIfInBounds i true) (a.put (some d) v) w)
 (hB:(Region.noSelect ops&&Region.sinkB .any ops n&&Region.chainB .any ops n&&decide (n<ops.size)&&decide (i<n)&&zjm .any ops n listed&&Region.free .any ops listed i&&(Region.ready .any ops listed).contains i)=true:=by kernel_rfl)
 (hQ: ∀c a w,Q (.panic c) (a.put (some d) v) w→Q (.panic c) a w:=by exact fun _ _ _ h=>h) (hw:Region.wanted ⟨some d,op,ty,pos,after,guard⟩ (yielded ops a.tmps)=true:=by rfl) (hy: ∀w,S w→(execOp a.eval ⟨some d,op,ty,pos,after,guard⟩).run P w= .ok (.value v) w:=by intro _ _;go_simp;with_reducible rfl):zcl P .any ops Q S n (zdd P ops Q n) (fuel+1) listed a w:=
 zaH hi hB hQ (.inl ⟨hw,hy⟩) hS h
theorem tyZ (i d:Nat) {op:Op} {ty:TypeId} {pos:String} {after:Array Edge} {guard:Option (Nat×Bool)} {n:Nat} {v:Value} {fuel:Nat} {listed:Array Bool} {a:Act} {w:World} (hi:ops[i]? =some ⟨some d,op,ty,pos,after,guard⟩) (hS:S w)
 (hy: ∀w,S w→(execOp a.eval ⟨some d,op,ty,pos,after,guard⟩).run P w= .ok (.value v) w)
 (h:zcl P .any ops Q S n (zdd P ops Q n) fuel (listed.setIfInBounds i true) (a.put (some d) v) w)
 (hB:(Region.noSelect ops&&Region.sinkB .any ops n&&Region.chainB .any ops n&&decide (n<ops.size)&&decide (i<n)&&zjm .any ops n listed&&Region.free .any ops listed i&&(Region.ready .any ops listed).contains i)=true:=by kernel_rfl)
 (hQ: ∀c a w,Q (.panic c) (a.put (some d) v) w→Q (.panic c) a w:=by exact fun _ _ _ h=>h) (hw:Region.wanted ⟨some d,op,ty,pos,after,guard⟩ (yielded ops a.tmps)=true:=by rfl):zcl P .any ops Q S n (zdd P ops Q n) (fuel+1) listed a w:=
 zaH hi hB hQ (.inl ⟨hw,hy⟩) hS h
theorem trZ {n:Nat} (rs:List Nat) {fuel:Nat} {listed:Array Bool} {a:Act} {w:World} (h:zau P ops Q S n fuel listed a w rs) (hr:Region.ready .any ops listed=rs:=by kernel_rfl) (hne:rs≠[]:=by simp) (hlt:(rs.all fun i=>decide (i<n))=true:=by rfl):zcl P .any ops Q S n (zdd P ops Q n) (fuel+1) listed a w:=zhn hr hne hlt h
theorem pu:(∀(a:Act) (d:Tmp) (v:Value),a.put (some d) v={a with tmps:=a.tmps.setIfInBounds d v})∧(∀(a:Act) (v:Value),a.put none v=a)∧(∀(l:List Value) (i:Nat) (a:Value),l.toArray.setIfInBounds i a=(l.set i a).toArray)∧(∀(x a:Value) (xs:List Value),(x::xs).set 0 a=a::xs)∧(∀(x a:Value) (xs:List Value) (n:Nat),(x::xs).set (n+1) a=x::xs.set n a):=
 ⟨fun _ _ _=>rfl,fun _ _=>rfl,fun _ _ _=>putA,fun _ _ _=>putB,fun _ _ _ _=>putC⟩
theorem zoT {w:World} {b:Nat} {cs:Array Value} {t:TypeId} {u0 u1 u2:Value} {us:List Value} (h:w.heap[b]? =some (.cells cs t (0,0))) (e:cs.toList=u0::u1::u2::us):
 w.cell? ⟨b,0,none⟩=some u0∧w.cell? ⟨b,1,none⟩=some u1∧w.cell? ⟨b,2,none⟩=some u2∧w.frozen? ⟨b,0,none⟩=false∧w.frozen? ⟨b,1,none⟩=false∧w.frozen? ⟨b,2,none⟩=false:=by and_intros<;>first|exact frozen_of_row _ _ _ _ _ h|(rw[cell_of_row _ _ _ _ _ _ h,←Array.getElem?_toList,e];rfl)
theorem zfk {w:World} {b:Nat} {cs:Array Value} {t:TypeId} {u0 u1 u2 u3:Value} {us:List Value} (h:w.heap[b]? =some (.cells cs t (0,0))) (e:cs.toList=u0::u1::u2::u3::us):
 w.cell? ⟨b,0,none⟩=some u0∧w.cell? ⟨b,1,none⟩=some u1∧w.cell? ⟨b,2,none⟩=some u2∧w.cell? ⟨b,3,none⟩=some u3∧w.frozen? ⟨b,0,none⟩=false∧w.frozen? ⟨b,1,none⟩=false∧w.frozen? ⟨b,2,none⟩=false∧w.frozen? ⟨b,3,none⟩=false:=by and_intros<;>first|exact frozen_of_row _ _ _ _ _ h|(rw[cell_of_row _ _ _ _ _ _ h,←Array.getElem?_toList,e];rfl)
theorem zfy {w:World} {b:Nat} {cs:Array Value} {t:TypeId} {u0 u1 u2 u3 u4:Value} {us:List Value} (h:w.heap[b]? =some (.cells cs t (0,0))) (e:cs.toList=u0::u1::u2::u3::u4::us):
 w.cell? ⟨b,0,none⟩=some u0∧w.cell? ⟨b,1,none⟩=some u1∧w.cell? ⟨b,2,none⟩=some u2∧w.cell? ⟨b,3,none⟩=some u3∧w.cell? ⟨b,4,none⟩=some u4∧w.frozen? ⟨b,0,none⟩=false∧w.frozen? ⟨b,1,none⟩=false∧w.frozen? ⟨b,2,none⟩=false∧w.frozen? ⟨b,3,none⟩=false∧w.frozen? ⟨b,4,none⟩=false:=by and_intros<;>first|exact frozen_of_row _ _ _ _ _ h|(rw[cell_of_row _ _ _ _ _ _ h,←Array.getElem?_toList,e];rfl)
theorem zex {w:World} {b:Nat} {cs:Array Value} {t:TypeId} {u0 u1 u2 u3 u4 u5:Value} {us:List Value} (h:w.heap[b]? =some (.cells cs t (0,0))) (e:cs.toList=u0::u1::u2::u3::u4::u5::us):
 w.cell? ⟨b,0,none⟩=some u0∧w.cell? ⟨b,1,none⟩=some u1∧w.cell? ⟨b,2,none⟩=some u2∧w.cell? ⟨b,3,none⟩=some u3∧w.cell? ⟨b,4,none⟩=some u4∧w.cell? ⟨b,5,none⟩=some u5∧w.frozen? ⟨b,0,none⟩=false∧w.frozen? ⟨b,1,none⟩=false∧w.frozen? ⟨b,2,none⟩=false∧w.frozen? ⟨b,3,none⟩=false∧w.frozen? ⟨b,4,none⟩=false∧w.frozen? ⟨b,5,none⟩=false:=by and_intros<;>first|exact frozen_of_row _ _ _ _ _ h|(rw[cell_of_row _ _ _ _ _ _ h,←Array.getElem?_toList,e];rfl)
theorem zo6 {w:World} {b:Nat} {cs:Array Value} {t:TypeId} {u0 u1 u2 u3 u4 u5 u6:Value} {us:List Value} (h:w.heap[b]? =some (.cells cs t (0,0))) (e:cs.toList=u0::u1::u2::u3::u4::u5::u6::us):
 w.cell? ⟨b,0,none⟩=some u0∧w.cell? ⟨b,1,none⟩=some u1∧w.cell? ⟨b,2,none⟩=some u2∧w.cell? ⟨b,3,none⟩=some u3∧w.cell? ⟨b,4,none⟩=some u4∧w.cell? ⟨b,5,none⟩=some u5∧w.cell? ⟨b,6,none⟩=some u6∧w.frozen? ⟨b,0,none⟩=false∧w.frozen? ⟨b,1,none⟩=false∧w.frozen? ⟨b,2,none⟩=false∧w.frozen? ⟨b,3,none⟩=false∧w.frozen? ⟨b,4,none⟩=false∧w.frozen? ⟨b,5,none⟩=false∧w.frozen? ⟨b,6,none⟩=false:=by and_intros<;>first|exact frozen_of_row _ _ _ _ _ h|(rw[cell_of_row _ _ _ _ _ _ h,←Array.getElem?_toList,e];rfl)
theorem row8 {w:World} {b:Nat} {cs:Array Value} {t:TypeId} {u0 u1 u2 u3 u4 u5 u6 u7:Value} {us:List Value} (h:w.heap[b]? =some (.cells cs t (0,0))) (e:cs.toList=u0::u1::u2::u3::u4::u5::u6::u7::us):
 w.cell? ⟨b,0,none⟩=some u0∧w.cell? ⟨b,1,none⟩=some u1∧w.cell? ⟨b,2,none⟩=some u2∧w.cell? ⟨b,3,none⟩=some u3∧w.cell? ⟨b,4,none⟩=some u4∧w.cell? ⟨b,5,none⟩=some u5∧w.cell? ⟨b,6,none⟩=some u6∧w.cell? ⟨b,7,none⟩=some u7∧w.frozen? ⟨b,0,none⟩=false∧w.frozen? ⟨b,1,none⟩=false∧w.frozen? ⟨b,2,none⟩=false∧w.frozen? ⟨b,3,none⟩=false∧w.frozen? ⟨b,4,none⟩=false∧w.frozen? ⟨b,5,none⟩=false∧w.frozen? ⟨b,6,none⟩=false∧w.frozen? ⟨b,7,none⟩=false:=by and_intros<;>first|exact frozen_of_row _ _ _ _ _ h|(rw[cell_of_row _ _ _ _ _ _ h,←Array.getElem?_toList,e];rfl)
end
structure zam (F:Nat→Prop) (w w':World):Prop where
 os:w'.os=w.os
 tape:w'.tape=w.tape
 output:w'.output=w.output
 size:w.heap.size≤w'.heap.size
 block: ∀k,k<w.heap.size→ ¬F k→w'.heap[k]? =w.heap[k]?
theorem zam.refl (F:Nat→Prop) (w:World):zam F w w:=⟨rfl,rfl,rfl,Nat.le_refl _,fun _ _ _=>rfl⟩
theorem zam.trans {F:Nat→Prop} {a b c:World} (h:zam F a b) (k:zam F b c):zam F a c:=
 ⟨k.os.trans h.os,k.tape.trans h.tape,k.output.trans h.output,Nat.le_trans h.size k.size,fun i hi hf=>(k.block i (Nat.lt_of_lt_of_le hi h.size) hf).trans (h.block i hi hf)⟩
theorem zam.trans2 {F G:Nat→Prop} {a b c:World} (h:zam F a b) (k:zam G b c) (hG: ∀i,i<a.heap.size→G i→F i):zam F a c:=
 ⟨k.os.trans h.os,k.tape.trans h.tape,k.output.trans h.output,Nat.le_trans h.size k.size,fun i hi hf=>(k.block i (Nat.lt_of_lt_of_le hi h.size) (fun hg=>hf (hG i hi hg))).trans (h.block i hi hf)⟩
theorem zam.mono {F G:Nat→Prop} {a b:World} (h:zam F a b) (hG: ∀i,F i→G i):zam G a b:=⟨h.os,h.tape,h.output,h.size,fun i hi hf=>h.block i hi (fun hg=>hf (hG i hg))⟩
theorem zam.of_below {F:Nat→Prop} {a b:World} (h:Below a.heap.size a b):zam F a b:=⟨h.os,h.tape,h.output,h.size,fun i hi _=>h.block i hi⟩
theorem zam.below {F:Nat→Prop} {a b:World} (h:zam F a b) {B:Nat} (hB:B≤a.heap.size) (hF: ∀i,i<B→ ¬F i):Below B a b:=⟨h.os,h.tape,h.output,h.size,fun i hi=>h.block i (Nat.lt_of_lt_of_le hi hB) (hF i hi)⟩
theorem zam.drew {F:Nat→Prop} {a w:World} (h:zam F a w):zam F a w.drew:=⟨h.os,h.tape,h.output,h.size,h.block⟩
theorem zam.drewN {F:Nat→Prop} {a w:World} (h:zam F a w) (n:Nat):zam F a (w.drewN n):=⟨h.os,h.tape,h.output,h.size,h.block⟩
theorem zam.alloc {F:Nat→Prop} {a w:World} (h:zam F a w) (o:Obj):zam F a (w.alloc o):=h.trans (.of_below ((Below.refl _ _).alloc (Nat.le_refl _) o))
theorem zam.setCell {F:Nat→Prop} {a w:World} (h:zam F a w) {p:Addr} (hp:F p.block∨a.heap.size≤p.block) (u:Value):zam F a (w.setCell p u):=
 ⟨h.os,h.tape,h.output,by simpa [World.setCell] using h.size,fun k hk hf=>(Below.heap_setCell _ _ _ _ (by rintro rfl;rcases hp with hp|hp;exact hf hp;omega)).trans (h.block k hk hf)⟩
theorem zam.setCells {F:Nat→Prop} {a:World} (b:Nat) (hp:F b∨a.heap.size≤b): ∀(vs:List Value) (o:Nat) (w:World),zam F a w→zam F a (w.setCells b o vs)
 |[],_,_,h=>h
 |v::r,o,_,h=>zam.setCells b hp r (o+1) _ (h.setCell (p:=⟨b,o,none⟩) hp v)
theorem zam.cell {F:Nat→Prop} {w w':World} (h:zam F w w') {p:Addr} (hp:p.block<w.heap.size) (hf: ¬F p.block):w'.cell? p=w.cell? p:=World.cell?_of_block (w:=w) (h.block p.block hp hf)
theorem zam.frozen {F:Nat→Prop} {w w':World} (h:zam F w w') {p:Addr} (hp:p.block<w.heap.size) (hf: ¬F p.block):w'.frozen? p=w.frozen? p:=World.frozen?_of_block (w:=w) (h.block p.block hp hf)
theorem zbz {w:World} {p:Addr} {u:Value} (h:w.cell? p=some u):p.block<w.heap.size:=World.block_lt_of_cell? w p h
def za2 (b:UInt8):Bool:=(decide (97≤b.toNat)&&decide (b.toNat≤122))||(decide (65≤b.toNat)&&decide (b.toNat≤90))
def zaJ (b:UInt8):Bool:=decide (48≤b.toNat)&&decide (b.toNat≤57)
def zaP (b:UInt8):Bool:=za2 b||zaJ b||b==95
def zeI (b:UInt8):Bool:=b==123||b==125||b==59||b==44||b==46||b==58
def zcu (b:UInt8):Bool:=b==32||b==9||b==10||b==13
def zaC:Bool→List UInt8→Nat
 |_,[]=>0
 |true,b::r=>if b==10 then 1+zaC false r else 1+zaC true r
 |false,b::r=>if zcu b then 1+zaC false r else if b==35 then 1+zaC true r else 0
def zew (b:UInt8):Nat:=b.toNat-48
def zdg (s:List UInt8):Nat:=s.foldl (fun n b=>n*10+zew b) 0
def zd6 (s:List UInt8):Bool:=s.all zaJ&&(match s with
 |[]=>false
 |[_]=>true
 |b::_=>b != 48)&&decide (zdg s≤1073741824)
structure Tok where
 kind:Nat
 text:List UInt8
 at_:Nat
def zcX (r:List UInt8):Nat:=(r.takeWhile zaP).length
def za9:List UInt8→Nat×Nat×Nat
 |[]=>(0,0,70)
 |b::r=>
  if za2 b then(if 24<1+zcX r then(1,1+zcX r,71) else(1,1+zcX r,0))
  else if zaJ b then(if zd6 (b::r.take (zcX r)) then(2,1+zcX r,0) else(2,1+zcX r,72))
  else if zeI b then(3,1,0)
  else(3,0,70)
def zn8:Nat→Nat→List UInt8→List Tok×Nat×Nat
 |0,_,_=>([],0,0)
 |f+1,p,l=>
  match l.drop (zaC false l) with
  |[]=>([],0,0)
  |b::r=>
   let t:=za9 (b::r)
   if t.2.2=0 then
    let q:=zn8 f (p+zaC false l+t.2.1) ((b::r).drop t.2.1)
    (⟨t.1,(b::r).take t.2.1,p+zaC false l⟩::q.1,q.2)
   else([],p+zaC false l,t.2.2)
structure zax (W:World) where
 w:World
 below:Below W.heap.size W w
instance (W:World):Nonempty (zax W):=⟨⟨W,Below.refl _ _⟩⟩
theorem zax.cell {W:World} (s:zax W) (b o:Nat) (h:b<W.heap.size):s.w.cell? ⟨b,o,none⟩=W.cell? ⟨b,o,none⟩:=s.below.cell (p:=⟨b,o,none⟩) h
theorem zax.call {P:Program} {f:FuncId} {args:Array Value} {W:World} {s:zax W} {v:Value}
 (h:Calls P f args s.w fun e w'=>e= .returned v∧Below s.w.heap.size s.w w'):Calls P f args s.w fun e w''=>e= .returned v∧ ∃s':zax W,w''=s'.w:=
 h.mono fun _ w' ⟨he,hb⟩=>⟨he,⟨w',s.below.trans (hb.mono s.below.size)⟩,rfl⟩
theorem zax.call_same {P:Program} {f:FuncId} {args:Array Value} {W:World} {s:zax W} {v:Value}
 (h:Calls P f args s.w fun e w'=>e= .returned v∧s.w=w'):Calls P f args s.w fun e w''=>e= .returned v∧ ∃s':zax W,w''=s'.w:=
 h.mono fun _ _ ⟨he,hb⟩=>⟨he,s,hb.symm⟩
theorem zaq {P:Program} {id:Nat} {Q:Exit→Act→World→Prop} {a:Act} {W:World} {l:List Oper} (hm:P.follows .mixedOrders=true) (hB:Region.lexB .any l.toArray=true)
 (h:wpQuiet P l.toArray (fun w'=> ∃s:zax W,w'=s.w) (fun a'=> ∀w',(∃s:zax W,w'=s.w)→Q .normal a' w') l a):(Code.region id l.toArray true).wp P Q a W:=
 wp_region_quiet (C:=fun w'=> ∃s:zax W,w'=s.w) hm hB ⟨⟨W.drew,(Below.refl _ _).drew⟩,rfl⟩ (by simpa using h)
open Go.MuLone (run_callFunc_enter)
structure IsT (F:Nat→Prop) (w:World) (f:Nat) (caps:Array Value) (p:UInt8→Bool):Prop where
 inn: ∀k,F k→k<w.heap.size
 enters: ∀(args:Array Value) (W:World),(callFunc f args).run prog W= .ok (.enter f args) W
 says: ∀W:World,(∀k,F k→W.heap[k]? =w.heap[k]?)→ ∀b:UInt8,Calls prog f (#[.int .u8 (b.toNat:Int)]++caps) W fun e W'=>e= .returned (.bool (p b))∧Below W.heap.size W W'
theorem IsT.keep {F:Nat→Prop} {w w':World} {f:Nat} {caps:Array Value} {p:UInt8→Bool} (h:IsT F w f caps p) (hs:w.heap.size≤w'.heap.size) (hk: ∀k,F k→w'.heap[k]? =w.heap[k]?):IsT F w' f caps p:=
 ⟨fun k hf=>Nat.lt_of_lt_of_le (h.inn k hf) hs,h.enters,fun W hW b=>h.says W (fun k hf=>(hW k hf).trans (hk k hf)) b⟩
theorem IsT.below {F:Nat→Prop} {w w':World} {f:Nat} {caps:Array Value} {p:UInt8→Bool} (h:IsT F w f caps p) (hb:Below w.heap.size w w'):IsT F w' f caps p:=
 h.keep hb.size (fun k hf=>hb.block k (h.inn k hf))
def zfW (lo hi:Nat) (b:UInt8):Bool:=decide (lo≤b.toNat)&&decide (b.toNat≤hi)
theorem zny (lo hi:Nat) (xl xh:Nat) (b:UInt8) (W:World) (h1:Hid (W.heap[xl]? =some (.cells #[.int .u8 (lo:Int)] 5 (0,0)))) (h2:Hid (W.heap[xh]? =some (.cells #[.int .u8 (hi:Int)] 5 (0,0)))):
 Calls prog 107 #[.int .u8 (b.toNat:Int),.pointer (some ⟨xl,0,none⟩),.pointer (some ⟨xh,0,none⟩)] W fun e W'=>e= .returned (.bool (zfW lo hi b))∧Below W.heap.size W W':=by
 have c1:=cell_of_row W xl 0 _ _ _ h1.out;have c2:=cell_of_row W xh 0 _ _ _ h2.out;simp only[List.getElem?_toArray,List.getElem?_cons_zero] at c1 c2;have HB:Hid (zfW lo hi b=(decide (lo≤b.toNat)&&decide (b.toNat≤hi))):=rfl;generalize b.toNat=n at *;by_cases g1:lo≤n
 ·by_cases g2:n≤hi
  ·have HR:=zaa (show zfW lo hi b=true by rw[HB.out];simp[g1,g2])
   go_enter func107,ntmps107
   go_wp2_with fail;go_ret;exact⟨by rw[HR.out];rfl,Below.refl _ _⟩
  ·have HR:=zaa (show zfW lo hi b=false by rw[HB.out];simp[g2])
   have g2':decide (n≤hi)=false:=by simp;omega
   go_enter func107,ntmps107
   go_wp2_with fail;go_ret;exact⟨by rw[HR.out];rfl,Below.refl _ _⟩
 ·have HR:=zaa (show zfW lo hi b=false by rw[HB.out];simp[g1])
  have g1':decide (lo≤n)=false:=by simp;omega
  go_enter func107,ntmps107
  go_wp2_with fail;go_ret;exact⟨by rw[HR.out];rfl,Below.refl _ _⟩
theorem zin (lo hi:Nat) (w:World):Calls prog 71 #[.int .u8 (lo:Int),.int .u8 (hi:Int)] w fun e w'=> ∃caps,e= .returned (.func (.func 107) #[] caps)∧IsT (fun k=>w.heap.size≤k∧k<w.heap.size+2) w' 107 caps (zfW lo hi)∧Below w.heap.size w w':=by
 have HT:Hid (∀w':World,w'.heap[w.heap.size]? =some (.cells #[.int .u8 (lo:Int)] 5 (0,0))→w'.heap[w.heap.size+1]? =some (.cells #[.int .u8 (hi:Int)] 5 (0,0))→
  IsT (fun k=>w.heap.size≤k∧k<w.heap.size+2) w' 107 #[.pointer (some ⟨w.heap.size,0,none⟩),.pointer (some ⟨w.heap.size+1,0,none⟩)] (zfW lo hi)):=by
  intro w' h1 h2;have hlt:=(zal h2);exact⟨fun k hk=>by omega,fun args W=>run_callFunc_enter (c:=((Tryz.f107).body.getD .skip)) func107 (by kernel_rfl) (by kernel_rfl) args W,fun W hW b=>zny lo hi w.heap.size (w.heap.size+1) b W ((hW _ ⟨by omega,by omega⟩).trans h1) ((hW _ ⟨by omega,by omega⟩).trans h2)⟩
 go_enter func71,ntmps71
 go_wp2_with fail;go_ret;refine⟨_,rfl,HT.out _ ?_ ?_,((Below.refl _ _).alloc (Nat.le_refl _) _).alloc (by simp) _⟩
 ·exact(Below.heap_alloc _ _ _ (by simp)).trans (heap_alloc_new w _)
 ·have:=heap_alloc_new (w.alloc (.cells #[.int .u8 (lo:Int)] 5)) (.cells #[.int .u8 (hi:Int)] 5)
  rw[World.size_alloc] at this;exact this
open Go.MuLone (run_callFunc_enter)
structure TB where
 f:Nat
 caps:Array Value
 p:UInt8→Bool
def TB.val (t:TB):Value:= .func (.func t.f) #[] t.caps
def zhS (ts:List TB) (b:UInt8):Bool:=ts.any fun t=>t.p b
theorem zk0 (ts:List TB) (k:Nat) (t:TB) (b:UInt8) (h:ts[k]? =some t) (h0:zhS (ts.take k) b=false):zhS (ts.take (k+1)) b=t.p b:=by
 obtain⟨hk,rfl⟩:=List.getElem?_eq_some_iff.1 h;unfold zhS at *;rw[List.take_succ_eq_append_getElem hk,List.any_append,h0];simp
theorem zhP (ts:List TB) (k:Nat) (b:UInt8) (h:zhS (ts.take k) b=true):zhS ts b=true:=by
 unfold zhS at *;rw[List.any_eq_true] at *;obtain⟨t,ht,hp⟩:=h;exact⟨t,List.mem_of_mem_take ht,hp⟩
theorem zh6 (xt xs:Nat) (ts:List TB) (F:Nat→Prop) (b:UInt8) (W:World) (hn:ts.length≤100) (h1:Hid (W.heap[xt]? =some (.cells #[.slice (some ⟨xs,0,none⟩) ts.length ts.length] 181 (0,0))))
 (h2:Hid (W.heap[xs]? =some (.cells (ts.map TB.val).toArray 102 (0,0)))) (hT:Hid (∀t∈ts,IsT F W t.f t.caps t.p)):
 Calls prog 106 #[.int .u8 (b.toNat:Int),.pointer (some ⟨xt,0,none⟩)] W fun e W'=>e= .returned (.bool (zhS ts b))∧Below W.heap.size W W':=by
 have c1:=cell_of_row W xt 0 _ _ _ h1.out;simp only[List.getElem?_toArray,List.getElem?_cons_zero] at c1;obtain⟨n,hnl⟩: ∃n,ts.length=n:=⟨_,rfl⟩;rw[hnl] at c1 hn;have HN:=zaa hnl;clear hnl
 go_enter func106,ntmps106
 go_wp2_with fail
 go_loopw [8] (fun v8 wr=> ∃k:Nat,k≤n∧v8= .int .i64 k∧zhS (ts.take k) b=false∧Below W.heap.size W wr) (fun v8 _=>n-(intOf v8).toNat)
 case atStart=>exact⟨0,by omega,rfl,rfl,Below.refl _ _⟩
 case round=>
  obtain⟨k,hk,rfl,ha,hbr⟩:=hrel;have HA:=zaa ha;have HBR:=zaa hbr;clear ha hbr;by_cases hlt:k<n
  ·have hkl:k<ts.length:=by rw[HN.out];exact hlt
   have hx:ts[k]? =some ts[k]:=List.getElem?_eq_getElem hkl;have HS:=zaa (zk0 ts k _ b hx HA.out);have c2:wr.cell? ⟨xs,k,none⟩=some ts[k].val:=by
    rw[cell_of_row wr xs k _ _ _ ((HBR.out.block _ (zal h2.out)).trans h2.out)];simp[hkl]
   have hTk:=(hT.out _ (List.getElem_mem hkl)).below HBR.out;have HC:=zaa (hTk.says wr (fun _ _=>rfl) b);have hen:=hTk.enters;generalize ts[k]=t at *;obtain⟨f,caps,p⟩:=t;unfold TB.val at c2;simp only at c2 HC HS hen;clear hx hkl hTk;have k0:(0:Int)≤(k:Int):=by omega
   have k1:(k:Int)<(n:Int):=by omega
   cases hp:p b
   ·have HS2:=zaa (HS.out.trans hp)
    rw[hp] at HC;clear hp HS;go_wp2_with fail;refine HC.out.mono ?_;rintro e w1 ⟨rfl,hb1⟩;have HB1:=zaa (btZ HBR.out hb1);clear hb1;go_wp2_with fail;go_roundw
    case rel=>exact⟨k+1,by omega,by go_num,HS2.out,HB1.out⟩
    case measure=>simp[intOf];omega
   ·have HS2:=zaa (HS.out.trans hp)
    rw[hp] at HC;clear hp HS;have HR:=zaa (show zhS ts b=true from zhP ts (k+1) b HS2.out);go_wp2_with fail;refine HC.out.mono ?_;rintro e w1 ⟨rfl,hb1⟩;have HB1:=zaa (btZ HBR.out hb1);clear hb1;go_wp2_with fail;go_ret;exact⟨by rw[HR.out];rfl,HB1.out⟩
  ·have HR:=zaa (show zhS ts b=false by have:=HA.out;rwa[List.take_of_length_le (by rw[HN.out];omega)] at this)
   go_wp2_with fail;go_ret;exact⟨by rw[HR.out];rfl,HBR.out⟩
theorem zeD (xs:Nat) (ts:List TB) (F:Nat→Prop) (w:World) (hn:ts.length≤100) (h2:Hid (w.heap[xs]? =some (.cells (ts.map TB.val).toArray 102 (0,0)))) (hT:Hid (∀t∈ts,IsT F w t.f t.caps t.p)) (hF: ∀k,F k→k<w.heap.size):
 Calls prog 70 #[.slice (some ⟨xs,0,none⟩) ts.length ts.length] w fun e w'=> ∃caps,e= .returned (.func (.func 106) #[] caps)∧IsT (fun k=>F k∨k=xs∨k=w.heap.size) w' 106 caps (zhS ts)∧Below w.heap.size w w':=by
 have hxs:=(zal h2.out);have HT:Hid (∀w':World,Below w.heap.size w w'→w'.heap[w.heap.size]? =some (.cells #[.slice (some ⟨xs,0,none⟩) ts.length ts.length] 181 (0,0))→IsT (fun k=>F k∨k=xs∨k=w.heap.size) w' 106 #[.pointer (some ⟨w.heap.size,0,none⟩)] (zhS ts)):=by
  intro w' hb h1;have hlt:=(zal h1);refine⟨fun k hk=> ?_,fun args W=>run_callFunc_enter (c:=((Tryz.f106).body.getD .skip)) func106 (by kernel_rfl) (by kernel_rfl) args W,fun W hW b=> ?_⟩
  ·rcases hk with hk|rfl|rfl
   ·exact Nat.lt_of_lt_of_le (hF k hk) hb.size
   ·exact Nat.lt_of_lt_of_le hxs hb.size
   ·exact hlt
  ·refine zh6 w.heap.size xs ts F b W hn (zaa ((hW _ (.inr (.inr rfl))).trans h1)) (zaa ((hW _ (.inr (.inl rfl))).trans ((hb.block _ hxs).trans h2.out))) (zaa fun t ht=> ?_)
   have h0:=hT.out t ht;exact⟨fun k hk=>by
    have e1:=hW k (.inl hk);have e2:=hb.block k (h0.inn k hk);have e3:w.heap[k]? ≠none:=by rw[ne_eq,Array.getElem?_eq_none_iff];have:=h0.inn k hk;omega
    rcases Nat.lt_or_ge k W.heap.size with hh|hh
    ·exact hh
    ·rw[Array.getElem?_eq_none hh,e2] at e1;exact absurd e1.symm e3,h0.enters,fun W' hW' b'=>h0.says W' (fun k hk=>(hW' k hk).trans ((hW k (.inl hk)).trans (hb.block k (h0.inn k hk)))) b'⟩
 go_enter func70,ntmps70
 go_wp2_with fail;go_ret;exact⟨_,rfl,HT.out _ ((Below.refl _ _).alloc (Nat.le_refl _) _) (heap_alloc_new w _),(Below.refl _ _).alloc (Nat.le_refl _) _⟩
end Go.Proofs.YtlngbjphagnloaaGreatDoor
