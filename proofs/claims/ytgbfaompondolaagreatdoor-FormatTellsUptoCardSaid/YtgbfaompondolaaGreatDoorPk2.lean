/- Merged texts of the walks and of the plain laws on which the statement leans.-/
import Derived.Test.YtgbfaompondolaaGreatDoorPk1
import Derived.Laws.Rows
namespace Go.Proofs.YtgbfaompondolaaGreatDoor
open Tryz
section
variable {P:Program} {ops:Array Oper} {Q:Exit→Act→World→Prop} {S:World→Prop}
theorem zgl {α:Type _} {l:List α} {i:Nat} {a:α}:l.toArray.setIfInBounds i a=(l.set i a).toArray:=List.setIfInBounds_toArray ..
theorem putB {α:Type _} {x a:α} {xs:List α}:(x::xs).set 0 a=a::xs:=List.set_cons_zero
theorem putC {α:Type _} {x a:α} {xs:List α} {n:Nat}:(x::xs).set (n+1) a=x::xs.set n a:=List.set_cons_succ
theorem tk (i d:Nat) {op:Op} {ty:TypeId} {pos:String} {after:Array Edge} {guard:Option (Nat×Bool)} {n:Nat} {v:Value} {fuel:Nat} {listed:Array Bool} {a:Act} {w:World} (hi:ops[i]? =some ⟨some d,op,ty,pos,after,guard⟩)
 (hB:(Region.noSelect ops&&Region.sinkB .any ops n&&Region.chainB .any ops n&&decide (n<ops.size)&&decide (i<n)&&ziw .any ops n listed&&Region.free .any ops listed i&&(Region.ready .any ops listed).contains i)=true)
 (hQ: ∀c a w,Q (.panic c) (a.put (some d) v) w→Q (.panic c) a w) (hw:Region.wanted ⟨some d,op,ty,pos,after,guard⟩ (yielded ops a.tmps)=true) (hy: ∀w,S w→(execOp a.eval ⟨some d,op,ty,pos,after,guard⟩).run P w= .ok (.value v) w) (hS:S w)
 (h:zcg P .any ops Q S n (zdf P ops Q n) fuel (listed.setIfInBounds i true) (a.put (some d) v) w):zcg P .any ops Q S n (zdf P ops Q n) (fuel+1) listed a w:=
 zd8 hi hB hQ (.inl ⟨hw,hy⟩) hS h
theorem tq (i d:Nat) {op:Op} {ty:TypeId} {pos:String} {after:Array Edge} {guard:Option (Nat×Bool)} {n:Nat} {v:Value} {fuel:Nat} {listed:Array Bool} {a:Act} {w:World} (hi:ops[i]? =some ⟨some d,op,ty,pos,after,guard⟩) (hS:S w)
 (h:zcg P .any ops Q S n (zdf P ops Q n) fuel (listed.setIfInBounds i true) (a.put (some d) v) w)
 (hB:(Region.noSelect ops&&Region.sinkB .any ops n&&Region.chainB .any ops n&&decide (n<ops.size)&&decide (i<n)&&ziw .any ops n listed&&Region.free .any ops listed i&&(Region.ready .any ops listed).contains i)=true:=by kernel_rfl)
 (hQ: ∀c a w,Q (.panic c) (a.put (some d) v) w→Q (.panic c) a w:=by exact fun _ _ _ h=>h) (hw:Region.wanted ⟨some d,op,ty,pos,after,guard⟩ (yielded ops a.tmps)=true:=by rfl) (hy: ∀w,S w→(execOp a.eval ⟨some d,op,ty,pos,after,guard⟩).run P w= .ok (.value v) w:=by intro _ _;go_simp;with_reducible rfl):zcg P .any ops Q S n (zdf P ops Q n) (fuel+1) listed a w:=
 zd8 hi hB hQ (.inl ⟨hw,hy⟩) hS h
theorem tyZ (i d:Nat) {op:Op} {ty:TypeId} {pos:String} {after:Array Edge} {guard:Option (Nat×Bool)} {n:Nat} {v:Value} {fuel:Nat} {listed:Array Bool} {a:Act} {w:World} (hi:ops[i]? =some ⟨some d,op,ty,pos,after,guard⟩) (hS:S w)
 (hy: ∀w,S w→(execOp a.eval ⟨some d,op,ty,pos,after,guard⟩).run P w= .ok (.value v) w)
 (h:zcg P .any ops Q S n (zdf P ops Q n) fuel (listed.setIfInBounds i true) (a.put (some d) v) w)
 (hB:(Region.noSelect ops&&Region.sinkB .any ops n&&Region.chainB .any ops n&&decide (n<ops.size)&&decide (i<n)&&ziw .any ops n listed&&Region.free .any ops listed i&&(Region.ready .any ops listed).contains i)=true:=by kernel_rfl)
 (hQ: ∀c a w,Q (.panic c) (a.put (some d) v) w→Q (.panic c) a w:=by exact fun _ _ _ h=>h) (hw:Region.wanted ⟨some d,op,ty,pos,after,guard⟩ (yielded ops a.tmps)=true:=by rfl):zcg P .any ops Q S n (zdf P ops Q n) (fuel+1) listed a w:=
 zd8 hi hB hQ (.inl ⟨hw,hy⟩) hS h
theorem trZ {n:Nat} (rs:List Nat) {fuel:Nat} {listed:Array Bool} {a:Act} {w:World} (h:zaN P ops Q S n fuel listed a w rs) (hr:Region.ready .any ops listed=rs:=by kernel_rfl) (hne:rs≠[]:=by simp) (hlt:(rs.all fun i=>decide (i<n))=true:=by rfl):zcg P .any ops Q S n (zdf P ops Q n) (fuel+1) listed a w:=zgG hr hne hlt h
theorem pu:(∀(a:Act) (d:Tmp) (v:Value),a.put (some d) v={a with tmps:=a.tmps.setIfInBounds d v})∧(∀(a:Act) (v:Value),a.put none v=a)∧(∀(l:List Value) (i:Nat) (a:Value),l.toArray.setIfInBounds i a=(l.set i a).toArray)∧(∀(x a:Value) (xs:List Value),(x::xs).set 0 a=a::xs)∧(∀(x a:Value) (xs:List Value) (n:Nat),(x::xs).set (n+1) a=x::xs.set n a):=
 ⟨fun _ _ _=>rfl,fun _ _=>rfl,fun _ _ _=>zgl,fun _ _ _=>putB,fun _ _ _ _=>putC⟩
theorem row3 {w:World} {b:Nat} {cs:Array Value} {t:TypeId} {u0 u1 u2:Value} {us:List Value} (h:w.heap[b]? =some (.cells cs t (0,0))) (e:cs.toList=u0::u1::u2::us):
 w.cell? ⟨b,0,none⟩=some u0∧w.cell? ⟨b,1,none⟩=some u1∧w.cell? ⟨b,2,none⟩=some u2∧w.frozen? ⟨b,0,none⟩=false∧w.frozen? ⟨b,1,none⟩=false∧w.frozen? ⟨b,2,none⟩=false:=by and_intros<;>first|exact frozen_of_row _ _ _ _ _ h|(rw[cell_of_row _ _ _ _ _ _ h,←Array.getElem?_toList,e];rfl)
theorem row4 {w:World} {b:Nat} {cs:Array Value} {t:TypeId} {u0 u1 u2 u3:Value} {us:List Value} (h:w.heap[b]? =some (.cells cs t (0,0))) (e:cs.toList=u0::u1::u2::u3::us):
 w.cell? ⟨b,0,none⟩=some u0∧w.cell? ⟨b,1,none⟩=some u1∧w.cell? ⟨b,2,none⟩=some u2∧w.cell? ⟨b,3,none⟩=some u3∧w.frozen? ⟨b,0,none⟩=false∧w.frozen? ⟨b,1,none⟩=false∧w.frozen? ⟨b,2,none⟩=false∧w.frozen? ⟨b,3,none⟩=false:=by and_intros<;>first|exact frozen_of_row _ _ _ _ _ h|(rw[cell_of_row _ _ _ _ _ _ h,←Array.getElem?_toList,e];rfl)
theorem row5 {w:World} {b:Nat} {cs:Array Value} {t:TypeId} {u0 u1 u2 u3 u4:Value} {us:List Value} (h:w.heap[b]? =some (.cells cs t (0,0))) (e:cs.toList=u0::u1::u2::u3::u4::us):
 w.cell? ⟨b,0,none⟩=some u0∧w.cell? ⟨b,1,none⟩=some u1∧w.cell? ⟨b,2,none⟩=some u2∧w.cell? ⟨b,3,none⟩=some u3∧w.cell? ⟨b,4,none⟩=some u4∧w.frozen? ⟨b,0,none⟩=false∧w.frozen? ⟨b,1,none⟩=false∧w.frozen? ⟨b,2,none⟩=false∧w.frozen? ⟨b,3,none⟩=false∧w.frozen? ⟨b,4,none⟩=false:=by and_intros<;>first|exact frozen_of_row _ _ _ _ _ h|(rw[cell_of_row _ _ _ _ _ _ h,←Array.getElem?_toList,e];rfl)
theorem row6 {w:World} {b:Nat} {cs:Array Value} {t:TypeId} {u0 u1 u2 u3 u4 u5:Value} {us:List Value} (h:w.heap[b]? =some (.cells cs t (0,0))) (e:cs.toList=u0::u1::u2::u3::u4::u5::us):
 w.cell? ⟨b,0,none⟩=some u0∧w.cell? ⟨b,1,none⟩=some u1∧w.cell? ⟨b,2,none⟩=some u2∧w.cell? ⟨b,3,none⟩=some u3∧w.cell? ⟨b,4,none⟩=some u4∧w.cell? ⟨b,5,none⟩=some u5∧w.frozen? ⟨b,0,none⟩=false∧w.frozen? ⟨b,1,none⟩=false∧w.frozen? ⟨b,2,none⟩=false∧w.frozen? ⟨b,3,none⟩=false∧w.frozen? ⟨b,4,none⟩=false∧w.frozen? ⟨b,5,none⟩=false:=by and_intros<;>first|exact frozen_of_row _ _ _ _ _ h|(rw[cell_of_row _ _ _ _ _ _ h,←Array.getElem?_toList,e];rfl)
theorem row7 {w:World} {b:Nat} {cs:Array Value} {t:TypeId} {u0 u1 u2 u3 u4 u5 u6:Value} {us:List Value} (h:w.heap[b]? =some (.cells cs t (0,0))) (e:cs.toList=u0::u1::u2::u3::u4::u5::u6::us):
 w.cell? ⟨b,0,none⟩=some u0∧w.cell? ⟨b,1,none⟩=some u1∧w.cell? ⟨b,2,none⟩=some u2∧w.cell? ⟨b,3,none⟩=some u3∧w.cell? ⟨b,4,none⟩=some u4∧w.cell? ⟨b,5,none⟩=some u5∧w.cell? ⟨b,6,none⟩=some u6∧w.frozen? ⟨b,0,none⟩=false∧w.frozen? ⟨b,1,none⟩=false∧w.frozen? ⟨b,2,none⟩=false∧w.frozen? ⟨b,3,none⟩=false∧w.frozen? ⟨b,4,none⟩=false∧w.frozen? ⟨b,5,none⟩=false∧w.frozen? ⟨b,6,none⟩=false:=by and_intros<;>first|exact frozen_of_row _ _ _ _ _ h|(rw[cell_of_row _ _ _ _ _ _ h,←Array.getElem?_toList,e];rfl)
theorem row8 {w:World} {b:Nat} {cs:Array Value} {t:TypeId} {u0 u1 u2 u3 u4 u5 u6 u7:Value} {us:List Value} (h:w.heap[b]? =some (.cells cs t (0,0))) (e:cs.toList=u0::u1::u2::u3::u4::u5::u6::u7::us):
 w.cell? ⟨b,0,none⟩=some u0∧w.cell? ⟨b,1,none⟩=some u1∧w.cell? ⟨b,2,none⟩=some u2∧w.cell? ⟨b,3,none⟩=some u3∧w.cell? ⟨b,4,none⟩=some u4∧w.cell? ⟨b,5,none⟩=some u5∧w.cell? ⟨b,6,none⟩=some u6∧w.cell? ⟨b,7,none⟩=some u7∧w.frozen? ⟨b,0,none⟩=false∧w.frozen? ⟨b,1,none⟩=false∧w.frozen? ⟨b,2,none⟩=false∧w.frozen? ⟨b,3,none⟩=false∧w.frozen? ⟨b,4,none⟩=false∧w.frozen? ⟨b,5,none⟩=false∧w.frozen? ⟨b,6,none⟩=false∧w.frozen? ⟨b,7,none⟩=false:=by and_intros<;>first|exact frozen_of_row _ _ _ _ _ h|(rw[cell_of_row _ _ _ _ _ _ h,←Array.getElem?_toList,e];rfl)
end
end Go.Proofs.YtgbfaompondolaaGreatDoor
