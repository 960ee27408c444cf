/- Merged texts of the walks and of the plain laws on which the statement leans.-/
import Derived.Test.YtgbfaompondolaaGreatDoorPk1
import Derived.Below
import Derived.Laws.OwnMore
import Derived.Deep.Draws
import Derived.Laws.Rows
import Derived.Maps.AppendAt
import Derived.Deep.AppendLies
import Derived.RegionTactic
import Derived.OwnWalk
import Derived.Shelf.Strings.Repeat
import Derived.Test.YtgbfaompondolaaGreatDoorProg
import Derived.LaidMore
import Derived.HandedShaped
import Derived.ProofKit
import Derived.OpenShut
import Derived.Deep.Slices
import Derived.Deep.Fields
import Derived.ChangeSame
set_option maxHeartbeats 1000000
set_option maxRecDepth 100000
namespace Go.Proofs.YtgbfaompondolaaGreatDoor
open Go.RowKit
theorem zeO (a:Addr) (n:Nat):(a.add n).block=a.block:=by unfold Addr.add;split<;>rfl
theorem zig (a:Addr) (i j:Nat):(a.add i).add j=a.add (i+j):=by
 unfold Addr.add;by_cases hi:i=0<;>by_cases hj:j=0<;>simp[hi,hj,Nat.add_assoc]
def zbv (w:World) (B size:Nat) (A:Option Addr) (n:Nat) (xs:List Value):Prop:=
 xs.length=n*size∧(0<n→ ∃ad,A=some ad∧ad.block<B∧ ∀j u,xs[j]? =some u→w.cell? (ad.add j)=some u)
section
variable {w w':World} {B B' size n:Nat} {A:Option Addr} {xs:List Value}
theorem zbv.none_:zbv w B size A 0 []:=⟨by simp,fun h=>absurd h (by omega)⟩
theorem zbv.at_ {k:Nat} (h:zbv w B 1 A n xs) (hk:k<n): ∃ad u,A=some ad∧ad.block<B∧xs[k]? =some u∧w.cell? (ad.add k)=some u:=by
 obtain⟨ad,e,hb,hc⟩:=h.2 (by omega);have hl:k<xs.length:=by have:=h.1;omega
 exact⟨ad,xs[k],e,hb,List.getElem?_eq_getElem hl,hc k _ (List.getElem?_eq_getElem hl)⟩
theorem zbv.keep (h:zbv w B size A n xs) (hk: ∀p:Addr,p.block<B→w'.cell? p=w.cell? p):zbv w' B size A n xs:=
 ⟨h.1,fun hn=>by
   obtain⟨ad,e,hb,hc⟩:=h.2 hn;exact⟨ad,e,hb,fun j u hu=>(hk _ (by rw[zeO];exact hb)).trans (hc j u hu)⟩⟩
theorem zbv.more (h:zbv w B size A n xs) (hB:B≤B'):zbv w B' size A n xs:=
 ⟨h.1,fun hn=>by
   obtain⟨ad,e,hb,hc⟩:=h.2 hn;exact⟨ad,e,by omega,hc⟩⟩
theorem zbv.below (h:zbv w B size A n xs) (hb:Below B w w'):zbv w' B size A n xs:=h.keep fun _ hp=>hb.cell hp
theorem zbv.drew (h:zbv w B size A n xs):zbv w.drew B size A n xs:=h
theorem zbv.drewN (h:zbv w B size A n xs) (k:Nat):zbv (w.drewN k) B size A n xs:=h
theorem zbv.alloc (h:zbv w B size A n xs) (hB:B≤w.heap.size) (o:Obj):zbv (w.alloc o) B size A n xs:=h.keep fun p hp=>World.cell?_alloc_lt w o p (by omega)
theorem zbv.setCell (h:zbv w B size A n xs) {p:Addr} (hB:B≤p.block) (u:Value):zbv (w.setCell p u) B size A n xs:=
 h.keep fun q hq=>World.cell?_setCell_other w p q u (fun e=>by subst e;omega)
theorem zbv.grown (h:zbv w B size A n xs) {row:Option Nat} (hg:w.grownBy w' row) (hB:B≤w.heap.size) (hr: ∀g,row=some g→B≤g):zbv w' B size A n xs:=
 h.keep fun p hp=>World.cell?_of_block (hg.block p.block (by omega) (fun e=>by have:=hr _ e.symm;omega))
theorem zbv.cut (h:zbv w B size A n xs) {k cap:Nat} (hk:k≤n) (hc:n≤cap):
 zbv w B size (if cap=k then A else A.map (·.add (k*size))) (n-k) (xs.drop (k*size)):=by
 refine⟨by rw[List.length_drop,h.1,Nat.sub_mul],fun hn=> ?_⟩;obtain⟨ad,rfl,hb,hcell⟩:=h.2 (by omega);rw[if_neg (by omega)];refine⟨ad.add (k*size),rfl,by rw[zeO];exact hb,fun j u hu=> ?_⟩;rw[zig];exact hcell _ u (by rw[←hu,List.getElem?_drop])
theorem zbv.of_own {base:Nat} {e:TypeId} {c:Nat} (h:w.ownsRow base e size (.slice A n c) n xs):zbv w w.heap.size size A n xs:=by
 refine⟨h.1,fun hn=> ?_⟩;obtain⟨g,cap,hv,_,hlt⟩:=h.form hn;have hA:A=some ⟨g,0,none⟩:=by injection hv
 subst hA;exact⟨_,rfl,hlt,h.cells (g:=g) rfl⟩
end
section
variable {P:Program} (w:World)
theorem zez (base:Nat) (t ty e:TypeId) (i:TypeInfo) (size:Nat) (ht:P.underlying t=some (.slice e)) (hi:P.info? e=some i)
 (v:Value) (n:Nat) (xs:List Value) (hown:w.ownsRow base e size v n xs) (c:Nat):(Builtin.append_ #[t,t] ty #[v,.slice none 0 c]).run P w= .ok v w:=by
 rcases hown.2 with⟨rfl,rfl⟩|⟨g,cap,cur,rfl,_,_,hnc,_⟩
 ·simp[Builtin.append_,run_underlying ht,sizeOf,typeInfo,hi,Builtin.lenOf,Builtin.firstCells]
 ·simp[Builtin.append_,run_underlying ht,sizeOf,typeInfo,hi,Builtin.lenOf,Builtin.firstCells,hnc,storeCells]
theorem zfm (base:Nat) (t ty e:TypeId) (i:TypeInfo) (z:Value) (size bytes:Nat) (ht:P.underlying t=some (.slice e)) (hi:P.info? e=some i) (hz:i.zero=some z)
 (hsize:i.size=size) (hby:i.bytes=bytes) (hzs:z.cells.size=size) (hsz:0<size)
 (v:Value) (n:Nat) (xs:List Value) (hown:w.ownsRow base e size v n xs)
 (B:Nat) (A:Option Addr) (m c:Nat) (news:List Value) (hr:zbv w B size A m news) (h1: ∀u∈news,u.oneCell'=true)
 (h63:n+m≤maxLen) (hbytes:(n+m)*bytes≤140737488355328) (hbase:base≤w.heap.size):
 ∃v' w',(Builtin.append_ #[t,t] ty #[v,.slice A m c]).run P w= .ok v' w'∧w'.ownsRow base e size v' (n+m) (xs++news)∧w.grownBy w' v.ownBlock∧
  (v'.ownBlock=v.ownBlock∨v'.ownBlock=some w.heap.size):=by
 rcases A with _|ad
 ·have hm:m=0:=by
   rcases Nat.eq_zero_or_pos m with h0|h0
   ·exact h0
   ·obtain⟨ad,h,_⟩:=hr.2 h0
    cases h
  subst hm;have hn:news=[]:=List.eq_nil_of_length_eq_zero (by simpa using hr.1);subst hn;exact⟨v,w,zez w base t ty e i size ht hi v n xs hown c,by simpa using hown,World.grownBy.refl w _,.inl rfl⟩
 ·have hcells: ∀j u,news[j]? =some u→w.cell? (ad.add j)=some u:=by
   intro j u hu;rcases Nat.eq_zero_or_pos m with h0|h0
   ·subst h0
    have hn:news=[]:=List.eq_nil_of_length_eq_zero (by simpa using hr.1);subst hn;simp at hu
   ·obtain⟨ad',h,_,hc⟩:=hr.2 h0
    injection h with h
    subst h;exact hc j u hu
  obtain⟨v',w',hrun,h2,h3,_,h5⟩:=run_append_own_at (P:=P) w base t ty e i z size bytes ht hi hz hsize hby hzs hsz v n xs hown ad m c news hr.1 hcells h1 h63 hbytes hbase;exact⟨v',w',hrun,h2,h3,h5⟩
theorem zel {o:Oper} {a:Act} {K:Act→World→Prop} {Q:Exit→Act→World→Prop} (s x:Operand) (t:TypeId)
 (ho:o.op= .call {callee:= .builtin .append,args:= #[s,x],argTypes:= #[t,t]})
 (base:Nat) (e:TypeId) (i:TypeInfo) (z:Value) (size bytes:Nat) (ht:P.underlying t=some (.slice e)) (hi:P.info? e=some i) (hz:i.zero=some z)
 (hsize:i.size=size) (hby:i.bytes=bytes) (hzs:z.cells.size=size) (hsz:0<size)
 (v:Value) (n:Nat) (xs:List Value) (hs:a.eval s=v) (hown:w.ownsRow base e size v n xs)
 (B:Nat) (A:Option Addr) (m c:Nat) (news:List Value) (hx:a.eval x= .slice A m c) (hr:zbv w B size A m news) (h1: ∀u∈news,u.oneCell'=true)
 (h63:n+m≤maxLen) (hbytes:(n+m)*bytes≤140737488355328) (hbase:base≤w.heap.size)
 (h: ∀v' w',w'.ownsRow base e size v' (n+m) (xs++news)→w.grownBy w' v.ownBlock→(v'.ownBlock=v.ownBlock∨v'.ownBlock=some w.heap.size)→K (a.put o.dst v') w'):o.wp P a w K Q:=by
 obtain⟨v',w',hrun,h2,h3,h4⟩:=zfm (P:=P) w base t o.type e i z size bytes ht hi hz hsize hby hzs hsz v n xs hown B A m c news hr h1 h63 hbytes hbase;unfold Oper.wp execOp;simp only[ho,resolve,invoke,builtin,Sem.run_bind,Sem.run_pure,Result.andThen_ok,List.map_toArray,List.map_cons,List.map_nil,hs,hx,hrun];exact h v' w' h2 h3 h4
theorem zaw {ops:Array Oper} {rest:List Oper} {o:Oper} {a:Act} {Q:Exit→Act→World→Prop} (hgd:o.guard=none) (s x:Operand) (t:TypeId)
 (ho:o.op= .call {callee:= .builtin .append,args:= #[s,x],argTypes:= #[t,t]})
 (base:Nat) (e:TypeId) (i:TypeInfo) (z:Value) (size bytes:Nat) (ht:P.underlying t=some (.slice e)) (hi:P.info? e=some i) (hz:i.zero=some z)
 (hsize:i.size=size) (hby:i.bytes=bytes) (hzs:z.cells.size=size) (hsz:0<size)
 (v:Value) (n:Nat) (xs:List Value) (hs:a.eval s=v) (hown:w.ownsRow base e size v n xs)
 (B:Nat) (A:Option Addr) (m c:Nat) (news:List Value) (hx:a.eval x= .slice A m c) (hr:zbv w B size A m news) (h1: ∀u∈news,u.oneCell'=true)
 (h63:n+m≤maxLen) (hbytes:(n+m)*bytes≤140737488355328) (hbase:base≤w.heap.size)
 (h: ∀v' w',w'.ownsRow base e size v' (n+m) (xs++news)→w.grownBy w' v.ownBlock→(v'.ownBlock=v.ownBlock∨v'.ownBlock=some w.heap.size)→wpList P ops Q rest (a.put o.dst v') w'):wpList P ops Q (o::rest) a w:=
 wpList_plain hgd fun _ hK=>zel w s x t ho base e i z size bytes ht hi hz hsize hby hzs hsz v n xs hs hown B A m c news hx hr h1 h63 hbytes hbase fun v' w' h2 h3 h4=>hK _ _ (h v' w' h2 h3 h4)
theorem zca {ops:Array Oper} {o:Oper} {a:Act} {K:Act→World→Prop} {Q:Exit→Act→World→Prop} {E:Prop} (hgd:o.guard=none) (s x:Operand) (t:TypeId)
 (ho:o.op= .call {callee:= .builtin .append,args:= #[s,x],argTypes:= #[t,t]})
 (base:Nat) (e:TypeId) (i:TypeInfo) (z:Value) (size bytes:Nat) (ht:P.underlying t=some (.slice e)) (hi:P.info? e=some i) (hz:i.zero=some z)
 (hsize:i.size=size) (hby:i.bytes=bytes) (hzs:z.cells.size=size) (hsz:0<size)
 (v:Value) (n:Nat) (xs:List Value) (hs:a.eval s=v) (hown:w.ownsRow base e size v n xs)
 (B:Nat) (A:Option Addr) (m c:Nat) (news:List Value) (hx:a.eval x= .slice A m c) (hr:zbv w B size A m news) (h1: ∀u∈news,u.oneCell'=true)
 (h63:n+m≤maxLen) (hbytes:(n+m)*bytes≤140737488355328) (hbase:base≤w.heap.size)
 (h: ∀v' w',w'.ownsRow base e size v' (n+m) (xs++news)→w.grownBy w' v.ownBlock→(v'.ownBlock=v.ownBlock∨v'.ownBlock=some w.heap.size)→K (a.put o.dst v') w'):
 if Region.wanted o (yielded ops a.tmps)=true then Oper.wp P o a w K Q else E:=by
 have hw:Region.wanted o (yielded ops a.tmps)=true:=by simp[Region.wanted,hgd]
 rw[if_pos hw];exact zel w s x t ho base e i z size bytes ht hi hz hsize hby hzs hsz v n xs hs hown B A m c news hx hr h1 h63 hbytes hbase h
end
end Go.Proofs.YtgbfaompondolaaGreatDoor
namespace Go.Proofs
open Go.Shelf
def Tryz.lays105_ren:Go.Shelf.Ren:=⟨fun|105=>206|212=>249|99=>250|165=>151|166=>152|170=>251|169=>80|263=>284|264=>285|206=>286|240=>216|241=>217|276=>257|277=>258|n=>n,fun|9=>9|3=>3|4=>4|20=>20|0=>0|46=>192|109=>238|5=>5|72=>121|76=>184|51=>271|146=>272|53=>274|148=>275|70=>118|37=>119|75=>183|127=>177|164=>248|80=>128|n=>n,fun|n=>n⟩
theorem Tryz.lays105:Go.Proofs.Lays.n105 Tryz.prog Tryz.lays105_ren:={
 mixed:=by kernel_rfl
 f99:=Tryz.func250.trans (congrArg some (by kernel_rfl))
 f105:=Tryz.func206.trans (congrArg some (by kernel_rfl))
 f165:=Tryz.func151.trans (congrArg some (by kernel_rfl))
 f166:=Tryz.func152.trans (congrArg some (by kernel_rfl))
 f169:=Tryz.func80.trans (congrArg some (by kernel_rfl))
 f170:=Tryz.func251.trans (congrArg some (by kernel_rfl))
 f206:=Tryz.func286.trans (congrArg some (by kernel_rfl))
 f212:=Tryz.func249.trans (congrArg some (by kernel_rfl))
 f240:=Tryz.func216.trans (congrArg some (by kernel_rfl))
 f241:=Tryz.func217.trans (congrArg some (by kernel_rfl))
 f263:=Tryz.func284.trans (congrArg some (by kernel_rfl))
 f264:=Tryz.func285.trans (congrArg some (by kernel_rfl))
 f276:=Tryz.func257.trans (congrArg some (by kernel_rfl))
 f277:=Tryz.func258.trans (congrArg some (by kernel_rfl))
 t0:=Tryz.underlying0
 a0:=Tryz.isAgg0
 z0:=Tryz.sizeOf0
 v0:=Tryz.zeroValue0
 t3:=Tryz.underlying3
 a3:=Tryz.isAgg3
 z3:=Tryz.sizeOf3
 v3:=Tryz.zeroValue3
 t4:=Tryz.underlying4
 a4:=Tryz.isAgg4
 z4:=Tryz.sizeOf4
 v4:=Tryz.zeroValue4
 t5:=Tryz.underlying5
 a5:=Tryz.isAgg5
 z5:=Tryz.sizeOf5
 v5:=Tryz.zeroValue5
 t9:=Tryz.underlying9
 a9:=Tryz.isAgg9
 z9:=Tryz.sizeOf9
 v9:=Tryz.zeroValue9
 t20:=Tryz.underlying20
 a20:=Tryz.isAgg20
 z20:=Tryz.sizeOf20
 v20:=Tryz.zeroValue20
 t37:=Tryz.underlying119
 a37:=Tryz.isAgg119
 z37:=Tryz.sizeOf119
 v37:=Tryz.zeroValue119
 t46:=Tryz.underlying192
 a46:=Tryz.isAgg192
 z46:=Tryz.sizeOf192
 v46:=Tryz.zeroValue192
 t51:=Tryz.underlying271
 a51:=Tryz.isAgg271
 z51:=Tryz.sizeOf271
 v51:=Tryz.zeroValue271
 t53:=Tryz.underlying274
 a53:=Tryz.isAgg274
 z53:=Tryz.sizeOf274
 v53:=Tryz.zeroValue274
 t70:=Tryz.underlying118
 a70:=Tryz.isAgg118
 z70:=Tryz.sizeOf118
 v70:=Tryz.zeroValue118
 t72:=Tryz.underlying121
 a72:=Tryz.isAgg121
 z72:=Tryz.sizeOf121
 v72:=Tryz.zeroValue121
 t75:=Tryz.underlying183
 a75:=Tryz.isAgg183
 z75:=Tryz.sizeOf183
 v75:=Tryz.zeroValue183
 t76:=Tryz.underlying184
 a76:=Tryz.isAgg184
 z76:=Tryz.sizeOf184
 v76:=Tryz.zeroValue184
 t109:=Tryz.underlying238
 a109:=Tryz.isAgg238
 z109:=Tryz.sizeOf238
 v109:=Tryz.zeroValue238
 t127:=Tryz.underlying177
 a127:=Tryz.isAgg177
 z127:=Tryz.sizeOf177
 v127:=Tryz.zeroValue177
 t146:=Tryz.underlying272
 a146:=Tryz.isAgg272
 z146:=Tryz.sizeOf272
 v146:=Tryz.zeroValue272
 t148:=Tryz.underlying275
 a148:=Tryz.isAgg275
 z148:=Tryz.sizeOf275
 v148:=Tryz.zeroValue275
 t164:=Tryz.underlying248
 a164:=Tryz.isAgg248
 z164:=Tryz.sizeOf248
 v164:=Tryz.zeroValue248}
theorem Tryz.Builder_Extra_105:Builder.Extra Tryz.prog Tryz.lays105_ren:={
 sizeBuilder:=by kernel_rfl
 liesBuilder:=by kernel_rfl
 t5:=Tryz.underlying5
 a5:=Tryz.isAgg5
 z5:=Tryz.sizeOf5
 v5:=Tryz.zeroValue5
 infoByte:=by kernel_rfl
 cellsByte:=by kernel_rfl
 sizeByte:=by kernel_rfl
 neB5:=by decide}
open Go.RowKit Go.Lib in
theorem Tryz.strings_Repeat (s:ByteArray) (c:Nat) (w:World) (hc:c≤9223372036854775807) (hlen:s.size*c≤140737488355328):
 Calls Tryz.prog 206 #[.string s,.int .i64 c] w fun e w'=>e= .returned (.string ⟨(Lib.repeatL s.data.toList c).toArray⟩)∧Below w.heap.size w w':=Any.strings_Repeat Tryz.lays105 Tryz.Builder_Extra_105 s c w hc hlen
end Go.Proofs
namespace Go.Proofs.YtgbfaompondolaaGreatDoor
theorem zgQ {H:Type} {enc:TypeId×Value→H} {a:Assume} {C:Checked} {os:Os} {f:FuncId} {fn:Func} {s:ChangeSpec} {conds:List PathCond} {apart fresh handsOn again:Bool} {X:World→Array Value→Prop}
 (hX: ∀(w w':World) (args:Array Value),w.heap=w'.heap→X w args→X w' args)
 (own:ownKnob C.prog.godebug=none) (started:os.Started) (noInit:C.prog.inits.idxOf? f=none) (hfn:C.prog.funcs[f]? =some fn)
 (witness: ∃(w:World) (tape:Tape) (i:Input),w.os=os∧(w.forCall tape i).Shaped C.prog∧i.vars=[]∧Input.okWide C.prog (w.forCall tape i) .any w.heap.size f i∧
   ((s.pre enc C.prog fn conds apart (w.forCall tape i).memory i.args∧X (w.forCall tape i).memory i.args)∧sizedMet enc C.prog fn (OpenSpec.ofChange s) apart (w.forCall tape i).memory i.args)∧a.holds C.prog (lone (Frame.enter C.prog f i.args .normal) [] (w.forCall tape i)))
 (contract: ∀(W:World) (base:Nat) (args:Array Value) (ds gs:List (DataW H)) (before:List MemPlace),
   (∀(j:Nat) t v,fn.params[j]? =some t→args[j]? =some v→Value.okWide C.prog W .any base t v)→
   DataW.Whole enc C.prog fn.params.toList s.vars apart W args.toList ds gs before→
   conds.all (PathCond.test C.prog ⟨fn.params.toList,ds,s.plain.varTypes C.prog,gs⟩)=true→
   (DataW.weightsEach C.prog (fn.params.toList++s.plain.varTypes C.prog) (ds++gs)).all (· ≤reachBytes)=true→X W args→W.ShapedOpen C.prog→
   a.holds C.prog (lone (Frame.enter C.prog f args .normal) [] W)→
   Calls C.prog f args W fun e W'=> ∃v,e= .returned v∧s.post enc C.prog fn apart fresh handsOn again W args v W'):
 ReturnsInHanded a C os f .any (fun w args=>(s.pre enc C.prog fn conds apart w args∧X w args)∧sizedMet enc C.prog fn (OpenSpec.ofChange s) apart w args) (s.post enc C.prog fn apart fresh handsOn again):=by
 refine returnsInHanded_of_calls own started noInit witness ?_;intro w tape i _ hsh _ hok hpre hholds;obtain⟨_,_,_,fn',hfn',_,_,_,_,hval⟩:=hok;have e:fn'=fn:=Option.some.inj (hfn'.symm.trans hfn);subst e;obtain⟨⟨⟨ds,gs,before,hw,hc⟩,hx⟩,hz⟩:=hpre;have hw':=DataW.Whole.of_heap (w':=w.forCall tape i) (by rfl) hw;refine(contract (w.forCall tape i) w.heap.size i.args ds gs before hval hw' hc (hz.weights hw) (hX _ _ _ (by rfl) hx) hsh hholds).mono fun e W' ⟨v,he,hp⟩=> ?_
 subst he;exact ChangeSpec.post_blind hp
end Go.Proofs.YtgbfaompondolaaGreatDoor
namespace Go.Proofs.YtgbfaompondolaaGreatDoor
open Go.ChangeShapes Go.WideShapes Go.Deep Go.RowKit
section
variable {H:Type} {enc:TypeId×Value→H} {P:Program} {w:World} {base:Nat} {spare:Nat→Bool} {held:Bool}
theorem ziP {t e:TypeId} {fs:Array Field} {fuel:Nat} {cs:List Value} {x:DataW H×List MemPlace} (ht:P.underlying t=some (.slice e)) (he:P.underlying e=some (.struct fs))
 (hone:oneCellFields P fs=true) (hC:P.cellsOf e=fs.size) (h:DataW.trod enc P w base spare held fuel t cs=some x):
 (cs=[.slice none 0 0]∧x=(.nil,[]))∨
 ∃(a:Addr) (len cap m:Nat) (D:Nat→DataW H) (Pl:Nat→List MemPlace),cs=[.slice (some a) len cap]∧base≤a.block∧len≤cap∧cap≤maxLen∧m=(if spare a.block then cap else len)∧
  x=(.slice ((List.range len).map D) ((List.range (m-len)).map fun j=>D (len+j)),MemPlace.row a (m*fs.size)++(List.range m).flatMap Pl)∧
  ∀i,i<m→ ∃(ys:List (DataW H×List MemPlace)) (n:Nat),D i= .agg (ys.map (·.1))∧Pl i=ys.flatMap (·.2)∧ys.length=fs.size∧
   ∀(j:Nat) (f:Field),fs[j]? =some f→ ∃(v:Value) (y:DataW H×List MemPlace),w.cell? (a.add (i*fs.size+j))=some v∧ys[j]? =some y∧DataW.trod enc P w base spare held n f.type [v]=some y:=by
 rcases open_slice ht h with h0|⟨a,len,cap,m,n,D,Pl,hcs,hb,hl,hm,hmm,hx,hi⟩
 ·exact .inl h0
 ·refine .inr ⟨a,len,cap,m,D,Pl,hcs,hb,hl,hm,hmm,by rw[hC] at hx;exact hx,fun i him=> ?_⟩
  obtain⟨cs',hc,ht'⟩:=hi i him;rw[hC] at hc;obtain⟨ys,n',hn',hy,hlen,hyl,hf⟩:=DataW.trod_struct he ht';obtain⟨_,hcl,hat⟩:=World.cells?_some hc;simp only[Prod.mk.injEq] at hy;refine⟨ys,n',hy.1,hy.2,hyl,fun j f hj=> ?_⟩;obtain⟨ho,hk⟩:=hone_of hone j f hj;have hjl:j<fs.size:=(zau hj);have hcell:=hat j hjl;have hv:cs'[j]? =some (cs'[j]'(by omega)):=List.getElem?_eq_getElem (by omega);have h1:=hf j f hj;rw[ho,hk] at h1;have hone':(cs'.drop j).take 1=[cs'[j]'(by omega)]:=by
   rw[List.drop_eq_getElem_cons (by omega)]
   rfl
  rw[hone'] at h1;have hys:ys[j]? =some (ys[j]'(by omega)):=List.getElem?_eq_getElem (by omega);refine⟨_,_,?_,hys,h1.trans hys⟩;rw[←Go.Deep.add_add,hcell,hv]
end
theorem zij {w:World} {b o:Nat} {v:Value} (h:w.cell? ⟨b,o,none⟩=some v):b<w.heap.size:=by
 rcases Nat.lt_or_ge b w.heap.size with h1|h1
 ·exact h1
 ·simp[World.cell?,Array.getElem?_eq_none h1] at h
theorem zpi {n:Int} (h:(Lit.int .u8 n).wf=true):0≤n∧n≤255:=by
 simp[Lit.wf,IntKind.min,IntKind.max,IntKind.bits,IntKind.signed] at h;omega
theorem zoc {n:Int} (h:(Lit.int .i64 n).wf=true): -9223372036854775808≤n∧n≤9223372036854775807:=by
 simp[Lit.wf,IntKind.min,IntKind.max,IntKind.bits,IntKind.signed] at h;omega
end Go.Proofs.YtgbfaompondolaaGreatDoor
namespace Go.Proofs.YtgbfaompondolaaGreatDoor
def zfj (s:List (List UInt8)×List UInt8) (b:UInt8):List (List UInt8)×List UInt8:=if b=32 then(s.1++[s.2],[]) else(s.1,s.2++[b])
def zcF (l:List UInt8):List (List UInt8):=(l.foldl zfj ([],[])).1++[(l.foldl zfj ([],[])).2]
theorem zkY {l:List UInt8} {i:Nat} {b:UInt8} (h:l[i]? =some b):(l.take (i+1)).foldl zfj ([],[])=zfj ((l.take i).foldl zfj ([],[])) b:=by
 obtain⟨hi,rfl⟩:=List.getElem?_eq_some_iff.1 h;rw[List.take_succ_eq_append_getElem hi,List.foldl_append]
 rfl
theorem zj6: ∀(l:List UInt8) (s:List (List UInt8)×List UInt8),∃a,s.2++l=a++(l.foldl zfj s).2
 |[],s=>⟨[],by simp⟩
 |b::l,s=>by
  obtain⟨a,ha⟩:=zj6 l (zfj s b);rw[List.foldl_cons];by_cases hb:b=32
  ·subst hb
   have e:(zfj s 32).2=[]:=rfl;rw[e] at ha;exact⟨s.2++[32]++a,by rw[List.append_assoc,←ha];simp⟩
  ·have e:(zfj s b).2=s.2++[b]:=by unfold zfj;rw[if_neg hb]
   rw[e] at ha;exact⟨a,by rw[←ha];simp⟩
theorem zl9 (l:List UInt8) (i:Nat) (hi:i≤l.length):((l.take i).foldl zfj ([],[])).2.length≤i∧(l.take i).drop (i-((l.take i).foldl zfj ([],[])).2.length)=((l.take i).foldl zfj ([],[])).2:=by
 obtain⟨a,ha⟩:=zj6 (l.take i) ([],[]);have ha:l.take i=a++((l.take i).foldl zfj ([],[])).2:=ha;generalize((l.take i).foldl zfj ([],[])).2=c at *;have hl:(l.take i).length=i:=by rw[List.length_take];omega
 have h2:=congrArg List.length ha;rw[hl,List.length_append] at h2;refine⟨by omega,?_⟩;rw[ha,show i-c.length=a.length by omega,List.drop_left]
theorem zhd: ∀(l:List UInt8) (s:List (List UInt8)×List UInt8),(l.foldl zfj s).1.length≤s.1.length+l.length
 |[],s=>by simp
 |b::l,s=>by
  have h:=zhd l (zfj s b);have:(zfj s b).1.length≤s.1.length+1:=by unfold zfj;split<;>simp
  rw[List.foldl_cons,List.length_cons]
  omega
def zdw:List (List UInt8):=zaP.map fun s=>if s=[] then[45] else s
theorem zhf:zcF [119,111,114,107,32,115,101,116,32,97,100,100,32,115,117,98,32,108,111,97,100,32,115,116,111,114,101,32,115,101,110,100,32,114,101,99,118,32,119,97,105,116,32,115,105,103,110,97,108,32,114,97,105,115,101,32,108,111,119,101,114,32,117,110,116,105,108,32,112,117,116,32,103,101,116,32,115,104,111,119,32,108,111,111,107,32,99,108,101,97,114,32,110,101,120,116,32,106,117,109,112,32,122,101,114,111,32,108,101,115,115,32,100,105,118,32,102,97,117,108,116,32,115,116,111,112]=zaA:=by decide +kernel
theorem zkv:zcF [119,32,114,118,32,114,114,32,114,114,32,114,97,114,32,114,97,114,32,111,114,108,32,105,114,114,32,115,32,115,32,101,32,101,32,101,32,98,114,32,98,114,32,100,114,32,100,114,32,100,32,45,32,106,32,114,106,32,114,114,106,32,114,114,32,99,32,45]=zdw:=by decide +kernel
theorem zf8:zcF [100,101,97,100,108,105,110,101,32,109,101,109,111,114,121,32,114,97,105,115,101,100,32,110,117,109,101,114,105,99,32,115,116,97,99,107,32,112,111,119,101,114,32,119,105,110,100,111,119]=zal:=by decide +kernel
theorem zgD:zcF [112,114,111,99,101,115,115,32,112,97,114,116,32,109,111,100,117,108,101]=zai:=by decide +kernel
theorem zfR:zcF [105,103,110,111,114,101,32,115,116,111,112,32,114,101,115,116,97,114,116,32,119,97,114,109,32,99,111,108,100,32,105,100,108,101,32,114,101,115,101,116,32,104,97,108,116]=zag:=by decide +kernel
theorem znK:zcF [97,32,98]=zfX:=by decide +kernel
theorem zmS:zcF [115,97,109,112,108,105,110,103,32,113,117,101,117,105,110,103]=ze8:=by decide +kernel
end Go.Proofs.YtgbfaompondolaaGreatDoor
namespace Go.Proofs.YtgbfaompondolaaGreatDoor
open Go.RowKit
theorem le_t {a n:Nat} (h:a≤n):decide ((a:Int)≤(n:Int))=true:=by simp;omega
theorem le_f {a n:Nat} (h: ¬a≤n):decide ((a:Int)≤(n:Int))=false:=by simp;omega
theorem ze1 (b:UInt8) (w:World):Calls Tryz.prog 240 #[.int .u8 (b.toNat:Int)] w fun e w'=>e= .returned (.bool (zbd b))∧w=w':=by
 have HB:Hid (zbd b=((decide (97≤b.toNat)&&decide (b.toNat≤122))||(decide (65≤b.toNat)&&decide (b.toNat≤90)))):=rfl;generalize b.toNat=n at *;generalize zbd b=x at *;by_cases g1:97≤n
 ·by_cases g2:n≤122
  ·have HR:=zaa (show x=true by rw[HB.out];simp[g1,g2])
   have e1:decide ((97:Int)≤(n:Int))=true:=by simp;omega
   have e2:decide ((n:Int)≤122)=true:=by simp;omega
   clear g1 g2
   go_enter Tryz.func240,Tryz.ntmps240
   go_wp2_with fail;go_ret;exact⟨by rw[HR.out];rfl,rfl⟩
  ·have HR:=zaa (show x=false by rw[HB.out];simp[g1,g2];omega)
   have e1:decide ((97:Int)≤(n:Int))=true:=by simp;omega
   have e2:decide ((n:Int)≤122)=false:=by simp;omega
   have e3:decide ((65:Int)≤(n:Int))=true:=by simp;omega
   have e4:decide ((n:Int)≤90)=false:=by simp;omega
   clear g1 g2
   go_enter Tryz.func240,Tryz.ntmps240
   go_wp2_with fail;go_ret;exact⟨by rw[HR.out];rfl,rfl⟩
 ·have e1:decide ((97:Int)≤(n:Int))=false:=by simp;omega
  by_cases g3:65≤n
  ·have e3:decide ((65:Int)≤(n:Int))=true:=by simp;omega
   by_cases g4:n≤90
   ·have HR:=zaa (show x=true by rw[HB.out];simp[g1,g3,g4])
    have e4:decide ((n:Int)≤90)=true:=by simp;omega
    clear g1 g3 g4
    go_enter Tryz.func240,Tryz.ntmps240
    go_wp2_with fail;go_ret;exact⟨by rw[HR.out];rfl,rfl⟩
   ·have HR:=zaa (show x=false by rw[HB.out];simp[g1,g3,g4])
    have e4:decide ((n:Int)≤90)=false:=by simp;omega
    clear g1 g3 g4
    go_enter Tryz.func240,Tryz.ntmps240
    go_wp2_with fail;go_ret;exact⟨by rw[HR.out];rfl,rfl⟩
  ·have e3:decide ((65:Int)≤(n:Int))=false:=by simp;omega
   have HR:=zaa (show x=false by rw[HB.out];simp[g1,g3]);clear g1 g3
   go_enter Tryz.func240,Tryz.ntmps240
   go_wp2_with fail;go_ret;exact⟨by rw[HR.out];rfl,rfl⟩
theorem ziX (b:UInt8) (w:World):Calls Tryz.prog 273 #[.int .u8 (b.toNat:Int)] w fun e w'=>e= .returned (.bool (zbc b))∧w=w':=by
 have HB:Hid (zbc b=(decide (48≤b.toNat)&&decide (b.toNat≤57))):=rfl;generalize b.toNat=n at *;generalize zbc b=x at *;by_cases g1:48≤n
 ·have e1:decide ((48:Int)≤(n:Int))=true:=by simp;omega
  by_cases g2:n≤57
  ·have HR:=zaa (show x=true by rw[HB.out];simp[g1,g2])
   have e2:decide ((n:Int)≤57)=true:=by simp;omega
   clear g1 g2
   go_enter Tryz.func273,Tryz.ntmps273
   go_wp2_with fail;go_ret;exact⟨by rw[HR.out];rfl,rfl⟩
  ·have HR:=zaa (show x=false by rw[HB.out];simp[g1,g2])
   have e2:decide ((n:Int)≤57)=false:=by simp;omega
   clear g1 g2
   go_enter Tryz.func273,Tryz.ntmps273
   go_wp2_with fail;go_ret;exact⟨by rw[HR.out];rfl,rfl⟩
 ·have e1:decide ((48:Int)≤(n:Int))=false:=by simp;omega
  have HR:=zaa (show x=false by rw[HB.out];simp[g1]);clear g1
  go_enter Tryz.func273,Tryz.ntmps273
  go_wp2_with fail;go_ret;exact⟨by rw[HR.out];rfl,rfl⟩
theorem znm (b:UInt8) (k:UInt8):((b.toNat:Int)==(k.toNat:Int))=(b==k):=by
 rw[Bool.eq_iff_iff];simp only[beq_iff_eq];rw[←UInt8.toNat_inj]
 omega
theorem ziW (b:UInt8) (w:World):Calls Tryz.prog 241 #[.int .u8 (b.toNat:Int)] w fun e w'=>e= .returned (.bool (zbb b))∧w=w':=by
 have HL:=zaa (fun w=>ze1 b w);have HD:=zaa (fun w=>ziX b w);have HX:Hid (zbb b=(zbd b||zbc b||b==95)):=rfl;have HE:Hid (((b.toNat:Int)==95)=(b==95)):=znm b 95;generalize zbd b=l at *;generalize zbc b=d at *;generalize zbb b=x at *;generalize(b==95)=u at *;generalize(b.toNat:Int)=n at *
 cases l
 ·cases d
  ·cases hu:u
   ·have HR:=zaa (show x=false by rw[HX.out,hu];rfl)
    have he:=HE.out.trans hu;clear hu
    go_enter Tryz.func241,Tryz.ntmps241
    go_wp2_with(first|(go_at_call 240;refine(HL.out _).mono ?_;rintro e w' ⟨rfl,rfl⟩)|(go_at_call 273;refine(HD.out _).mono ?_;rintro e w' ⟨rfl,rfl⟩))
    go_ret;exact⟨by rw[HR.out];rfl,rfl⟩
   ·have HR:=zaa (show x=true by rw[HX.out,hu];rfl)
    have he:=HE.out.trans hu;clear hu
    go_enter Tryz.func241,Tryz.ntmps241
    go_wp2_with(first|(go_at_call 240;refine(HL.out _).mono ?_;rintro e w' ⟨rfl,rfl⟩)|(go_at_call 273;refine(HD.out _).mono ?_;rintro e w' ⟨rfl,rfl⟩))
    go_ret;exact⟨by rw[HR.out];rfl,rfl⟩
  ·have HR:=zaa (show x=true by rw[HX.out];rfl)
   go_enter Tryz.func241,Tryz.ntmps241
   go_wp2_with(first|(go_at_call 240;refine(HL.out _).mono ?_;rintro e w' ⟨rfl,rfl⟩)|(go_at_call 273;refine(HD.out _).mono ?_;rintro e w' ⟨rfl,rfl⟩))
   go_ret;exact⟨by rw[HR.out];rfl,rfl⟩
 ·have HR:=zaa (show x=true by rw[HX.out];rfl)
  go_enter Tryz.func241,Tryz.ntmps241
  go_wp2_with(first|(go_at_call 240;refine(HL.out _).mono ?_;rintro e w' ⟨rfl,rfl⟩)|(go_at_call 273;refine(HD.out _).mono ?_;rintro e w' ⟨rfl,rfl⟩))
  go_ret;exact⟨by rw[HR.out];rfl,rfl⟩
end Go.Proofs.YtgbfaompondolaaGreatDoor
namespace Go.Proofs.YtgbfaompondolaaGreatDoor
open Go.RowKit
theorem cellz2 {w:World} {b:Nat} {T:TypeId} {v0 v1:Value} (h:w.heap[b]? =some (.cells #[v0,v1] T (0,0))):w.cell? ⟨b,0,none⟩=some v0∧w.cell? ⟨b,1,none⟩=some v1:=⟨cell_of_row _ _ 0 _ _ _ h,cell_of_row _ _ 1 _ _ _ h⟩
theorem zdy {w:World} {b:Nat} {T:TypeId} {v0 v1 v2:Value} (h:w.heap[b]? =some (.cells #[v0,v1,v2] T (0,0))):w.cell? ⟨b,0,none⟩=some v0∧w.cell? ⟨b,1,none⟩=some v1∧w.cell? ⟨b,2,none⟩=some v2:=⟨cell_of_row _ _ 0 _ _ _ h,cell_of_row _ _ 1 _ _ _ h,cell_of_row _ _ 2 _ _ _ h⟩
theorem zcf {w:World} {b:Nat} {T:TypeId} {v0 v1 v2 v3:Value} (h:w.heap[b]? =some (.cells #[v0,v1,v2,v3] T (0,0))):w.cell? ⟨b,0,none⟩=some v0∧w.cell? ⟨b,1,none⟩=some v1∧w.cell? ⟨b,2,none⟩=some v2∧w.cell? ⟨b,3,none⟩=some v3:=⟨cell_of_row _ _ 0 _ _ _ h,cell_of_row _ _ 1 _ _ _ h,cell_of_row _ _ 2 _ _ _ h,cell_of_row _ _ 3 _ _ _ h⟩
theorem zbw {w:World} {b:Nat} {T:TypeId} {v0 v1 v2 v3 v4:Value} (h:w.heap[b]? =some (.cells #[v0,v1,v2,v3,v4] T (0,0))):w.cell? ⟨b,0,none⟩=some v0∧w.cell? ⟨b,1,none⟩=some v1∧w.cell? ⟨b,2,none⟩=some v2∧w.cell? ⟨b,3,none⟩=some v3∧w.cell? ⟨b,4,none⟩=some v4:=⟨cell_of_row _ _ 0 _ _ _ h,cell_of_row _ _ 1 _ _ _ h,cell_of_row _ _ 2 _ _ _ h,cell_of_row _ _ 3 _ _ _ h,cell_of_row _ _ 4 _ _ _ h⟩
theorem ze2 {w:World} {b:Nat} {T:TypeId} {v0 v1 v2 v3 v4 v5:Value} (h:w.heap[b]? =some (.cells #[v0,v1,v2,v3,v4,v5] T (0,0))):w.cell? ⟨b,0,none⟩=some v0∧w.cell? ⟨b,1,none⟩=some v1∧w.cell? ⟨b,2,none⟩=some v2∧w.cell? ⟨b,3,none⟩=some v3∧w.cell? ⟨b,4,none⟩=some v4∧w.cell? ⟨b,5,none⟩=some v5:=⟨cell_of_row _ _ 0 _ _ _ h,cell_of_row _ _ 1 _ _ _ h,cell_of_row _ _ 2 _ _ _ h,cell_of_row _ _ 3 _ _ _ h,cell_of_row _ _ 4 _ _ _ h,cell_of_row _ _ 5 _ _ _ h⟩
theorem zhX {w:World} {b:Nat} {T:TypeId} {v0 v1 v2 v3 v4 v5 v6:Value} (h:w.heap[b]? =some (.cells #[v0,v1,v2,v3,v4,v5,v6] T (0,0))):w.cell? ⟨b,0,none⟩=some v0∧w.cell? ⟨b,1,none⟩=some v1∧w.cell? ⟨b,2,none⟩=some v2∧w.cell? ⟨b,3,none⟩=some v3∧w.cell? ⟨b,4,none⟩=some v4∧w.cell? ⟨b,5,none⟩=some v5∧w.cell? ⟨b,6,none⟩=some v6:=⟨cell_of_row _ _ 0 _ _ _ h,cell_of_row _ _ 1 _ _ _ h,cell_of_row _ _ 2 _ _ _ h,cell_of_row _ _ 3 _ _ _ h,cell_of_row _ _ 4 _ _ _ h,cell_of_row _ _ 5 _ _ _ h,cell_of_row _ _ 6 _ _ _ h⟩
theorem zaM {w:World} {b:Nat} {T:TypeId} {v0 v1 v2 v3 v4 v5 v6 v7:Value} (h:w.heap[b]? =some (.cells #[v0,v1,v2,v3,v4,v5,v6,v7] T (0,0))):w.cell? ⟨b,0,none⟩=some v0∧w.cell? ⟨b,1,none⟩=some v1∧w.cell? ⟨b,2,none⟩=some v2∧w.cell? ⟨b,3,none⟩=some v3∧w.cell? ⟨b,4,none⟩=some v4∧w.cell? ⟨b,5,none⟩=some v5∧w.cell? ⟨b,6,none⟩=some v6∧w.cell? ⟨b,7,none⟩=some v7:=⟨cell_of_row _ _ 0 _ _ _ h,cell_of_row _ _ 1 _ _ _ h,cell_of_row _ _ 2 _ _ _ h,cell_of_row _ _ 3 _ _ _ h,cell_of_row _ _ 4 _ _ _ h,cell_of_row _ _ 5 _ _ _ h,cell_of_row _ _ 6 _ _ _ h,cell_of_row _ _ 7 _ _ _ h⟩
theorem zbU {w:World} {b:Nat} {T:TypeId} {v0 v1 v2 v3 v4 v5 v6 v7 v8 v9:Value} (h:w.heap[b]? =some (.cells #[v0,v1,v2,v3,v4,v5,v6,v7,v8,v9] T (0,0))):w.cell? ⟨b,0,none⟩=some v0∧w.cell? ⟨b,1,none⟩=some v1∧w.cell? ⟨b,2,none⟩=some v2∧w.cell? ⟨b,3,none⟩=some v3∧w.cell? ⟨b,4,none⟩=some v4∧w.cell? ⟨b,5,none⟩=some v5∧w.cell? ⟨b,6,none⟩=some v6∧w.cell? ⟨b,7,none⟩=some v7∧w.cell? ⟨b,8,none⟩=some v8∧w.cell? ⟨b,9,none⟩=some v9:=⟨cell_of_row _ _ 0 _ _ _ h,cell_of_row _ _ 1 _ _ _ h,cell_of_row _ _ 2 _ _ _ h,cell_of_row _ _ 3 _ _ _ h,cell_of_row _ _ 4 _ _ _ h,cell_of_row _ _ 5 _ _ _ h,cell_of_row _ _ 6 _ _ _ h,cell_of_row _ _ 7 _ _ _ h,cell_of_row _ _ 8 _ _ _ h,cell_of_row _ _ 9 _ _ _ h⟩
end Go.Proofs.YtgbfaompondolaaGreatDoor
