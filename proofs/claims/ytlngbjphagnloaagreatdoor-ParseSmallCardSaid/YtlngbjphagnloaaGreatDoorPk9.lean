/- Merged texts of the walks and of the plain laws on which the statement leans.-/
import Derived.Test.YtlngbjphagnloaaGreatDoorPk8
import Derived.Test.YtlngbjphagnloaaGreatDoorPk1
import Derived.LaidMore
import Derived.HandedShaped
import Derived.ProofKit
import Derived.OpenShut
import Derived.Test.YtlngbjphagnloaaGreatDoorPk2
import Derived.Test.YtlngbjphagnloaaGreatDoorPk4
import Derived.Test.YtlngbjphagnloaaGreatDoorPk3
set_option maxHeartbeats 4000000
set_option maxRecDepth 100000
namespace Go.Proofs.YtlngbjphagnloaaGreatDoor
open Tryz
open Go.RowKit
attribute [local go_sem] zax.cell zbW
theorem zh8 (x y:zaK) (ua0 ub0 ua1 ub1 ua2 ub2 ua3 ub3 ua4 ub4 ua5 ub5 ua6 ub6 ua7 ub7:Value) (W:World) (Ha0:Hid (DAt W (fun _=>True) ua0 (.row 4 (x.modules.map zdZ.cells)))) (Hb0:Hid (DAt W (fun _=>True) ub0 (.row 4 (y.modules.map zdZ.cells)))) (Ha1:Hid (DAt W (fun _=>True) ua1 (.row 4 (x.channels.map zcU.cells)))) (Hb1:Hid (DAt W (fun _=>True) ub1 (.row 4 (y.channels.map zcU.cells)))) (Ha2:Hid (DAt W (fun _=>True) ua2 (.row 4 (x.switches.map SwD.cells)))) (Hb2:Hid (DAt W (fun _=>True) ub2 (.row 4 (y.switches.map SwD.cells)))) (Ha3:Hid (DAt W (fun _=>True) ua3 (.row 4 (x.links.map zc6.cells)))) (Hb3:Hid (DAt W (fun _=>True) ub3 (.row 4 (y.links.map zc6.cells)))) (Ha4:Hid (DAt W (fun _=>True) ua4 (.row 7 (x.vls.map VlD.cells)))) (Hb4:Hid (DAt W (fun _=>True) ub4 (.row 7 (y.vls.map VlD.cells)))) (Ha5:Hid (DAt W (fun _=>True) ua5 (.row 5 (x.health.map zaI.cells)))) (Hb5:Hid (DAt W (fun _=>True) ub5 (.row 5 (y.health.map zaI.cells)))) (Ha6:Hid (DAt W (fun _=>True) ua6 (.row 3 (x.causes.map zbl.cells)))) (Hb6:Hid (DAt W (fun _=>True) ub6 (.row 3 (y.causes.map zbl.cells)))) (Ha7:Hid (DAt W (fun _=>True) ua7 (.row 4 (x.versions.map zgD.cells)))) (Hb7:Hid (DAt W (fun _=>True) ub7 (.row 4 (y.versions.map zgD.cells)))) (hx:x.sm) (hy:y.sm):
 Calls prog 12 #[.agg #[ua0,ua1,ua2,ua3,ua4,ua5,ua6,ua7],.agg #[ub0,ub1,ub2,ub3,ub4,ub5,ub6,ub7]] W fun e w'=>e= .returned (.bool (eqB x y))∧Below W.heap.size W w':=by
 obtain⟨p0,p1,p2,p3,p4,p5,p6,p7⟩:=x;obtain⟨q0,q1,q2,q3,q4,q5,q6,q7⟩:=y;dsimp only at *;have HSX:Hid _:=hx;have HSY:Hid _:=hy;clear hx hy;have HC0:=zaa (fun(V:World) (hb:Below W.heap.size W V)=>zhI ua0 ub0 p0 q0 V (zaa (Ha0.out.later hb)) (zaa (Hb0.out.later hb)) HSX.out.modules.1 HSY.out.modules.1 HSX.out.modules.2 HSY.out.modules.2);have HC1:=zaa (fun(V:World) (hb:Below W.heap.size W V)=>zgB ua1 ub1 p1 q1 V (zaa (Ha1.out.later hb)) (zaa (Hb1.out.later hb)) HSX.out.channels.1 HSY.out.channels.1 HSX.out.channels.2 HSY.out.channels.2);have HC2:=zaa (fun(V:World) (hb:Below W.heap.size W V)=>zgv ua2 ub2 p2 q2 V (zaa (Ha2.out.later hb)) (zaa (Hb2.out.later hb)) HSX.out.switches HSY.out.switches);have HC3:=zaa (fun(V:World) (hb:Below W.heap.size W V)=>zka ua3 ub3 p3 q3 V (zaa (Ha3.out.later hb)) (zaa (Hb3.out.later hb)) HSX.out.links HSY.out.links);have HC4:=zaa (fun(V:World) (hb:Below W.heap.size W V)=>zmz ua4 ub4 p4 q4 V (zaa (Ha4.out.later hb)) (zaa (Hb4.out.later hb)) HSX.out.vls.1 HSY.out.vls.1 HSX.out.vls.2 HSY.out.vls.2);have HC5:=zaa (fun(V:World) (hb:Below W.heap.size W V)=>zhN ua5 ub5 p5 q5 V (zaa (Ha5.out.later hb)) (zaa (Hb5.out.later hb)) HSX.out.health HSY.out.health);have HC6:=zaa (fun(V:World) (hb:Below W.heap.size W V)=>zic ua6 ub6 p6 q6 V (zaa (Ha6.out.later hb)) (zaa (Hb6.out.later hb)) HSX.out.causes.1 HSY.out.causes.1 HSX.out.causes.2 HSY.out.causes.2);have HC7:=zaa (fun(V:World) (hb:Below W.heap.size W V)=>zgm ua7 ub7 p7 q7 V (zaa (Ha7.out.later hb)) (zaa (Hb7.out.later hb)) HSX.out.versions HSY.out.versions);obtain⟨EQ,hEQ⟩: ∃b,eqB (⟨p0,p1,p2,p3,p4,p5,p6,p7⟩:zaK) ⟨q0,q1,q2,q3,q4,q5,q6,q7⟩=b:=⟨_,rfl⟩;rw[hEQ];clear Ha0 Hb0 Ha1 Hb1 Ha2 Hb2 Ha3 Hb3 Ha4 Hb4 Ha5 Hb5 Ha6 Hb6 Ha7 Hb7 HSX HSY;rcases dR p0 q0 with h|rfl
 rotate_left;rcases dR p1 q1 with h|rfl
 rotate_left;rcases dR p2 q2 with h|rfl
 rotate_left;rcases dR p3 q3 with h|rfl
 rotate_left;rcases dR p4 q4 with h|rfl
 rotate_left;rcases dR p5 q5 with h|rfl
 rotate_left;rcases dR p6 q6 with h|rfl
 rotate_left;rcases dR p7 q7 with h|rfl
 rotate_left
 all_goals
  first
   |have hq:EQ=true:=hEQ.symm.trans (zaT rfl)
   |have hq:EQ=false:=hEQ.symm.trans (zbm (by intro e;cases e;simp[zbW] at h))
  subst hq;clear hEQ
  go_enter func12,ntmps12
  go_wp2_with fail
  try
   with_reducible refine(HC0.out _ (((Below.refl _ W).alloc (Nat.le_refl _) _).alloc (by simp) _)).mono ?_
   rintro e w0 ⟨rfl,hb0⟩;have HB0:=zaa ((((Below.refl _ W).alloc (Nat.le_refl _) _).alloc (by simp) _:Below W.heap.size W _).trans (hb0.mono (by simp;omega)));have hz0:W.heap.size+1<w0.heap.size:=by have:=hb0.size;simp at this;omega
   have hy0:W.heap.size<w0.heap.size:=by omega
   obtain⟨hc0,hf0⟩:=zdz hb0;clear hb0;go_wp2_with fail
  try
   with_reducible refine(HC1.out _ HB0.out).mono ?_
   rintro e w1 ⟨rfl,hb1⟩;have HB1:=zaa (btZ HB0.out hb1);have hz1:W.heap.size+1<w1.heap.size:=by have:=hb1.size;omega
   have hy1:W.heap.size<w1.heap.size:=by omega
   obtain⟨hc1,hf1⟩:=zdz hb1;clear hb1;go_wp2_with fail
  try
   with_reducible refine(HC2.out _ HB1.out).mono ?_
   rintro e w2 ⟨rfl,hb2⟩;have HB2:=zaa (btZ HB1.out hb2);have hz2:W.heap.size+1<w2.heap.size:=by have:=hb2.size;omega
   have hy2:W.heap.size<w2.heap.size:=by omega
   obtain⟨hc2,hf2⟩:=zdz hb2;clear hb2;go_wp2_with fail
  try
   with_reducible refine(HC3.out _ HB2.out).mono ?_
   rintro e w3 ⟨rfl,hb3⟩;have HB3:=zaa (btZ HB2.out hb3);have hz3:W.heap.size+1<w3.heap.size:=by have:=hb3.size;omega
   have hy3:W.heap.size<w3.heap.size:=by omega
   obtain⟨hc3,hf3⟩:=zdz hb3;clear hb3;go_wp2_with fail
  try
   with_reducible refine(HC4.out _ HB3.out).mono ?_
   rintro e w4 ⟨rfl,hb4⟩;have HB4:=zaa (btZ HB3.out hb4);have hz4:W.heap.size+1<w4.heap.size:=by have:=hb4.size;omega
   have hy4:W.heap.size<w4.heap.size:=by omega
   obtain⟨hc4,hf4⟩:=zdz hb4;clear hb4;go_wp2_with fail
  try
   with_reducible refine(HC5.out _ HB4.out).mono ?_
   rintro e w5 ⟨rfl,hb5⟩;have HB5:=zaa (btZ HB4.out hb5);have hz5:W.heap.size+1<w5.heap.size:=by have:=hb5.size;omega
   have hy5:W.heap.size<w5.heap.size:=by omega
   obtain⟨hc5,hf5⟩:=zdz hb5;clear hb5;go_wp2_with fail
  try
   with_reducible refine(HC6.out _ HB5.out).mono ?_
   rintro e w6 ⟨rfl,hb6⟩;have HB6:=zaa (btZ HB5.out hb6);have hz6:W.heap.size+1<w6.heap.size:=by have:=hb6.size;omega
   have hy6:W.heap.size<w6.heap.size:=by omega
   obtain⟨hc6,hf6⟩:=zdz hb6;clear hb6;go_wp2_with fail
  try
   with_reducible refine(HC7.out _ HB6.out).mono ?_
   rintro e w7 ⟨rfl,hb7⟩;have HB7:=zaa (btZ HB6.out hb7);have hz7:W.heap.size+1<w7.heap.size:=by have:=hb7.size;omega
   have hy7:W.heap.size<w7.heap.size:=by omega
   obtain⟨hc7,hf7⟩:=zdz hb7;clear hb7;go_wp2_with fail
  go_ret
  first
   |exact⟨rfl,HB7.out⟩
   |exact⟨rfl,HB6.out⟩
   |exact⟨rfl,HB5.out⟩
   |exact⟨rfl,HB4.out⟩
   |exact⟨rfl,HB3.out⟩
   |exact⟨rfl,HB2.out⟩
   |exact⟨rfl,HB1.out⟩
   |exact⟨rfl,HB0.out⟩
   |exact⟨rfl,(((Below.refl _ W).alloc (Nat.le_refl _) _).alloc (by simp) _)⟩
theorem zhR {H:Type} {enc:TypeId×Value→H} {a:Assume} {C:Checked} {os:Os} {f:FuncId} {fn:Func} {s:ChangeSpec} {conds:List PathCond} {apart fresh handsOn again:Bool} {X:World→Array Value→Prop}
 (hX: ∀(w w':World) (args:Array Value),w.heap=w'.heap→X w args→X w' args)
 (own:ownKnob C.prog.godebug=none) (started:os.Started) (noInit:C.prog.inits.idxOf? f=none) (hfn:C.prog.funcs[f]? =some fn)
 (witness: ∃(w:World) (tape:Tape) (i:Input),w.os=os∧(w.forCall tape i).Shaped C.prog∧i.vars=[]∧Input.okWide C.prog (w.forCall tape i) .any w.heap.size f i∧
   ((s.pre enc C.prog fn conds apart (w.forCall tape i).memory i.args∧X (w.forCall tape i).memory i.args)∧sizedMet enc C.prog fn (OpenSpec.ofChange s) apart (w.forCall tape i).memory i.args)∧a.holds C.prog (lone (Frame.enter C.prog f i.args .normal) [] (w.forCall tape i)))
 (contract: ∀(W:World) (base:Nat) (args:Array Value) (ds gs:List (DataW H)) (before:List MemPlace),
   (∀(j:Nat) t v,fn.params[j]? =some t→args[j]? =some v→Value.okWide C.prog W .any base t v)→
   DataW.Whole enc C.prog fn.params.toList s.vars apart W args.toList ds gs before→
   conds.all (PathCond.test C.prog ⟨fn.params.toList,ds,s.plain.varTypes C.prog,gs⟩)=true→
   (DataW.weightsEach C.prog (fn.params.toList++s.plain.varTypes C.prog) (ds++gs)).all (· ≤reachBytes)=true→X W args→W.ShapedOpen C.prog→
   a.holds C.prog (lone (Frame.enter C.prog f args .normal) [] W)→
   Calls C.prog f args W fun e W'=> ∃v,e= .returned v∧s.post enc C.prog fn apart fresh handsOn again W args v W'):
 ReturnsInHanded a C os f .any (fun w args=>(s.pre enc C.prog fn conds apart w args∧X w args)∧sizedMet enc C.prog fn (OpenSpec.ofChange s) apart w args) (s.post enc C.prog fn apart fresh handsOn again):=by
 refine returnsInHanded_of_calls own started noInit witness ?_;intro w tape i _ hsh _ hok hpre hholds;obtain⟨_,_,_,fn',hfn',_,_,_,_,hval⟩:=hok;have e:fn'=fn:=Option.some.inj (hfn'.symm.trans hfn);subst e;obtain⟨⟨⟨ds,gs,before,hw,hc⟩,hx⟩,hz⟩:=hpre;have hw':=DataW.Whole.of_heap (w':=w.forCall tape i) (by rfl) hw;refine(contract (w.forCall tape i) w.heap.size i.args ds gs before hval hw' hc (hz.weights hw) (hX _ _ _ (by rfl) hx) hsh hholds).mono fun e W' ⟨v,he,hp⟩=> ?_
 subst he;exact ChangeSpec.post_blind hp
structure InS where
 r:List Tok
 size:Nat
 at_:Nat
 err:Nat
def InS.here (s:InS):Tok:=if s.err=0 then s.r.headD ⟨0,[],s.size⟩ else⟨0,[],s.size⟩
def Rf (α:Type):=InS→α×InS
instance:Monad Rf where
 pure a:=fun s=>(a,s)
 bind m f:=fun s=>f (m s).1 (m s).2
def zb9 (e:Nat):Rf Unit:=fun s=>((),if s.err=0 then⟨s.r,s.size,s.here.at_,e⟩ else s)
def InS.sees (t:List UInt8) (s:InS):Bool:=(s.here.kind==1||s.here.kind==3)&&s.here.text==t
def InS.step (s:InS):InS:=⟨s.r.tail,s.size,s.at_,s.err⟩
def isR (t:List UInt8):Rf Bool:=fun s=>if s.sees t then(true,s.step) else(false,s)
def zaR (t:List UInt8):Rf Unit:=fun s=>if s.sees t then((),s.step) else zb9 80 s
def zb4:Rf (List UInt8):=fun s=>if s.here.kind==1 then(s.here.text,s.step) else([],(zb9 80 s).2)
def zcW:Rf Int:=fun s=>if s.here.kind==2 then(((zdg s.here.text:Nat):Int),s.step) else(0,(zb9 80 s).2)
def zbi (t:List UInt8):Rf Int:=do
 zaR t
 zcW
def zba (l:List (List UInt8)):Rf Nat:=fun s=>if zbN l s.here.text != 0&&s.here.kind==1 then(zbN l s.here.text,s.step) else(0,(zb9 80 s).2)
def zfz {α:Type} (x:Rf α):Nat→List α→Rf (List α)
 |0,acc=>pure acc
 |f+1,acc=>do
  let b←isR [44]
  if b then do
   let a←x
   zfz x f (acc++[a])
  else pure acc
def zeM {α:Type} (x:Rf α):Rf (List α):=do
 let a←x
 fun s=>zfz x (s.r.length+1) [a] s
def zoW {α:Type} (x:Res α) (y:α×InS) (s:InS):Prop:=match x with
 | .ok a r=>y=(a,⟨r,s.size,s.at_,0⟩)
 | .bad e r=>e≠0∧y.2.err=e∧y.2.at_=(r.headD ⟨0,[],s.size⟩).at_∧y.2.size=s.size
structure zaY {α:Type} (m:Ps α) (n:Rf α):Prop where
 fine: ∀s,s.err=0→zoW (m s.r) (n s) s
 stay: ∀s,s.err≠0→(n s).2=s
theorem InS.eta {s:InS} (h:s.err=0):s=⟨s.r,s.size,s.at_,0⟩:=by cases s;simp only at h;subst h;rfl
theorem zaY.ret {α:Type} (a:α):zaY (pure a:Ps α) (pure a:Rf α):=
 ⟨fun s h=>by show(a,s)=(a,_);rw[←InS.eta h],fun _ _=>rfl⟩
theorem zaY.bind {α β:Type} {m:Ps α} {n:Rf α} {f:α→Ps β} {g:α→Rf β} (h:zaY m n) (k: ∀a,zaY (f a) (g a)):zaY (m >>= f) (n >>= g):=by
 refine⟨fun s hs=> ?_,fun s hs=> ?_⟩
 ·have h1:=h.fine s hs
  cases hm:m s.r with
  |ok a r=>
   rw[hm] at h1;have h1:n s=(a,⟨r,s.size,s.at_,0⟩):=h1;rw[zac hm];have h2:=(k a).fine ⟨r,s.size,s.at_,0⟩ rfl
   show zoW (f a r) (g (n s).1 (n s).2) s
   rw[h1];exact h2
  |bad e r=>
   rw[hm] at h1;rw[zab hm];obtain⟨h2,h3,h4,h5⟩:=h1;have h6:=(k (n s).1).stay (n s).2 (by rw[h3];exact h2)
   show e≠0∧(g (n s).1 (n s).2).2.err=e∧(g (n s).1 (n s).2).2.at_=_∧(g (n s).1 (n s).2).2.size=_
   rw[h6];exact⟨h2,h3,h4,h5⟩
 ·have h1:=h.stay s hs
  show(g (n s).1 (n s).2).2=s
  rw[h1];exact(k _).stay s hs
theorem InS.here_eq {s:InS} (h:s.err=0):s.here=s.r.headD ⟨0,[],s.size⟩:=if_pos h
theorem InS.kind_eq {s:InS} (h:s.err=0):s.here.kind=(hdT s.r).kind:=by rw[InS.here_eq h];unfold hdT;cases s.r<;>rfl
theorem InS.text_eq {s:InS} (h:s.err=0):s.here.text=(hdT s.r).text:=by rw[InS.here_eq h];unfold hdT;cases s.r<;>rfl
theorem InS.sees_eq {s:InS} (h:s.err=0) (t:List UInt8):s.sees t=zaA t s.r:=by
 unfold InS.sees zaA;rw[InS.kind_eq h,InS.text_eq h,Bool.and_comm]
theorem InS.sees_no {s:InS} (h:s.err≠0) (t:List UInt8):s.sees t=false:=by
 unfold InS.sees InS.here;rw[if_neg h]
 rfl
theorem InS.kind_no {s:InS} (h:s.err≠0):s.here.kind=0:=by unfold InS.here;rw[if_neg h]
theorem zda {s:InS} (h:s.err=0) (e:Nat) (he:e≠0):e≠0∧(zb9 e s).2.err=e∧(zb9 e s).2.at_=(s.r.headD ⟨0,[],s.size⟩).at_∧(zb9 e s).2.size=s.size:=by
 unfold zb9;rw[if_pos h,InS.here_eq h];exact⟨he,rfl,rfl,rfl⟩
theorem zcT {s:InS} (h:s.err≠0) (e:Nat):(zb9 e s).2=s:=if_neg h
theorem zbA {s:InS} (h:s.err=0):s.step=⟨s.r.tail,s.size,s.at_,0⟩:=by unfold InS.step;rw[h]
theorem zfu (t:List UInt8):zaY (zbf t) (isR t):=by
 refine⟨fun s h=> ?_,fun s h=> ?_⟩
 ·unfold zbf isR
  rw[InS.sees_eq h]
  cases zaA t s.r
  ·show(false,s)=(false,_);rw[←InS.eta h]
  ·show(true,s.step)=(true,_);rw[zbA h]
 ·unfold isR;rw[InS.sees_no h];rfl
theorem zar (t:List UInt8):zaY (zbd t) (zaR t):=by
 refine⟨fun s h=> ?_,fun s h=> ?_⟩
 ·unfold zbd zaR
  rw[InS.sees_eq h]
  cases zaA t s.r
  ·exact zda h 80 (by decide)
  ·show((),s.step)=((),_);rw[zbA h]
 ·unfold zaR;rw[InS.sees_no h];exact zcT h 80
theorem zaV:zaY zcb zb4:=by
 refine⟨fun s h=> ?_,fun s h=> ?_⟩
 ·unfold zcb zd5 zb4
  rw[InS.kind_eq h,InS.text_eq h]
  cases(hdT s.r).kind==1
  ·exact zda h 80 (by decide)
  ·show(_,s.step)=(_,_);rw[zbA h]
 ·unfold zb4;rw[InS.kind_no h];exact zcT h 80
theorem zbD:zaY zfe zcW:=by
 refine⟨fun s h=> ?_,fun s h=> ?_⟩
 ·unfold zcW
  rw[InS.kind_eq h,InS.text_eq h]
  cases hk:(hdT s.r).kind==2
  ·have e:zfe s.r= .bad 80 s.r:=zab (by unfold zd5;rw[hk];rfl)
   rw[e];exact zda h 80 (by decide)
  ·have e:zfe s.r= .ok ((zdg (hdT s.r).text:Nat):Int) s.r.tail:=zac (by unfold zd5;rw[hk];rfl)
   rw[e]
   show(_,s.step)=(_,_);rw[zbA h]
 ·unfold zcW;rw[InS.kind_no h];exact zcT h 80
theorem zaQ (t:List UInt8):zaY (zb0 t) (zbi t):=(zar t).bind fun _=>zbD
theorem zb8 (l:List (List UInt8)):zaY (ofP l) (zba l):=by
 refine⟨fun s h=> ?_,fun s h=> ?_⟩
 ·unfold ofP zba
  rw[InS.kind_eq h,InS.text_eq h]
  cases zbN l (hdT s.r).text != 0&&(hdT s.r).kind==1
  ·exact zda h 80 (by decide)
  ·show(_,s.step)=(_,_);rw[zbA h]
 ·unfold zba;rw[InS.kind_no h,show((0:Nat)==1)=false from rfl,Bool.and_false];exact zcT h 80
theorem zgl {α:Type} {x:Ps α} {y:Rf α} (h:zaY x y): ∀(f:Nat) (acc:List α),zaY (zc8 x f acc) (zfz y f acc)
 |0,acc=> .ret acc
 |f+1,acc=>(zfu _).bind fun b=>by
  cases b
  ·exact .ret acc
  ·exact h.bind fun a=>zgl h f (acc++[a])
theorem zaY.dep {α:Type} {m:List Tok→Ps α} {n:InS→Rf α} (h: ∀s0:InS,zaY (m s0.r) (n s0)):zaY (fun r=>m r r) (fun s=>n s s):=
 ⟨fun s hs=>(h s).fine s hs,fun s hs=>(h s).stay s hs⟩
theorem zcK {α:Type} {x:Ps α} {y:Rf α} (h:zaY x y):zaY (zde x) (zeM y):=
 h.bind fun a=>zaY.dep (m:=fun r=>zc8 x (r.length+1) [a]) (n:=fun s=>zfz y (s.r.length+1) [a]) fun _=>zgl h _ _
def zhQ:Rf zeJ:=do
 let m←zb4
 zaR [46]
 let p←zb4
 zaR [46]
 let o←zb4
 pure ⟨m,p,o⟩
theorem zcR:zaY zid zhQ:=zaV.bind fun _=>(zar _).bind fun _=>zaV.bind fun _=>(zar _).bind fun _=>zaV.bind fun _=> .ret _
def zn7:Rf Int:=do
 zaR [110,101,116]
 let n←zba zcG
 pure ((n:Int)-1)
theorem zgZ:zaY zki zn7:=(zar _).bind fun _=>(zb8 _).bind fun _=> .ret _
attribute [local go_sem] zax.cell
def zbI (t:Tok):Value:= .agg #[.int .i64 (t.kind:Int),.string ⟨t.text.toArray⟩,.int .i64 (t.at_:Int)]
structure RIn (rb:Nat) (ts:List Tok) (s:InS) (w:World):Prop where
 lt:rb<w.heap.size
 toks: ∃A c,w.cell? ⟨rb,0,none⟩=some (.slice A ts.length c)∧zey .i64 w A (ts.map Tok.toZ)∧ ∀a,A=some a→a.block<rb
 now: ∃j,j≤ts.length∧s.r=ts.drop j∧w.cell? ⟨rb,1,none⟩=some (.int .i64 (j:Int))
 size:w.cell? ⟨rb,2,none⟩=some (.int .i64 (s.size:Int))
 at_:w.cell? ⟨rb,3,none⟩=some (.int .i64 (s.at_:Int))
 err:w.cell? ⟨rb,4,none⟩=some (.int .i64 (s.err:Int))
 free: ∀o,o<5→w.frozen? ⟨rb,o,none⟩=false
theorem RIn.below {rb:Nat} {ts:List Tok} {s:InS} {w w':World} (h:RIn rb ts s w) (hb:Below w.heap.size w w'):RIn rb ts s w':=by
 have hc: ∀o,w'.cell? ⟨rb,o,none⟩=w.cell? ⟨rb,o,none⟩:=fun o=>hb.cell (p:=⟨rb,o,none⟩) h.lt
 obtain⟨A,c,h0,hr,hA⟩:=h.toks;obtain⟨j,hj,hd,h1⟩:=h.now;exact⟨Nat.lt_of_lt_of_le h.lt hb.size,⟨A,c,(hc 0).trans h0,hr.below hb,hA⟩,⟨j,hj,hd,(hc 1).trans h1⟩,(hc 2).trans h.size,(hc 3).trans h.at_,(hc 4).trans h.err,fun o ho=>(World.frozen?_of_block (a:=⟨rb,o,none⟩) (hb.block rb h.lt)).trans (h.free o ho)⟩
theorem zdc (rb:Nat) (ts:List Tok) (s:InS) (W:World) (H:Hid (RIn rb ts s W)) (_hts:ts.length≤1000000):
 Calls prog 121 #[.pointer (some ⟨rb,0,none⟩)] W fun e W'=>e= .returned (zbI s.here)∧Below W.heap.size W W':=by
 obtain⟨A,c,h0,hr,hA⟩:=H.out.toks;obtain⟨j,hj,hd,h1⟩:=H.out.now;have h2:=H.out.size;have h4:=H.out.err;have hrb:=H.out.lt;by_cases he:s.err=0
 ·rw[he] at h4
  by_cases hjs:j<ts.length
  ·have hL:=zaa (show(ts.map Tok.toZ).length=ts.length by simp)
   have HR:=zaa hr;obtain⟨b,off,t,rfl,hlt,ht,d0,d1,d2⟩:=zig (w':=W) hL HR (Below.refl _ _) hjs;have htt:t=(ts[j]).toZ:=by
    have:=ht.out;simp[hjs] at this;exact this.symm
   subst htt;have k1:decide (j<ts.length)=true:=by simp;exact hjs
   have k2:=kbZ j ts.length;have hh:=zaa (show s.here=ts[j] by unfold InS.here;rw[if_pos he,hd,List.drop_eq_getElem_cons hjs];rfl);clear hr hA hd he;simp only[Tok.toZ] at d0 d1 d2
   go_enter func121,ntmps121
   go_wp2_with fail;go_quiet (fail);go_wp2_with fail
   go_region
   go_wp2_with fail;refine bodyPost_ret (v:=zbI ts[j]) (by simp[results,Tryz.results121,go_sem,zbI]) rfl ?_;refine⟨by rw[hh.out],?_⟩;exact(((zam.alloc (F:=fun _=>False) (zam.refl _ W) _).drewN _).setCell (.inr (Nat.le_refl _)) _ |>.setCell (.inr (Nat.le_refl _)) _ |>.setCell (.inr (Nat.le_refl _)) _).below (Nat.le_refl _) (fun _ _=>not_false)
  ·have k1:decide (j<ts.length)=false:=by simp;omega
   have hh:=zaa (show s.here=⟨0,[],s.size⟩ by unfold InS.here;rw[if_pos he,hd,List.drop_eq_nil_of_le (by omega)];rfl);clear hr hA hd he
   go_enter func121,ntmps121
   go_wp2_with fail;go_quiet (fail);go_wp2_with fail;refine bodyPost_ret (v:=zbI ⟨0,[],s.size⟩) (by simp[results,Tryz.results121,go_sem,zbI]) rfl ?_;refine⟨by rw[hh.out],?_⟩;exact(((zam.alloc (F:=fun _=>False) (zam.refl _ W) _).drewN _).setCell (.inr (Nat.le_refl _)) _ |>.setCell (.inr (Nat.le_refl _)) _ |>.setCell (.inr (Nat.le_refl _)) _).below (Nat.le_refl _) (fun _ _=>not_false)
 ·have e1:((s.err:Int) != 0)=true:=by simp;omega
  have hh:=zaa (show s.here=⟨0,[],s.size⟩ by unfold InS.here;rw[if_neg he]);clear hr hA hd he
  go_enter func121,ntmps121
  go_wp2_with fail;go_quiet (fail);go_wp2_with fail;refine bodyPost_ret (v:=zbI ⟨0,[],s.size⟩) (by simp[results,Tryz.results121,go_sem,zbI]) rfl ?_;refine⟨by rw[hh.out],?_⟩;exact(((zam.alloc (F:=fun _=>False) (zam.refl _ W) _).drewN _).setCell (.inr (Nat.le_refl _)) _ |>.setCell (.inr (Nat.le_refl _)) _ |>.setCell (.inr (Nat.le_refl _)) _).below (Nat.le_refl _) (fun _ _=>not_false)
theorem RIn.set {rb o:Nat} {ts:List Tok} {s s':InS} {w:World} {z:Int} (h:RIn rb ts s w) (ho:1≤o) (h1: ∃j,j≤ts.length∧s'.r=ts.drop j∧(if o=1 then z=(j:Int) else s'.r=s.r)) (h2:if o=2 then z=(s'.size:Int) else s'.size=s.size) (h3:if o=3 then z=(s'.at_:Int) else s'.at_=s.at_) (h4:if o=4 then z=(s'.err:Int) else s'.err=s.err):
 RIn rb ts s' (w.setCell ⟨rb,o,none⟩ (.int .i64 z)):=by
 have same: ∀{u:Value},w.cell? ⟨rb,o,none⟩=some u→(w.setCell ⟨rb,o,none⟩ (.int .i64 z)).cell? ⟨rb,o,none⟩=some (.int .i64 z):=fun e=>World.cell?_setCell_same w _ _ e
 have other: ∀k,k≠o→(w.setCell ⟨rb,o,none⟩ (.int .i64 z)).cell? ⟨rb,k,none⟩=w.cell? ⟨rb,k,none⟩:=fun k hk=>World.cell?_setCell_other w _ _ _ (fun e=>hk (by injection e with _ e _;exact e.symm))
 obtain⟨A,c,g0,gr,gA⟩:=h.toks;obtain⟨j0,_,gd,g1⟩:=h.now;obtain⟨j,hj,hd,h1⟩:=h1;refine⟨by simpa using h.lt,⟨A,c,(other 0 (by omega)).trans g0,?_,gA⟩,?_,?_,?_,?_,fun k hk=>by rw[World.frozen?_setCell];exact h.free k hk⟩
 ·rcases gr with gr|⟨b,off,e,hlt,hc⟩
  ·exact .inl gr
  ·have hne:b≠rb:=fun e2=>by have:=gA _ e;simp at this;omega
   refine .inr ⟨b,off,e,by simpa using hlt,fun i t ht=> ?_⟩;obtain⟨p0,p1,p2⟩:=hc i t ht;have far: ∀k,(w.setCell ⟨rb,o,none⟩ (.int .i64 z)).cell? ⟨b,k,none⟩=w.cell? ⟨b,k,none⟩:=fun k=>World.cell?_setCell_other w _ _ _ (fun e=>hne (by injection e with e _ _;exact e.symm))
   exact⟨(far _).trans p0,(far _).trans p1,(far _).trans p2⟩
 ·by_cases ho1:o=1
  ·subst ho1
   rw[if_pos rfl] at h1;exact⟨j,hj,hd,by rw[←h1];exact same g1⟩
  ·rw[if_neg ho1] at h1
   obtain⟨j0,hj0,gd,g1⟩:=h.now;exact⟨j0,hj0,h1.trans gd,(other 1 (fun e=>ho1 e.symm)).trans g1⟩
 ·by_cases ho2:o=2
  ·subst ho2;rw[if_pos rfl] at h2;rw[←h2];exact same h.size
  ·rw[if_neg ho2] at h2;rw[h2];exact(other 2 (fun e=>ho2 e.symm)).trans h.size
 ·by_cases ho3:o=3
  ·subst ho3;rw[if_pos rfl] at h3;rw[←h3];exact same h.at_
  ·rw[if_neg ho3] at h3;rw[h3];exact(other 3 (fun e=>ho3 e.symm)).trans h.at_
 ·by_cases ho4:o=4
  ·subst ho4;rw[if_pos rfl] at h4;rw[←h4];exact same h.err
  ·rw[if_neg ho4] at h4;rw[h4];exact(other 4 (fun e=>ho4 e.symm)).trans h.err
theorem zcL (a b c:Value) (w:World):(Instr.field 192 (.agg #[a,b,c]) 2).run prog w= .ok c w∧(Instr.field 192 (.agg #[a,b,c]) 1).run prog w= .ok b w∧(Instr.field 192 (.agg #[a,b,c]) 0).run prog w= .ok a w:=⟨by kernel_rfl,by kernel_rfl,by kernel_rfl⟩
theorem zbQ {F:Nat→Prop} {w w':World} (h:Below w.heap.size w w'):zam F w w':=⟨h.os,h.tape,h.output,h.size,fun k hk _=>h.block k hk⟩
theorem zdh (rb er:Nat) (ts:List Tok) (s:InS) (W:World) (H:Hid (RIn rb ts s W)) (hts:ts.length≤1000000):
 Calls prog 86 #[.pointer (some ⟨rb,0,none⟩),.int .i64 (er:Int)] W fun e W'=>e= .returned (.tuple #[])∧RIn rb ts (zb9 er s).2 W'∧zam (fun k=>k=rb) W W':=by
 have h4:=H.out.err;have hrb:=H.out.lt;by_cases he:s.err=0
 ·rw[he] at h4
  go_enter func86,ntmps86
  go_wp2_with fail;refine(zdc rb ts s W H hts).mono ?_;rintro e w1 ⟨rfl,hb⟩;have H1:=H.out.below hb;have c3:=H1.at_;have f3:=H1.free 3 (by decide);have c4:=H1.err;have f4:=H1.free 4 (by decide);have l1:=H1.lt;have HH:=zaa H1;have HB:=zaa hb;clear hb H1;unfold zbI;have hfl:=fun a b c w=>(zcL a b c w).1
  have HF:=zaa (show(zb9 er s).2=⟨s.r,s.size,s.here.at_,er⟩ from if_pos he);have hj:=H.out.now;have HN:=zaa hj;clear hj he h4;go_wp2_with fail;have hK:=((zam.refl (fun k=>k=rb) w1).setCell (p:=⟨rb,3,none⟩) (.inl rfl) (.int .i64 (s.here.at_:Int))).setCell (p:=⟨rb,4,none⟩) (.inl rfl) (.int .i64 (er:Int));have hR:RIn rb ts ⟨s.r,s.size,s.here.at_,er⟩ ((w1.setCell ⟨rb,3,none⟩ (.int .i64 (s.here.at_:Int))).setCell ⟨rb,4,none⟩ (.int .i64 (er:Int))):=by
   obtain⟨j,hj,hd,_⟩:=HN.out;exact(HH.out.set (o:=3) (s':=⟨s.r,s.size,s.here.at_,s.err⟩) (by decide) ⟨j,hj,hd,rfl⟩ rfl rfl rfl).set (o:=4) (by decide) ⟨j,hj,hd,rfl⟩ rfl rfl rfl
  go_end0
  exact⟨rfl,by rw[HF.out];exact hR,(zbQ HB.out).trans hK⟩
 ·have e1:((s.err:Int)==0)=false:=by simp;omega
  have HF:=zaa (show(zb9 er s).2=s from if_neg he);clear he
  go_enter func86,ntmps86
  go_wp2_with fail
  go_end0
  exact⟨rfl,by rw[HF.out];exact H.out,zam.refl _ _⟩
theorem zku (rb:Nat) (x:ByteArray) (ts:List Tok) (s:InS) (W:World) (H:Hid (RIn rb ts s W)) (hts:ts.length≤1000000):
 Calls prog 153 #[.pointer (some ⟨rb,0,none⟩),.string x] W fun e W'=>e= .returned (.bool (s.sees x.data.toList))∧Below W.heap.size W W':=by
 have HH:=zaa (zdc rb ts s W H hts);obtain⟨y,hy⟩: ∃y,x.data.toList=y:=⟨_,rfl⟩;have hx:x=⟨y.toArray⟩:=by rw[←hy]
 rw[hy];subst hx;clear hy;unfold InS.sees;generalize s.here=t at *;obtain⟨tk,tx,ta⟩:=t;have hc:((tk:Int)==1)=true∧(tk==1)=true∨((tk:Int)==1)=false∧(tk==1)=false∧(((tk:Int)==3)=true∧(tk==3)=true∨((tk:Int)==3)=false∧(tk==3)=false):=by
  simp
  omega
 have ht:(tx==y)=true∨(tx==y)=false:=by cases(tx==y)<;>simp
 dsimp only;rcases hc with⟨k1,k2⟩|⟨k1,k2,⟨k3,k4⟩|⟨k3,k4⟩⟩<;>rcases ht with ht|ht
 all_goals
  (try rw[k4])
  rw[k2,ht];unfold zbI at HH
  go_enter func153,ntmps153
  go_wp2_with fail;refine HH.out.mono ?_;rintro e w1 ⟨rfl,hb⟩;have HB:=zaa hb;clear hb;go_wp2_with fail
  (try go_quiet (fail))
  (try go_wp2_with fail)
  go_ret;exact⟨rfl,(HB.out.alloc HB.out.size _)⟩
theorem RIn.step {rb:Nat} {ts:List Tok} {s:InS} {w:World} (h:RIn rb ts s w) (hr:s.r≠[]): ∃j:Nat,j<ts.length∧w.cell? ⟨rb,1,none⟩=some (.int .i64 (j:Int))∧RIn rb ts s.step (w.setCell ⟨rb,1,none⟩ (.int .i64 ((j:Int)+1))):=by
 obtain⟨j,hj,hd,h1⟩:=h.now;have hlt:j<ts.length:=by
  rcases Nat.lt_or_ge j ts.length with h|h
  ·exact h
  ·rw[List.drop_eq_nil_of_le h] at hd
   exact absurd hd hr
 exact⟨j,hlt,h1,h.set (o:=1) (by decide) ⟨j+1,by omega,by show s.r.tail=_;rw[hd];simp,by simp⟩ rfl rfl rfl⟩
theorem zgO {s:InS} {t:List UInt8} (h:s.sees t=true):s.r≠[]:=fun e=>by
 unfold InS.sees InS.here at h;rw[e] at h
 split at h<;>simp at h
theorem zlH (rb:Nat) (x:ByteArray) (ts:List Tok) (s:InS) (W:World) (H:Hid (RIn rb ts s W)) (hts:ts.length≤1000000):
 Calls prog 125 #[.pointer (some ⟨rb,0,none⟩),.string x] W fun e W'=>e= .returned (.bool (isR x.data.toList s).1)∧RIn rb ts (isR x.data.toList s).2 W'∧zam (fun k=>k=rb) W W':=by
 have HS:=zaa (zku rb x ts s W H hts);have hrb:=H.out.lt
 cases hs:s.sees x.data.toList with
 |true=>
  have HI:=zaa (show isR x.data.toList s=(true,s.step) from if_pos hs);rw[hs] at HS;rw[HI.out];have HN:=zaa (zgO hs);clear hs
  go_enter func125,ntmps125
  go_wp2_with fail;refine HS.out.mono ?_;rintro e w1 ⟨rfl,hb⟩;obtain⟨j,hj,c1,hR⟩:=(H.out.below hb).step HN.out;have f1:=(H.out.below hb).free 1 (by decide);have l1:=(H.out.below hb).lt;have HB:=zaa hb;have HR:=zaa hR;clear hb hR;go_wp2_with fail;go_ret;exact⟨rfl,HR.out,(zbQ HB.out).trans ((zam.refl (fun k=>k=rb) w1).setCell (p:=⟨rb,1,none⟩) (.inl rfl) _)⟩
 |false=>
  have HI:=zaa (show isR x.data.toList s=(false,s) from if_neg (by rw[hs];decide));rw[hs] at HS;rw[HI.out];clear hs
  go_enter func125,ntmps125
  go_wp2_with fail;refine HS.out.mono ?_;rintro e w1 ⟨rfl,hb⟩;have HB:=zaa hb;clear hb;go_wp2_with fail;go_ret;exact⟨rfl,H.out.below HB.out,zbQ HB.out⟩
theorem zc9 (rb:Nat) (x:ByteArray) (ts:List Tok) (s:InS) (W:World) (H:Hid (RIn rb ts s W)) (hts:ts.length≤1000000):
 Calls prog 124 #[.pointer (some ⟨rb,0,none⟩),.string x] W fun e W'=>e= .returned (.tuple #[])∧RIn rb ts (zaR x.data.toList s).2 W'∧zam (fun k=>k=rb) W W':=by
 have HS:=zaa (zlH rb x ts s W H hts)
 cases hs:s.sees x.data.toList with
 |true=>
  have HI:=zaa (show isR x.data.toList s=(true,s.step) from if_pos hs);have HM:=zaa (show zaR x.data.toList s=((),s.step) from if_pos hs);rw[HI.out] at HS;rw[HM.out];clear hs
  go_enter func124,ntmps124
  go_wp2_with fail;refine HS.out.mono ?_;rintro e w1 ⟨rfl,h1,h2⟩;have H1:=zaa h1;have H2:=zaa h2;clear h1 h2;go_wp2_with fail
  go_end0
  exact⟨rfl,H1.out,H2.out⟩
 |false=>
  have HI:=zaa (show isR x.data.toList s=(false,s) from if_neg (by rw[hs];decide));have HM:=zaa (show zaR x.data.toList s=zb9 80 s from if_neg (by rw[hs];decide));rw[HI.out] at HS;rw[HM.out];clear hs
  go_enter func124,ntmps124
  go_wp2_with fail;refine HS.out.mono ?_;rintro e w1 ⟨rfl,h1,h2⟩;have H1:=zaa h1;have H2:=zaa h2;clear h1 h2;go_wp2_with fail;refine(zdh rb 80 ts s w1 H1 hts).mono ?_;rintro e w2 ⟨rfl,h1,h2⟩;have H3:=zaa h1;have H4:=zaa h2;clear h1 h2;go_wp2_with fail
  go_end0
  exact⟨rfl,H3.out,H2.out.trans H4.out⟩
def zeN (s:List (List UInt8)×List UInt8) (b:UInt8):List (List UInt8)×List UInt8:=if b=32 then(s.1++[s.2],[]) else(s.1,s.2++[b])
def zbZ (l:List UInt8):List (List UInt8):=(l.foldl zeN ([],[])).1++[(l.foldl zeN ([],[])).2]
theorem zmn {l:List UInt8} {i:Nat} {b:UInt8} (h:l[i]? =some b):(l.take (i+1)).foldl zeN ([],[])=zeN ((l.take i).foldl zeN ([],[])) b:=by
 obtain⟨hi,rfl⟩:=List.getElem?_eq_some_iff.1 h;rw[List.take_succ_eq_append_getElem hi,List.foldl_append]
 rfl
theorem zkF: ∀(l:List UInt8) (s:List (List UInt8)×List UInt8),∃a,s.2++l=a++(l.foldl zeN s).2
 |[],s=>⟨[],by simp⟩
 |b::l,s=>by
  obtain⟨a,ha⟩:=zkF l (zeN s b);rw[List.foldl_cons];by_cases hb:b=32
  ·subst hb
   have e:(zeN s 32).2=[]:=rfl;rw[e] at ha;exact⟨s.2++[32]++a,by rw[List.append_assoc,←ha];simp⟩
  ·have e:(zeN s b).2=s.2++[b]:=by unfold zeN;rw[if_neg hb]
   rw[e] at ha;exact⟨a,by rw[←ha];simp⟩
theorem zmb (l:List UInt8) (i:Nat) (hi:i≤l.length):((l.take i).foldl zeN ([],[])).2.length≤i∧(l.take i).drop (i-((l.take i).foldl zeN ([],[])).2.length)=((l.take i).foldl zeN ([],[])).2:=by
 obtain⟨a,ha⟩:=zkF (l.take i) ([],[]);have ha:l.take i=a++((l.take i).foldl zeN ([],[])).2:=ha;generalize((l.take i).foldl zeN ([],[])).2=c at *;have hl:(l.take i).length=i:=by rw[List.length_take];omega
 have h2:=congrArg List.length ha;rw[hl,List.length_append] at h2;refine⟨by omega,?_⟩;rw[ha,show i-c.length=a.length by omega,List.drop_left]
theorem zh5: ∀(l:List UInt8) (s:List (List UInt8)×List UInt8),(l.foldl zeN s).1.length≤s.1.length+l.length
 |[],s=>by simp
 |b::l,s=>by
  have h:=zh5 l (zeN s b);have:(zeN s b).1.length≤s.1.length+1:=by unfold zeN;split<;>simp
  rw[List.foldl_cons,List.length_cons]
  omega
def zdo:List (List UInt8):=zaN.map fun s=>if s=[] then[45] else s
theorem zfL:zbZ [119,111,114,107,32,115,101,116,32,97,100,100,32,115,117,98,32,108,111,97,100,32,115,116,111,114,101,32,115,101,110,100,32,114,101,99,118,32,119,97,105,116,32,115,105,103,110,97,108,32,114,97,105,115,101,32,108,111,119,101,114,32,117,110,116,105,108,32,112,117,116,32,103,101,116,32,115,104,111,119,32,108,111,111,107,32,99,108,101,97,114,32,110,101,120,116,32,106,117,109,112,32,122,101,114,111,32,108,101,115,115,32,100,105,118,32,102,97,117,108,116,32,115,116,111,112]=zaE:=by decide +kernel
theorem zkp:zbZ [119,32,114,118,32,114,114,32,114,114,32,114,97,114,32,114,97,114,32,111,114,108,32,105,114,114,32,115,32,115,32,101,32,101,32,101,32,98,114,32,98,114,32,100,114,32,100,114,32,100,32,45,32,106,32,114,106,32,114,114,106,32,114,114,32,99,32,45]=zdo:=by decide +kernel
theorem ze9:zbZ [100,101,97,100,108,105,110,101,32,109,101,109,111,114,121,32,114,97,105,115,101,100,32,110,117,109,101,114,105,99,32,115,116,97,99,107,32,112,111,119,101,114,32,119,105,110,100,111,119]=zbG:=by decide +kernel
theorem zeY:zbZ [112,114,111,99,101,115,115,32,112,97,114,116,32,109,111,100,117,108,101]=zbH:=by decide +kernel
theorem zeo:zbZ [105,103,110,111,114,101,32,115,116,111,112,32,114,101,115,116,97,114,116,32,119,97,114,109,32,99,111,108,100,32,105,100,108,101,32,114,101,115,101,116,32,104,97,108,116]=zbu:=by decide +kernel
theorem zke:zbZ [97,32,98]=zcG:=by decide +kernel
theorem zfH:zbZ [115,97,109,112,108,105,110,103,32,113,117,101,117,105,110,103]=zbO:=by decide +kernel
def zio (l:List UInt8) (k:Nat):Prop:=(l.take k).all zaJ=true∧zdg (l.take k)≤1073741824∧(2≤k→l[0]? ≠some 48)
theorem zjt (l:List UInt8):zio l 0:=by refine⟨by simp,by simp[zdg],fun h=>by omega⟩
theorem zd1 {l:List UInt8} (h:zd6 l=true):l.all zaJ=true∧zdg l≤1073741824∧l≠[]∧(2≤l.length→l[0]? ≠some 48):=by
 unfold zd6 at h;simp only[Bool.and_eq_true,decide_eq_true_eq] at h;obtain⟨⟨h1,h2⟩,h3⟩:=h
 match l,h1,h2,h3 with
 |[],h1,h2,h3=>simp at h2
 |[a],h1,h2,h3=>exact⟨h1,h3,by simp,fun h=>by simp at h⟩
 |a::b::r,h1,h2,h3=>exact⟨h1,h3,by simp,fun _=>by simpa using h2⟩
theorem znD {l:List UInt8} (h1:l.all zaJ=true) (h2:zdg l≤1073741824) (h3:l≠[]) (h4:2≤l.length→l[0]? ≠some 48):zd6 l=true:=by
 unfold zd6;simp only[Bool.and_eq_true,decide_eq_true_eq]
 match l,h1,h2,h3,h4 with
 |[],h1,h2,h3,h4=>exact absurd rfl h3
 |[a],h1,h2,h3,h4=>exact⟨⟨h1,rfl⟩,h2⟩
 |a::b::r,h1,h2,h3,h4=>exact⟨⟨h1,by have:=h4 (by simp);simpa using this⟩,h2⟩
theorem zfB (l:List UInt8) (k:Nat) (b:UInt8) (h:l[k]? =some b):zdg (l.take (k+1))=zdg (l.take k)*10+zew b:=by
 obtain⟨hk,rfl⟩:=List.getElem?_eq_some_iff.1 h;rw[List.take_succ_eq_append_getElem hk];exact zgg 0 _ _
theorem zgX (l:List UInt8) (k:Nat):zdg (l.take k)≤zdg l:=by
 conv=>rhs;rw[←List.take_append_drop k l]
 show zcy 0 _≤zcy 0 _
 unfold zcy;rw[List.foldl_append];exact zfl _ _
theorem zlZ {l:List UInt8} {k:Nat} {b:UInt8} (h:l[k]? =some b) (hb:zaJ b=false):zd6 l=false:=by
 rw[Bool.eq_false_iff];intro hn;have:=List.all_eq_true.1 (zd1 hn).1 b (List.mem_of_getElem? h);rw[hb] at this
 cases this
theorem zkA {l:List UInt8} {k:Nat} (h:zio l k) (h1:1≤k) (hk:k≤l.length) (h0:zdg (l.take k)=0):k=1∧l[0]? =some 48:=by
 obtain⟨ha, -,h3⟩:=h
 match l,hk with
 |[],hk=>simp at hk;omega
 |b::r,hk=>
  obtain⟨k,rfl⟩: ∃j,k=j+1:=⟨k-1,by omega⟩;rw[List.take_succ_cons] at ha h0;simp only[List.all_cons,Bool.and_eq_true] at ha;have hp:b=48:=by
   rcases Classical.em (b=48) with h|h
   ·exact h
   ·have:=zhm b (r.take k) ha.1 h
    have e:zcy 0 (b::r.take k)=zdg (b::r.take k):=rfl
    omega
  subst hp;refine⟨?_,rfl⟩;rcases Nat.eq_zero_or_pos k with h|h
  ·omega
  ·exact absurd rfl (h3 (by omega))
theorem zmX {l:List UInt8} {k:Nat} (h:zio l k) (hk:k<l.length) (h1:1≤k) (h0:zdg (l.take k)=0):zd6 l=false:=by
 rw[Bool.eq_false_iff];intro hn;obtain⟨e1,e2⟩:=zkA h h1 (by omega) h0;exact(zd1 hn).2.2.2 (by omega) e2
theorem zmy {l:List UInt8} {k:Nat} {b:UInt8} (h:l[k]? =some b) (hn:1073741824<zdg (l.take k)*10+zew b):zd6 l=false:=by
 rw[Bool.eq_false_iff];intro hh;have h1:=(zd1 hh).2.1;have h2:=zgX l (k+1);rw[zfB l k b h] at h2
 omega
theorem zmR {l:List UInt8} {k:Nat} {b:UInt8} (h:zio l k) (hk:l[k]? =some b) (hb:zaJ b=true) (h0:1≤k→zdg (l.take k)≠0) (hn:zdg (l.take k)*10+zew b≤1073741824):zio l (k+1):=by
 have hkl:=(List.getElem?_eq_some_iff.1 hk).1;refine⟨?_,by rw[zfB l k b hk];exact hn,fun h2 e=> ?_⟩
 ·obtain⟨hk',rfl⟩:=List.getElem?_eq_some_iff.1 hk
  rw[List.take_succ_eq_append_getElem hk',List.all_append,h.1]
  simpa using hb
 ·rcases Nat.lt_or_ge k 2 with hlt|hge
  ·have hk1:k=1:=by omega
   subst hk1;refine h0 (by omega) ?_
   match l,e with
   |a::r,e=>
    simp only[List.getElem?_cons_zero,Option.some.injEq] at e;subst e
    rfl
  ·exact h.2.2 hge e
theorem znL {l:List UInt8} (h:zio l l.length):zd6 l=decide (0<l.length):=by
 obtain⟨h1,h2,h3⟩:=h;rw[List.take_length] at h1 h2
 cases l with
 |nil=>rfl
 |cons b r=>rw[znD h1 h2 (by simp) h3];simp
theorem zmS (b:UInt8) (h:zaJ b=true):((zew b:Nat):Int)=(b.toNat:Int)-48:=by
 obtain⟨h1,h2⟩:=(zbV b).1 h;unfold zew
 omega
theorem le_t {a n:Nat} (h:a≤n):decide ((a:Int)≤(n:Int))=true:=by simp;omega
theorem le_f {a n:Nat} (h: ¬a≤n):decide ((a:Int)≤(n:Int))=false:=by simp;omega
theorem zfI (b:UInt8) (w:World):Calls prog 147 #[.int .u8 (b.toNat:Int)] w fun e w'=>e= .returned (.bool (za2 b))∧w=w':=by
 have HB:Hid (za2 b=((decide (97≤b.toNat)&&decide (b.toNat≤122))||(decide (65≤b.toNat)&&decide (b.toNat≤90)))):=rfl;generalize b.toNat=n at *;generalize za2 b=x at *;by_cases g1:97≤n
 ·by_cases g2:n≤122
  ·have HR:=zaa (show x=true by rw[HB.out];simp[g1,g2])
   have e1:decide ((97:Int)≤(n:Int))=true:=by simp;omega
   have e2:decide ((n:Int)≤122)=true:=by simp;omega
   clear g1 g2
   go_enter func147,ntmps147
   go_wp2_with fail;go_ret;exact⟨by rw[HR.out];rfl,rfl⟩
  ·have HR:=zaa (show x=false by rw[HB.out];simp[g1,g2];omega)
   have e1:decide ((97:Int)≤(n:Int))=true:=by simp;omega
   have e2:decide ((n:Int)≤122)=false:=by simp;omega
   have e3:decide ((65:Int)≤(n:Int))=true:=by simp;omega
   have e4:decide ((n:Int)≤90)=false:=by simp;omega
   clear g1 g2
   go_enter func147,ntmps147
   go_wp2_with fail;go_ret;exact⟨by rw[HR.out];rfl,rfl⟩
 ·have e1:decide ((97:Int)≤(n:Int))=false:=by simp;omega
  by_cases g3:65≤n
  ·have e3:decide ((65:Int)≤(n:Int))=true:=by simp;omega
   by_cases g4:n≤90
   ·have HR:=zaa (show x=true by rw[HB.out];simp[g1,g3,g4])
    have e4:decide ((n:Int)≤90)=true:=by simp;omega
    clear g1 g3 g4
    go_enter func147,ntmps147
    go_wp2_with fail;go_ret;exact⟨by rw[HR.out];rfl,rfl⟩
   ·have HR:=zaa (show x=false by rw[HB.out];simp[g1,g3,g4])
    have e4:decide ((n:Int)≤90)=false:=by simp;omega
    clear g1 g3 g4
    go_enter func147,ntmps147
    go_wp2_with fail;go_ret;exact⟨by rw[HR.out];rfl,rfl⟩
  ·have e3:decide ((65:Int)≤(n:Int))=false:=by simp;omega
   have HR:=zaa (show x=false by rw[HB.out];simp[g1,g3]);clear g1 g3
   go_enter func147,ntmps147
   go_wp2_with fail;go_ret;exact⟨by rw[HR.out];rfl,rfl⟩
theorem zeG (b:UInt8) (w:World):Calls prog 148 #[.int .u8 (b.toNat:Int)] w fun e w'=>e= .returned (.bool (zaJ b))∧w=w':=by
 have HB:Hid (zaJ b=(decide (48≤b.toNat)&&decide (b.toNat≤57))):=rfl;generalize b.toNat=n at *;generalize zaJ b=x at *;by_cases g1:48≤n
 ·have e1:decide ((48:Int)≤(n:Int))=true:=by simp;omega
  by_cases g2:n≤57
  ·have HR:=zaa (show x=true by rw[HB.out];simp[g1,g2])
   have e2:decide ((n:Int)≤57)=true:=by simp;omega
   clear g1 g2
   go_enter func148,ntmps148
   go_wp2_with fail;go_ret;exact⟨by rw[HR.out];rfl,rfl⟩
  ·have HR:=zaa (show x=false by rw[HB.out];simp[g1,g2])
   have e2:decide ((n:Int)≤57)=false:=by simp;omega
   clear g1 g2
   go_enter func148,ntmps148
   go_wp2_with fail;go_ret;exact⟨by rw[HR.out];rfl,rfl⟩
 ·have e1:decide ((48:Int)≤(n:Int))=false:=by simp;omega
  have HR:=zaa (show x=false by rw[HB.out];simp[g1]);clear g1
  go_enter func148,ntmps148
  go_wp2_with fail;go_ret;exact⟨by rw[HR.out];rfl,rfl⟩
theorem zcm (b:UInt8) (k:UInt8):((b.toNat:Int)==(k.toNat:Int))=(b==k):=by
 rw[Bool.eq_iff_iff];simp only[beq_iff_eq];rw[←UInt8.toNat_inj]
 omega
theorem zjQ (b:UInt8) (w:World):Calls prog 149 #[.int .u8 (b.toNat:Int)] w fun e w'=>e= .returned (.bool (zaP b))∧w=w':=by
 have HL:=zaa (fun w=>zfI b w);have HD:=zaa (fun w=>zeG b w);have HX:Hid (zaP b=(za2 b||zaJ b||b==95)):=rfl;have HE:Hid (((b.toNat:Int)==95)=(b==95)):=zcm b 95;generalize za2 b=l at *;generalize zaJ b=d at *;generalize zaP b=x at *;generalize(b==95)=u at *;generalize(b.toNat:Int)=n at *
 cases l
 ·cases d
  ·cases hu:u
   ·have HR:=zaa (show x=false by rw[HX.out,hu];rfl)
    have he:=HE.out.trans hu;clear hu
    go_enter func149,ntmps149
    go_wp2_with(first|(go_at_call 147;refine(HL.out _).mono ?_;rintro e w' ⟨rfl,rfl⟩)|(go_at_call 148;refine(HD.out _).mono ?_;rintro e w' ⟨rfl,rfl⟩))
    go_ret;exact⟨by rw[HR.out];rfl,rfl⟩
   ·have HR:=zaa (show x=true by rw[HX.out,hu];rfl)
    have he:=HE.out.trans hu;clear hu
    go_enter func149,ntmps149
    go_wp2_with(first|(go_at_call 147;refine(HL.out _).mono ?_;rintro e w' ⟨rfl,rfl⟩)|(go_at_call 148;refine(HD.out _).mono ?_;rintro e w' ⟨rfl,rfl⟩))
    go_ret;exact⟨by rw[HR.out];rfl,rfl⟩
  ·have HR:=zaa (show x=true by rw[HX.out];rfl)
   go_enter func149,ntmps149
   go_wp2_with(first|(go_at_call 147;refine(HL.out _).mono ?_;rintro e w' ⟨rfl,rfl⟩)|(go_at_call 148;refine(HD.out _).mono ?_;rintro e w' ⟨rfl,rfl⟩))
   go_ret;exact⟨by rw[HR.out];rfl,rfl⟩
 ·have HR:=zaa (show x=true by rw[HX.out];rfl)
  go_enter func149,ntmps149
  go_wp2_with(first|(go_at_call 147;refine(HL.out _).mono ?_;rintro e w' ⟨rfl,rfl⟩)|(go_at_call 148;refine(HD.out _).mono ?_;rintro e w' ⟨rfl,rfl⟩))
  go_ret;exact⟨by rw[HR.out];rfl,rfl⟩
theorem zlm (b:UInt8) (w:World):Calls prog 146 #[.int .u8 (b.toNat:Int)] w fun e w'=>e= .returned (.bool (zeI b))∧w=w':=by
 have HX:Hid (zeI b=(b==123||b==125||b==59||b==44||b==46||b==58)):=rfl;have H1:Hid (((b.toNat:Int)==123)=(b==123)):=zcm b 123;have H2:Hid (((b.toNat:Int)==125)=(b==125)):=zcm b 125;have H3:Hid (((b.toNat:Int)==59)=(b==59)):=zcm b 59;have H4:Hid (((b.toNat:Int)==44)=(b==44)):=zcm b 44;have H5:Hid (((b.toNat:Int)==46)=(b==46)):=zcm b 46;have H6:Hid (((b.toNat:Int)==58)=(b==58)):=zcm b 58;generalize(b==123)=u1 at *;generalize(b==125)=u2 at *;generalize(b==59)=u3 at *;generalize(b==44)=u4 at *;generalize(b==46)=u5 at *;generalize(b==58)=u6 at *;generalize zeI b=x at *;generalize(b.toNat:Int)=n at *;have h1:=H1.out
 cases u1
 ·have h2:=H2.out
  cases u2
  ·have h3:=H3.out
   cases u3
   ·have h4:=H4.out
    cases u4
    ·have h5:=H5.out
     cases u5
     ·have h6:=H6.out
      cases u6
      ·have HR:=zaa (show x=false by rw[HX.out];rfl)
       go_enter func146,ntmps146
       go_wp2_with fail;go_ret;exact⟨by rw[HR.out];rfl,rfl⟩
      ·have HR:=zaa (show x=true by rw[HX.out];rfl)
       go_enter func146,ntmps146
       go_wp2_with fail;go_ret;exact⟨by rw[HR.out];rfl,rfl⟩
     ·have HR:=zaa (show x=true by rw[HX.out];rfl)
      go_enter func146,ntmps146
      go_wp2_with fail;go_ret;exact⟨by rw[HR.out];rfl,rfl⟩
    ·have HR:=zaa (show x=true by rw[HX.out];rfl)
     go_enter func146,ntmps146
     go_wp2_with fail;go_ret;exact⟨by rw[HR.out];rfl,rfl⟩
   ·have HR:=zaa (show x=true by rw[HX.out];rfl)
    go_enter func146,ntmps146
    go_wp2_with fail;go_ret;exact⟨by rw[HR.out];rfl,rfl⟩
  ·have HR:=zaa (show x=true by rw[HX.out];rfl)
   go_enter func146,ntmps146
   go_wp2_with fail;go_ret;exact⟨by rw[HR.out];rfl,rfl⟩
 ·have HR:=zaa (show x=true by rw[HX.out];rfl)
  go_enter func146,ntmps146
  go_wp2_with fail;go_ret;exact⟨by rw[HR.out];rfl,rfl⟩
end Go.Proofs.YtlngbjphagnloaaGreatDoor
