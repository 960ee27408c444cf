/- Merged texts of the walks and of the plain laws on which the statement leans.-/
import Derived.Test.YtgbfaompondolaaGreatDoorProg
import Derived.WalkKit
import Derived.WalkSpells
import Derived.WalkLawsBesides
import Derived.Handy
import Derived.BigQuiet
import Derived.Deep.QuietTactic
import Derived.Laws.Rows
import Derived.Lib.Hide
import Derived.Deep.MidRow
import Derived.Deep.Draws
import Derived.Maps.AppendAt
import Derived.Deep.AppendLies
import Derived.Deep.Quiet
import Derived.OrdersHeld
import Derived.StillTail
import Derived.RegionTactic
import Derived.Deep.RegionHeld3
namespace Go.Proofs.YtgbfaompondolaaGreatDoor
open Tryz
open Go.RowKit
theorem zaa {p:Prop} (h:p):Hid p:=h
theorem zo2 {a b:Bool} (h:a=b):Ending.returned (.bool a)= .returned (.bool b):=by rw[h]
theorem zpF {k:IntKind} {a b:Int} (h:a=b):Ending.returned (.int k a)= .returned (.int k b):=by rw[h]
theorem bcell {W w1:World} (hb:Below W.heap.size W w1):(∀b o,b<W.heap.size→w1.cell? ⟨b,o,none⟩=W.cell? ⟨b,o,none⟩)∧(∀b o,b<W.heap.size→w1.frozen? ⟨b,o,none⟩=W.frozen? ⟨b,o,none⟩):=
 ⟨fun b o h=>hb.cell (p:=⟨b,o,none⟩) h,fun b o h=>hb.frozen (p:=⟨b,o,none⟩) h⟩
theorem zau {α:Type _} {xs:Array α} {i:Nat} {a:α} (h:xs[i]? =some a):i<xs.size:=by obtain⟨p,_⟩:=Array.getElem?_eq_some_iff.1 h;exact p
theorem zbE {α:Type _} {l:List α} {k:Nat} (h:k<l.length): ∃x,l[k]? =some x:=⟨_,List.getElem?_eq_getElem h⟩
theorem kbZ (k n:Nat) (h:k<n:=by omega):(0:Int)≤(k:Int)∧(k:Int)<((n:Nat):Int):=by omega
theorem smZ (n:Nat) (h:n≤9223372036854775807:=by omega): ¬9223372036854775807<n:=by omega
theorem zaI {B b o:Nat} {w w':World} {v:Value} (h:Below B w w') (hb:b<B) (a:w.cell? ⟨b,o,none⟩=some v):w'.cell? ⟨b,o,none⟩=some v:=Eq.trans (h.cell (p:=⟨b,o,none⟩) hb) a
theorem zeF {B b o:Nat} {w w':World} {v:Value} (h:Below B w w') (hb:b<B) (a:w.cell? ⟨b,o+0,none⟩=some v):w'.cell? ⟨b,o,none⟩=some v:=Eq.trans (h.cell (p:=⟨b,o,none⟩) hb) a
theorem zad {B b:Nat} {w w':World} {v:Value} (h:Below B w w') (hb:b<B) (o:Nat) (a:w.cell? ⟨b,o,none⟩=some v):w'.cell? ⟨b,o,none⟩=some v:=Eq.trans (h.cell (p:=⟨b,o,none⟩) hb) a
theorem btZ {W w1 w2:World} (h:Below W.heap.size W w1) (k:Below w1.heap.size w1 w2):Below W.heap.size W w2:=h.trans (k.mono h.size)
theorem bkZ {b:Nat} {w w':World} {o:Obj} (k:Below w.heap.size w w') (h:w.heap[b]? =some o):w'.heap[b]? =some o:=(k.block _ (zau h)).trans h
theorem pf3Z {w:World} {b:Nat} {cs:Array Value} {t:TypeId} {u0 u1 u2:Value} {us:List Value} (h:w.heap[b]? =some (.cells cs t (0,0))) (e:cs.toList=u0::u1::u2::us):w.cell? ⟨b,0,none⟩=some u0∧w.cell? ⟨b,1,none⟩=some u1∧w.cell? ⟨b,2,none⟩=some u2:=by and_intros<;>(rw[cell_of_row _ _ _ _ _ _ h,←Array.getElem?_toList,e];rfl)
theorem zc1 {w:World} {b:Nat} {cs:Array Value} {t:TypeId} {u0 u1 u2 u3:Value} {us:List Value} (h:w.heap[b]? =some (.cells cs t (0,0))) (e:cs.toList=u0::u1::u2::u3::us):w.cell? ⟨b,0,none⟩=some u0∧w.cell? ⟨b,1,none⟩=some u1∧w.cell? ⟨b,2,none⟩=some u2∧w.cell? ⟨b,3,none⟩=some u3:=by and_intros<;>(rw[cell_of_row _ _ _ _ _ _ h,←Array.getElem?_toList,e];rfl)
theorem zkI {w:World} {b:Nat} {cs:Array Value} {t:TypeId} {u0 u1 u2 u3 u4:Value} {us:List Value} (h:w.heap[b]? =some (.cells cs t (0,0))) (e:cs.toList=u0::u1::u2::u3::u4::us):w.cell? ⟨b,0,none⟩=some u0∧w.cell? ⟨b,1,none⟩=some u1∧w.cell? ⟨b,2,none⟩=some u2∧w.cell? ⟨b,3,none⟩=some u3∧w.cell? ⟨b,4,none⟩=some u4:=by and_intros<;>(rw[cell_of_row _ _ _ _ _ _ h,←Array.getElem?_toList,e];rfl)
theorem pf6Z {w:World} {b:Nat} {cs:Array Value} {t:TypeId} {u0 u1 u2 u3 u4 u5:Value} {us:List Value} (h:w.heap[b]? =some (.cells cs t (0,0))) (e:cs.toList=u0::u1::u2::u3::u4::u5::us):w.cell? ⟨b,0,none⟩=some u0∧w.cell? ⟨b,1,none⟩=some u1∧w.cell? ⟨b,2,none⟩=some u2∧w.cell? ⟨b,3,none⟩=some u3∧w.cell? ⟨b,4,none⟩=some u4∧w.cell? ⟨b,5,none⟩=some u5:=by and_intros<;>(rw[cell_of_row _ _ _ _ _ _ h,←Array.getElem?_toList,e];rfl)
theorem zpm {w:World} {b:Nat} {cs:Array Value} {t:TypeId} {u0 u1 u2 u3 u4 u5 u6:Value} {us:List Value} (h:w.heap[b]? =some (.cells cs t (0,0))) (e:cs.toList=u0::u1::u2::u3::u4::u5::u6::us):w.cell? ⟨b,0,none⟩=some u0∧w.cell? ⟨b,1,none⟩=some u1∧w.cell? ⟨b,2,none⟩=some u2∧w.cell? ⟨b,3,none⟩=some u3∧w.cell? ⟨b,4,none⟩=some u4∧w.cell? ⟨b,5,none⟩=some u5∧w.cell? ⟨b,6,none⟩=some u6:=by and_intros<;>(rw[cell_of_row _ _ _ _ _ _ h,←Array.getElem?_toList,e];rfl)
theorem zmg {w:World} {b:Nat} {cs:Array Value} {t:TypeId} {u0 u1 u2 u3 u4 u5 u6 u7:Value} {us:List Value} (h:w.heap[b]? =some (.cells cs t (0,0))) (e:cs.toList=u0::u1::u2::u3::u4::u5::u6::u7::us):w.cell? ⟨b,0,none⟩=some u0∧w.cell? ⟨b,1,none⟩=some u1∧w.cell? ⟨b,2,none⟩=some u2∧w.cell? ⟨b,3,none⟩=some u3∧w.cell? ⟨b,4,none⟩=some u4∧w.cell? ⟨b,5,none⟩=some u5∧w.cell? ⟨b,6,none⟩=some u6∧w.cell? ⟨b,7,none⟩=some u7:=by and_intros<;>(rw[cell_of_row _ _ _ _ _ _ h,←Array.getElem?_toList,e];rfl)
theorem pf9Z {w:World} {b:Nat} {cs:Array Value} {t:TypeId} {u0 u1 u2 u3 u4 u5 u6 u7 u8:Value} {us:List Value} (h:w.heap[b]? =some (.cells cs t (0,0))) (e:cs.toList=u0::u1::u2::u3::u4::u5::u6::u7::u8::us):w.cell? ⟨b,0,none⟩=some u0∧w.cell? ⟨b,1,none⟩=some u1∧w.cell? ⟨b,2,none⟩=some u2∧w.cell? ⟨b,3,none⟩=some u3∧w.cell? ⟨b,4,none⟩=some u4∧w.cell? ⟨b,5,none⟩=some u5∧w.cell? ⟨b,6,none⟩=some u6∧w.cell? ⟨b,7,none⟩=some u7∧w.cell? ⟨b,8,none⟩=some u8:=by and_intros<;>(rw[cell_of_row _ _ _ _ _ _ h,←Array.getElem?_toList,e];rfl)
theorem zjT {w:World} {b:Nat} {cs:Array Value} {t:TypeId} {u0 u1 u2 u3 u4 u5 u6 u7 u8 u9:Value} {us:List Value} (h:w.heap[b]? =some (.cells cs t (0,0))) (e:cs.toList=u0::u1::u2::u3::u4::u5::u6::u7::u8::u9::us):w.cell? ⟨b,0,none⟩=some u0∧w.cell? ⟨b,1,none⟩=some u1∧w.cell? ⟨b,2,none⟩=some u2∧w.cell? ⟨b,3,none⟩=some u3∧w.cell? ⟨b,4,none⟩=some u4∧w.cell? ⟨b,5,none⟩=some u5∧w.cell? ⟨b,6,none⟩=some u6∧w.cell? ⟨b,7,none⟩=some u7∧w.cell? ⟨b,8,none⟩=some u8∧w.cell? ⟨b,9,none⟩=some u9:=by and_intros<;>(rw[cell_of_row _ _ _ _ _ _ h,←Array.getElem?_toList,e];rfl)
def zbd (b:UInt8):Bool:=(decide (97≤b.toNat)&&decide (b.toNat≤122))||(decide (65≤b.toNat)&&decide (b.toNat≤90))
def zbc (b:UInt8):Bool:=decide (48≤b.toNat)&&decide (b.toNat≤57)
def zbb (b:UInt8):Bool:=zbd b||zbc b||b==95
def zlC (b:UInt8):Bool:=b==123||b==125||b==59||b==44||b==46||b==58
def zd3 (b:UInt8):Bool:=b==32||b==9||b==10||b==13
def zaL:Bool→List UInt8→Nat
 |_,[]=>0
 |true,b::r=>if b==10 then 1+zaL false r else 1+zaL true r
 |false,b::r=>if zd3 b then 1+zaL false r else if b==35 then 1+zaL true r else 0
def zfA (b:UInt8):Nat:=b.toNat-48
def zpn (s:List UInt8):Nat:=s.foldl (fun n b=>n*10+zfA b) 0
def zns (s:List UInt8):Bool:=s.all zbc&&(match s with
 |[]=>false
 |[_]=>true
 |b::_=>b != 48)&&decide (zpn s≤1073741824)
structure Tok where
 kind:Nat
 text:List UInt8
 at_:Nat
def zfg (r:List UInt8):Nat:=(r.takeWhile zbb).length
def zb4:List UInt8→Nat×Nat×Nat
 |[]=>(0,0,70)
 |b::r=>
  if zbd b then(if 24<1+zfg r then(1,1+zfg r,71) else(1,1+zfg r,0))
  else if zbc b then(if zns (b::r.take (zfg r)) then(2,1+zfg r,0) else(2,1+zfg r,72))
  else if zlC b then(3,1,0)
  else(3,0,70)
def znP:Nat→Nat→List UInt8→List Tok×Nat×Nat
 |0,_,_=>([],0,0)
 |f+1,p,l=>
  match l.drop (zaL false l) with
  |[]=>([],0,0)
  |b::r=>
   let t:=zb4 (b::r)
   if t.2.2=0 then
    let q:=znP f (p+zaL false l+t.2.1) ((b::r).drop t.2.1)
    (⟨t.1,(b::r).take t.2.1,p+zaL false l⟩::q.1,q.2)
   else([],p+zaL false l,t.2.2)
inductive Res (α:Type) where
 |ok (a:α) (r:List Tok)
 |bad (e:Nat) (r:List Tok)
def Ps (α:Type):=List Tok→Res α
def Ps.ret {α:Type} (a:α):Ps α:=fun r=> .ok a r
def Ps.bnd {α β:Type} (m:Ps α) (f:α→Ps β):Ps β:=fun r=>match m r with
 | .ok a r'=>f a r'
 | .bad e r'=> .bad e r'
instance:Monad Ps where
 pure:=Ps.ret
 bind:=Ps.bnd
theorem bnd_ok {α β:Type} {m:Ps α} {f:α→Ps β} {r r':List Tok} {a:α} (h:m r= .ok a r'):(m >>= f) r=f a r':=by
 show Ps.bnd m f r=_
 unfold Ps.bnd;rw[h]
theorem zpc {α β:Type} {m:Ps α} {f:α→Ps β} {r r':List Tok} {e:Nat} (h:m r= .bad e r'):(m >>= f) r= .bad e r':=by
 show Ps.bnd m f r=_
 unfold Ps.bnd;rw[h]
structure zb7 where
 m:List UInt8
 p:List UInt8
 o:List UInt8
structure zb3 where
 op:Nat
 a:Int
 b:Int
 c:Int
structure zaT where
 name:List UInt8
 kind:Nat
 out:Bool
 size:Int
 depth:Int
 refresh:Int
structure za0 where
 name:List UInt8
 prio:Int
 period:Int
 limit:Int
 code:List zb3
structure zaQ where
 name:List UInt8
 period:Int
 length:Int
 mem:Int
 semas:List Int
 events:Int
 boards:Int
 bufs:List Int
 ports:List zaT
 procs:List za0
structure zcy where
 name:List UInt8
 mem:Int
 frame:Int
 parts:List zaQ
structure zbi where
 from_:zb7
 to:List zb7
structure SwD where
 name:List UInt8
 net:Int
 delay:Int
 store:Int
structure zby where
 a:List UInt8
 b:List UInt8
 net:Int
 slow:Int
structure VlD where
 name:List UInt8
 from_:zb7
 bag:Int
 max:Int
 to:List zb7
structure zaB where
 module:List UInt8
 part:List UInt8
 fault:Nat
 level:Nat
 do_:Nat
structure zcu where
 unit:List UInt8
 code:Int
structure zaF where
 unit:List UInt8
 needs:List zcu
 but:List (List UInt8)
structure zdt where
 a:List UInt8
 va:Int
 b:List UInt8
 vb:Int
structure zcS where
 modules:List zcy
 channels:List zbi
 switches:List SwD
 links:List zby
 vls:List VlD
 health:List zaB
 causes:List zaF
 versions:List zdt
def zcS.none:zcS:=⟨[],[],[],[],[],[],[],[]⟩
def zaA:List (List UInt8):=[[119,111,114,107],[115,101,116],[97,100,100],[115,117,98],[108,111,97,100],[115,116,111,114,101],[115,101,110,100],[114,101,99,118],[119,97,105,116],[115,105,103,110,97,108],[114,97,105,115,101],[108,111,119,101,114],[117,110,116,105,108],[112,117,116],[103,101,116],[115,104,111,119],[108,111,111,107],[99,108,101,97,114],[110,101,120,116],[106,117,109,112],[122,101,114,111],[108,101,115,115],[100,105,118],[102,97,117,108,116],[115,116,111,112]]
def zaP:List (List UInt8):=[[119],[114,118],[114,114],[114,114],[114,97,114],[114,97,114],[111,114,108],[105,114,114],[115],[115],[101],[101],[101],[98,114],[98,114],[100,114],[100,114],[100],[],[106],[114,106],[114,114,106],[114,114],[99],[]]
def zal:List (List UInt8):=[[100,101,97,100,108,105,110,101],[109,101,109,111,114,121],[114,97,105,115,101,100],[110,117,109,101,114,105,99],[115,116,97,99,107],[112,111,119,101,114],[119,105,110,100,111,119]]
def zai:List (List UInt8):=[[112,114,111,99,101,115,115],[112,97,114,116],[109,111,100,117,108,101]]
def zag:List (List UInt8):=[[105,103,110,111,114,101],[115,116,111,112],[114,101,115,116,97,114,116],[119,97,114,109],[99,111,108,100],[105,100,108,101],[114,101,115,101,116],[104,97,108,116]]
def zfX:List (List UInt8):=[[97],[98]]
def ze8:List (List UInt8):=[[115,97,109,112,108,105,110,103],[113,117,101,117,105,110,103]]
def zaf (l:List (List UInt8)) (n:Nat):List UInt8:=if n=0 then[] else l.getD (n-1) []
def zlG (l:List (List UInt8)) (s:List UInt8):Nat:=match l.findIdx? (· ==s) with
 |some i=>i+1
 |none=>0
def hdT (r:List Tok):Tok:=r.headD ⟨0,[],0⟩
def zdF (s:List UInt8) (r:List Tok):Bool:=(hdT r).text==s&&((hdT r).kind==1||(hdT r).kind==3)
def zhr (s:List UInt8):Ps Bool:=fun r=>if zdF s r then .ok true r.tail else .ok false r
def failP {α:Type} (e:Nat):Ps α:=fun r=> .bad e r
def zce (s:List UInt8):Ps Unit:=fun r=>if zdF s r then .ok () r.tail else .bad 80 r
def zoF (k:Nat):Ps (List UInt8):=fun r=>if(hdT r).kind==k then .ok (hdT r).text r.tail else .bad 80 r
def zdU:Ps (List UInt8):=zoF 1
def zl2:Ps Int:=do
 let t←zoF 2
 pure ((zpn t:Nat):Int)
def zcE (s:List UInt8):Ps Int:=do
 zce s
 zl2
def ofP (l:List (List UInt8)):Ps Nat:=fun r=>if zlG l (hdT r).text != 0&&(hdT r).kind==1 then .ok (zlG l (hdT r).text) r.tail else .bad 80 r
def zoH {α:Type} (x:Ps α):Nat→List α→Ps (List α)
 |0,acc=>pure acc
 |f+1,acc=>do
  let b←zhr [44]
  if b then do
   let a←x
   zoH x f (acc++[a])
  else pure acc
def ziD {α:Type} (x:Ps α):Ps (List α):=do
 let a←x
 fun r=>zoH x (r.length+1) [a] r
def zo1:Ps zb7:=do
 let m←zdU
 zce [46]
 let p←zdU
 zce [46]
 let o←zdU
 pure ⟨m,p,o⟩
def netP:Ps Int:=do
 zce [110,101,116]
 let n←ofP zfX
 pure ((n:Int)-1)
def opsP:Nat→Ps (List Int)
 |0=>pure []
 |n+1=>do
  let a←zl2
  let l←opsP n
  pure (a::l)
def insP:Ps zb3:=do
 let op←ofP zaA
 let l←opsP (zaf zaP op).length
 zce [59]
 pure ⟨op,l.getD 0 0,l.getD 1 0,l.getD 2 0⟩
def zhD:Nat→List zb3→Ps (List zb3)
 |0,acc=>pure acc
 |f+1,acc=>fun r=>if(hdT r).kind==1 then(do
   let x←insP
   zhD f (acc++[x])) r
  else .ok acc r
def zps:Ps (List zb3):=fun r=>zhD (r.length+1) [] r
def wayP:Ps Bool:=fun r=>if zdF [105,110] r then .ok false r.tail else if zdF [111,117,116] r then .ok true r.tail else .bad 80 r
def zpb:Ps zaT:=do
 let out←wayP
 let name←zdU
 let kind←ofP ze8
 let size←zcE [115,105,122,101]
 if kind=1 then do
  let x←zcE [114,101,102,114,101,115,104]
  zce [59]
  pure ⟨name,kind,out,size,0,x⟩
 else do
  let x←zcE [100,101,112,116,104]
  zce [59]
  pure ⟨name,kind,out,size,x,0⟩
def zpD:Ps za0:=do
 let name←zdU
 let prio←zcE [112,114,105,111]
 let period←zcE [112,101,114,105,111,100]
 let limit←zcE [108,105,109,105,116]
 zce [123]
 let code←zps
 zce [125]
 pure ⟨name,prio,period,limit,code⟩
structure zeh where
 p:zaQ
 what:List (List UInt8)
def zfu:Ps Unit:=fun r=> .ok () r.tail
def zkX (w:List UInt8) (b:zeh) (x:Ps zaQ):Ps zeh:=fun r=>if b.what.contains w then .bad 81 r else(do
 zfu
 let p←x
 zce [59]
 pure (zeh.mk p (b.what++[w]))) r
def zoQ (p:zaQ):Ps zaQ:=do
 let l←ziD zl2
 pure {p with semas:=l}
def zpq (p:zaQ):Ps zaQ:=do
 let l←ziD zl2
 pure {p with bufs:=l}
def zmP (p:zaQ):Ps zaQ:=do
 let n←zl2
 pure {p with events:=n}
def zmR (p:zaQ):Ps zaQ:=do
 let n←zl2
 pure {p with boards:=n}
def zoD (b:zeh):Ps zeh:=fun r=>
 if zdF [115,101,109,97,115] r then zkX [115,101,109,97,115] b (zoQ b.p) r
 else if zdF [98,117,102,115] r then zkX [98,117,102,115] b (zpq b.p) r
 else if zdF [101,118,101,110,116,115] r then zkX [101,118,101,110,116,115] b (zmP b.p) r
 else if zdF [98,111,97,114,100,115] r then zkX [98,111,97,114,100,115] b (zmR b.p) r
 else if zdF [112,114,111,99] r then(do
  zfu
  let x←zpD
  pure (zeh.mk {b.p with procs:=b.p.procs++[x]} b.what)) r
 else(do
  let x←zpb
  pure (zeh.mk {b.p with ports:=b.p.ports++[x]} b.what)) r
def zfz:Nat→zeh→Ps zeh
 |0,b=>pure b
 |f+1,b=>fun r=>if zdF [125] r then .ok b r.tail else(do
   let b'←zoD b
   zfz f b') r
def zpj:Ps zaQ:=do
 let name←zdU
 let period←zcE [112,101,114,105,111,100]
 let length←zcE [108,101,110,103,116,104]
 let mem←zcE [109,101,109]
 zce [123]
 let b←fun r=>zfz (r.length+1) ⟨⟨name,period,length,mem,[],0,0,[],[],[]⟩,[]⟩ r
 pure b.p
def zgs:Nat→List zaQ→Ps (List zaQ)
 |0,acc=>pure acc
 |f+1,acc=>do
  let b←zhr [112,97,114,116]
  if b then do
   let x←zpj
   zgs f (acc++[x])
  else pure acc
def modP:Ps zcy:=do
 let name←zdU
 let mem←zcE [109,101,109]
 let frame←zcE [102,114,97,109,101]
 zce [123]
 let parts←fun r=>zgs (r.length+1) [] r
 zce [125]
 pure ⟨name,mem,frame,parts⟩
def zpw:Ps zbi:=do
 let f←zo1
 zce [116,111]
 let to←ziD zo1
 zce [59]
 pure ⟨f,to⟩
def swP:Ps SwD:=do
 let name←zdU
 let net←netP
 let delay←zcE [100,101,108,97,121]
 let store←zcE [115,116,111,114,101]
 zce [59]
 pure ⟨name,net,delay,store⟩
def zpE:Ps zby:=do
 let a←zdU
 let b←zdU
 let net←netP
 let slow←zcE [115,108,111,119]
 zce [59]
 pure ⟨a,b,net,slow⟩
def vlP:Ps VlD:=do
 let name←zdU
 zce [102,114,111,109]
 let f←zo1
 let bag←zcE [98,97,103]
 let max←zcE [109,97,120]
 zce [116,111]
 let to←ziD zo1
 zce [59]
 pure ⟨name,f,bag,max,to⟩
def optP (s:List UInt8):Ps (List UInt8):=do
 let b←zhr s
 if b then zdU else pure []
def znF:Ps zaB:=do
 let f←ofP zal
 let m←optP [109,111,100,117,108,101]
 let p←optP [112,97,114,116]
 zce [108,101,118,101,108]
 let l←ofP zai
 zce [100,111]
 let d←ofP zag
 zce [59]
 pure ⟨m,p,f,l,d⟩
def repP:Ps zcu:=do
 let u←zdU
 zce [58]
 let c←zl2
 pure ⟨u,c⟩
def zmO:Ps (List (List UInt8)):=do
 let b←zhr [117,110,108,101,115,115]
 if b then ziD zdU else pure []
def zoh:Ps zaF:=do
 let u←zdU
 zce [110,101,101,100,115]
 let n←ziD repP
 let un←zmO
 zce [59]
 pure ⟨u,n,un⟩
def znX:Ps zdt:=do
 let a←zdU
 let va←zl2
 zce [119,105,116,104]
 let b←zdU
 let vb←zl2
 zce [59]
 pure ⟨a,va,b,vb⟩
def zo8 (c:zcS):Ps zcS:=fun r=>
 if zdF [109,111,100,117,108,101] r then(do zfu;let x←modP;pure {c with modules:=c.modules++[x]}) r
 else if zdF [99,104,97,110,110,101,108] r then(do zfu;let x←zpw;pure {c with channels:=c.channels++[x]}) r
 else if zdF [115,119,105,116,99,104] r then(do zfu;let x←swP;pure {c with switches:=c.switches++[x]}) r
 else if zdF [108,105,110,107] r then(do zfu;let x←zpE;pure {c with links:=c.links++[x]}) r
 else if zdF [118,108] r then(do zfu;let x←vlP;pure {c with vls:=c.vls++[x]}) r
 else if zdF [111,110] r then(do zfu;let x←znF;pure {c with health:=c.health++[x]}) r
 else if zdF [99,97,117,115,101] r then(do zfu;let x←zoh;pure {c with causes:=c.causes++[x]}) r
 else if zdF [119,111,114,107,115] r then(do zfu;let x←znX;pure {c with versions:=c.versions++[x]}) r
 else .bad 80 r
def zgb:Nat→zcS→Ps zcS
 |0,c=>pure c
 |f+1,c=>fun r=>match r with
  |[]=> .ok c []
  |_::_=>(do
   let c'←zo8 c
   zgb f c') r
def cfgP:Ps zcS:=fun r=>zgb (r.length+1) zcS.none r
structure zbu (F:Nat→Prop) (w w':World):Prop where
 os:w'.os=w.os
 tape:w'.tape=w.tape
 output:w'.output=w.output
 size:w.heap.size≤w'.heap.size
 block: ∀k,k<w.heap.size→ ¬F k→w'.heap[k]? =w.heap[k]?
theorem zbu.refl (F:Nat→Prop) (w:World):zbu F w w:=⟨rfl,rfl,rfl,Nat.le_refl _,fun _ _ _=>rfl⟩
theorem zbu.trans {F:Nat→Prop} {a b c:World} (h:zbu F a b) (k:zbu F b c):zbu F a c:=
 ⟨k.os.trans h.os,k.tape.trans h.tape,k.output.trans h.output,Nat.le_trans h.size k.size,fun i hi hf=>(k.block i (Nat.lt_of_lt_of_le hi h.size) hf).trans (h.block i hi hf)⟩
theorem zbu.trans2 {F G:Nat→Prop} {a b c:World} (h:zbu F a b) (k:zbu G b c) (hG: ∀i,i<a.heap.size→G i→F i):zbu F a c:=
 ⟨k.os.trans h.os,k.tape.trans h.tape,k.output.trans h.output,Nat.le_trans h.size k.size,fun i hi hf=>(k.block i (Nat.lt_of_lt_of_le hi h.size) (fun hg=>hf (hG i hi hg))).trans (h.block i hi hf)⟩
theorem zbu.mono {F G:Nat→Prop} {a b:World} (h:zbu F a b) (hG: ∀i,F i→G i):zbu G a b:=⟨h.os,h.tape,h.output,h.size,fun i hi hf=>h.block i hi (fun hg=>hf (hG i hg))⟩
theorem zbu.of_below {F:Nat→Prop} {a b:World} (h:Below a.heap.size a b):zbu F a b:=⟨h.os,h.tape,h.output,h.size,fun i hi _=>h.block i hi⟩
theorem zbu.below {F:Nat→Prop} {a b:World} (h:zbu F a b) {B:Nat} (hB:B≤a.heap.size) (hF: ∀i,i<B→ ¬F i):Below B a b:=⟨h.os,h.tape,h.output,h.size,fun i hi=>h.block i (Nat.lt_of_lt_of_le hi hB) (hF i hi)⟩
theorem zbu.drew {F:Nat→Prop} {a w:World} (h:zbu F a w):zbu F a w.drew:=⟨h.os,h.tape,h.output,h.size,h.block⟩
theorem zbu.drewN {F:Nat→Prop} {a w:World} (h:zbu F a w) (n:Nat):zbu F a (w.drewN n):=⟨h.os,h.tape,h.output,h.size,h.block⟩
theorem zbu.alloc {F:Nat→Prop} {a w:World} (h:zbu F a w) (o:Obj):zbu F a (w.alloc o):=h.trans (.of_below ((Below.refl _ _).alloc (Nat.le_refl _) o))
theorem zbu.setCell {F:Nat→Prop} {a w:World} (h:zbu F a w) {p:Addr} (hp:F p.block∨a.heap.size≤p.block) (u:Value):zbu F a (w.setCell p u):=
 ⟨h.os,h.tape,h.output,by simpa [World.setCell] using h.size,fun k hk hf=>(Below.heap_setCell _ _ _ _ (by rintro rfl;rcases hp with hp|hp;exact hf hp;omega)).trans (h.block k hk hf)⟩
theorem zbu.setCells {F:Nat→Prop} {a:World} (b:Nat) (hp:F b∨a.heap.size≤b): ∀(vs:List Value) (o:Nat) (w:World),zbu F a w→zbu F a (w.setCells b o vs)
 |[],_,_,h=>h
 |v::r,o,_,h=>zbu.setCells b hp r (o+1) _ (h.setCell (p:=⟨b,o,none⟩) hp v)
theorem zbu.cell {F:Nat→Prop} {w w':World} (h:zbu F w w') {p:Addr} (hp:p.block<w.heap.size) (hf: ¬F p.block):w'.cell? p=w.cell? p:=World.cell?_of_block (w:=w) (h.block p.block hp hf)
theorem zbu.frozen {F:Nat→Prop} {w w':World} (h:zbu F w w') {p:Addr} (hp:p.block<w.heap.size) (hf: ¬F p.block):w'.frozen? p=w.frozen? p:=World.frozen?_of_block (w:=w) (h.block p.block hp hf)
theorem zbp {w:World} {p:Addr} {u:Value} (h:w.cell? p=some u):p.block<w.heap.size:=World.block_lt_of_cell? w p h
inductive Dat where
 |leaf (v:Value)
 |row (size:Nat) (es:List (List Dat))
inductive DAt (w:World) (G:Nat→Prop):Value→Dat→Prop
 |leaf (v:Value):DAt w G v (.leaf v)
 |nil (A:Option Addr) (c size:Nat):DAt w G (.slice A 0 c) (.row size [])
 |row (b off c size n:Nat) (es:List (List Dat)) (val:Nat→Nat→Value) (hn:es.length=n) (hG:G b) (hb:b<w.heap.size)
  (hc: ∀i j e d,es[i]? =some e→e[j]? =some d→w.cell? ⟨b,off+i*size+j,none⟩=some (val i j))
  (hd: ∀i j e d,es[i]? =some e→e[j]? =some d→DAt w G (val i j) d) (hcap:n≤c):DAt w G (.slice (some ⟨b,off,none⟩) n c) (.row size es)
theorem DAt.keep {w w':World} {G:Nat→Prop} {v:Value} {d:Dat} (h:DAt w G v d) (hz:w.heap.size≤w'.heap.size) (hk: ∀b,G b→b<w.heap.size→w'.heap[b]? =w.heap[b]?):DAt w' G v d:=by
 induction h with
 |leaf v=>exact .leaf v
 |nil A c size=>exact .nil A c size
 |row b off c size n es val hn hG hb hc _ hcap ih=>exact .row b off c size n es val hn hG (Nat.lt_of_lt_of_le hb hz) (fun i j e d he hd=>(World.cell?_of_block (w:=w) (hk b hG hb)).trans (hc i j e d he hd)) ih hcap
theorem DAt.mono {w:World} {G H:Nat→Prop} {v:Value} {d:Dat} (h:DAt w G v d) (hg: ∀b,G b→b<w.heap.size→H b):DAt w H v d:=by
 induction h with
 |leaf v=>exact .leaf v
 |nil A c size=>exact .nil A c size
 |row b off c size n es val hn hG hb hc _ hcap ih=>exact .row b off c size n es val hn (hg b hG hb) hb hc ih hcap
theorem DAt.later {w w':World} {G:Nat→Prop} {v:Value} {d:Dat} (h:DAt w G v d) (hb:Below w.heap.size w w'):DAt w' G v d:=h.keep hb.size (fun b _ hl=>hb.block b hl)
theorem DAt.kept {w w':World} {F G:Nat→Prop} {v:Value} {d:Dat} (h:DAt w G v d) (hk:zbu F w w') (hF: ∀b,G b→ ¬F b):DAt w' G v d:=h.keep hk.size (fun b hg hl=>hk.block b hl (hF b hg))
def zab (w:World) (G:Nat→Prop) (vs:List Value) (ds:List Dat):Prop:=vs.length=ds.length∧ ∀(j:Nat) (v:Value) (d:Dat),vs[j]? =some v→ds[j]? =some d→DAt w G v d
theorem zab.nil {w:World} {G:Nat→Prop}:zab w G [] []:=⟨rfl,fun j v d (h:([]:List Value)[j]? =some v)=>by simp at h⟩
theorem zab.cons {w:World} {G:Nat→Prop} {v:Value} {d:Dat} {vs:List Value} {ds:List Dat} (h:DAt w G v d) (hs:zab w G vs ds):zab w G (v::vs) (d::ds):=by
 refine⟨by simp[hs.1],fun j u e hu he=> ?_⟩
 cases j with
 |zero=>
  simp only[List.getElem?_cons_zero,Option.some.injEq] at hu he;subst hu he;exact h
 |succ j=>exact hs.2 j u e (by simpa using hu) (by simpa using he)
theorem zab.append {w:World} {G:Nat→Prop} {vs us:List Value} {ds es:List Dat} (h:zab w G vs ds) (k:zab w G us es):zab w G (vs++us) (ds++es):=by
 refine⟨by simp[h.1,k.1],fun j v d hv hd=> ?_⟩;by_cases hj:j<vs.length
 ·rw[List.getElem?_append_left hj] at hv
  rw[List.getElem?_append_left (by have:=h.1;omega)] at hd;exact h.2 j v d hv hd
 ·rw[List.getElem?_append_right (by omega)] at hv
  rw[List.getElem?_append_right (by have:=h.1;omega),←h.1] at hd;exact k.2 _ v d hv hd
theorem zab.mono {w:World} {G H:Nat→Prop} {vs:List Value} {ds:List Dat} (h:zab w G vs ds) (hg: ∀b,G b→b<w.heap.size→H b):zab w H vs ds:=⟨h.1,fun j v d hv hd=>(h.2 j v d hv hd).mono hg⟩
theorem zab.keep {w w':World} {G:Nat→Prop} {vs:List Value} {ds:List Dat} (h:zab w G vs ds) (hz:w.heap.size≤w'.heap.size) (hk: ∀b,G b→b<w.heap.size→w'.heap[b]? =w.heap[b]?):zab w' G vs ds:=⟨h.1,fun j v d hv hd=>(h.2 j v d hv hd).keep hz hk⟩
theorem zab.below {w w':World} {G:Nat→Prop} {vs:List Value} {ds:List Dat} (h:zab w G vs ds) (hb:Below w.heap.size w w'):zab w' G vs ds:=h.keep hb.size (fun b _ hl=>hb.block b hl)
structure zgm (w:World) (base:Nat) (t:TypeId) (size:Nat) (v:Value) (n:Nat) (es:List (List Dat)):Prop where
 len:es.length=n
 wide: ∀e∈es,e.length=size
 own: ∃cs,w.ownsRow base t size v n cs∧zab w (fun b=>base≤b∧v.ownBlock≠some b) cs es.flatten
theorem zgm.nil (w:World) (base:Nat) (t:TypeId) (size:Nat):zgm w base t size (.slice none 0 0) 0 []:=
 ⟨rfl,fun _ h=>(by cases h),[],World.ownsRow_nil _ _ _ _,.nil⟩
theorem zaJ {w w':World} {base:Nat} {e:TypeId} {size:Nat} {v:Value} {n:Nat} {xs:List Value} (h:w.ownsRow base e size v n xs) (hb: ∀g,v.ownBlock=some g→base≤g→w'.heap[g]? =w.heap[g]?):w'.ownsRow base e size v n xs:=by
 obtain⟨h1,h2⟩:=h;refine⟨h1,?_⟩;rcases h2 with h2|⟨g,cap,cur,hv,hg,hh,r⟩
 ·exact .inl h2
 ·exact .inr ⟨g,cap,cur,hv,hg,(hb g (by rw[hv];rfl) hg).trans hh,r⟩
theorem zas {w:World} {base:Nat} {e:TypeId} {size:Nat} {v:Value} {n:Nat} {xs:List Value} (h:w.ownsRow base e size v n xs) {g:Nat} (hg:v.ownBlock=some g):base≤g∧g<w.heap.size:=by
 rcases h.2 with⟨rfl,_⟩|⟨g',cap,cur,rfl,hb,hh,_⟩
 ·cases hg
 ·injection hg with hg;subst hg
  exact⟨hb,(zau hh)⟩
theorem zgm.lt {w:World} {base:Nat} {t:TypeId} {size:Nat} {v:Value} {n:Nat} {es:List (List Dat)} (h:zgm w base t size v n es) {g:Nat} (hg:v.ownBlock=some g):base≤g∧g<w.heap.size:=by
 obtain⟨cs,ho,_⟩:=h.own;exact zas ho hg
theorem zgm.keep {w w':World} {base:Nat} {t:TypeId} {size:Nat} {v:Value} {n:Nat} {es:List (List Dat)} (h:zgm w base t size v n es) (hz:w.heap.size≤w'.heap.size) (hk: ∀b,base≤b→b<w.heap.size→w'.heap[b]? =w.heap[b]?):zgm w' base t size v n es:=by
 obtain⟨cs,ho,hc⟩:=h.own;exact⟨h.len,h.wide,cs,zaJ ho (fun g hg hb=>hk g hb (zas ho hg).2),hc.keep hz (fun b hb hl=>hk b hb.1 hl)⟩
theorem zgm.below {w w':World} {base:Nat} {t:TypeId} {size:Nat} {v:Value} {n:Nat} {es:List (List Dat)} (h:zgm w base t size v n es) (hb:Below w.heap.size w w'):zgm w' base t size v n es:=h.keep hb.size (fun b _ hl=>hb.block b hl)
theorem zgm.kept {w w':World} {F:Nat→Prop} {base:Nat} {t:TypeId} {size:Nat} {v:Value} {n:Nat} {es:List (List Dat)} (h:zgm w base t size v n es) (hk:zbu F w w') (hF: ∀b,base≤b→ ¬F b):zgm w' base t size v n es:=h.keep hk.size (fun b hb hl=>hk.block b hl (hF b hb))
theorem zeH {α:Type} {size:Nat}: ∀(es:List (List α)),(∀e∈es,e.length=size)→ ∀(i j:Nat) (e:List α),es[i]? =some e→j<size→es.flatten[i*size+j]? =e[j]?
 |[],_,i,j,e,h,_=>by simp at h
 |x::es,hw,0,j,e,h,hj=>by
  simp only[List.getElem?_cons_zero,Option.some.injEq] at h;subst h;rw[Nat.zero_mul,Nat.zero_add,List.flatten_cons,List.getElem?_append_left (by rw[hw x (by simp)];exact hj)]
 |x::es,hw,i+1,j,e,h,hj=>by
  have hx:=hw x (by simp);rw[List.flatten_cons,List.getElem?_append_right (by rw[hx,Nat.add_mul];omega)];have:(i+1)*size+j-x.length=i*size+j:=by rw[hx,Nat.add_mul];omega
  rw[this];exact zeH es (fun e he=>hw e (by simp[he])) i j e (by simpa using h) hj
theorem zg7 {w:World} {base:Nat} {G:Nat→Prop} {t:TypeId} {size:Nat} {v:Value} {n:Nat} {es:List (List Dat)} {cs:List Value} (hl:es.length=n) (hw: ∀e∈es,e.length=size) (ho:w.ownsRow base t size v n cs) (hc:zab w G cs es.flatten):DAt w (fun b=>G b∨v.ownBlock=some b) v (.row size es):=by
 rcases ho.2 with⟨rfl,rfl⟩|⟨g,cap,cur,rfl,hb,hh,hcap,_⟩
 ·obtain rfl:=List.eq_nil_of_length_eq_zero hl
  exact .nil none 0 size
 ·have hlt:=(zau hh)
  have hcell: ∀i j e d,es[i]? =some e→e[j]? =some d→ ∃u,w.cell? ⟨g,i*size+j,none⟩=some u∧DAt w (fun b=>G b∨(Value.slice (some ⟨g,0,none⟩) n cap).ownBlock=some b) u d:=by
   intro i j e d he hd;have hil:i<n:=by rw[←hl];exact(List.getElem?_eq_some_iff.1 he).1
   have hjl:j<size:=by rw[←hw e (List.mem_of_getElem? he)];exact(List.getElem?_eq_some_iff.1 hd).1
   have hij:i*size+j<n*size:=by
    have:(i+1)*size≤n*size:=Nat.mul_le_mul_right _ (by omega);rw[Nat.add_mul] at this;omega
   have hf:=zeH es hw i j e he hjl;rw[hd] at hf;have hlt2:=(List.getElem?_eq_some_iff.1 hf).1;have hcl:i*size+j<cs.length:=by rw[hc.1];exact hlt2
   refine⟨cs[i*size+j],?_,(hc.2 _ _ d (List.getElem?_eq_getElem hcl) hf).mono (fun b hb _=> .inl hb)⟩;rw[World.ownsRow.cellAt ho (i*size+j) hij,List.getElem?_eq_getElem hcl]
  have hv: ∃val:Nat→Nat→Value,∀i j e d,es[i]? =some e→e[j]? =some d→w.cell? ⟨g,i*size+j,none⟩=some (val i j)∧DAt w (fun b=>G b∨(Value.slice (some ⟨g,0,none⟩) n cap).ownBlock=some b) (val i j) d:=by
   refine⟨fun i j=>(w.cell? ⟨g,i*size+j,none⟩).getD (.bool false),fun i j e d he hd=> ?_⟩;obtain⟨u,hu,hdu⟩:=hcell i j e d he hd;simp only[hu,Option.getD_some];exact⟨trivial,hdu⟩
  obtain⟨val,hval⟩:=hv;refine .row g 0 cap size n es val hl (.inr rfl) hlt (fun i j e d he hd=> ?_) (fun i j e d he hd=>(hval i j e d he hd).2) hcap;rw[Nat.zero_add];exact(hval i j e d he hd).1
theorem zgm.dat {w:World} {base:Nat} {t:TypeId} {size:Nat} {v:Value} {n:Nat} {es:List (List Dat)} (h:zgm w base t size v n es):DAt w (fun b=>base≤b) v (.row size es):=by
 obtain⟨hl,hw,cs,ho,hc⟩:=h;exact(zg7 hl hw ho hc).mono (fun b hb _=>hb.elim (·.1) (fun e=>(zas ho e).1))
theorem zgm.push {w w2:World} {base:Nat} {t:TypeId} {size:Nat} {v v':Value} {n m k:Nat} {es fs:List (List Dat)} {cs news:List Value} (hl:es.length=n) (hwd: ∀e∈es,e.length=size)
 (hc:zab w (fun b=>base≤b∧v.ownBlock≠some b) cs es.flatten) (hk:k=n+m) (hm:fs.length=m) (hw: ∀e∈fs,e.length=size) (hnew:zab w (fun b=>base≤b∧v.ownBlock≠some b) news fs.flatten)
 (hown:w2.ownsRow base t size v' k (cs++news)) (hg:w.grownBy w2 v.ownBlock) (hat:v'.ownBlock=v.ownBlock∨v'.ownBlock=some w.heap.size):zgm w2 base t size v' k (es++fs):=by
 refine⟨by rw[List.length_append];omega,fun e he=> ?_,cs++news,hown,?_⟩
 ·rcases List.mem_append.1 he with he|he
  ·exact hwd e he
  ·exact hw e he
 ·rw[List.flatten_append]
  have hall:=(hc.append hnew).mono (H:=fun b=>base≤b∧v.ownBlock≠some b∧b<w.heap.size) (fun b hb hlt=>⟨hb.1,hb.2,hlt⟩);refine(hall.keep hg.size (fun b hb hlt=>hg.block b hlt (fun e=>hb.2.1 e.symm))).mono (fun b hb _=>⟨hb.1,fun e=> ?_⟩);rcases hat with hat|hat
  ·exact hb.2.1 (hat.symm.trans e)
  ·rw[hat] at e
   injection e with e
   omega
def zav (l:List UInt8):Value:= .string ⟨l.toArray⟩
def lS (l:List UInt8):Dat:= .leaf (zav l)
def lI (n:Int):Dat:= .leaf (.int .i64 n)
def lU (n:Nat):Dat:= .leaf (.int .u8 (n:Int))
def lB (b:Bool):Dat:= .leaf (.bool b)
def zb7.cells (x:zb7):List Dat:=[lS x.m,lS x.p,lS x.o]
def zb3.cells (x:zb3):List Dat:=[lU x.op,lI x.a,lI x.b,lI x.c]
def zaT.cells (x:zaT):List Dat:=[lS x.name,lU x.kind,lB x.out,lI x.size,lI x.depth,lI x.refresh]
def za0.cells (x:za0):List Dat:=[lS x.name,lI x.prio,lI x.period,lI x.limit,.row 4 (x.code.map zb3.cells)]
def zah (l:List Int):List (List Dat):=l.map fun n=>[lI n]
def zao (l:List (List UInt8)):List (List Dat):=l.map fun s=>[lS s]
def zaQ.cells (x:zaQ):List Dat:=[lS x.name,lI x.period,lI x.length,lI x.mem,.row 1 (zah x.semas),lI x.events,lI x.boards,.row 1 (zah x.bufs),.row 6 (x.ports.map zaT.cells),.row 5 (x.procs.map za0.cells)]
def zcy.cells (x:zcy):List Dat:=[lS x.name,lI x.mem,lI x.frame,.row 10 (x.parts.map zaQ.cells)]
def zbi.cells (x:zbi):List Dat:=x.from_.cells++[.row 3 (x.to.map zb7.cells)]
def SwD.cells (x:SwD):List Dat:=[lS x.name,lI x.net,lI x.delay,lI x.store]
def zby.cells (x:zby):List Dat:=[lS x.a,lS x.b,lI x.net,lI x.slow]
def VlD.cells (x:VlD):List Dat:=lS x.name::x.from_.cells++[lI x.bag,lI x.max,.row 3 (x.to.map zb7.cells)]
def zaB.cells (x:zaB):List Dat:=[lS x.module,lS x.part,lU x.fault,lU x.level,lU x.do_]
def zcu.cells (x:zcu):List Dat:=[lS x.unit,lI x.code]
def zaF.cells (x:zaF):List Dat:=[lS x.unit,.row 2 (x.needs.map zcu.cells),.row 1 (zao x.but)]
def zdt.cells (x:zdt):List Dat:=[lS x.a,lI x.va,lS x.b,lI x.vb]
def zcS.cells (x:zcS):List Dat:=[.row 4 (x.modules.map zcy.cells),.row 4 (x.channels.map zbi.cells),.row 4 (x.switches.map SwD.cells),.row 4 (x.links.map zby.cells),.row 7 (x.vls.map VlD.cells),.row 5 (x.health.map zaB.cells),.row 3 (x.causes.map zaF.cells),.row 4 (x.versions.map zdt.cells)]
structure zaj (W:World) where
 w:World
 below:Below W.heap.size W w
instance (W:World):Nonempty (zaj W):=⟨⟨W,Below.refl _ _⟩⟩
theorem zaj.cell {W:World} (s:zaj W) (b o:Nat) (h:b<W.heap.size):s.w.cell? ⟨b,o,none⟩=W.cell? ⟨b,o,none⟩:=s.below.cell (p:=⟨b,o,none⟩) h
theorem zaj.call {P:Program} {f:FuncId} {args:Array Value} {W:World} {s:zaj W} {v:Value}
 (h:Calls P f args s.w fun e w'=>e= .returned v∧Below s.w.heap.size s.w w'):Calls P f args s.w fun e w''=>e= .returned v∧ ∃s':zaj W,w''=s'.w:=
 h.mono fun _ w' ⟨he,hb⟩=>⟨he,⟨w',s.below.trans (hb.mono s.below.size)⟩,rfl⟩
theorem zaj.call_same {P:Program} {f:FuncId} {args:Array Value} {W:World} {s:zaj W} {v:Value}
 (h:Calls P f args s.w fun e w'=>e= .returned v∧s.w=w'):Calls P f args s.w fun e w''=>e= .returned v∧ ∃s':zaj W,w''=s'.w:=
 h.mono fun _ _ ⟨he,hb⟩=>⟨he,s,hb.symm⟩
theorem zac {P:Program} {id:Nat} {Q:Exit→Act→World→Prop} {a:Act} {W:World} {l:List Oper} (hm:P.follows .mixedOrders=true) (hB:Region.lexB .any l.toArray=true)
 (h:wpQuiet P l.toArray (fun w'=> ∃s:zaj W,w'=s.w) (fun a'=> ∀w',(∃s:zaj W,w'=s.w)→Q .normal a' w') l a):(Code.region id l.toArray true).wp P Q a W:=
 wp_region_quiet (C:=fun w'=> ∃s:zaj W,w'=s.w) hm hB ⟨⟨W.drew,(Below.refl _ _).drew⟩,rfl⟩ (by simpa using h)
noncomputable def eqB {α:Type} (a b:α):Bool:= @decide (a=b) (Classical.propDecidable _)
theorem zm8 {α:Type} {a b:α} (h:a=b):eqB a b=true:=by unfold eqB;simpa using h
theorem zmh {α:Type} {a b:α} (h:a≠b):eqB a b=false:=by unfold eqB;simpa using h
theorem zpt {α:Type} {a b:α}:eqB a b=true↔a=b:=by unfold eqB;simp
def zpp (w:World) (A:Option Addr) (size:Nat) (es:List (List Dat)):Prop:=
 es=[]∨ ∃b off,A=some ⟨b,off,none⟩∧b<w.heap.size∧ ∀(i j:Nat) e d,es[i]? =some e→e[j]? =some d→ ∃u,w.cell? ⟨b,off+i*size+j,none⟩=some u∧DAt w (fun _=>True) u d
theorem DAt.slice {w:World} {v:Value} {size:Nat} {es:List (List Dat)} (h:DAt w (fun _=>True) v (.row size es)): ∃A c,v= .slice A es.length c∧zpp w A size es:=by
 generalize hd:Dat.row size es=d at h
 cases h with
 |leaf v=>cases hd
 |nil A c size'=>
  injection hd with h1 h2
  subst h2;exact⟨A,c,rfl,.inl rfl⟩
 |row b off c size' n es' val hn hG hb hc hdd=>
  injection hd with h1 h2
  subst h1 h2;exact⟨_,c,by rw[hn],.inr ⟨b,off,rfl,hb,fun i j e d he hd=>⟨_,hc i j e d he hd,hdd i j e d he hd⟩⟩⟩
theorem DAt.leaf_eq {w:World} {G:Nat→Prop} {u v:Value} (h:DAt w G u (.leaf v)):u=v:=by
 generalize hd:Dat.leaf v=d at h
 cases h with
 |leaf v=>injection hd with h1;exact h1.symm
 |nil=>cases hd
 |row=>cases hd
def zhv (w:World) (p:Addr) (d:Dat):Prop:= ∃u,w.cell? p=some u∧DAt w (fun _=>True) u d
theorem zhv.leafc {w:World} {p:Addr} {v:Value} (h:zhv w p (.leaf v)):w.cell? p=some v:=by
 obtain⟨u,h1,h2⟩:=h;rw[h1,h2.leaf_eq]
theorem zpp.at_ {α:Type} {w:World} {A:Option Addr} {size k:Nat} {l:List α} {cells:α→List Dat} {x:α} (h:zpp w A size (l.map cells)) (hx:l[k]? =some x):
 ∃b off,A=some ⟨b,off,none⟩∧b<w.heap.size∧ ∀(j:Nat) d,(cells x)[j]? =some d→zhv w ⟨b,off+k*size+j,none⟩ d:=by
 rcases h with h|⟨b,off,h1,h2,h3⟩
 ·rw[List.map_eq_nil_iff] at h
  subst h;simp at hx
 ·exact⟨b,off,h1,h2,fun j d hd=>h3 k j (cells x) d (by rw[List.getElem?_map,hx];rfl) hd⟩
theorem at_ne {α:Type} {la lb:List α} {k:Nat} {x y:α} (hx:la[k]? =some x) (hy:lb[k]? =some y) (h:x≠y):eqB la lb=false:=zmh (fun e=>h (by rw[e,hy] at hx;injection hx with hx;exact hx.symm))
theorem znQ {α:Type} {la lb:List α} {k:Nat} {x:α} (h:la.take k=lb.take k) (hx:la[k]? =some x) (hy:lb[k]? =some x):la.take (k+1)=lb.take (k+1):=by
 obtain⟨h1,rfl⟩:=List.getElem?_eq_some_iff.1 hx;obtain⟨h2,h3⟩:=List.getElem?_eq_some_iff.1 hy;rw[List.take_succ_eq_append_getElem h1,List.take_succ_eq_append_getElem h2,h,h3]
theorem zoL {α:Type} {la lb:List α} {k:Nat} (h:la.take k=lb.take k) (hk: ¬k<la.length) (hn:la.length=lb.length):la=lb:=by
 rwa[List.take_of_length_le (by omega),List.take_of_length_le (by omega)] at h
theorem dS (p q:List UInt8):((⟨p.toArray⟩:ByteArray).toList==(⟨q.toArray⟩:ByteArray).toList)=false∨p=q:=by
 by_cases h:p=q
 ·exact .inr h
 ·exact .inl (by rw[ByteArray.toList_eq,ByteArray.toList_eq];simpa using h)
theorem dI (p q:Int):((p==q)=false∧(p != q)=true)∨p=q:=by
 by_cases h:p=q
 ·exact .inr h
 ·exact .inl ⟨by simpa using h,by simpa using h⟩
theorem dU (p q:Nat):(((p:Int)==(q:Int))=false∧((p:Int) != (q:Int))=true)∨p=q:=by
 rcases dI p q with h|h
 ·exact .inl h
 ·exact .inr (by omega)
theorem dB (p q:Bool):((p==q)=false∧(p != q)=true)∨p=q:=by cases p<;>cases q<;>simp
theorem dR {α:Type} (p q:α):eqB p q=false∨p=q:=by
 by_cases h:p=q
 ·exact .inr h
 ·exact .inl (zmh h)
theorem zo0 {α:Type} (p:α):eqB p p=true:=zm8 rfl
theorem lc {W wr:World} (hbr:Below W.heap.size W wr) {b o:Nat} {v:Value} (hb:b<W.heap.size) (h:zhv W ⟨b,o,none⟩ (.leaf v)):wr.cell? ⟨b,o,none⟩=some v:=(hbr.cell (p:=⟨b,o,none⟩) hb).trans h.leafc
def za0.sm (x:za0):Prop:=x.code.length≤1099511627776
def zaQ.sm (x:zaQ):Prop:=x.semas.length≤1099511627776∧x.bufs.length≤1099511627776∧x.ports.length≤1099511627776∧x.procs.length≤1099511627776∧ ∀p∈x.procs,p.sm
def zcy.sm (x:zcy):Prop:=x.parts.length≤1099511627776∧ ∀p∈x.parts,p.sm
def zbi.sm (x:zbi):Prop:=x.to.length≤1099511627776
def VlD.sm (x:VlD):Prop:=x.to.length≤1099511627776
def zaF.sm (x:zaF):Prop:=x.needs.length≤1099511627776∧x.but.length≤1099511627776
structure zcS.sm (x:zcS):Prop where
 modules:x.modules.length≤1099511627776∧ ∀p∈x.modules,p.sm
 channels:x.channels.length≤1099511627776∧ ∀p∈x.channels,p.sm
 switches:x.switches.length≤1099511627776
 links:x.links.length≤1099511627776
 vls:x.vls.length≤1099511627776∧ ∀p∈x.vls,p.sm
 health:x.health.length≤1099511627776
 causes:x.causes.length≤1099511627776∧ ∀p∈x.causes,p.sm
 versions:x.versions.length≤1099511627776
section
variable {P:Program} {ops:Array Oper} {md:Region.Mode} {Q:Exit→Act→World→Prop} {S:World→Prop}
def zcg (P:Program) (md:Region.Mode) (ops:Array Oper) (Q:Exit→Act→World→Prop) (S:World→Prop) (n:Nat) (L:Array Bool→Act→World→Prop):Nat→Array Bool→Act→World→Prop
 |0,listed,a,w=>L listed a w
 |f+1,listed,a,w=>Region.ready md ops listed≠[]∧ ∀i∈Region.ready md ops listed,i<n∧wpOp P ops Q i (fun a' w'=>S w'∧zcg P md ops Q S n L f (listed.setIfInBounds i true) a' w') a w
theorem zfB {n g:Nat} {L:Array Bool→Act→World→Prop} (hL: ∀listed a w,L listed a w→wpAny P md ops Q g listed a w):
 ∀(f:Nat) (listed:Array Bool) (a:Act) (w:World),zcg P md ops Q S n L f listed a w→wpAny P md ops Q (f+g) listed a w
 |0,listed,a,w,h=>by rw[Nat.zero_add];exact hL _ _ _ h
 |f+1,listed,a,w,h=>by
  rw[show f+1+g=(f+g)+1 by omega];exact⟨fun h0=>absurd h0 h.1,fun i hi=>wpOp_mono (fun a' w' h'=>zfB hL f _ a' w' h'.2) (h.2 i hi).2⟩
def ziw (md:Region.Mode) (ops:Array Oper) (n:Nat) (listed:Array Bool):Bool:=
 listed.size==ops.size&&(List.range ops.size).all (fun j=> !listed.getD j false||((ops[j]?).map (·.after.all fun e=> !Region.binds md e||listed.getD e.on false)).getD true)&&(List.range ops.size).all (fun t=>decide (t<n)|| !listed.getD t true)
theorem zid {n:Nat} {listed:Array Bool} (h:ziw md ops n listed=true):HeadInv md ops n listed:=by
 unfold ziw at h;simp only[Bool.and_eq_true,beq_iff_eq] at h;obtain⟨⟨h1,h2⟩,h3⟩:=h;refine⟨h1,fun j oj hj hl e he hb=> ?_,fun t ht ht'=> ?_⟩
 ·have hlt:j<ops.size:=(zau hj)
  have:=List.all_eq_true.1 h2 j (List.mem_range.2 hlt);rw[hj,hl] at this;simp only[Bool.not_true,Bool.false_or,Option.map_some,Option.getD_some] at this;have:=(Array.all_eq_true_iff_forall_mem).1 this e he
  simpa [hb] using this
 ·have:=List.all_eq_true.1 h3 t (List.mem_range.2 ht')
  have h4:decide (t<n)=false:=by simpa using ht
  rw[h4] at this
  simpa using this
theorem zgk {n i:Nat} {oi:Oper} {v:Value} {L:Array Bool→Act→World→Prop} (hi:ops[i]? =some oi) (hsel: ∀(j:Nat) (o:Oper) cs b,ops[j]? =some o→o.op≠ .select cs b)
 (hs:Region.sinkB md ops n=true) (hc:Region.chainB md ops n=true) (hn:n<ops.size) (hin:i<n)
 (hQ: ∀c a w,Q (.panic c) (a.put oi.dst v) w→Q (.panic c) a w)
 (hdone: ∀listed a w,L listed a w→ ∀j∈Region.ready md ops listed,n≤j):
 ∀(f:Nat) (listed:Array Bool) (a:Act) (w:World),HeadInv md ops n listed→
  (∀j oj,ops[j]? =some oj→j≠i→listed.getD j true=false→(∀e∈oj.after,Region.binds md e=true→e.on≠i)→oi.apart ops oj=true)→
  i∈Region.ready md ops listed→YieldsIf P ops S oi v a→S w→
  zcg P md ops Q S n L f (listed.setIfInBounds i true) (a.put oi.dst v) w→zcg P md ops Q S n L (f+1) listed a w:=by
 intro f
 induction f with
 |zero=>
  intro listed a w inv _ hr hy hS H;have hun:=(mem_ready.1 hr).1;refine⟨fun h=>(by rw[h] at hr;cases hr),fun j hj=> ?_⟩;have hjn:j<n:=by
   rcases Nat.lt_or_ge j n with h|h
   ·exact h
   ·exact absurd hj (tail_waits hs hc hn inv _ i rfl hin hun j h)
  refine⟨hjn,?_⟩;by_cases hji:j=i
  ·subst hji;exact hy.wpOp hi hS ⟨hS,H⟩
  ·have:=hdone _ _ _ H j (ready_mono hj hji)
   omega
 |succ f ih=>
  intro listed a w inv hfree hr hy hS H;have hun:=(mem_ready.1 hr).1;refine⟨fun h=>(by rw[h] at hr;cases hr),fun j hj=> ?_⟩;have hjn:j<n:=by
   rcases Nat.lt_or_ge j n with h|h
   ·exact h
   ·exact absurd hj (tail_waits hs hc hn inv _ i rfl hin hun j h)
  refine⟨hjn,?_⟩;by_cases hji:j=i
  ·subst hji;exact hy.wpOp hi hS ⟨hS,H⟩
  ·have h1:=(H.2 j (ready_mono hj hji)).2
   obtain⟨hjun,oj,hoj,hall⟩:=mem_ready.1 hj;have hnot: ∀e∈oj.after,Region.binds md e=true→e.on≠i:=fun e he hb heq=>by
    have h1:=hall e he hb;rw[heq,getD_both hun] at h1
    cases h1
   have h2:=wpOp_putIf hoj (hfree j oj hoj hji hjun hnot) (fun cs b=>hsel i oi cs b hi) (fun cs b=>hsel j oj cs b hoj) hQ hy h1;have hfree': ∀k ok,ops[k]? =some ok→k≠i→(listed.setIfInBounds j true).getD k true=false→
    (∀e∈ok.after,Region.binds md e=true→e.on≠i)→oi.apart ops ok=true:=fun k ok hk hki hun hno=>by
    refine hfree k ok hk hki ?_ hno;by_cases hjk:j=k
    ·subst hjk;exact hjun
    ·rw[getD_set_ne true hjk] at hun;exact hun
   refine wpOp_mono (fun a' w' h3=>⟨h3.2.1,ih (listed.setIfInBounds j true) a' w' (inv.set hj hjn) hfree' (ready_mono hr (Ne.symm hji)) h3.1 h3.2.1 ?_⟩) h2;rw[Array.setIfInBounds_comm _ _ hji];exact h3.2.2
def zdf (P:Program) (ops:Array Oper) (Q:Exit→Act→World→Prop) (n:Nat) (listed:Array Bool) (a:Act) (w:World):Prop:=
 Region.seqB .any ops (ops.size-n) n listed=true∧wpList P ops Q (ops.toList.drop n) a w
theorem zdf.any {n:Nat} {listed:Array Bool} {a:Act} {w:World} (h:zdf P ops Q n listed a w):wpAny P .any ops Q (ops.size-n) listed a w:=by
 have hdl:(ops.toList.drop n).length=ops.size-n:=by simp
 have:=wpAny_of_seq (md:= .any) (Q':=Q) (ops.toList.drop n) n listed a w (fun j=>by simp[List.getElem?_drop]) (by rw[hdl];exact h.1) h.2
 rwa[hdl] at this
theorem zdf.done {n:Nat}: ∀listed a w,zdf P ops Q n listed a w→ ∀j∈Region.ready .any ops listed,n≤j:=fun _ _ _ h=>seqB_ready h.1
theorem zak {id:Nat} {a:Act} {w:World} (n:Nat) (hm:P.follows .mixedOrders=true) (hn:decide (n≤ops.size)=true) (hS:S w.drew)
 (h:S w.drew→zcg P .any ops Q S n (zdf P ops Q n) n (Array.replicate ops.size false) a w.drew):(Code.region id ops true).wp P Q a w:=by
 refine wp_region_any hm ?_;have hn':=of_decide_eq_true hn;have:=zfB (fun _ _ _ h=>zdf.any h) _ _ _ _ (h hS);rw[show n+(ops.size-n)=ops.size by omega] at this;exact this
theorem zd8 {n i:Nat} {oi:Oper} {v:Value} {fuel:Nat} {listed:Array Bool} {a:Act} {w:World} (hi:ops[i]? =some oi)
 (hB:(Region.noSelect ops&&Region.sinkB .any ops n&&Region.chainB .any ops n&&decide (n<ops.size)&&decide (i<n)&&ziw .any ops n listed&&Region.free .any ops listed i&&(Region.ready .any ops listed).contains i)=true)
 (hQ: ∀c a w,Q (.panic c) (a.put oi.dst v) w→Q (.panic c) a w) (hy:YieldsIf P ops S oi v a) (hS:S w)
 (h:zcg P .any ops Q S n (zdf P ops Q n) fuel (listed.setIfInBounds i true) (a.put oi.dst v) w):zcg P .any ops Q S n (zdf P ops Q n) (fuel+1) listed a w:=by
 simp only[Bool.and_eq_true,decide_eq_true_eq] at hB;obtain⟨⟨⟨⟨⟨⟨⟨h1,h2⟩,h3⟩,h4⟩,h5⟩,h6⟩,h7⟩,h8⟩:=hB;exact zgk hi (Region.noSelect_spec h1) h2 h3 h4 h5 hQ zdf.done fuel listed a w (zid h6) (Region.free_spec hi h7) (by simpa using h8) hy hS h
def zaN (P:Program) (ops:Array Oper) (Q:Exit→Act→World→Prop) (S:World→Prop) (n fuel:Nat) (listed:Array Bool) (a:Act) (w:World) (rs:List Nat):Prop:=
 ∀i∈rs,wpOp P ops Q i (fun a' w'=>S w'∧zcg P .any ops Q S n (zdf P ops Q n) fuel (listed.setIfInBounds i true) a' w') a w
theorem zaN.nil {n fuel:Nat} {listed:Array Bool} {a:Act} {w:World}:zaN P ops Q S n fuel listed a w []:=fun _ h=>by cases h
theorem zaN.cons {n fuel:Nat} {listed:Array Bool} {a:Act} {w:World} {i:Nat} {o:Oper} {rs:List Nat} (ho:ops[i]? =some o)
 (h: ∀K':Act→World→Prop,Shut (∀a w,S w→(S w→zcg P .any ops Q S n (zdf P ops Q n) fuel (listed.setIfInBounds i true) a w)→K' a w)→if Region.wanted o (yielded ops a.tmps)=true then Oper.wp P o a w K' Q else K' (a.put o.dst undef) w)
 (hs:zaN P ops Q S n fuel listed a w rs):zaN P ops Q S n fuel listed a w (i::rs):=fun j hj=>by
 rcases List.mem_cons.1 hj with rfl|hj
 ·exact wpOp_step ho (fun K' hK=>h K' (fun a w hS hW=>hK a w ⟨hS,hW hS⟩))
 ·exact hs j hj
theorem zgG {n:Nat} {rs:List Nat} {fuel:Nat} {listed:Array Bool} {a:Act} {w:World} (hr:Region.ready .any ops listed=rs) (hne:rs≠[]) (hlt:(rs.all fun i=>decide (i<n))=true)
 (h:zaN P ops Q S n fuel listed a w rs):zcg P .any ops Q S n (zdf P ops Q n) (fuel+1) listed a w:=
 ⟨by rw[hr];exact hne,fun i hi=>by rw[hr] at hi;exact⟨of_decide_eq_true (List.all_eq_true.1 hlt i hi),h i hi⟩⟩
theorem zan {n:Nat} {listed:Array Bool} {a:Act} {w:World} (hB:Region.seqB .any ops (ops.size-n) n listed=true) (h:wpList P ops Q (ops.toList.drop n) a w):zcg P .any ops Q S n (zdf P ops Q n) 0 listed a w:=⟨hB,h⟩
end
end Go.Proofs.YtgbfaompondolaaGreatDoor
