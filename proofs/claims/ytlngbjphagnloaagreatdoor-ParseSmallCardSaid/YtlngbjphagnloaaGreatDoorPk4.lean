/- Merged texts of the walks and of the plain laws on which the statement leans.-/
import Derived.Test.YtlngbjphagnloaaGreatDoorPk2
import Derived.Test.YtlngbjphagnloaaGreatDoorPk3
import Derived.Test.YtlngbjphagnloaaGreatDoorPk1
import Derived.Below
import Derived.Laws.OwnMore
import Derived.Deep.Draws
import Derived.Laws.Rows
import Derived.Maps.AppendAt
import Derived.Deep.AppendLies
import Derived.RegionTactic
import Derived.OwnWalk
namespace Go.Proofs.YtlngbjphagnloaaGreatDoor
open Tryz
def NI {α:Type} (m:Ps α):Prop:= ∀r a r',m r= .ok a r'→r'.length≤r.length
def LT {α:Type} (m:Ps α):Prop:= ∀r a r',m r= .ok a r'→r'.length<r.length
theorem LT.ni {α:Type} {m:Ps α} (h:LT m):NI m:=fun r a r' e=>Nat.le_of_lt (h r a r' e)
theorem zeB {α β:Type} {m:Ps α} {f:α→Ps β} {r r':List Tok} {b:β} (h:(m >>= f) r= .ok b r'): ∃a r1,m r= .ok a r1∧f a r1= .ok b r':=by
 have h:Ps.bnd m f r= .ok b r':=h;unfold Ps.bnd at h
 cases hm:m r with
 |ok a r1=>rw[hm] at h;exact⟨a,r1,rfl,h⟩
 |bad e r1=>rw[hm] at h;cases h
theorem NI.ret {α:Type} (a:α):NI (pure a:Ps α):=fun r b r' h=>by
 have h:Res.ok a r= .ok b r':=h;injection h with _ h2
 rw[h2];exact Nat.le_refl _
theorem NI.bind {α β:Type} {m:Ps α} {f:α→Ps β} (h:NI m) (k: ∀a,NI (f a)):NI (m >>= f):=fun r b r' e=>by
 obtain⟨a,r1,h1,h2⟩:=zeB e;exact Nat.le_trans (k a _ _ _ h2) (h _ _ _ h1)
theorem LT.bind {α β:Type} {m:Ps α} {f:α→Ps β} (h:LT m) (k: ∀a,NI (f a)):LT (m >>= f):=fun r b r' e=>by
 obtain⟨a,r1,h1,h2⟩:=zeB e;exact Nat.lt_of_le_of_lt (k a _ _ _ h2) (h _ _ _ h1)
theorem zd3 {r:List Tok} (h:r≠[]):r.tail.length<r.length:=by
 cases r with
 |nil=>exact absurd rfl h
 |cons t r=>simp
theorem zcj {t:List UInt8} {r:List Tok} (h:zaA t r=true):r≠[]:=by
 rintro rfl;unfold zaA hdT at h;simp at h
theorem zky {r:List Tok} {k:Nat} (h:((hdT r).kind==k)=true) (hk:k≠0):r≠[]:=by
 rintro rfl;unfold hdT at h;have:(0:Nat)=k:=by simpa using h
 omega
theorem zfq (t:List UInt8):NI (zbf t):=fun r a r' h=>by
 unfold zbf at h
 split at h
 ·injection h with _ h2;rw[←h2];simp
 ·injection h with _ h2;rw[←h2];exact Nat.le_refl _
theorem zaZ (t:List UInt8):LT (zbd t):=fun r a r' h=>by
 unfold zbd at h
 split at h
 ·rename_i hs;injection h with _ h2;rw[←h2];exact zd3 (zcj hs)
 ·cases h
theorem zlE (k:Nat) (hk:k≠0):LT (zd5 k):=fun r a r' h=>by
 unfold zd5 at h
 split at h
 ·rename_i hs;injection h with _ h2;rw[←h2];exact zd3 (zky hs hk)
 ·cases h
theorem zbC:LT zcb:=zlE 1 (by decide)
theorem zcB:LT zfe:=(zlE 2 (by decide)).bind fun _=> .ret _
theorem zby (t:List UInt8):LT (zb0 t):=(zaZ t).bind fun _=>zcB.ni
theorem zjw (l:List (List UInt8)):LT (ofP l):=fun r a r' h=>by
 unfold ofP at h
 split at h
 ·rename_i hs
  injection h with _ h2
  rw[←h2];refine zd3 (zky (k:=1) ?_ (by decide));simp only[Bool.and_eq_true] at hs;exact hs.2
 ·cases h
theorem zh4 {α:Type} {x:Ps α} (h:NI x): ∀(f:Nat) (acc:List α),NI (zc8 x f acc)
 |0,acc=> .ret acc
 |f+1,acc=>(zfq _).bind fun b=>by
  cases b
  ·exact .ret acc
  ·exact h.bind fun a=>zh4 h f (acc++[a])
theorem zeR {α:Type} {x:Ps α} (h:NI x):NI (zde x):=h.bind fun _a r b r' e=>zh4 h _ _ r b r' e
theorem zph {α:Type} {x:Ps α} (h:LT x):LT (zde x):=h.bind fun _a r b r' e=>zh4 h.ni _ _ r b r' e
theorem zeX:LT zid:=zbC.bind fun _=>(zaZ _).ni.bind fun _=>zbC.ni.bind fun _=>(zaZ _).ni.bind fun _=>zbC.ni.bind fun _=> .ret _
theorem zm7:LT zki:=(zaZ _).bind fun _=>(zjw _).ni.bind fun _=> .ret _
theorem znh: ∀n,NI (zi1 n)
 |0=> .ret _
 |n+1=>zcB.ni.bind fun _=>(znh n).bind fun _=> .ret _
theorem zlC:LT zjp:=(zjw _).bind fun _=>(znh _).bind fun _=>(zaZ _).ni.bind fun _=> .ret _
theorem ze2: ∀(f:Nat) (acc:List zcQ),NI (zbn f acc)
 |0,acc=> .ret acc
 |f+1,acc=>fun r a r' h=>by
  unfold zbn at h
  split at h
  ·exact(zlC.ni.bind fun x=>ze2 f (acc++[x])) r a r' h
  ·injection h with _ h2;rw[h2];exact Nat.le_refl _
theorem znR:NI zcs:=fun r a r' h=>ze2 _ _ r a r' h
theorem zot:LT zj7:=fun r a r' h=>by
 unfold zj7 at h
 split at h
 ·rename_i hs;injection h with _ h2;rw[←h2];exact zd3 (zcj hs)
 ·split at h
  ·rename_i hs;injection h with _ h2;rw[←h2];exact zd3 (zcj hs)
  ·cases h
theorem zn6:LT zei:=zot.bind fun _=>zbC.ni.bind fun _=>(zjw _).ni.bind fun kind=>(zby _).ni.bind fun _=>by
 by_cases hk:kind=1
 ·simp only[hk,if_true]
  exact(zby _).ni.bind fun _=>(zaZ _).ni.bind fun _=> .ret _
 ·simp only[hk,if_false]
  exact(zby _).ni.bind fun _=>(zaZ _).ni.bind fun _=> .ret _
theorem znM:LT zfh:=zbC.bind fun _=>(zby _).ni.bind fun _=>(zby _).ni.bind fun _=>(zby _).ni.bind fun _=>(zaZ _).ni.bind fun _=>znR.bind fun _=>(zaZ _).ni.bind fun _=> .ret _
theorem zpl:NI zb2:=fun r a r' h=>by
 unfold zb2 at h;injection h with _ h2;rw[←h2];simp
theorem zc7 {α:Type} {m:Ps α} (h:NI m) {r r':List Tok} {a:α} (hr:r≠[]) (e:(do zb2;m:Ps α) r= .ok a r'):r'.length<r.length:=by
 obtain⟨u,r1,h1,h2⟩:=zeB e;unfold zb2 at h1;injection h1 with _ h3
 rw[←h3] at h2;exact Nat.lt_of_le_of_lt (h _ _ _ h2) (zd3 hr)
theorem zgJ (w:List UInt8) (b:zag) {x:Ps zas} (h:NI x) {r r':List Tok} {a:zag} (hs:zaA w r=true) (e:zcE w b x r= .ok a r'):r'.length<r.length:=by
 unfold zcE at e
 split at e
 ·cases e
 ·exact zc7 (h.bind fun _=>(zaZ _).ni.bind fun _=> .ret _) (zcj hs) e
theorem ziB (b:zag):LT (za3 b):=fun r a r' h=>by
 unfold za3 at h
 split at h
 ·rename_i hs;exact zgJ _ b ((zeR zcB.ni).bind fun _=> .ret _) hs h
 ·split at h
  ·rename_i hs;exact zgJ _ b ((zeR zcB.ni).bind fun _=> .ret _) hs h
  ·split at h
   ·rename_i hs;exact zgJ _ b (zcB.ni.bind fun _=> .ret _) hs h
   ·split at h
    ·rename_i hs;exact zgJ _ b (zcB.ni.bind fun _=> .ret _) hs h
    ·split at h
     ·rename_i hs;exact zc7 (znM.ni.bind fun _=> .ret _) (zcj hs) h
     ·exact(zn6.bind fun _=> .ret _) r a r' h
theorem zgR: ∀(f:Nat) (b:zag),NI (zav f b)
 |0,b=> .ret b
 |f+1,b=>fun r a r' h=>by
  unfold zav at h
  split at h
  ·injection h with _ h2;rw[←h2];simp
  ·exact((ziB b).ni.bind fun b'=>zgR f b') r a r' h
theorem zk7:LT zdX:=zbC.bind fun _=>(zby _).ni.bind fun _=>(zby _).ni.bind fun _=>(zby _).ni.bind fun _=>(zaZ _).ni.bind fun _=>
 NI.bind (fun r a r' h=>zgR _ _ r a r' h) fun _=> .ret _
theorem ziC: ∀(f:Nat) (acc:List zas),NI (zaS f acc)
 |0,acc=> .ret acc
 |f+1,acc=>(zfq _).bind fun b=>by
  cases b
  ·exact .ret acc
  ·exact zk7.ni.bind fun a=>ziC f (acc++[a])
theorem zoQ:LT zf9:=zbC.bind fun _=>(zby _).ni.bind fun _=>(zby _).ni.bind fun _=>(zaZ _).ni.bind fun _=>
 NI.bind (fun r a r' h=>ziC _ _ r a r' h) fun _=>(zaZ _).ni.bind fun _=> .ret _
theorem znA:LT zdW:=zeX.bind fun _=>(zaZ _).ni.bind fun _=>(zeR zeX.ni).bind fun _=>(zaZ _).ni.bind fun _=> .ret _
theorem zpb:LT swP:=zbC.bind fun _=>zm7.ni.bind fun _=>(zby _).ni.bind fun _=>(zby _).ni.bind fun _=>(zaZ _).ni.bind fun _=> .ret _
theorem znC:LT zbc:=zbC.bind fun _=>zbC.ni.bind fun _=>zm7.ni.bind fun _=>(zby _).ni.bind fun _=>(zaZ _).ni.bind fun _=> .ret _
theorem zpu:LT vlP:=zbC.bind fun _=>(zaZ _).ni.bind fun _=>zeX.ni.bind fun _=>(zby _).ni.bind fun _=>(zby _).ni.bind fun _=>(zaZ _).ni.bind fun _=>(zeR zeX.ni).bind fun _=>(zaZ _).ni.bind fun _=> .ret _
theorem zng (t:List UInt8):NI (zoK t):=(zfq t).bind fun b=>by
 cases b
 ·exact .ret _
 ·exact zbC.ni
theorem zkT:LT zaD:=(zjw _).bind fun _=>(zng _).bind fun _=>(zng _).bind fun _=>(zaZ _).ni.bind fun _=>(zjw _).ni.bind fun _=>(zaZ _).ni.bind fun _=>(zjw _).ni.bind fun _=>(zaZ _).ni.bind fun _=> .ret _
theorem zlQ:LT zkh:=zbC.bind fun _=>(zaZ _).ni.bind fun _=>zcB.ni.bind fun _=> .ret _
theorem zk3:NI zgL:=(zfq _).bind fun b=>by
 cases b
 ·exact .ret _
 ·exact zeR zbC.ni
theorem zm2:LT zcg:=zbC.bind fun _=>(zaZ _).ni.bind fun _=>(zeR zlQ.ni).bind fun _=>zk3.bind fun _=>(zaZ _).ni.bind fun _=> .ret _
theorem zmr:LT zbq:=zbC.bind fun _=>zcB.ni.bind fun _=>(zaZ _).ni.bind fun _=>zbC.ni.bind fun _=>zcB.ni.bind fun _=>(zaZ _).ni.bind fun _=> .ret _
theorem zkw (c:zaK):LT (zb1 c):=fun r a r' h=>by
 unfold zb1 at h
 split at h
 ·rename_i hs;exact zc7 (zoQ.ni.bind fun _=> .ret _) (zcj hs) h
 ·split at h
  ·rename_i hs;exact zc7 (znA.ni.bind fun _=> .ret _) (zcj hs) h
  ·split at h
   ·rename_i hs;exact zc7 (zpb.ni.bind fun _=> .ret _) (zcj hs) h
   ·split at h
    ·rename_i hs;exact zc7 (znC.ni.bind fun _=> .ret _) (zcj hs) h
    ·split at h
     ·rename_i hs;exact zc7 (zpu.ni.bind fun _=> .ret _) (zcj hs) h
     ·split at h
      ·rename_i hs;exact zc7 (zkT.ni.bind fun _=> .ret _) (zcj hs) h
      ·split at h
       ·rename_i hs;exact zc7 (zm2.ni.bind fun _=> .ret _) (zcj hs) h
       ·split at h
        ·rename_i hs;exact zc7 (zmr.ni.bind fun _=> .ret _) (zcj hs) h
        ·cases h
theorem zlS {α:Type} {x:Ps α} (h:NI x): ∀(f g:Nat) (acc:List α) (r:List Tok),r.length<f→r.length<g→zc8 x f acc r=zc8 x g acc r
 |0,g,acc,r,hf,_=>by omega
 |f+1,0,acc,r,_,hg=>by omega
 |f+1,g+1,acc,r,hf,hg=>by
  have hu: ∀k,zc8 x (k+1) acc r=if zaA [44] r then(do let a←x;zc8 x k (acc++[a]):Ps (List α)) r.tail else .ok acc r:=fun k=>by
   have e:zc8 x (k+1) acc r=((zbf [44]) >>= fun b=>if b then(do let a←x;zc8 x k (acc++[a]):Ps (List α)) else pure acc) r:=rfl;rw[e];by_cases hs:zaA [44] r=true
   ·rw[zac (a:=true) (r':=r.tail) (by unfold zbf;rw[hs];rfl),hs];rfl
   ·have hs':zaA [44] r=false:=by simpa using hs
    rw[zac (a:=false) (r':=r) (by unfold zbf;rw[hs'];rfl),hs'];rfl
  rw[hu f,hu g];by_cases hs:zaA [44] r=true
  ·rw[hs,if_pos rfl,if_pos rfl]
   have hl:=zd3 (zcj hs)
   cases hx:x r.tail with
   |ok a r2=>
    have hn:=h _ _ _ hx;rw[zac hx,zac hx];exact zlS h f g _ r2 (by omega) (by omega)
   |bad e r2=>rw[zab hx,zab hx]
  ·have hs':zaA [44] r=false:=by simpa using hs
   rw[hs'];rfl
open Go.RowKit
def zbj (l:List UInt8):Value:= .string ⟨l.toArray⟩
def lS (l:List UInt8):Dat:= .leaf (zbj l)
def lI (n:Int):Dat:= .leaf (.int .i64 n)
def lU (n:Nat):Dat:= .leaf (.int .u8 (n:Int))
def lB (b:Bool):Dat:= .leaf (.bool b)
def zeJ.cells (x:zeJ):List Dat:=[lS x.m,lS x.p,lS x.o]
def zcQ.cells (x:zcQ):List Dat:=[lU x.op,lI x.a,lI x.b,lI x.c]
def zcp.cells (x:zcp):List Dat:=[lS x.name,lU x.kind,lB x.out,lI x.size,lI x.depth,lI x.refresh]
def zca.cells (x:zca):List Dat:=[lS x.name,lI x.prio,lI x.period,lI x.limit,.row 4 (x.code.map zcQ.cells)]
def zbs (l:List Int):List (List Dat):=l.map fun n=>[lI n]
def zhZ (l:List (List UInt8)):List (List Dat):=l.map fun s=>[lS s]
def zas.cells (x:zas):List Dat:=[lS x.name,lI x.period,lI x.length,lI x.mem,.row 1 (zbs x.semas),lI x.events,lI x.boards,.row 1 (zbs x.bufs),.row 6 (x.ports.map zcp.cells),.row 5 (x.procs.map zca.cells)]
def zdZ.cells (x:zdZ):List Dat:=[lS x.name,lI x.mem,lI x.frame,.row 10 (x.parts.map zas.cells)]
def zcU.cells (x:zcU):List Dat:=x.from_.cells++[.row 3 (x.to.map zeJ.cells)]
def SwD.cells (x:SwD):List Dat:=[lS x.name,lI x.net,lI x.delay,lI x.store]
def zc6.cells (x:zc6):List Dat:=[lS x.a,lS x.b,lI x.net,lI x.slow]
def VlD.cells (x:VlD):List Dat:=lS x.name::x.from_.cells++[lI x.bag,lI x.max,.row 3 (x.to.map zeJ.cells)]
def zaI.cells (x:zaI):List Dat:=[lS x.module,lS x.part,lU x.fault,lU x.level,lU x.do_]
def zf2.cells (x:zf2):List Dat:=[lS x.unit,lI x.code]
def zbl.cells (x:zbl):List Dat:=[lS x.unit,.row 2 (x.needs.map zf2.cells),.row 1 (zhZ x.but)]
def zgD.cells (x:zgD):List Dat:=[lS x.a,lI x.va,lS x.b,lI x.vb]
def zaK.cells (x:zaK):List Dat:=[.row 4 (x.modules.map zdZ.cells),.row 4 (x.channels.map zcU.cells),.row 4 (x.switches.map SwD.cells),.row 4 (x.links.map zc6.cells),.row 7 (x.vls.map VlD.cells),.row 5 (x.health.map zaI.cells),.row 3 (x.causes.map zbl.cells),.row 4 (x.versions.map zgD.cells)]
theorem zeU (a:Addr) (n:Nat):(a.add n).block=a.block:=by unfold Addr.add;split<;>rfl
theorem zjO (a:Addr) (i j:Nat):(a.add i).add j=a.add (i+j):=by
 unfold Addr.add;by_cases hi:i=0<;>by_cases hj:j=0<;>simp[hi,hj,Nat.add_assoc]
def zbE (w:World) (B size:Nat) (A:Option Addr) (n:Nat) (xs:List Value):Prop:=
 xs.length=n*size∧(0<n→ ∃ad,A=some ad∧ad.block<B∧ ∀j u,xs[j]? =some u→w.cell? (ad.add j)=some u)
section
variable {w w':World} {B B' size n:Nat} {A:Option Addr} {xs:List Value}
theorem zbE.none_:zbE w B size A 0 []:=⟨by simp,fun h=>absurd h (by omega)⟩
theorem zbE.at_ {k:Nat} (h:zbE w B 1 A n xs) (hk:k<n): ∃ad u,A=some ad∧ad.block<B∧xs[k]? =some u∧w.cell? (ad.add k)=some u:=by
 obtain⟨ad,e,hb,hc⟩:=h.2 (by omega);have hl:k<xs.length:=by have:=h.1;omega
 exact⟨ad,xs[k],e,hb,List.getElem?_eq_getElem hl,hc k _ (List.getElem?_eq_getElem hl)⟩
theorem zbE.keep (h:zbE w B size A n xs) (hk: ∀p:Addr,p.block<B→w'.cell? p=w.cell? p):zbE w' B size A n xs:=
 ⟨h.1,fun hn=>by
   obtain⟨ad,e,hb,hc⟩:=h.2 hn;exact⟨ad,e,hb,fun j u hu=>(hk _ (by rw[zeU];exact hb)).trans (hc j u hu)⟩⟩
theorem zbE.more (h:zbE w B size A n xs) (hB:B≤B'):zbE w B' size A n xs:=
 ⟨h.1,fun hn=>by
   obtain⟨ad,e,hb,hc⟩:=h.2 hn;exact⟨ad,e,by omega,hc⟩⟩
theorem zbE.below (h:zbE w B size A n xs) (hb:Below B w w'):zbE w' B size A n xs:=h.keep fun _ hp=>hb.cell hp
theorem zbE.drew (h:zbE w B size A n xs):zbE w.drew B size A n xs:=h
theorem zbE.drewN (h:zbE w B size A n xs) (k:Nat):zbE (w.drewN k) B size A n xs:=h
theorem zbE.alloc (h:zbE w B size A n xs) (hB:B≤w.heap.size) (o:Obj):zbE (w.alloc o) B size A n xs:=h.keep fun p hp=>World.cell?_alloc_lt w o p (by omega)
theorem zbE.setCell (h:zbE w B size A n xs) {p:Addr} (hB:B≤p.block) (u:Value):zbE (w.setCell p u) B size A n xs:=
 h.keep fun q hq=>World.cell?_setCell_other w p q u (fun e=>by subst e;omega)
theorem zbE.grown (h:zbE w B size A n xs) {row:Option Nat} (hg:w.grownBy w' row) (hB:B≤w.heap.size) (hr: ∀g,row=some g→B≤g):zbE w' B size A n xs:=
 h.keep fun p hp=>World.cell?_of_block (hg.block p.block (by omega) (fun e=>by have:=hr _ e.symm;omega))
theorem zbE.cut (h:zbE w B size A n xs) {k cap:Nat} (hk:k≤n) (hc:n≤cap):
 zbE w B size (if cap=k then A else A.map (·.add (k*size))) (n-k) (xs.drop (k*size)):=by
 refine⟨by rw[List.length_drop,h.1,Nat.sub_mul],fun hn=> ?_⟩;obtain⟨ad,rfl,hb,hcell⟩:=h.2 (by omega);rw[if_neg (by omega)];refine⟨ad.add (k*size),rfl,by rw[zeU];exact hb,fun j u hu=> ?_⟩;rw[zjO];exact hcell _ u (by rw[←hu,List.getElem?_drop])
theorem zbE.of_own {base:Nat} {e:TypeId} {c:Nat} (h:w.ownsRow base e size (.slice A n c) n xs):zbE w w.heap.size size A n xs:=by
 refine⟨h.1,fun hn=> ?_⟩;obtain⟨g,cap,hv,_,hlt⟩:=h.form hn;have hA:A=some ⟨g,0,none⟩:=by injection hv
 subst hA;exact⟨_,rfl,hlt,h.cells (g:=g) rfl⟩
end
section
variable {P:Program} (w:World)
theorem zeF (base:Nat) (t ty e:TypeId) (i:TypeInfo) (size:Nat) (ht:P.underlying t=some (.slice e)) (hi:P.info? e=some i)
 (v:Value) (n:Nat) (xs:List Value) (hown:w.ownsRow base e size v n xs) (c:Nat):(Builtin.append_ #[t,t] ty #[v,.slice none 0 c]).run P w= .ok v w:=by
 rcases hown.2 with⟨rfl,rfl⟩|⟨g,cap,cur,rfl,_,_,hnc,_⟩
 ·simp[Builtin.append_,run_underlying ht,sizeOf,typeInfo,hi,Builtin.lenOf,Builtin.firstCells]
 ·simp[Builtin.append_,run_underlying ht,sizeOf,typeInfo,hi,Builtin.lenOf,Builtin.firstCells,hnc,storeCells]
theorem zfZ (base:Nat) (t ty e:TypeId) (i:TypeInfo) (z:Value) (size bytes:Nat) (ht:P.underlying t=some (.slice e)) (hi:P.info? e=some i) (hz:i.zero=some z)
 (hsize:i.size=size) (hby:i.bytes=bytes) (hzs:z.cells.size=size) (hsz:0<size)
 (v:Value) (n:Nat) (xs:List Value) (hown:w.ownsRow base e size v n xs)
 (B:Nat) (A:Option Addr) (m c:Nat) (news:List Value) (hr:zbE w B size A m news) (h1: ∀u∈news,u.oneCell'=true)
 (h63:n+m≤maxLen) (hbytes:(n+m)*bytes≤140737488355328) (hbase:base≤w.heap.size):
 ∃v' w',(Builtin.append_ #[t,t] ty #[v,.slice A m c]).run P w= .ok v' w'∧w'.ownsRow base e size v' (n+m) (xs++news)∧w.grownBy w' v.ownBlock∧
  (v'.ownBlock=v.ownBlock∨v'.ownBlock=some w.heap.size):=by
 rcases A with _|ad
 ·have hm:m=0:=by
   rcases Nat.eq_zero_or_pos m with h0|h0
   ·exact h0
   ·obtain⟨ad,h,_⟩:=hr.2 h0
    cases h
  subst hm;have hn:news=[]:=List.eq_nil_of_length_eq_zero (by simpa using hr.1);subst hn;exact⟨v,w,zeF w base t ty e i size ht hi v n xs hown c,by simpa using hown,World.grownBy.refl w _,.inl rfl⟩
 ·have hcells: ∀j u,news[j]? =some u→w.cell? (ad.add j)=some u:=by
   intro j u hu;rcases Nat.eq_zero_or_pos m with h0|h0
   ·subst h0
    have hn:news=[]:=List.eq_nil_of_length_eq_zero (by simpa using hr.1);subst hn;simp at hu
   ·obtain⟨ad',h,_,hc⟩:=hr.2 h0
    injection h with h
    subst h;exact hc j u hu
  obtain⟨v',w',hrun,h2,h3,_,h5⟩:=run_append_own_at (P:=P) w base t ty e i z size bytes ht hi hz hsize hby hzs hsz v n xs hown ad m c news hr.1 hcells h1 h63 hbytes hbase;exact⟨v',w',hrun,h2,h3,h5⟩
theorem zee {o:Oper} {a:Act} {K:Act→World→Prop} {Q:Exit→Act→World→Prop} (s x:Operand) (t:TypeId)
 (ho:o.op= .call {callee:= .builtin .append,args:= #[s,x],argTypes:= #[t,t]})
 (base:Nat) (e:TypeId) (i:TypeInfo) (z:Value) (size bytes:Nat) (ht:P.underlying t=some (.slice e)) (hi:P.info? e=some i) (hz:i.zero=some z)
 (hsize:i.size=size) (hby:i.bytes=bytes) (hzs:z.cells.size=size) (hsz:0<size)
 (v:Value) (n:Nat) (xs:List Value) (hs:a.eval s=v) (hown:w.ownsRow base e size v n xs)
 (B:Nat) (A:Option Addr) (m c:Nat) (news:List Value) (hx:a.eval x= .slice A m c) (hr:zbE w B size A m news) (h1: ∀u∈news,u.oneCell'=true)
 (h63:n+m≤maxLen) (hbytes:(n+m)*bytes≤140737488355328) (hbase:base≤w.heap.size)
 (h: ∀v' w',w'.ownsRow base e size v' (n+m) (xs++news)→w.grownBy w' v.ownBlock→(v'.ownBlock=v.ownBlock∨v'.ownBlock=some w.heap.size)→K (a.put o.dst v') w'):o.wp P a w K Q:=by
 obtain⟨v',w',hrun,h2,h3,h4⟩:=zfZ (P:=P) w base t o.type e i z size bytes ht hi hz hsize hby hzs hsz v n xs hown B A m c news hr h1 h63 hbytes hbase;unfold Oper.wp execOp;simp only[ho,resolve,invoke,builtin,Sem.run_bind,Sem.run_pure,Result.andThen_ok,List.map_toArray,List.map_cons,List.map_nil,hs,hx,hrun];exact h v' w' h2 h3 h4
theorem zdl {ops:Array Oper} {rest:List Oper} {o:Oper} {a:Act} {Q:Exit→Act→World→Prop} (hgd:o.guard=none) (s x:Operand) (t:TypeId)
 (ho:o.op= .call {callee:= .builtin .append,args:= #[s,x],argTypes:= #[t,t]})
 (base:Nat) (e:TypeId) (i:TypeInfo) (z:Value) (size bytes:Nat) (ht:P.underlying t=some (.slice e)) (hi:P.info? e=some i) (hz:i.zero=some z)
 (hsize:i.size=size) (hby:i.bytes=bytes) (hzs:z.cells.size=size) (hsz:0<size)
 (v:Value) (n:Nat) (xs:List Value) (hs:a.eval s=v) (hown:w.ownsRow base e size v n xs)
 (B:Nat) (A:Option Addr) (m c:Nat) (news:List Value) (hx:a.eval x= .slice A m c) (hr:zbE w B size A m news) (h1: ∀u∈news,u.oneCell'=true)
 (h63:n+m≤maxLen) (hbytes:(n+m)*bytes≤140737488355328) (hbase:base≤w.heap.size)
 (h: ∀v' w',w'.ownsRow base e size v' (n+m) (xs++news)→w.grownBy w' v.ownBlock→(v'.ownBlock=v.ownBlock∨v'.ownBlock=some w.heap.size)→wpList P ops Q rest (a.put o.dst v') w'):wpList P ops Q (o::rest) a w:=
 wpList_plain hgd fun _ hK=>zee w s x t ho base e i z size bytes ht hi hz hsize hby hzs hsz v n xs hs hown B A m c news hx hr h1 h63 hbytes hbase fun v' w' h2 h3 h4=>hK _ _ (h v' w' h2 h3 h4)
theorem zaw {ops:Array Oper} {o:Oper} {a:Act} {K:Act→World→Prop} {Q:Exit→Act→World→Prop} {E:Prop} (hgd:o.guard=none) (s x:Operand) (t:TypeId)
 (ho:o.op= .call {callee:= .builtin .append,args:= #[s,x],argTypes:= #[t,t]})
 (base:Nat) (e:TypeId) (i:TypeInfo) (z:Value) (size bytes:Nat) (ht:P.underlying t=some (.slice e)) (hi:P.info? e=some i) (hz:i.zero=some z)
 (hsize:i.size=size) (hby:i.bytes=bytes) (hzs:z.cells.size=size) (hsz:0<size)
 (v:Value) (n:Nat) (xs:List Value) (hs:a.eval s=v) (hown:w.ownsRow base e size v n xs)
 (B:Nat) (A:Option Addr) (m c:Nat) (news:List Value) (hx:a.eval x= .slice A m c) (hr:zbE w B size A m news) (h1: ∀u∈news,u.oneCell'=true)
 (h63:n+m≤maxLen) (hbytes:(n+m)*bytes≤140737488355328) (hbase:base≤w.heap.size)
 (h: ∀v' w',w'.ownsRow base e size v' (n+m) (xs++news)→w.grownBy w' v.ownBlock→(v'.ownBlock=v.ownBlock∨v'.ownBlock=some w.heap.size)→K (a.put o.dst v') w'):
 if Region.wanted o (yielded ops a.tmps)=true then Oper.wp P o a w K Q else E:=by
 have hw:Region.wanted o (yielded ops a.tmps)=true:=by simp[Region.wanted,hgd]
 rw[if_pos hw];exact zee w s x t ho base e i z size bytes ht hi hz hsize hby hzs hsz v n xs hs hown B A m c news hx hr h1 h63 hbytes hbase h
end
def atT (r:List Tok) (size:Nat):Nat:=(r.headD ⟨0,[],size⟩).at_
def zdb (x:List Tok×Nat×Nat) (size:Nat):zaK×Nat×Nat:=
 if x.2.2=0 then match zgN x.1 with
  | .ok c _=>(c,0,0)
  | .bad e r=>(zaK.none,atT r size,e)
 else(zaK.none,x.2.1,x.2.2)
def zpr (l:List zcQ):Ps (List zcQ):=fun r=>match r with
 |[]=> .ok l []
 |t::r=> .bad 80 (t::r)
def zes:Ps (List zcQ):=do
 let l←zcs
 zpr l
def zez (x:List Tok×Nat×Nat) (size:Nat):List zcQ×Nat×Nat:=
 if x.2.2=0 then match zes x.1 with
  | .ok c _=>(c,0,0)
  | .bad e r=>([],atT r size,e)
 else([],x.2.1,x.2.2)
def zaK.count (c:zaK):Nat:=c.modules.length+c.channels.length+c.switches.length+c.links.length+c.vls.length+c.health.length+c.causes.length+c.versions.length
theorem zi9 (P:Nat→List UInt8→List Tok×Nat×Nat→Prop)
 (h0: ∀p l,l.drop (zaC false l)=[]→P p l ([],0,0))
 (h1: ∀p l b r,l.drop (zaC false l)=b::r→(za9 (b::r)).2.2=0→P (p+zaC false l+(za9 (b::r)).2.1) ((b::r).drop (za9 (b::r)).2.1) (zbM (p+zaC false l+(za9 (b::r)).2.1) ((b::r).drop (za9 (b::r)).2.1))→
   P p l (⟨(za9 (b::r)).1,(b::r).take (za9 (b::r)).2.1,p+zaC false l⟩::(zbM (p+zaC false l+(za9 (b::r)).2.1) ((b::r).drop (za9 (b::r)).2.1)).1,(zbM (p+zaC false l+(za9 (b::r)).2.1) ((b::r).drop (za9 (b::r)).2.1)).2))
 (h2: ∀p l b r,l.drop (zaC false l)=b::r→(za9 (b::r)).2.2≠0→P p l ([],p+zaC false l,(za9 (b::r)).2.2)):
 ∀(n p:Nat) (l:List UInt8),l.length≤n→P p l (zbM p l)
 |n,p,l,hn=>by
  rw[zdD];have hd:(l.drop (zaC false l)).length≤l.length:=by rw[List.length_drop];omega
  cases h:l.drop (zaC false l) with
  |nil=>exact h0 p l h
  |cons b r=>
   rw[h] at hd;simp only[List.length_cons] at hd;simp only;by_cases hz:(za9 (b::r)).2.2=0
   ·have hp:=zcr b r hz
    have hl:((b::r).drop (za9 (b::r)).2.1).length<l.length:=by rw[List.length_drop,List.length_cons];omega
    cases n with
    |zero=>omega
    |succ n=>
     rw[if_pos hz];exact h1 p l b r h hz (zi9 P h0 h1 h2 n _ _ (by omega))
   ·rw[if_neg hz]
    exact h2 p l b r h hz
def zhl (t:Tok):Prop:= ∃b r,t.text=b::r∧zcu b=false∧(b==35)=false∧ ∀suf:List UInt8,(∀c s,suf=c::s→zaP c=false)→za9 (t.text++suf)=(t.kind,t.text.length,0)
theorem zgM (b:UInt8) (h:za2 b=true∨zaJ b=true∨zeI b=true):zcu b=false∧(b==35)=false:=by
 constructor
 ·rw[Bool.eq_false_iff]
  intro hs;unfold zcu at hs;simp only[Bool.or_eq_true,beq_iff_eq] at hs;rcases hs with((rfl|rfl)|rfl)|rfl<;>revert h<;>decide
 ·rw[Bool.eq_false_iff]
  intro hs;have hs':b=35:=by simpa using hs
  subst hs'
  revert h;decide
theorem ziz (r suf:List UInt8) (hs: ∀c s,suf=c::s→zaP c=false):zcX (r.take (zcX r)++suf)=zcX r∧(r.take (zcX r)++suf).take (zcX r)=r.take (zcX r):=by
 have e:r.take (zcX r)=r.takeWhile zaP:=by
  unfold zcX;exact List.prefix_iff_eq_take.1 (List.takeWhile_prefix zaP) |>.symm
 have h1:zcX (r.take (zcX r)++suf)=zcX r:=by
  rw[e];unfold zcX;rw[List.takeWhile_append_of_pos (fun a ha=>by
   have:=List.all_takeWhile (l:=r) (p:=zaP);rw[List.all_eq_true] at this;exact this a ha)]
  cases suf with
  |nil=>simp
  |cons c s=>rw[List.takeWhile_cons,hs c s rfl];simp
 refine⟨h1,?_⟩;have hl:(r.take (zcX r)).length=zcX r:=by rw[List.length_take];have:=zir r;omega
 rw[List.take_append_of_le_length (by omega),List.take_take]
 congr 1
 omega
theorem zkX (b:UInt8) (r:List UInt8) (at_:Nat) (h:(za9 (b::r)).2.2=0):zhl ⟨(za9 (b::r)).1,(b::r).take (za9 (b::r)).2.1,at_⟩:=by
 have hr:=zir r;by_cases h1:za2 b=true
 ·by_cases h2:24<1+zcX r
  ·unfold za9 at h;simp only[h1,if_true,h2] at h;cases h
  ·have e:za9 (b::r)=(1,1+zcX r,0):=by unfold za9;simp[h1,h2]
   rw[e];obtain⟨n1,n2⟩:=zgM b (.inl h1);refine⟨b,r.take (zcX r),by simp only;rw[Nat.add_comm,List.take_succ_cons],n1,n2,fun suf hs=> ?_⟩;simp only;obtain⟨a1,a2⟩:=ziz r suf hs;have hl:((b::r).take (1+zcX r)).length=1+zcX r:=by rw[List.length_take,List.length_cons];omega
   rw[hl,Nat.add_comm 1,List.take_succ_cons,List.cons_append];unfold za9;simp only;rw[if_pos h1,a1,if_neg h2,Nat.add_comm]
 ·by_cases h2:zaJ b=true
  ·by_cases h3:zd6 (b::r.take (zcX r))=true
   ·have e:za9 (b::r)=(2,1+zcX r,0):=by unfold za9;simp[h1,h2,h3]
    rw[e];obtain⟨n1,n2⟩:=zgM b (.inr (.inl h2));refine⟨b,r.take (zcX r),by simp only;rw[Nat.add_comm,List.take_succ_cons],n1,n2,fun suf hs=> ?_⟩;simp only;obtain⟨a1,a2⟩:=ziz r suf hs;have hl:((b::r).take (1+zcX r)).length=1+zcX r:=by rw[List.length_take,List.length_cons];omega
    rw[hl,Nat.add_comm 1,List.take_succ_cons,List.cons_append];unfold za9;simp only;rw[if_neg h1,if_pos h2,a1,a2,if_pos h3,Nat.add_comm]
   ·exfalso
    unfold za9 at h;simp only[h1,h2,h3,if_true] at h;simp at h
  ·by_cases h3:zeI b=true
   ·have e:za9 (b::r)=(3,1,0):=by unfold za9;simp[h1,h2,h3]
    rw[e];obtain⟨n1,n2⟩:=zgM b (.inr (.inr h3));refine⟨b,[],by simp,n1,n2,fun suf hs=> ?_⟩;simp only[List.take_succ_cons,List.take_zero,List.cons_append,List.nil_append,List.length_cons,List.length_nil];unfold za9;simp only;rw[if_neg h1,if_neg h2,if_pos h3]
   ·exfalso
    unfold za9 at h;simp only[h1,h2,h3] at h;simp at h
theorem zkq (p:Nat) (l:List UInt8): ∀t∈(zbM p l).1,zhl t:=by
 refine zi9 (fun p l q=> ∀t∈q.1,zhl t) ?_ ?_ ?_ l.length p l (Nat.le_refl _)
 ·intro p l _ t ht;simp at ht
 ·intro p l b r h hz ih t ht
  rcases List.mem_cons.1 ht with rfl|ht
  ·exact zkX b r _ hz
  ·exact ih t ht
 ·intro p l b r _ _ t ht;simp at ht
theorem zoU (p:Nat) (t:Tok) (suf:List UInt8) (hv:zhl t) (hs: ∀c s,suf=c::s→zaP c=false):zbM p (t.text++suf)=(⟨t.kind,t.text,p⟩::(zbM (p+t.text.length) suf).1,(zbM (p+t.text.length) suf).2):=by
 obtain⟨b,r,e,h1,h2,h3⟩:=hv;have ht:=h3 suf hs;rw[zdD];have hz:zaC false (t.text++suf)=0:=by
  rw[e,List.cons_append,zdG,h1,h2];simp
 rw[hz,List.drop_zero];have ec:t.text++suf=b::(r++suf):=by rw[e];rfl
 rw[ec] at ht ⊢;simp only[ht,if_true,Nat.add_zero];rw[←ec,List.take_left,List.drop_left]
theorem zjk {t:Tok} (h:zhl t):(t.kind=1→ ∃b r,t.text=b::r∧za2 b=true)∧(t.kind=2→zd6 t.text=true∧ ∃b r,t.text=b::r∧zaJ b=true):=by
 obtain⟨b,r,e,_,_,hs⟩:=h;have h0:=hs [] (fun c s h=>by cases h);rw[List.append_nil,e] at h0;unfold za9 at h0;dsimp only at h0;by_cases hl:za2 b=true
 ·rw[if_pos hl] at h0
  have hk:1=t.kind:=by
   split at h0
   ·exact congrArg (·.1) h0
   ·exact congrArg (·.1) h0
  exact⟨fun _=>⟨b,r,e,hl⟩,fun h2=>by omega⟩
 ·rw[if_neg hl] at h0
  by_cases hd:zaJ b=true
  ·rw[if_pos hd] at h0
   have hk:2=t.kind:=by
    split at h0
    ·exact congrArg (·.1) h0
    ·exact congrArg (·.1) h0
   refine⟨fun h1=>by omega,fun _=>⟨?_,b,r,e,hd⟩⟩
   split at h0
   ·rename_i hn
    have hlen:1+zcX r=(b::r).length:=congrArg (·.2.1) h0;rw[e]
    rwa[List.take_of_length_le (by simp at hlen;omega)] at hn
   ·have:(72:Nat)=0:=congrArg (·.2.2) h0
    omega
  ·rw[if_neg hd] at h0
   have hk:3=t.kind:=by
    split at h0
    ·exact congrArg (·.1) h0
    ·exact congrArg (·.1) h0
   exact⟨fun h1=>by omega,fun h1=>by omega⟩
theorem zmm (p:Nat) (l:List UInt8) (hl:l.length≤1099511627776) (hs: ∀t∈(zbM p l).1,t.text.length≤l.length):zhA (zbM p l).1:=fun t ht hk=>
 ⟨((zjk (zkq p l t ht)).2 hk).1,Nat.le_trans (hs t ht) hl⟩
end Go.Proofs.YtlngbjphagnloaaGreatDoor
