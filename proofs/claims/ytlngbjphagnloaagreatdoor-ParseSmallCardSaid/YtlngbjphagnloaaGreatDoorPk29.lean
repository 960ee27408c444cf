/- Merged texts of the walks and of the plain laws on which the statement leans.-/
import Derived.Test.YtlngbjphagnloaaGreatDoorPk1
import Derived.Test.YtlngbjphagnloaaGreatDoorPk28
import Derived.Test.YtlngbjphagnloaaGreatDoorPk7
import Derived.Test.YtlngbjphagnloaaGreatDoorPk9
import Derived.Test.YtlngbjphagnloaaGreatDoorRows
import Derived.Test.YtlngbjphagnloaaGreatDoorCards
import Derived.Test.YtlngbjphagnloaaGreatDoorTie
import Derived.SevenTiedAt
import Derived.Lib.LaidTab
import Derived.Lib.SmallJoins
import Derived.Stop.LaidErr
import Derived.Shelf.Vars
set_option maxHeartbeats 4000000
set_option maxRecDepth 100000
namespace Go.Proofs.YtlngbjphagnloaaGreatDoor
open Go.Proofs.Tryz
open Go.RowKit
attribute [local go_sem] zax.cell
def ze4 (cb B:Nat) (oc:Option (List zcQ)) (w:World):Prop:=match oc with
 |none=> ∃A n c,w.heap[cb]? =some (.cells #[.slice A n c] 62 (0,0))
 |some l=> ∃A c,w.heap[cb]? =some (.cells #[.slice A l.length c] 62 (0,0))∧w.ownsRow B 60 4 (.slice A l.length c) l.length (l.flatMap za5)
theorem ze4.keep {cb B:Nat} {oc:Option (List zcQ)} {w w':World} (h:ze4 cb B oc w) (hk:zam (fun b=>b≠cb∧b<B) w w'):ze4 cb B oc w':=by
 cases oc with
 |none=>
  obtain⟨A,n,c,h⟩:=h;exact⟨A,n,c,(hk.block cb (zal h) (fun e=>e.1 rfl)).trans h⟩
 |some l=>
  obtain⟨A,c,h,ho⟩:=h;exact⟨A,c,(hk.block cb (zal h) (fun e=>e.1 rfl)).trans h,zai ho (fun g hg hb=>hk.block g (zaj ho hg).2 (fun e=>by omega))⟩
theorem zii (args:Array Value) (w:World):(callFunc 49 args).run prog w= .ok (.enter 49 args) w:=by
 simp[go_sem]
def zpc (pb B cb:Nat) (ts:List Tok) (W:World) (e:Ending) (W':World):Prop:=
 ∃j,j≤ts.length∧zam (fun b=>b=pb∨b=cb∨B≤b) W W'∧Cur pb ts j W'∧match zcs ts with
  | .ok a r=>r=ts.drop j∧e= .returned (.tuple #[])∧ze4 cb B (some a) W'
  | .bad n r=>r=ts.drop j∧e= .panicked [{v:=zdj n,recovered:=false}]∧ze4 cb B none W'
theorem zkv (pb B cb:Nat) (ts:List Tok) (W:World) (H:Hid (PSt pb ts 0 zaK.none B W)) (hT:Hid (zbS ts)) (hts:ts.length≤1000000) (hE:Hid (zci W)) (hpE:3≤pb) (hcp:cb<pb) (hR:ze4 cb B none W):
 Calls prog 49 #[.pointer (some ⟨pb,0,none⟩),.pointer (some ⟨cb,0,none⟩)] W (zpc pb B cb ts W):=by
 obtain⟨A0,n0,c0,hcb⟩:=hR;have HCB:=zaa hcb;clear hcb;have hlow:=H.out.low;have hbig:=H.out.big;have HC:=zaa (ziN pb 0 ts W (zaa H.out.cur) hts (Nat.zero_le _) (zaa hT.out.good) hE hpE (zaa hT.out.size))
 go_enter func49,ntmps49
 go_wp2_with fail;refine(HC.out).mono ?_;rintro e w1 hE1;have hlc:=(zal HCB.out);rcases hE1.split with⟨l,j,v,hr,hj,hA,hO,rfl⟩|⟨n,jn,hr,hjn,hA,rfl⟩
 rotate_left
 ·have hX:zpc pb B cb ts W (.panicked [{v:= .iface 122 (.agg #[.int .i64 (n:Int)]),recovered:=false}]) w1:=by
   refine⟨jn,hjn,hA.kept.mono (fun i hi=> .inl hi),H.out.cur.to hA,?_⟩;rw[show zcs ts= .bad n (ts.drop jn) from hr];exact⟨rfl,rfl,A0,n0,c0,(hA.kept.block cb hlc (by omega)).trans HCB.out⟩
  have HX:=zaa hX;clear hX hE1 hr hA;go_wp2_with fail;exact⟨rfl,HX.out⟩
 obtain⟨A1,q1,rfl⟩:=zah hO;have hcb1:=(hA.kept.block cb hlc (by omega)).trans HCB.out;have d0:w1.cell? ⟨cb,0,none⟩=some (.slice A0 n0 c0):=cell_of_row _ _ 0 _ _ _ hcb1;have g0:w1.frozen? ⟨cb,0,none⟩=false:=frozen_of_row _ _ 0 _ _ hcb1;have hl1:=(zal hcb1);have hKc:=(zam.refl (fun k=>k=cb) w1).setCell (p:=⟨cb,0,none⟩) (.inl rfl) (Value.slice A1 l.length q1);have hno: ∀o n,w1.cell? ⟨cb,o,none⟩≠some (.int .u8 n):=fun o n e=>by
  have h1:=cell_of_row w1 cb o _ _ _ hcb1;rw[e] at h1;have h2:=Array.mem_of_getElem? h1.symm;simp at h2
 have hX:zpc pb B cb ts W (.returned (.tuple #[])) (w1.setCell ⟨cb,0,none⟩ (Value.slice A1 l.length q1)):=by
  refine⟨j,hj,(hA.kept.mono (G:=fun b=>b=pb∨b=cb∨B≤b) (fun i hi=> .inl hi)).trans (hKc.mono (fun i hi=> .inr (.inl hi))),(H.out.cur.to hA).off hno hKc (by omega),?_⟩;rw[show zcs ts= .ok l (ts.drop j) from hr];refine⟨rfl,rfl,A1,q1,heap_setCell_same _ cb 0 _ _ _ hcb1,?_⟩;exact zdP (zai hO (fun g hg hb=>hKc.block g (zaj hO hg).2 (by have:=(zaj hO hg).1;omega))) hbig
 have HX:=zaa hX;clear hX hKc hno hcb1 hE1 hr hA hO;go_wp2_with fail
 go_end0
 exact HX.out
theorem zlP (cb:Nat):zpo 49 cb zcs (ze4 cb) where
 call:=fun pb B ts W H hT hts hE hpE hcp hR=>(zkv pb B cb ts W H hT hts hE hpE hcp hR).mono (fun e W' h=>by
  obtain⟨j,h1,h2,h3,h4⟩:=h;refine⟨j,h1,h2,h3,?_⟩
  revert h4
  cases zcs ts with
  |ok a r=>exact id
  |bad n r=>exact id)
 left:=fun ts a t r h B W hR=>by
  obtain⟨A,c,h, -⟩:=hR;exact⟨A,_,c,h⟩
 enter:=zii
 keep:=fun B oa W W' h hk=>h.keep hk
theorem zko (x:List Tok×Nat×Nat) (size:Nat):zez x size=((zeT zcs x size).1.getD [],(zeT zcs x size).2.1,(zeT zcs x size).2.2)∧((zeT zcs x size).2.2=0↔(zeT zcs x size).1.isSome=true):=by
 unfold zez zeT zes
 split
 ·cases h:zcs x.1 with
  |ok c r=>
   rw[zac h]
   cases r with
   |nil=>exact⟨rfl,fun _=>rfl,fun _=>rfl⟩
   |cons t r=>exact⟨rfl,(fun h=>by cases h),(fun h=>by cases h)⟩
  |bad n r=>
   rw[zab h];refine⟨rfl,fun h0=> ?_,fun h=>by cases h⟩;have:=zlT _ _ _ h;dsimp only at h0
   omega
 ·rename_i h
  exact⟨rfl,fun h0=>absurd h0 h,fun h=>by cases h⟩
def zjN (W:World) (src:ByteArray) (e:Ending) (W':World):Prop:=
 ∃v,e= .returned (.tuple #[v,.int .i64 ((zez (zbr src.data.toList) src.size).2.1:Int),.int .i64 ((zez (zbr src.data.toList) src.size).2.2:Int)])∧Below W.heap.size W W'∧W'.ownsRow W.heap.size 60 4 v (zez (zbr src.data.toList) src.size).1.length ((zez (zbr src.data.toList) src.size).1.flatMap za5)
theorem zgV (src:ByteArray) (W:World) (hE:Hid (Env W)) (hP:Hid (zci W)):Calls prog 20 #[.string src] W (zjN W src):=by
 have hmf: ∀(fn:Fn) (first cap:Array Value) (w:World),(Instr.makeFunc fn first cap).run prog w= .ok (.func fn first cap) w:=fun _ _ _ _=>rfl
 have HZ:=zaa (heap_alloc_new W (.cells #[.slice none 0 0] 62));have HB:=zaa ((Below.refl W.heap.size W).alloc (Nat.le_refl _) (.cells #[.slice none 0 0] 62));obtain⟨hpt,hps⟩:=zko (zbr src.data.toList) src.size;have HPT:=zaa hpt;have HPS:=zaa hps;clear hpt hps
 go_enter func20,ntmps20
 go_wp2_with fail;generalize W.alloc _=V at *;refine(zk5 49 W.heap.size zcs (ze4 W.heap.size) (zaa (zlP _)) src V (zaa (hE.out.kept HB.out)) (zaa (hP.out.below HB.out)) (zal HZ.out) hP.out.big (zaa (fun B=>⟨none,0,0,HZ.out⟩))).mono ?_;rintro e w1 ⟨B,hB,hk,rfl,hR⟩;have HB1:=zaa (HB.out.trans (hk.below HB.out.size (fun i hi e=>by omega)));have hBW:W.heap.size≤B:=Nat.le_trans HB.out.size hB;have hBc:W.heap.size<B:=Nat.lt_of_lt_of_le (zal HZ.out) hB;generalize(zeT zcs (zbr src.data.toList) src.size).1=oc at *;generalize((zeT zcs (zbr src.data.toList) src.size).2.1:Nat)=at_ at *;generalize((zeT zcs (zbr src.data.toList) src.size).2.2:Nat)=er at *;have HR:=zaa hR;clear hR hk HZ
 cases oc with
 |none=>
  have her:er≠0:=fun h=>by have:=HPS.out.1 h;cases this
  have hb1:((er:Int) != 0)=true:=by simp;omega
  have hb2:((er:Int)==0)=false:=by simp;omega
  obtain⟨A,n,c,hcb⟩:=HR.out;have d0:w1.cell? ⟨W.heap.size,0,none⟩=some (.slice A n c):=cell_of_row _ _ 0 _ _ _ hcb;have g0:w1.frozen? ⟨W.heap.size,0,none⟩=false:=frozen_of_row _ _ 0 _ _ hcb;have hl:=(zal hcb);have HX:=zaa ((HB1.out.setCell (p:=⟨W.heap.size,0,none⟩) (Nat.le_refl _) (.slice none 0 0)).setCell (p:=⟨W.heap.size,0,none⟩) (Nat.le_refl _) (.slice none 0 0));have HX1:=zaa (HB1.out.setCell (p:=⟨W.heap.size,0,none⟩) (Nat.le_refl _) (.slice none 0 0));clear her;have hFIN:zjN W src (.returned (.tuple #[.slice none 0 0,.int .i64 (at_:Int),.int .i64 (er:Int)])) ((w1.setCell ⟨W.heap.size,0,none⟩ (.slice none 0 0)).setCell ⟨W.heap.size,0,none⟩ (.slice none 0 0)):=by
   refine⟨_,by rw[HPT.out],HX.out,?_⟩;rw[HPT.out];exact World.ownsRow_nil _ _ _ _
  have HFIN:=zaa hFIN;clear hFIN;generalize(er:Int)=ze at *;generalize(at_:Int)=za at *;go_wp2_with fail;refine bodyPost_ret (v:= .tuple #[.slice none 0 0,.int .i64 za,.int .i64 ze]) (by simp[results,Tryz.results20,go_sem,d0]) rfl HFIN.out
 |some l=>
  obtain rfl:er=0:=HPS.out.2 rfl;obtain⟨A,c,hcb,ho⟩:=HR.out;have d0:w1.cell? ⟨W.heap.size,0,none⟩=some (.slice A l.length c):=cell_of_row _ _ 0 _ _ _ hcb;have g0:w1.frozen? ⟨W.heap.size,0,none⟩=false:=frozen_of_row _ _ 0 _ _ hcb;have hl:=(zal hcb);have HX:=zaa (HB1.out.setCell (p:=⟨W.heap.size,0,none⟩) (Nat.le_refl _) (.slice A l.length c));have hFIN:zjN W src (.returned (.tuple #[.slice A l.length c,.int .i64 (at_:Int),.int .i64 0])) (w1.setCell ⟨W.heap.size,0,none⟩ (.slice A l.length c)):=by
   refine⟨_,by rw[HPT.out];rfl,HX.out,?_⟩;rw[HPT.out];exact zdP (zai ho (fun g hg hb=>Below.heap_setCell _ _ _ _ (by show g≠W.heap.size;omega))) hBW
  have HFIN:=zaa hFIN;clear hFIN ho hcb;generalize(at_:Int)=za at *;go_wp2_with fail;refine bodyPost_ret (v:= .tuple #[.slice A l.length c,.int .i64 za,.int .i64 0]) (by simp[results,Tryz.results20,go_sem,d0]) rfl HFIN.out
def zeV (A:Nat→Option Addr) (q:Nat→Nat) (c:zaK):List Value:=[.slice (A 0) c.modules.length (q 0),.slice (A 1) c.channels.length (q 1),.slice (A 2) c.switches.length (q 2),.slice (A 3) c.links.length (q 3),.slice (A 4) c.vls.length (q 4),.slice (A 5) c.health.length (q 5),.slice (A 6) c.causes.length (q 6),.slice (A 7) c.versions.length (q 7)]
theorem zbb.cells {w:World} {B:Nat} {vs:List Value} {c:zaK} (h:zbb w B vs (zaM c)):zaf w (fun b=>B≤b) vs c.cells:=by
 refine⟨h.len,fun j v d hv hd=> ?_⟩;have hj:=(List.getElem?_eq_some_iff.1 hd).1;simp[zaK.cells] at hj;rcases(by omega:j=0∨j=1∨j=2∨j=3∨j=4∨j=5∨j=6∨j=7) with rfl|rfl|rfl|rfl|rfl|rfl|rfl|rfl
 all_goals
  simp[zaK.cells] at hd;subst hd;exact h.dat hv rfl
def zoJ (W:World) (c:zaK) (at_ er:Nat) (e:Ending) (W':World):Prop:=
 ∃A q,e= .returned (.tuple #[.agg (zeV A q c).toArray,.int .i64 (at_:Int),.int .i64 (er:Int)])∧Below W.heap.size W W'∧zaf W' (fun b=>W.heap.size≤b) (zeV A q c) c.cells
def zoS (W:World) (c:zaK) (at_ er:Nat) (e:Ending) (W':World):Prop:=
 ∃A q B,W.heap.size≤B∧e= .returned (.tuple #[.agg (zeV A q c).toArray,.int .i64 (at_:Int),.int .i64 (er:Int)])∧Below W.heap.size W W'∧zbb W' B (zeV A q c) (zaM c)
theorem zkZ (src:ByteArray) (c:zaK) (at_ er:Nat) (h:zdb (zbr src.data.toList) src.size=(c,at_,er)) (W:World) (hE:Hid (Env W)) (hP:Hid (zci W)):Calls prog 11 #[.string src] W (zoS W c at_ er):=by
 refine(zkM src W hE hP).mono ?_;rintro e w' ⟨vs,B,hB,rfl,hb,hr⟩;rw[h] at hr ⊢;dsimp only at hr ⊢;obtain⟨v0,v1,v2,v3,v4,v5,v6,v7,rfl⟩:=zgF hr.len;obtain⟨A0,q0,h0⟩:=zah (hr.own 0 v0 _ rfl rfl).choose_spec.1;obtain⟨A1,q1,h1⟩:=zah (hr.own 1 v1 _ rfl rfl).choose_spec.1;obtain⟨A2,q2,h2⟩:=zah (hr.own 2 v2 _ rfl rfl).choose_spec.1;obtain⟨A3,q3,h3⟩:=zah (hr.own 3 v3 _ rfl rfl).choose_spec.1;obtain⟨A4,q4,h4⟩:=zah (hr.own 4 v4 _ rfl rfl).choose_spec.1;obtain⟨A5,q5,h5⟩:=zah (hr.own 5 v5 _ rfl rfl).choose_spec.1;obtain⟨A6,q6,h6⟩:=zah (hr.own 6 v6 _ rfl rfl).choose_spec.1;obtain⟨A7,q7,h7⟩:=zah (hr.own 7 v7 _ rfl rfl).choose_spec.1;simp only[List.length_map] at h0 h1 h2 h3 h4 h5 h6 h7;subst h0 h1 h2 h3 h4 h5 h6 h7;exact⟨fun i=>match i with|0=>A0|1=>A1|2=>A2|3=>A3|4=>A4|5=>A5|6=>A6|_=>A7,fun i=>match i with|0=>q0|1=>q1|2=>q2|3=>q3|4=>q4|5=>q5|6=>q6|_=>q7,B,hB,rfl,hb,hr⟩
theorem zdS (src:ByteArray) (c:zaK) (at_ er:Nat) (h:zdb (zbr src.data.toList) src.size=(c,at_,er)) (W:World) (hE:Hid (Env W)) (hP:Hid (zci W)):Calls prog 11 #[.string src] W (zoJ W c at_ er):=by
 refine(zkZ src c at_ er h W hE hP).mono ?_;rintro e w' ⟨A,q,B,hB,rfl,hb,hr⟩;exact⟨A,q,rfl,hb,hr.cells.mono (fun b hb _=>by omega)⟩
theorem ziP (x y:zaK) (u0 u1 u2 u3 u4 u5 u6 u7 v0 v1 v2 v3 v4 v5 v6 v7:Value) (W:World) (Hu:zaf W (fun _=>True) [u0,u1,u2,u3,u4,u5,u6,u7] x.cells) (Hv:zaf W (fun _=>True) [v0,v1,v2,v3,v4,v5,v6,v7] y.cells) (hx:x.sm) (hy:y.sm):
 Calls prog 12 #[.agg #[u0,u1,u2,u3,u4,u5,u6,u7],.agg #[v0,v1,v2,v3,v4,v5,v6,v7]] W fun e w'=>e= .returned (.bool (eqB x y))∧Below W.heap.size W w':=
 zh8 x y u0 v0 u1 v1 u2 v2 u3 v3 u4 v4 u5 v5 u6 v6 u7 v7 W (Hu.2 0 _ _ rfl rfl) (Hv.2 0 _ _ rfl rfl) (Hu.2 1 _ _ rfl rfl) (Hv.2 1 _ _ rfl rfl) (Hu.2 2 _ _ rfl rfl) (Hv.2 2 _ _ rfl rfl) (Hu.2 3 _ _ rfl rfl) (Hv.2 3 _ _ rfl rfl) (Hu.2 4 _ _ rfl rfl) (Hv.2 4 _ _ rfl rfl) (Hu.2 5 _ _ rfl rfl) (Hv.2 5 _ _ rfl rfl) (Hu.2 6 _ _ rfl rfl) (Hv.2 6 _ _ rfl rfl) (Hu.2 7 _ _ rfl rfl) (Hv.2 7 _ _ rfl rfl) hx hy
theorem DAt.block {w:World} {b:Nat} {cs:Array Value} {t:TypeId} {fr:Nat×Nat} {size n c:Nat} {es:List (List Dat)} {G:Nat→Prop} (h:w.heap[b]? =some (.cells cs t fr)) (hn:es.length=n) (hw: ∀e∈es,e.length=size) (hc:zaf w G cs.toList es.flatten) (hG:G b) (hcap:n≤c:=by omega):DAt w G (.slice (some ⟨b,0,none⟩) n c) (.row size es):=by
 have hv: ∃val:Nat→Nat→Value,∀i j e d,es[i]? =some e→e[j]? =some d→w.cell? ⟨b,0+i*size+j,none⟩=some (val i j)∧DAt w G (val i j) d:=by
  refine⟨fun i j=>(cs[i*size+j]?).getD (.bool false),fun i j e d he hd=> ?_⟩;have hj:j<size:=by rw[←hw e (List.mem_of_getElem? he)];exact(List.getElem?_eq_some_iff.1 hd).1
  have hf:=zih es hw i j e he hj;rw[hd] at hf;have hlt:=(List.getElem?_eq_some_iff.1 hf).1;have hcl:i*size+j<cs.size:=by rw[←Array.length_toList,hc.1];exact hlt
  have hcell:=cell_of_row w b (i*size+j) _ _ _ h;have hg:(cs[i*size+j]?).getD (.bool false)=cs[i*size+j]:=by rw[Array.getElem?_eq_getElem hcl];rfl
  show w.cell? ⟨b,0+i*size+j,none⟩=some ((cs[i*size+j]?).getD (.bool false))∧DAt w G ((cs[i*size+j]?).getD (.bool false)) d
  rw[hg,Nat.zero_add,hcell,Array.getElem?_eq_getElem hcl];exact⟨rfl,hc.2 _ _ d (by rw[Array.getElem?_toList,Array.getElem?_eq_getElem hcl]) hf⟩
 obtain⟨val,hval⟩:=hv;exact .row b 0 c size n es val hn hG (zal h) (fun i j e d he hd=>(hval i j e d he hd).1) (fun i j e d he hd=>(hval i j e d he hd).2) hcap
def zcZ (W:World) (l:List Obj):World:=l.foldl World.alloc W
theorem zd9: ∀(l:List Obj) (W:World),(zcZ W l).heap.size=W.heap.size+l.length
 |[],W=>rfl
 |o::l,W=>by
  show(zcZ (W.alloc o) l).heap.size=_
  rw[zd9 l (W.alloc o),World.size_alloc,List.length_cons]
  omega
theorem zc2: ∀(l:List Obj) (W:World),Below W.heap.size W (zcZ W l)
 |[],W=>Below.refl _ _
 |o::l,W=>((Below.refl W.heap.size W).alloc (Nat.le_refl _) o).trans ((zc2 l (W.alloc o)).mono (by simp))
theorem zdf: ∀(l:List Obj) (W:World) (i:Nat) (o:Obj),l[i]? =some o→(zcZ W l).heap[W.heap.size+i]? =some o
 |[],W,i,o,h=>by simp at h
 |p::l,W,0,o,h=>by
  have h:p=o:=by simpa using h
  subst h;have hb:=(zc2 l (W.alloc p)).block W.heap.size (by simp);rw[Nat.add_zero];exact hb.trans (heap_alloc_new W p)
 |p::l,W,i+1,o,h=>by
  have:=zdf l (W.alloc p) i o (by simpa using h);rw[World.size_alloc] at this;rw[show W.heap.size+(i+1)=W.heap.size+1+i by omega];exact this
def exA:ByteArray:=⟨#[109,111,100,117,108,101,32,109,32,109,101,109,32,54,52,32,102,114,97,109,101,32,49,48,48,32,123,32,112,97,114,116,32,112,32,112,101,114,105,111,100,32,53,48,32,108,101,110,103,116,104,32,49,48,32,109,101,109,32,56,32,123,32,115,101,109,97,115,32,49,44,32,48,59,32,111,117,116,32,111,32,115,97,109,112,108,105,110,103,32,115,105,122,101,32,52,32,114,101,102,114,101,115,104,32,48,59,32,112,114,111,99,32,97,32,112,114,105,111,32,51,32,112,101,114,105,111,100,32,53,48,32,108,105,109,105,116,32,52,48,32,123,32,115,101,116,32,48,32,53,59,32,115,101,110,100,32,48,32,48,32,49,59,32,110,101,120,116,59,32,125,32,125,32,125,32,115,119,105,116,99,104,32,115,32,110,101,116,32,98,32,100,101,108,97,121,32,49,54,32,115,116,111,114,101,32,52,48,48,59,32,108,105,110,107,32,109,32,115,32,110,101,116,32,98,32,115,108,111,119,32,50,59]⟩
def exB:ByteArray:=⟨#[111,110,32,115,116,97,99,107,32,112,97,114,116,32,112,32,108,101,118,101,108,32,112,97,114,116,32,100,111,32,99,111,108,100,59,32,99,97,117,115,101,32,117,32,110,101,101,100,115,32,120,32,58,32,49,44,32,121,32,58,32,50,32,117,110,108,101,115,115,32,122,59]⟩
def exC:ByteArray:=⟨#[118,108,32,118,32,102,114,111,109,32,109,46,112,46,111,32,98,97,103,32,50,48,48,32,109,97,120,32,52,48,32,116,111,32,109,50,46,112,46,105]⟩
def exD:ByteArray:=⟨#[112,97,114,116,32,112]⟩
def exE:ByteArray:=⟨#[97,100,100,32,49,59]⟩
def zer:zaK:={zaK.none with modules:=[⟨[109],64,100,[⟨[112],50,10,8,[1,0],0,0,[],[⟨[111],1,true,4,0,0⟩],[⟨[97],3,50,40,[⟨2,0,5,0⟩,⟨7,0,0,1⟩,⟨19,0,0,0⟩]⟩]⟩]⟩],switches:=[⟨[115],1,16,400⟩],links:=[⟨[109],[115],1,2⟩]}
def zfd:zaK:={zaK.none with health:=[⟨[],[112],5,2,5⟩],causes:=[⟨[117],[⟨[120],1⟩,⟨[121],2⟩],[[122]]⟩]}
theorem zpj:zdb (zbr exA.data.toList) exA.size=(zer,0,0):=by kernel_rfl
theorem zpg:zdb (zbr exB.data.toList) exB.size=(zfd,0,0):=by kernel_rfl
theorem zpt:zdb (zbr exC.data.toList) exC.size=(zaK.none,40,80):=by kernel_rfl
theorem zpi:zdb (zbr exD.data.toList) exD.size=(zaK.none,0,80):=by kernel_rfl
theorem zo8:zez (zbr exE.data.toList) exE.size=([],5,80):=by kernel_rfl
theorem ziK:zer.sm:=by constructor<;>simp[zer,zaK.none,zdZ.sm,zas.sm,zca.sm]
theorem ziW:zfd.sm:=by constructor<;>simp[zfd,zaK.none,zbl.sm]
def wVs (z:Nat):List Value:=[.slice (some ⟨z+1+1+1+1+1+1,0,none⟩) 1 1,.slice none 0 0,.slice (some ⟨z+1+1+1+1+1+1+1,0,none⟩) 1 1,.slice (some ⟨z+1+1+1+1+1+1+1+1,0,none⟩) 1 1,.slice none 0 0,.slice none 0 0,.slice none 0 0,.slice none 0 0]
def wOb (z:Nat):List Obj:=[
 .cells #[.int .u8 2,.int .i64 0,.int .i64 5,.int .i64 0,.int .u8 7,.int .i64 0,.int .i64 0,.int .i64 1,.int .u8 19,.int .i64 0,.int .i64 0,.int .i64 0] 60,
 .cells #[.int .i64 1,.int .i64 0] 3,
 .cells #[.string ⟨#[111]⟩,.int .u8 1,.bool true,.int .i64 4,.int .i64 0,.int .i64 0] 53,
 .cells #[.string ⟨#[97]⟩,.int .i64 3,.int .i64 50,.int .i64 40,.slice (some ⟨z,0,none⟩) 3 3] 67,
 .cells #[.string ⟨#[112]⟩,.int .i64 50,.int .i64 10,.int .i64 8,.slice (some ⟨z+1,0,none⟩) 2 2,.int .i64 0,.int .i64 0,.slice none 0 0,.slice (some ⟨z+1+1,0,none⟩) 1 1,.slice (some ⟨z+1+1+1,0,none⟩) 1 1] 51,
 .cells #[.string ⟨#[112]⟩,.int .i64 50,.int .i64 10,.int .i64 8,.slice (some ⟨z+1,0,none⟩) 2 2,.int .i64 0,.int .i64 0,.slice none 0 0,.slice (some ⟨z+1+1,0,none⟩) 1 1,.slice (some ⟨z+1+1+1,0,none⟩) 1 1] 51,
 .cells #[.string ⟨#[109]⟩,.int .i64 64,.int .i64 100,.slice (some ⟨z+1+1+1+1+1,0,none⟩) 1 1] 46,
 .cells #[.string ⟨#[115]⟩,.int .i64 1,.int .i64 16,.int .i64 400] 75,
 .cells #[.string ⟨#[109]⟩,.string ⟨#[115]⟩,.int .i64 1,.int .i64 2] 77,
 .cells (wVs z).toArray 32]
theorem zns (W:World):zaf (zcZ W (wOb W.heap.size)) (fun _=>True) (wVs W.heap.size) zer.cells:=by
 have hat:=zdf (wOb W.heap.size) W;generalize zcZ W (wOb W.heap.size)=V at hat;generalize W.heap.size=z at hat;have d0:DAt V (fun _=>True) (.slice (some ⟨z,0,none⟩) 3 3) (.row 4 [zcQ.cells ⟨2,0,5,0⟩,zcQ.cells ⟨7,0,0,1⟩,zcQ.cells ⟨19,0,0,0⟩]):=
  DAt.block (hat 0 _ rfl) rfl (by simp[zcQ.cells]) (by((repeat(refine zaf.cons ?_ ?_;first|exact .leaf _|exact .nil _ _ _|assumption));exact zaf.nil)) trivial
 have d1:DAt V (fun _=>True) (.slice (some ⟨z+1,0,none⟩) 2 2) (.row 1 (zbs [1,0])):=
  DAt.block (hat 1 _ rfl) rfl (by simp[zbs]) (by((repeat(refine zaf.cons ?_ ?_;first|exact .leaf _|exact .nil _ _ _|assumption));exact zaf.nil)) trivial
 have d2:DAt V (fun _=>True) (.slice (some ⟨z+1+1,0,none⟩) 1 1) (.row 6 [zcp.cells ⟨[111],1,true,4,0,0⟩]):=
  DAt.block (hat 2 _ rfl) rfl (by simp[zcp.cells]) (by((repeat(refine zaf.cons ?_ ?_;first|exact .leaf _|exact .nil _ _ _|assumption));exact zaf.nil)) trivial
 have d3:DAt V (fun _=>True) (.slice (some ⟨z+1+1+1,0,none⟩) 1 1) (.row 5 [zca.cells ⟨[97],3,50,40,[⟨2,0,5,0⟩,⟨7,0,0,1⟩,⟨19,0,0,0⟩]⟩]):=
  DAt.block (hat 3 _ rfl) rfl (by simp[zca.cells]) (by((repeat(refine zaf.cons ?_ ?_;first|exact .leaf _|exact .nil _ _ _|assumption));exact zaf.nil)) trivial
 have d4:DAt V (fun _=>True) (.slice (some ⟨z+1+1+1+1+1,0,none⟩) 1 1) (.row 10 [zas.cells ⟨[112],50,10,8,[1,0],0,0,[],[⟨[111],1,true,4,0,0⟩],[⟨[97],3,50,40,[⟨2,0,5,0⟩,⟨7,0,0,1⟩,⟨19,0,0,0⟩]⟩]⟩]):=
  DAt.block (hat 5 _ rfl) rfl (by simp[zas.cells]) (by((repeat(refine zaf.cons ?_ ?_;first|exact .leaf _|exact .nil _ _ _|assumption));exact zaf.nil)) trivial
 have d5:DAt V (fun _=>True) (.slice (some ⟨z+1+1+1+1+1+1,0,none⟩) 1 1) (.row 4 (zer.modules.map zdZ.cells)):=
  DAt.block (hat 6 _ rfl) rfl (by simp[zer,zdZ.cells]) (by((repeat(refine zaf.cons ?_ ?_;first|exact .leaf _|exact .nil _ _ _|assumption));exact zaf.nil)) trivial
 have d6:DAt V (fun _=>True) (.slice (some ⟨z+1+1+1+1+1+1+1,0,none⟩) 1 1) (.row 4 (zer.switches.map SwD.cells)):=
  DAt.block (hat 7 _ rfl) rfl (by simp[zer,SwD.cells]) (by((repeat(refine zaf.cons ?_ ?_;first|exact .leaf _|exact .nil _ _ _|assumption));exact zaf.nil)) trivial
 have d7:DAt V (fun _=>True) (.slice (some ⟨z+1+1+1+1+1+1+1+1,0,none⟩) 1 1) (.row 4 (zer.links.map zc6.cells)):=
  DAt.block (hat 8 _ rfl) rfl (by simp[zer,zc6.cells]) (by((repeat(refine zaf.cons ?_ ?_;first|exact .leaf _|exact .nil _ _ _|assumption));exact zaf.nil)) trivial
 ((repeat(refine zaf.cons ?_ ?_;first|exact .leaf _|exact .nil _ _ _|assumption));exact zaf.nil)
def rVs (z:Nat):List Value:=[.slice none 0 0,.slice none 0 0,.slice none 0 0,.slice none 0 0,.slice none 0 0,.slice (some ⟨z+1,0,none⟩) 1 1,.slice (some ⟨z+1+1+1+1,0,none⟩) 1 1,.slice none 0 0]
def rOb (z:Nat) (c:Obj):List Obj:=[c,
 .cells #[.string ⟨#[]⟩,.string ⟨#[112]⟩,.int .u8 5,.int .u8 2,.int .u8 5] 57,
 .cells #[.string ⟨#[120]⟩,.int .i64 1,.string ⟨#[121]⟩,.int .i64 2] 79,
 .cells #[.string ⟨#[122]⟩] 9,
 .cells #[.string ⟨#[117]⟩,.slice (some ⟨z+1+1,0,none⟩) 2 2,.slice (some ⟨z+1+1+1,0,none⟩) 1 1] 82,
 .cells (rVs z).toArray 32]
theorem znp (W:World) (c:Obj):zaf (zcZ W (rOb W.heap.size c)) (fun _=>True) (rVs W.heap.size) zfd.cells:=by
 have hat:=zdf (rOb W.heap.size c) W;generalize zcZ W (rOb W.heap.size c)=V at hat;generalize W.heap.size=z at hat;have d0:DAt V (fun _=>True) (.slice (some ⟨z+1,0,none⟩) 1 1) (.row 5 (zfd.health.map zaI.cells)):=
  DAt.block (hat 1 _ rfl) rfl (by simp[zfd,zaI.cells]) (by((repeat(refine zaf.cons ?_ ?_;first|exact .leaf _|exact .nil _ _ _|assumption));exact zaf.nil)) trivial
 have d1:DAt V (fun _=>True) (.slice (some ⟨z+1+1,0,none⟩) 2 2) (.row 2 [zf2.cells ⟨[120],1⟩,zf2.cells ⟨[121],2⟩]):=
  DAt.block (hat 2 _ rfl) rfl (by simp[zf2.cells]) (by((repeat(refine zaf.cons ?_ ?_;first|exact .leaf _|exact .nil _ _ _|assumption));exact zaf.nil)) trivial
 have d2:DAt V (fun _=>True) (.slice (some ⟨z+1+1+1,0,none⟩) 1 1) (.row 1 (zhZ [[122]])):=
  DAt.block (hat 3 _ rfl) rfl (by simp[zhZ]) (by((repeat(refine zaf.cons ?_ ?_;first|exact .leaf _|exact .nil _ _ _|assumption));exact zaf.nil)) trivial
 have d3:DAt V (fun _=>True) (.slice (some ⟨z+1+1+1+1,0,none⟩) 1 1) (.row 3 (zfd.causes.map zbl.cells)):=
  DAt.block (hat 4 _ rfl) rfl (by simp[zfd,zbl.cells]) (by((repeat(refine zaf.cons ?_ ?_;first|exact .leaf _|exact .nil _ _ _|assumption));exact zaf.nil)) trivial
 ((repeat(refine zaf.cons ?_ ?_;first|exact .leaf _|exact .nil _ _ _|assumption));exact zaf.nil)
theorem zmT (W:World) (hE:Hid (Env W)) (hP:Hid (zci W)):Calls prog 20 #[.string exE] W fun e W'=> ∃A q,e= .returned (.tuple #[.slice A 0 q,.int .i64 5,.int .i64 80])∧Below W.heap.size W W':=by
 refine(zgV exE W hE hP).mono ?_;rintro e w' ⟨v,rfl,hb,ho⟩;rw[zo8] at ho ⊢;obtain⟨A,q,rfl⟩:=zah ho;exact⟨A,q,rfl,hb⟩
theorem zlJ (W:World) (hE:Hid (Env W)) (hP:Hid (zci W)):Calls prog 10 #[] W fun e w'=>e= .returned (.bool true)∧Below W.heap.size W w':=by
 have HA:=zaa (fun V hE hP=>zdS exA zer 0 0 zpj V hE hP);have HB:=zaa (fun V hE hP=>zdS exB zfd 0 0 zpg V hE hP);have HC:=zaa (fun V hE hP=>zdS exC zaK.none 40 80 zpt V hE hP);have HQ:=zaa zmT;have HD:=zaa (fun V hE hP=>zdS exD zaK.none 0 80 zpi V hE hP)
 go_enter func10,ntmps10
 go_wp2_with fail;have hb0:=zc2 (wOb W.heap.size) W;have hw0:=zns W;have hx0:=zdf (wOb W.heap.size) W 9 _ rfl;have hz0:(zcZ W (wOb W.heap.size)).heap.size=W.heap.size+10:=zd9 (wOb W.heap.size) W
 change Calls _ _ _ (zcZ W (wOb W.heap.size)) _
 generalize zcZ W (wOb W.heap.size)=V at *;have HE0:=zaa (hE.out.kept hb0);have HP0:=zaa (hP.out.below hb0);refine(HA.out V HE0 HP0).mono ?_;rintro e w1 ⟨A1,q1,rfl,hb1,hD1⟩;have HB1:=zaa (btZ hb0 hb1);have HW1:=zaa (hw0.below hb1);have HX1:=zaa ((hb1.block (W.heap.size+9) (by omega)).trans hx0);have HE1:=zaa (HE0.out.kept hb1);have HP1:=zaa (HP0.out.below hb1);have HD1:=zaa hD1;have hz1:W.heap.size+10≤w1.heap.size:=by have:=hb1.size;omega
 clear hb0 hw0 hx0 hb1 hD1 HE0 HP0 HA;rw[show(zeV A1 q1 zer).toArray= #[.slice (A1 0) 1 (q1 0),.slice (A1 1) 0 (q1 1),.slice (A1 2) 1 (q1 2),.slice (A1 3) 1 (q1 3),.slice (A1 4) 0 (q1 4),.slice (A1 5) 0 (q1 5),.slice (A1 6) 0 (q1 6),.slice (A1 7) 0 (q1 7)] from rfl];go_wp2_with fail;have hY2:=heap_alloc_new w1 (.cells #[.slice (A1 0) 1 (q1 0),.slice (A1 1) 0 (q1 1),.slice (A1 2) 1 (q1 2),.slice (A1 3) 1 (q1 3),.slice (A1 4) 0 (q1 4),.slice (A1 5) 0 (q1 5),.slice (A1 6) 0 (q1 6),.slice (A1 7) 0 (q1 7)] 32);have hb2:=(Below.refl w1.heap.size w1).alloc (Nat.le_refl _) (.cells #[.slice (A1 0) 1 (q1 0),.slice (A1 1) 0 (q1 1),.slice (A1 2) 1 (q1 2),.slice (A1 3) 1 (q1 3),.slice (A1 4) 0 (q1 4),.slice (A1 5) 0 (q1 5),.slice (A1 6) 0 (q1 6),.slice (A1 7) 0 (q1 7)] 32);have hz2:=World.size_alloc w1 (.cells #[.slice (A1 0) 1 (q1 0),.slice (A1 1) 0 (q1 1),.slice (A1 2) 1 (q1 2),.slice (A1 3) 1 (q1 3),.slice (A1 4) 0 (q1 4),.slice (A1 5) 0 (q1 5),.slice (A1 6) 0 (q1 6),.slice (A1 7) 0 (q1 7)] 32);generalize w1.alloc _=w2 at *;have HE2:=zaa (HE1.out.kept hb2);have HP2:=zaa (HP1.out.below hb2);refine(HB.out w2 HE2 HP2).mono ?_;rintro e w3 ⟨A3,q3,rfl,hb3,hD3⟩;have hb23:=hb2.trans (hb3.mono hb2.size);have HB3:=zaa (btZ HB1.out hb23);have HW3:=zaa (HW1.out.below hb23);have HX3:=zaa ((hb23.block (W.heap.size+9) (by omega)).trans HX1.out);have HY3:=zaa ((hb3.block w1.heap.size (by omega)).trans hY2);have HE3:=zaa (HE2.out.kept hb3);have HP3:=zaa (HP2.out.below hb3);have HD3:=zaa hD3;have HD13:=zaa (HD1.out.below hb23);have hz3:w1.heap.size+1≤w3.heap.size:=by have:=hb3.size;omega
 clear HB1 HW1 HX1 HE1 HP1 HD1 HE2 HP2 hY2 hb2 hb3 hb23 hD3 hz2 HB;rw[show(zeV A3 q3 zfd).toArray= #[.slice (A3 0) 0 (q3 0),.slice (A3 1) 0 (q3 1),.slice (A3 2) 0 (q3 2),.slice (A3 3) 0 (q3 3),.slice (A3 4) 0 (q3 4),.slice (A3 5) 1 (q3 5),.slice (A3 6) 1 (q3 6),.slice (A3 7) 0 (q3 7)] from rfl];go_wp2_with fail;have hb4:=zc2 (rOb w3.heap.size (.cells #[.slice (A3 0) 0 (q3 0),.slice (A3 1) 0 (q3 1),.slice (A3 2) 0 (q3 2),.slice (A3 3) 0 (q3 3),.slice (A3 4) 0 (q3 4),.slice (A3 5) 1 (q3 5),.slice (A3 6) 1 (q3 6),.slice (A3 7) 0 (q3 7)] 32)) w3;have hw4:=znp w3 (.cells #[.slice (A3 0) 0 (q3 0),.slice (A3 1) 0 (q3 1),.slice (A3 2) 0 (q3 2),.slice (A3 3) 0 (q3 3),.slice (A3 4) 0 (q3 4),.slice (A3 5) 1 (q3 5),.slice (A3 6) 1 (q3 6),.slice (A3 7) 0 (q3 7)] 32);have hx4:=zdf (rOb w3.heap.size (.cells #[.slice (A3 0) 0 (q3 0),.slice (A3 1) 0 (q3 1),.slice (A3 2) 0 (q3 2),.slice (A3 3) 0 (q3 3),.slice (A3 4) 0 (q3 4),.slice (A3 5) 1 (q3 5),.slice (A3 6) 1 (q3 6),.slice (A3 7) 0 (q3 7)] 32)) w3 5 _ rfl;have hc4:=zdf (rOb w3.heap.size (.cells #[.slice (A3 0) 0 (q3 0),.slice (A3 1) 0 (q3 1),.slice (A3 2) 0 (q3 2),.slice (A3 3) 0 (q3 3),.slice (A3 4) 0 (q3 4),.slice (A3 5) 1 (q3 5),.slice (A3 6) 1 (q3 6),.slice (A3 7) 0 (q3 7)] 32)) w3 0 _ rfl;have hz4:(zcZ w3 (rOb w3.heap.size (.cells #[.slice (A3 0) 0 (q3 0),.slice (A3 1) 0 (q3 1),.slice (A3 2) 0 (q3 2),.slice (A3 3) 0 (q3 3),.slice (A3 4) 0 (q3 4),.slice (A3 5) 1 (q3 5),.slice (A3 6) 1 (q3 6),.slice (A3 7) 0 (q3 7)] 32))).heap.size=w3.heap.size+6:=zd9 _ w3
 change Calls _ _ _ (zcZ w3 (rOb w3.heap.size (.cells #[.slice (A3 0) 0 (q3 0),.slice (A3 1) 0 (q3 1),.slice (A3 2) 0 (q3 2),.slice (A3 3) 0 (q3 3),.slice (A3 4) 0 (q3 4),.slice (A3 5) 1 (q3 5),.slice (A3 6) 1 (q3 6),.slice (A3 7) 0 (q3 7)] 32))) _
 generalize(zcZ w3 (rOb w3.heap.size _))=w4 at *;have HE4:=zaa (HE3.out.kept hb4);have HP4:=zaa (HP3.out.below hb4);refine(HC.out w4 HE4 HP4).mono ?_;rintro e w5 ⟨A5,q5,rfl,hb5, -⟩;have hb45:=hb4.trans (hb5.mono hb4.size);have HB5:=zaa (btZ HB3.out hb45);have HW5:=zaa (HW3.out.below hb45);have HX5:=zaa ((hb45.block (W.heap.size+9) (by omega)).trans HX3.out);have HY5:=zaa ((hb45.block w1.heap.size (by omega)).trans HY3.out);have HD5:=zaa (HD13.out.below hb45);have HE5:=zaa (HE4.out.kept hb5);have HP5:=zaa (HP4.out.below hb5);have HV5:=zaa (hw4.below hb5);have HX6:=zaa ((hb5.block (w3.heap.size+5) (by omega)).trans hx4);have HY6:=zaa ((hb5.block (w3.heap.size+0) (by omega)).trans hc4);have HD6:=zaa (HD3.out.below hb45);have hz5:w3.heap.size+6≤w5.heap.size:=by have:=hb5.size;omega
 clear HB3 HW3 HX3 HE3 HP3 HD3 HE4 HP4 HY3 HD13 hb4 hb5 hb45 hw4 hx4 hc4 HC;rw[show(zeV A5 q5 zaK.none).toArray= #[.slice (A5 0) 0 (q5 0),.slice (A5 1) 0 (q5 1),.slice (A5 2) 0 (q5 2),.slice (A5 3) 0 (q5 3),.slice (A5 4) 0 (q5 4),.slice (A5 5) 0 (q5 5),.slice (A5 6) 0 (q5 6),.slice (A5 7) 0 (q5 7)] from rfl];go_wp2_with fail;have hb6:=(Below.refl w5.heap.size w5).alloc (Nat.le_refl _) (.cells #[.slice (A5 0) 0 (q5 0),.slice (A5 1) 0 (q5 1),.slice (A5 2) 0 (q5 2),.slice (A5 3) 0 (q5 3),.slice (A5 4) 0 (q5 4),.slice (A5 5) 0 (q5 5),.slice (A5 6) 0 (q5 6),.slice (A5 7) 0 (q5 7)] 32);generalize w5.alloc _=w6 at *;have HE6:=zaa (HE5.out.kept hb6);have HP6:=zaa (HP5.out.below hb6);refine(HD.out w6 HE6 HP6).mono ?_;rintro e w7 ⟨A7,q7,rfl,hb7, -⟩;have HE7:=zaa (HE6.out.kept hb7);have HP7:=zaa (HP6.out.below hb7);rw[show(zeV A7 q7 zaK.none).toArray= #[.slice (A7 0) 0 (q7 0),.slice (A7 1) 0 (q7 1),.slice (A7 2) 0 (q7 2),.slice (A7 3) 0 (q7 3),.slice (A7 4) 0 (q7 4),.slice (A7 5) 0 (q7 5),.slice (A7 6) 0 (q7 6),.slice (A7 7) 0 (q7 7)] from rfl];have HB7:=zaa (btZ hb6 hb7);clear hb6 hb7 HD;go_wp2_with fail;have hb8:=(Below.refl w7.heap.size w7).alloc (Nat.le_refl _) (.cells #[.slice (A7 0) 0 (q7 0),.slice (A7 1) 0 (q7 1),.slice (A7 2) 0 (q7 2),.slice (A7 3) 0 (q7 3),.slice (A7 4) 0 (q7 4),.slice (A7 5) 0 (q7 5),.slice (A7 6) 0 (q7 6),.slice (A7 7) 0 (q7 7)] 32);generalize w7.alloc _=w8 at *;have HE8:=zaa (HE7.out.kept hb8);have HP8:=zaa (HP7.out.below hb8);refine(HQ.out w8 HE8 HP8).mono ?_;rintro e w9 ⟨A9,q9,rfl,hb9⟩;have hb59:=HB7.out.trans ((btZ hb8 hb9).mono HB7.out.size);have HB9:=zaa (btZ HB5.out hb59);have HW9:=zaa (HW5.out.below hb59);have HX9:=zaa ((hb59.block (W.heap.size+9) (by omega)).trans HX5.out);have HY9:=zaa ((hb59.block w1.heap.size (by omega)).trans HY5.out);have HD9:=zaa (HD5.out.below hb59);have HV9:=zaa (HV5.out.below hb59);have HXa:=zaa ((hb59.block (w3.heap.size+5) (by omega)).trans HX6.out);have HYa:=zaa ((hb59.block (w3.heap.size+0) (by omega)).trans HY6.out);have HDa:=zaa (HD6.out.below hb59);have hz9:w5.heap.size≤w9.heap.size:=hb59.size;clear HB5 HW5 HX5 HY5 HD5 HV5 HX6 HY6 HD6 HE5 HP5 HE6 HP6 HE7 HP7 HE8 HP8 hb59 hb8 hb9 HB7 HQ;have c0:=cell_of_row w9 (w1.heap.size) 0 _ _ _ HY9.out;have c1:=cell_of_row w9 (w1.heap.size) 1 _ _ _ HY9.out;have c2:=cell_of_row w9 (w1.heap.size) 2 _ _ _ HY9.out;have c3:=cell_of_row w9 (w1.heap.size) 3 _ _ _ HY9.out;have c4:=cell_of_row w9 (w1.heap.size) 4 _ _ _ HY9.out;have c5:=cell_of_row w9 (w1.heap.size) 5 _ _ _ HY9.out;have c6:=cell_of_row w9 (w1.heap.size) 6 _ _ _ HY9.out;have c7:=cell_of_row w9 (w1.heap.size) 7 _ _ _ HY9.out;have d0:w9.cell? ⟨W.heap.size+1+1+1+1+1+1+1+1+1,0,none⟩=some (.slice (some ⟨W.heap.size+1+1+1+1+1+1,0,none⟩) 1 1):=cell_of_row w9 (W.heap.size+9) 0 _ _ _ HX9.out;have d1:w9.cell? ⟨W.heap.size+1+1+1+1+1+1+1+1+1,1,none⟩=some (.slice none 0 0):=cell_of_row w9 (W.heap.size+9) 1 _ _ _ HX9.out;have d2:w9.cell? ⟨W.heap.size+1+1+1+1+1+1+1+1+1,2,none⟩=some (.slice (some ⟨W.heap.size+1+1+1+1+1+1+1,0,none⟩) 1 1):=cell_of_row w9 (W.heap.size+9) 2 _ _ _ HX9.out;have d3:w9.cell? ⟨W.heap.size+1+1+1+1+1+1+1+1+1,3,none⟩=some (.slice (some ⟨W.heap.size+1+1+1+1+1+1+1+1,0,none⟩) 1 1):=cell_of_row w9 (W.heap.size+9) 3 _ _ _ HX9.out;have d4:w9.cell? ⟨W.heap.size+1+1+1+1+1+1+1+1+1,4,none⟩=some (.slice none 0 0):=cell_of_row w9 (W.heap.size+9) 4 _ _ _ HX9.out;have d5:w9.cell? ⟨W.heap.size+1+1+1+1+1+1+1+1+1,5,none⟩=some (.slice none 0 0):=cell_of_row w9 (W.heap.size+9) 5 _ _ _ HX9.out;have d6:w9.cell? ⟨W.heap.size+1+1+1+1+1+1+1+1+1,6,none⟩=some (.slice none 0 0):=cell_of_row w9 (W.heap.size+9) 6 _ _ _ HX9.out;have d7:w9.cell? ⟨W.heap.size+1+1+1+1+1+1+1+1+1,7,none⟩=some (.slice none 0 0):=cell_of_row w9 (W.heap.size+9) 7 _ _ _ HX9.out;go_wp2_with fail;refine(ziP zer zer _ _ _ _ _ _ _ _ _ _ _ _ _ _ _ _ w9 (HD9.out.mono (fun _ _ _=>trivial)) HW9.out ziK ziK).mono ?_;rintro e wa ⟨rfl,hba⟩;rw[zaT rfl];have HBa:=zaa (btZ HB9.out hba);have HVa:=zaa (HV9.out.below hba);have HXb:=zaa ((hba.block (w3.heap.size+5) (by omega)).trans HXa.out);have HYb:=zaa ((hba.block (w3.heap.size+0) (by omega)).trans HYa.out);have HDb:=zaa (HDa.out.below hba);clear HB9 HW9 HX9 HY9 HD9 HV9 HXa HYa HDa hba;clear c0 c1 c2 c3 c4 c5 c6 c7 d0 d1 d2 d3 d4 d5 d6 d7;have c0:=cell_of_row wa w3.heap.size 0 _ _ _ HYb.out;have c1:=cell_of_row wa w3.heap.size 1 _ _ _ HYb.out;have c2:=cell_of_row wa w3.heap.size 2 _ _ _ HYb.out;have c3:=cell_of_row wa w3.heap.size 3 _ _ _ HYb.out;have c4:=cell_of_row wa w3.heap.size 4 _ _ _ HYb.out;have c5:=cell_of_row wa w3.heap.size 5 _ _ _ HYb.out;have c6:=cell_of_row wa w3.heap.size 6 _ _ _ HYb.out;have c7:=cell_of_row wa w3.heap.size 7 _ _ _ HYb.out;have d0:wa.cell? ⟨w3.heap.size+1+1+1+1+1,0,none⟩=some (.slice none 0 0):=cell_of_row wa (w3.heap.size+5) 0 _ _ _ HXb.out;have d1:wa.cell? ⟨w3.heap.size+1+1+1+1+1,1,none⟩=some (.slice none 0 0):=cell_of_row wa (w3.heap.size+5) 1 _ _ _ HXb.out;have d2:wa.cell? ⟨w3.heap.size+1+1+1+1+1,2,none⟩=some (.slice none 0 0):=cell_of_row wa (w3.heap.size+5) 2 _ _ _ HXb.out;have d3:wa.cell? ⟨w3.heap.size+1+1+1+1+1,3,none⟩=some (.slice none 0 0):=cell_of_row wa (w3.heap.size+5) 3 _ _ _ HXb.out;have d4:wa.cell? ⟨w3.heap.size+1+1+1+1+1,4,none⟩=some (.slice none 0 0):=cell_of_row wa (w3.heap.size+5) 4 _ _ _ HXb.out;have d5:wa.cell? ⟨w3.heap.size+1+1+1+1+1,5,none⟩=some (.slice (some ⟨w3.heap.size+1,0,none⟩) 1 1):=cell_of_row wa (w3.heap.size+5) 5 _ _ _ HXb.out;have d6:wa.cell? ⟨w3.heap.size+1+1+1+1+1,6,none⟩=some (.slice (some ⟨w3.heap.size+1+1+1+1,0,none⟩) 1 1):=cell_of_row wa (w3.heap.size+5) 6 _ _ _ HXb.out;have d7:wa.cell? ⟨w3.heap.size+1+1+1+1+1,7,none⟩=some (.slice none 0 0):=cell_of_row wa (w3.heap.size+5) 7 _ _ _ HXb.out;go_wp2_with fail;refine(ziP zfd zfd _ _ _ _ _ _ _ _ _ _ _ _ _ _ _ _ wa (HDb.out.mono (fun _ _ _=>trivial)) HVa.out ziW ziW).mono ?_;rintro e wb ⟨rfl,hbb⟩;rw[zaT rfl];have HBb:=zaa (btZ HBa.out hbb);clear HBa HXb HYb HDb HVa hbb c0 c1 c2 c3 c4 c5 c6 c7 d0 d1 d2 d3 d4 d5 d6 d7;go_wp2_with fail;go_ret;exact⟨rfl,HBb.out⟩
theorem own:ownKnob prog.godebug=none:=by kernel_rfl
theorem zps:laidOutB prog=true:=by kernel_rfl
theorem zoP:(prog.globals[5]?).map (·.type)=some 274:=by kernel_rfl
theorem zpk:(prog.globals[0]?).map (·.type)=some 185:=by kernel_rfl
theorem znW:(prog.globals[4]?).map (·.type)=some 165:=by kernel_rfl
theorem zn5:(prog.globals[3]?).map (·.type)=some 165:=by kernel_rfl
theorem zkr:prog.cellsOf 272=1:=by kernel_rfl
theorem zi6:prog.cellsOf 9=1:=by kernel_rfl
theorem zm9: "*" ++ "errors.errorString" = "*errors.errorString" :=by decide
theorem zof (u:TypeId) (h:prog.typeName? 3 u=some "*errors.errorString"):u=270:=
 typeName_ptr_named (nm:= "errors.errorString") (by rw[zm9];kernel_rfl) (by kernel_rfl) (by decide) u (by rw[zm9];exact h)
def znw:List (String×DataW Unit):=Rows.parseAppendsRow.laid
theorem zo3 (os:Os) (args:Array Value):laidMetH prog znw ((World.doorLaid prog 400 os).forCall (fun _ _=>0) ⟨#[],args,[]⟩).memory:=
 laidMetH_of_parts3 (fuel:=8) (laidMet_of_run' 8 (by kernel_rfl) (by kernel_rfl)) (by kernel_rfl) (by kernel_rfl)
theorem zjg {W:World} {n:String} {g:Nat} {cs:Array Value} {v:Value} (hg:prog.globalNamed n=some g) (hv:W.var? prog n=some cs) (h0:cs[0]? =some v):g<W.heap.size:=by
 have hc:=World.var?_cell hg hv 0;exact World.block_lt_of_cell? W ⟨g,0,none⟩ (hc.trans h0)
theorem env_of {W:World} (h:laidMetH prog znw W) (_hs:W.ShapedOpen prog):Env W:=by
 rw[MakeChecks.laidMetH_plain _ _ _ (by kernel_rfl)] at h;have h2:=laidMet.tail (laidMet.tail h);have ht:Lib.TabIs prog W "internal/strconv.uint64pow10" .u64 Lib.pow10Tab:=Lib.tabIs_of_head (n:=20) zoY zoP underlying274 underlying257 (by kernel_rfl) (by kernel_rfl) h2;have h3:=laidMet.tail h2;obtain⟨a1,s1,v1, -, -, -⟩:=laid_sentinel h3 zmI znW underlying165 zof underlying270 underlying272 rfl rfl underlying9 zkr zi6;obtain⟨a2,s2,v2, -, -, -⟩:=laid_sentinel (laidMet.tail h3) zmg zn5 underlying165 zof underlying270 underlying272 rfl rfl underlying9 zkr zi6;exact⟨ht,⟨_,_,v2⟩,⟨_,_,v1⟩,zjg zoY ht (v:= .int .u64 1) rfl,zjg zmg v2 rfl,zjg zmI v1 rfl⟩
theorem zpa {W:World} (h:laidMetH prog znw W) (hs:W.ShapedOpen prog):zci W:=by
 rw[MakeChecks.laidMetH_plain _ _ _ (by kernel_rfl)] at h;have h6:=laidMet.tail (laidMet.tail (laidMet.tail (laidMet.tail (laidMet.tail (laidMet.tail h)))));have ht:Lib.TabIs prog W "strings.asciiSpace" .u8 Lib.asciiSpaceTab:=Lib.tabIs_of_head (n:=256) gSp zpk underlying185 underlying5 (by kernel_rfl) (by kernel_rfl) h6;obtain⟨m,hm⟩:=cell_of_shapedOpen_int (g:=2) (t:=3) (zero:= #[.int .i64 0]) hs (of_decide_eq_true (by kernel_rfl)) (by kernel_rfl) rfl (by kernel_rfl) (by kernel_rfl) underlying3;have h1:=zjg gSp ht (v:= .int .u8 0) rfl;have h2:=World.block_lt_of_cell? W ⟨2,0,none⟩ hm;refine⟨ht,⟨m,hm⟩,?_⟩
 show 3≤_
 change 0<_ at h1
 change 2<_ at h2
 omega
end Go.Proofs.YtlngbjphagnloaaGreatDoor
