/- Merged texts of the walks and of the plain laws on which the statement leans.-/
import Derived.Test.YtlngbjphagnloaaGreatDoorPk1
import Derived.Test.YtlngbjphagnloaaGreatDoorPk13
import Derived.Test.YtlngbjphagnloaaGreatDoorPk16
set_option maxHeartbeats 4000000
set_option maxRecDepth 100000
namespace Go.Proofs.YtlngbjphagnloaaGreatDoor
open Tryz
open Go.RowKit
attribute [local go_sem] zax.cell
def zeT {α:Type} (m:Ps α) (x:List Tok×Nat×Nat) (size:Nat):Option α×Nat×Nat:=
 if x.2.2=0 then match m x.1 with
  | .ok a []=>(some a,0,0)
  | .ok _ (t::r)=>(none,atT (t::r) size,80)
  | .bad e r=>(none,atT r size,e)
 else(none,x.2.1,x.2.2)
structure zpo {α:Type} (df:FuncId) (cb:Nat) (m:Ps α) (R:Nat→Option α→World→Prop):Prop where
 call: ∀(pb B:Nat) (ts:List Tok) (W:World),Hid (PSt pb ts 0 zaK.none B W)→Hid (zbS ts)→ts.length≤1000000→Hid (zci W)→3≤pb→cb<pb→R B none W→
  Calls prog df #[.pointer (some ⟨pb,0,none⟩),.pointer (some ⟨cb,0,none⟩)] W fun e W'=> ∃j,j≤ts.length∧zam (fun b=>b=pb∨b=cb∨B≤b) W W'∧Cur pb ts j W'∧match m ts with
   | .ok a r=>r=ts.drop j∧e= .returned (.tuple #[])∧R B (some a) W'
   | .bad n r=>r=ts.drop j∧e= .panicked [{v:=zdj n,recovered:=false}]∧R B none W'
 left: ∀(ts:List Tok) (a:α) (t:Tok) (r:List Tok),m ts= .ok a (t::r)→ ∀B W,R B (some a) W→R B none W
 enter: ∀args w,(callFunc df args).run prog w= .ok (.enter df args) w
 keep: ∀B oa W W',R B oa W→zam (fun b=>b≠cb∧b<B) W W'→R B oa W'
def RunR {α:Type} (cb:Nat) (m:Ps α) (R:Nat→Option α→World→Prop) (src:ByteArray) (W:World) (e:Ending) (W':World):Prop:=
 ∃B,W.heap.size≤B∧zam (fun b=>b=cb) W W'∧e= .returned (.tuple #[.int .i64 ((zeT m (zbr src.data.toList) src.size).2.1:Int),.int .i64 ((zeT m (zbr src.data.toList) src.size).2.2:Int)])∧R B (zeT m (zbr src.data.toList) src.size).1 W'
def zmj (W:World) (src:ByteArray):World:=((W.alloc (.cells #[.string src] 9)).alloc (.cells #[.int .i64 0] 3)).alloc (.cells #[.int .i64 0] 33)
structure RunF (W V:World) (src:ByteArray):Prop where
 below:Below W.heap.size W V
 size:W.heap.size+3≤V.heap.size
 s:V.heap[W.heap.size]? =some (.cells #[.string src] 9 (0,0))
 a:V.heap[W.heap.size+1]? =some (.cells #[.int .i64 0] 3 (0,0))
 e:V.heap[W.heap.size+1+1]? =some (.cells #[.int .i64 0] 33 (0,0))
theorem zhU (W:World) (src:ByteArray):RunF W (zmj W src) src:=by
 unfold zmj;obtain⟨h1,h2,h3,h4,h5⟩:=zlp W (.cells #[.string src] 9) (.cells #[.int .i64 0] 3) (.cells #[.int .i64 0] 33);exact⟨h5,by omega,h1,h2,h3⟩
theorem zd2 {P:Program} {fn:Func} {t t':Array Value} {R:Ending→World→Prop} (h:results fn t=results fn t'): ∀(ds:List Deferred) (u:FrameMode) (w:World),Leaves P fn t R ds u w→Leaves P fn t' R ds u w
 |[],.returning,w,⟨v,h1,h2⟩=>⟨v,by rw[←h];exact h1,h2⟩
 |[],.panicking _,_,hl=>hl
 |[],.run,_,hl=>hl
 |d::ds,u,w,⟨hu,fv,cap,f,args,h1,h2,h3⟩=>⟨hu,fv,cap,f,args,h1,h2,h3.mono (fun e u' w' he=>by
   cases e with
   |returned v=>exact zd2 h ds _ _ he
   |panicked chain=>exact zd2 h ds _ _ he
   |outgrown=>exact he)⟩
theorem zh7 (t:Array Value) (k:Nat) (v:Value) (hk:k≠4∧k≠5):results Tryz.f34 (t.setIfInBounds k v)=results Tryz.f34 t:=by
 have h4:(t.setIfInBounds k v)[4]? =t[4]? :=Array.getElem?_setIfInBounds_ne hk.1;have h5:(t.setIfInBounds k v)[5]? =t[5]? :=Array.getElem?_setIfInBounds_ne hk.2;simp only[results,Tryz.results34];simp[h4,h5]
theorem zcV {R:Ending→World→Prop} {a:Act} {c:List PanicEntry} {w:World} {v:Value} (k:Nat) (hk:k≠4∧k≠5) (h:Leaves prog Tryz.f34 (a.put (some k) v).tmps R (a.put (some k) v).defers (.panicking c) w):Leaves prog Tryz.f34 a.tmps R a.defers (.panicking c) w:=
 zd2 (zh7 _ _ _ hk) _ _ _ h
def zkD (A:Option Addr) (n c:Nat):Obj:= .cells #[Value.slice A n c,Value.int .i64 0,Value.slice none 0 0,Value.slice none 0 0,Value.slice none 0 0,Value.slice none 0 0,Value.slice none 0 0,Value.slice none 0 0,Value.slice none 0 0,Value.slice none 0 0] 89 (0,0)
def zd7 (X:World) (A:Option Addr) (n c:Nat):World:=(X.alloc (zkD A n c)).alloc (.cells #[.pointer (some ⟨X.heap.size,0,none⟩)] 85)
theorem zh1 (X:World) (A:Option Addr) (ts:List Tok) (c:Nat) (hT:zey .u8 X A (ts.map Tok.toZ)) (hA: ∀a,A=some a→a.block<X.heap.size):
 Below X.heap.size X (zd7 X A ts.length c)∧PSt X.heap.size ts 0 zaK.none (X.heap.size+2) (zd7 X A ts.length c)∧(zd7 X A ts.length c).heap[X.heap.size+1]? =some (.cells #[.pointer (some ⟨X.heap.size,0,none⟩)] 85 (0,0))∧(zd7 X A ts.length c).heap.size=X.heap.size+2:=by
 have hB:Below X.heap.size X (zd7 X A ts.length c):=((Below.refl _ _).alloc (Nat.le_refl _) _).alloc (by simp) _;have hz:(zd7 X A ts.length c).heap.size=X.heap.size+2:=by simp[zd7]
 have hr:(zd7 X A ts.length c).heap[X.heap.size]? =some (zkD A ts.length c):=by
  unfold zd7;rw[Below.heap_alloc _ _ _ (by simp)];exact heap_alloc_new X _
 have hq:(zd7 X A ts.length c).heap[X.heap.size+1]? =some (.cells #[.pointer (some ⟨X.heap.size,0,none⟩)] 85 (0,0)):=by
  have:=heap_alloc_new (X.alloc (zkD A ts.length c)) (.cells #[.pointer (some ⟨X.heap.size,0,none⟩)] 85)
  simpa [zd7] using this
 refine⟨hB,⟨⟨⟨A,c,cell_of_row _ _ 0 _ _ _ hr,hT.below hB,fun a ha=>by have:=hA a ha;omega⟩,cell_of_row _ _ 1 _ _ _ hr,frozen_of_row _ _ 1 _ _ hr⟩,by omega,by omega,fun A' c' h a ha=> ?_,?_,fun o _=>frozen_of_row _ _ o _ _ hr⟩,hq,hz⟩
 ·have h0:(zd7 X A ts.length c).cell? ⟨X.heap.size,0,none⟩=some (.slice A ts.length c):=cell_of_row _ _ 0 _ _ _ hr
  rw[h0] at h;injection h with h
  injection h with h1 _ _
  subst h1;have:=hA a ha
  omega
 ·refine⟨List.replicate 8 (.slice none 0 0),⟨rfl,fun k r hr e he=> ?_,fun k v r hv hr=> ?_,fun k l u v g hu hv hug=> ?_⟩,fun k v hv=> ?_⟩
  ·rcases(by have:=(List.getElem?_eq_some_iff.1 hr).1;simp[zaM] at this;omega:k=0∨k=1∨k=2∨k=3∨k=4∨k=5∨k=6∨k=7) with rfl|rfl|rfl|rfl|rfl|rfl|rfl|rfl
   all_goals
    simp[zaM,zaK.none] at hr;subst hr;simp at he
  ·have hv':v= .slice none 0 0:=by
    have:=List.mem_of_getElem? hv;rw[List.mem_replicate] at this;exact this.2
   subst hv';rcases(by have:=(List.getElem?_eq_some_iff.1 hr).1;simp[zaM] at this;omega:k=0∨k=1∨k=2∨k=3∨k=4∨k=5∨k=6∨k=7) with rfl|rfl|rfl|rfl|rfl|rfl|rfl|rfl
   all_goals
    simp[zaM,zaK.none] at hr;subst hr;exact⟨[],World.ownsRow_nil _ _ _ _,zaf.nil⟩
  ·have:=List.mem_of_getElem? hu
   rw[List.mem_replicate] at this;rw[this.2] at hug
   cases hug
  ·have hk:=(List.getElem?_eq_some_iff.1 hv).1
   simp only[List.length_replicate] at hk;have hv':v= .slice none 0 0:=by
    have:=List.mem_of_getElem? hv;rw[List.mem_replicate] at this;exact this.2
   subst hv';rcases(by omega:k=0∨k=1∨k=2∨k=3∨k=4∨k=5∨k=6∨k=7) with rfl|rfl|rfl|rfl|rfl|rfl|rfl|rfl
   all_goals exact cell_of_row _ _ _ _ _ _ hr
theorem zgq (w:World) (tmps:Array Value) (ab eb:Nat) (za ze:Int) (h4:tmps[4]? =some (.pointer (some ⟨ab,0,none⟩))) (h5:tmps[5]? =some (.pointer (some ⟨eb,0,none⟩))) (ha:w.cell? ⟨ab,0,none⟩=some (.int .i64 za)) (he:w.cell? ⟨eb,0,none⟩=some (.int .i64 ze)):
 (results Tryz.f34 tmps).run prog w= .ok (.tuple #[.int .i64 za,.int .i64 ze]) w:=by
 simp[results,Tryz.results34,go_sem,h4,h5,ha,he]
theorem zk5 {α:Type} (df cb:Nat) (m:Ps α) (R:Nat→Option α→World→Prop) (hD:Hid (zpo df cb m R)) (src:ByteArray) (W:World) (hE:Hid (Env W)) (hP:Hid (zci W)) (hcb:cb<W.heap.size) (hcp:3≤cb) (hR0:Hid (∀B,R B none W)):
 Calls prog 34 #[.string src,.func (.func df) #[] #[.pointer (some ⟨cb,0,none⟩)]] W (RunR cb m R src W):=by
 have hmf: ∀(fn:Fn) (first cap:Array Value) (w:World),(Instr.makeFunc fn first cap).run prog w= .ok (.func fn first cap) w:=fun _ _ _ _=>rfl
 go_enter_defers func34,ntmps34
 go_wp2_with fail
 change Calls _ _ _ (zmj W src) _
 have HF:=zaa (zhU W src);generalize zmj W src=V at *;refine(znv src V (hE.out.kept HF.out.below)).mono ?_;rintro e w1 ⟨v,rfl,ho,hnil,hb⟩;obtain⟨A,c,rfl,hTR⟩:=zhq (ts:=(zbr src.data.toList).1.map Tok.toZ) ho (by simp);have hAB: ∀a,A=some a→a.block<w1.heap.size∧V.heap.size≤a.block:=fun a ha=>by
  obtain⟨g,hg⟩: ∃g,(Value.slice A (zbr src.data.toList).1.length c).ownBlock=some g:=⟨a.block,by rw[ha];rfl⟩;have h1:=zaj ho hg;rw[ha] at hg;injection hg with hg
  subst hg;exact⟨h1.2,h1.1⟩
 have HAB:=zaa hAB;have HTR:=zaa hTR;obtain⟨hT,hlen⟩:=zfC src.data.toList;have HT:=zaa hT;have HB1:=zaa (HF.out.below.trans (hb.mono HF.out.below.size));have hz1:W.heap.size+3≤w1.heap.size:=Nat.le_trans HF.out.size hb.size;have hz1':V.heap.size≤w1.heap.size:=hb.size;have hs1:=(hb.block W.heap.size (by have:=HF.out.size;omega)).trans HF.out.s;have ha1:=(hb.block (W.heap.size+1) (by have:=HF.out.size;omega)).trans HF.out.a;have he1:=(hb.block (W.heap.size+1+1) (by have:=HF.out.size;omega)).trans HF.out.e;have HS1:=zaa hs1;have HA1:=zaa ha1;have HE1:=zaa he1;have hVz:=HF.out.size;clear ho hnil hb hAB hTR hT hs1 ha1 he1 HF;generalize hL:zbr src.data.toList=L at *;have HL:=zaa hL;clear hL;obtain⟨ts,ea,er⟩:=L;dsimp only at hlen HT HTR HAB ⊢;have c0:=cell_of_row _ _ 0 _ _ _ HA1.out;have c1:=frozen_of_row _ _ 0 _ _ HA1.out;have c2:=cell_of_row _ _ 0 _ _ _ HE1.out;have c3:=frozen_of_row _ _ 0 _ _ HE1.out;have l0:=(zal HA1.out);have l1:=(zal HE1.out);by_cases her:er=0
 rotate_left
 ·have HER:=zaa her
  have hb1:((er:Int) != 0)=true:=by simp;omega
  have hb2:((er:Int)==0)=false:=by simp;omega
  clear her;generalize hze:(er:Int)=ze at *;generalize hza:(ea:Int)=za at *;have HZE:=zaa hze;have HZA:=zaa hza;clear hze hza;have HK:=zaa ((((HB1.out.setCell (p:=⟨W.heap.size+1,0,none⟩) (by show W.heap.size≤W.heap.size+1;omega) (.int .i64 za)).setCell (p:=⟨W.heap.size+1+1,0,none⟩) (by show W.heap.size≤W.heap.size+1+1;omega) (.int .i64 ze)).alloc (by simp[World.setCell];omega) (.cells #[Value.slice A ts.length c] 38)));have ha2:=(Below.heap_setCell (w1.setCell ⟨W.heap.size+1,0,none⟩ (.int .i64 za)) ⟨W.heap.size+1+1,0,none⟩ (.int .i64 ze) (W.heap.size+1) (by show W.heap.size+1≠W.heap.size+1+1;omega)).trans (heap_setCell_same w1 (W.heap.size+1) 0 _ _ _ HA1.out);have he2:=heap_setCell_same (w1.setCell ⟨W.heap.size+1,0,none⟩ (.int .i64 za)) (W.heap.size+1+1) 0 _ _ (.int .i64 ze) ((Below.heap_setCell w1 ⟨W.heap.size+1,0,none⟩ (.int .i64 za) (W.heap.size+1+1) (by show W.heap.size+1+1≠W.heap.size+1;omega)).trans HE1.out);have HA2:=zaa ((Below.heap_alloc _ (.cells #[Value.slice A ts.length c] 38) (W.heap.size+1) (by simp[World.setCell];omega)).trans ha2);have HE2:=zaa ((Below.heap_alloc _ (.cells #[Value.slice A ts.length c] 38) (W.heap.size+1+1) (by simp[World.setCell];omega)).trans he2);clear ha2 he2;go_wp2_with fail;clear c0 c1 c2 c3 l0 l1;generalize((w1.setCell ⟨W.heap.size+1,0,none⟩ (.int .i64 za)).setCell ⟨W.heap.size+1+1,0,none⟩ (.int .i64 ze)).alloc _=X at *;have c0:=cell_of_row _ _ 0 _ _ _ HA2.out;have c1:=frozen_of_row _ _ 0 _ _ HA2.out;have c2:=cell_of_row _ _ 0 _ _ _ HE2.out;have c3:=frozen_of_row _ _ 0 _ _ HE2.out;have l0:=(zal HA2.out);have l1:=(zal HE2.out);have HFIN:=zaa (((HK.out.setCell (p:=⟨W.heap.size+1,0,none⟩) (by show W.heap.size≤W.heap.size+1;omega) (.int .i64 za)).setCell (p:=⟨W.heap.size+1+1,0,none⟩) (by show W.heap.size≤W.heap.size+1+1;omega) (.int .i64 ze)).drew);have q0:((X.setCell ⟨W.heap.size+1,0,none⟩ (.int .i64 za)).setCell ⟨W.heap.size+1+1,0,none⟩ (.int .i64 ze)).drew.cell? ⟨W.heap.size+1,0,none⟩=_:=cell_of_row _ _ 0 _ _ _ ((Below.heap_setCell (X.setCell ⟨W.heap.size+1,0,none⟩ (.int .i64 za)) ⟨W.heap.size+1+1,0,none⟩ (.int .i64 ze) (W.heap.size+1) (by show W.heap.size+1≠W.heap.size+1+1;omega)).trans (heap_setCell_same X (W.heap.size+1) 0 _ _ (.int .i64 za) HA2.out));have q1:((X.setCell ⟨W.heap.size+1,0,none⟩ (.int .i64 za)).setCell ⟨W.heap.size+1+1,0,none⟩ (.int .i64 ze)).drew.cell? ⟨W.heap.size+1+1,0,none⟩=_:=cell_of_row _ _ 0 _ _ _ (heap_setCell_same (X.setCell ⟨W.heap.size+1,0,none⟩ (.int .i64 za)) (W.heap.size+1+1) 0 _ _ (.int .i64 ze) ((Below.heap_setCell X ⟨W.heap.size+1,0,none⟩ (.int .i64 za) (W.heap.size+1+1) (by show W.heap.size+1+1≠W.heap.size+1;omega)).trans HE2.out));have hRR:RunR cb m R src W (.returned (.tuple #[.int .i64 za,.int .i64 ze])) ((X.setCell ⟨W.heap.size+1,0,none⟩ (.int .i64 za)).setCell ⟨W.heap.size+1+1,0,none⟩ (.int .i64 ze)).drew:=by
   have hT:zeT m (zbr src.data.toList) src.size=(none,ea,er):=by unfold zeT;rw[HL.out];exact if_neg HER.out
   refine⟨W.heap.size,Nat.le_refl _,zam.of_below HFIN.out,by rw[hT,←HZE.out,←HZA.out],by rw[hT];exact hD.out.keep _ _ _ _ (hR0.out _) (zam.of_below HFIN.out)⟩
  have HRR:=zaa hRR;clear hRR;have Q0:=zaa q0;have Q1:=zaa q1;clear q0 q1
  go_region
  go_wp2_with fail;exact⟨_,zgq _ _ _ _ _ _ rfl rfl Q0.out Q1.out,HRR.out⟩
 ·subst her
  generalize hza:(ea:Int)=za at *;clear hza;have HK:=zaa ((((HB1.out.setCell (p:=⟨W.heap.size+1,0,none⟩) (by show W.heap.size≤W.heap.size+1;omega) (.int .i64 za)).setCell (p:=⟨W.heap.size+1+1,0,none⟩) (by show W.heap.size≤W.heap.size+1+1;omega) (.int .i64 0)).alloc (by simp[World.setCell];omega) (.cells #[Value.slice A ts.length c] 38)));have ha2:=(Below.heap_setCell (w1.setCell ⟨W.heap.size+1,0,none⟩ (.int .i64 za)) ⟨W.heap.size+1+1,0,none⟩ (.int .i64 0) (W.heap.size+1) (by show W.heap.size+1≠W.heap.size+1+1;omega)).trans (heap_setCell_same w1 (W.heap.size+1) 0 _ _ (.int .i64 za) HA1.out);have he2:=heap_setCell_same (w1.setCell ⟨W.heap.size+1,0,none⟩ (.int .i64 za)) (W.heap.size+1+1) 0 _ _ (.int .i64 0) ((Below.heap_setCell w1 ⟨W.heap.size+1,0,none⟩ (.int .i64 za) (W.heap.size+1+1) (by show W.heap.size+1+1≠W.heap.size+1;omega)).trans HE1.out);have hs2:=(Below.heap_setCell (w1.setCell ⟨W.heap.size+1,0,none⟩ (.int .i64 za)) ⟨W.heap.size+1+1,0,none⟩ (.int .i64 0) W.heap.size (by show W.heap.size≠W.heap.size+1+1;omega)).trans ((Below.heap_setCell w1 ⟨W.heap.size+1,0,none⟩ (.int .i64 za) W.heap.size (by show W.heap.size≠W.heap.size+1;omega)).trans HS1.out);have HA2:=zaa ((Below.heap_alloc _ (.cells #[Value.slice A ts.length c] 38) (W.heap.size+1) (by simp[World.setCell];omega)).trans ha2);have HE2:=zaa ((Below.heap_alloc _ (.cells #[Value.slice A ts.length c] 38) (W.heap.size+1+1) (by simp[World.setCell];omega)).trans he2);have HS2:=zaa ((Below.heap_alloc _ (.cells #[Value.slice A ts.length c] 38) W.heap.size (by simp[World.setCell];omega)).trans hs2);have hl2:=heap_alloc_new ((w1.setCell ⟨W.heap.size+1,0,none⟩ (.int .i64 za)).setCell ⟨W.heap.size+1+1,0,none⟩ (.int .i64 0)) (.cells #[Value.slice A ts.length c] 38);have hzz:((w1.setCell ⟨W.heap.size+1,0,none⟩ (.int .i64 za)).setCell ⟨W.heap.size+1+1,0,none⟩ (.int .i64 0)).heap.size=w1.heap.size:=by simp[World.setCell]
  rw[hzz] at hl2;have HL2:=zaa hl2;have hzX:(((w1.setCell ⟨W.heap.size+1,0,none⟩ (.int .i64 za)).setCell ⟨W.heap.size+1+1,0,none⟩ (.int .i64 0)).alloc (.cells #[Value.slice A ts.length c] 38)).heap.size=w1.heap.size+1:=by simp[World.setCell]
  have hkt:zam (fun b=>b=W.heap.size+1∨b=W.heap.size+1+1) w1 (((w1.setCell ⟨W.heap.size+1,0,none⟩ (.int .i64 za)).setCell ⟨W.heap.size+1+1,0,none⟩ (.int .i64 0)).alloc (.cells #[Value.slice A ts.length c] 38)):=(((zam.refl _ w1).setCell (p:=⟨W.heap.size+1,0,none⟩) (.inl (.inl rfl)) _).setCell (p:=⟨W.heap.size+1+1,0,none⟩) (.inl (.inr rfl)) _).alloc _;have HTRX:=zaa (HTR.out.kept hkt (fun a ha=>by have:=HAB.out a ha;omega));clear ha2 he2 hs2 hl2 hzz hkt;go_upto_region 4 with fail
  clear c0 c1 c2 c3 l0 l1;generalize((w1.setCell ⟨W.heap.size+1,0,none⟩ (.int .i64 za)).setCell ⟨W.heap.size+1+1,0,none⟩ (.int .i64 0)).alloc _=X at *;have hzX1:w1.heap.size<X.heap.size:=by omega
  have HZX:=zaa hzX;obtain⟨lb,hlb⟩: ∃lb,lb=w1.heap.size:=⟨_,rfl⟩;rw[←hlb] at HL2 ⊢;have hlb1:W.heap.size+3≤lb:=by omega
  have hlb2:lb<X.heap.size:=by omega
  have HLB:=zaa hlb;clear hzX hlb;have hdf:=hD.out.enter;have e0:X.cell? ⟨lb,0,none⟩=some (.slice A ts.length c):=cell_of_row _ _ 0 _ _ _ HL2.out;go_wp2_with fail
  change Calls _ _ _ (zd7 X A ts.length c) _
  obtain⟨hB2,hP2,hq2,hz2⟩:=zh1 X A ts c HTRX.out (fun a ha=>by have:=HAB.out a ha;omega);have HXY:=zaa hB2;have HQ2:=zaa hq2;have hz2':X.heap.size+2≤(zd7 X A ts.length c).heap.size:=by omega
  generalize zd7 X A ts.length c=Y at *;have hWY:Below W.heap.size W Y:=HK.out.trans (hB2.mono HK.out.size);have HWY:=zaa hWY;have HTRY:=zaa (HTRX.out.below hB2);clear hdf e0;refine(hD.out.call X.heap.size (X.heap.size+2) ts Y (zaa hP2) HT (by omega) (zaa (hP.out.below hWY)) (by have:=hP.out.big;have:=HK.out.size;omega) (by have:=HK.out.size;omega) (hD.out.keep _ _ _ _ (hR0.out _) (zam.of_below hWY))).mono ?_;clear hB2 hP2 hq2 hz2 hWY;rintro e w5 ⟨j,hj,hk,hC,hm⟩;have hsz:=HK.out.size;have hkc: ∀k,k=W.heap.size∨k=W.heap.size+1∨k=W.heap.size+1+1∨k=lb∨k=X.heap.size+1→w5.heap[k]? =Y.heap[k]? :=fun k hk5=>hk.block k (by omega) (by omega)
  have hyx: ∀k,k<X.heap.size→Y.heap[k]? =X.heap[k]? :=fun k hk5=>HXY.out.block k hk5
  have hs5:=cell_of_row _ _ 0 _ _ _ ((hkc _ (.inl rfl)).trans ((hyx _ (by omega)).trans HS2.out));have ha5:=cell_of_row _ _ 0 _ _ _ ((hkc _ (.inr (.inl rfl))).trans ((hyx _ (by omega)).trans HA2.out));have hfa5:=frozen_of_row _ _ 0 _ _ ((hkc _ (.inr (.inl rfl))).trans ((hyx _ (by omega)).trans HA2.out));have he5:=cell_of_row _ _ 0 _ _ _ ((hkc _ (.inr (.inr (.inl rfl)))).trans ((hyx _ (by omega)).trans HE2.out));have hfe5:=frozen_of_row _ _ 0 _ _ ((hkc _ (.inr (.inr (.inl rfl)))).trans ((hyx _ (by omega)).trans HE2.out));have hl5:=cell_of_row _ _ 0 _ _ _ ((hkc _ (.inr (.inr (.inr (.inl rfl))))).trans ((hyx _ (by omega)).trans HL2.out));have hq5:=cell_of_row _ _ 0 _ _ _ ((hkc _ (.inr (.inr (.inr (.inr rfl))))).trans HQ2.out);have HTR5:=zaa (HTRY.out.kept hk (fun a ha=>by have:=HAB.out a ha;omega));have hKW: ∀w9,zam (fun b=>b=W.heap.size+1∨b=W.heap.size+1+1) w5 w9→zam (fun b=>b=cb) W w9∧zam (fun b=>b≠cb∧b<X.heap.size+2) w5 w9:=fun w9 h=>⟨(((zam.of_below HWY.out:zam (fun b=>b=cb) W Y).trans2 hk (fun i hi hg=>by omega)).trans2 h (fun i hi hg=>by omega)),h.mono (fun i hi=>by omega)⟩
  have HKW:=zaa hKW;have HC5:=zaa hC;have hY5:=hk.size;clear hkc hyx hKW hC hk
  cases hmt:m ts with
  |bad n r=>
   rw[hmt] at hm;obtain⟨hr,rfl,hR5⟩:=hm;have HR5:=zaa hR5;have HMT:=zaa hmt;have HRD:=zaa hr;clear hR5 hmt hr;have hT:zeT m (zbr src.data.toList) src.size=(none,atT r src.size,n):=by unfold zeT;rw[HL.out];simp only[if_true];rw[HMT.out]
   have HTT:=zaa hT;clear hT;go_wp2_with fail;refine leaves_cons (f:=55) (args:= #[.pointer (some ⟨W.heap.size,0,none⟩),.pointer (some ⟨W.heap.size+1,0,none⟩),.pointer (some ⟨W.heap.size+1+1,0,none⟩),.pointer (some ⟨X.heap.size+1,0,none⟩),.pointer (some ⟨lb,0,none⟩)]) (by simp) (by simp[go_sem]) ?_;refine(zgj (W.heap.size) (W.heap.size+1) (W.heap.size+1+1) (X.heap.size+1) lb (X.heap.size) j n src ts A c _ _ [] w5 (zaa hs5) (zaa hq5) (zaa HC5.out.now) (zaa hl5) HTR5 (zaa ⟨ha5,hfa5⟩) (zaa ⟨he5,hfe5⟩) (by omega) (zaa (fun a ha=>by have:=HAB.out a ha;omega)) (by omega) hj).mono ?_;rintro e u' w9 ⟨rfl,rfl,hK9,ha9,he9⟩;obtain⟨hk1,hk2⟩:=HKW.out w9 hK9;exact⟨_,zgq _ _ _ _ _ _ rfl rfl ha9 he9,X.heap.size+2,by omega,hk1,by rw[HTT.out,HRD.out],by rw[HTT.out];exact hD.out.keep _ _ _ _ HR5.out hk2⟩
  |ok a r=>
   rw[hmt] at hm;obtain⟨hr,rfl,hR5⟩:=hm;have HR5:=zaa hR5;have HMT:=zaa hmt;have HRD:=zaa hr;clear hR5 hmt hr;go_wp2_with fail;refine zad (S:=fun w'=>w'.heap=w5.heap) 11 (by kernel_rfl) (by kernel_rfl) rfl (fun hHeld=> ?_);have hs5':w5.drew.cell? ⟨W.heap.size,0,none⟩=_:=hs5;have ha5':w5.drew.cell? ⟨W.heap.size+1,0,none⟩=_:=ha5;have hfa5':w5.drew.frozen? ⟨W.heap.size+1,0,none⟩=_:=hfa5;have he5':w5.drew.cell? ⟨W.heap.size+1+1,0,none⟩=_:=he5;have hfe5':w5.drew.frozen? ⟨W.heap.size+1+1,0,none⟩=_:=hfe5;have hl5':w5.drew.cell? ⟨lb,0,none⟩=_:=hl5;have hq5':w5.drew.cell? ⟨X.heap.size+1,0,none⟩=_:=hq5;have HN5:Hid (w5.drew.cell? ⟨X.heap.size,1,none⟩=some (.int .i64 (j:Int))):=zaa HC5.out.now;have HTR6:Hid (zey .u8 w5.drew A (ts.map Tok.toZ)):=HTR5;have HD6:Hid (zam (fun b=>b=W.heap.size+1∨b=W.heap.size+1+1) w5 w5.drew):=zaa (zam.refl _ _).drew;refine zaH (i:=0) (oi:=⟨some 26,_,_,_,_,_⟩) (v:= ?_) rfl (by kernel_rfl) (fun _ _ _ h=>zcV 26 (by decide) h) (Or.inl ⟨by rfl,?_⟩) hHeld ?_;rotate_left
   ·intro v hS
    have e1:=(World.cell?_of_block (w:=w5) (a:=⟨X.heap.size+1,0,none⟩) (by rw[hS])).trans hq5;go_simp
    with_reducible rfl
   (try simp only[pu])
   refine zaH (i:=1) (oi:=⟨some 27,_,_,_,_,_⟩) (v:= ?_) rfl (by kernel_rfl) (fun _ _ _ h=>zcV 27 (by decide) h) (Or.inl ⟨by rfl,?_⟩) hHeld ?_;rotate_left
   ·intro v hS
    skip
    go_simp
    with_reducible rfl
   (try simp only[pu])
   refine zaH (i:=2) (oi:=⟨some 28,_,_,_,_,_⟩) (v:= ?_) rfl (by kernel_rfl) (fun _ _ _ h=>zcV 28 (by decide) h) (Or.inl ⟨by rfl,?_⟩) hHeld ?_;rotate_left
   ·intro v hS
    skip
    go_simp
    with_reducible rfl
   (try simp only[pu])
   refine zaH (i:=3) (oi:=⟨some 29,_,_,_,_,_⟩) (v:= ?_) rfl (by kernel_rfl) (fun _ _ _ h=>zcV 29 (by decide) h) (Or.inl ⟨by rfl,?_⟩) hHeld ?_;rotate_left
   ·intro v hS
    have e1:=(World.cell?_of_block (w:=w5) (a:=⟨X.heap.size+1,0,none⟩) (by rw[hS])).trans hq5;go_simp
    with_reducible rfl
   (try simp only[pu])
   refine zaH (i:=4) (oi:=⟨some 30,_,_,_,_,_⟩) (v:= ?_) rfl (by kernel_rfl) (fun _ _ _ h=>zcV 30 (by decide) h) (Or.inl ⟨by rfl,?_⟩) hHeld ?_;rotate_left
   ·intro v hS
    skip
    go_simp
    with_reducible rfl
   (try simp only[pu])
   refine zaH (i:=5) (oi:=⟨some 31,_,_,_,_,_⟩) (v:= ?_) rfl (by kernel_rfl) (fun _ _ _ h=>zcV 31 (by decide) h) (Or.inl ⟨by rfl,?_⟩) hHeld ?_;rotate_left
   ·intro v hS
    skip
    go_simp
    with_reducible rfl
   (try simp only[pu])
   refine zaH (i:=6) (oi:=⟨some 32,_,_,_,_,_⟩) (v:= ?_) rfl (by kernel_rfl) (fun _ _ _ h=>zcV 32 (by decide) h) (Or.inl ⟨by rfl,?_⟩) hHeld ?_;rotate_left
   ·intro v hS
    skip
    go_simp
    with_reducible rfl
   (try simp only[pu])
   refine zaH (i:=7) (oi:=⟨some 33,_,_,_,_,_⟩) (v:= ?_) rfl (by kernel_rfl) (fun _ _ _ h=>zcV 33 (by decide) h) (Or.inl ⟨by rfl,?_⟩) hHeld ?_;rotate_left
   ·intro v hS
    have e1:=(World.cell?_of_block (w:=w5) (a:=⟨X.heap.size,1,none⟩) (by rw[hS])).trans HC5.out.now;go_simp
    with_reducible rfl
   (try simp only[pu])
   refine zaH (i:=8) (oi:=⟨some 34,_,_,_,_,_⟩) (v:= ?_) rfl (by kernel_rfl) (fun _ _ _ h=>zcV 34 (by decide) h) (Or.inl ⟨by rfl,?_⟩) hHeld ?_;rotate_left
   ·intro v hS
    have e1:=(World.cell?_of_block (w:=w5) (a:=⟨lb,0,none⟩) (by rw[hS])).trans hl5;go_simp
    with_reducible rfl
   (try simp only[pu])
   refine zaH (i:=9) (oi:=⟨some 35,_,_,_,_,_⟩) (v:= ?_) rfl (by kernel_rfl) (fun _ _ _ h=>zcV 35 (by decide) h) (Or.inl ⟨by rfl,?_⟩) hHeld ?_;rotate_left
   ·intro v hS
    skip
    go_simp
    with_reducible rfl
   (try simp only[pu])
   refine zaH (i:=10) (oi:=⟨some 36,_,_,_,_,_⟩) (v:= ?_) rfl (by kernel_rfl) (fun _ _ _ h=>zcV 36 (by decide) h) (Or.inl ⟨by rfl,?_⟩) hHeld ?_;rotate_left
   ·intro v hS
    skip
    go_simp
    with_reducible rfl
   (try simp only[pu])
   refine zae (by kernel_rfl) ?_;simp only[List.drop_succ_cons,List.drop_zero];clear hHeld hs5 ha5 hfa5 he5 hfe5 hl5 hq5;have hs5:=hs5';have ha5:=ha5';have hfa5:=hfa5';have he5:=he5';have hfe5:=hfe5';have hl5:=hl5';have hq5:=hq5';clear hs5' ha5' hfa5' he5' hfe5' hl5' hq5';generalize w5.drew=V5 at *;by_cases hjl:j=ts.length
   ·have hjb:((j:Int)==(ts.length:Int))=true:=by simp;omega
    have hre:r=[]:=by rw[HRD.out,hjl,List.drop_length]
    have hT:zeT m (zbr src.data.toList) src.size=(some a,0,0):=by unfold zeT;rw[HL.out];simp only[if_true];rw[HMT.out,hre]
    have HTT:=zaa hT;clear hT hre hjl;have hla:=zbz ha5;have hle:=zbz he5;go_wp2_with fail
    ((with_reducible refine(za1 _ _ _).mono ?_);rintro e w'' ⟨rfl,rfl⟩)
    have HK6:=zaa (((zam.refl (fun b=>b=W.heap.size+1∨b=W.heap.size+1+1) w'').setCell (p:=⟨W.heap.size+1,0,none⟩) (.inl (.inl rfl)) (.int .i64 0)).setCell (p:=⟨W.heap.size+1+1,0,none⟩) (.inl (.inr rfl)) (.int .i64 0));have hne2:(⟨W.heap.size+1,0,none⟩:Addr)≠⟨W.heap.size+1+1,0,none⟩:=fun e=>by injection e with e _ _;omega
    have hq6:((w''.setCell ⟨W.heap.size+1,0,none⟩ (.int .i64 0)).setCell ⟨W.heap.size+1+1,0,none⟩ (.int .i64 0)).cell? ⟨W.heap.size+1,0,none⟩=some (.int .i64 0):=by
     rw[World.cell?_setCell_other _ _ _ _ (fun e=>hne2 e.symm),World.cell?_setCell_same _ _ _ ha5]
    have hr6:((w''.setCell ⟨W.heap.size+1,0,none⟩ (.int .i64 0)).setCell ⟨W.heap.size+1+1,0,none⟩ (.int .i64 0)).cell? ⟨W.heap.size+1+1,0,none⟩=some (.int .i64 0):=by
     rw[World.cell?_setCell_same _ _ _ (by rw[World.cell?_setCell_other _ _ _ _ hne2];exact he5)]
    have HQ6:=zaa hq6;have HR6:=zaa hr6;clear hq6 hr6 hne2;go_wp2_with fail;generalize(w''.setCell ⟨W.heap.size+1,0,none⟩ (.int .i64 0)).setCell ⟨W.heap.size+1+1,0,none⟩ (.int .i64 0)=V6 at *;refine leaves_cons (f:=55) (args:= #[.pointer (some ⟨W.heap.size,0,none⟩),.pointer (some ⟨W.heap.size+1,0,none⟩),.pointer (some ⟨W.heap.size+1+1,0,none⟩),.pointer (some ⟨X.heap.size+1,0,none⟩),.pointer (some ⟨lb,0,none⟩)]) (by simp) (by simp[go_sem]) ?_;refine(zlt _ _ _ _ _ V6).mono ?_;rintro e u' w9 ⟨rfl,rfl,hb9⟩;obtain⟨hk1,hk2⟩:=HKW.out w9 (HD6.out.trans (HK6.out.trans (zam.of_below hb9)));exact⟨_,zgq _ _ _ _ _ _ rfl rfl ((hb9.cell (p:=⟨W.heap.size+1,0,none⟩) (zbz HQ6.out)).trans HQ6.out) ((hb9.cell (p:=⟨W.heap.size+1+1,0,none⟩) (zbz HR6.out)).trans HR6.out),X.heap.size+2,by omega,hk1,by rw[HTT.out];rfl,by rw[HTT.out];exact hD.out.keep _ _ _ _ HR5.out hk2⟩
   ·have hjb:((j:Int)==(ts.length:Int))=false:=by simp;omega
    obtain⟨t,r',hre⟩: ∃t r',r=t::r':=by
     rw[HRD.out,List.drop_eq_getElem_cons (by omega)];exact⟨_,_,rfl⟩
    have hT:zeT m (zbr src.data.toList) src.size=(none,atT r src.size,80):=by unfold zeT;rw[HL.out];simp only[if_true];rw[HMT.out,hre]
    have HTT:=zaa hT;have HRN:=zaa (hD.out.left ts a t r' (by rw[HMT.out,hre]) _ _ HR5.out);clear hT hre hjl;go_wp2_with fail
    ((with_reducible refine(zb6 _ _ _).mono ?_);rintro e w'' ⟨rfl,rfl⟩)
    go_wp2_with fail;refine leaves_cons (f:=55) (args:= #[.pointer (some ⟨W.heap.size,0,none⟩),.pointer (some ⟨W.heap.size+1,0,none⟩),.pointer (some ⟨W.heap.size+1+1,0,none⟩),.pointer (some ⟨X.heap.size+1,0,none⟩),.pointer (some ⟨lb,0,none⟩)]) (by simp) (by simp[go_sem]) ?_;refine(zgj (W.heap.size) (W.heap.size+1) (W.heap.size+1+1) (X.heap.size+1) lb (X.heap.size) j 80 src ts A c _ _ [] w'' (zaa hs5) (zaa hq5) (zaa HN5.out) (zaa hl5) HTR6 (zaa ⟨ha5,hfa5⟩) (zaa ⟨he5,hfe5⟩) (by omega) (zaa (fun a ha=>by have:=HAB.out a ha;omega)) (by omega) hj).mono ?_;rintro e u' w9 ⟨rfl,rfl,hK9,ha9,he9⟩;obtain⟨hk1,hk2⟩:=HKW.out w9 (HD6.out.trans hK9);exact⟨_,zgq _ _ _ _ _ _ rfl rfl ha9 he9,X.heap.size+2,by omega,hk1,by rw[HTT.out,HRD.out],by rw[HTT.out];exact hD.out.keep _ _ _ _ HRN.out hk2⟩
theorem zma (pb j bb mb B p0 p1:Nat) (ts:List Tok) (b:zag) (v4 v7 v8 v9:Value) (W0 W:World) (H:Hid (Cur pb ts j W)) (hts:ts.length≤1000000) (hj:j≤ts.length) (hT:Hid (zbS ts)) (HA:Hid (AtJ pb j W0 W)) (HB:Hid (BSt pb bb mb B b v4 v7 v8 v9 W)) (hpW:pb<W0.heap.size) (hW0:W0.heap.size≤bb)
 (h0:W.cell? ⟨p0,0,none⟩=some (.pointer (some ⟨pb,0,none⟩))) (h1:W.cell? ⟨p1,0,none⟩=some (.pointer (some ⟨bb,0,none⟩))) (hp0:p0≠pb) (hp1:p1≠pb):
 Calls prog 157 #[.pointer (some ⟨p0,0,none⟩),.pointer (some ⟨p1,0,none⟩)] W fun e W'=>zbo pb ts W0 bb mb B ((zdw b.p >>= fun p=>pure (zag.mk p b.what)) (ts.drop j)) e W'∧zam (fun k=>k=pb∨k=bb) W W':=by
 have hts':ts.length≤1099511627776:=by omega
 obtain⟨l1,l2,l3,l4,l5,l6⟩:=HB.out.low;have l0:p0<W.heap.size:=World.block_lt_of_cell? W ⟨p0,0,none⟩ h0;have l01:p1<W.heap.size:=World.block_lt_of_cell? W ⟨p1,0,none⟩ h1;have hgd:=zaa hT.out.good
 go_enter func157,ntmps157
 refine zad (S:=fun w'=>w'.cell? ⟨p0,0,none⟩=some (.pointer (some ⟨pb,0,none⟩))∧w'.cell? ⟨p1,0,none⟩=some (.pointer (some ⟨bb,0,none⟩))) 9 (by kernel_rfl) (by kernel_rfl) ⟨h0,h1⟩ (fun hHeld=> ?_);have HAV:=zaa (HA.out.drew);have HBV:=zaa (HB.out.bare (w':=W.drew) rfl);have HCV:=zaa (H.out.to (AtJ.start H.out.now H.out.free).drew);have hzV:W.drew.heap.size=W.heap.size:=rfl;have HKV:=zaa ((zam.refl (fun k=>k=pb∨k=bb) W).drew);generalize W.drew=V at *;refine tyZ (v:= ?_) 0 2 rfl hHeld (fun v hS=> ?_) ?_;rotate_left
 ·have e1:=hS.2
  go_simp
  with_reducible rfl
 (try simp only[pu])
 refine tyZ (v:= ?_) 1 3 rfl hHeld (fun v hS=> ?_) ?_;rotate_left
 ·have e1:=hS.1
  go_simp
  with_reducible rfl
 refine tq 2 4 rfl hHeld ?_;refine tq 3 5 rfl hHeld ?_
 (try simp only[pu])
 refine tyZ (v:= ?_) 4 6 rfl hHeld (fun v hS=> ?_) ?_;rotate_left
 ·have e1:=hS.1
  go_simp
  with_reducible rfl
 refine tq 5 7 rfl hHeld ?_;refine tq 6 8 rfl hHeld ?_;refine tq 7 9 rfl hHeld ?_
 (try simp only[pu])
 refine trZ [8] (zau.cons rfl (fun K hK=> ?_) zau.nil);go_simp;refine(zfQ pb j ts V HCV hts' hj hgd).mono ?_;rintro e w1 hE1;rcases hE1.split with⟨l,j1,v1,hr,hj1,hA,hO,rfl⟩|⟨n,jn,hr,hjn,hA,rfl⟩
 rotate_left
 ·have HX:=zaa (zbo.mk_bad (bb:=bb) (mb:=mb) (B:=B) (res:=((zdw b.p >>= fun p=>pure (zag.mk p b.what)) (ts.drop j))) (zab (show zdw b.p _=_ from zab hr)) hjn (HAV.out.trans hA))
  have HKX:=zaa (HKV.out.trans (hA.kept.mono (fun _ h=> .inl h)));clear hA hr hE1;go_wp2_with fail;exact⟨rfl,HX.out,HKX.out⟩
 obtain⟨A1,q1,rfl⟩:=zah hO;have HS1:=zaa ((hA.kept.block bb (by omega) (by omega)).trans HBV.out.row);have HA1:=zaa (HAV.out.trans hA);have HRES:=zaa (show(zdw b.p >>= fun p=>pure (zag.mk p b.what)) (ts.drop j)= .ok ⟨{b.p with semas:=l},b.what⟩ (ts.drop j1) from zac (show zdw b.p _=_ from(zac hr).trans rfl));have HRW:=zaa (HBV.out.rows.swapNew (k:=0) (r:=⟨3,1,zbs l⟩) (v':=(Value.slice A1 l.length q1)) hA.kept (fun b hb e=>by omega) (by omega) (by show _<4;decide) (fun e he=>by obtain⟨n,_,rfl⟩:=List.mem_map.1 he;rfl) (by simpa [zbs] using hO) (zfM l _));have HSN:=zaa (HBV.out.seen.same (hA.kept.block mb (by omega) (by omega)));have hz1:=hA.kept.size;have hb1:w1.cell? ⟨bb,4,none⟩=some v4:=cell_of_row _ _ 4 _ _ _ HS1.out;have hf1:w1.frozen? ⟨bb,4,none⟩=false:=frozen_of_row _ _ 4 _ _ HS1.out;have hl1:=(zal HS1.out);have HKX:=zaa (HKV.out.trans (hA.kept.mono (fun _ h=> .inl h)));have hd:=And.intro ((hA.kept.cell (p:=⟨p0,0,none⟩) (by show p0<V.heap.size;omega) hp0).trans hHeld.1) ((hA.kept.cell (p:=⟨p1,0,none⟩) (by show p1<V.heap.size;omega) hp1).trans hHeld.2);clear hA hr hE1 hO HAV HBV HCV;go_wp2_with fail;refine hK.out _ _ hd (fun _=> ?_);clear hK K hd hHeld
 (try simp only[pu])
 refine zae (by kernel_rfl) ?_;simp only[List.drop_succ_cons,List.drop_zero];have HS2:Hid ((w1.setCell ⟨bb,4,none⟩ (Value.slice A1 l.length q1)).heap[bb]? =some (zdv {b.p with semas:=l} mb (Value.slice A1 l.length q1) v7 v8 v9)):=zaa (heap_setCell_same w1 bb 4 _ _ _ HS1.out);have HFIN:=zaa (zbo.mk_ok (bb:=bb) (mb:=mb) (B:=B) (v4:=(Value.slice A1 l.length q1)) (v7:=v7) (v8:=v8) (v9:=v9) HRES.out hj1 (AtJ.fresh HA1.out hpW (p:=⟨bb,4,none⟩) (by show bb≠pb;omega) hW0 (Value.slice A1 l.length q1)) ⟨HS2.out,HRW.out.keep (by simp[World.setCell]) (fun b hb _=>Below.heap_setCell _ _ _ _ (by show b≠bb;omega)),HSN.out.same (Below.heap_setCell _ _ _ _ (by show mb≠bb;omega)),l1,l2,l3,l4,l5,by simp[World.setCell];omega⟩);clear HS1 HRES HRW HSN HS2 HA1;go_wp2_with fail
 go_end0
 exact⟨HFIN.out,HKX.out.setCell (p:=⟨bb,4,none⟩) (.inl (.inr rfl)) _⟩
theorem zmN (pb j bb mb B p0 p1:Nat) (ts:List Tok) (b:zag) (v4 v7 v8 v9:Value) (W0 W:World) (H:Hid (Cur pb ts j W)) (hts:ts.length≤1000000) (hj:j≤ts.length) (hT:Hid (zbS ts)) (HA:Hid (AtJ pb j W0 W)) (HB:Hid (BSt pb bb mb B b v4 v7 v8 v9 W)) (hpW:pb<W0.heap.size) (hW0:W0.heap.size≤bb)
 (h0:W.cell? ⟨p0,0,none⟩=some (.pointer (some ⟨pb,0,none⟩))) (h1:W.cell? ⟨p1,0,none⟩=some (.pointer (some ⟨bb,0,none⟩))) (hp0:p0≠pb) (hp1:p1≠pb):
 Calls prog 159 #[.pointer (some ⟨p0,0,none⟩),.pointer (some ⟨p1,0,none⟩)] W fun e W'=>zbo pb ts W0 bb mb B ((zfb b.p >>= fun p=>pure (zag.mk p b.what)) (ts.drop j)) e W'∧zam (fun k=>k=pb∨k=bb) W W':=by
 have hts':ts.length≤1099511627776:=by omega
 obtain⟨l1,l2,l3,l4,l5,l6⟩:=HB.out.low;have l0:p0<W.heap.size:=World.block_lt_of_cell? W ⟨p0,0,none⟩ h0;have l01:p1<W.heap.size:=World.block_lt_of_cell? W ⟨p1,0,none⟩ h1;have hgd:=zaa hT.out.good
 go_enter func159,ntmps159
 refine zad (S:=fun w'=>w'.cell? ⟨p0,0,none⟩=some (.pointer (some ⟨pb,0,none⟩))∧w'.cell? ⟨p1,0,none⟩=some (.pointer (some ⟨bb,0,none⟩))) 9 (by kernel_rfl) (by kernel_rfl) ⟨h0,h1⟩ (fun hHeld=> ?_);have HAV:=zaa (HA.out.drew);have HBV:=zaa (HB.out.bare (w':=W.drew) rfl);have HCV:=zaa (H.out.to (AtJ.start H.out.now H.out.free).drew);have hzV:W.drew.heap.size=W.heap.size:=rfl;have HKV:=zaa ((zam.refl (fun k=>k=pb∨k=bb) W).drew);generalize W.drew=V at *;refine tyZ (v:= ?_) 0 2 rfl hHeld (fun v hS=> ?_) ?_;rotate_left
 ·have e1:=hS.2
  go_simp
  with_reducible rfl
 (try simp only[pu])
 refine tyZ (v:= ?_) 1 3 rfl hHeld (fun v hS=> ?_) ?_;rotate_left
 ·have e1:=hS.1
  go_simp
  with_reducible rfl
 refine tq 2 4 rfl hHeld ?_;refine tq 3 5 rfl hHeld ?_
 (try simp only[pu])
 refine tyZ (v:= ?_) 4 6 rfl hHeld (fun v hS=> ?_) ?_;rotate_left
 ·have e1:=hS.1
  go_simp
  with_reducible rfl
 refine tq 5 7 rfl hHeld ?_;refine tq 6 8 rfl hHeld ?_;refine tq 7 9 rfl hHeld ?_
 (try simp only[pu])
 refine trZ [8] (zau.cons rfl (fun K hK=> ?_) zau.nil);go_simp;refine(zfQ pb j ts V HCV hts' hj hgd).mono ?_;rintro e w1 hE1;rcases hE1.split with⟨l,j1,v1,hr,hj1,hA,hO,rfl⟩|⟨n,jn,hr,hjn,hA,rfl⟩
 rotate_left
 ·have HX:=zaa (zbo.mk_bad (bb:=bb) (mb:=mb) (B:=B) (res:=((zfb b.p >>= fun p=>pure (zag.mk p b.what)) (ts.drop j))) (zab (show zfb b.p _=_ from zab hr)) hjn (HAV.out.trans hA))
  have HKX:=zaa (HKV.out.trans (hA.kept.mono (fun _ h=> .inl h)));clear hA hr hE1;go_wp2_with fail;exact⟨rfl,HX.out,HKX.out⟩
 obtain⟨A1,q1,rfl⟩:=zah hO;have HS1:=zaa ((hA.kept.block bb (by omega) (by omega)).trans HBV.out.row);have HA1:=zaa (HAV.out.trans hA);have HRES:=zaa (show(zfb b.p >>= fun p=>pure (zag.mk p b.what)) (ts.drop j)= .ok ⟨{b.p with bufs:=l},b.what⟩ (ts.drop j1) from zac (show zfb b.p _=_ from(zac hr).trans rfl));have HRW:=zaa (HBV.out.rows.swapNew (k:=1) (r:=⟨3,1,zbs l⟩) (v':=(Value.slice A1 l.length q1)) hA.kept (fun b hb e=>by omega) (by omega) (by show _<4;decide) (fun e he=>by obtain⟨n,_,rfl⟩:=List.mem_map.1 he;rfl) (by simpa [zbs] using hO) (zfM l _));have HSN:=zaa (HBV.out.seen.same (hA.kept.block mb (by omega) (by omega)));have hz1:=hA.kept.size;have hb1:w1.cell? ⟨bb,7,none⟩=some v7:=cell_of_row _ _ 7 _ _ _ HS1.out;have hf1:w1.frozen? ⟨bb,7,none⟩=false:=frozen_of_row _ _ 7 _ _ HS1.out;have hl1:=(zal HS1.out);have HKX:=zaa (HKV.out.trans (hA.kept.mono (fun _ h=> .inl h)));have hd:=And.intro ((hA.kept.cell (p:=⟨p0,0,none⟩) (by show p0<V.heap.size;omega) hp0).trans hHeld.1) ((hA.kept.cell (p:=⟨p1,0,none⟩) (by show p1<V.heap.size;omega) hp1).trans hHeld.2);clear hA hr hE1 hO HAV HBV HCV;go_wp2_with fail;refine hK.out _ _ hd (fun _=> ?_);clear hK K hd hHeld
 (try simp only[pu])
 refine zae (by kernel_rfl) ?_;simp only[List.drop_succ_cons,List.drop_zero];have HS2:Hid ((w1.setCell ⟨bb,7,none⟩ (Value.slice A1 l.length q1)).heap[bb]? =some (zdv {b.p with bufs:=l} mb v4 (Value.slice A1 l.length q1) v8 v9)):=zaa (heap_setCell_same w1 bb 7 _ _ _ HS1.out);have HFIN:=zaa (zbo.mk_ok (bb:=bb) (mb:=mb) (B:=B) (v4:=v4) (v7:=(Value.slice A1 l.length q1)) (v8:=v8) (v9:=v9) HRES.out hj1 (AtJ.fresh HA1.out hpW (p:=⟨bb,7,none⟩) (by show bb≠pb;omega) hW0 (Value.slice A1 l.length q1)) ⟨HS2.out,HRW.out.keep (by simp[World.setCell]) (fun b hb _=>Below.heap_setCell _ _ _ _ (by show b≠bb;omega)),HSN.out.same (Below.heap_setCell _ _ _ _ (by show mb≠bb;omega)),l1,l2,l3,l4,l5,by simp[World.setCell];omega⟩);clear HS1 HRES HRW HSN HS2 HA1;go_wp2_with fail
 go_end0
 exact⟨HFIN.out,HKX.out.setCell (p:=⟨bb,7,none⟩) (.inl (.inr rfl)) _⟩
theorem zmF (pb j bb mb B p0 p1:Nat) (ts:List Tok) (b:zag) (v4 v7 v8 v9:Value) (W0 W:World) (H:Hid (Cur pb ts j W)) (hts:ts.length≤1000000) (hj:j≤ts.length) (hT:Hid (zbS ts)) (HA:Hid (AtJ pb j W0 W)) (HB:Hid (BSt pb bb mb B b v4 v7 v8 v9 W)) (hpW:pb<W0.heap.size) (hW0:W0.heap.size≤bb)
 (h0:W.cell? ⟨p0,0,none⟩=some (.pointer (some ⟨pb,0,none⟩))) (h1:W.cell? ⟨p1,0,none⟩=some (.pointer (some ⟨bb,0,none⟩))) (hp0:p0≠pb) (hp1:p1≠pb):
 Calls prog 160 #[.pointer (some ⟨p0,0,none⟩),.pointer (some ⟨p1,0,none⟩)] W fun e W'=>zbo pb ts W0 bb mb B ((zcw b.p >>= fun p=>pure (zag.mk p b.what)) (ts.drop j)) e W'∧zam (fun k=>k=pb∨k=bb) W W':=by
 have hts':ts.length≤1099511627776:=by omega
 obtain⟨l1,l2,l3,l4,l5,l6⟩:=HB.out.low;have l0:p0<W.heap.size:=World.block_lt_of_cell? W ⟨p0,0,none⟩ h0;have l01:p1<W.heap.size:=World.block_lt_of_cell? W ⟨p1,0,none⟩ h1;have hgd:=zaa hT.out.good
 go_enter func160,ntmps160
 refine zad (S:=fun w'=>w'.cell? ⟨p0,0,none⟩=some (.pointer (some ⟨pb,0,none⟩))∧w'.cell? ⟨p1,0,none⟩=some (.pointer (some ⟨bb,0,none⟩))) 5 (by kernel_rfl) (by kernel_rfl) ⟨h0,h1⟩ (fun hHeld=> ?_);have HAV:=zaa (HA.out.drew);have HBV:=zaa (HB.out.bare (w':=W.drew) rfl);have HCV:=zaa (H.out.to (AtJ.start H.out.now H.out.free).drew);have hzV:W.drew.heap.size=W.heap.size:=rfl;have HKV:=zaa ((zam.refl (fun k=>k=pb∨k=bb) W).drew);generalize W.drew=V at *;refine tyZ (v:= ?_) 0 2 rfl hHeld (fun v hS=> ?_) ?_;rotate_left
 ·have e1:=hS.2
  go_simp
  with_reducible rfl
 (try simp only[pu])
 refine tyZ (v:= ?_) 1 3 rfl hHeld (fun v hS=> ?_) ?_;rotate_left
 ·have e1:=hS.1
  go_simp
  with_reducible rfl
 refine tq 2 4 rfl hHeld ?_;refine tq 3 5 rfl hHeld ?_
 (try simp only[pu])
 refine trZ [4] (zau.cons rfl (fun K hK=> ?_) zau.nil);go_simp;refine(zcx pb j ts V HCV hts' hj hgd).mono ?_;rintro e w1 hE1;rcases hE1.split with⟨n1,j1,hr,hj1,hA,rfl⟩|⟨n,jn,hr,hjn,hA,rfl⟩
 rotate_left
 ·have HX:=zaa (zbo.mk_bad (bb:=bb) (mb:=mb) (B:=B) (res:=((zcw b.p >>= fun p=>pure (zag.mk p b.what)) (ts.drop j))) (zab (show zcw b.p _=_ from zab hr)) hjn (HAV.out.trans hA))
  have HKX:=zaa (HKV.out.trans (hA.kept.mono (fun _ h=> .inl h)));clear hA hr hE1;go_wp2_with fail;exact⟨rfl,HX.out,HKX.out⟩
 have HS1:=zaa ((hA.kept.block bb (by omega) (by omega)).trans HBV.out.row);have HA1:=zaa (HAV.out.trans hA);have HRES:=zaa (show(zcw b.p >>= fun p=>pure (zag.mk p b.what)) (ts.drop j)= .ok ⟨{b.p with events:=n1},b.what⟩ (ts.drop j1) from zac (show zcw b.p _=_ from(zac hr).trans rfl));have HRW:=zaa (HBV.out.rows.kept hA.kept (fun b hb e=>by omega));have HSN:=zaa (HBV.out.seen.same (hA.kept.block mb (by omega) (by omega)));have hz1:=hA.kept.size;have hb1:w1.cell? ⟨bb,5,none⟩=some (Value.int .i64 b.p.events):=cell_of_row _ _ 5 _ _ _ HS1.out;have hf1:w1.frozen? ⟨bb,5,none⟩=false:=frozen_of_row _ _ 5 _ _ HS1.out;have hl1:=(zal HS1.out);have HKX:=zaa (HKV.out.trans (hA.kept.mono (fun _ h=> .inl h)));have hd:=And.intro ((hA.kept.cell (p:=⟨p0,0,none⟩) (by show p0<V.heap.size;omega) hp0).trans hHeld.1) ((hA.kept.cell (p:=⟨p1,0,none⟩) (by show p1<V.heap.size;omega) hp1).trans hHeld.2);clear hA hr hE1 HAV HBV HCV;go_wp2_with fail;refine hK.out _ _ hd (fun _=> ?_);clear hK K hd hHeld
 (try simp only[pu])
 refine zae (by kernel_rfl) ?_;simp only[List.drop_succ_cons,List.drop_zero];have HS2:Hid ((w1.setCell ⟨bb,5,none⟩ (Value.int .i64 n1)).heap[bb]? =some (zdv {b.p with events:=n1} mb v4 v7 v8 v9)):=zaa (heap_setCell_same w1 bb 5 _ _ _ HS1.out);have HFIN:=zaa (zbo.mk_ok (bb:=bb) (mb:=mb) (B:=B) (v4:=v4) (v7:=v7) (v8:=v8) (v9:=v9) HRES.out hj1 (AtJ.fresh HA1.out hpW (p:=⟨bb,5,none⟩) (by show bb≠pb;omega) hW0 (Value.int .i64 n1)) ⟨HS2.out,HRW.out.keep (by simp[World.setCell]) (fun b hb _=>Below.heap_setCell _ _ _ _ (by show b≠bb;omega)),HSN.out.same (Below.heap_setCell _ _ _ _ (by show mb≠bb;omega)),l1,l2,l3,l4,l5,by simp[World.setCell];omega⟩);clear HS1 HRES HRW HSN HS2 HA1;go_wp2_with fail
 go_end0
 exact⟨HFIN.out,HKX.out.setCell (p:=⟨bb,5,none⟩) (.inl (.inr rfl)) _⟩
theorem zmK (pb j bb mb B p0 p1:Nat) (ts:List Tok) (b:zag) (v4 v7 v8 v9:Value) (W0 W:World) (H:Hid (Cur pb ts j W)) (hts:ts.length≤1000000) (hj:j≤ts.length) (hT:Hid (zbS ts)) (HA:Hid (AtJ pb j W0 W)) (HB:Hid (BSt pb bb mb B b v4 v7 v8 v9 W)) (hpW:pb<W0.heap.size) (hW0:W0.heap.size≤bb)
 (h0:W.cell? ⟨p0,0,none⟩=some (.pointer (some ⟨pb,0,none⟩))) (h1:W.cell? ⟨p1,0,none⟩=some (.pointer (some ⟨bb,0,none⟩))) (hp0:p0≠pb) (hp1:p1≠pb):
 Calls prog 161 #[.pointer (some ⟨p0,0,none⟩),.pointer (some ⟨p1,0,none⟩)] W fun e W'=>zbo pb ts W0 bb mb B ((zcA b.p >>= fun p=>pure (zag.mk p b.what)) (ts.drop j)) e W'∧zam (fun k=>k=pb∨k=bb) W W':=by
 have hts':ts.length≤1099511627776:=by omega
 obtain⟨l1,l2,l3,l4,l5,l6⟩:=HB.out.low;have l0:p0<W.heap.size:=World.block_lt_of_cell? W ⟨p0,0,none⟩ h0;have l01:p1<W.heap.size:=World.block_lt_of_cell? W ⟨p1,0,none⟩ h1;have hgd:=zaa hT.out.good
 go_enter func161,ntmps161
 refine zad (S:=fun w'=>w'.cell? ⟨p0,0,none⟩=some (.pointer (some ⟨pb,0,none⟩))∧w'.cell? ⟨p1,0,none⟩=some (.pointer (some ⟨bb,0,none⟩))) 5 (by kernel_rfl) (by kernel_rfl) ⟨h0,h1⟩ (fun hHeld=> ?_);have HAV:=zaa (HA.out.drew);have HBV:=zaa (HB.out.bare (w':=W.drew) rfl);have HCV:=zaa (H.out.to (AtJ.start H.out.now H.out.free).drew);have hzV:W.drew.heap.size=W.heap.size:=rfl;have HKV:=zaa ((zam.refl (fun k=>k=pb∨k=bb) W).drew);generalize W.drew=V at *;refine tyZ (v:= ?_) 0 2 rfl hHeld (fun v hS=> ?_) ?_;rotate_left
 ·have e1:=hS.2
  go_simp
  with_reducible rfl
 (try simp only[pu])
 refine tyZ (v:= ?_) 1 3 rfl hHeld (fun v hS=> ?_) ?_;rotate_left
 ·have e1:=hS.1
  go_simp
  with_reducible rfl
 refine tq 2 4 rfl hHeld ?_;refine tq 3 5 rfl hHeld ?_
 (try simp only[pu])
 refine trZ [4] (zau.cons rfl (fun K hK=> ?_) zau.nil);go_simp;refine(zcx pb j ts V HCV hts' hj hgd).mono ?_;rintro e w1 hE1;rcases hE1.split with⟨n1,j1,hr,hj1,hA,rfl⟩|⟨n,jn,hr,hjn,hA,rfl⟩
 rotate_left
 ·have HX:=zaa (zbo.mk_bad (bb:=bb) (mb:=mb) (B:=B) (res:=((zcA b.p >>= fun p=>pure (zag.mk p b.what)) (ts.drop j))) (zab (show zcA b.p _=_ from zab hr)) hjn (HAV.out.trans hA))
  have HKX:=zaa (HKV.out.trans (hA.kept.mono (fun _ h=> .inl h)));clear hA hr hE1;go_wp2_with fail;exact⟨rfl,HX.out,HKX.out⟩
 have HS1:=zaa ((hA.kept.block bb (by omega) (by omega)).trans HBV.out.row);have HA1:=zaa (HAV.out.trans hA);have HRES:=zaa (show(zcA b.p >>= fun p=>pure (zag.mk p b.what)) (ts.drop j)= .ok ⟨{b.p with boards:=n1},b.what⟩ (ts.drop j1) from zac (show zcA b.p _=_ from(zac hr).trans rfl));have HRW:=zaa (HBV.out.rows.kept hA.kept (fun b hb e=>by omega));have HSN:=zaa (HBV.out.seen.same (hA.kept.block mb (by omega) (by omega)));have hz1:=hA.kept.size;have hb1:w1.cell? ⟨bb,6,none⟩=some (Value.int .i64 b.p.boards):=cell_of_row _ _ 6 _ _ _ HS1.out;have hf1:w1.frozen? ⟨bb,6,none⟩=false:=frozen_of_row _ _ 6 _ _ HS1.out;have hl1:=(zal HS1.out);have HKX:=zaa (HKV.out.trans (hA.kept.mono (fun _ h=> .inl h)));have hd:=And.intro ((hA.kept.cell (p:=⟨p0,0,none⟩) (by show p0<V.heap.size;omega) hp0).trans hHeld.1) ((hA.kept.cell (p:=⟨p1,0,none⟩) (by show p1<V.heap.size;omega) hp1).trans hHeld.2);clear hA hr hE1 HAV HBV HCV;go_wp2_with fail;refine hK.out _ _ hd (fun _=> ?_);clear hK K hd hHeld
 (try simp only[pu])
 refine zae (by kernel_rfl) ?_;simp only[List.drop_succ_cons,List.drop_zero];have HS2:Hid ((w1.setCell ⟨bb,6,none⟩ (Value.int .i64 n1)).heap[bb]? =some (zdv {b.p with boards:=n1} mb v4 v7 v8 v9)):=zaa (heap_setCell_same w1 bb 6 _ _ _ HS1.out);have HFIN:=zaa (zbo.mk_ok (bb:=bb) (mb:=mb) (B:=B) (v4:=v4) (v7:=v7) (v8:=v8) (v9:=v9) HRES.out hj1 (AtJ.fresh HA1.out hpW (p:=⟨bb,6,none⟩) (by show bb≠pb;omega) hW0 (Value.int .i64 n1)) ⟨HS2.out,HRW.out.keep (by simp[World.setCell]) (fun b hb _=>Below.heap_setCell _ _ _ _ (by show b≠bb;omega)),HSN.out.same (Below.heap_setCell _ _ _ _ (by show mb≠bb;omega)),l1,l2,l3,l4,l5,by simp[World.setCell];omega⟩);clear HS1 HRES HRW HSN HS2 HA1;go_wp2_with fail
 go_end0
 exact⟨HFIN.out,HKX.out.setCell (p:=⟨bb,6,none⟩) (.inl (.inr rfl)) _⟩
end Go.Proofs.YtlngbjphagnloaaGreatDoor
