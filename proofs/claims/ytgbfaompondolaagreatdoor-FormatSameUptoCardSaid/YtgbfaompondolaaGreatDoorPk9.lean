/- Merged texts of the walks and of the plain laws on which the statement leans.-/
import Derived.Test.YtgbfaompondolaaGreatDoorPk5
import Derived.Test.YtgbfaompondolaaGreatDoorPk1
import Derived.Test.YtgbfaompondolaaGreatDoorShelfF
import Derived.Test.YtgbfaompondolaaGreatDoorPk7
set_option maxHeartbeats 4000000
set_option maxRecDepth 100000
namespace Go.Proofs.YtgbfaompondolaaGreatDoor
open Go.RowKit
attribute [local go_sem] zal.cell
theorem gSp:Tryz.prog.globalNamed "strings.asciiSpace" =some 0:=by kernel_rfl
structure zcL (w:World):Prop where
 sp:Lib.TabIs Tryz.prog w "strings.asciiSpace" .u8 Lib.asciiSpaceTab
 mx: ∃m,w.cell? ⟨1,0,none⟩=some (.int .i64 m)
 big:2≤w.heap.size
theorem zcL.keptB {B:Nat} {w w':World} (h:zcL w) (hb:Below B w w') (hB:2≤B):zcL w':=by
 obtain⟨m,hm⟩:=h.mx
 refine⟨?_,⟨m,(hb.cell (p:=⟨1,0,none⟩) (by show 1<B;omega)).trans hm⟩,Nat.le_trans h.big hb.size⟩
 have ht:=h.sp
 unfold Lib.TabIs at ht ⊢
 exact var?_below hb gSp (by omega) ht
theorem zcL.below {w w':World} (h:zcL w) (hb:Below w.heap.size w w'):zcL w':=h.keptB hb h.big
theorem zcL.to {pb j:Nat} {w w':World} (h:zcL w) (hp:2≤pb) (ha:AtJ pb j w w'):zcL w':=
 h.keptB (B:=2) (ha.kept.below h.big (fun i hi e=>by omega)) (Nat.le_refl _)
theorem zkh (x:List UInt8): ∀(l:List (List UInt8)) (i:Nat),Lib.idxFromS (l.map fun s=>(⟨s.toArray⟩:ByteArray)) ⟨x.toArray⟩ i=match l.findIdx? (· ==x) with
  |some k=>((i+k:Nat):Int)
  |none=> -1
 |[],i=>rfl
 |s::l,i=>by
  have ih:=zkh x l (i+1)
  simp only[List.map_cons,Lib.idxFromS,List.findIdx?_cons]
  by_cases h:s=x
  ·subst h
   simp
  ·have h':(⟨s.toArray⟩:ByteArray)≠⟨x.toArray⟩:=by
    intro e
    apply h
    have:=congrArg (fun b:ByteArray=>b.data.toList) e
    simpa using this
   rw[if_neg h',ih]
   have hb:(s==x)=false:=by simpa using h
   rw[hb]
   cases l.findIdx? (· ==x) with
   |none=>rfl
   |some k=>
    show((i+1+k:Nat):Int)=((i+(k+1):Nat):Int)
    omega
theorem zoi (l:List (List UInt8)) (s:List UInt8):zkb l s≤l.length:=by
 unfold zkb
 cases h:l.findIdx? (· ==s) with
 |none=>simp
 |some i=>
  have:=(List.findIdx?_eq_some_iff_getElem.1 h).1
  show i+1≤_
  omega
theorem zm4 (W:World) (a0 a1 a2:Value):(Instr.field 220 (.agg #[a0,a1,a2]) 0).run Tryz.prog W= .ok a0 W:=by kernel_rfl
theorem zmY (W:World) (a0 a1 a2:Value):(Instr.field 220 (.agg #[a0,a1,a2]) 1).run Tryz.prog W= .ok a1 W:=by kernel_rfl
structure Voc (v:ByteArray) (ws:List (List UInt8)):Prop where
 small:v.size<4294967281
 ascii:v.data.toList.all (fun b=>decide (b.toNat<128))=true
 words:Lib.fields v.data.toList=ws
 few:ws.length≤200
end Go.Proofs.YtgbfaompondolaaGreatDoor
namespace Go.Proofs.YtgbfaompondolaaGreatDoor
open Go.RowKit
attribute [local go_sem] zal.cell
theorem zom (ws:List (List UInt8)) (n:Nat) (h0:n≠0) (hn:n≤ws.length):ws[n-1]? =some (zaj ws n):=by
 unfold zaj
 rw[if_neg h0,List.getD_eq_getElem?_getD,List.getElem?_eq_getElem (by omega)]
 rfl
theorem zcC (ws:List (List UInt8)) (n:Nat) (h:n=0∨ws.length<n):zaj ws n=[]:=by
 unfold zaj
 rcases h with h|h
 ·rw[if_pos h]
 ·rw[if_neg (by omega),List.getD_eq_getElem?_getD,List.getElem?_eq_none (by omega)]
  rfl
theorem zeE (v:ByteArray) (n:Nat) (ws:List (List UInt8)) (hv:Voc v ws) (W:World) (hE:zcL W) (hn:n≤255):
 Calls Tryz.prog 209 #[.string v,.int .u8 (n:Int)] W fun e W'=>e= .returned (.string ⟨(zaj ws n).toArray⟩)∧Below W.heap.size W W':=by
 have ha': ∀(j:Nat) b,v.data.toList[j]? =some b→b.toNat<128:=fun j b hb=>by
  have:=List.all_eq_true.1 hv.ascii b (List.mem_of_getElem? hb)
  simpa using this
 have HF:=zaa (Tryz.strings_Fields v W hv.small ha' hE.sp)
 rw[hv.words] at HF
 have hfew:=hv.few
 have hcell: ∀i,i<ws.length→(W.alloc (Obj.cells (ws.map fun l=>Value.string ⟨l.toArray⟩).toArray 9)).cell? ⟨W.heap.size,i,none⟩=some (.string ⟨(ws.getD i []).toArray⟩):=fun i hi=>by
  rw[cell_of_row _ _ i _ _ _ (heap_alloc_new W _)]
  simp[hi]
 have HCl:=zaa hcell
 clear hcell
 generalize Obj.cells (ws.map fun l=>Value.string ⟨l.toArray⟩).toArray 9=o at *
 have HB:=zaa ((Below.refl W.heap.size W).alloc (Nat.le_refl _) o)
 by_cases h0:n=0
 ·rw[zcC ws n (.inl h0)]
  have k0:(n:Int)<1:=by omega
  generalize(n:Int)=z at *
  go_enter Tryz.func209,Tryz.ntmps209
  go_wp2_with fail
  refine(HF.out).mono ?_
  rintro e w1 ⟨rfl,rfl⟩
  go_wp2_with fail
  go_ret
  exact⟨rfl,HB.out⟩
 ·have k0: ¬(n:Int)<1:=by omega
  by_cases h1:ws.length<n
  ·rw[zcC ws n (.inr h1)]
   have k2:((ws.length:Int)<(n:Int)):=by omega
   have kw:wrap64 (n:Int)=(n:Int):=by unfold wrap64;omega
   have kc: ¬(1≤(n:Int)∧(n:Int)≤(ws.length:Int)):=by omega
   generalize(n:Int)=z at *
   go_enter Tryz.func209,Tryz.ntmps209
   go_wp2_with fail
   refine(HF.out).mono ?_
   rintro e w1 ⟨rfl,rfl⟩
   go_wp2_with fail
   go_ret
   exact⟨rfl,HB.out⟩
  ·have k1: ¬((ws.length:Int)<(n:Int)):=by omega
   have hc:=HCl.out (n-1) (by omega)
   rw[show(ws.getD (n-1) [])=zaj ws n from by unfold zaj;rw[if_neg h0]] at hc
   have kw:wrap64 (n:Int)=(n:Int):=by unfold wrap64;omega
   have km:((n:Int)-1) % 256=((n-1:Nat):Int):=by omega
   have k3:(0:Int)≤((n-1:Nat):Int)∧((n-1:Nat):Int)<(ws.length:Int):=by omega
   have kc:1≤(n:Int)∧(n:Int)≤(ws.length:Int):=by omega
   have hz:(n:Int).toNat-1=n-1:=by omega
   generalize(n:Int)=z at *
   go_enter Tryz.func209,Tryz.ntmps209
   go_wp2_with fail
   refine(HF.out).mono ?_
   rintro e w1 ⟨rfl,rfl⟩
   go_wp2_with fail
   go_ret
   exact⟨rfl,HB.out⟩
theorem zk6:Voc ⟨#[100,101,97,100,108,105,110,101,32,109,101,109,111,114,121,32,114,97,105,115,101,100,32,110,117,109,101,114,105,99,32,115,116,97,99,107,32,112,111,119,101,114,32,119,105,110,100,111,119]⟩ zax:=⟨by decide,by decide,by decide,by decide⟩
theorem zjW:Voc ⟨#[112,114,111,99,101,115,115,32,112,97,114,116,32,109,111,100,117,108,101]⟩ zas:=⟨by decide,by decide,by decide,by decide⟩
theorem zjH:Voc ⟨#[105,103,110,111,114,101,32,115,116,111,112,32,114,101,115,116,97,114,116,32,119,97,114,109,32,99,111,108,100,32,105,100,108,101,32,114,101,115,101,116,32,104,97,108,116]⟩ zap:=⟨by decide,by decide,by decide,by decide⟩
theorem netVoc:Voc ⟨#[97,32,98]⟩ zfu:=⟨by decide,by decide,by decide,by decide⟩
theorem zoY:Voc ⟨#[115,97,109,112,108,105,110,103,32,113,117,101,117,105,110,103]⟩ zeN:=⟨by decide,by decide,by decide,by decide⟩
def zb6:List (List UInt8):=(zaD.zip zaR).map fun p=>p.1++[58]++p.2
theorem zn1:Voc ⟨#[119,111,114,107,58,119,32,115,101,116,58,114,118,32,97,100,100,58,114,114,32,115,117,98,58,114,114,32,108,111,97,100,58,114,97,114,32,115,116,111,114,101,58,114,97,114,32,115,101,110,100,58,111,114,108,32,114,101,99,118,58,105,114,114,32,119,97,105,116,58,115,32,115,105,103,110,97,108,58,115,32,114,97,105,115,101,58,101,32,108,111,119,101,114,58,101,32,117,110,116,105,108,58,101,32,112,117,116,58,98,114,32,103,101,116,58,98,114,32,115,104,111,119,58,100,114,32,108,111,111,107,58,100,114,32,99,108,101,97,114,58,100,32,110,101,120,116,58,32,106,117,109,112,58,106,32,122,101,114,111,58,114,106,32,108,101,115,115,58,114,114,106,32,100,105,118,58,114,114,32,102,97,117,108,116,58,99,32,115,116,111,112,58]⟩ zb6:=⟨by decide +kernel,by decide +kernel,by decide +kernel,by decide +kernel⟩
theorem zf5 (n:Nat) (W:World) (hE:zcL W) (hn:n≤255):Calls Tryz.prog 137 #[.int .u8 (n:Int)] W fun e W'=>e= .returned (.string ⟨(zaj zax n).toArray⟩)∧Below W.heap.size W W':=by
 have HW:=zaa (zeE _ n _ zk6 W hE hn)
 go_enter Tryz.func137,Tryz.ntmps137
 go_wp2_with fail
 refine(HW.out).mono ?_
 rintro e w1 ⟨rfl,hb⟩
 go_wp2_with fail
 go_ret
 exact⟨rfl,hb⟩
theorem zdr (n:Nat) (W:World) (hE:zcL W) (hn:n≤255):Calls Tryz.prog 138 #[.int .u8 (n:Int)] W fun e W'=>e= .returned (.string ⟨(zaj zas n).toArray⟩)∧Below W.heap.size W W':=by
 have HW:=zaa (zeE _ n _ zjW W hE hn)
 go_enter Tryz.func138,Tryz.ntmps138
 go_wp2_with fail
 refine(HW.out).mono ?_
 rintro e w1 ⟨rfl,hb⟩
 go_wp2_with fail
 go_ret
 exact⟨rfl,hb⟩
theorem zcZ (n:Nat) (W:World) (hE:zcL W) (hn:n≤255):Calls Tryz.prog 139 #[.int .u8 (n:Int)] W fun e W'=>e= .returned (.string ⟨(zaj zap n).toArray⟩)∧Below W.heap.size W W':=by
 have HW:=zaa (zeE _ n _ zjH W hE hn)
 go_enter Tryz.func139,Tryz.ntmps139
 go_wp2_with fail
 refine(HW.out).mono ?_
 rintro e w1 ⟨rfl,hb⟩
 go_wp2_with fail
 go_ret
 exact⟨rfl,hb⟩
theorem zlM: ∀n,n≤255→(Lib.cut (zaj zb6 n) [58]).1=zaj zaD n∧(Lib.cut (zaj zb6 n) [58]).2.1=zaj zaR n:=by
 have h: ∀n:Fin 27,(Lib.cut (zaj zb6 n.val) [58]).1=zaj zaD n.val∧(Lib.cut (zaj zb6 n.val) [58]).2.1=zaj zaR n.val:=by decide +kernel
 intro n hn
 by_cases h1:n<27
 ·exact h ⟨n,h1⟩
 ·rw[zcC zb6 n (.inr (by show 25<n;omega)),zcC zaD n (.inr (by show 25<n;omega)),zcC zaR n (.inr (by show 25<n;omega))]
  decide +kernel
theorem zif (n:Nat):(zaj zb6 n).length≤20:=by
 by_cases h1:n<27
 ·have h: ∀n:Fin 27,(zaj zb6 n.val).length≤20:=by decide +kernel
  exact h ⟨n,h1⟩
 ·rw[zcC zb6 n (.inr (by show 25<n;omega))]
  exact Nat.zero_le _
theorem zdh (n:Nat) (W:World) (hE:Hid (zcL W)) (hn:n≤255):
 Calls Tryz.prog 212 #[.int .u8 (n:Int)] W fun e W'=>e= .returned (.tuple #[.string ⟨(zaj zaD n).toArray⟩,.string ⟨(zaj zaR n).toArray⟩])∧Below W.heap.size W W':=by
 have HW:=zaa (zeE _ n _ zn1 W hE.out hn)
 obtain⟨c1,c2⟩:=zlM n hn
 have hz:=zif n
 have HC:=zaa (fun(w:World) m (hm:w.cell? ⟨1,0,none⟩=some (.int .i64 m))=>Tryz.strings_Cut ⟨(zaj zb6 n).toArray⟩ ⟨#[58]⟩ m w (by show(zaj zb6 n).toArray.size<_;simp;omega) hm)
 simp only[c1,c2] at HC
 clear c1 c2 hz
 go_enter Tryz.func212,Tryz.ntmps212
 go_wp2_with fail
 refine(HW.out).mono ?_
 rintro e w1 ⟨rfl,hb⟩
 obtain⟨m,hm⟩:=(hE.out.below hb).mx
 have HB:=zaa hb
 clear hb
 go_wp2_with fail
 refine(HC.out w1 m hm).mono ?_
 rintro e w2 ⟨rfl,q,rfl⟩
 go_wp2_with fail
 refine bodyPost_ret (v:= .tuple #[.string ⟨(zaj zaD n).toArray⟩,.string ⟨(zaj zaR n).toArray⟩]) (by simp[results,Tryz.results212,go_sem]) rfl ?_
 exact⟨rfl,_root_.Go.below_drewN HB.out _⟩
theorem zgj (n:Nat) (W:World) (hE:Hid (zcL W)) (hn:n≤255):Calls Tryz.prog 146 #[.int .u8 (n:Int)] W fun e W'=>e= .returned (.string ⟨(zaj zaD n).toArray⟩)∧Below W.heap.size W W':=by
 have HW:=zaa (zdh n W hE hn)
 go_enter Tryz.func146,Tryz.ntmps146
 go_wp2_with fail
 refine(HW.out).mono ?_
 rintro e w1 ⟨rfl,hb⟩
 go_wp2_with fail
 go_ret
 exact⟨rfl,hb⟩
theorem zek (n:Nat) (W:World) (hE:Hid (zcL W)) (hn:n≤255):Calls Tryz.prog 145 #[.int .u8 (n:Int)] W fun e W'=>e= .returned (.string ⟨(zaj zaR n).toArray⟩)∧Below W.heap.size W W':=by
 have HW:=zaa (zdh n W hE hn)
 go_enter Tryz.func145,Tryz.ntmps145
 go_wp2_with fail
 refine(HW.out).mono ?_
 rintro e w1 ⟨rfl,hb⟩
 go_wp2_with fail
 go_ret
 exact⟨rfl,hb⟩
end Go.Proofs.YtgbfaompondolaaGreatDoor
namespace Go.Proofs.YtgbfaompondolaaGreatDoor
open Go.RowKit
attribute [local go_sem] zal.cell
theorem zag {w:World} {G:Nat→Prop} {us:List Value} {d:Dat} {ds:List Dat} (h:zab w G us (d::ds)): ∃u us',us=u::us'∧DAt w G u d∧zab w G us' ds:=by
 obtain⟨hl,hc⟩:=h
 cases us with
 |nil=>simp at hl
 |cons u us=>exact⟨u,us,rfl,hc 0 u d rfl rfl,by simpa using hl,fun j v e hv he=>hc (j+1) v e (by simpa using hv) (by simpa using he)⟩
theorem zbA {w:World} {G:Nat→Prop} {us:List Value} (h:zab w G us []):us=[]:=List.eq_nil_of_length_eq_zero h.1
theorem dc2 {w:World} {G:Nat→Prop} {us:List Value} {d0 d1:Dat} (h:zab w G us [d0,d1]): ∃u0 u1,us=[u0,u1]∧DAt w G u0 d0∧DAt w G u1 d1:=by
 obtain⟨u0,us,rfl,h0,h⟩:=(zag h)
 obtain⟨u1,us,rfl,h1,h⟩:=(zag h)
 obtain rfl:=zbA h
 exact⟨_,_,rfl,h0,h1⟩
theorem dc3 {w:World} {G:Nat→Prop} {us:List Value} {d0 d1 d2:Dat} (h:zab w G us [d0,d1,d2]): ∃u0 u1 u2,us=[u0,u1,u2]∧DAt w G u0 d0∧DAt w G u1 d1∧DAt w G u2 d2:=by
 obtain⟨u0,us,rfl,h0,h⟩:=(zag h)
 obtain⟨u1,us,rfl,h1,h⟩:=(zag h)
 obtain⟨u2,us,rfl,h2,h⟩:=(zag h)
 obtain rfl:=zbA h
 exact⟨_,_,_,rfl,h0,h1,h2⟩
theorem dc4 {w:World} {G:Nat→Prop} {us:List Value} {d0 d1 d2 d3:Dat} (h:zab w G us [d0,d1,d2,d3]): ∃u0 u1 u2 u3,us=[u0,u1,u2,u3]∧DAt w G u0 d0∧DAt w G u1 d1∧DAt w G u2 d2∧DAt w G u3 d3:=by
 obtain⟨u0,us,rfl,h0,h⟩:=(zag h)
 obtain⟨u1,us,rfl,h1,h⟩:=(zag h)
 obtain⟨u2,us,rfl,h2,h⟩:=(zag h)
 obtain⟨u3,us,rfl,h3,h⟩:=(zag h)
 obtain rfl:=zbA h
 exact⟨_,_,_,_,rfl,h0,h1,h2,h3⟩
theorem dc5 {w:World} {G:Nat→Prop} {us:List Value} {d0 d1 d2 d3 d4:Dat} (h:zab w G us [d0,d1,d2,d3,d4]): ∃u0 u1 u2 u3 u4,us=[u0,u1,u2,u3,u4]∧DAt w G u0 d0∧DAt w G u1 d1∧DAt w G u2 d2∧DAt w G u3 d3∧DAt w G u4 d4:=by
 obtain⟨u0,us,rfl,h0,h⟩:=(zag h)
 obtain⟨u1,us,rfl,h1,h⟩:=(zag h)
 obtain⟨u2,us,rfl,h2,h⟩:=(zag h)
 obtain⟨u3,us,rfl,h3,h⟩:=(zag h)
 obtain⟨u4,us,rfl,h4,h⟩:=(zag h)
 obtain rfl:=zbA h
 exact⟨_,_,_,_,_,rfl,h0,h1,h2,h3,h4⟩
theorem dc6 {w:World} {G:Nat→Prop} {us:List Value} {d0 d1 d2 d3 d4 d5:Dat} (h:zab w G us [d0,d1,d2,d3,d4,d5]): ∃u0 u1 u2 u3 u4 u5,us=[u0,u1,u2,u3,u4,u5]∧DAt w G u0 d0∧DAt w G u1 d1∧DAt w G u2 d2∧DAt w G u3 d3∧DAt w G u4 d4∧DAt w G u5 d5:=by
 obtain⟨u0,us,rfl,h0,h⟩:=(zag h)
 obtain⟨u1,us,rfl,h1,h⟩:=(zag h)
 obtain⟨u2,us,rfl,h2,h⟩:=(zag h)
 obtain⟨u3,us,rfl,h3,h⟩:=(zag h)
 obtain⟨u4,us,rfl,h4,h⟩:=(zag h)
 obtain⟨u5,us,rfl,h5,h⟩:=(zag h)
 obtain rfl:=zbA h
 exact⟨_,_,_,_,_,_,rfl,h0,h1,h2,h3,h4,h5⟩
theorem dc7 {w:World} {G:Nat→Prop} {us:List Value} {d0 d1 d2 d3 d4 d5 d6:Dat} (h:zab w G us [d0,d1,d2,d3,d4,d5,d6]): ∃u0 u1 u2 u3 u4 u5 u6,us=[u0,u1,u2,u3,u4,u5,u6]∧DAt w G u0 d0∧DAt w G u1 d1∧DAt w G u2 d2∧DAt w G u3 d3∧DAt w G u4 d4∧DAt w G u5 d5∧DAt w G u6 d6:=by
 obtain⟨u0,us,rfl,h0,h⟩:=(zag h)
 obtain⟨u1,us,rfl,h1,h⟩:=(zag h)
 obtain⟨u2,us,rfl,h2,h⟩:=(zag h)
 obtain⟨u3,us,rfl,h3,h⟩:=(zag h)
 obtain⟨u4,us,rfl,h4,h⟩:=(zag h)
 obtain⟨u5,us,rfl,h5,h⟩:=(zag h)
 obtain⟨u6,us,rfl,h6,h⟩:=(zag h)
 obtain rfl:=zbA h
 exact⟨_,_,_,_,_,_,_,rfl,h0,h1,h2,h3,h4,h5,h6⟩
theorem dc8 {w:World} {G:Nat→Prop} {us:List Value} {d0 d1 d2 d3 d4 d5 d6 d7:Dat} (h:zab w G us [d0,d1,d2,d3,d4,d5,d6,d7]): ∃u0 u1 u2 u3 u4 u5 u6 u7,us=[u0,u1,u2,u3,u4,u5,u6,u7]∧DAt w G u0 d0∧DAt w G u1 d1∧DAt w G u2 d2∧DAt w G u3 d3∧DAt w G u4 d4∧DAt w G u5 d5∧DAt w G u6 d6∧DAt w G u7 d7:=by
 obtain⟨u0,us,rfl,h0,h⟩:=(zag h)
 obtain⟨u1,us,rfl,h1,h⟩:=(zag h)
 obtain⟨u2,us,rfl,h2,h⟩:=(zag h)
 obtain⟨u3,us,rfl,h3,h⟩:=(zag h)
 obtain⟨u4,us,rfl,h4,h⟩:=(zag h)
 obtain⟨u5,us,rfl,h5,h⟩:=(zag h)
 obtain⟨u6,us,rfl,h6,h⟩:=(zag h)
 obtain⟨u7,us,rfl,h7,h⟩:=(zag h)
 obtain rfl:=zbA h
 exact⟨_,_,_,_,_,_,_,_,rfl,h0,h1,h2,h3,h4,h5,h6,h7⟩
theorem dc9 {w:World} {G:Nat→Prop} {us:List Value} {d0 d1 d2 d3 d4 d5 d6 d7 d8:Dat} (h:zab w G us [d0,d1,d2,d3,d4,d5,d6,d7,d8]): ∃u0 u1 u2 u3 u4 u5 u6 u7 u8,us=[u0,u1,u2,u3,u4,u5,u6,u7,u8]∧DAt w G u0 d0∧DAt w G u1 d1∧DAt w G u2 d2∧DAt w G u3 d3∧DAt w G u4 d4∧DAt w G u5 d5∧DAt w G u6 d6∧DAt w G u7 d7∧DAt w G u8 d8:=by
 obtain⟨u0,us,rfl,h0,h⟩:=(zag h)
 obtain⟨u1,us,rfl,h1,h⟩:=(zag h)
 obtain⟨u2,us,rfl,h2,h⟩:=(zag h)
 obtain⟨u3,us,rfl,h3,h⟩:=(zag h)
 obtain⟨u4,us,rfl,h4,h⟩:=(zag h)
 obtain⟨u5,us,rfl,h5,h⟩:=(zag h)
 obtain⟨u6,us,rfl,h6,h⟩:=(zag h)
 obtain⟨u7,us,rfl,h7,h⟩:=(zag h)
 obtain⟨u8,us,rfl,h8,h⟩:=(zag h)
 obtain rfl:=zbA h
 exact⟨_,_,_,_,_,_,_,_,_,rfl,h0,h1,h2,h3,h4,h5,h6,h7,h8⟩
theorem zlF {w:World} {G:Nat→Prop} {us:List Value} {d0 d1 d2 d3 d4 d5 d6 d7 d8 d9:Dat} (h:zab w G us [d0,d1,d2,d3,d4,d5,d6,d7,d8,d9]): ∃u0 u1 u2 u3 u4 u5 u6 u7 u8 u9,us=[u0,u1,u2,u3,u4,u5,u6,u7,u8,u9]∧DAt w G u0 d0∧DAt w G u1 d1∧DAt w G u2 d2∧DAt w G u3 d3∧DAt w G u4 d4∧DAt w G u5 d5∧DAt w G u6 d6∧DAt w G u7 d7∧DAt w G u8 d8∧DAt w G u9 d9:=by
 obtain⟨u0,us,rfl,h0,h⟩:=(zag h)
 obtain⟨u1,us,rfl,h1,h⟩:=(zag h)
 obtain⟨u2,us,rfl,h2,h⟩:=(zag h)
 obtain⟨u3,us,rfl,h3,h⟩:=(zag h)
 obtain⟨u4,us,rfl,h4,h⟩:=(zag h)
 obtain⟨u5,us,rfl,h5,h⟩:=(zag h)
 obtain⟨u6,us,rfl,h6,h⟩:=(zag h)
 obtain⟨u7,us,rfl,h7,h⟩:=(zag h)
 obtain⟨u8,us,rfl,h8,h⟩:=(zag h)
 obtain⟨u9,us,rfl,h9,h⟩:=(zag h)
 obtain rfl:=zbA h
 exact⟨_,_,_,_,_,_,_,_,_,_,rfl,h0,h1,h2,h3,h4,h5,h6,h7,h8,h9⟩
theorem DAt.block {w:World} {b:Nat} {cs:Array Value} {t:TypeId} {fr:Nat×Nat} {size n c:Nat} {es:List (List Dat)} {G:Nat→Prop} (h:w.heap[b]? =some (.cells cs t fr)) (hn:es.length=n) (hw: ∀e∈es,e.length=size) (hc:zab w G cs.toList es.flatten) (hG:G b) (hcap:n≤c:=by omega):DAt w G (.slice (some ⟨b,0,none⟩) n c) (.row size es):=by
 have hv: ∃val:Nat→Nat→Value,∀i j e d,es[i]? =some e→e[j]? =some d→w.cell? ⟨b,0+i*size+j,none⟩=some (val i j)∧DAt w G (val i j) d:=by
  refine⟨fun i j=>(cs[i*size+j]?).getD (.bool false),fun i j e d he hd=> ?_⟩
  have hj:j<size:=by rw[←hw e (List.mem_of_getElem? he)];exact(List.getElem?_eq_some_iff.1 hd).1
  have hf:=zei es hw i j e he hj
  rw[hd] at hf
  have hlt:=(List.getElem?_eq_some_iff.1 hf).1
  have hcl:i*size+j<cs.size:=by rw[←Array.length_toList,hc.1];exact hlt
  have hcell:=cell_of_row w b (i*size+j) _ _ _ h
  have hg:(cs[i*size+j]?).getD (.bool false)=cs[i*size+j]:=by rw[Array.getElem?_eq_getElem hcl];rfl
  show w.cell? ⟨b,0+i*size+j,none⟩=some ((cs[i*size+j]?).getD (.bool false))∧DAt w G ((cs[i*size+j]?).getD (.bool false)) d
  rw[hg,Nat.zero_add,hcell,Array.getElem?_eq_getElem hcl]
  exact⟨rfl,hc.2 _ _ d (by rw[Array.getElem?_toList,Array.getElem?_eq_getElem hcl]) hf⟩
 obtain⟨val,hval⟩:=hv
 exact .row b 0 c size n es val hn hG (zaJ h) (fun i j e d he hd=>(hval i j e d he hd).1) (fun i j e d he hd=>(hval i j e d he hd).2) hcap
theorem zcB {w:World} {G:Nat→Prop} (l:List Value):zab w G l (l.map Dat.leaf):=⟨by simp,fun j u d hu hd=>by
 rw[List.getElem?_map,hu] at hd
 injection hd with hd
 subst hd
 exact .leaf u⟩
theorem zeC {α:Type} (f:α→Value) (l:List α):(l.map fun s=>[Dat.leaf (f s)]).flatten=(l.map f).map Dat.leaf:=by
 induction l with
 |nil=>rfl
 |cons a l ih=>simp only[List.map_cons,List.flatten_cons,ih];rfl
theorem zju {α:Type} (f:α→Value) (w:World) (l:List α) (T:TypeId):DAt (w.alloc (.cells (l.map f).toArray T)) (fun _=>True) (.slice (some ⟨w.heap.size,0,none⟩) l.length l.length) (.row 1 (l.map fun s=>[Dat.leaf (f s)])):=
 DAt.block (heap_alloc_new w _) (by simp) (fun e he=>by obtain⟨_,_,rfl⟩:=List.mem_map.1 he;rfl) (by rw[zeC];exact zcB _) trivial
theorem zfF (w:World) (l:List (List UInt8)) (T:TypeId):DAt (w.alloc (.cells (l.map fun s=>Value.string ⟨s.toArray⟩).toArray T)) (fun _=>True) (.slice (some ⟨w.heap.size,0,none⟩) l.length l.length) (.row 1 (zao l)):=zju _ w l T
theorem zb4 (w:World) (l:List Int) (T:TypeId):DAt (w.alloc (.cells (l.map fun n=>Value.int .i64 n).toArray T)) (fun _=>True) (.slice (some ⟨w.heap.size,0,none⟩) l.length l.length) (.row 1 (zah l)):=zju _ w l T
def zkI (x:zb2):Bool:=[x.m,x.p,x.o].all zbC
theorem znZ (x:zb2) (us:List Value) (W:World) (hE:Hid (Env W)) (hd:Hid (zab W (fun _=>True) us x.cells)):
 Calls Tryz.prog 228 #[.agg us.toArray] W fun e w'=>e= .returned (.bool (zkI x))∧Below W.heap.size W w':=by
 have hd:=hd.out
 obtain⟨u0,u1,u2,rfl,h0,h1,h2⟩:=dc3 hd
 obtain rfl:=h0.leaf_eq
 obtain rfl:=h1.leaf_eq
 obtain rfl:=h2.leaf_eq
 clear hd h0 h1 h2
 simp only[zaF]
 have HB:=zaa (((Below.refl W.heap.size W).alloc (Nat.le_refl _) (.cells #[.string ⟨x.m.toArray⟩,.string ⟨x.p.toArray⟩,.string ⟨x.o.toArray⟩] 55)).alloc (by simp) (.cells #[.string ⟨x.m.toArray⟩,.string ⟨x.p.toArray⟩,.string ⟨x.o.toArray⟩] 9))
 have HW:=zaa (zdS (.slice (some ⟨W.heap.size+1,0,none⟩) 3 3) [x.m,x.p,x.o] ((W.alloc (.cells #[.string ⟨x.m.toArray⟩,.string ⟨x.p.toArray⟩,.string ⟨x.o.toArray⟩] 55)).alloc (.cells #[.string ⟨x.m.toArray⟩,.string ⟨x.p.toArray⟩,.string ⟨x.o.toArray⟩] 9))
  (zaa (by have h:=zfF (W.alloc (.cells #[.string ⟨x.m.toArray⟩,.string ⟨x.p.toArray⟩,.string ⟨x.o.toArray⟩] 55)) [x.m,x.p,x.o] 9;rw[World.size_alloc] at h;exact h)) (by simp) (zaa (hE.out.kept HB.out)))
 generalize hz:[x.m,x.p,x.o].all zbC=z at HW
 have HF:=zaa (show zkI x=z from hz)
 clear hz
 go_enter Tryz.func228,Tryz.ntmps228
 go_wp2_with fail
 refine HW.out.mono ?_
 rintro e w1 ⟨rfl,hb⟩
 have HB2:=zaa (btZ HB.out hb)
 clear hb HW
 go_wp2_with fail
 go_ret
 exact⟨by rw[HF.out];rfl,HB2.out⟩
def zh7 (r:zb2) (l:List zb2):Bool:=zkI r&&(decide (0<l.length)&&l.all zkI)
theorem zhs (r:zb2) (v:Value) (l:List zb2) (W:World) (hE:Hid (Env W)) (hv:Hid (DAt W (fun _=>True) v (.row 3 (l.map zb2.cells)))) (hl:l.length≤140737488355328):
 Calls Tryz.prog 167 #[.agg #[.string ⟨r.m.toArray⟩,.string ⟨r.p.toArray⟩,.string ⟨r.o.toArray⟩],v] W fun e w'=>e= .returned (.bool (zh7 r l))∧Below W.heap.size W w':=by
 obtain⟨A,q,rfl, -⟩:=hv.out.slice
 rw[List.length_map] at *
 have HB:=zaa ((Below.refl W.heap.size W).alloc (Nat.le_refl _) (.cells #[.string ⟨r.m.toArray⟩,.string ⟨r.p.toArray⟩,.string ⟨r.o.toArray⟩] 55))
 have HD: ∀w:World,zab w (fun _=>True) [.string ⟨r.m.toArray⟩,.string ⟨r.p.toArray⟩,.string ⟨r.o.toArray⟩] r.cells:=fun w=>zab.cons (.leaf _) (zab.cons (.leaf _) (zab.cons (.leaf _) .nil))
 have HR:=zaa (znZ r [.string ⟨r.m.toArray⟩,.string ⟨r.p.toArray⟩,.string ⟨r.o.toArray⟩] _ (zaa (hE.out.kept HB.out)) (zaa (HD _)))
 have HA:=zaa (fun w1 (hb:Below W.heap.size W w1)=>zlS (.slice A l.length q) l zkI w1 (zaa (hv.out.later hb)) hl (zaa (fun y hy us w' hb' hd=>znZ y us w' (zaa (hE.out.kept (hb.trans (hb'.mono hb.size)))) (zaa hd))))
 have HF:=zaa (show zh7 r l=(zkI r&&(decide (0<l.length)&&l.all zkI)) from rfl)
 clear hv HD
 generalize zkI r=z0 at HR HF
 generalize l.all zkI=z1 at HA HF
 by_cases h0:0<l.length
 ·have g0:(0:Int)<(l.length:Int):=by omega
  rw[show decide (0<l.length)=true by simpa using h0] at HF
  cases z0 with
  |false=>
   go_enter Tryz.func167,Tryz.ntmps167
   go_wp2_with fail
   refine HR.out.mono ?_
   rintro e w1 ⟨rfl,hb⟩
   have HB2:=zaa (btZ HB.out hb)
   clear hb HR HA
   go_wp2_with fail
   go_ret
   exact⟨by rw[HF.out];rfl,HB2.out⟩
  |true=>
   go_enter Tryz.func167,Tryz.ntmps167
   go_wp2_with fail
   refine HR.out.mono ?_
   rintro e w1 ⟨rfl,hb⟩
   have HB2:=zaa (btZ HB.out hb)
   clear hb HR
   go_wp2_with fail
   refine(HA.out _ HB2.out).mono ?_
   rintro e w2 ⟨rfl,hb⟩
   have HB3:=zaa (btZ HB2.out hb)
   clear hb HA
   go_wp2_with fail
   go_ret
   exact⟨by rw[HF.out];rfl,HB3.out⟩
 ·have g0: ¬(0:Int)<(l.length:Int):=by omega
  rw[show decide (0<l.length)=false by simpa using h0] at HF
  clear HA
  cases z0<;>
  ·go_enter Tryz.func167,Tryz.ntmps167
   go_wp2_with fail
   refine HR.out.mono ?_
   rintro e w1 ⟨rfl,hb⟩
   have HB2:=zaa (btZ HB.out hb)
   clear hb HR
   go_wp2_with fail
   go_ret
   exact⟨by rw[HF.out];rfl,HB2.out⟩
end Go.Proofs.YtgbfaompondolaaGreatDoor
namespace Go.Proofs.YtgbfaompondolaaGreatDoor
open Go.RowKit
attribute [local go_sem] zal.cell
def zjO (x:zck):Bool:=zbC x.unit&&([x.code].all zbQ)
theorem zoH (x:zck) (us:List Value) (W:World) (hE:Hid (Env W)) (hd:Hid (zab W (fun _=>True) us x.cells)):
 Calls Tryz.prog 181 #[.agg us.toArray] W fun e w'=>e= .returned (.bool (zjO x))∧Below W.heap.size W w':=by
 have hd:=hd.out
 obtain⟨u0,u1,rfl,h0,h1⟩:=dc2 hd
 obtain rfl:=h0.leaf_eq
 obtain rfl:=h1.leaf_eq
 clear hd h0 h1
 simp only[zaF]
 have HX:=zaa (heap_alloc_new W (.cells #[.string ⟨x.unit.toArray⟩,.int .i64 x.code] 67))
 have HB:=zaa ((Below.refl W.heap.size W).alloc (Nat.le_refl _) (.cells #[.string ⟨x.unit.toArray⟩,.int .i64 x.code] 67))
 go_enter Tryz.func181,Tryz.ntmps181
 go_wp2_with fail
 generalize W.alloc _=w0 at *
 have HC:=zaa (zbT ⟨x.unit.toArray⟩ w0 (zaa (hE.out.kept HB.out)))
 simp only at HC
 generalize hb0:(zbC x.unit)=z0 at HC
 have HZ0:=zaa hb0
 clear hb0
 cases z0 with
 |false=>
  refine HC.out.mono ?_
  rintro e w1 ⟨rfl,hb⟩
  have HBn:=zaa (btZ HB.out hb)
  go_wp2_with fail
  go_ret
  exact⟨by unfold zjO;rw[HZ0.out];rfl,HBn.out⟩
 |true=>
  refine HC.out.mono ?_
  rintro e w1 ⟨rfl,hb⟩
  have HBn:=zaa (btZ HB.out hb)
  have HXn:=zaa (bkZ hb HX.out)
  clear HX HB HC hb
  have HX:=HXn
  have HB:=HBn
  clear HXn HBn
  have c0:=cell_of_row _ _ 0 _ _ _ HX.out
  have c1:=cell_of_row _ _ 1 _ _ _ HX.out
  go_wp2_with fail
  clear c0 c1
  have HBa:=zaa (HB.out.alloc HB.out.size (.cells #[.int .i64 x.code] 3))
  have HC:=zaa (zbN (.slice (some ⟨w1.heap.size,0,none⟩) 1 1) [x.code] (w1.alloc (.cells #[.int .i64 x.code] 3)) (zaa (zb4 w1 [x.code] 3)) (by simp))
  generalize hb1:([x.code].all zbQ)=z1 at HC
  have HZ1:=zaa hb1
  clear hb1
  refine HC.out.mono ?_
  rintro e w2 ⟨rfl,hb⟩
  have HBn:=zaa (btZ HBa.out hb)
  go_wp2_with fail
  go_ret
  exact⟨by unfold zjO;rw[HZ0.out,HZ1.out];rfl,HBn.out⟩
def zij (x:zc7):Bool:=[x.a,x.b].all zbC&&([x.va,x.vb].all zbQ)
theorem zoy (x:zc7) (us:List Value) (W:World) (hE:Hid (Env W)) (hd:Hid (zab W (fun _=>True) us x.cells)):
 Calls Tryz.prog 101 #[.agg us.toArray] W fun e w'=>e= .returned (.bool (zij x))∧Below W.heap.size W w':=by
 have hd:=hd.out
 obtain⟨u0,u1,u2,u3,rfl,h0,h1,h2,h3⟩:=dc4 hd
 obtain rfl:=h0.leaf_eq
 obtain rfl:=h1.leaf_eq
 obtain rfl:=h2.leaf_eq
 obtain rfl:=h3.leaf_eq
 clear hd h0 h1 h2 h3
 simp only[zaF]
 have HX:=zaa (heap_alloc_new W (.cells #[.string ⟨x.a.toArray⟩,.int .i64 x.va,.string ⟨x.b.toArray⟩,.int .i64 x.vb] 75))
 have HB:=zaa ((Below.refl W.heap.size W).alloc (Nat.le_refl _) (.cells #[.string ⟨x.a.toArray⟩,.int .i64 x.va,.string ⟨x.b.toArray⟩,.int .i64 x.vb] 75))
 go_enter Tryz.func101,Tryz.ntmps101
 go_wp2_with fail
 have hzw:(W.alloc (.cells #[.string ⟨x.a.toArray⟩,.int .i64 x.va,.string ⟨x.b.toArray⟩,.int .i64 x.vb] 75)).heap.size=W.heap.size+1:=by simp
 generalize W.alloc _=w0 at *
 have HBa:=zaa (HB.out.alloc HB.out.size (.cells #[.string ⟨x.a.toArray⟩,.string ⟨x.b.toArray⟩] 9))
 have HC:=zaa (zdS (.slice (some ⟨w0.heap.size,0,none⟩) 2 2) [x.a,x.b] (w0.alloc (.cells #[.string ⟨x.a.toArray⟩,.string ⟨x.b.toArray⟩] 9)) (zaa (zfF w0 [x.a,x.b] 9)) (by simp) (zaa (hE.out.kept HBa.out)))
 rw[hzw] at HC
 clear hzw
 generalize hb0:([x.a,x.b].all zbC)=z0 at HC
 have HZ0:=zaa hb0
 clear hb0
 cases z0 with
 |false=>
  refine HC.out.mono ?_
  rintro e w1 ⟨rfl,hb⟩
  have HBn:=zaa (btZ HBa.out hb)
  go_wp2_with fail
  go_ret
  exact⟨by unfold zij;rw[HZ0.out];rfl,HBn.out⟩
 |true=>
  refine HC.out.mono ?_
  rintro e w1 ⟨rfl,hb⟩
  have HBn:=zaa (btZ HBa.out hb)
  have HXn:=zaa ((hb.block _ (by have:=(zaJ HX.out);simp;omega)).trans ((Below.heap_alloc _ _ _ (zaJ HX.out)).trans HX.out))
  clear HX HB HC hb HBa
  have HX:=HXn
  have HB:=HBn
  clear HXn HBn
  have c0:=cell_of_row _ _ 0 _ _ _ HX.out
  have c1:=cell_of_row _ _ 1 _ _ _ HX.out
  have c2:=cell_of_row _ _ 2 _ _ _ HX.out
  have c3:=cell_of_row _ _ 3 _ _ _ HX.out
  go_wp2_with fail
  clear c0 c1 c2 c3
  have HBa:=zaa (HB.out.alloc HB.out.size (.cells #[.int .i64 x.va,.int .i64 x.vb] 3))
  have HC:=zaa (zbN (.slice (some ⟨w1.heap.size,0,none⟩) 2 2) [x.va,x.vb] (w1.alloc (.cells #[.int .i64 x.va,.int .i64 x.vb] 3)) (zaa (zb4 w1 [x.va,x.vb] 3)) (by simp))
  generalize hb1:([x.va,x.vb].all zbQ)=z1 at HC
  have HZ1:=zaa hb1
  clear hb1
  refine HC.out.mono ?_
  rintro e w2 ⟨rfl,hb⟩
  have HBn:=zaa (btZ HBa.out hb)
  go_wp2_with fail
  go_ret
  exact⟨by unfold zij;rw[HZ0.out,HZ1.out];rfl,HBn.out⟩
def zgO (x:zbd):Bool:=zh7 x.from_ x.to
theorem zne (x:zbd) (us:List Value) (W:World) (hE:Hid (Env W)) (hd:Hid (zab W (fun _=>True) us x.cells)) (hl:x.to.length≤140737488355328):
 Calls Tryz.prog 89 #[.agg us.toArray] W fun e w'=>e= .returned (.bool (zgO x))∧Below W.heap.size W w':=by
 have hd:=hd.out
 obtain⟨u0,u1,u2,u3,rfl,h0,h1,h2,h3⟩:=dc4 hd
 obtain rfl:=h0.leaf_eq
 obtain rfl:=h1.leaf_eq
 obtain rfl:=h2.leaf_eq
 have H3:=zaa h3
 obtain⟨A3,q3,rfl, -⟩:=h3.slice
 simp only[List.length_map] at H3 ⊢
 clear hd h0 h1 h2 h3
 simp only[zaF]
 have HX:=zaa (heap_alloc_new W (.cells #[.string ⟨x.from_.m.toArray⟩,.string ⟨x.from_.p.toArray⟩,.string ⟨x.from_.o.toArray⟩,.slice A3 x.to.length q3] 58))
 have HB:=zaa ((Below.refl W.heap.size W).alloc (Nat.le_refl _) (.cells #[.string ⟨x.from_.m.toArray⟩,.string ⟨x.from_.p.toArray⟩,.string ⟨x.from_.o.toArray⟩,.slice A3 x.to.length q3] 58))
 go_enter Tryz.func89,Tryz.ntmps89
 go_wp2_with fail
 generalize W.alloc _=w0 at *
 have HC:=zaa (zhs x.from_ _ x.to w0 (zaa (hE.out.kept HB.out)) (zaa (H3.out.later HB.out)) hl)
 generalize hb0:(zh7 x.from_ x.to)=z0 at HC
 have HZ0:=zaa hb0
 clear hb0
 refine HC.out.mono ?_
 rintro e w1 ⟨rfl,hb⟩
 have HBn:=zaa (btZ HB.out hb)
 go_wp2_with fail
 go_ret
 exact⟨by unfold zgO;rw[HZ0.out];rfl,HBn.out⟩
def vlF (x:VlD):Bool:=zbC x.name&&(zh7 x.from_ x.to&&([x.bag,x.max].all zbQ))
theorem f_vl (x:VlD) (us:List Value) (W:World) (hE:Hid (Env W)) (hd:Hid (zab W (fun _=>True) us x.cells)) (hl:x.to.length≤140737488355328):
 Calls Tryz.prog 95 #[.agg us.toArray] W fun e w'=>e= .returned (.bool (vlF x))∧Below W.heap.size W w':=by
 have hd:=hd.out
 obtain⟨u0,u1,u2,u3,u4,u5,u6,rfl,h0,h1,h2,h3,h4,h5,h6⟩:=dc7 hd
 obtain rfl:=h0.leaf_eq
 obtain rfl:=h1.leaf_eq
 obtain rfl:=h2.leaf_eq
 obtain rfl:=h3.leaf_eq
 obtain rfl:=h4.leaf_eq
 obtain rfl:=h5.leaf_eq
 have H6:=zaa h6
 obtain⟨A6,q6,rfl, -⟩:=h6.slice
 simp only[List.length_map] at H6 ⊢
 clear hd h0 h1 h2 h3 h4 h5 h6
 simp only[zaF]
 have HX:=zaa (heap_alloc_new W (.cells #[.string ⟨x.name.toArray⟩,.string ⟨x.from_.m.toArray⟩,.string ⟨x.from_.p.toArray⟩,.string ⟨x.from_.o.toArray⟩,.int .i64 x.bag,.int .i64 x.max,.slice A6 x.to.length q6] 61))
 have HB:=zaa ((Below.refl W.heap.size W).alloc (Nat.le_refl _) (.cells #[.string ⟨x.name.toArray⟩,.string ⟨x.from_.m.toArray⟩,.string ⟨x.from_.p.toArray⟩,.string ⟨x.from_.o.toArray⟩,.int .i64 x.bag,.int .i64 x.max,.slice A6 x.to.length q6] 61))
 go_enter Tryz.func95,Tryz.ntmps95
 go_wp2_with fail
 generalize W.alloc _=w0 at *
 have HC:=zaa (zbT ⟨x.name.toArray⟩ w0 (zaa (hE.out.kept HB.out)))
 simp only at HC
 generalize hb0:(zbC x.name)=z0 at HC
 have HZ0:=zaa hb0
 clear hb0
 cases z0 with
 |false=>
  refine HC.out.mono ?_
  rintro e w1 ⟨rfl,hb⟩
  have HBn:=zaa (btZ HB.out hb)
  go_wp2_with fail
  go_ret
  exact⟨by unfold vlF;rw[HZ0.out];rfl,HBn.out⟩
 |true=>
  refine HC.out.mono ?_
  rintro e w1 ⟨rfl,hb⟩
  have HBn:=zaa (btZ HB.out hb)
  have HXn:=zaa (bkZ hb HX.out)
  clear HX HB HC hb
  have HX:=HXn
  have HB:=HBn
  clear HXn HBn
  have c0:=cell_of_row _ _ 0 _ _ _ HX.out
  have c1:=cell_of_row _ _ 1 _ _ _ HX.out
  have c2:=cell_of_row _ _ 2 _ _ _ HX.out
  have c3:=cell_of_row _ _ 3 _ _ _ HX.out
  have c4:=cell_of_row _ _ 4 _ _ _ HX.out
  have c5:=cell_of_row _ _ 5 _ _ _ HX.out
  have c6:=cell_of_row _ _ 6 _ _ _ HX.out
  go_wp2_with fail
  clear c0 c1 c2 c3 c4 c5 c6
  have HC:=zaa (zhs x.from_ _ x.to w1 (zaa (hE.out.kept HB.out)) (zaa (H6.out.later HB.out)) hl)
  generalize hb1:(zh7 x.from_ x.to)=z1 at HC
  have HZ1:=zaa hb1
  clear hb1
  cases z1 with
  |false=>
   refine HC.out.mono ?_
   rintro e w2 ⟨rfl,hb⟩
   have HBn:=zaa (btZ HB.out hb)
   go_wp2_with fail
   go_ret
   exact⟨by unfold vlF;rw[HZ0.out,HZ1.out];rfl,HBn.out⟩
  |true=>
   refine HC.out.mono ?_
   rintro e w2 ⟨rfl,hb⟩
   have HBn:=zaa (btZ HB.out hb)
   have HXn:=zaa (bkZ hb HX.out)
   clear HX HB HC hb
   have HX:=HXn
   have HB:=HBn
   clear HXn HBn
   have c0:=cell_of_row _ _ 0 _ _ _ HX.out
   have c1:=cell_of_row _ _ 1 _ _ _ HX.out
   have c2:=cell_of_row _ _ 2 _ _ _ HX.out
   have c3:=cell_of_row _ _ 3 _ _ _ HX.out
   have c4:=cell_of_row _ _ 4 _ _ _ HX.out
   have c5:=cell_of_row _ _ 5 _ _ _ HX.out
   have c6:=cell_of_row _ _ 6 _ _ _ HX.out
   go_wp2_with fail
   clear c0 c1 c2 c3 c4 c5 c6
   have HBa:=zaa (HB.out.alloc HB.out.size (.cells #[.int .i64 x.bag,.int .i64 x.max] 3))
   have HC:=zaa (zbN (.slice (some ⟨w2.heap.size,0,none⟩) 2 2) [x.bag,x.max] (w2.alloc (.cells #[.int .i64 x.bag,.int .i64 x.max] 3)) (zaa (zb4 w2 [x.bag,x.max] 3)) (by simp))
   generalize hb2:([x.bag,x.max].all zbQ)=z2 at HC
   have HZ2:=zaa hb2
   clear hb2
   refine HC.out.mono ?_
   rintro e w3 ⟨rfl,hb⟩
   have HBn:=zaa (btZ HBa.out hb)
   go_wp2_with fail
   go_ret
   exact⟨by unfold vlF;rw[HZ0.out,HZ1.out,HZ2.out];rfl,HBn.out⟩
def zer (x:zaT):Bool:=(x.kind==1&&x.depth==0)||(x.kind==2&&x.refresh==0)
def zez (x:zaT):Bool:=zer x&&(zbC x.name&&[x.size,x.depth,x.refresh].all zbQ)
theorem znn (x:zaT) (us:List Value) (W:World) (hE:Hid (Env W)) (hd:Hid (zab W (fun _=>True) us x.cells)):
 Calls Tryz.prog 224 #[.agg us.toArray] W fun e w'=>e= .returned (.bool (zez x))∧Below W.heap.size W w':=by
 have hd:=hd.out
 obtain⟨u0,u1,u2,u3,u4,u5,rfl,h0,h1,h2,h3,h4,h5⟩:=dc6 hd
 obtain rfl:=h0.leaf_eq
 obtain rfl:=h1.leaf_eq
 obtain rfl:=h2.leaf_eq
 obtain rfl:=h3.leaf_eq
 obtain rfl:=h4.leaf_eq
 obtain rfl:=h5.leaf_eq
 clear hd h0 h1 h2 h3 h4 h5
 simp only[zaF]
 have HX:=zaa (heap_alloc_new W (.cells #[.string ⟨x.name.toArray⟩,.int .u8 (x.kind:Int),.bool x.out,.int .i64 x.size,.int .i64 x.depth,.int .i64 x.refresh] 51))
 have HB:=zaa ((Below.refl W.heap.size W).alloc (Nat.le_refl _) (.cells #[.string ⟨x.name.toArray⟩,.int .u8 (x.kind:Int),.bool x.out,.int .i64 x.size,.int .i64 x.depth,.int .i64 x.refresh] 51))
 have hw:(((x.kind:Int)==1)=true∧(x.depth==0)=true∧zer x=true∨((x.kind:Int)==1)=false∧((x.kind:Int)==2)=true∧(x.refresh==0)=true∧zer x=true)∨(((x.kind:Int)==1)=true∧(x.depth==0)=false∧((x.kind:Int)==2)=false∧zer x=false∨((x.kind:Int)==1)=false∧((x.kind:Int)==2)=true∧(x.refresh==0)=false∧zer x=false∨((x.kind:Int)==1)=false∧((x.kind:Int)==2)=false∧zer x=false):=by
  unfold zer
  rcases(by omega:x.kind=1∨x.kind=2∨x.kind≠1∧x.kind≠2) with h|h|⟨h,h'⟩
  ·rw[h];cases hd:x.depth==0<;>simp
  ·rw[h];cases hd:x.refresh==0<;>simp
  ·have a1:((x.kind:Int)==1)=false:=by simp;omega
   have a2:((x.kind:Int)==2)=false:=by simp;omega
   have a3:(x.kind==1)=false:=by simpa using h
   have a4:(x.kind==2)=false:=by simpa using h'
   simp[a1,a2,a3,a4]
 rcases hw with(⟨k1,k2,k3⟩|⟨k1,k2,k4,k3⟩)|⟨k1,k2,k4,k3⟩|⟨k1,k2,k4,k3⟩|⟨k1,k2,k3⟩
 ·have HKD:=zaa k3
  clear k3
  go_enter Tryz.func224,Tryz.ntmps224
  go_wp2_with fail
  generalize W.alloc _=w0 at *
  have HC:=zaa (zbT ⟨x.name.toArray⟩ w0 (zaa (hE.out.kept HB.out)))
  simp only at HC
  generalize hb0:(zbC x.name)=z0 at HC
  have HZ0:=zaa hb0
  clear hb0
  cases z0 with
  |false=>
   refine HC.out.mono ?_
   rintro e w1 ⟨rfl,hb⟩
   have HBn:=zaa (btZ HB.out hb)
   go_wp2_with fail
   go_ret
   exact⟨by unfold zez;rw[HKD.out,HZ0.out];rfl,HBn.out⟩
  |true=>
   refine HC.out.mono ?_
   rintro e w1 ⟨rfl,hb⟩
   have HBn:=zaa (btZ HB.out hb)
   have HXn:=zaa (bkZ hb HX.out)
   clear HX HB HC hb
   have HX:=HXn
   have HB:=HBn
   clear HXn HBn
   have c0:=cell_of_row _ _ 0 _ _ _ HX.out
   have c1:=cell_of_row _ _ 1 _ _ _ HX.out
   have c2:=cell_of_row _ _ 2 _ _ _ HX.out
   have c3:=cell_of_row _ _ 3 _ _ _ HX.out
   have c4:=cell_of_row _ _ 4 _ _ _ HX.out
   have c5:=cell_of_row _ _ 5 _ _ _ HX.out
   go_wp2_with fail
   clear c0 c1 c2 c3 c4 c5
   have HBa:=zaa (HB.out.alloc HB.out.size (.cells #[.int .i64 x.size,.int .i64 x.depth,.int .i64 x.refresh] 3))
   have HC:=zaa (zbN (.slice (some ⟨w1.heap.size,0,none⟩) 3 3) [x.size,x.depth,x.refresh] (w1.alloc (.cells #[.int .i64 x.size,.int .i64 x.depth,.int .i64 x.refresh] 3)) (zaa (zb4 w1 [x.size,x.depth,x.refresh] 3)) (by simp))
   generalize hb1:([x.size,x.depth,x.refresh].all zbQ)=z1 at HC
   have HZ1:=zaa hb1
   clear hb1
   refine HC.out.mono ?_
   rintro e w2 ⟨rfl,hb⟩
   have HBn:=zaa (btZ HBa.out hb)
   go_wp2_with fail
   go_ret
   exact⟨by unfold zez;rw[HKD.out,HZ0.out,HZ1.out];rfl,HBn.out⟩
 ·have HKD:=zaa k3
  clear k3
  go_enter Tryz.func224,Tryz.ntmps224
  go_wp2_with fail
  generalize W.alloc _=w0 at *
  have HC:=zaa (zbT ⟨x.name.toArray⟩ w0 (zaa (hE.out.kept HB.out)))
  simp only at HC
  generalize hb0:(zbC x.name)=z0 at HC
  have HZ0:=zaa hb0
  clear hb0
  cases z0 with
  |false=>
   refine HC.out.mono ?_
   rintro e w1 ⟨rfl,hb⟩
   have HBn:=zaa (btZ HB.out hb)
   go_wp2_with fail
   go_ret
   exact⟨by unfold zez;rw[HKD.out,HZ0.out];rfl,HBn.out⟩
  |true=>
   refine HC.out.mono ?_
   rintro e w1 ⟨rfl,hb⟩
   have HBn:=zaa (btZ HB.out hb)
   have HXn:=zaa (bkZ hb HX.out)
   clear HX HB HC hb
   have HX:=HXn
   have HB:=HBn
   clear HXn HBn
   have c0:=cell_of_row _ _ 0 _ _ _ HX.out
   have c1:=cell_of_row _ _ 1 _ _ _ HX.out
   have c2:=cell_of_row _ _ 2 _ _ _ HX.out
   have c3:=cell_of_row _ _ 3 _ _ _ HX.out
   have c4:=cell_of_row _ _ 4 _ _ _ HX.out
   have c5:=cell_of_row _ _ 5 _ _ _ HX.out
   go_wp2_with fail
   clear c0 c1 c2 c3 c4 c5
   have HBa:=zaa (HB.out.alloc HB.out.size (.cells #[.int .i64 x.size,.int .i64 x.depth,.int .i64 x.refresh] 3))
   have HC:=zaa (zbN (.slice (some ⟨w1.heap.size,0,none⟩) 3 3) [x.size,x.depth,x.refresh] (w1.alloc (.cells #[.int .i64 x.size,.int .i64 x.depth,.int .i64 x.refresh] 3)) (zaa (zb4 w1 [x.size,x.depth,x.refresh] 3)) (by simp))
   generalize hb1:([x.size,x.depth,x.refresh].all zbQ)=z1 at HC
   have HZ1:=zaa hb1
   clear hb1
   refine HC.out.mono ?_
   rintro e w2 ⟨rfl,hb⟩
   have HBn:=zaa (btZ HBa.out hb)
   go_wp2_with fail
   go_ret
   exact⟨by unfold zez;rw[HKD.out,HZ0.out,HZ1.out];rfl,HBn.out⟩
 all_goals
  go_enter Tryz.func224,Tryz.ntmps224
  go_wp2_with fail
  go_ret
  exact⟨by unfold zez;rw[k3];rfl,HB.out⟩
def swF (x:SwD):Bool:=zbC x.name&&((x.net/2==0)&&([x.delay,x.store].all zbQ))
theorem f_sw (x:SwD) (us:List Value) (W:World) (hE:Hid (Env W)) (hd:Hid (zab W (fun _=>True) us x.cells)):
 Calls Tryz.prog 91 #[.agg us.toArray] W fun e w'=>e= .returned (.bool (swF x))∧Below W.heap.size W w':=by
 have hd:=hd.out
 obtain⟨u0,u1,u2,u3,rfl,h0,h1,h2,h3⟩:=dc4 hd
 obtain rfl:=h0.leaf_eq
 obtain rfl:=h1.leaf_eq
 obtain rfl:=h2.leaf_eq
 obtain rfl:=h3.leaf_eq
 clear hd h0 h1 h2 h3
 simp only[zaF]
 have HX:=zaa (heap_alloc_new W (.cells #[.string ⟨x.name.toArray⟩,.int .i64 x.net,.int .i64 x.delay,.int .i64 x.store] 69))
 have HB:=zaa ((Below.refl W.heap.size W).alloc (Nat.le_refl _) (.cells #[.string ⟨x.name.toArray⟩,.int .i64 x.net,.int .i64 x.delay,.int .i64 x.store] 69))
 go_enter Tryz.func91,Tryz.ntmps91
 go_wp2_with fail
 generalize W.alloc _=w0 at *
 have HC:=zaa (zbT ⟨x.name.toArray⟩ w0 (zaa (hE.out.kept HB.out)))
 simp only at HC
 generalize hb0:(zbC x.name)=z0 at HC
 have HZ0:=zaa hb0
 clear hb0
 cases z0 with
 |false=>
  refine HC.out.mono ?_
  rintro e w1 ⟨rfl,hb⟩
  have HBn:=zaa (btZ HB.out hb)
  go_wp2_with fail
  go_ret
  exact⟨by unfold swF;rw[HZ0.out];rfl,HBn.out⟩
 |true=>
  refine HC.out.mono ?_
  rintro e w1 ⟨rfl,hb⟩
  have HBn:=zaa (btZ HB.out hb)
  have HXn:=zaa (bkZ hb HX.out)
  clear HX HB HC hb
  have HX:=HXn
  have HB:=HBn
  clear HXn HBn
  have c0:=cell_of_row _ _ 0 _ _ _ HX.out
  have c1:=cell_of_row _ _ 1 _ _ _ HX.out
  have c2:=cell_of_row _ _ 2 _ _ _ HX.out
  have c3:=cell_of_row _ _ 3 _ _ _ HX.out
  cases hn:(x.net/2==0) with
  |false=>
   go_wp2_with fail
   go_ret
   exact⟨by unfold swF;rw[HZ0.out,hn];rfl,HB.out⟩
  |true=>
   have HZ1:=zaa hn
   go_wp2_with fail
   clear c0 c1 c2 c3 hn
   have HBa:=zaa (HB.out.alloc HB.out.size (.cells #[.int .i64 x.delay,.int .i64 x.store] 3))
   have HC:=zaa (zbN (.slice (some ⟨w1.heap.size,0,none⟩) 2 2) [x.delay,x.store] (w1.alloc (.cells #[.int .i64 x.delay,.int .i64 x.store] 3)) (zaa (zb4 w1 [x.delay,x.store] 3)) (by simp))
   generalize hb2:([x.delay,x.store].all zbQ)=z2 at HC
   have HZ2:=zaa hb2
   clear hb2
   refine HC.out.mono ?_
   rintro e w3 ⟨rfl,hb⟩
   have HBn:=zaa (btZ HBa.out hb)
   go_wp2_with fail
   go_ret
   exact⟨by unfold swF;rw[HZ0.out,HZ1.out,HZ2.out];rfl,HBn.out⟩
def zeA (x:zbw):Bool:=[x.a,x.b].all zbC&&((x.net/2==0)&&([x.slow].all zbQ))
theorem zno (x:zbw) (us:List Value) (W:World) (hE:Hid (Env W)) (hd:Hid (zab W (fun _=>True) us x.cells)):
 Calls Tryz.prog 93 #[.agg us.toArray] W fun e w'=>e= .returned (.bool (zeA x))∧Below W.heap.size W w':=by
 have hd:=hd.out
 obtain⟨u0,u1,u2,u3,rfl,h0,h1,h2,h3⟩:=dc4 hd
 obtain rfl:=h0.leaf_eq
 obtain rfl:=h1.leaf_eq
 obtain rfl:=h2.leaf_eq
 obtain rfl:=h3.leaf_eq
 clear hd h0 h1 h2 h3
 simp only[zaF]
 have HX:=zaa (heap_alloc_new W (.cells #[.string ⟨x.a.toArray⟩,.string ⟨x.b.toArray⟩,.int .i64 x.net,.int .i64 x.slow] 71))
 have HB:=zaa ((Below.refl W.heap.size W).alloc (Nat.le_refl _) (.cells #[.string ⟨x.a.toArray⟩,.string ⟨x.b.toArray⟩,.int .i64 x.net,.int .i64 x.slow] 71))
 go_enter Tryz.func93,Tryz.ntmps93
 go_wp2_with fail
 have hzw:(W.alloc (.cells #[.string ⟨x.a.toArray⟩,.string ⟨x.b.toArray⟩,.int .i64 x.net,.int .i64 x.slow] 71)).heap.size=W.heap.size+1:=by simp
 generalize W.alloc _=w0 at *
 have HBa:=zaa (HB.out.alloc HB.out.size (.cells #[.string ⟨x.a.toArray⟩,.string ⟨x.b.toArray⟩] 9))
 have HC:=zaa (zdS (.slice (some ⟨w0.heap.size,0,none⟩) 2 2) [x.a,x.b] (w0.alloc (.cells #[.string ⟨x.a.toArray⟩,.string ⟨x.b.toArray⟩] 9)) (zaa (zfF w0 [x.a,x.b] 9)) (by simp) (zaa (hE.out.kept HBa.out)))
 rw[hzw] at HC
 clear hzw
 generalize hb0:([x.a,x.b].all zbC)=z0 at HC
 have HZ0:=zaa hb0
 clear hb0
 cases z0 with
 |false=>
  refine HC.out.mono ?_
  rintro e w1 ⟨rfl,hb⟩
  have HBn:=zaa (btZ HBa.out hb)
  go_wp2_with fail
  go_ret
  exact⟨by unfold zeA;rw[HZ0.out];rfl,HBn.out⟩
 |true=>
  refine HC.out.mono ?_
  rintro e w1 ⟨rfl,hb⟩
  have HBn:=zaa (btZ HBa.out hb)
  have HXn:=zaa ((hb.block _ (by have:=(zaJ HX.out);simp;omega)).trans ((Below.heap_alloc _ _ _ (zaJ HX.out)).trans HX.out))
  clear HX HB HC hb HBa
  have HX:=HXn
  have HB:=HBn
  clear HXn HBn
  have c0:=cell_of_row _ _ 0 _ _ _ HX.out
  have c1:=cell_of_row _ _ 1 _ _ _ HX.out
  have c2:=cell_of_row _ _ 2 _ _ _ HX.out
  have c3:=cell_of_row _ _ 3 _ _ _ HX.out
  cases hn:(x.net/2==0) with
  |false=>
   go_wp2_with fail
   go_ret
   exact⟨by unfold zeA;rw[HZ0.out,hn];rfl,HB.out⟩
  |true=>
   have HZ1:=zaa hn
   go_wp2_with fail
   clear c0 c1 c2 c3 hn
   have HBa:=zaa (HB.out.alloc HB.out.size (.cells #[.int .i64 x.slow] 3))
   have HC:=zaa (zbN (.slice (some ⟨w1.heap.size,0,none⟩) 1 1) [x.slow] (w1.alloc (.cells #[.int .i64 x.slow] 3)) (zaa (zb4 w1 [x.slow] 3)) (by simp))
   generalize hb2:([x.slow].all zbQ)=z2 at HC
   have HZ2:=zaa hb2
   clear hb2
   refine HC.out.mono ?_
   rintro e w3 ⟨rfl,hb⟩
   have HBn:=zaa (btZ HBa.out hb)
   go_wp2_with fail
   go_ret
   exact⟨by unfold zeA;rw[HZ0.out,HZ1.out,HZ2.out];rfl,HBn.out⟩
end Go.Proofs.YtgbfaompondolaaGreatDoor
