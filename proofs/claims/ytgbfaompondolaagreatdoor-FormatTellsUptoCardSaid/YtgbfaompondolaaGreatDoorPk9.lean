/- Merged texts of the walks and of the plain laws on which the statement leans.-/
import Derived.Test.YtgbfaompondolaaGreatDoorPk5
import Derived.Test.YtgbfaompondolaaGreatDoorPk1
import Derived.Test.YtgbfaompondolaaGreatDoorShelfF
import Derived.Test.YtgbfaompondolaaGreatDoorPk7
set_option maxHeartbeats 4000000
set_option maxRecDepth 100000
namespace Go.Proofs.YtgbfaompondolaaGreatDoor
open Tryz
open Go.RowKit
attribute [local go_sem] zaj.cell
theorem gSp:prog.globalNamed "strings.asciiSpace" =some 0:=by kernel_rfl
structure zcT (w:World):Prop where
 sp:Lib.TabIs prog w "strings.asciiSpace" .u8 Lib.asciiSpaceTab
 mx: ∃m,w.cell? ⟨1,0,none⟩=some (.int .i64 m)
 big:2≤w.heap.size
theorem zcT.keptB {B:Nat} {w w':World} (h:zcT w) (hb:Below B w w') (hB:2≤B):zcT w':=by
 obtain⟨m,hm⟩:=h.mx;refine⟨?_,⟨m,(hb.cell (p:=⟨1,0,none⟩) (by show 1<B;omega)).trans hm⟩,Nat.le_trans h.big hb.size⟩;have ht:=h.sp;unfold Lib.TabIs at ht ⊢;exact var?_below hb gSp (by omega) ht
theorem zcT.below {w w':World} (h:zcT w) (hb:Below w.heap.size w w'):zcT w':=h.keptB hb h.big
theorem zcT.to {pb j:Nat} {w w':World} (h:zcT w) (hp:2≤pb) (ha:AtJ pb j w w'):zcT w':=
 h.keptB (B:=2) (ha.kept.below h.big (fun i hi e=>by omega)) (Nat.le_refl _)
theorem zla (x:List UInt8): ∀(l:List (List UInt8)) (i:Nat),Lib.idxFromS (l.map fun s=>(⟨s.toArray⟩:ByteArray)) ⟨x.toArray⟩ i=match l.findIdx? (· ==x) with
  |some k=>((i+k:Nat):Int)
  |none=> -1
 |[],i=>rfl
 |s::l,i=>by
  have ih:=zla x l (i+1);simp only[List.map_cons,Lib.idxFromS,List.findIdx?_cons];by_cases h:s=x
  ·subst h
   simp
  ·have h':(⟨s.toArray⟩:ByteArray)≠⟨x.toArray⟩:=by
    intro e;apply h;have:=congrArg (fun b:ByteArray=>b.data.toList) e
    simpa using this
   rw[if_neg h',ih];have hb:(s==x)=false:=by simpa using h
   rw[hb]
   cases l.findIdx? (· ==x) with
   |none=>rfl
   |some k=>
    show((i+1+k:Nat):Int)=((i+(k+1):Nat):Int)
    omega
theorem zoW (l:List (List UInt8)) (s:List UInt8):zlG l s≤l.length:=by
 unfold zlG
 cases h:l.findIdx? (· ==s) with
 |none=>simp
 |some i=>
  have:=(List.findIdx?_eq_some_iff_getElem.1 h).1
  show i+1≤_
  omega
theorem znL (W:World) (a0 a1 a2:Value):(Instr.field 220 (.agg #[a0,a1,a2]) 0).run prog W= .ok a0 W:=by kernel_rfl
theorem znN (W:World) (a0 a1 a2:Value):(Instr.field 220 (.agg #[a0,a1,a2]) 1).run prog W= .ok a1 W:=by kernel_rfl
structure Voc (v:ByteArray) (ws:List (List UInt8)):Prop where
 small:v.size<4294967281
 ascii:v.data.toList.all (fun b=>decide (b.toNat<128))=true
 words:Lib.fields v.data.toList=ws
 few:ws.length≤200
theorem zoV (ws:List (List UInt8)) (n:Nat) (h0:n≠0) (hn:n≤ws.length):ws[n-1]? =some (zaf ws n):=by
 unfold zaf;rw[if_neg h0,List.getD_eq_getElem?_getD,List.getElem?_eq_getElem (by omega)]
 rfl
theorem zcN (ws:List (List UInt8)) (n:Nat) (h:n=0∨ws.length<n):zaf ws n=[]:=by
 unfold zaf;rcases h with h|h
 ·rw[if_pos h]
 ·rw[if_neg (by omega),List.getD_eq_getElem?_getD,List.getElem?_eq_none (by omega)]
  rfl
theorem zeZ (v:ByteArray) (n:Nat) (ws:List (List UInt8)) (hv:Voc v ws) (W:World) (hE:zcT W) (hn:n≤255):
 Calls prog 209 #[.string v,.int .u8 (n:Int)] W fun e W'=>e= .returned (.string ⟨(zaf ws n).toArray⟩)∧Below W.heap.size W W':=by
 have ha': ∀(j:Nat) b,v.data.toList[j]? =some b→b.toNat<128:=fun j b hb=>by
  have:=List.all_eq_true.1 hv.ascii b (List.mem_of_getElem? hb)
  simpa using this
 have HF:=zaa (Tryz.strings_Fields v W hv.small ha' hE.sp);rw[hv.words] at HF;have hfew:=hv.few;have hcell: ∀i,i<ws.length→(W.alloc (Obj.cells (ws.map fun l=>Value.string ⟨l.toArray⟩).toArray 9)).cell? ⟨W.heap.size,i,none⟩=some (.string ⟨(ws.getD i []).toArray⟩):=fun i hi=>by
  rw[cell_of_row _ _ i _ _ _ (heap_alloc_new W _)];simp[hi]
 have HCl:=zaa hcell;clear hcell;generalize Obj.cells (ws.map fun l=>Value.string ⟨l.toArray⟩).toArray 9=o at *;have HB:=zaa ((Below.refl W.heap.size W).alloc (Nat.le_refl _) o);by_cases h0:n=0
 ·rw[zcN ws n (.inl h0)]
  have k0:(n:Int)<1:=by omega
  generalize(n:Int)=z at *
  go_enter func209,ntmps209
  go_wp2_with fail;refine(HF.out).mono ?_;rintro e w1 ⟨rfl,rfl⟩;go_wp2_with fail;go_ret;exact⟨rfl,HB.out⟩
 ·have k0: ¬(n:Int)<1:=by omega
  by_cases h1:ws.length<n
  ·rw[zcN ws n (.inr h1)]
   have k2:((ws.length:Int)<(n:Int)):=by omega
   have kw:wrap64 (n:Int)=(n:Int):=by unfold wrap64;omega
   have kc: ¬(1≤(n:Int)∧(n:Int)≤(ws.length:Int)):=by omega
   generalize(n:Int)=z at *
   go_enter func209,ntmps209
   go_wp2_with fail;refine(HF.out).mono ?_;rintro e w1 ⟨rfl,rfl⟩;go_wp2_with fail;go_ret;exact⟨rfl,HB.out⟩
  ·have k1: ¬((ws.length:Int)<(n:Int)):=by omega
   have hc:=HCl.out (n-1) (by omega);rw[show(ws.getD (n-1) [])=zaf ws n from by unfold zaf;rw[if_neg h0]] at hc;have kw:wrap64 (n:Int)=(n:Int):=by unfold wrap64;omega
   have km:((n:Int)-1) % 256=((n-1:Nat):Int):=by omega
   have k3:(0:Int)≤((n-1:Nat):Int)∧((n-1:Nat):Int)<(ws.length:Int):=by omega
   have kc:1≤(n:Int)∧(n:Int)≤(ws.length:Int):=by omega
   have hz:(n:Int).toNat-1=n-1:=by omega
   generalize(n:Int)=z at *
   go_enter func209,ntmps209
   go_wp2_with fail;refine(HF.out).mono ?_;rintro e w1 ⟨rfl,rfl⟩;go_wp2_with fail;go_ret;exact⟨rfl,HB.out⟩
theorem zl5:Voc ⟨#[100,101,97,100,108,105,110,101,32,109,101,109,111,114,121,32,114,97,105,115,101,100,32,110,117,109,101,114,105,99,32,115,116,97,99,107,32,112,111,119,101,114,32,119,105,110,100,111,119]⟩ zal:=⟨by decide,by decide,by decide,by decide⟩
theorem zl7:Voc ⟨#[112,114,111,99,101,115,115,32,112,97,114,116,32,109,111,100,117,108,101]⟩ zai:=⟨by decide,by decide,by decide,by decide⟩
theorem zjm:Voc ⟨#[105,103,110,111,114,101,32,115,116,111,112,32,114,101,115,116,97,114,116,32,119,97,114,109,32,99,111,108,100,32,105,100,108,101,32,114,101,115,101,116,32,104,97,108,116]⟩ zag:=⟨by decide,by decide,by decide,by decide⟩
theorem netVoc:Voc ⟨#[97,32,98]⟩ zfX:=⟨by decide,by decide,by decide,by decide⟩
theorem zpv:Voc ⟨#[115,97,109,112,108,105,110,103,32,113,117,101,117,105,110,103]⟩ ze8:=⟨by decide,by decide,by decide,by decide⟩
def zcc:List (List UInt8):=(zaA.zip zaP).map fun p=>p.1++[58]++p.2
theorem zn1:Voc ⟨#[119,111,114,107,58,119,32,115,101,116,58,114,118,32,97,100,100,58,114,114,32,115,117,98,58,114,114,32,108,111,97,100,58,114,97,114,32,115,116,111,114,101,58,114,97,114,32,115,101,110,100,58,111,114,108,32,114,101,99,118,58,105,114,114,32,119,97,105,116,58,115,32,115,105,103,110,97,108,58,115,32,114,97,105,115,101,58,101,32,108,111,119,101,114,58,101,32,117,110,116,105,108,58,101,32,112,117,116,58,98,114,32,103,101,116,58,98,114,32,115,104,111,119,58,100,114,32,108,111,111,107,58,100,114,32,99,108,101,97,114,58,100,32,110,101,120,116,58,32,106,117,109,112,58,106,32,122,101,114,111,58,114,106,32,108,101,115,115,58,114,114,106,32,100,105,118,58,114,114,32,102,97,117,108,116,58,99,32,115,116,111,112,58]⟩ zcc:=⟨by decide +kernel,by decide +kernel,by decide +kernel,by decide +kernel⟩
theorem zgx (n:Nat) (W:World) (hE:zcT W) (hn:n≤255):Calls prog 137 #[.int .u8 (n:Int)] W fun e W'=>e= .returned (.string ⟨(zaf zal n).toArray⟩)∧Below W.heap.size W W':=by
 have HW:=zaa (zeZ _ n _ zl5 W hE hn)
 go_enter func137,ntmps137
 go_wp2_with fail;refine(HW.out).mono ?_;rintro e w1 ⟨rfl,hb⟩;go_wp2_with fail;go_ret;exact⟨rfl,hb⟩
theorem zdK (n:Nat) (W:World) (hE:zcT W) (hn:n≤255):Calls prog 138 #[.int .u8 (n:Int)] W fun e W'=>e= .returned (.string ⟨(zaf zai n).toArray⟩)∧Below W.heap.size W W':=by
 have HW:=zaa (zeZ _ n _ zl7 W hE hn)
 go_enter func138,ntmps138
 go_wp2_with fail;refine(HW.out).mono ?_;rintro e w1 ⟨rfl,hb⟩;go_wp2_with fail;go_ret;exact⟨rfl,hb⟩
theorem zdo (n:Nat) (W:World) (hE:zcT W) (hn:n≤255):Calls prog 139 #[.int .u8 (n:Int)] W fun e W'=>e= .returned (.string ⟨(zaf zag n).toArray⟩)∧Below W.heap.size W W':=by
 have HW:=zaa (zeZ _ n _ zjm W hE hn)
 go_enter func139,ntmps139
 go_wp2_with fail;refine(HW.out).mono ?_;rintro e w1 ⟨rfl,hb⟩;go_wp2_with fail;go_ret;exact⟨rfl,hb⟩
theorem zmz: ∀n,n≤255→(Lib.cut (zaf zcc n) [58]).1=zaf zaA n∧(Lib.cut (zaf zcc n) [58]).2.1=zaf zaP n:=by
 have h: ∀n:Fin 27,(Lib.cut (zaf zcc n.val) [58]).1=zaf zaA n.val∧(Lib.cut (zaf zcc n.val) [58]).2.1=zaf zaP n.val:=by decide +kernel
 intro n hn;by_cases h1:n<27
 ·exact h ⟨n,h1⟩
 ·rw[zcN zcc n (.inr (by show 25<n;omega)),zcN zaA n (.inr (by show 25<n;omega)),zcN zaP n (.inr (by show 25<n;omega))]
  decide +kernel
theorem ziu (n:Nat):(zaf zcc n).length≤20:=by
 by_cases h1:n<27
 ·have h: ∀n:Fin 27,(zaf zcc n.val).length≤20:=by decide +kernel
  exact h ⟨n,h1⟩
 ·rw[zcN zcc n (.inr (by show 25<n;omega))]
  exact Nat.zero_le _
theorem zdM (n:Nat) (W:World) (hE:Hid (zcT W)) (hn:n≤255):
 Calls prog 212 #[.int .u8 (n:Int)] W fun e W'=>e= .returned (.tuple #[.string ⟨(zaf zaA n).toArray⟩,.string ⟨(zaf zaP n).toArray⟩])∧Below W.heap.size W W':=by
 have HW:=zaa (zeZ _ n _ zn1 W hE.out hn);obtain⟨c1,c2⟩:=zmz n hn;have hz:=ziu n;have HC:=zaa (fun(w:World) m (hm:w.cell? ⟨1,0,none⟩=some (.int .i64 m))=>Tryz.strings_Cut ⟨(zaf zcc n).toArray⟩ ⟨#[58]⟩ m w (by show(zaf zcc n).toArray.size<_;simp;omega) hm);simp only[c1,c2] at HC;clear c1 c2 hz
 go_enter func212,ntmps212
 go_wp2_with fail;refine(HW.out).mono ?_;rintro e w1 ⟨rfl,hb⟩;obtain⟨m,hm⟩:=(hE.out.below hb).mx;have HB:=zaa hb;clear hb;go_wp2_with fail;refine(HC.out w1 m hm).mono ?_;rintro e w2 ⟨rfl,q,rfl⟩;go_wp2_with fail;refine bodyPost_ret (v:= .tuple #[.string ⟨(zaf zaA n).toArray⟩,.string ⟨(zaf zaP n).toArray⟩]) (by simp[results,Tryz.results212,go_sem]) rfl ?_;exact⟨rfl,_root_.Go.below_drewN HB.out _⟩
theorem zgp (n:Nat) (W:World) (hE:Hid (zcT W)) (hn:n≤255):Calls prog 146 #[.int .u8 (n:Int)] W fun e W'=>e= .returned (.string ⟨(zaf zaA n).toArray⟩)∧Below W.heap.size W W':=by
 have HW:=zaa (zdM n W hE hn)
 go_enter func146,ntmps146
 go_wp2_with fail;refine(HW.out).mono ?_;rintro e w1 ⟨rfl,hb⟩;go_wp2_with fail;go_ret;exact⟨rfl,hb⟩
theorem zeL (n:Nat) (W:World) (hE:Hid (zcT W)) (hn:n≤255):Calls prog 145 #[.int .u8 (n:Int)] W fun e W'=>e= .returned (.string ⟨(zaf zaP n).toArray⟩)∧Below W.heap.size W W':=by
 have HW:=zaa (zdM n W hE hn)
 go_enter func145,ntmps145
 go_wp2_with fail;refine(HW.out).mono ?_;rintro e w1 ⟨rfl,hb⟩;go_wp2_with fail;go_ret;exact⟨rfl,hb⟩
theorem zae {w:World} {G:Nat→Prop} {us:List Value} {d:Dat} {ds:List Dat} (h:zab w G us (d::ds)): ∃u us',us=u::us'∧DAt w G u d∧zab w G us' ds:=by
 obtain⟨hl,hc⟩:=h
 cases us with
 |nil=>simp at hl
 |cons u us=>exact⟨u,us,rfl,hc 0 u d rfl rfl,by simpa using hl,fun j v e hv he=>hc (j+1) v e (by simpa using hv) (by simpa using he)⟩
theorem zbD {w:World} {G:Nat→Prop} {us:List Value} (h:zab w G us []):us=[]:=List.eq_nil_of_length_eq_zero h.1
theorem dc2 {w:World} {G:Nat→Prop} {us:List Value} {d0 d1:Dat} (h:zab w G us [d0,d1]): ∃u0 u1,us=[u0,u1]∧DAt w G u0 d0∧DAt w G u1 d1:=by
 obtain⟨u0,us,rfl,h0,h⟩:=(zae h);obtain⟨u1,us,rfl,h1,h⟩:=(zae h);obtain rfl:=zbD h;exact⟨_,_,rfl,h0,h1⟩
theorem dc3 {w:World} {G:Nat→Prop} {us:List Value} {d0 d1 d2:Dat} (h:zab w G us [d0,d1,d2]): ∃u0 u1 u2,us=[u0,u1,u2]∧DAt w G u0 d0∧DAt w G u1 d1∧DAt w G u2 d2:=by
 obtain⟨u0,us,rfl,h0,h⟩:=(zae h);obtain⟨u1,us,rfl,h1,h⟩:=(zae h);obtain⟨u2,us,rfl,h2,h⟩:=(zae h);obtain rfl:=zbD h;exact⟨_,_,_,rfl,h0,h1,h2⟩
theorem dc4 {w:World} {G:Nat→Prop} {us:List Value} {d0 d1 d2 d3:Dat} (h:zab w G us [d0,d1,d2,d3]): ∃u0 u1 u2 u3,us=[u0,u1,u2,u3]∧DAt w G u0 d0∧DAt w G u1 d1∧DAt w G u2 d2∧DAt w G u3 d3:=by
 obtain⟨u0,us,rfl,h0,h⟩:=(zae h);obtain⟨u1,us,rfl,h1,h⟩:=(zae h);obtain⟨u2,us,rfl,h2,h⟩:=(zae h);obtain⟨u3,us,rfl,h3,h⟩:=(zae h);obtain rfl:=zbD h;exact⟨_,_,_,_,rfl,h0,h1,h2,h3⟩
theorem dc5 {w:World} {G:Nat→Prop} {us:List Value} {d0 d1 d2 d3 d4:Dat} (h:zab w G us [d0,d1,d2,d3,d4]): ∃u0 u1 u2 u3 u4,us=[u0,u1,u2,u3,u4]∧DAt w G u0 d0∧DAt w G u1 d1∧DAt w G u2 d2∧DAt w G u3 d3∧DAt w G u4 d4:=by
 obtain⟨u0,us,rfl,h0,h⟩:=(zae h);obtain⟨u1,us,rfl,h1,h⟩:=(zae h);obtain⟨u2,us,rfl,h2,h⟩:=(zae h);obtain⟨u3,us,rfl,h3,h⟩:=(zae h);obtain⟨u4,us,rfl,h4,h⟩:=(zae h);obtain rfl:=zbD h;exact⟨_,_,_,_,_,rfl,h0,h1,h2,h3,h4⟩
theorem dc6 {w:World} {G:Nat→Prop} {us:List Value} {d0 d1 d2 d3 d4 d5:Dat} (h:zab w G us [d0,d1,d2,d3,d4,d5]): ∃u0 u1 u2 u3 u4 u5,us=[u0,u1,u2,u3,u4,u5]∧DAt w G u0 d0∧DAt w G u1 d1∧DAt w G u2 d2∧DAt w G u3 d3∧DAt w G u4 d4∧DAt w G u5 d5:=by
 obtain⟨u0,us,rfl,h0,h⟩:=(zae h);obtain⟨u1,us,rfl,h1,h⟩:=(zae h);obtain⟨u2,us,rfl,h2,h⟩:=(zae h);obtain⟨u3,us,rfl,h3,h⟩:=(zae h);obtain⟨u4,us,rfl,h4,h⟩:=(zae h);obtain⟨u5,us,rfl,h5,h⟩:=(zae h);obtain rfl:=zbD h;exact⟨_,_,_,_,_,_,rfl,h0,h1,h2,h3,h4,h5⟩
theorem dc7 {w:World} {G:Nat→Prop} {us:List Value} {d0 d1 d2 d3 d4 d5 d6:Dat} (h:zab w G us [d0,d1,d2,d3,d4,d5,d6]): ∃u0 u1 u2 u3 u4 u5 u6,us=[u0,u1,u2,u3,u4,u5,u6]∧DAt w G u0 d0∧DAt w G u1 d1∧DAt w G u2 d2∧DAt w G u3 d3∧DAt w G u4 d4∧DAt w G u5 d5∧DAt w G u6 d6:=by
 obtain⟨u0,us,rfl,h0,h⟩:=(zae h);obtain⟨u1,us,rfl,h1,h⟩:=(zae h);obtain⟨u2,us,rfl,h2,h⟩:=(zae h);obtain⟨u3,us,rfl,h3,h⟩:=(zae h);obtain⟨u4,us,rfl,h4,h⟩:=(zae h);obtain⟨u5,us,rfl,h5,h⟩:=(zae h);obtain⟨u6,us,rfl,h6,h⟩:=(zae h);obtain rfl:=zbD h;exact⟨_,_,_,_,_,_,_,rfl,h0,h1,h2,h3,h4,h5,h6⟩
theorem dc8 {w:World} {G:Nat→Prop} {us:List Value} {d0 d1 d2 d3 d4 d5 d6 d7:Dat} (h:zab w G us [d0,d1,d2,d3,d4,d5,d6,d7]): ∃u0 u1 u2 u3 u4 u5 u6 u7,us=[u0,u1,u2,u3,u4,u5,u6,u7]∧DAt w G u0 d0∧DAt w G u1 d1∧DAt w G u2 d2∧DAt w G u3 d3∧DAt w G u4 d4∧DAt w G u5 d5∧DAt w G u6 d6∧DAt w G u7 d7:=by
 obtain⟨u0,us,rfl,h0,h⟩:=(zae h);obtain⟨u1,us,rfl,h1,h⟩:=(zae h);obtain⟨u2,us,rfl,h2,h⟩:=(zae h);obtain⟨u3,us,rfl,h3,h⟩:=(zae h);obtain⟨u4,us,rfl,h4,h⟩:=(zae h);obtain⟨u5,us,rfl,h5,h⟩:=(zae h);obtain⟨u6,us,rfl,h6,h⟩:=(zae h);obtain⟨u7,us,rfl,h7,h⟩:=(zae h);obtain rfl:=zbD h;exact⟨_,_,_,_,_,_,_,_,rfl,h0,h1,h2,h3,h4,h5,h6,h7⟩
theorem dc9 {w:World} {G:Nat→Prop} {us:List Value} {d0 d1 d2 d3 d4 d5 d6 d7 d8:Dat} (h:zab w G us [d0,d1,d2,d3,d4,d5,d6,d7,d8]): ∃u0 u1 u2 u3 u4 u5 u6 u7 u8,us=[u0,u1,u2,u3,u4,u5,u6,u7,u8]∧DAt w G u0 d0∧DAt w G u1 d1∧DAt w G u2 d2∧DAt w G u3 d3∧DAt w G u4 d4∧DAt w G u5 d5∧DAt w G u6 d6∧DAt w G u7 d7∧DAt w G u8 d8:=by
 obtain⟨u0,us,rfl,h0,h⟩:=(zae h);obtain⟨u1,us,rfl,h1,h⟩:=(zae h);obtain⟨u2,us,rfl,h2,h⟩:=(zae h);obtain⟨u3,us,rfl,h3,h⟩:=(zae h);obtain⟨u4,us,rfl,h4,h⟩:=(zae h);obtain⟨u5,us,rfl,h5,h⟩:=(zae h);obtain⟨u6,us,rfl,h6,h⟩:=(zae h);obtain⟨u7,us,rfl,h7,h⟩:=(zae h);obtain⟨u8,us,rfl,h8,h⟩:=(zae h);obtain rfl:=zbD h;exact⟨_,_,_,_,_,_,_,_,_,rfl,h0,h1,h2,h3,h4,h5,h6,h7,h8⟩
theorem znr {w:World} {G:Nat→Prop} {us:List Value} {d0 d1 d2 d3 d4 d5 d6 d7 d8 d9:Dat} (h:zab w G us [d0,d1,d2,d3,d4,d5,d6,d7,d8,d9]): ∃u0 u1 u2 u3 u4 u5 u6 u7 u8 u9,us=[u0,u1,u2,u3,u4,u5,u6,u7,u8,u9]∧DAt w G u0 d0∧DAt w G u1 d1∧DAt w G u2 d2∧DAt w G u3 d3∧DAt w G u4 d4∧DAt w G u5 d5∧DAt w G u6 d6∧DAt w G u7 d7∧DAt w G u8 d8∧DAt w G u9 d9:=by
 obtain⟨u0,us,rfl,h0,h⟩:=(zae h);obtain⟨u1,us,rfl,h1,h⟩:=(zae h);obtain⟨u2,us,rfl,h2,h⟩:=(zae h);obtain⟨u3,us,rfl,h3,h⟩:=(zae h);obtain⟨u4,us,rfl,h4,h⟩:=(zae h);obtain⟨u5,us,rfl,h5,h⟩:=(zae h);obtain⟨u6,us,rfl,h6,h⟩:=(zae h);obtain⟨u7,us,rfl,h7,h⟩:=(zae h);obtain⟨u8,us,rfl,h8,h⟩:=(zae h);obtain⟨u9,us,rfl,h9,h⟩:=(zae h);obtain rfl:=zbD h;exact⟨_,_,_,_,_,_,_,_,_,_,rfl,h0,h1,h2,h3,h4,h5,h6,h7,h8,h9⟩
theorem DAt.block {w:World} {b:Nat} {cs:Array Value} {t:TypeId} {fr:Nat×Nat} {size n c:Nat} {es:List (List Dat)} {G:Nat→Prop} (h:w.heap[b]? =some (.cells cs t fr)) (hn:es.length=n) (hw: ∀e∈es,e.length=size) (hc:zab w G cs.toList es.flatten) (hG:G b) (hcap:n≤c:=by omega):DAt w G (.slice (some ⟨b,0,none⟩) n c) (.row size es):=by
 have hv: ∃val:Nat→Nat→Value,∀i j e d,es[i]? =some e→e[j]? =some d→w.cell? ⟨b,0+i*size+j,none⟩=some (val i j)∧DAt w G (val i j) d:=by
  refine⟨fun i j=>(cs[i*size+j]?).getD (.bool false),fun i j e d he hd=> ?_⟩;have hj:j<size:=by rw[←hw e (List.mem_of_getElem? he)];exact(List.getElem?_eq_some_iff.1 hd).1
  have hf:=zeH es hw i j e he hj;rw[hd] at hf;have hlt:=(List.getElem?_eq_some_iff.1 hf).1;have hcl:i*size+j<cs.size:=by rw[←Array.length_toList,hc.1];exact hlt
  have hcell:=cell_of_row w b (i*size+j) _ _ _ h;have hg:(cs[i*size+j]?).getD (.bool false)=cs[i*size+j]:=by rw[Array.getElem?_eq_getElem hcl];rfl
  show w.cell? ⟨b,0+i*size+j,none⟩=some ((cs[i*size+j]?).getD (.bool false))∧DAt w G ((cs[i*size+j]?).getD (.bool false)) d
  rw[hg,Nat.zero_add,hcell,Array.getElem?_eq_getElem hcl];exact⟨rfl,hc.2 _ _ d (by rw[Array.getElem?_toList,Array.getElem?_eq_getElem hcl]) hf⟩
 obtain⟨val,hval⟩:=hv;exact .row b 0 c size n es val hn hG (zau h) (fun i j e d he hd=>(hval i j e d he hd).1) (fun i j e d he hd=>(hval i j e d he hd).2) hcap
theorem zcI {w:World} {G:Nat→Prop} (l:List Value):zab w G l (l.map Dat.leaf):=⟨by simp,fun j u d hu hd=>by
 rw[List.getElem?_map,hu] at hd;injection hd with hd
 subst hd;exact .leaf u⟩
theorem zeW {α:Type} (f:α→Value) (l:List α):(l.map fun s=>[Dat.leaf (f s)]).flatten=(l.map f).map Dat.leaf:=by
 induction l with
 |nil=>rfl
 |cons a l ih=>simp only[List.map_cons,List.flatten_cons,ih];rfl
theorem zkk {α:Type} (f:α→Value) (w:World) (l:List α) (T:TypeId):DAt (w.alloc (.cells (l.map f).toArray T)) (fun _=>True) (.slice (some ⟨w.heap.size,0,none⟩) l.length l.length) (.row 1 (l.map fun s=>[Dat.leaf (f s)])):=
 DAt.block (heap_alloc_new w _) (by simp) (fun e he=>by obtain⟨_,_,rfl⟩:=List.mem_map.1 he;rfl) (by rw[zeW];exact zcI _) trivial
theorem zba (w:World) (l:List (List UInt8)) (T:TypeId):DAt (w.alloc (.cells (l.map fun s=>Value.string ⟨s.toArray⟩).toArray T)) (fun _=>True) (.slice (some ⟨w.heap.size,0,none⟩) l.length l.length) (.row 1 (zao l)):=zkk _ w l T
theorem za6 (w:World) (l:List Int) (T:TypeId):DAt (w.alloc (.cells (l.map fun n=>Value.int .i64 n).toArray T)) (fun _=>True) (.slice (some ⟨w.heap.size,0,none⟩) l.length l.length) (.row 1 (zah l)):=zkk _ w l T
def zii (x:zb7):Bool:=[x.m,x.p,x.o].all zaD
theorem zoz (x:zb7) (us:List Value) (W:World) (hE:Hid (Env W)) (hd:Hid (zab W (fun _=>True) us x.cells)):
 Calls prog 228 #[.agg us.toArray] W fun e w'=>e= .returned (.bool (zii x))∧Below W.heap.size W w':=by
 have hd:=hd.out;obtain⟨u0,u1,u2,rfl,h0,h1,h2⟩:=dc3 hd;obtain rfl:=h0.leaf_eq;obtain rfl:=h1.leaf_eq;obtain rfl:=h2.leaf_eq;clear hd h0 h1 h2;simp only[zav];have HB:=zaa (((Below.refl W.heap.size W).alloc (Nat.le_refl _) (.cells #[.string ⟨x.m.toArray⟩,.string ⟨x.p.toArray⟩,.string ⟨x.o.toArray⟩] 55)).alloc (by simp) (.cells #[.string ⟨x.m.toArray⟩,.string ⟨x.p.toArray⟩,.string ⟨x.o.toArray⟩] 9));have HW:=zaa (zeq (.slice (some ⟨W.heap.size+1,0,none⟩) 3 3) [x.m,x.p,x.o] ((W.alloc (.cells #[.string ⟨x.m.toArray⟩,.string ⟨x.p.toArray⟩,.string ⟨x.o.toArray⟩] 55)).alloc (.cells #[.string ⟨x.m.toArray⟩,.string ⟨x.p.toArray⟩,.string ⟨x.o.toArray⟩] 9))
  (zaa (by have h:=zba (W.alloc (.cells #[.string ⟨x.m.toArray⟩,.string ⟨x.p.toArray⟩,.string ⟨x.o.toArray⟩] 55)) [x.m,x.p,x.o] 9;rw[World.size_alloc] at h;exact h)) (by simp) (zaa (hE.out.kept HB.out)))
 generalize hz:[x.m,x.p,x.o].all zaD=z at HW;have HF:=zaa (show zii x=z from hz);clear hz
 go_enter func228,ntmps228
 go_wp2_with fail;refine HW.out.mono ?_;rintro e w1 ⟨rfl,hb⟩;have HB2:=zaa (btZ HB.out hb);clear hb HW;go_wp2_with fail;go_ret;exact⟨by rw[HF.out];rfl,HB2.out⟩
def zfl (r:zb7) (l:List zb7):Bool:=zii r&&(decide (0<l.length)&&l.all zii)
theorem zhY (r:zb7) (v:Value) (l:List zb7) (W:World) (hE:Hid (Env W)) (hv:Hid (DAt W (fun _=>True) v (.row 3 (l.map zb7.cells)))) (hl:l.length≤140737488355328):
 Calls prog 167 #[.agg #[.string ⟨r.m.toArray⟩,.string ⟨r.p.toArray⟩,.string ⟨r.o.toArray⟩],v] W fun e w'=>e= .returned (.bool (zfl r l))∧Below W.heap.size W w':=by
 obtain⟨A,q,rfl, -⟩:=hv.out.slice;rw[List.length_map] at *;have HB:=zaa ((Below.refl W.heap.size W).alloc (Nat.le_refl _) (.cells #[.string ⟨r.m.toArray⟩,.string ⟨r.p.toArray⟩,.string ⟨r.o.toArray⟩] 55));have HD: ∀w:World,zab w (fun _=>True) [.string ⟨r.m.toArray⟩,.string ⟨r.p.toArray⟩,.string ⟨r.o.toArray⟩] r.cells:=fun w=>zab.cons (.leaf _) (zab.cons (.leaf _) (zab.cons (.leaf _) .nil))
 have HR:=zaa (zoz r [.string ⟨r.m.toArray⟩,.string ⟨r.p.toArray⟩,.string ⟨r.o.toArray⟩] _ (zaa (hE.out.kept HB.out)) (zaa (HD _)));have HA:=zaa (fun w1 (hb:Below W.heap.size W w1)=>zmM (.slice A l.length q) l zii w1 (zaa (hv.out.later hb)) hl (zaa (fun y hy us w' hb' hd=>zoz y us w' (zaa (hE.out.kept (hb.trans (hb'.mono hb.size)))) (zaa hd))));have HF:=zaa (show zfl r l=(zii r&&(decide (0<l.length)&&l.all zii)) from rfl);clear hv HD;generalize zii r=z0 at HR HF;generalize l.all zii=z1 at HA HF;by_cases h0:0<l.length
 ·have g0:(0:Int)<(l.length:Int):=by omega
  rw[show decide (0<l.length)=true by simpa using h0] at HF
  cases z0 with
  |false=>
   go_enter func167,ntmps167
   go_wp2_with fail;refine HR.out.mono ?_;rintro e w1 ⟨rfl,hb⟩;have HB2:=zaa (btZ HB.out hb);clear hb HR HA;go_wp2_with fail;go_ret;exact⟨by rw[HF.out];rfl,HB2.out⟩
  |true=>
   go_enter func167,ntmps167
   go_wp2_with fail;refine HR.out.mono ?_;rintro e w1 ⟨rfl,hb⟩;have HB2:=zaa (btZ HB.out hb);clear hb HR;go_wp2_with fail;refine(HA.out _ HB2.out).mono ?_;rintro e w2 ⟨rfl,hb⟩;have HB3:=zaa (btZ HB2.out hb);clear hb HA;go_wp2_with fail;go_ret;exact⟨by rw[HF.out];rfl,HB3.out⟩
 ·have g0: ¬(0:Int)<(l.length:Int):=by omega
  rw[show decide (0<l.length)=false by simpa using h0] at HF;clear HA
  cases z0<;>
  ·go_enter func167,ntmps167
   go_wp2_with fail;refine HR.out.mono ?_;rintro e w1 ⟨rfl,hb⟩;have HB2:=zaa (btZ HB.out hb);clear hb HR;go_wp2_with fail;go_ret;exact⟨by rw[HF.out];rfl,HB2.out⟩
def zf1 (x:zcu):Bool:=zaD x.unit&&([x.code].all zbj)
theorem zpA (x:zcu) (us:List Value) (W:World) (hE:Hid (Env W)) (hd:Hid (zab W (fun _=>True) us x.cells)):
 Calls prog 181 #[.agg us.toArray] W fun e w'=>e= .returned (.bool (zf1 x))∧Below W.heap.size W w':=by
 have hd:=hd.out;obtain⟨u0,u1,rfl,h0,h1⟩:=dc2 hd;obtain rfl:=h0.leaf_eq;obtain rfl:=h1.leaf_eq;clear hd h0 h1;simp only[zav];have HX:=zaa (heap_alloc_new W (.cells #[.string ⟨x.unit.toArray⟩,.int .i64 x.code] 67));have HB:=zaa ((Below.refl W.heap.size W).alloc (Nat.le_refl _) (.cells #[.string ⟨x.unit.toArray⟩,.int .i64 x.code] 67))
 go_enter func181,ntmps181
 go_wp2_with fail;generalize W.alloc _=w0 at *;have HC:=zaa (zbX ⟨x.unit.toArray⟩ w0 (zaa (hE.out.kept HB.out)));simp only at HC;generalize hb0:(zaD x.unit)=z0 at HC;have HZ0:=zaa hb0;clear hb0
 cases z0 with
 |false=>
  refine HC.out.mono ?_;rintro e w1 ⟨rfl,hb⟩;have HBn:=zaa (btZ HB.out hb);go_wp2_with fail;go_ret;exact⟨by unfold zf1;rw[HZ0.out];rfl,HBn.out⟩
 |true=>
  refine HC.out.mono ?_;rintro e w1 ⟨rfl,hb⟩;have HBn:=zaa (btZ HB.out hb);have HXn:=zaa (bkZ hb HX.out);clear HX HB HC hb;have HX:=HXn;have HB:=HBn;clear HXn HBn;have c0:=cell_of_row _ _ 0 _ _ _ HX.out;have c1:=cell_of_row _ _ 1 _ _ _ HX.out;go_wp2_with fail;clear c0 c1;have HBa:=zaa (HB.out.alloc HB.out.size (.cells #[.int .i64 x.code] 3));have HC:=zaa (zbQ (.slice (some ⟨w1.heap.size,0,none⟩) 1 1) [x.code] (w1.alloc (.cells #[.int .i64 x.code] 3)) (zaa (za6 w1 [x.code] 3)) (by simp));generalize hb1:([x.code].all zbj)=z1 at HC;have HZ1:=zaa hb1;clear hb1;refine HC.out.mono ?_;rintro e w2 ⟨rfl,hb⟩;have HBn:=zaa (btZ HBa.out hb);go_wp2_with fail;go_ret;exact⟨by unfold zf1;rw[HZ0.out,HZ1.out];rfl,HBn.out⟩
def zgN (x:zdt):Bool:=[x.a,x.b].all zaD&&([x.va,x.vb].all zbj)
theorem zpl (x:zdt) (us:List Value) (W:World) (hE:Hid (Env W)) (hd:Hid (zab W (fun _=>True) us x.cells)):
 Calls prog 101 #[.agg us.toArray] W fun e w'=>e= .returned (.bool (zgN x))∧Below W.heap.size W w':=by
 have hd:=hd.out;obtain⟨u0,u1,u2,u3,rfl,h0,h1,h2,h3⟩:=dc4 hd;obtain rfl:=h0.leaf_eq;obtain rfl:=h1.leaf_eq;obtain rfl:=h2.leaf_eq;obtain rfl:=h3.leaf_eq;clear hd h0 h1 h2 h3;simp only[zav];have HX:=zaa (heap_alloc_new W (.cells #[.string ⟨x.a.toArray⟩,.int .i64 x.va,.string ⟨x.b.toArray⟩,.int .i64 x.vb] 75));have HB:=zaa ((Below.refl W.heap.size W).alloc (Nat.le_refl _) (.cells #[.string ⟨x.a.toArray⟩,.int .i64 x.va,.string ⟨x.b.toArray⟩,.int .i64 x.vb] 75))
 go_enter func101,ntmps101
 go_wp2_with fail;have hzw:(W.alloc (.cells #[.string ⟨x.a.toArray⟩,.int .i64 x.va,.string ⟨x.b.toArray⟩,.int .i64 x.vb] 75)).heap.size=W.heap.size+1:=by simp
 generalize W.alloc _=w0 at *;have HBa:=zaa (HB.out.alloc HB.out.size (.cells #[.string ⟨x.a.toArray⟩,.string ⟨x.b.toArray⟩] 9));have HC:=zaa (zeq (.slice (some ⟨w0.heap.size,0,none⟩) 2 2) [x.a,x.b] (w0.alloc (.cells #[.string ⟨x.a.toArray⟩,.string ⟨x.b.toArray⟩] 9)) (zaa (zba w0 [x.a,x.b] 9)) (by simp) (zaa (hE.out.kept HBa.out)));rw[hzw] at HC;clear hzw;generalize hb0:([x.a,x.b].all zaD)=z0 at HC;have HZ0:=zaa hb0;clear hb0
 cases z0 with
 |false=>
  refine HC.out.mono ?_;rintro e w1 ⟨rfl,hb⟩;have HBn:=zaa (btZ HBa.out hb);go_wp2_with fail;go_ret;exact⟨by unfold zgN;rw[HZ0.out];rfl,HBn.out⟩
 |true=>
  refine HC.out.mono ?_;rintro e w1 ⟨rfl,hb⟩;have HBn:=zaa (btZ HBa.out hb);have HXn:=zaa ((hb.block _ (by have:=(zau HX.out);simp;omega)).trans ((Below.heap_alloc _ _ _ (zau HX.out)).trans HX.out));clear HX HB HC hb HBa;have HX:=HXn;have HB:=HBn;clear HXn HBn;obtain⟨c0,c1,c2,c3⟩:=zc1 HX.out rfl;go_wp2_with fail;clear c0 c1 c2 c3;have HBa:=zaa (HB.out.alloc HB.out.size (.cells #[.int .i64 x.va,.int .i64 x.vb] 3));have HC:=zaa (zbQ (.slice (some ⟨w1.heap.size,0,none⟩) 2 2) [x.va,x.vb] (w1.alloc (.cells #[.int .i64 x.va,.int .i64 x.vb] 3)) (zaa (za6 w1 [x.va,x.vb] 3)) (by simp));generalize hb1:([x.va,x.vb].all zbj)=z1 at HC;have HZ1:=zaa hb1;clear hb1;refine HC.out.mono ?_;rintro e w2 ⟨rfl,hb⟩;have HBn:=zaa (btZ HBa.out hb);go_wp2_with fail;go_ret;exact⟨by unfold zgN;rw[HZ0.out,HZ1.out];rfl,HBn.out⟩
def zed (x:zbi):Bool:=zfl x.from_ x.to
theorem zn2 (x:zbi) (us:List Value) (W:World) (hE:Hid (Env W)) (hd:Hid (zab W (fun _=>True) us x.cells)) (hl:x.to.length≤140737488355328):
 Calls prog 89 #[.agg us.toArray] W fun e w'=>e= .returned (.bool (zed x))∧Below W.heap.size W w':=by
 have hd:=hd.out;obtain⟨u0,u1,u2,u3,rfl,h0,h1,h2,h3⟩:=dc4 hd;obtain rfl:=h0.leaf_eq;obtain rfl:=h1.leaf_eq;obtain rfl:=h2.leaf_eq;have H3:=zaa h3;obtain⟨A3,q3,rfl, -⟩:=h3.slice;simp only[List.length_map] at H3 ⊢;clear hd h0 h1 h2 h3;simp only[zav];have HX:=zaa (heap_alloc_new W (.cells #[.string ⟨x.from_.m.toArray⟩,.string ⟨x.from_.p.toArray⟩,.string ⟨x.from_.o.toArray⟩,.slice A3 x.to.length q3] 58));have HB:=zaa ((Below.refl W.heap.size W).alloc (Nat.le_refl _) (.cells #[.string ⟨x.from_.m.toArray⟩,.string ⟨x.from_.p.toArray⟩,.string ⟨x.from_.o.toArray⟩,.slice A3 x.to.length q3] 58))
 go_enter func89,ntmps89
 go_wp2_with fail;generalize W.alloc _=w0 at *;have HC:=zaa (zhY x.from_ _ x.to w0 (zaa (hE.out.kept HB.out)) (zaa (H3.out.later HB.out)) hl);generalize hb0:(zfl x.from_ x.to)=z0 at HC;have HZ0:=zaa hb0;clear hb0;refine HC.out.mono ?_;rintro e w1 ⟨rfl,hb⟩;have HBn:=zaa (btZ HB.out hb);go_wp2_with fail;go_ret;exact⟨by unfold zed;rw[HZ0.out];rfl,HBn.out⟩
def vlF (x:VlD):Bool:=zaD x.name&&(zfl x.from_ x.to&&([x.bag,x.max].all zbj))
theorem f_vl (x:VlD) (us:List Value) (W:World) (hE:Hid (Env W)) (hd:Hid (zab W (fun _=>True) us x.cells)) (hl:x.to.length≤140737488355328):
 Calls prog 95 #[.agg us.toArray] W fun e w'=>e= .returned (.bool (vlF x))∧Below W.heap.size W w':=by
 have hd:=hd.out;obtain⟨u0,u1,u2,u3,u4,u5,u6,rfl,h0,h1,h2,h3,h4,h5,h6⟩:=dc7 hd;obtain rfl:=h0.leaf_eq;obtain rfl:=h1.leaf_eq;obtain rfl:=h2.leaf_eq;obtain rfl:=h3.leaf_eq;obtain rfl:=h4.leaf_eq;obtain rfl:=h5.leaf_eq;have H6:=zaa h6;obtain⟨A6,q6,rfl, -⟩:=h6.slice;simp only[List.length_map] at H6 ⊢;clear hd h0 h1 h2 h3 h4 h5 h6;simp only[zav];have HX:=zaa (heap_alloc_new W (.cells #[.string ⟨x.name.toArray⟩,.string ⟨x.from_.m.toArray⟩,.string ⟨x.from_.p.toArray⟩,.string ⟨x.from_.o.toArray⟩,.int .i64 x.bag,.int .i64 x.max,.slice A6 x.to.length q6] 61));have HB:=zaa ((Below.refl W.heap.size W).alloc (Nat.le_refl _) (.cells #[.string ⟨x.name.toArray⟩,.string ⟨x.from_.m.toArray⟩,.string ⟨x.from_.p.toArray⟩,.string ⟨x.from_.o.toArray⟩,.int .i64 x.bag,.int .i64 x.max,.slice A6 x.to.length q6] 61))
 go_enter func95,ntmps95
 go_wp2_with fail;generalize W.alloc _=w0 at *;have HC:=zaa (zbX ⟨x.name.toArray⟩ w0 (zaa (hE.out.kept HB.out)));simp only at HC;generalize hb0:(zaD x.name)=z0 at HC;have HZ0:=zaa hb0;clear hb0
 cases z0 with
 |false=>
  refine HC.out.mono ?_;rintro e w1 ⟨rfl,hb⟩;have HBn:=zaa (btZ HB.out hb);go_wp2_with fail;go_ret;exact⟨by unfold vlF;rw[HZ0.out];rfl,HBn.out⟩
 |true=>
  refine HC.out.mono ?_;rintro e w1 ⟨rfl,hb⟩;have HBn:=zaa (btZ HB.out hb);have HXn:=zaa (bkZ hb HX.out);clear HX HB HC hb;have HX:=HXn;have HB:=HBn;clear HXn HBn;obtain⟨c0,c1,c2,c3,c4,c5,c6⟩:=zpm HX.out rfl;go_wp2_with fail;clear c0 c1 c2 c3 c4 c5 c6;have HC:=zaa (zhY x.from_ _ x.to w1 (zaa (hE.out.kept HB.out)) (zaa (H6.out.later HB.out)) hl);generalize hb1:(zfl x.from_ x.to)=z1 at HC;have HZ1:=zaa hb1;clear hb1
  cases z1 with
  |false=>
   refine HC.out.mono ?_;rintro e w2 ⟨rfl,hb⟩;have HBn:=zaa (btZ HB.out hb);go_wp2_with fail;go_ret;exact⟨by unfold vlF;rw[HZ0.out,HZ1.out];rfl,HBn.out⟩
  |true=>
   refine HC.out.mono ?_;rintro e w2 ⟨rfl,hb⟩;have HBn:=zaa (btZ HB.out hb);have HXn:=zaa (bkZ hb HX.out);clear HX HB HC hb;have HX:=HXn;have HB:=HBn;clear HXn HBn;obtain⟨c0,c1,c2,c3,c4,c5,c6⟩:=zpm HX.out rfl;go_wp2_with fail;clear c0 c1 c2 c3 c4 c5 c6;have HBa:=zaa (HB.out.alloc HB.out.size (.cells #[.int .i64 x.bag,.int .i64 x.max] 3));have HC:=zaa (zbQ (.slice (some ⟨w2.heap.size,0,none⟩) 2 2) [x.bag,x.max] (w2.alloc (.cells #[.int .i64 x.bag,.int .i64 x.max] 3)) (zaa (za6 w2 [x.bag,x.max] 3)) (by simp));generalize hb2:([x.bag,x.max].all zbj)=z2 at HC;have HZ2:=zaa hb2;clear hb2;refine HC.out.mono ?_;rintro e w3 ⟨rfl,hb⟩;have HBn:=zaa (btZ HBa.out hb);go_wp2_with fail;go_ret;exact⟨by unfold vlF;rw[HZ0.out,HZ1.out,HZ2.out];rfl,HBn.out⟩
def zd4 (x:zaT):Bool:=(x.kind==1&&x.depth==0)||(x.kind==2&&x.refresh==0)
def zc5 (x:zaT):Bool:=zd4 x&&(zaD x.name&&[x.size,x.depth,x.refresh].all zbj)
theorem zoo (x:zaT) (us:List Value) (W:World) (hE:Hid (Env W)) (hd:Hid (zab W (fun _=>True) us x.cells)):
 Calls prog 224 #[.agg us.toArray] W fun e w'=>e= .returned (.bool (zc5 x))∧Below W.heap.size W w':=by
 have hd:=hd.out;obtain⟨u0,u1,u2,u3,u4,u5,rfl,h0,h1,h2,h3,h4,h5⟩:=dc6 hd;obtain rfl:=h0.leaf_eq;obtain rfl:=h1.leaf_eq;obtain rfl:=h2.leaf_eq;obtain rfl:=h3.leaf_eq;obtain rfl:=h4.leaf_eq;obtain rfl:=h5.leaf_eq;clear hd h0 h1 h2 h3 h4 h5;simp only[zav];have HX:=zaa (heap_alloc_new W (.cells #[.string ⟨x.name.toArray⟩,.int .u8 (x.kind:Int),.bool x.out,.int .i64 x.size,.int .i64 x.depth,.int .i64 x.refresh] 51));have HB:=zaa ((Below.refl W.heap.size W).alloc (Nat.le_refl _) (.cells #[.string ⟨x.name.toArray⟩,.int .u8 (x.kind:Int),.bool x.out,.int .i64 x.size,.int .i64 x.depth,.int .i64 x.refresh] 51));have hw:(((x.kind:Int)==1)=true∧(x.depth==0)=true∧zd4 x=true∨((x.kind:Int)==1)=false∧((x.kind:Int)==2)=true∧(x.refresh==0)=true∧zd4 x=true)∨(((x.kind:Int)==1)=true∧(x.depth==0)=false∧((x.kind:Int)==2)=false∧zd4 x=false∨((x.kind:Int)==1)=false∧((x.kind:Int)==2)=true∧(x.refresh==0)=false∧zd4 x=false∨((x.kind:Int)==1)=false∧((x.kind:Int)==2)=false∧zd4 x=false):=by
  unfold zd4;rcases(by omega:x.kind=1∨x.kind=2∨x.kind≠1∧x.kind≠2) with h|h|⟨h,h'⟩
  ·rw[h];cases hd:x.depth==0<;>simp
  ·rw[h];cases hd:x.refresh==0<;>simp
  ·have a1:((x.kind:Int)==1)=false:=by simp;omega
   have a2:((x.kind:Int)==2)=false:=by simp;omega
   have a3:(x.kind==1)=false:=by simpa using h
   have a4:(x.kind==2)=false:=by simpa using h'
   simp[a1,a2,a3,a4]
 rcases hw with(⟨k1,k2,k3⟩|⟨k1,k2,k4,k3⟩)|⟨k1,k2,k4,k3⟩|⟨k1,k2,k4,k3⟩|⟨k1,k2,k3⟩
 ·have HKD:=zaa k3
  clear k3
  go_enter func224,ntmps224
  go_wp2_with fail;generalize W.alloc _=w0 at *;have HC:=zaa (zbX ⟨x.name.toArray⟩ w0 (zaa (hE.out.kept HB.out)));simp only at HC;generalize hb0:(zaD x.name)=z0 at HC;have HZ0:=zaa hb0;clear hb0
  cases z0 with
  |false=>
   refine HC.out.mono ?_;rintro e w1 ⟨rfl,hb⟩;have HBn:=zaa (btZ HB.out hb);go_wp2_with fail;go_ret;exact⟨by unfold zc5;rw[HKD.out,HZ0.out];rfl,HBn.out⟩
  |true=>
   refine HC.out.mono ?_;rintro e w1 ⟨rfl,hb⟩;have HBn:=zaa (btZ HB.out hb);have HXn:=zaa (bkZ hb HX.out);clear HX HB HC hb;have HX:=HXn;have HB:=HBn;clear HXn HBn;obtain⟨c0,c1,c2,c3,c4,c5⟩:=pf6Z HX.out rfl;go_wp2_with fail;clear c0 c1 c2 c3 c4 c5;have HBa:=zaa (HB.out.alloc HB.out.size (.cells #[.int .i64 x.size,.int .i64 x.depth,.int .i64 x.refresh] 3));have HC:=zaa (zbQ (.slice (some ⟨w1.heap.size,0,none⟩) 3 3) [x.size,x.depth,x.refresh] (w1.alloc (.cells #[.int .i64 x.size,.int .i64 x.depth,.int .i64 x.refresh] 3)) (zaa (za6 w1 [x.size,x.depth,x.refresh] 3)) (by simp));generalize hb1:([x.size,x.depth,x.refresh].all zbj)=z1 at HC;have HZ1:=zaa hb1;clear hb1;refine HC.out.mono ?_;rintro e w2 ⟨rfl,hb⟩;have HBn:=zaa (btZ HBa.out hb);go_wp2_with fail;go_ret;exact⟨by unfold zc5;rw[HKD.out,HZ0.out,HZ1.out];rfl,HBn.out⟩
 ·have HKD:=zaa k3
  clear k3
  go_enter func224,ntmps224
  go_wp2_with fail;generalize W.alloc _=w0 at *;have HC:=zaa (zbX ⟨x.name.toArray⟩ w0 (zaa (hE.out.kept HB.out)));simp only at HC;generalize hb0:(zaD x.name)=z0 at HC;have HZ0:=zaa hb0;clear hb0
  cases z0 with
  |false=>
   refine HC.out.mono ?_;rintro e w1 ⟨rfl,hb⟩;have HBn:=zaa (btZ HB.out hb);go_wp2_with fail;go_ret;exact⟨by unfold zc5;rw[HKD.out,HZ0.out];rfl,HBn.out⟩
  |true=>
   refine HC.out.mono ?_;rintro e w1 ⟨rfl,hb⟩;have HBn:=zaa (btZ HB.out hb);have HXn:=zaa (bkZ hb HX.out);clear HX HB HC hb;have HX:=HXn;have HB:=HBn;clear HXn HBn;obtain⟨c0,c1,c2,c3,c4,c5⟩:=pf6Z HX.out rfl;go_wp2_with fail;clear c0 c1 c2 c3 c4 c5;have HBa:=zaa (HB.out.alloc HB.out.size (.cells #[.int .i64 x.size,.int .i64 x.depth,.int .i64 x.refresh] 3));have HC:=zaa (zbQ (.slice (some ⟨w1.heap.size,0,none⟩) 3 3) [x.size,x.depth,x.refresh] (w1.alloc (.cells #[.int .i64 x.size,.int .i64 x.depth,.int .i64 x.refresh] 3)) (zaa (za6 w1 [x.size,x.depth,x.refresh] 3)) (by simp));generalize hb1:([x.size,x.depth,x.refresh].all zbj)=z1 at HC;have HZ1:=zaa hb1;clear hb1;refine HC.out.mono ?_;rintro e w2 ⟨rfl,hb⟩;have HBn:=zaa (btZ HBa.out hb);go_wp2_with fail;go_ret;exact⟨by unfold zc5;rw[HKD.out,HZ0.out,HZ1.out];rfl,HBn.out⟩
 all_goals
  go_enter func224,ntmps224
  go_wp2_with fail;go_ret;exact⟨by unfold zc5;rw[k3];rfl,HB.out⟩
def swF (x:SwD):Bool:=zaD x.name&&((x.net/2==0)&&([x.delay,x.store].all zbj))
theorem f_sw (x:SwD) (us:List Value) (W:World) (hE:Hid (Env W)) (hd:Hid (zab W (fun _=>True) us x.cells)):
 Calls prog 91 #[.agg us.toArray] W fun e w'=>e= .returned (.bool (swF x))∧Below W.heap.size W w':=by
 have hd:=hd.out;obtain⟨u0,u1,u2,u3,rfl,h0,h1,h2,h3⟩:=dc4 hd;obtain rfl:=h0.leaf_eq;obtain rfl:=h1.leaf_eq;obtain rfl:=h2.leaf_eq;obtain rfl:=h3.leaf_eq;clear hd h0 h1 h2 h3;simp only[zav];have HX:=zaa (heap_alloc_new W (.cells #[.string ⟨x.name.toArray⟩,.int .i64 x.net,.int .i64 x.delay,.int .i64 x.store] 69));have HB:=zaa ((Below.refl W.heap.size W).alloc (Nat.le_refl _) (.cells #[.string ⟨x.name.toArray⟩,.int .i64 x.net,.int .i64 x.delay,.int .i64 x.store] 69))
 go_enter func91,ntmps91
 go_wp2_with fail;generalize W.alloc _=w0 at *;have HC:=zaa (zbX ⟨x.name.toArray⟩ w0 (zaa (hE.out.kept HB.out)));simp only at HC;generalize hb0:(zaD x.name)=z0 at HC;have HZ0:=zaa hb0;clear hb0
 cases z0 with
 |false=>
  refine HC.out.mono ?_;rintro e w1 ⟨rfl,hb⟩;have HBn:=zaa (btZ HB.out hb);go_wp2_with fail;go_ret;exact⟨by unfold swF;rw[HZ0.out];rfl,HBn.out⟩
 |true=>
  refine HC.out.mono ?_;rintro e w1 ⟨rfl,hb⟩;have HBn:=zaa (btZ HB.out hb);have HXn:=zaa (bkZ hb HX.out);clear HX HB HC hb;have HX:=HXn;have HB:=HBn;clear HXn HBn;obtain⟨c0,c1,c2,c3⟩:=zc1 HX.out rfl
  cases hn:(x.net/2==0) with
  |false=>
   go_wp2_with fail;go_ret;exact⟨by unfold swF;rw[HZ0.out,hn];rfl,HB.out⟩
  |true=>
   have HZ1:=zaa hn;go_wp2_with fail;clear c0 c1 c2 c3 hn;have HBa:=zaa (HB.out.alloc HB.out.size (.cells #[.int .i64 x.delay,.int .i64 x.store] 3));have HC:=zaa (zbQ (.slice (some ⟨w1.heap.size,0,none⟩) 2 2) [x.delay,x.store] (w1.alloc (.cells #[.int .i64 x.delay,.int .i64 x.store] 3)) (zaa (za6 w1 [x.delay,x.store] 3)) (by simp));generalize hb2:([x.delay,x.store].all zbj)=z2 at HC;have HZ2:=zaa hb2;clear hb2;refine HC.out.mono ?_;rintro e w3 ⟨rfl,hb⟩;have HBn:=zaa (btZ HBa.out hb);go_wp2_with fail;go_ret;exact⟨by unfold swF;rw[HZ0.out,HZ1.out,HZ2.out];rfl,HBn.out⟩
def zdc (x:zby):Bool:=[x.a,x.b].all zaD&&((x.net/2==0)&&([x.slow].all zbj))
theorem zoj (x:zby) (us:List Value) (W:World) (hE:Hid (Env W)) (hd:Hid (zab W (fun _=>True) us x.cells)):
 Calls prog 93 #[.agg us.toArray] W fun e w'=>e= .returned (.bool (zdc x))∧Below W.heap.size W w':=by
 have hd:=hd.out;obtain⟨u0,u1,u2,u3,rfl,h0,h1,h2,h3⟩:=dc4 hd;obtain rfl:=h0.leaf_eq;obtain rfl:=h1.leaf_eq;obtain rfl:=h2.leaf_eq;obtain rfl:=h3.leaf_eq;clear hd h0 h1 h2 h3;simp only[zav];have HX:=zaa (heap_alloc_new W (.cells #[.string ⟨x.a.toArray⟩,.string ⟨x.b.toArray⟩,.int .i64 x.net,.int .i64 x.slow] 71));have HB:=zaa ((Below.refl W.heap.size W).alloc (Nat.le_refl _) (.cells #[.string ⟨x.a.toArray⟩,.string ⟨x.b.toArray⟩,.int .i64 x.net,.int .i64 x.slow] 71))
 go_enter func93,ntmps93
 go_wp2_with fail;have hzw:(W.alloc (.cells #[.string ⟨x.a.toArray⟩,.string ⟨x.b.toArray⟩,.int .i64 x.net,.int .i64 x.slow] 71)).heap.size=W.heap.size+1:=by simp
 generalize W.alloc _=w0 at *;have HBa:=zaa (HB.out.alloc HB.out.size (.cells #[.string ⟨x.a.toArray⟩,.string ⟨x.b.toArray⟩] 9));have HC:=zaa (zeq (.slice (some ⟨w0.heap.size,0,none⟩) 2 2) [x.a,x.b] (w0.alloc (.cells #[.string ⟨x.a.toArray⟩,.string ⟨x.b.toArray⟩] 9)) (zaa (zba w0 [x.a,x.b] 9)) (by simp) (zaa (hE.out.kept HBa.out)));rw[hzw] at HC;clear hzw;generalize hb0:([x.a,x.b].all zaD)=z0 at HC;have HZ0:=zaa hb0;clear hb0
 cases z0 with
 |false=>
  refine HC.out.mono ?_;rintro e w1 ⟨rfl,hb⟩;have HBn:=zaa (btZ HBa.out hb);go_wp2_with fail;go_ret;exact⟨by unfold zdc;rw[HZ0.out];rfl,HBn.out⟩
 |true=>
  refine HC.out.mono ?_;rintro e w1 ⟨rfl,hb⟩;have HBn:=zaa (btZ HBa.out hb);have HXn:=zaa ((hb.block _ (by have:=(zau HX.out);simp;omega)).trans ((Below.heap_alloc _ _ _ (zau HX.out)).trans HX.out));clear HX HB HC hb HBa;have HX:=HXn;have HB:=HBn;clear HXn HBn;obtain⟨c0,c1,c2,c3⟩:=zc1 HX.out rfl
  cases hn:(x.net/2==0) with
  |false=>
   go_wp2_with fail;go_ret;exact⟨by unfold zdc;rw[HZ0.out,hn];rfl,HB.out⟩
  |true=>
   have HZ1:=zaa hn;go_wp2_with fail;clear c0 c1 c2 c3 hn;have HBa:=zaa (HB.out.alloc HB.out.size (.cells #[.int .i64 x.slow] 3));have HC:=zaa (zbQ (.slice (some ⟨w1.heap.size,0,none⟩) 1 1) [x.slow] (w1.alloc (.cells #[.int .i64 x.slow] 3)) (zaa (za6 w1 [x.slow] 3)) (by simp));generalize hb2:([x.slow].all zbj)=z2 at HC;have HZ2:=zaa hb2;clear hb2;refine HC.out.mono ?_;rintro e w3 ⟨rfl,hb⟩;have HBn:=zaa (btZ HBa.out hb);go_wp2_with fail;go_ret;exact⟨by unfold zdc;rw[HZ0.out,HZ1.out,HZ2.out];rfl,HBn.out⟩
end Go.Proofs.YtgbfaompondolaaGreatDoor
