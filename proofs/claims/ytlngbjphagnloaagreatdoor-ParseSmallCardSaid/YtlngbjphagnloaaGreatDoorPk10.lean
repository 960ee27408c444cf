/- Merged texts of the walks and of the plain laws on which the statement leans.-/
import Derived.Test.YtlngbjphagnloaaGreatDoorPk1
import Derived.Test.YtlngbjphagnloaaGreatDoorPk9
import Derived.Test.YtlngbjphagnloaaGreatDoorPk4
import Derived.Test.YtlngbjphagnloaaGreatDoorPk6
import Derived.Test.YtlngbjphagnloaaGreatDoorPk2
import Derived.Deep.LoopGhost
set_option maxHeartbeats 8000000
set_option maxRecDepth 100000
namespace Go.Proofs.YtlngbjphagnloaaGreatDoor
open Tryz
open Go.RowKit
theorem znT (s:ByteArray) (k:Nat) (h:k<s.size):s.data.toList[k]? =some s[k]:=by
 have hl:k<s.data.toList.length:=by simp;exact h
 rw[List.getElem?_eq_getElem hl];rfl
theorem zgI (b:UInt8) {v:Bool} (w:World) (h:zaJ b=v):Calls prog 148 #[.int .u8 (b.toNat:Int)] w fun e w'=>e= .returned (.bool v)∧w=w':=by
 rw[←h];exact zeG b w
theorem zkz (b:UInt8) {v:Bool} (w:World) (h:za2 b=v):Calls prog 147 #[.int .u8 (b.toNat:Int)] w fun e w'=>e= .returned (.bool v)∧w=w':=by
 rw[←h];exact zfI b w
theorem zhH (b:UInt8) {v:Bool} (w:World) (h:zaP b=v):Calls prog 149 #[.int .u8 (b.toNat:Int)] w fun e w'=>e= .returned (.bool v)∧w=w':=by
 rw[←h];exact zjQ b w
theorem znf (b:UInt8) {v:Bool} (w:World) (h:zeI b=v):Calls prog 146 #[.int .u8 (b.toNat:Int)] w fun e w'=>e= .returned (.bool v)∧w=w':=by
 rw[←h];exact zlm b w
def NumR (b:Bool) (w:World) (e:Ending) (w':World):Prop:= ∃n:Int,e= .returned (.tuple #[.int .i64 n,.bool b])∧w=w'
def NumV (l:List UInt8) (w:World) (e:Ending) (w':World):Prop:= ∃n:Int,e= .returned (.tuple #[.int .i64 n,.bool (zd6 l)])∧w=w'∧(zd6 l=true→n=(zdg l:Int))
theorem zfS (s:ByteArray) (w:World) (hs:s.size≤1099511627776) (hpos:0<s.size):
 Calls prog 151 #[.string s] w (NumV s.data.toList w):=by
 have hp2:(0:Int)<(s.size:Int):=by omega
 go_enter func151,ntmps151
 go_wp2_with fail
 go_loop [4,5] (fun v4 v5=> ∃k:Nat,k≤s.size∧v5= .int .i64 k∧v4= .int .i64 (zdg (s.data.toList.take k):Int)∧zio s.data.toList k) (fun _ v5=>s.size-(intOf v5).toNat)
 case atStart=>exact⟨0,by omega,rfl,rfl,zjt _⟩
 case round=>
  obtain⟨k,hk,rfl,rfl,hok⟩:=hrel;have HOk:=zaa hok;have hm:=hok.2.1;clear hok;by_cases hlt:k<s.size
  case neg=>
   obtain rfl:k=s.size:=by omega
   have HR:=zaa (show zd6 s.data.toList=true by
    have hl:s.data.toList.length=s.size:=by simp
    have h:=HOk.out;rw[←hl] at h;rw[znL h,hl];simpa using hpos)
   have HM:=zaa (show(zdg (s.data.toList.take s.size):Int)=(zdg s.data.toList:Int) by rw[List.take_of_length_le (by simp)]);generalize zdg (s.data.toList.take s.size)=m at *;go_wp2_with fail;go_ret2;exact⟨_,by rw[HR.out];rfl,rfl,fun _=>HM.out⟩
  case pos=>
   have HAt:=zaa (znT s k hlt);have k0:(0:Int)≤(k:Int):=by omega
   cases hd:zaJ s[k]
   ·have HR:=zaa (zlZ HAt.out hd)
    have HD:=zaa (fun w=>zgI s[k] w hd);clear hd;generalize zdg (s.data.toList.take k)=m at *;go_wp2_with(first|(go_at_call 148;refine(HD.out _).mono ?_;rintro e w' ⟨rfl,rfl⟩))
    go_ret2;exact⟨_,by rw[HR.out];rfl,rfl,fun h=>absurd (HR.out.symm.trans h) (by decide)⟩
   ·have HD:=zaa (fun w=>zgI s[k] w hd)
    have HDig:=zaa hd;obtain⟨z0,z1⟩:=(zbV _).1 hd;have HV:=zaa (zmS s[k] hd);have z2:(48:Int)≤(s[k].toNat:Int):=by omega
    have z3:(s[k].toNat:Int)≤57:=by omega
    clear hd;by_cases h0:1≤k∧zdg (s.data.toList.take k)=0
    ·have HR:=zaa (zmX HOk.out (by simp;exact hlt) h0.1 h0.2)
     have k1:(0:Int)<(k:Int):=by omega
     have hm0:((zdg (s.data.toList.take k):Int)==0)=true:=by rw[h0.2];rfl
     clear h0;generalize zdg (s.data.toList.take k)=m at *;go_wp2_with(first|(go_at_call 148;refine(HD.out _).mono ?_;rintro e w' ⟨rfl,rfl⟩))
     go_ret2;exact⟨_,by rw[HR.out];rfl,rfl,fun h=>absurd (HR.out.symm.trans h) (by decide)⟩
    ·have HBad:=zaa (fun(h:1073741824<zdg (s.data.toList.take k)*10+zew s[k])=>zmy (l:=s.data.toList) (k:=k) (b:=s[k]) HAt.out h)
     have HNx:=zaa (fun(h:zdg (s.data.toList.take k)*10+zew s[k]≤1073741824)=>zmR (l:=s.data.toList) (k:=k) (b:=s[k]) HOk.out HAt.out HDig.out (fun h1 h2=>h0 ⟨h1,h2⟩) h);have HTk:=zaa (zfB s.data.toList k s[k] HAt.out);have hguard:k=0∨(0<k∧zdg (s.data.toList.take k)≠0):=by omega
     have hv:=HV.out;by_cases hb:1073741824<zdg (s.data.toList.take k)*10+zew s[k]
     ·have HR:=zaa (HBad.out hb)
      have y1:(1073741824:Int)<(zdg (s.data.toList.take k):Int)*10+((s[k].toNat:Int)-48):=by rw[←hv];omega
      clear hb hv h0;generalize zdg (s.data.toList.take k)=m at *;rcases hguard with rfl|⟨g1,g2⟩
      ·clear k0
       go_wp2_with(first|(go_at_call 148;refine(HD.out _).mono ?_;rintro e w' ⟨rfl,rfl⟩))
       go_ret2;exact⟨_,by rw[HR.out];rfl,rfl,fun h=>absurd (HR.out.symm.trans h) (by decide)⟩
      ·have g1':(0:Int)<(k:Int):=by omega
       have g2':((m:Int)==0)=false:=by simp;omega
       clear g2;go_wp2_with(first|(go_at_call 148;refine(HD.out _).mono ?_;rintro e w' ⟨rfl,rfl⟩))
       go_ret2;exact⟨_,by rw[HR.out];rfl,rfl,fun h=>absurd (HR.out.symm.trans h) (by decide)⟩
     ·have HN:=zaa (HNx.out (by omega))
      have y1:(zdg (s.data.toList.take k):Int)*10+((s[k].toNat:Int)-48)≤1073741824:=by rw[←hv];omega
      have HE:Hid ((zdg (s.data.toList.take (k+1)):Int)=(zdg (s.data.toList.take k):Int)*10+((s[k].toNat:Int)-48)):=by
       show _=_
       rw[←hv,HTk.out];omega
      clear hb hv h0;generalize zdg (s.data.toList.take k)=m at *;rcases hguard with rfl|⟨g1,g2⟩
      ·clear k0
       go_wp2_with(first|(go_at_call 148;refine(HD.out _).mono ?_;rintro e w' ⟨rfl,rfl⟩))
       go_round
       case rel=>exact⟨0+1,by omega,rfl,by rw[HE.out],HN.out⟩
       case measure=>simp[intOf];omega
      ·have g1':(0:Int)<(k:Int):=by omega
       have g2':((m:Int)==0)=false:=by simp;omega
       clear g2;go_wp2_with(first|(go_at_call 148;refine(HD.out _).mono ?_;rintro e w' ⟨rfl,rfl⟩))
       go_round
       case rel=>exact⟨k+1,by omega,by go_num,by rw[HE.out],HN.out⟩
       case measure=>simp[intOf];omega
theorem zfR (s:ByteArray) (w:World) (hs:s.size≤1099511627776) (hpos:0<s.size):
 Calls prog 151 #[.string s] w (NumR (zd6 s.data.toList) w):=
 (zfS s w hs hpos).mono fun _ _ ⟨n,h1,h2,_⟩=>⟨n,h1,h2⟩
theorem zej (s:ByteArray) (w:World) (hs:s.size≤1099511627776) (hpos:0<s.size) (hl:Hid (za2 s[0]=true)) (hi:Hid (∀(k:Nat) (h:k<s.size),zaP s[k]=true)) (v:Bool) (hv:Hid (decide (s.size≤24)=v)):
 Calls prog 150 #[.string s] w fun e w'=>e= .returned (.bool v)∧w=w':=by
 have hp2:(0:Int)<(s.size:Int):=by omega
 have hne:((s.size:Int)==0)=false:=by rw[beq_eq_false_iff_ne];omega
 have HL:=zaa (fun w=>zkz s[0] w hl.out)
 cases v
 ·have hv':24<s.size:=by have h: ¬s.size≤24:=of_decide_eq_false hv.out;omega
  have h24:(24:Int)<(s.size:Int):=by omega
  go_enter func150,ntmps150
  go_wp2_with(first|(go_at_call 147;refine(HL.out _).mono ?_;rintro e w' ⟨rfl,rfl⟩))
  go_ret;exact⟨rfl,rfl⟩
 ·have hv':s.size≤24:=of_decide_eq_true hv.out
  have h24:(s.size:Int)≤24:=by omega
  go_enter func150,ntmps150
  go_wp2_with(first|(go_at_call 147;refine(HL.out _).mono ?_;rintro e w' ⟨rfl,rfl⟩))
  go_loop [3] (fun v3=> ∃k:Nat,k≤s.size∧v3= .int .i64 k) (fun v3=>s.size-(intOf v3).toNat)
  case atStart=>exact⟨0,by omega,rfl⟩
  case round=>
   obtain⟨k,hk,rfl⟩:=hrel;have k0:(0:Int)≤(k:Int):=by omega
   by_cases hlt:k<s.size
   case neg=>
    go_wp2_with fail;go_ret;exact⟨rfl,rfl⟩
   case pos=>
    have HI:=zaa (fun w=>zhH s[k] w (hi.out k hlt));go_wp2_with(first|(go_at_call 149;refine(HI.out _).mono ?_;rintro e w' ⟨rfl,rfl⟩))
    go_round
    case rel=>exact⟨k+1,by omega,by go_num⟩
    case measure=>simp[intOf];omega
def zm6:Nat→Rf (List Int)
 |0=>pure []
 |n+1=>do
  let a←zcW
  let l←zm6 n
  pure (a::l)
theorem zhf: ∀n,zaY (zi1 n) (zm6 n)
 |0=> .ret _
 |n+1=>zbD.bind fun _=>(zhf n).bind fun _=> .ret _
def zji:Rf zcQ:=do
 let op←zba zaE
 let l←zm6 (zaB zaN op).length
 zaR [59]
 pure ⟨op,l.getD 0 0,l.getD 1 0,l.getD 2 0⟩
theorem zhM:zaY zjp zji:=(zb8 _).bind fun _=>(zhf _).bind fun _=>(zar _).bind fun _=> .ret _
def zb3:Nat→List zcQ→Rf (List zcQ)
 |0,acc=>pure acc
 |f+1,acc=>fun s=>if s.here.kind==1 then(do
   let x←zji
   zb3 f (acc++[x])) s
  else(acc,s)
theorem zdK: ∀(f:Nat) (acc:List zcQ),zaY (zbn f acc) (zb3 f acc)
 |0,acc=> .ret acc
 |f+1,acc=>by
  have ih:=fun x=>zdK f (acc++[x])
  have hb:=zhM.bind ih;refine⟨fun s h=> ?_,fun s h=> ?_⟩
  ·unfold zbn zb3
   rw[InS.kind_eq h]
   cases(hdT s.r).kind==1
   ·show(acc,s)=(acc,_);rw[←InS.eta h]
   ·exact hb.fine s h
  ·unfold zb3
   rw[InS.kind_no h]
   rfl
def zdy:Rf (List zcQ):=fun s=>zb3 (s.r.length+1) [] s
theorem zeC:zaY zcs zdy:=zaY.dep (m:=fun r=>zbn (r.length+1) []) (n:=fun s=>zb3 (s.r.length+1) []) fun _=>zdK _ _
def zaW (x:List Tok×Nat×Nat) (size:Nat):InS:=⟨x.1,size,x.2.1,x.2.2⟩
def zeQ (x:List Tok×Nat×Nat) (size:Nat):List zcQ×InS:=
 let y:=zdy (zaW x size)
 (y.1,if y.2.r.isEmpty then y.2 else(zb9 80 y.2).2)
theorem zl9 (x:List Tok×Nat×Nat) (size:Nat):(if(zeQ x size).2.err=0 then((zeQ x size).1,0,0) else([],(zeQ x size).2.at_,(zeQ x size).2.err))=zez x size:=by
 unfold zez zeQ;by_cases h0:x.2.2=0
 ·rw[if_pos h0]
  have h:=zeC.fine (zaW x size) h0;have e:(zaW x size).r=x.1:=rfl;rw[e] at h
  cases hc:zcs x.1 with
  |ok c r=>
   rw[hc] at h;have h:zdy (zaW x size)=(c,⟨r,size,x.2.1,0⟩):=h;have e2:zes x.1=zpr c r:=zac hc;rw[e2];simp only[h]
   cases r with
   |nil=>rfl
   |cons t r=>rfl
  |bad e3 r=>
   rw[hc] at h;obtain⟨h1,h2,h3,h4⟩:=h;have e2:zes x.1= .bad e3 r:=zab hc;rw[e2];have hne:(zdy (zaW x size)).2.err≠0:=by rw[h2];exact h1
   have hs:(if(zdy (zaW x size)).2.r.isEmpty then(zdy (zaW x size)).2 else(zb9 80 (zdy (zaW x size)).2).2)=(zdy (zaW x size)).2:=by
    split
    ·rfl
    ·exact zcT hne 80
   simp only[hs];rw[h2,if_neg h1,h3]
   rfl
 ·rw[if_neg h0]
  have h:=zeC.stay (zaW x size) h0;have hne:(zaW x size).err≠0:=h0;have hs:(if(zdy (zaW x size)).2.r.isEmpty then(zdy (zaW x size)).2 else(zb9 80 (zdy (zaW x size)).2).2)=zaW x size:=by
   rw[h]
   split
   ·rfl
   ·exact zcT hne 80
  simp only[hs];rw[if_neg hne]
  rfl
theorem zlN (src:ByteArray) (p kd ln er:Nat) (hj:p<src.size) (h0:zaC false ((zan src).drop p)=0) (ht:za9 ((zan src).drop p)=(kd,ln,er)):
 zbM p ((zan src).drop p)=if er=0 then(⟨kd,((zan src).drop p).take ln,p⟩::(zbM (p+ln) ((zan src).drop (p+ln))).1,(zbM (p+ln) ((zan src).drop (p+ln))).2) else([],p,er):=by
 rw[zdD,h0,List.drop_zero,zaO src p hj];rw[zaO src p hj] at ht;simp only[ht];have e1:(src[p]::(zan src).drop (p+1)).drop ln=(zan src).drop (p+ln):=by rw[←zaO src p hj,List.drop_drop]
 rw[e1]
 rfl
def RAt (src:ByteArray) (p:Nat) (pre:List Tok):Prop:=p≤src.size∧zbM 0 (zan src)=(pre++(zbM p ((zan src).drop p)).1,(zbM p ((zan src).drop p)).2)
theorem RAt.start (src:ByteArray):RAt src 0 []:=⟨Nat.zero_le _,rfl⟩
theorem znE (src:ByteArray) (p q:Nat) (h:za8 src p=za8 src q):zbM p ((zan src).drop p)=zbM q ((zan src).drop q):=by
 have e: ∀j,zbM j ((zan src).drop j)=zbM (za8 src j) ((zan src).drop (za8 src j)):=by
  intro j;rw[zle j];unfold za8;rw[List.drop_drop]
 rw[e p,e q,h]
theorem RAt.to {src:ByteArray} {p q:Nat} {pre:List Tok} (h:RAt src p pre) (hq:q≤src.size) (he:za8 src p=za8 src q):RAt src q pre:=
 ⟨hq,by rw[h.2,znE src p q he]⟩
theorem RAt.blank {src:ByteArray} {p:Nat} {pre:List Tok} (h:RAt src p pre) (hp:p<src.size) (hb:zcu src[p]=true):RAt src (p+1) pre:=by
 refine h.to hp ?_;unfold za8;rw[zaO src p hp,zdG,if_pos hb]
 omega
theorem RAt.hash {src:ByteArray} {p:Nat} {pre:List Tok} (h:RAt src p pre) (hp:p<src.size) (hb:src[p]=35):RAt src (za7 zbU src p) pre∧p<za7 zbU src p:=by
 have h1:=zcF zbU src (p+1) hp;have h2:=zdk zbU src p hp (by rw[hb];rfl);exact⟨h.to (by omega) (zfK src p hp hb).symm,by omega⟩
theorem zht {src:ByteArray} {p:Nat} (hp:p<src.size) (h1:zcu src[p]=false) (h2:(src[p]==35)=false):zaC false ((zan src).drop p)=0:=by
 rw[zaO src p hp,zdG,h1,h2];simp
theorem RAt.tok {src:ByteArray} {p kd ln:Nat} {pre:List Tok} (h:RAt src p pre) (hp:p<src.size) (h1:zcu src[p]=false) (h2:(src[p]==35)=false) (ht:za9 ((zan src).drop p)=(kd,ln,0)):
 RAt src (p+ln) (pre++[⟨kd,((zan src).drop p).take ln,p⟩])∧p<p+ln:=by
 have hl:(zan src).length=src.size:=by simp[zan]
 have e0:za9 ((zan src).drop p)=za9 (src[p]::(zan src).drop (p+1)):=by rw[zaO src p hp]
 have e1:1≤ln:=by
  have:=zcr src[p] ((zan src).drop (p+1));rw[←e0,ht] at this;exact this rfl
 have e2:ln≤(src.size-(p+1))+1:=by
  have:=zia src[p] ((zan src).drop (p+1));rw[←e0,ht,List.length_drop,hl] at this;exact this
 refine⟨⟨by omega,?_⟩,by omega⟩;rw[h.2,zlN src p kd ln 0 hp (zht hp h1 h2) ht,if_pos rfl];simp
theorem RAt.bad {src:ByteArray} {p kd ln er:Nat} {pre:List Tok} (h:RAt src p pre) (hs:src.size≤65536) (hp:p<src.size) (h1:zcu src[p]=false) (h2:(src[p]==35)=false) (ht:za9 ((zan src).drop p)=(kd,ln,er)) (he:er≠0):
 zbr src.data.toList=([],p,er):=by
 have hll: ¬65536<src.data.toList.length:=by simp;show src.size≤65536;exact hs
 have e:=h.2;rw[zlN src p kd ln er hp (zht hp h1 h2) ht,if_neg he] at e;unfold zbr;rw[if_neg hll]
 show(if(zbM 0 (zan src)).2.2=0 then zbM 0 (zan src) else([],(zbM 0 (zan src)).2.1,(zbM 0 (zan src)).2.2))=_
 rw[e];simp only;rw[if_neg he]
theorem RAt.done {src:ByteArray} {p:Nat} {pre:List Tok} (h:RAt src p pre) (hs:src.size≤65536) (hp:src.size≤p):zbr src.data.toList=(pre,0,0):=by
 have hll: ¬65536<src.data.toList.length:=by simp;show src.size≤65536;exact hs
 have e:=h.2;rw[List.drop_eq_nil_of_le (by simpa [zan] using hp),zmW] at e;unfold zbr;rw[if_neg hll]
 show(if(zbM 0 (zan src)).2.2=0 then zbM 0 (zan src) else _)=_
 rw[e];simp
theorem zoB (src:ByteArray) (p q:Nat) (h1:p<q) (h2:q≤src.size):(src.extract p q).size=q-p∧(src.extract p q).data.toList=((zan src).drop p).take (q-p)∧(∀(k:Nat) (hk:k<(src.extract p q).size),∃h:p+k<src.size,(src.extract p q)[k]=src[p+k]):=by
 have hz:(src.extract p q).size=q-p:=by rw[ByteArray.size_extract];omega
 refine⟨hz,?_,fun k hk=>⟨by omega,?_⟩⟩
 ·rw[Lib.extract_data];rfl
 ·have hb:p+k<src.data.size:=by show p+k<src.size;omega
  show(src.extract p q).data[k]=src.data[p+k]
  simp[ByteArray.data_extract]
theorem zls (p:UInt8→Bool) (src:ByteArray) (j:Nat) (k:Nat) (h1:j≤k) (h2:k<za7 p src j): ∃h:k<src.size,p src[k]=true:=by
 unfold za7 at h2;have hlt:k-j<(((zan src).drop j).takeWhile p).length:=by omega
 have hpre:=List.takeWhile_prefix (l:=(zan src).drop j) p;have hle:=hpre.length_le;rw[List.length_drop,show(zan src).length=src.size by simp[zan]] at hle;have hk:k<src.size:=by omega
 refine⟨hk,?_⟩;have hall:=List.all_takeWhile (l:=(zan src).drop j) (p:=p);rw[List.all_eq_true] at hall;have hm:=hall _ (List.getElem_mem hlt);have he:=hpre.getElem hlt;rw[he] at hm;have e2:((zan src).drop j)[k-j]'(by rw[List.length_drop,show(zan src).length=src.size by simp[zan]];omega)=src[k]:=by
  rw[List.getElem_drop]
  show src.data.toList[j+(k-j)]'_=_
  simp only[show j+(k-j)=k from by omega]
  rfl
 rw[e2] at hm;exact hm
def zg0 (l:List Tok):List Value:=zf3 .i64 (l.map Tok.toZ)
def zjZ (w:World) (src:ByteArray) (e:Ending) (w':World):Prop:=
 ∃v,e= .returned (.tuple #[v,.int .i64 ((zbr src.data.toList).2.1:Int),.int .i64 ((zbr src.data.toList).2.2:Int)])∧w'.ownsRow w.heap.size 192 3 v (zbr src.data.toList).1.length (zg0 (zbr src.data.toList).1)∧Below w.heap.size w w'
theorem zdV {w w':World} {src:ByteArray} {p er:Nat} (h:zbr src.data.toList=([],p,er)) (hb:Below w.heap.size w w'):zjZ w src (.returned (.tuple #[.slice none 0 0,.int .i64 (p:Int),.int .i64 (er:Int)])) w':=
 ⟨.slice none 0 0,by rw[h],by rw[h];exact⟨rfl,.inl ⟨rfl,rfl⟩⟩,hb⟩
theorem zks {w w':World} {src:ByteArray} {pre:List Tok} {v:Value} (h:zbr src.data.toList=(pre,0,0)) (ho:w'.ownsRow w.heap.size 192 3 v pre.length (zg0 pre)) (hb:Below w.heap.size w w'):zjZ w src (.returned (.tuple #[v,.int .i64 0,.int .i64 0])) w':=
 ⟨v,by rw[h];rfl,by rw[h];exact ho,hb⟩
theorem zj8 (pre:List Tok) (t:Tok):zg0 (pre++[t])=zg0 pre++[.int .i64 (t.kind:Int),.string ⟨t.text.toArray⟩,.int .i64 (t.at_:Int)]:=by
 unfold zg0;rw[List.map_append];exact zeK _ _ _
theorem zlh (src:ByteArray) (w:World) (hl:65536<src.size):Calls prog 120 #[.string src] w (zjZ w src):=by
 have HR:Hid (zbr src.data.toList=([],0,3)):=by show _=_;unfold zbr;rw[if_pos (by simpa using hl)]
 have h1:(65536:Int)<(src.size:Int):=by omega
 go_enter func120,ntmps120
 go_wp2_with fail;refine bodyPost_ret (v:= .tuple #[.slice none 0 0,.int .i64 0,.int .i64 3]) (by simp[results,Tryz.results120,go_sem]) rfl (zdV HR.out (Below.refl _ _))
theorem zdi (pre:List Tok) (kd p:Nat) (T:ByteArray) (l:List UInt8) (z:Int) (hz:(kd:Int)=z) (h:T.data.toList=l):zg0 (pre++[⟨kd,l,p⟩])=zg0 pre++[.int .i64 z,.string T,.int .i64 (p:Int)]:=by
 subst h hz;exact zj8 _ _
theorem zdF (p:UInt8→Bool) (src:ByteArray) (j q:Nat) (h:za7 p src q=za7 p src j) (hq:src.size≤q):za7 p src j=q:=by
 rw[←h];exact zhD p src q hq
theorem zd4 (p:UInt8→Bool) (src:ByteArray) (j q:Nat) (h:za7 p src q=za7 p src j) (hq:q<src.size) (hn:p src[q]=false):za7 p src j=q:=by
 rw[←h];exact ziY p src q hq hn
structure zlL (src T:ByteArray) (p q:Nat):Prop where
 size:T.size=q-p
 list:T.data.toList=((zan src).drop p).take (q-p)
 first: ∃(h1:p<src.size) (h2:0<T.size),T[0]=src[p]
 inner: ∀(k:Nat) (h:k<T.size),1≤k→zaP T[k]=true
 run:za7 zaP src (p+1)=q
theorem zl5 (src:ByteArray) (p q:Nat) (hp:p<q) (hq:q≤src.size) (hr:za7 zaP src (p+1)=q):zlL src (src.extract p q) p q:=by
 obtain⟨h1,h2,h3⟩:=zoB src p q hp hq;refine⟨h1,h2,⟨by omega,by omega,?_⟩,fun k hk hk1=> ?_,hr⟩
 ·obtain⟨_,e⟩:=h3 0 (by omega)
  simpa using e
 ·obtain⟨_,e⟩:=h3 k hk
  rw[e];exact(zls zaP src (p+1) (p+k) (by omega) (by omega)).2
theorem ziO (b:UInt8) (h:za2 b=true∨zaJ b=true):zeI b=false:=by
 rw[Bool.eq_false_iff];intro hs;unfold zeI at hs;simp only[Bool.or_eq_true,beq_iff_eq] at hs;rcases hs with((((rfl|rfl)|rfl)|rfl)|rfl)|rfl<;>revert h<;>decide
theorem zfF (b:UInt8) (h:za2 b=true):zaP b=true:=by unfold zaP;rw[h];rfl
theorem zlL.word {src T:ByteArray} {p q:Nat} (h:zlL src T p q) (hl:za2 (src[p]'h.first.1)=true):(∀(k:Nat) (hk:k<T.size),zaP T[k]=true)∧(∃h0:0<T.size,za2 T[0]=true)∧za9 ((zan src).drop p)=(1,q-p,if 24<T.size then 71 else 0):=by
 obtain⟨h1,h2,h3⟩:=h.first;refine⟨fun k hk=> ?_,⟨h2,by rw[h3];exact hl⟩,?_⟩
 ·rcases Nat.eq_zero_or_pos k with rfl|hk1
  ·rw[h3];exact zfF _ hl
  ·exact h.inner k hk hk1
 ·rw[zgH src p h1 hl,h.run,h.size]
theorem zlL.num {src T:ByteArray} {p q:Nat} (h:zlL src T p q) (hl:za2 (src[p]'h.first.1)=false) (hd:zaJ (src[p]'h.first.1)=true):za9 ((zan src).drop p)=(2,q-p,if zd6 T.data.toList then 0 else 72):=by
 obtain⟨h1,h2,h3⟩:=h.first;have hn:=zlU src p h1 hl hd;rw[h.run] at hn;rw[hn];have e:src[p]::((zan src).drop (p+1)).take (zcX ((zan src).drop (p+1)))=T.data.toList:=by
  have hq:q=p+1+zcX ((zan src).drop (p+1)):=by rw[←h.run,ziD]
  rw[h.list,hq,show p+1+zcX ((zan src).drop (p+1))-p=zcX ((zan src).drop (p+1))+1 from by omega]
  conv=>rhs;rw[zaO src p h1]
  rw[List.take_succ_cons]
 rw[e]
theorem zjJ (src:ByteArray) (w:World) (hl:src.size≤65536):Calls prog 120 #[.string src] w (zjZ w src):=by
 obtain⟨i0,hi0,hz0,hz1,hz2⟩:=info_parts zml;have h1:(src.size:Int)≤65536:=by omega
 go_enter func120,ntmps120
 go_wp2_with fail
 go_loopw [5,6] (fun v5 v6 wr=> ∃(p:Nat) (pre:List Tok),v6= .int .i64 p∧wr.ownsRow w.heap.size 192 3 v5 pre.length (zg0 pre)∧Below w.heap.size w wr∧RAt src p pre∧pre.length≤p) (fun _ v6 _=>src.size-(intOf v6).toNat)
 case atStart=>exact⟨0,[],rfl,World.ownsRow_nil _ _ _ _,Below.refl _ _,RAt.start src,Nat.le_refl _⟩
 case round=>
  obtain⟨p,pre,rfl,ho,hbr,hA,hpp⟩:=hrel;have hp:=hA.1;have HA:=zaa hA;have HO:=zaa ho;have HB:=zaa hbr;have hz:=hbr.size;clear hA ho hbr;have p0:(0:Int)≤(p:Int):=by omega
  by_cases hlt:p<src.size
  case neg=>
   have HR:=zaa (HA.out.done hl (by omega));go_wp2_with fail
   go_ret3
   exact zks HR.out HO.out HB.out
  case pos=>
   have E1:Hid (((src[p].toNat:Int)==32)=(src[p]==32)):=zcm src[p] 32;have E2:Hid (((src[p].toNat:Int)==9)=(src[p]==9)):=zcm src[p] 9;have E3:Hid (((src[p].toNat:Int)==10)=(src[p]==10)):=zcm src[p] 10;have E4:Hid (((src[p].toNat:Int)==13)=(src[p]==13)):=zcm src[p] 13;have E5:Hid (((src[p].toNat:Int)==35)=(src[p]==35)):=zcm src[p] 35;have HBlank:Hid (zcu src[p]=(src[p]==32||src[p]==9||src[p]==10||src[p]==13)):=rfl
   cases u1:(src[p]==32)
   case true=>
    have HBk:=zaa (HA.out.blank hlt (by rw[HBlank.out,u1];rfl));have f1:=E1.out.trans u1;clear u1;go_wp2_with fail;go_roundw
    case rel=>exact⟨p+1,pre,by go_num,HO.out,HB.out,HBk.out,by omega⟩
    case measure=>simp[intOf];omega
   have f1:=E1.out.trans u1
   cases u2:(src[p]==9)
   case true=>
    have HBk:=zaa (HA.out.blank hlt (by rw[HBlank.out,u1,u2];rfl));have f2:=E2.out.trans u2;clear u1 u2;go_wp2_with fail;go_roundw
    case rel=>exact⟨p+1,pre,by go_num,HO.out,HB.out,HBk.out,by omega⟩
    case measure=>simp[intOf];omega
   have f2:=E2.out.trans u2
   cases u3:(src[p]==10)
   case true=>
    have HBk:=zaa (HA.out.blank hlt (by rw[HBlank.out,u1,u2,u3];rfl));have f3:=E3.out.trans u3;clear u1 u2 u3;go_wp2_with fail;go_roundw
    case rel=>exact⟨p+1,pre,by go_num,HO.out,HB.out,HBk.out,by omega⟩
    case measure=>simp[intOf];omega
   have f3:=E3.out.trans u3
   cases u4:(src[p]==13)
   case true=>
    have HBk:=zaa (HA.out.blank hlt (by rw[HBlank.out,u1,u2,u3,u4];rfl));have f4:=E4.out.trans u4;clear u1 u2 u3 u4;go_wp2_with fail;go_roundw
    case rel=>exact⟨p+1,pre,by go_num,HO.out,HB.out,HBk.out,by omega⟩
    case measure=>simp[intOf];omega
   have f4:=E4.out.trans u4;have HBl:Hid (zcu src[p]=false):=zaa (by rw[HBlank.out,u1,u2,u3,u4];rfl);clear u1 u2 u3 u4 HBlank
   cases u5:(src[p]==35)
   case true=>
    have f5:=E5.out.trans u5;have HH:=zaa (HA.out.hash hlt (by simpa using u5));clear u5;go_wp2_with fail
    go_loop [6] (fun v6=> ∃q:Nat,p≤q∧q≤src.size∧v6= .int .i64 q∧za7 zbU src q=za7 zbU src p) (fun v6=>src.size-(intOf v6).toNat)
    case atStart=>exact⟨p,Nat.le_refl _,hp,rfl,rfl⟩
    case round=>
     obtain⟨q,hq1,hq2,rfl,hr⟩:=hrel;have HRn:=zaa hr;clear hr;have q0:(0:Int)≤(q:Int):=by omega
     by_cases hq:q<src.size
     ·have EL:Hid (((src[q].toNat:Int)==10)=(src[q]==10)):=zcm src[q] 10
      cases hl10:(src[q]==10)
      ·have HN:=zaa (zdk zbU src q hq (by unfold zbU;rw[bne,hl10];rfl))
       have g1:((src[q].toNat:Int) != 10)=true:=by rw[bne,EL.out,hl10];rfl
       clear hl10;go_wp2_with fail
       go_round
       case rel=>exact⟨q+1,by omega,by omega,by go_num,HN.out.trans HRn.out⟩
       case measure=>simp[intOf];omega
      ·have HN:=zaa (zd4 zbU src p q HRn.out hq (by unfold zbU;rw[bne,hl10];rfl))
       have g1:((src[q].toNat:Int) != 10)=false:=by rw[bne,EL.out,hl10];rfl
       clear hl10;go_wp2_with fail;have hpq:p<q:=by have:=HH.out.2;rw[HN.out] at this;exact this
       have hA2:=HH.out.1;rw[HN.out] at hA2;have HA2:=zaa hA2;clear hA2;go_roundw
       case rel=>exact⟨q,pre,rfl,HO.out,HB.out,HA2.out,by omega⟩
       case measure=>simp[intOf];omega
     ·have HN:=zaa (zdF zbU src p q HRn.out (by omega))
      have g1:decide (q<src.size)=false:=by simp;omega
      go_wp2_with fail;have hpq:p<q:=by have:=HH.out.2;rw[HN.out] at this;exact this
      have hA2:=HH.out.1;rw[HN.out] at hA2;have HA2:=zaa hA2;clear hA2;go_roundw
      case rel=>exact⟨q,pre,rfl,HO.out,HB.out,HA2.out,by omega⟩
      case measure=>simp[intOf];omega
   have f5:=E5.out.trans u5;have H35:=zaa u5;clear u5 E1 E2 E3 E4 E5
   cases hsg:zeI src[p]
   case true=>
    have HSg:=zaa (fun w=>znf src[p] w hsg)
    cases hlet:za2 src[p]
    case true=>exact absurd hsg (by rw[ziO src[p] (.inl hlet)];simp)
    cases hdig:zaJ src[p]
    case true=>exact absurd hsg (by rw[ziO src[p] (.inr hdig)];simp)
    have ht:=ziU src p hlt hlet hdig (by rw[zfn];exact hsg);have HNx:=zaa (HA.out.tok hlt HBl.out H35.out ht);have HSn:=zaa (zdi pre 3 p (src.extract p (p+1)) _ 3 rfl (by rw[zfa]));have HEq:Hid ((p+1:Nat)=p+1):=rfl;clear ht hsg hlet hdig;go_wp2_with(first|(go_at_call 146;refine(HSg.out _).mono ?_;rintro e w' ⟨rfl,rfl⟩)|(at_builtin;apply Hid.out))
    refine zaa ?_;refine wpList_append_own _ rfl _ _ 156 rfl w.heap.size 192 i0 (.agg #[.int .i64 0,.string ⟨#[]⟩,.int .i64 0]) 3 32 underlying156 hi0 hz0 hz1 hz2 rfl (by decide) _ _ _ rfl (HO.out.alloc _) ⟨wr.heap.size,0,none⟩ 1 1 [.int .i64 3,.string (src.extract p (p+1)),.int .i64 (p:Int)] rfl rfl (zbB (by simp)) (by simp[Value.oneCell']) (by unfold maxLen;omega) (by omega) (by simp;omega) ?_;intro v' w1 hown' hgrow _;have HG:Hid (Below w.heap.size wr w1):=zaa (Below.grown ((Below.refl _ wr).alloc (by omega) _) hgrow (by simp;omega) (fun g hg=>(HO.out.lt g hg).1));rw[←HSn.out] at hown';have HO2:=zaa hown';clear hown' hgrow
    try go_wp2
    go_roundw
    case rel=>exact⟨_,_,(by go_num),by rw[List.length_append];exact HO2.out,HB.out.trans HG.out,HNx.out.1,by rw[List.length_append];simp;omega⟩
    case measure=>simp[intOf];omega
   have HSg:=zaa (fun w=>znf src[p] w hsg)
   cases hlet:za2 src[p]
   ·have HLt:=zaa (fun w=>zkz src[p] w hlet)
    cases hdig:zaJ src[p]
    ·have HDg:=zaa (fun w=>zgI src[p] w hdig)
     have ht:=zkN src p hlt hlet hdig (by rw[zfn];exact hsg);have HR:=zaa (HA.out.bad hl hlt HBl.out H35.out ht (by decide));clear ht hsg hlet hdig;go_wp2_with(first|(go_at_call 146;refine(HSg.out _).mono ?_;rintro e w' ⟨rfl,rfl⟩)|(go_at_call 147;refine(HLt.out _).mono ?_;rintro e w' ⟨rfl,rfl⟩)|(go_at_call 148;refine(HDg.out _).mono ?_;rintro e w' ⟨rfl,rfl⟩))
     go_ret3
     exact zdV HR.out HB.out
    ·have HDg:=zaa (fun w=>zgI src[p] w hdig)
     have HDi:=zaa hdig;have HLe:=zaa hlet;clear hsg hdig hlet;go_wp2_with(first|(go_at_call 146;refine(HSg.out _).mono ?_;rintro e w' ⟨rfl,rfl⟩)|(go_at_call 147;refine(HLt.out _).mono ?_;rintro e w' ⟨rfl,rfl⟩)|(go_at_call 148;refine(HDg.out _).mono ?_;rintro e w' ⟨rfl,rfl⟩))
     go_loop [8] (fun v8=> ∃q:Nat,p<q∧q≤src.size∧v8= .int .i64 q∧za7 zaP src q=za7 zaP src (p+1)) (fun v8=>src.size-(intOf v8).toNat)
     case atStart=>exact⟨p+1,by omega,by omega,by go_num,rfl⟩
     case round=>
      obtain⟨q,hq1,hq2,rfl,hr⟩:=hrel;have HRn:=zaa hr;clear hr;have q0:(0:Int)≤(q:Int):=by omega
      by_cases hq:q<src.size
      ·cases hin:zaP src[q]
       ·have HIn:=zaa (fun w=>zhH src[q] w hin)
        have HRun:=zaa (zd4 zaP src (p+1) q HRn.out hq hin);clear hin;go_wp2_with(go_at_call 149;refine(HIn.out _).mono ?_;rintro e w' ⟨rfl,rfl⟩)
        have HT:=zaa (zl5 src p q (by omega) hq2 HRun.out);have hTs:(src.extract p q).size≤65536:=by have:=HT.out.size;omega
        have hTp:0<(src.extract p q).size:=by have:=HT.out.size;omega
        have hq0:(p:Int)≤(q:Int):=by omega
        have hq3:(q:Int)≤(src.size:Int):=by omega
        have HEq:Hid ((p+(q-p):Nat)=q):=zaa (by omega);have HTT:Hid (∃T,src.extract p q=T):=⟨_,rfl⟩;have ht:=HT.out.num HLe.out HDi.out;have HNum:=zaa (fun w=>zfR (src.extract p q) w (by omega) hTp)
        cases hnb:zd6 (src.extract p q).data.toList
        ·rw[hnb] at ht HNum
         have HR:=zaa (HA.out.bad hl hlt HBl.out H35.out ht (by decide));clear hnb ht;go_wp2_with(first|(go_at_call 147;refine(HLt.out _).mono ?_;rintro e w' ⟨rfl,rfl⟩)|(go_at_call 148;refine(HDg.out _).mono ?_;rintro e w' ⟨rfl,rfl⟩)|(go_at_call 151;refine(HNum.out _).mono ?_;rintro e w' ⟨nn,rfl,rfl⟩)|(at_builtin;apply Hid.out))
         go_ret3
         exact zdV HR.out (HB.out.trans ((Below.refl _ wr).alloc (by omega) _))
        ·rw[hnb] at ht HNum
         have HNx:=zaa (HA.out.tok hlt HBl.out H35.out ht);have HSn:=zaa (zdi pre 2 p (src.extract p q) _ 2 rfl HT.out.list);clear hnb ht;generalize src.extract p q=T at *;go_wp2_with(first|(go_at_call 147;refine(HLt.out _).mono ?_;rintro e w' ⟨rfl,rfl⟩)|(go_at_call 148;refine(HDg.out _).mono ?_;rintro e w' ⟨rfl,rfl⟩)|(go_at_call 151;refine(HNum.out _).mono ?_;rintro e w' ⟨nn,rfl,rfl⟩)|(at_builtin;apply Hid.out))
         refine zaa ?_;refine wpList_append_own _ rfl _ _ 156 rfl w.heap.size 192 i0 (.agg #[.int .i64 0,.string ⟨#[]⟩,.int .i64 0]) 3 32 underlying156 hi0 hz0 hz1 hz2 rfl (by decide) _ _ _ rfl ((HO.out.alloc _).alloc _) ⟨(wr.heap.size+1),0,none⟩ 1 1 [.int .i64 2,.string T,.int .i64 (p:Int)] rfl rfl (zbB (by simp)) (by simp[Value.oneCell']) (by unfold maxLen;omega) (by omega) (by simp;omega) ?_;intro v' w1 hown' hgrow _;have HG:Hid (Below w.heap.size wr w1):=zaa (Below.grown (((Below.refl _ wr).alloc (by omega) _).alloc (by simp;omega) _) hgrow (by simp;omega) (fun g hg=>(HO.out.lt g hg).1));rw[←HSn.out] at hown';have HO2:=zaa hown';clear hown' hgrow
         try go_wp2
         go_roundw
         case rel=>exact⟨_,_,(by rw[HEq.out]),by rw[List.length_append];exact HO2.out,HB.out.trans HG.out,HNx.out.1,by rw[List.length_append];simp;omega⟩
         case measure=>simp[intOf];omega
       ·have HIn:=zaa (fun w=>zhH src[q] w hin)
        have HN:=zaa (zdk zaP src q hq hin);clear hin;go_wp2_with(go_at_call 149;refine(HIn.out _).mono ?_;rintro e w' ⟨rfl,rfl⟩)
        go_round
        case rel=>exact⟨q+1,by omega,by omega,by go_num,HN.out.trans HRn.out⟩
        case measure=>simp[intOf];omega
      ·have HRun:=zaa (zdF zaP src (p+1) q HRn.out (by omega))
       have g1:decide (q<src.size)=false:=by simp;omega
       go_wp2_with fail;have HT:=zaa (zl5 src p q (by omega) hq2 HRun.out);have hTs:(src.extract p q).size≤65536:=by have:=HT.out.size;omega
       have hTp:0<(src.extract p q).size:=by have:=HT.out.size;omega
       have hq0:(p:Int)≤(q:Int):=by omega
       have hq3:(q:Int)≤(src.size:Int):=by omega
       have HEq:Hid ((p+(q-p):Nat)=q):=zaa (by omega);have HTT:Hid (∃T,src.extract p q=T):=⟨_,rfl⟩;have ht:=HT.out.num HLe.out HDi.out;have HNum:=zaa (fun w=>zfR (src.extract p q) w (by omega) hTp)
       cases hnb:zd6 (src.extract p q).data.toList
       ·rw[hnb] at ht HNum
        have HR:=zaa (HA.out.bad hl hlt HBl.out H35.out ht (by decide));clear hnb ht;go_wp2_with(first|(go_at_call 147;refine(HLt.out _).mono ?_;rintro e w' ⟨rfl,rfl⟩)|(go_at_call 148;refine(HDg.out _).mono ?_;rintro e w' ⟨rfl,rfl⟩)|(go_at_call 151;refine(HNum.out _).mono ?_;rintro e w' ⟨nn,rfl,rfl⟩)|(at_builtin;apply Hid.out))
        go_ret3
        exact zdV HR.out (HB.out.trans ((Below.refl _ wr).alloc (by omega) _))
       ·rw[hnb] at ht HNum
        have HNx:=zaa (HA.out.tok hlt HBl.out H35.out ht);have HSn:=zaa (zdi pre 2 p (src.extract p q) _ 2 rfl HT.out.list);clear hnb ht;generalize src.extract p q=T at *;go_wp2_with(first|(go_at_call 147;refine(HLt.out _).mono ?_;rintro e w' ⟨rfl,rfl⟩)|(go_at_call 148;refine(HDg.out _).mono ?_;rintro e w' ⟨rfl,rfl⟩)|(go_at_call 151;refine(HNum.out _).mono ?_;rintro e w' ⟨nn,rfl,rfl⟩)|(at_builtin;apply Hid.out))
        refine zaa ?_;refine wpList_append_own _ rfl _ _ 156 rfl w.heap.size 192 i0 (.agg #[.int .i64 0,.string ⟨#[]⟩,.int .i64 0]) 3 32 underlying156 hi0 hz0 hz1 hz2 rfl (by decide) _ _ _ rfl ((HO.out.alloc _).alloc _) ⟨(wr.heap.size+1),0,none⟩ 1 1 [.int .i64 2,.string T,.int .i64 (p:Int)] rfl rfl (zbB (by simp)) (by simp[Value.oneCell']) (by unfold maxLen;omega) (by omega) (by simp;omega) ?_;intro v' w1 hown' hgrow _;have HG:Hid (Below w.heap.size wr w1):=zaa (Below.grown (((Below.refl _ wr).alloc (by omega) _).alloc (by simp;omega) _) hgrow (by simp;omega) (fun g hg=>(HO.out.lt g hg).1));rw[←HSn.out] at hown';have HO2:=zaa hown';clear hown' hgrow
        try go_wp2
        go_roundw
        case rel=>exact⟨_,_,(by rw[HEq.out]),by rw[List.length_append];exact HO2.out,HB.out.trans HG.out,HNx.out.1,by rw[List.length_append];simp;omega⟩
        case measure=>simp[intOf];omega
   ·have HLt:=zaa (fun w=>zkz src[p] w hlet)
    have HDg:=zaa (fun w=>zeG src[p] w);have HLe:=zaa hlet;clear hsg hlet;go_wp2_with(first|(go_at_call 146;refine(HSg.out _).mono ?_;rintro e w' ⟨rfl,rfl⟩)|(go_at_call 147;refine(HLt.out _).mono ?_;rintro e w' ⟨rfl,rfl⟩)|(go_at_call 148;refine(HDg.out _).mono ?_;rintro e w' ⟨rfl,rfl⟩))
    go_loop [8] (fun v8=> ∃q:Nat,p<q∧q≤src.size∧v8= .int .i64 q∧za7 zaP src q=za7 zaP src (p+1)) (fun v8=>src.size-(intOf v8).toNat)
    case atStart=>exact⟨p+1,by omega,by omega,by go_num,rfl⟩
    case round=>
     obtain⟨q,hq1,hq2,rfl,hr⟩:=hrel;have HRn:=zaa hr;clear hr;have q0:(0:Int)≤(q:Int):=by omega
     by_cases hq:q<src.size
     ·cases hin:zaP src[q]
      ·have HIn:=zaa (fun w=>zhH src[q] w hin)
       have HRun:=zaa (zd4 zaP src (p+1) q HRn.out hq hin);clear hin;go_wp2_with(go_at_call 149;refine(HIn.out _).mono ?_;rintro e w' ⟨rfl,rfl⟩)
       have HT:=zaa (zl5 src p q (by omega) hq2 HRun.out);have hTs:(src.extract p q).size≤65536:=by have:=HT.out.size;omega
       have hTp:0<(src.extract p q).size:=by have:=HT.out.size;omega
       have hq0:(p:Int)≤(q:Int):=by omega
       have hq3:(q:Int)≤(src.size:Int):=by omega
       have HEq:Hid ((p+(q-p):Nat)=q):=zaa (by omega);have HTT:Hid (∃T,src.extract p q=T):=⟨_,rfl⟩;obtain⟨hw1,⟨hw2,hw3⟩,ht⟩:=HT.out.word HLe.out;by_cases h24:(src.extract p q).size≤24
       ·have HNm:=zaa (fun w=>zej (src.extract p q) w (by omega) hTp (zaa hw3) (zaa hw1) true (zaa (by simpa using h24)))
        rw[if_neg (by omega)] at ht;have HNx:=zaa (HA.out.tok hlt HBl.out H35.out ht);have HSn:=zaa (zdi pre 1 p (src.extract p q) _ 1 rfl HT.out.list);clear hw1 hw3 ht h24;generalize src.extract p q=T at *;go_wp2_with(first|(go_at_call 147;refine(HLt.out _).mono ?_;rintro e w' ⟨rfl,rfl⟩)|(go_at_call 150;refine(HNm.out _).mono ?_;rintro e w' ⟨rfl,rfl⟩)|(at_builtin;apply Hid.out))
        refine zaa ?_;refine wpList_append_own _ rfl _ _ 156 rfl w.heap.size 192 i0 (.agg #[.int .i64 0,.string ⟨#[]⟩,.int .i64 0]) 3 32 underlying156 hi0 hz0 hz1 hz2 rfl (by decide) _ _ _ rfl ((HO.out.alloc _).alloc _) ⟨(wr.heap.size+1),0,none⟩ 1 1 [.int .i64 1,.string T,.int .i64 (p:Int)] rfl rfl (zbB (by simp)) (by simp[Value.oneCell']) (by unfold maxLen;omega) (by omega) (by simp;omega) ?_;intro v' w1 hown' hgrow _;have HG:Hid (Below w.heap.size wr w1):=zaa (Below.grown (((Below.refl _ wr).alloc (by omega) _).alloc (by simp;omega) _) hgrow (by simp;omega) (fun g hg=>(HO.out.lt g hg).1));rw[←HSn.out] at hown';have HO2:=zaa hown';clear hown' hgrow
        try go_wp2
        go_roundw
        case rel=>exact⟨_,_,(by rw[HEq.out]),by rw[List.length_append];exact HO2.out,HB.out.trans HG.out,HNx.out.1,by rw[List.length_append];simp;omega⟩
        case measure=>simp[intOf];omega
       ·have HNm:=zaa (fun w=>zej (src.extract p q) w (by omega) hTp (zaa hw3) (zaa hw1) false (zaa (by simpa using h24)))
        rw[if_pos (by omega)] at ht;have HR:=zaa (HA.out.bad hl hlt HBl.out H35.out ht (by decide));clear hw1 hw3 ht h24;go_wp2_with(first|(go_at_call 147;refine(HLt.out _).mono ?_;rintro e w' ⟨rfl,rfl⟩)|(go_at_call 150;refine(HNm.out _).mono ?_;rintro e w' ⟨rfl,rfl⟩)|(at_builtin;apply Hid.out))
        go_ret3
        exact zdV HR.out (HB.out.trans ((Below.refl _ wr).alloc (by omega) _))
      ·have HIn:=zaa (fun w=>zhH src[q] w hin)
       have HN:=zaa (zdk zaP src q hq hin);clear hin;go_wp2_with(go_at_call 149;refine(HIn.out _).mono ?_;rintro e w' ⟨rfl,rfl⟩)
       go_round
       case rel=>exact⟨q+1,by omega,by omega,by go_num,HN.out.trans HRn.out⟩
       case measure=>simp[intOf];omega
     ·have HRun:=zaa (zdF zaP src (p+1) q HRn.out (by omega))
      have g1:decide (q<src.size)=false:=by simp;omega
      go_wp2_with fail;have HT:=zaa (zl5 src p q (by omega) hq2 HRun.out);have hTs:(src.extract p q).size≤65536:=by have:=HT.out.size;omega
      have hTp:0<(src.extract p q).size:=by have:=HT.out.size;omega
      have hq0:(p:Int)≤(q:Int):=by omega
      have hq3:(q:Int)≤(src.size:Int):=by omega
      have HEq:Hid ((p+(q-p):Nat)=q):=zaa (by omega);have HTT:Hid (∃T,src.extract p q=T):=⟨_,rfl⟩;obtain⟨hw1,⟨hw2,hw3⟩,ht⟩:=HT.out.word HLe.out;by_cases h24:(src.extract p q).size≤24
      ·have HNm:=zaa (fun w=>zej (src.extract p q) w (by omega) hTp (zaa hw3) (zaa hw1) true (zaa (by simpa using h24)))
       rw[if_neg (by omega)] at ht;have HNx:=zaa (HA.out.tok hlt HBl.out H35.out ht);have HSn:=zaa (zdi pre 1 p (src.extract p q) _ 1 rfl HT.out.list);clear hw1 hw3 ht h24;generalize src.extract p q=T at *;go_wp2_with(first|(go_at_call 147;refine(HLt.out _).mono ?_;rintro e w' ⟨rfl,rfl⟩)|(go_at_call 150;refine(HNm.out _).mono ?_;rintro e w' ⟨rfl,rfl⟩)|(at_builtin;apply Hid.out))
       refine zaa ?_;refine wpList_append_own _ rfl _ _ 156 rfl w.heap.size 192 i0 (.agg #[.int .i64 0,.string ⟨#[]⟩,.int .i64 0]) 3 32 underlying156 hi0 hz0 hz1 hz2 rfl (by decide) _ _ _ rfl ((HO.out.alloc _).alloc _) ⟨(wr.heap.size+1),0,none⟩ 1 1 [.int .i64 1,.string T,.int .i64 (p:Int)] rfl rfl (zbB (by simp)) (by simp[Value.oneCell']) (by unfold maxLen;omega) (by omega) (by simp;omega) ?_;intro v' w1 hown' hgrow _;have HG:Hid (Below w.heap.size wr w1):=zaa (Below.grown (((Below.refl _ wr).alloc (by omega) _).alloc (by simp;omega) _) hgrow (by simp;omega) (fun g hg=>(HO.out.lt g hg).1));rw[←HSn.out] at hown';have HO2:=zaa hown';clear hown' hgrow
       try go_wp2
       go_roundw
       case rel=>exact⟨_,_,(by rw[HEq.out]),by rw[List.length_append];exact HO2.out,HB.out.trans HG.out,HNx.out.1,by rw[List.length_append];simp;omega⟩
       case measure=>simp[intOf];omega
      ·have HNm:=zaa (fun w=>zej (src.extract p q) w (by omega) hTp (zaa hw3) (zaa hw1) false (zaa (by simpa using h24)))
       rw[if_pos (by omega)] at ht;have HR:=zaa (HA.out.bad hl hlt HBl.out H35.out ht (by decide));clear hw1 hw3 ht h24;go_wp2_with(first|(go_at_call 147;refine(HLt.out _).mono ?_;rintro e w' ⟨rfl,rfl⟩)|(go_at_call 150;refine(HNm.out _).mono ?_;rintro e w' ⟨rfl,rfl⟩)|(at_builtin;apply Hid.out))
       go_ret3
       exact zdV HR.out (HB.out.trans ((Below.refl _ wr).alloc (by omega) _))
theorem zmU (src:ByteArray) (w:World):Calls prog 120 #[.string src] w (zjZ w src):=by
 by_cases hl:src.size≤65536
 ·exact zjJ src w hl
 ·exact zlh src w (by omega)
def zpy:Rf Bool:=do
 let b←isR [111,117,116]
 if b then pure true else do
  zaR [105,110]
  pure false
theorem zmZ {r:List Tok} {a b:List UInt8} (h:zaA a r=true) (hab:a≠b):zaA b r=false:=by
 unfold zaA at h ⊢;have h1:(hdT r).text=a:=by
  have:=(Bool.and_eq_true _ _ ▸ h).1
  simpa using this
 rw[h1];have:(a==b)=false:=by simpa using hab
 rw[this,Bool.false_and]
theorem zkm:zaY zj7 zpy:=by
 have hb:zaY (do let _←zbd [105,110];pure false:Ps Bool) (do let _←zaR [105,110];pure false:Rf Bool):=(zar _).bind fun _=> .ret _
 refine⟨fun s h=> ?_,fun s h=> ?_⟩
 ·have h0:=hb.fine s h
  unfold zj7;by_cases ho:zaA [111,117,116] s.r=true
  ·have hi:zaA [105,110] s.r=false:=zmZ ho (by decide)
   rw[hi,ho];have e:isR [111,117,116] s=(true,s.step):=by unfold isR;rw[InS.sees_eq h,ho];rfl
   show(if(isR [111,117,116] s).1 then(pure true:Rf Bool) else _) (isR [111,117,116] s).2=(true,_)
   rw[e,zbA h]
   rfl
  ·have ho':zaA [111,117,116] s.r=false:=by simpa using ho
   have e:isR [111,117,116] s=(false,s):=by unfold isR;rw[InS.sees_eq h,ho'];rfl
   have e2:zpy s=(do let _←zaR [105,110];pure false:Rf Bool) s:=by
    show(if(isR [111,117,116] s).1 then(pure true:Rf Bool) else _) (isR [111,117,116] s).2=_
    rw[e];rfl
   rw[e2,ho'];by_cases hi:zaA [105,110] s.r=true
   ·have e3:(do let _←zbd [105,110];pure false:Ps Bool) s.r= .ok false s.r.tail:=zac (by unfold zbd;rw[hi];rfl)
    rw[e3] at h0;rw[hi];exact h0
   ·have hi':zaA [105,110] s.r=false:=by simpa using hi
    have e3:(do let _←zbd [105,110];pure false:Ps Bool) s.r= .bad 80 s.r:=zab (by unfold zbd;rw[hi'];rfl);rw[e3] at h0;rw[hi'];exact h0
 ·have e:isR [111,117,116] s=(false,s):=by unfold isR;rw[InS.sees_no h];rfl
  show((if(isR [111,117,116] s).1 then(pure true:Rf Bool) else _) (isR [111,117,116] s).2).2=_
  rw[e];exact hb.stay s h
def zf1:Rf zcp:=do
 let out←zpy
 let name←zb4
 let kind←zba zbO
 let size←zbi [115,105,122,101]
 if kind=1 then do
  let x←zbi [114,101,102,114,101,115,104]
  zaR [59]
  pure ⟨name,kind,out,size,0,x⟩
 else do
  let x←zbi [100,101,112,116,104]
  zaR [59]
  pure ⟨name,kind,out,size,x,0⟩
theorem zjF:zaY zei zf1:=zkm.bind fun _=>zaV.bind fun _=>(zb8 _).bind fun kind=>(zaQ _).bind fun _=>by
 by_cases hk:kind=1
 ·simp only[hk,if_true]
  exact(zaQ _).bind fun _=>(zar _).bind fun _=> .ret _
 ·simp only[hk,if_false]
  exact(zaQ _).bind fun _=>(zar _).bind fun _=> .ret _
def zhW:Rf zca:=do
 let name←zb4
 let prio←zbi [112,114,105,111]
 let period←zbi [112,101,114,105,111,100]
 let limit←zbi [108,105,109,105,116]
 zaR [123]
 let code←zdy
 zaR [125]
 pure ⟨name,prio,period,limit,code⟩
theorem zjT:zaY zfh zhW:=zaV.bind fun _=>(zaQ _).bind fun _=>(zaQ _).bind fun _=>(zaQ _).bind fun _=>(zar _).bind fun _=>zeC.bind fun _=>(zar _).bind fun _=> .ret _
def zoI:Rf zcU:=do
 let f←zhQ
 zaR [116,111]
 let to←zeM zhQ
 zaR [59]
 pure ⟨f,to⟩
theorem zjD:zaY zdW zoI:=zcR.bind fun _=>(zar _).bind fun _=>(zcK zcR).bind fun _=>(zar _).bind fun _=> .ret _
def swR:Rf SwD:=do
 let name←zb4
 let net←zn7
 let delay←zbi [100,101,108,97,121]
 let store←zbi [115,116,111,114,101]
 zaR [59]
 pure ⟨name,net,delay,store⟩
theorem zmP:zaY swP swR:=zaV.bind fun _=>zgZ.bind fun _=>(zaQ _).bind fun _=>(zaQ _).bind fun _=>(zar _).bind fun _=> .ret _
def zoM:Rf zc6:=do
 let a←zb4
 let b←zb4
 let net←zn7
 let slow←zbi [115,108,111,119]
 zaR [59]
 pure ⟨a,b,net,slow⟩
theorem zju:zaY zbc zoM:=zaV.bind fun _=>zaV.bind fun _=>zgZ.bind fun _=>(zaQ _).bind fun _=>(zar _).bind fun _=> .ret _
def vlR:Rf VlD:=do
 let name←zb4
 zaR [102,114,111,109]
 let f←zhQ
 let bag←zbi [98,97,103]
 let max←zbi [109,97,120]
 zaR [116,111]
 let to←zeM zhQ
 zaR [59]
 pure ⟨name,f,bag,max,to⟩
theorem zmM:zaY vlP vlR:=zaV.bind fun _=>(zar _).bind fun _=>zcR.bind fun _=>(zaQ _).bind fun _=>(zaQ _).bind fun _=>(zar _).bind fun _=>(zcK zcR).bind fun _=>(zar _).bind fun _=> .ret _
def zoE (t:List UInt8):Rf (List UInt8):=do
 let b←isR t
 if b then zb4 else pure []
theorem zhe (t:List UInt8):zaY (zoK t) (zoE t):=(zfu t).bind fun b=>by
 cases b
 ·exact .ret _
 ·exact zaV
def zeS:Rf zaI:=do
 let f←zba zbG
 let m←zoE [109,111,100,117,108,101]
 let p←zoE [112,97,114,116]
 zaR [108,101,118,101,108]
 let l←zba zbH
 zaR [100,111]
 let d←zba zbu
 zaR [59]
 pure ⟨m,p,f,l,d⟩
theorem zho:zaY zaD zeS:=(zb8 _).bind fun _=>(zhe _).bind fun _=>(zhe _).bind fun _=>(zar _).bind fun _=>(zb8 _).bind fun _=>(zar _).bind fun _=>(zb8 _).bind fun _=>(zar _).bind fun _=> .ret _
def repR:Rf zf2:=do
 let u←zb4
 zaR [58]
 let c←zcW
 pure ⟨u,c⟩
theorem zlF:zaY zkh repR:=zaV.bind fun _=>(zar _).bind fun _=>zbD.bind fun _=> .ret _
def zkO:Rf (List (List UInt8)):=do
 let b←isR [117,110,108,101,115,115]
 if b then zeM zb4 else pure []
theorem zhk:zaY zgL zkO:=(zfu _).bind fun b=>by
 cases b
 ·exact .ret _
 ·exact zcK zaV
def znc:Rf zbl:=do
 let u←zb4
 zaR [110,101,101,100,115]
 let n←zeM repR
 let un←zkO
 zaR [59]
 pure ⟨u,n,un⟩
theorem zit:zaY zcg znc:=zaV.bind fun _=>(zar _).bind fun _=>(zcK zlF).bind fun _=>zhk.bind fun _=>(zar _).bind fun _=> .ret _
def zni:Rf zgD:=do
 let a←zb4
 let va←zcW
 zaR [119,105,116,104]
 let b←zb4
 let vb←zcW
 zaR [59]
 pure ⟨a,va,b,vb⟩
theorem zil:zaY zbq zni:=zaV.bind fun _=>zbD.bind fun _=>(zar _).bind fun _=>zaV.bind fun _=>zbD.bind fun _=>(zar _).bind fun _=> .ret _
end Go.Proofs.YtlngbjphagnloaaGreatDoor
