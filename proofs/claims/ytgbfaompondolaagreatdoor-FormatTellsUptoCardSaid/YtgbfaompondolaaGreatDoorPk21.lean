/- Merged texts of the walks and of the plain laws on which the statement leans.-/
import Derived.Test.YtgbfaompondolaaGreatDoorPk20
import Derived.Test.YtgbfaompondolaaGreatDoorPk8
import Derived.Test.YtgbfaompondolaaGreatDoorPk1
import Derived.Test.YtgbfaompondolaaGreatDoorPk9
import Derived.Test.YtgbfaompondolaaGreatDoorPk12
import Derived.Test.YtgbfaompondolaaGreatDoorPk13
set_option maxHeartbeats 4000000
set_option maxRecDepth 100000
namespace Go.Proofs.YtgbfaompondolaaGreatDoor
open Go.Proofs.Tryz
open Go.RowKit
attribute [local go_sem] zaj.cell
def zeS:List UInt8→Bool
 |[]=>false
 |b::r=>decide (r.length<24)&&(zbd b&&(b::r).all zbb)
theorem zgL {b:UInt8} (h:zbd b=true):zd3 b=false∧(b==35)=false:=by
 constructor
 ·rw[Bool.eq_false_iff]
  intro hs;unfold zd3 at hs;simp only[Bool.or_eq_true,beq_iff_eq] at hs;rcases hs with((rfl|rfl)|rfl)|rfl<;>revert h<;>decide
 ·rw[Bool.eq_false_iff]
  intro hs;have hs':b=35:=by simpa using hs
  subst hs'
  revert h;decide
theorem znh {r:List UInt8} (h:r.all zbb=true):zfg r=r.length:=by
 unfold zfg
 induction r with
 |nil=>rfl
 |cons b r ih=>
  simp only[List.all_cons,Bool.and_eq_true] at h;rw[List.takeWhile_cons,h.1];simp only[if_true,List.length_cons,ih h.2]
theorem zgt {b:UInt8} (h:zbd b=true):zbb b=true:=by unfold zbb;rw[h];rfl
theorem zlt {b:UInt8} {r:List UInt8} (hn:r.length<24) (hl:zbd b=true) (ha:r.all zbb=true):zaD (b::r)=true:=by
 obtain⟨h1,h2⟩:=zgL hl;have ht:zb4 (b::r)=(1,1+r.length,0):=by
  unfold zb4;simp only[hl,if_true,znh ha];rw[if_neg (by omega)]
 have hs:zaL false (b::r)=0:=by simp[zaL,h1,h2]
 have e:zdG 0 (b::r)=([⟨1,b::r,0⟩],0,0):=by
  rw[zee,hs];simp only[List.drop_zero,Nat.add_zero,ht,if_true];have e1:(b::r).drop (1+r.length)=[]:=List.drop_eq_nil_of_le (by simp;omega);have e2:(b::r).take (1+r.length)=b::r:=List.take_of_length_le (by simp;omega);have e3:zdG (0+(1+r.length)) []=([],0,0):=by rw[zee];rfl
  rw[e1,e2,e3]
 unfold zaD zgO;rw[if_neg (by simp;omega),e];simp
theorem zgr {s:List UInt8} (h:zaD s=true): ∃b r,s=b::r∧zbd b=true∧r.all zbb=true∧r.length+1≤24:=by
 unfold zaD at h
 split at h
 ·rename_i t p e
  simp only[Bool.and_eq_true,beq_iff_eq] at h;have e2:zdG 0 s=([t],p,0):=by
   unfold zgO at e
   split at e
   ·cases e
   ·split at e
    ·exact e
    ·rename_i hne
     injection e with _ e3
     injection e3 with _ e4
     exact absurd e4 hne
  rw[zee] at e2
  split at e2
  ·cases e2
  ·rename_i b r _
   split at e2
   ·rename_i h0
    injection e2 with e3 _
    injection e3 with e4 _
    have hk:=h.1;rw[←e4] at hk;have ht:=h.2;rw[←e4] at ht;simp only at hk ht;have e5:r.take (zfg r)=r.takeWhile zbb:=by
     unfold zfg;exact(List.prefix_iff_eq_take.1 (List.takeWhile_prefix zbb)).symm
    by_cases h1:zbd b=true
    ·by_cases h2:24<1+zfg r
     ·exfalso
      revert h0
      unfold zb4;simp only[h1,if_true,if_pos h2]
      decide
     ·have e6:(zb4 (b::r)).2.1=1+zfg r:=by unfold zb4;simp only[h1,if_true,if_neg h2]
      rw[e6,Nat.add_comm,List.take_succ_cons] at ht;refine⟨b,r.take (zfg r),ht.symm,h1,by rw[e5];exact List.all_takeWhile,?_⟩;rw[List.length_take]
      omega
    ·exfalso
     revert hk
     unfold zb4;simp only;rw[if_neg h1]
     split
     ·split<;>simp
     ·split<;>simp
   ·cases e2
 ·cases h
theorem zdW {s:List UInt8} (h:zaD s=true):s.length≤24:=by
 obtain⟨b,r,rfl, -, -,hn⟩:=zgr h
 simpa using hn
theorem zjt (s:List UInt8):zaD s=zeS s:=by
 rw[Bool.eq_iff_iff]
 constructor
 ·intro h
  obtain⟨b,r,rfl,hl,ha,hn⟩:=zgr h;simp only[zeS,hl,List.all_cons,zgt hl,ha,Bool.and_true,decide_eq_true_eq]
  omega
 ·intro h
  cases s with
  |nil=>cases h
  |cons b r=>
   simp only[zeS,List.all_cons,Bool.and_eq_true,decide_eq_true_eq] at h;exact zlt h.1 h.2.1 h.2.2.2
theorem zo3 {s:List UInt8} {k:Nat} (hk:k<s.length) (h:(s.take k).all zbb=true) (hi:zbb s[k]=true):(s.take (k+1)).all zbb=true:=zaK h (List.getElem?_eq_getElem hk) hi
theorem zim (s:ByteArray) (w:World):
 Calls prog 184 #[.string s] w fun e w'=>e= .returned (.bool (zaD s.data.toList))∧w=w':=by
 rw[zjt];have hz:s.data.toList.length=s.size:=Array.length_toList;by_cases h0:s.size=0
 ·have h1:((s.size:Int)==0)=true:=by rw[h0];rfl
  have HV:=zaa (show zeS s.data.toList=false by rw[List.eq_nil_of_length_eq_zero (hz.trans h0)];rfl);clear hz h0
  go_enter func184,ntmps184
  go_wp2_with fail;go_ret;exact⟨by rw[HV.out];rfl,rfl⟩
 have hne:((s.size:Int)==0)=false:=by rw[beq_eq_false_iff_ne];omega
 have hp:0<s.size:=by omega
 have hp2:(0:Int)<(s.size:Int):=by omega
 obtain⟨b,r,hbr⟩: ∃b r,s.data.toList=b::r:=by
  cases h:s.data.toList with
  |nil=>rw[h] at hz;simp at hz;omega
  |cons b r=>exact⟨b,r,rfl⟩
 have hb:s[0]=b:=by
  have:s.data.toList[0]? =some b:=by rw[hbr];rfl
  rw[Array.getElem?_toList] at this;have h3:s.data[0]? =some s.data[0]:=Array.getElem?_eq_getElem hp;rw[h3] at this;exact Option.some.inj this
 have hr:r.length+1=s.size:=by rw[←hz,hbr];rfl
 clear h0;by_cases h24:24<s.size
 ·have h1:(24:Int)<(s.size:Int):=by omega
  have HV:=zaa (show zeS s.data.toList=false by rw[hbr];simp only[zeS];rw[decide_eq_false (by omega)];rfl);clear hbr hb hr hz
  go_enter func184,ntmps184
  go_wp2_with fail;go_ret;exact⟨by rw[HV.out];rfl,rfl⟩
 have h1:(s.size:Int)≤24:=by omega
 have HL:=zaa (fun w=>ze1 s[0] w)
 cases hlt:zbd s[0] with
 |false=>
  rw[hlt] at HL;have HV:=zaa (show zeS s.data.toList=false by rw[hbr];simp only[zeS];rw[←hb,hlt];simp);clear hbr hb hr hz hlt
  go_enter func184,ntmps184
  go_wp2_with(first|(go_at_call 240;refine(HL.out _).mono ?_;rintro e w' ⟨rfl,rfl⟩))
  go_ret;exact⟨by rw[HV.out];rfl,rfl⟩
 |true=>
  rw[hlt] at HL;have HF:=zaa (show zeS s.data.toList=s.data.toList.all zbb by rw[hbr];simp only[zeS];rw[←hb,hlt,decide_eq_true (by omega)];simp);have HZ:=zaa hz;clear hbr hb hr hz hlt h24
  go_enter func184,ntmps184
  go_wp2_with(first|(go_at_call 240;refine(HL.out _).mono ?_;rintro e w' ⟨rfl,rfl⟩))
  go_loop [3] (fun v3=> ∃k:Nat,k≤s.size∧v3= .int .i64 k∧(s.data.toList.take k).all zbb=true) (fun v3=>s.size-(intOf v3).toNat)
  case atStart=>exact⟨0,by omega,rfl,by simp⟩
  case round=>
   obtain⟨k,hk,rfl,ht⟩:=hrel;have HT:=zaa ht;clear ht;have k0:(0:Int)≤(k:Int):=by omega
   by_cases hlt:k<s.size
   case neg=>
    have HV:=zaa (show zeS s.data.toList=true by
     have h:=HT.out;rw[List.take_of_length_le (by rw[HZ.out];omega)] at h;rw[HF.out,h])
    go_wp2_with fail;go_ret;exact⟨by rw[HV.out];rfl,rfl⟩
   case pos=>
    have hg:s.data.toList[k]? =some s[k]:=by
     rw[Array.getElem?_toList];exact Array.getElem?_eq_getElem hlt
    have HG:=zaa hg;have HI:=zaa (fun w=>ziW s[k] w);clear hg
    cases hi:zbb s[k] with
    |false=>
     rw[hi] at HI;have HV:=zaa (show zeS s.data.toList=false by rw[HF.out];exact zaH HG.out hi);clear hi;go_wp2_with(first|(go_at_call 241;refine(HI.out _).mono ?_;rintro e w' ⟨rfl,rfl⟩))
     go_ret;exact⟨by rw[HV.out];rfl,rfl⟩
    |true=>
     rw[hi] at HI;have HN:=zaa (zaK HT.out HG.out hi);clear hi;go_wp2_with(first|(go_at_call 241;refine(HI.out _).mono ?_;rintro e w' ⟨rfl,rfl⟩))
     go_round
     case rel=>exact⟨k+1,by omega,by go_num,HN.out⟩
     case measure=>simp[intOf];omega
theorem zaU (v:Value) (l:List (List UInt8)) (W:World) (hv:Hid (DAt W (fun _=>True) v (.row 1 (zao l)))) (hl:l.length≤140737488355328):
 Calls prog 102 #[v] W fun e w'=>e= .returned (.bool (l.all zaD))∧Below W.heap.size W w':=by
 obtain⟨A,c,rfl,hA⟩:=hv.out.slice;have HA:=zaa hA;clear hA hv;rw[show(zao l).length=l.length by simp[zao]]
 go_enter func102,ntmps102
 go_wp2_with fail
 go_loopw [3] (fun v3 wr=> ∃k:Nat,k≤l.length∧v3= .int .i64 k∧(l.take k).all zaD=true∧Below W.heap.size W wr) (fun v3 _=>l.length-(intOf v3).toNat)
 case atStart=>exact⟨0,by omega,rfl,by simp,Below.refl _ _⟩
 case round=>
  obtain⟨k,hk,rfl,ht,hbr⟩:=hrel;have HT:=zaa ht;have HBR:=zaa hbr;clear ht hbr;by_cases hlt:k<l.length
  rotate_left
  ·obtain rfl:k=l.length:=by omega
   rw[List.take_length] at HT;clear hlt;go_wp2_with fail;go_ret;exact⟨by rw[HT.out];rfl,HBR.out⟩
  obtain⟨x,hx⟩:=zbE hlt;obtain⟨b,off,rfl,hb,hca⟩:=HA.out.at_ (cells:=fun s:List UInt8=>[lS s]) hx;obtain⟨u0,c0,g0⟩:=hca 0 _ rfl;clear hca;obtain rfl:=g0.leaf_eq;rw[Nat.mul_one,Nat.add_zero] at c0;have c0:=zad HBR.out hb (off+k) c0;simp only[zav] at c0;have k0:=kbZ k l.length;have HX:=zaa hx;have HN:=zaa (zim ⟨x.toArray⟩ wr);simp only at HN;clear hx
  cases hw:zaD x with
  |false=>
   have HNO:=zaa (zaH HX.out hw);rw[hw] at HN;clear hw;go_wp2_with fail;refine HN.out.mono ?_;rintro e w1 ⟨rfl,rfl⟩;go_wp2_with fail;go_ret;exact⟨by rw[HNO.out];rfl,HBR.out⟩
  |true=>
   have HTK:=zaa (zaK HT.out HX.out hw);rw[hw] at HN;clear hw;go_wp2_with fail;refine HN.out.mono ?_;rintro e w1 ⟨rfl,rfl⟩;go_wp2_with fail;go_roundw
   case rel=>exact⟨k+1,by omega,by go_num,HTK.out,HBR.out⟩
   case measure=>simp[intOf];omega
theorem zhk (n:Int) (h:zbj n=true): ∃D:ByteArray,Hid (∀V:World,Calls prog 157 #[.int .i64 n] V fun e w'=>e= .returned (.string D)∧Below V.heap.size V w')∧D.size≤10∧Hid (D.data.toList=Lib.itoa n):=
 ⟨⟨(Lib.itoa n).toArray⟩,zaa (fun V=>zbJ n h V),by simpa [ByteArray.size] using zb5 h,zaa rfl⟩
theorem txt {S:ByteArray} {t:List UInt8} (h:S.data.toList=t):Ending.returned (Value.string S)= .returned (.string ⟨t.toArray⟩):=by rw[←h]
theorem zcP {α:Type} (f:α→List UInt8) (l:List α) (k:Nat) (x:α) (h:l[k]? =some x):Lib.join ((l.take (k+1)).map f) zcZ=Lib.join ((l.take k).map f) zcZ++(if k=0 then[] else zcZ)++f x:=by
 cases l with
 |nil=>simp at h
 |cons a l=>
  cases k with
  |zero=>
   simp only[List.getElem?_cons_zero,Option.some.injEq] at h;subst h;simp[Lib.join_nil,Lib.join_one]
  |succ k=>
   simp only[List.getElem?_cons_succ] at h;rw[List.take_succ_cons,List.take_succ_cons,List.map_cons,List.map_cons,Lib.join_cons,Lib.join_cons,List.map_take,List.map_take,Lib.joinTail_take_succ zcZ (l.map f) k (f x) (by rw[List.getElem?_map,h];rfl)];simp
theorem zfL {α:Type} (f:α→List UInt8) (l:List α): ∀j k,k+j=l.length→(Lib.join ((l.take k).map f) zcZ).length≤(Lib.join (l.map f) zcZ).length
 |0,k,h=>by rw[List.take_of_length_le (by omega)];exact Nat.le_refl _
 |j+1,k,h=>by
  have:=zfL f l j (k+1) (by omega);rw[zcP f l k _ (List.getElem?_eq_getElem (by omega)),List.length_append,List.length_append] at this
  omega
theorem zeC {α:Type} (f:α→List UInt8) (l:List α) (k:Nat) (x:α) (h:l[k]? =some x):(Lib.join ((l.take k).map f) zcZ).length+(if k=0 then 0 else 2)+(f x).length≤(Lib.join (l.map f) zcZ).length:=by
 have hk:=(List.getElem?_eq_some_iff.1 h).1;have:=zfL f l (l.length-(k+1)) (k+1) (by omega);rw[zcP f l k x h,List.length_append,List.length_append] at this
 split at this<;>simp_all [zcZ]
theorem zfM (x:zb7) (W:World) (hn:(zdv x).length≤1000000000):
 Calls prog 154 #[.agg #[.string ⟨x.m.toArray⟩,.string ⟨x.p.toArray⟩,.string ⟨x.o.toArray⟩]] W fun e w'=>e= .returned (.string ⟨(zdv x).toArray⟩)∧Below W.heap.size W w':=by
 have HB:=zaa ((Below.refl W.heap.size W).alloc (Nat.le_refl _) (.cells #[.string ⟨x.m.toArray⟩,.string ⟨x.p.toArray⟩,.string ⟨x.o.toArray⟩] 55));have HT:(⟨x.m.toArray⟩++⟨#[46]⟩++⟨x.p.toArray⟩++⟨#[46]⟩++⟨x.o.toArray⟩:ByteArray)=⟨(zdv x).toArray⟩:=by
  apply ByteArray.ext;simp[zdv,ByteArray.data_append]
 simp only[zdv,List.length_append,List.length_cons,List.length_nil] at hn;have k1:=smZ (x.m.length+1);have k2:=smZ (x.m.length+1+x.p.length);have k3:=smZ (x.m.length+1+x.p.length+1);have k4:=smZ (x.m.length+1+x.p.length+1+x.o.length);clear hn
 go_enter func154,ntmps154
 go_wp2_with fail;go_ret;exact⟨by rw[←HT];rfl,HB.out⟩
theorem zhQ (n:Int) (W:World) (h:n/2=0):
 Calls prog 156 #[.int .i64 n] W fun e w'=>e= .returned (.string ⟨([32,110,101,116,32]++ziZ n).toArray⟩)∧Below W.heap.size W w':=by
 rcases(by omega:n=0∨n=1) with rfl|rfl
 ·go_enter func156,ntmps156
  go_wp2_with fail;go_ret;exact⟨rfl,Below.refl _ _⟩
 ·go_enter func156,ntmps156
  go_wp2_with fail;go_ret;exact⟨rfl,Below.refl _ _⟩
theorem zgh (v:Value) (l:List zb7) (W:World) (hv:Hid (DAt W (fun _=>True) v (.row 3 (l.map zb7.cells)))) (hn:l.length≤140737488355328) (hz:(zcL l).length≤1000000000):
 Calls prog 155 #[v] W fun e w'=>e= .returned (.string ⟨(zcL l).toArray⟩)∧Below W.heap.size W w':=by
 obtain⟨A,c,rfl,hA⟩:=hv.out.slice;have HA:=zaa hA;clear hA hv;rw[List.length_map]
 go_enter func155,ntmps155
 go_wp2_with fail
 go_loopw [3,4] (fun v3 v4 wr=> ∃(k:Nat) (S:ByteArray),k≤l.length∧v4= .int .i64 k∧v3= .string S∧S.data.toList=Lib.join ((l.take k).map zdv) zcZ∧Below W.heap.size W wr) (fun _ v4 _=>l.length-(intOf v4).toNat)
 case atStart=>exact⟨0,_,by omega,rfl,rfl,by simp[Lib.join_nil],Below.refl _ _⟩
 case round=>
  obtain⟨k,S,hk,rfl,rfl,hS,hbr⟩:=hrel;have HS:=zaa hS;have HBR:=zaa hbr;clear hS hbr;by_cases hlt:k<l.length
  rotate_left
  ·obtain rfl:k=l.length:=by omega
   rw[List.take_length] at HS;clear hlt;go_wp2_with fail;go_ret;exact⟨txt HS.out,HBR.out⟩
  obtain⟨x,hx⟩:=zbE hlt;obtain⟨b,off,rfl,hb,hca⟩:=HA.out.at_ hx;have c0:=zad HBR.out hb (off+k*3) (hca 0 _ rfl).leafc;have c1:=zad HBR.out hb (off+k*3+1) (hca 1 _ rfl).leafc;have c2:=zad HBR.out hb (off+k*3+2) (hca 2 _ rfl).leafc;clear hca;simp only[zav] at c0 c1 c2;have k0:=kbZ k l.length;have hr:=zeC zdv l k x hx;rw[←HS.out,Array.length_toList] at hr;have hr:S.size+(if k=0 then 0 else 2)+(zdv x).length≤1000000000:=Nat.le_trans hr hz;have HJ:=zaa (zcP zdv l k x hx);have HX:=zaa hx;clear hx;have HC:Hid (∀V:World,Below W.heap.size W V→Calls prog 154 #[.agg #[.string ⟨x.m.toArray⟩,.string ⟨x.p.toArray⟩,.string ⟨x.o.toArray⟩]] V fun e w'=>e= .returned (.string ⟨(zdv x).toArray⟩)∧Below V.heap.size V w'):=zaa (fun V _=>zfM x V (by omega));obtain⟨D,e_⟩: ∃D:ByteArray,(⟨(zdv x).toArray⟩:ByteArray)=D:=⟨_,rfl⟩;have sD:D.size=(zdv x).length:=by rw[←e_];simp[ByteArray.size]
  have hD:=zaa (show D.data.toList=zdv x by rw[←e_]);rw[e_] at HC;clear e_;by_cases hk0:k=0
  ·subst hk0
   have s1: ¬9223372036854775807<S.size+D.size:=by rw[if_pos rfl] at hr;omega
   have HN:=zaa (show(S++D).data.toList=Lib.join ((l.take (0+1)).map zdv) zcZ by rw[HJ.out,ByteArray.data_append,Array.toList_append,HS.out,hD.out];simp);simp only[Nat.zero_mul,Nat.add_zero] at c0 c1 c2;clear hr;go_wp2_with fail;refine(HC.out _ HBR.out).mono ?_;rintro e w1 ⟨rfl,hb1⟩;have HB1:=zaa (btZ HBR.out hb1);clear hb1 HC;go_wp2_with fail;go_roundw
   case rel=>exact⟨0+1,_,by omega,rfl,rfl,HN.out,HB1.out⟩
   case measure=>simp[intOf];omega
  ·have hp:(0:Int)<(k:Int):=by omega
   have s1: ¬9223372036854775807<S.size+2:=by rw[if_neg hk0] at hr;omega
   have s2: ¬9223372036854775807<S.size+2+D.size:=by rw[if_neg hk0] at hr;omega
   have HN:=zaa (show(S++⟨#[44,32]⟩++D).data.toList=Lib.join ((l.take (k+1)).map zdv) zcZ by rw[HJ.out,if_neg hk0];simp only[ByteArray.data_append,Array.toList_append,HS.out,hD.out];rfl);clear hr hk0;go_wp2_with fail;refine(HC.out _ HBR.out).mono ?_;rintro e w1 ⟨rfl,hb1⟩;have HB1:=zaa (btZ HBR.out hb1);clear hb1 HC;go_wp2_with fail;go_roundw
   case rel=>exact⟨k+1,_,by omega,by go_num,rfl,HN.out,HB1.out⟩
   case measure=>simp[intOf];omega
theorem zgI (v:Value) (l:List Int) (W:World) (hv:Hid (DAt W (fun _=>True) v (.row 1 (zah l)))) (hn:l.length≤140737488355328)(hF:Hid (∀z∈l,zbj z=true)) (hz:(zcp l).length≤1000000000):
 Calls prog 259 #[v] W fun e w'=>e= .returned (.string ⟨(zcp l).toArray⟩)∧Below W.heap.size W w':=by
 obtain⟨A,c,rfl,hA⟩:=hv.out.slice;have HA:=zaa hA;clear hA hv;rw[show(zah l).length=l.length by simp[zah]]
 go_enter func259,ntmps259
 go_wp2_with fail
 go_loopw [3,4] (fun v3 v4 wr=> ∃(k:Nat) (S:ByteArray),k≤l.length∧v4= .int .i64 k∧v3= .string S∧S.data.toList=Lib.join ((l.take k).map Lib.itoa) zcZ∧Below W.heap.size W wr) (fun _ v4 _=>l.length-(intOf v4).toNat)
 case atStart=>exact⟨0,_,by omega,rfl,rfl,by simp[Lib.join_nil],Below.refl _ _⟩
 case round=>
  obtain⟨k,S,hk,rfl,rfl,hS,hbr⟩:=hrel;have HS:=zaa hS;have HBR:=zaa hbr;clear hS hbr;by_cases hlt:k<l.length
  rotate_left
  ·obtain rfl:k=l.length:=by omega
   rw[List.take_length] at HS;clear hlt;go_wp2_with fail;go_ret;exact⟨txt HS.out,HBR.out⟩
  obtain⟨x,hx⟩:=zbE hlt;obtain⟨b,off,rfl,hb,hca⟩:=HA.out.at_ (cells:=fun n:Int=>[lI n]) hx;obtain⟨u0,c0,g0⟩:=hca 0 _ rfl;clear hca;obtain rfl:=g0.leaf_eq;rw[Nat.mul_one,Nat.add_zero] at c0;have c0:=zad HBR.out hb (off+k) c0;have k0:=kbZ k l.length;have hr:=zeC Lib.itoa l k x hx;rw[←HS.out,Array.length_toList] at hr;have hr:S.size+(if k=0 then 0 else 2)+(Lib.itoa x).length≤1000000000:=Nat.le_trans hr hz;have HJ:=zaa (zcP Lib.itoa l k x hx);have HX:=zaa hx;clear hx;obtain⟨D,hC,hs,hD⟩:=zhk x (hF.out x (List.mem_of_getElem? HX.out));have HC:Hid (∀V:World,Below W.heap.size W V→Calls prog 157 #[.int .i64 x] V fun e w'=>e= .returned (.string D)∧Below V.heap.size V w'):=zaa (fun V _=>hC.out V);have sD:D.size=(Lib.itoa x).length:=by rw[←hD.out];exact Array.length_toList.symm
  clear hC hs;by_cases hk0:k=0
  ·subst hk0
   have s1: ¬9223372036854775807<S.size+D.size:=by rw[if_pos rfl] at hr;omega
   have HN:=zaa (show(S++D).data.toList=Lib.join ((l.take (0+1)).map Lib.itoa) zcZ by rw[HJ.out,ByteArray.data_append,Array.toList_append,HS.out,hD.out];simp);simp only[Nat.add_zero] at c0;clear hr;go_wp2_with fail;refine(HC.out _ HBR.out).mono ?_;rintro e w1 ⟨rfl,hb1⟩;have HB1:=zaa (btZ HBR.out hb1);clear hb1 HC;go_wp2_with fail;go_roundw
   case rel=>exact⟨0+1,_,by omega,rfl,rfl,HN.out,HB1.out⟩
   case measure=>simp[intOf];omega
  ·have hp:(0:Int)<(k:Int):=by omega
   have s1: ¬9223372036854775807<S.size+2:=by rw[if_neg hk0] at hr;omega
   have s2: ¬9223372036854775807<S.size+2+D.size:=by rw[if_neg hk0] at hr;omega
   have HN:=zaa (show(S++⟨#[44,32]⟩++D).data.toList=Lib.join ((l.take (k+1)).map Lib.itoa) zcZ by rw[HJ.out,if_neg hk0];simp only[ByteArray.data_append,Array.toList_append,HS.out,hD.out];rfl);clear hr hk0;go_wp2_with fail;refine(HC.out _ HBR.out).mono ?_;rintro e w1 ⟨rfl,hb1⟩;have HB1:=zaa (btZ HBR.out hb1);clear hb1 HC;go_wp2_with fail;go_roundw
   case rel=>exact⟨k+1,_,by omega,by go_num,rfl,HN.out,HB1.out⟩
   case measure=>simp[intOf];omega
theorem zmI (n:Nat):(zaf zal n).length≤8∧(zaf zai n).length≤8∧(zaf zag n).length≤8:=⟨zdH (k:=8) (l:=zal) (by decide) n,zdH (k:=8) (l:=zai) (by decide) n,zdH (k:=8) (l:=zag) (by decide) n⟩
theorem zjh {x:zb3} {z:Int} (h:z∈zcK x) (hF:zeg x=true):zbj z=true:=by
 simp only[zeg,Bool.and_eq_true] at hF;exact List.all_eq_true.1 hF.2.1 z h
theorem zgA (x:zb3) (hop:x.op≤255) (W:World) (hF:zeg x=true):
 Calls prog 111 #[.agg #[.int .u8 (x.op:Int),.int .i64 x.a,.int .i64 x.b,.int .i64 x.c]] W fun e w'=>e= .returned (.string ⟨(zep x).toArray⟩)∧Below W.heap.size W w':=by
 have h3:=zdR x.op hop;have hw6:=zdH (k:=6) (l:=zaA) (by decide) x.op;have HO:=zaa (fun V=>zhm x.op hop V);have HW:=zaa (fun V=>zga x.op hop V);have hnum:=fun z (h:z∈zcK x)=>zjh h hF
 obtain⟨O,hO⟩: ∃O:ByteArray,(⟨(zaf zaP x.op).toArray⟩:ByteArray)=O:=⟨_,rfl⟩;obtain⟨S,hS⟩: ∃S:ByteArray,(⟨(zaf zaA x.op).toArray⟩:ByteArray)=S:=⟨_,rfl⟩;have hOs:O.size=(zaf zaP x.op).length:=by rw[←hO];simp[ByteArray.size]
 have hSs:S.size=(zaf zaA x.op).length:=by rw[←hS];simp[ByteArray.size]
 have hSz:S.size≤6:=by omega
 have HSt:=zaa (show S.data.toList=zaf zaA x.op by rw[←hS]);have hT:(zep x)=zaf zaA x.op++zap opT ([x.a,x.b,x.c].take (zaf zaP x.op).length)++[59]:=rfl;have hops:zcK x=[x.a,x.b,x.c].take (zaf zaP x.op).length:=rfl;rw[hO] at HO;rw[hS] at HW;clear hO hS hSs hw6;have HX:=zaa (heap_alloc_new W (.cells #[.int .u8 (x.op:Int),.int .i64 x.a,.int .i64 x.b,.int .i64 x.c] 78));have HB:=zaa ((Below.refl W.heap.size W).alloc (Nat.le_refl _) (.cells #[.int .u8 (x.op:Int),.int .i64 x.a,.int .i64 x.b,.int .i64 x.c] 78))
 go_enter func111,ntmps111
 go_wp2_with fail;generalize W.alloc _=w0 at *;rcases(by omega:(zaf zaP x.op).length=0∨(zaf zaP x.op).length=1∨(zaf zaP x.op).length=2∨(zaf zaP x.op).length=3) with hn|hn|hn|hn
 ·rw[hn] at hOs hT hops
  have HT:=zaa hT;have k1:=smZ (S.size+1);clear hT hops hn hnum h3;refine(HO.out w0).mono ?_;rintro e w1 ⟨rfl,hb⟩;have HBn:=zaa (btZ HB.out hb);have HXn:=zaa (bkZ hb HX.out);clear HB HX hb;have HB:=HBn;have HX:=HXn;clear HBn HXn;obtain⟨c0,c1,c2,c3⟩:=zc1 HX.out rfl;go_wp2_with fail;clear c0 c1 c2 c3;refine(HW.out w1).mono ?_;rintro e w2 ⟨rfl,hb⟩;have HBn:=zaa (btZ HB.out hb);have HXn:=zaa (bkZ hb HX.out);clear HB HX hb;have HB:=HBn;have HX:=HXn;clear HBn HXn;obtain⟨c0,c1,c2,c3⟩:=zc1 HX.out rfl;go_wp2_with fail;clear c0 c1 c2 c3;go_ret;refine⟨congrArg (fun s=>Ending.returned (Value.string s)) ?_,HB.out⟩;apply ByteArray.ext;apply Array.toList_inj.1;rw[ByteArray.data_append,Array.toList_append,HSt.out,HT.out];simp[zap]
 ·rw[hn] at hOs hT hops
  have HT:=zaa hT;have n0:=hnum x.a (by rw[hops];simp);have d0:=zb5 n0;have HD0:=zaa (fun V=>zbJ x.a n0 V);obtain⟨D0,e0⟩: ∃D:ByteArray,(⟨(Lib.itoa x.a).toArray⟩:ByteArray)=D:=⟨_,rfl⟩;have s0:D0.size≤10:=by rw[←e0];simpa [ByteArray.size] using d0
  have t0:=zaa (show D0.data.toList=Lib.itoa x.a by rw[←e0]);rw[e0] at HD0;have k1:=smZ (S.size+1);have k2:=smZ (S.size+1+D0.size);have k3:=smZ (S.size+1+D0.size+1);clear hT hops hn hnum h3 n0 d0 e0;refine(HO.out w0).mono ?_;rintro e w1 ⟨rfl,hb⟩;have HBn:=zaa (btZ HB.out hb);have HXn:=zaa (bkZ hb HX.out);clear HB HX hb;have HB:=HBn;have HX:=HXn;clear HBn HXn;obtain⟨c0,c1,c2,c3⟩:=zc1 HX.out rfl;go_wp2_with fail;clear c0 c1 c2 c3;refine(HW.out w1).mono ?_;rintro e w2 ⟨rfl,hb⟩;have HBn:=zaa (btZ HB.out hb);have HXn:=zaa (bkZ hb HX.out);clear HB HX hb;have HB:=HBn;have HX:=HXn;clear HBn HXn;obtain⟨c0,c1,c2,c3⟩:=zc1 HX.out rfl;go_wp2_with fail;clear c0 c1 c2 c3;refine(HD0.out w2).mono ?_;rintro e w3 ⟨rfl,hb⟩;have HBn:=zaa (btZ HB.out hb);have HXn:=zaa (bkZ hb HX.out);clear HB HX hb;have HB:=HBn;have HX:=HXn;clear HBn HXn;obtain⟨c0,c1,c2,c3⟩:=zc1 HX.out rfl;go_wp2_with fail;clear c0 c1 c2 c3;go_ret;refine⟨congrArg (fun s=>Ending.returned (Value.string s)) ?_,HB.out⟩;apply ByteArray.ext;apply Array.toList_inj.1;simp only[ByteArray.data_append,Array.toList_append];rw[HSt.out,HT.out,t0.out];simp[zap,opT]
 ·rw[hn] at hOs hT hops
  have HT:=zaa hT;have n0:=hnum x.a (by rw[hops];simp);have n1:=hnum x.b (by rw[hops];simp);have d0:=zb5 n0;have d1:=zb5 n1;have HD0:=zaa (fun V=>zbJ x.a n0 V);have HD1:=zaa (fun V=>zbJ x.b n1 V);obtain⟨D0,e0⟩: ∃D:ByteArray,(⟨(Lib.itoa x.a).toArray⟩:ByteArray)=D:=⟨_,rfl⟩;obtain⟨D1,e1⟩: ∃D:ByteArray,(⟨(Lib.itoa x.b).toArray⟩:ByteArray)=D:=⟨_,rfl⟩;have s0:D0.size≤10:=by rw[←e0];simpa [ByteArray.size] using d0
  have s1:D1.size≤10:=by rw[←e1];simpa [ByteArray.size] using d1
  have t0:=zaa (show D0.data.toList=Lib.itoa x.a by rw[←e0]);have t1:=zaa (show D1.data.toList=Lib.itoa x.b by rw[←e1]);rw[e0] at HD0;rw[e1] at HD1;have k1:=smZ (S.size+1);have k2:=smZ (S.size+1+D0.size);have k3:=smZ (S.size+1+D0.size+1);have k4:=smZ (S.size+1+D0.size+1+D1.size);have k5:=smZ (S.size+1+D0.size+1+D1.size+1);clear hT hops hn hnum h3 n0 d0 e0 n1 d1 e1;refine(HO.out w0).mono ?_;rintro e w1 ⟨rfl,hb⟩;have HBn:=zaa (btZ HB.out hb);have HXn:=zaa (bkZ hb HX.out);clear HB HX hb;have HB:=HBn;have HX:=HXn;clear HBn HXn;obtain⟨c0,c1,c2,c3⟩:=zc1 HX.out rfl;go_wp2_with fail;clear c0 c1 c2 c3;refine(HW.out w1).mono ?_;rintro e w2 ⟨rfl,hb⟩;have HBn:=zaa (btZ HB.out hb);have HXn:=zaa (bkZ hb HX.out);clear HB HX hb;have HB:=HBn;have HX:=HXn;clear HBn HXn;obtain⟨c0,c1,c2,c3⟩:=zc1 HX.out rfl;go_wp2_with fail;clear c0 c1 c2 c3;refine(HD0.out w2).mono ?_;rintro e w3 ⟨rfl,hb⟩;have HBn:=zaa (btZ HB.out hb);have HXn:=zaa (bkZ hb HX.out);clear HB HX hb;have HB:=HBn;have HX:=HXn;clear HBn HXn;obtain⟨c0,c1,c2,c3⟩:=zc1 HX.out rfl;go_wp2_with fail;clear c0 c1 c2 c3;refine(HD1.out w3).mono ?_;rintro e w4 ⟨rfl,hb⟩;have HBn:=zaa (btZ HB.out hb);have HXn:=zaa (bkZ hb HX.out);clear HB HX hb;have HB:=HBn;have HX:=HXn;clear HBn HXn;obtain⟨c0,c1,c2,c3⟩:=zc1 HX.out rfl;go_wp2_with fail;clear c0 c1 c2 c3;go_ret;refine⟨congrArg (fun s=>Ending.returned (Value.string s)) ?_,HB.out⟩;apply ByteArray.ext;apply Array.toList_inj.1;simp only[ByteArray.data_append,Array.toList_append];rw[HSt.out,HT.out,t0.out,t1.out];simp[zap,opT]
 ·rw[hn] at hOs hT hops
  have HT:=zaa hT;have n0:=hnum x.a (by rw[hops];simp);have n1:=hnum x.b (by rw[hops];simp);have n2:=hnum x.c (by rw[hops];simp);have d0:=zb5 n0;have d1:=zb5 n1;have d2:=zb5 n2;have HD0:=zaa (fun V=>zbJ x.a n0 V);have HD1:=zaa (fun V=>zbJ x.b n1 V);have HD2:=zaa (fun V=>zbJ x.c n2 V);obtain⟨D0,e0⟩: ∃D:ByteArray,(⟨(Lib.itoa x.a).toArray⟩:ByteArray)=D:=⟨_,rfl⟩;obtain⟨D1,e1⟩: ∃D:ByteArray,(⟨(Lib.itoa x.b).toArray⟩:ByteArray)=D:=⟨_,rfl⟩;obtain⟨D2,e2⟩: ∃D:ByteArray,(⟨(Lib.itoa x.c).toArray⟩:ByteArray)=D:=⟨_,rfl⟩;have s0:D0.size≤10:=by rw[←e0];simpa [ByteArray.size] using d0
  have s1:D1.size≤10:=by rw[←e1];simpa [ByteArray.size] using d1
  have s2:D2.size≤10:=by rw[←e2];simpa [ByteArray.size] using d2
  have t0:=zaa (show D0.data.toList=Lib.itoa x.a by rw[←e0]);have t1:=zaa (show D1.data.toList=Lib.itoa x.b by rw[←e1]);have t2:=zaa (show D2.data.toList=Lib.itoa x.c by rw[←e2]);rw[e0] at HD0;rw[e1] at HD1;rw[e2] at HD2;have k1:=smZ (S.size+1);have k2:=smZ (S.size+1+D0.size);have k3:=smZ (S.size+1+D0.size+1);have k4:=smZ (S.size+1+D0.size+1+D1.size);have k5:=smZ (S.size+1+D0.size+1+D1.size+1);have k6:=smZ (S.size+1+D0.size+1+D1.size+1+D2.size);have k7:=smZ (S.size+1+D0.size+1+D1.size+1+D2.size+1);clear hT hops hn hnum h3 n0 d0 e0 n1 d1 e1 n2 d2 e2;refine(HO.out w0).mono ?_;rintro e w1 ⟨rfl,hb⟩;have HBn:=zaa (btZ HB.out hb);have HXn:=zaa (bkZ hb HX.out);clear HB HX hb;have HB:=HBn;have HX:=HXn;clear HBn HXn;obtain⟨c0,c1,c2,c3⟩:=zc1 HX.out rfl;go_wp2_with fail;clear c0 c1 c2 c3;refine(HW.out w1).mono ?_;rintro e w2 ⟨rfl,hb⟩;have HBn:=zaa (btZ HB.out hb);have HXn:=zaa (bkZ hb HX.out);clear HB HX hb;have HB:=HBn;have HX:=HXn;clear HBn HXn;obtain⟨c0,c1,c2,c3⟩:=zc1 HX.out rfl;go_wp2_with fail;clear c0 c1 c2 c3;refine(HD0.out w2).mono ?_;rintro e w3 ⟨rfl,hb⟩;have HBn:=zaa (btZ HB.out hb);have HXn:=zaa (bkZ hb HX.out);clear HB HX hb;have HB:=HBn;have HX:=HXn;clear HBn HXn;obtain⟨c0,c1,c2,c3⟩:=zc1 HX.out rfl;go_wp2_with fail;clear c0 c1 c2 c3;refine(HD1.out w3).mono ?_;rintro e w4 ⟨rfl,hb⟩;have HBn:=zaa (btZ HB.out hb);have HXn:=zaa (bkZ hb HX.out);clear HB HX hb;have HB:=HBn;have HX:=HXn;clear HBn HXn;obtain⟨c0,c1,c2,c3⟩:=zc1 HX.out rfl;go_wp2_with fail;clear c0 c1 c2 c3;refine(HD2.out w4).mono ?_;rintro e w5 ⟨rfl,hb⟩;have HBn:=zaa (btZ HB.out hb);have HXn:=zaa (bkZ hb HX.out);clear HB HX hb;have HB:=HBn;have HX:=HXn;clear HBn HXn;obtain⟨c0,c1,c2,c3⟩:=zc1 HX.out rfl;go_wp2_with fail;clear c0 c1 c2 c3;go_ret;refine⟨congrArg (fun s=>Ending.returned (Value.string s)) ?_,HB.out⟩;apply ByteArray.ext;apply Array.toList_inj.1;simp only[ByteArray.data_append,Array.toList_append];rw[HSt.out,HT.out,t0.out,t1.out,t2.out];simp[zap,opT]
end Go.Proofs.YtgbfaompondolaaGreatDoor
