/- Merged texts of the walks and of the plain laws on which the statement leans.-/
import Derived.Test.YtgbfaompondolaaGreatDoorPk1
import Derived.Test.YtgbfaompondolaaGreatDoorPk15
import Derived.Test.YtgbfaompondolaaGreatDoorPk16
import Derived.Test.YtgbfaompondolaaGreatDoorPk13
import Derived.Test.YtgbfaompondolaaGreatDoorPk11
set_option maxHeartbeats 4000000
set_option maxRecDepth 100000
namespace Go.Proofs.YtgbfaompondolaaGreatDoor
open Tryz
open Go.RowKit
attribute [local go_sem] zaj.cell
def zeT (x:zcS):List (List UInt8):=[zap zcO x.modules,zap zbI x.channels,zap swT x.switches,zap zb9 x.links,zap vlT x.vls,zap zaC x.health,zap zbg x.causes,zap zf2 x.versions]
theorem zds (x:zcS):zfq x=zap id (zeT x):=by simp[zfq,zeT,zap]
noncomputable def cfgE (x:zcS):Value:=if zev x=true then zdj ⟨(zfq x).toArray⟩ else .tuple #[.string ⟨#[]⟩,.int .i64 2]
theorem bsf8 (f0 f1 f2 f3 f4 f5 f6 f7:Fn) (a0 a1 a2 a3 a4 a5 a6 a7:Array Value) (w:World):(Instr.buildSlice 126 8 #[(0,.func f0 a0 #[]),(1,.func f1 a1 #[]),(2,.func f2 a2 #[]),(3,.func f3 a3 #[]),(4,.func f4 a4 #[]),(5,.func f5 a5 #[]),(6,.func f6 a6 #[]),(7,.func f7 a7 #[])]).run prog w= .ok (.slice (some ⟨w.heap.size,0,none⟩) 8 8) (w.alloc (.cells #[.func f0 a0 #[],.func f1 a1 #[],.func f2 a2 #[],.func f3 a3 #[],.func f4 a4 #[],.func f5 a5 #[],.func f6 a6 #[],.func f7 a7 #[]] 1)):=by kernel_rfl
theorem zdZ (x:zcS) (us:List Value) (W:World) (hE:Hid (Env W)) (hP:Hid (zcT W)) (hd:Hid (zab W (fun _=>True) us x.cells)) (hl:zdB x) (hlen:zev x=true→(zfq x).length≤1000000):
 Calls prog 16 #[.agg us.toArray] W fun e w'=>e= .returned (cfgE x)∧Below W.heap.size W w':=by
 have HV:=zaa (fun V (hE:Hid (Env V)) (hP:Hid (zcT V)) hd=>zow x us V hE hd hP hl);have HD:=hd;have hd:=hd.out;obtain⟨u0,u1,u2,u3,u4,u5,u6,u7,rfl,h0,h1,h2,h3,h4,h5,h6,h7⟩:=dc8 hd;have H0:=zaa (h0.mono (H:=fun g=>g<W.heap.size) (fun _ _ h=>h));have H1:=zaa (h1.mono (H:=fun g=>g<W.heap.size) (fun _ _ h=>h));have H2:=zaa (h2.mono (H:=fun g=>g<W.heap.size) (fun _ _ h=>h));have H3:=zaa (h3.mono (H:=fun g=>g<W.heap.size) (fun _ _ h=>h));have H4:=zaa (h4.mono (H:=fun g=>g<W.heap.size) (fun _ _ h=>h));have H5:=zaa (h5.mono (H:=fun g=>g<W.heap.size) (fun _ _ h=>h));have H6:=zaa (h6.mono (H:=fun g=>g<W.heap.size) (fun _ _ h=>h));have H7:=zaa (h7.mono (H:=fun g=>g<W.heap.size) (fun _ _ h=>h));clear hd h0 h1 h2 h3 h4 h5 h6 h7;have hGB:8≤W.heap.size:=by
  obtain⟨b1,b2,b3⟩:=hE.out.big
  omega
 have hGP:2≤W.heap.size:=hP.out.big;have HX:=zaa (heap_alloc_new W (.cells #[u0,u1,u2,u3,u4,u5,u6,u7] 31));have HB:=zaa ((Below.refl W.heap.size W).alloc (Nat.le_refl _) (.cells #[u0,u1,u2,u3,u4,u5,u6,u7] 31))
 go_enter func16,ntmps16
 go_wp2_with fail;generalize W.alloc _=w0 at *;have HC:=zaa (HV.out w0 (zaa (hE.out.kept HB.out)) (zaa (hP.out.below HB.out)) (zaa (HD.out.below HB.out)));clear HV HD
 cases hv:zev x with
 |false=>
  have HE:=zaa (show cfgE x= .tuple #[.string ⟨#[]⟩,.int .i64 2] by unfold cfgE;rw[hv];rfl);rw[hv] at HC;clear hv;refine HC.out.mono ?_;rintro e w1 ⟨rfl,hb⟩;have HB1:=zaa (btZ HB.out hb);clear HC hb;go_wp2_with fail;go_ret2;exact⟨by rw[HE.out];rfl,HB1.out⟩
 |true=>
  have HL:=zaa (hlen hv);have HE:=zaa (show cfgE x=zdj ⟨(zfq x).toArray⟩ by unfold cfgE;rw[hv];rfl);have HF:=zaa (show x.modules.all zeQ=true∧x.channels.all zed=true∧x.switches.all swF=true∧x.links.all zdc=true∧x.vls.all vlF=true∧x.health.all zbe=true∧x.causes.all zch=true∧x.versions.all zgN=true by unfold zev at hv;simpa only[Bool.and_eq_true] using hv);rw[hv] at HC;clear hv hlen;refine HC.out.mono ?_;rintro e w1 ⟨rfl,hb⟩;have HB1:=zaa (btZ HB.out hb);have HX1:=zaa (bkZ hb HX.out);clear HC hb HX HB;obtain⟨c0,c1,c2,c3,c4,c5,c6,c7⟩:=zmg HX1.out rfl;have HXp:=zaa (heap_alloc_new w1 (.cells #[.pointer none,.slice none 0 0,u0,u1,u2,u3,u4,u5,u6,u7] 125));have HBp:=zaa ((Below.refl w1.heap.size w1).alloc (Nat.le_refl _) (.cells #[.pointer none,.slice none 0 0,u0,u1,u2,u3,u4,u5,u6,u7] 125));have HP2:Hid (zb6 W.heap.size w1.heap.size ⟨u0,u1,u2,u3,u4,u5,u6,u7⟩ [] (w1.alloc (.cells #[.pointer none,.slice none 0 0,u0,u1,u2,u3,u4,u5,u6,u7] 125))):=zaa (.inl ⟨HB1.out.size,.slice none 0 0,HXp.out,World.ownsRow_nil _ _ _ _⟩);have hz1:w1.heap.size<(w1.alloc (.cells #[.pointer none,.slice none 0 0,u0,u1,u2,u3,u4,u5,u6,u7] 125)).heap.size:=by simp
  have hzz:w1.heap.size+1=(w1.alloc (.cells #[.pointer none,.slice none 0 0,u0,u1,u2,u3,u4,u5,u6,u7] 125)).heap.size:=by simp
  have HZZ:=zaa hzz;clear hzz;go_wp2_with fail;rw[HZZ.out];clear HZZ c0 c1 c2 c3 c4 c5 c6 c7 HX1;have HB2:=zaa (HB1.out.trans (HBp.out.mono HB1.out.size));clear HBp HXp;generalize w1.alloc _=w2 at *;generalize w1.heap.size=b at *;have HXf:=zaa (heap_alloc_new w2 (.cells #[.func (.func 71) #[.pointer (some ⟨b,0,none⟩)] #[],.func (.func 72) #[.pointer (some ⟨b,0,none⟩)] #[],.func (.func 73) #[.pointer (some ⟨b,0,none⟩)] #[],.func (.func 74) #[.pointer (some ⟨b,0,none⟩)] #[],.func (.func 75) #[.pointer (some ⟨b,0,none⟩)] #[],.func (.func 76) #[.pointer (some ⟨b,0,none⟩)] #[],.func (.func 77) #[.pointer (some ⟨b,0,none⟩)] #[],.func (.func 78) #[.pointer (some ⟨b,0,none⟩)] #[]] 1));have HBf:=zaa ((Below.refl w2.heap.size w2).alloc (Nat.le_refl _) (.cells #[.func (.func 71) #[.pointer (some ⟨b,0,none⟩)] #[],.func (.func 72) #[.pointer (some ⟨b,0,none⟩)] #[],.func (.func 73) #[.pointer (some ⟨b,0,none⟩)] #[],.func (.func 74) #[.pointer (some ⟨b,0,none⟩)] #[],.func (.func 75) #[.pointer (some ⟨b,0,none⟩)] #[],.func (.func 76) #[.pointer (some ⟨b,0,none⟩)] #[],.func (.func 77) #[.pointer (some ⟨b,0,none⟩)] #[],.func (.func 78) #[.pointer (some ⟨b,0,none⟩)] #[]] 1));generalize w2.alloc _=w3 at *;have HP3:=zaa (HP2.out.later HBf.out);have HB3:=zaa (HB2.out.trans (HBf.out.mono HB2.out.size));have HO3:Hid (Oth w3 w2.heap.size):=zaa ⟨_,_,_,HXf.out,by decide⟩;have hne:w2.heap.size≠b:=by omega
  clear HP2 HB2 HBf;generalize w2.heap.size=fb at *
  go_loopw [31] (fun v31 wr=> ∃k:Nat,k≤8∧v31= .int .i64 k∧zb6 W.heap.size b ⟨u0,u1,u2,u3,u4,u5,u6,u7⟩ (zap id ((zeT x).take k)) wr∧Below W.heap.size W wr∧PrK b w3 wr) (fun v31 _=>8-(intOf v31).toNat)
  case atStart=>exact⟨0,by omega,rfl,by rw[zbl];exact HP3.out,HB3.out,PrK.refl _ _⟩
  case round=>
   obtain⟨k,hk,rfl,hp,hbr,hkr⟩:=hrel;have HP':=zaa hp;have HBR:=zaa hbr;have HKR:=zaa hkr;have HXr:=zaa ((hkr.block fb hne HO3.out).trans HXf.out);have hBw:=hbr.size;clear hp hbr hkr HP3 HB3;by_cases hlt:k<8
   rotate_left
   ·obtain rfl:k=8:=by omega
    rw[List.take_of_length_le (by simp[zeT]),←zds] at HP';have HS:=zaa (zj1 W.heap.size b _ _ wr HP'.out hBw);have hL:=HL.out;clear hlt;go_wp2_with fail;refine HS.out.mono ?_;rintro e w4 ⟨rfl,hb⟩;have HB4:=zaa (HBR.out.trans hb);clear hb HS;go_wp2_with fail;refine(zhZ ⟨(zfq x).toArray⟩ w4 (by show(zfq x).length≤_;omega)).mono ?_;rintro e w5 ⟨rfl,rfl⟩;rcases(by unfold zdj;split<;>exact⟨_,_,rfl⟩: ∃p q,zdj ⟨(zfq x).toArray⟩= .tuple #[p,q]) with⟨p,q,hpq⟩
    rw[hpq] at HE ⊢;go_wp2_with fail;go_ret2;exact⟨by rw[HE.out];rfl,HB4.out⟩
   rcases(by omega:k=0∨k=1∨k=2∨k=3∨k=4∨k=5∨k=6∨k=7) with rfl|rfl|rfl|rfl|rfl|rfl|rfl|rfl
   ·have cf:=cell_of_row _ _ 0 _ _ _ HXr.out
    have HT:=zaa (show(zeT x)[0]? =some _ from rfl);have hroom:=zat (f:=id) HT.out;have hL:=HL.out;rw[zds] at hL;have HC:=zaa (zkC W.heap.size b _ _ x.modules wr HP' (zaa (H0.out.lateG HBR.out)) (zaa HF.out.1) (by show(zap id _).length+(id (zap zcO x.modules)).length≤_;omega) hl.nm hBw hGB (zaa (hE.out.kept HBR.out)) hGP (zaa (hP.out.below HBR.out)) hl.m);go_wp2_with fail;refine HC.out.mono ?_;rintro e w9 ⟨rfl,h1,h2,h3⟩;have HP9:=zaa h1;have HB9:=zaa (HBR.out.trans h2);have HK9:=zaa (HKR.out.trans h3);clear h1 h2 h3 HC;go_wp2_with fail;go_roundw
    case rel=>exact⟨0+1,by omega,by go_num,by rw[zaq HT.out];exact HP9.out,HB9.out,HK9.out⟩
    case measure=>simp[intOf]
   ·have cf:=cell_of_row _ _ 1 _ _ _ HXr.out
    have HT:=zaa (show(zeT x)[1]? =some _ from rfl);have hroom:=zat (f:=id) HT.out;have hL:=HL.out;rw[zds] at hL;have HC:=zaa (ziN W.heap.size b _ _ x.channels wr HP' (zaa (H1.out.lateG HBR.out)) (zaa HF.out.2.1) (by show(zap id _).length+(id (zap zbI x.channels)).length≤_;omega) hl.nc hBw hGB (zaa (hE.out.kept HBR.out)) hGP (zaa (hP.out.below HBR.out)));go_wp2_with fail;refine HC.out.mono ?_;rintro e w9 ⟨rfl,h1,h2,h3⟩;have HP9:=zaa h1;have HB9:=zaa (HBR.out.trans h2);have HK9:=zaa (HKR.out.trans h3);clear h1 h2 h3 HC;go_wp2_with fail;go_roundw
    case rel=>exact⟨1+1,by omega,by go_num,by rw[zaq HT.out];exact HP9.out,HB9.out,HK9.out⟩
    case measure=>simp[intOf]
   ·have cf:=cell_of_row _ _ 2 _ _ _ HXr.out
    have HT:=zaa (show(zeT x)[2]? =some _ from rfl);have hroom:=zat (f:=id) HT.out;have hL:=HL.out;rw[zds] at hL;have HC:=zaa (ziq W.heap.size b _ _ x.switches wr HP' (zaa (H2.out.lateG HBR.out)) (zaa HF.out.2.2.1) (by show(zap id _).length+(id (zap swT x.switches)).length≤_;omega) hl.ns hBw hGB (zaa (hE.out.kept HBR.out)) hGP (zaa (hP.out.below HBR.out)));go_wp2_with fail;refine HC.out.mono ?_;rintro e w9 ⟨rfl,h1,h2,h3⟩;have HP9:=zaa h1;have HB9:=zaa (HBR.out.trans h2);have HK9:=zaa (HKR.out.trans h3);clear h1 h2 h3 HC;go_wp2_with fail;go_roundw
    case rel=>exact⟨2+1,by omega,by go_num,by rw[zaq HT.out];exact HP9.out,HB9.out,HK9.out⟩
    case measure=>simp[intOf]
   ·have cf:=cell_of_row _ _ 3 _ _ _ HXr.out
    have HT:=zaa (show(zeT x)[3]? =some _ from rfl);have hroom:=zat (f:=id) HT.out;have hL:=HL.out;rw[zds] at hL;have HC:=zaa (znd W.heap.size b _ _ x.links wr HP' (zaa (H3.out.lateG HBR.out)) (zaa HF.out.2.2.2.1) (by show(zap id _).length+(id (zap zb9 x.links)).length≤_;omega) hl.nl hBw hGB (zaa (hE.out.kept HBR.out)) hGP (zaa (hP.out.below HBR.out)));go_wp2_with fail;refine HC.out.mono ?_;rintro e w9 ⟨rfl,h1,h2,h3⟩;have HP9:=zaa h1;have HB9:=zaa (HBR.out.trans h2);have HK9:=zaa (HKR.out.trans h3);clear h1 h2 h3 HC;go_wp2_with fail;go_roundw
    case rel=>exact⟨3+1,by omega,by go_num,by rw[zaq HT.out];exact HP9.out,HB9.out,HK9.out⟩
    case measure=>simp[intOf]
   ·have cf:=cell_of_row _ _ 4 _ _ _ HXr.out
    have HT:=zaa (show(zeT x)[4]? =some _ from rfl);have hroom:=zat (f:=id) HT.out;have hL:=HL.out;rw[zds] at hL;have HC:=zaa (zpo W.heap.size b _ _ x.vls wr HP' (zaa (H4.out.lateG HBR.out)) (zaa HF.out.2.2.2.2.1) (by show(zap id _).length+(id (zap vlT x.vls)).length≤_;omega) hl.nv hBw hGB (zaa (hE.out.kept HBR.out)) hGP (zaa (hP.out.below HBR.out)));go_wp2_with fail;refine HC.out.mono ?_;rintro e w9 ⟨rfl,h1,h2,h3⟩;have HP9:=zaa h1;have HB9:=zaa (HBR.out.trans h2);have HK9:=zaa (HKR.out.trans h3);clear h1 h2 h3 HC;go_wp2_with fail;go_roundw
    case rel=>exact⟨4+1,by omega,by go_num,by rw[zaq HT.out];exact HP9.out,HB9.out,HK9.out⟩
    case measure=>simp[intOf]
   ·have cf:=cell_of_row _ _ 5 _ _ _ HXr.out
    have HT:=zaa (show(zeT x)[5]? =some _ from rfl);have hroom:=zat (f:=id) HT.out;have hL:=HL.out;rw[zds] at hL;have HC:=zaa (zlf W.heap.size b _ _ x.health wr HP' (zaa (H5.out.lateG HBR.out)) (zaa HF.out.2.2.2.2.2.1) (by show(zap id _).length+(id (zap zaC x.health)).length≤_;omega) hl.nh hBw hGB (zaa (hE.out.kept HBR.out)) hGP (zaa (hP.out.below HBR.out)) hl.h);go_wp2_with fail;refine HC.out.mono ?_;rintro e w9 ⟨rfl,h1,h2,h3⟩;have HP9:=zaa h1;have HB9:=zaa (HBR.out.trans h2);have HK9:=zaa (HKR.out.trans h3);clear h1 h2 h3 HC;go_wp2_with fail;go_roundw
    case rel=>exact⟨5+1,by omega,by go_num,by rw[zaq HT.out];exact HP9.out,HB9.out,HK9.out⟩
    case measure=>simp[intOf]
   ·have cf:=cell_of_row _ _ 6 _ _ _ HXr.out
    have HT:=zaa (show(zeT x)[6]? =some _ from rfl);have hroom:=zat (f:=id) HT.out;have hL:=HL.out;rw[zds] at hL;have HC:=zaa (zlx W.heap.size b _ _ x.causes wr HP' (zaa (H6.out.lateG HBR.out)) (zaa HF.out.2.2.2.2.2.2.1) (by show(zap id _).length+(id (zap zbg x.causes)).length≤_;omega) hl.nk hBw hGB (zaa (hE.out.kept HBR.out)) hGP (zaa (hP.out.below HBR.out)) hl.k);go_wp2_with fail;refine HC.out.mono ?_;rintro e w9 ⟨rfl,h1,h2,h3⟩;have HP9:=zaa h1;have HB9:=zaa (HBR.out.trans h2);have HK9:=zaa (HKR.out.trans h3);clear h1 h2 h3 HC;go_wp2_with fail;go_roundw
    case rel=>exact⟨6+1,by omega,by go_num,by rw[zaq HT.out];exact HP9.out,HB9.out,HK9.out⟩
    case measure=>simp[intOf]
   ·have cf:=cell_of_row _ _ 7 _ _ _ HXr.out
    have HT:=zaa (show(zeT x)[7]? =some _ from rfl);have hroom:=zat (f:=id) HT.out;have hL:=HL.out;rw[zds] at hL;have HC:=zaa (ziv W.heap.size b _ _ x.versions wr HP' (zaa (H7.out.lateG HBR.out)) (zaa HF.out.2.2.2.2.2.2.2) (by show(zap id _).length+(id (zap zf2 x.versions)).length≤_;omega) hl.nr hBw hGB (zaa (hE.out.kept HBR.out)) hGP (zaa (hP.out.below HBR.out)));go_wp2_with fail;refine HC.out.mono ?_;rintro e w9 ⟨rfl,h1,h2,h3⟩;have HP9:=zaa h1;have HB9:=zaa (HBR.out.trans h2);have HK9:=zaa (HKR.out.trans h3);clear h1 h2 h3 HC;go_wp2_with fail;go_roundw
    case rel=>exact⟨7+1,by omega,by go_num,by rw[zaq HT.out];exact HP9.out,HB9.out,HK9.out⟩
    case measure=>simp[intOf]
def zft:zaT:=⟨[105],2,false,8,3,0⟩
def zlg:zaT:=⟨[105],3,false,8,3,0⟩
def zkb:zaT:=⟨[105],1,false,0,1,0⟩
def zfp (p:zaT):zcS:={zcS.none with modules:=[⟨[109],1,2,[⟨[112],2,1,0,[],0,0,[],[p],[]⟩]⟩],vls:=[⟨[118],⟨[109,49],[112,49],[111]⟩,200,40,[⟨[109,50],[112,50],[105]⟩,⟨[109,51],[112,49],[105]⟩]⟩],causes:=[⟨[117],[⟨[120],1⟩,⟨[121],2⟩],[[122]]⟩]}
def zil:ByteArray:=⟨#[109,111,100,117,108,101,32,109,32,109,101,109,32,49,32,102,114,97,109,101,32,50,32,123,10,9,112,97,114,116,32,112,32,112,101,114,105,111,100,32,50,32,108,101,110,103,116,104,32,49,32,109,101,109,32,48,32,123,10,9,9,105,110,32,105,32,113,117,101,117,105,110,103,32,115,105,122,101,32,56,32,100,101,112,116,104,32,51,59,10,9,125,10,125,10,118,108,32,118,32,102,114,111,109,32,109,49,46,112,49,46,111,32,98,97,103,32,50,48,48,32,109,97,120,32,52,48,32,116,111,32,109,50,46,112,50,46,105,44,32,109,51,46,112,49,46,105,59,10,99,97,117,115,101,32,117,32,110,101,101,100,115,32,120,58,49,44,32,121,58,50,32,117,110,108,101,115,115,32,122,59,10]⟩
def zm6:List zb3:=[⟨2,0,5,0⟩,⟨19,0,0,0⟩]
theorem zle:zev (zfp zft)=true:=by kernel_rfl
theorem zjo:zev (zfp zlg)=false:=by kernel_rfl
theorem zjJ:zev (zfp zkb)=false:=by kernel_rfl
theorem zoO:Lib.itoa 0=[48]:=by rw[show(0:Int)=((0:Nat):Int) from rfl,Lib.itoa_nonneg];unfold Lib.decDigits;rfl
theorem zpd:Lib.itoa 1=[49]:=by rw[show(1:Int)=((1:Nat):Int) from rfl,Lib.itoa_nonneg];unfold Lib.decDigits;rfl
theorem zpa:Lib.itoa 2=[50]:=by rw[show(2:Int)=((2:Nat):Int) from rfl,Lib.itoa_nonneg];unfold Lib.decDigits;rfl
theorem zpy:Lib.itoa 3=[51]:=by rw[show(3:Int)=((3:Nat):Int) from rfl,Lib.itoa_nonneg];unfold Lib.decDigits;rfl
theorem zpf:Lib.itoa 5=[53]:=by rw[show(5:Int)=((5:Nat):Int) from rfl,Lib.itoa_nonneg];unfold Lib.decDigits;rfl
theorem zpB:Lib.itoa 8=[56]:=by rw[show(8:Int)=((8:Nat):Int) from rfl,Lib.itoa_nonneg];unfold Lib.decDigits;rfl
theorem dd4:Lib.decDigits 4=[52]:=by unfold Lib.decDigits;rfl
theorem dd2:Lib.decDigits 2=[50]:=by unfold Lib.decDigits;rfl
theorem dd20:Lib.decDigits 20=[50,48]:=by unfold Lib.decDigits;rw[dif_neg (by decide),dd2];rfl
theorem zoC:Lib.itoa 40=[52,48]:=by rw[show(40:Int)=((40:Nat):Int) from rfl,Lib.itoa_nonneg];unfold Lib.decDigits;rw[dif_neg (by decide),dd4];rfl
theorem zmF:Lib.itoa 200=[50,48,48]:=by rw[show(200:Int)=((200:Nat):Int) from rfl,Lib.itoa_nonneg];unfold Lib.decDigits;rw[dif_neg (by decide),dd20];rfl
theorem zmj:zfq (zfp zft)=zil.data.toList:=by
 simp[zfq,zfp,zcS.none,zap,zcO,zhl,zcq,zbM,za7,zaR,zaW,zcA,zbP,zfJ,zft,vlT,zbg,zes,lnT,zbK,Arg.txt,zdv,zcL,zdk,zeP,zcZ,Lib.repeatL,Lib.join,List.intercalate,List.intersperse,zoO,zpd,zpa,zpy,zpB,zoC,zmF,zil]
theorem zkG:cfgE (zfp zft)= .tuple #[.string zil,.int .i64 0]:=by
 unfold cfgE;rw[if_pos zle,zmj];have e:(⟨zil.data.toList.toArray⟩:ByteArray)=zil:=by apply ByteArray.ext;simp
 rw[e];unfold zdj;rw[if_neg (by decide +kernel)]
theorem znY:cfgE (zfp zlg)= .tuple #[.string ⟨#[]⟩,.int .i64 2]:=by
 unfold cfgE;rw[if_neg (by rw[zjo];decide)]
theorem zoP:cfgE (zfp zkb)= .tuple #[.string ⟨#[]⟩,.int .i64 2]:=by
 unfold cfgE;rw[if_neg (by rw[zjJ];decide)]
theorem zl3:zm6.all zeg=true:=by kernel_rfl
theorem znU:zd5 zm6=[115,101,116,32,48,32,53,59,32,110,101,120,116,59]:=by
 have h1:zep ⟨2,0,5,0⟩=[115,101,116,32,48,32,53,59]:=by
  rw[zfO,show zcK ⟨2,0,5,0⟩=[0,5] from rfl,show zaf zaA (zb3.op ⟨2,0,5,0⟩)=[115,101,116] from rfl];simp[zap,opT,zoO,zpf]
 have h2:zep ⟨19,0,0,0⟩=[110,101,120,116,59]:=by
  rw[zfO,show zcK ⟨19,0,0,0⟩=[] from rfl,show zaf zaA (zb3.op ⟨19,0,0,0⟩)=[110,101,120,116] from rfl];simp[zap]
 unfold zd5 zm6;rw[List.map_cons,List.map_cons,List.map_nil,h1,h2]
 rfl
theorem zn8:codeE zm6= .tuple #[.string ⟨#[115,101,116,32,48,32,53,59,32,110,101,120,116,59]⟩,.int .i64 0]:=by
 unfold codeE;rw[if_pos zl3,znU];unfold zdj;rw[if_neg (by decide)]
theorem ze0 (p:zaT):zdB (zfp p):=by
 constructor<;>simp[zfp,zcS.none,zdl,zb0,zbR]
def aVs (z:Nat):List Value:=[.slice (some ⟨z+1+1+1+1,0,none⟩) 1 1,.slice none 0 0,.slice none 0 0,.slice none 0 0,.slice (some ⟨z+1+1+1+1+1+1,0,none⟩) 1 1,.slice none 0 0,.slice (some ⟨z+1+1+1+1+1+1+1+1+1,0,none⟩) 1 1,.slice none 0 0]
def zd6 (p:zaT):Array Value:= #[.string ⟨p.name.toArray⟩,.int .u8 (p.kind:Int),.bool p.out,.int .i64 p.size,.int .i64 p.depth,.int .i64 p.refresh]
def aOb (z:Nat) (p:Array Value):List Obj:=[
 .cells #[.string ⟨#[109,50]⟩,.string ⟨#[112,50]⟩,.string ⟨#[105]⟩] 55,
 .cells #[.string ⟨#[109,51]⟩,.string ⟨#[112,49]⟩,.string ⟨#[105]⟩] 55,
 .cells p 51,
 .cells #[.string ⟨#[112]⟩,.int .i64 2,.int .i64 1,.int .i64 0,.slice none 0 0,.int .i64 0,.int .i64 0,.slice none 0 0,.slice (some ⟨z+1+1,0,none⟩) 1 1,.slice none 0 0] 49,
 .cells #[.string ⟨#[109]⟩,.int .i64 1,.int .i64 2,.slice (some ⟨z+1+1+1,0,none⟩) 1 1] 44,
 .cells #[.string ⟨#[109,50]⟩,.string ⟨#[112,50]⟩,.string ⟨#[105]⟩,.string ⟨#[109,51]⟩,.string ⟨#[112,49]⟩,.string ⟨#[105]⟩] 55,
 .cells #[.string ⟨#[118]⟩,.string ⟨#[109,49]⟩,.string ⟨#[112,49]⟩,.string ⟨#[111]⟩,.int .i64 200,.int .i64 40,.slice (some ⟨z+1+1+1+1+1,0,none⟩) 2 2] 61,
 .cells #[.string ⟨#[120]⟩,.int .i64 1,.string ⟨#[121]⟩,.int .i64 2] 67,
 .cells #[.string ⟨#[122]⟩] 9,
 .cells #[.string ⟨#[117]⟩,.slice (some ⟨z+1+1+1+1+1+1+1,0,none⟩) 2 2,.slice (some ⟨z+1+1+1+1+1+1+1+1,0,none⟩) 1 1] 65,
 .cells (aVs z).toArray 31]
def AAt (w:World) (z:Nat) (p:zaT):Prop:= ∀(i:Nat) (o:Obj),(aOb z (zd6 p))[i]? =some o→w.heap[z+i]? =some o
theorem AAt.below {w w':World} {z:Nat} {p:zaT} (h:AAt w z p) (hb:Below w.heap.size w w'):AAt w' z p:=fun i o ho=>(hb.block _ (zau (h i o ho))).trans (h i o ho)
theorem AAt.cfg {V:World} {z:Nat} {p:zaT} (hat:AAt V z p):zab V (fun _=>True) (aVs z) (zfp p).cells:=by
 have d0:DAt V (fun _=>True) (.slice (some ⟨z+1+1,0,none⟩) 1 1) (.row 6 [zaT.cells p]):=
  DAt.block (hat 2 _ rfl) rfl (by simp[zaT.cells]) (by(show zab V _ [_,_,_,_,_,_] _;(repeat(refine zab.cons ?_ ?_;first|exact .leaf _|exact .nil _ _ _|assumption));exact zab.nil)) trivial
 have d1:DAt V (fun _=>True) (.slice (some ⟨z+1+1+1,0,none⟩) 1 1) (.row 10 [zaQ.cells ⟨[112],2,1,0,[],0,0,[],[p],[]⟩]):=
  DAt.block (hat 3 _ rfl) rfl (by simp[zaQ.cells]) (by((repeat(refine zab.cons ?_ ?_;first|exact .leaf _|exact .nil _ _ _|assumption));exact zab.nil)) trivial
 have d2:DAt V (fun _=>True) (.slice (some ⟨z+1+1+1+1,0,none⟩) 1 1) (.row 4 ((zfp p).modules.map zcy.cells)):=
  DAt.block (hat 4 _ rfl) rfl (by simp[zfp,zcy.cells]) (by((repeat(refine zab.cons ?_ ?_;first|exact .leaf _|exact .nil _ _ _|assumption));exact zab.nil)) trivial
 have d3:DAt V (fun _=>True) (.slice (some ⟨z+1+1+1+1+1,0,none⟩) 2 2) (.row 3 [zb7.cells ⟨[109,50],[112,50],[105]⟩,zb7.cells ⟨[109,51],[112,49],[105]⟩]):=
  DAt.block (hat 5 _ rfl) rfl (by simp[zb7.cells]) (by((repeat(refine zab.cons ?_ ?_;first|exact .leaf _|exact .nil _ _ _|assumption));exact zab.nil)) trivial
 have d4:DAt V (fun _=>True) (.slice (some ⟨z+1+1+1+1+1+1,0,none⟩) 1 1) (.row 7 ((zfp p).vls.map VlD.cells)):=
  DAt.block (hat 6 _ rfl) rfl (by simp[zfp,VlD.cells,zb7.cells]) (by((repeat(refine zab.cons ?_ ?_;first|exact .leaf _|exact .nil _ _ _|assumption));exact zab.nil)) trivial
 have d5:DAt V (fun _=>True) (.slice (some ⟨z+1+1+1+1+1+1+1,0,none⟩) 2 2) (.row 2 [zcu.cells ⟨[120],1⟩,zcu.cells ⟨[121],2⟩]):=
  DAt.block (hat 7 _ rfl) rfl (by simp[zcu.cells]) (by((repeat(refine zab.cons ?_ ?_;first|exact .leaf _|exact .nil _ _ _|assumption));exact zab.nil)) trivial
 have d6:DAt V (fun _=>True) (.slice (some ⟨z+1+1+1+1+1+1+1+1,0,none⟩) 1 1) (.row 1 (zao [[122]])):=
  DAt.block (hat 8 _ rfl) rfl (by simp[zao]) (by((repeat(refine zab.cons ?_ ?_;first|exact .leaf _|exact .nil _ _ _|assumption));exact zab.nil)) trivial
 have d7:DAt V (fun _=>True) (.slice (some ⟨z+1+1+1+1+1+1+1+1+1,0,none⟩) 1 1) (.row 3 ((zfp p).causes.map zaF.cells)):=
  DAt.block (hat 9 _ rfl) rfl (by simp[zfp,zaF.cells]) (by((repeat(refine zab.cons ?_ ?_;first|exact .leaf _|exact .nil _ _ _|assumption));exact zab.nil)) trivial
 ((repeat(refine zab.cons ?_ ?_;first|exact .leaf _|exact .nil _ _ _|assumption));exact zab.nil)
end Go.Proofs.YtgbfaompondolaaGreatDoor
