/- Merged texts of the walks and of the plain laws on which the statement leans.-/
import Derived.Test.YtgbfaompondolaaGreatDoorPk1
import Derived.Test.YtgbfaompondolaaGreatDoorPk17
import Derived.Test.YtgbfaompondolaaGreatDoorPk18
import Derived.Test.YtgbfaompondolaaGreatDoorPk15
import Derived.Test.YtgbfaompondolaaGreatDoorPk14
import Derived.Test.YtgbfaompondolaaGreatDoorPk8
import Derived.Test.YtgbfaompondolaaGreatDoorRows
import Derived.Test.YtgbfaompondolaaGreatDoorCards
import Derived.Test.YtgbfaompondolaaGreatDoorTie
import Derived.SevenTiedAt
import Derived.Lib.LaidTab
import Derived.Lib.SmallJoins
import Derived.Stop.LaidErr
import Derived.Shelf.Vars
set_option maxHeartbeats 8000000
set_option maxRecDepth 100000
namespace Go.Proofs.YtgbfaompondolaaGreatDoor
open Go.RowKit
attribute [local go_sem] zal.cell
def zet (x:zbR):List (List UInt8):=[za4 zgm x.modules,za4 zes x.channels,za4 swT x.switches,za4 zeH x.links,za4 vlT x.vls,za4 zbD x.health,za4 zcr x.causes,za4 ziF x.versions]
theorem zc5 (x:zbR):zhQ x=za4 id (zet x):=by simp[zhQ,zet,za4]
noncomputable def cfgE (x:zbR):Value:=if zfG x=true then zdC ⟨(zhQ x).toArray⟩ else .tuple #[.string ⟨#[]⟩,.int .i64 2]
theorem bsf8 (f0 f1 f2 f3 f4 f5 f6 f7:Fn) (a0 a1 a2 a3 a4 a5 a6 a7:Array Value) (w:World):(Instr.buildSlice 126 8 #[(0,.func f0 a0 #[]),(1,.func f1 a1 #[]),(2,.func f2 a2 #[]),(3,.func f3 a3 #[]),(4,.func f4 a4 #[]),(5,.func f5 a5 #[]),(6,.func f6 a6 #[]),(7,.func f7 a7 #[])]).run Tryz.prog w= .ok (.slice (some ⟨w.heap.size,0,none⟩) 8 8) (w.alloc (.cells #[.func f0 a0 #[],.func f1 a1 #[],.func f2 a2 #[],.func f3 a3 #[],.func f4 a4 #[],.func f5 a5 #[],.func f6 a6 #[],.func f7 a7 #[]] 1)):=by kernel_rfl
theorem zea (x:zbR) (us:List Value) (W:World) (hE:Hid (Env W)) (hP:Hid (zcL W)) (hd:Hid (zab W (fun _=>True) us x.cells)) (hl:zdE x) (hlen:zfG x=true→(zhQ x).length≤1000000):
 Calls Tryz.prog 16 #[.agg us.toArray] W fun e w'=>e= .returned (cfgE x)∧Below W.heap.size W w':=by
 have HV:=zaa (fun V (hE:Hid (Env V)) (hP:Hid (zcL V)) hd=>zoX x us V hE hd hP hl)
 have HD:=hd
 have hd:=hd.out
 obtain⟨u0,u1,u2,u3,u4,u5,u6,u7,rfl,h0,h1,h2,h3,h4,h5,h6,h7⟩:=dc8 hd
 have H0:=zaa (h0.mono (H:=fun g=>g<W.heap.size) (fun _ _ h=>h))
 have H1:=zaa (h1.mono (H:=fun g=>g<W.heap.size) (fun _ _ h=>h))
 have H2:=zaa (h2.mono (H:=fun g=>g<W.heap.size) (fun _ _ h=>h))
 have H3:=zaa (h3.mono (H:=fun g=>g<W.heap.size) (fun _ _ h=>h))
 have H4:=zaa (h4.mono (H:=fun g=>g<W.heap.size) (fun _ _ h=>h))
 have H5:=zaa (h5.mono (H:=fun g=>g<W.heap.size) (fun _ _ h=>h))
 have H6:=zaa (h6.mono (H:=fun g=>g<W.heap.size) (fun _ _ h=>h))
 have H7:=zaa (h7.mono (H:=fun g=>g<W.heap.size) (fun _ _ h=>h))
 clear hd h0 h1 h2 h3 h4 h5 h6 h7
 have hGB:8≤W.heap.size:=by
  obtain⟨b1,b2,b3⟩:=hE.out.big
  omega
 have hGP:2≤W.heap.size:=hP.out.big
 have HX:=zaa (heap_alloc_new W (.cells #[u0,u1,u2,u3,u4,u5,u6,u7] 31))
 have HB:=zaa ((Below.refl W.heap.size W).alloc (Nat.le_refl _) (.cells #[u0,u1,u2,u3,u4,u5,u6,u7] 31))
 go_enter Tryz.func16,Tryz.ntmps16
 go_wp2_with fail
 generalize W.alloc _=w0 at *
 have HC:=zaa (HV.out w0 (zaa (hE.out.kept HB.out)) (zaa (hP.out.below HB.out)) (zaa (HD.out.below HB.out)))
 clear HV HD
 cases hv:zfG x with
 |false=>
  have HE:=zaa (show cfgE x= .tuple #[.string ⟨#[]⟩,.int .i64 2] by unfold cfgE;rw[hv];rfl)
  rw[hv] at HC
  clear hv
  refine HC.out.mono ?_
  rintro e w1 ⟨rfl,hb⟩
  have HB1:=zaa (btZ HB.out hb)
  clear HC hb
  go_wp2_with fail
  go_ret2
  exact⟨by rw[HE.out];rfl,HB1.out⟩
 |true=>
  have HL:=zaa (hlen hv)
  have HE:=zaa (show cfgE x=zdC ⟨(zhQ x).toArray⟩ by unfold cfgE;rw[hv];rfl)
  have HF:=zaa (show x.modules.all zig=true∧x.channels.all zgO=true∧x.switches.all swF=true∧x.links.all zeA=true∧x.vls.all vlF=true∧x.health.all zdi=true∧x.causes.all zdH=true∧x.versions.all zij=true by unfold zfG at hv;simpa only[Bool.and_eq_true] using hv)
  rw[hv] at HC
  clear hv hlen
  refine HC.out.mono ?_
  rintro e w1 ⟨rfl,hb⟩
  have HB1:=zaa (btZ HB.out hb)
  have HX1:=zaa (bkZ hb HX.out)
  clear HC hb HX HB
  have c0:=cell_of_row _ _ 0 _ _ _ HX1.out
  have c1:=cell_of_row _ _ 1 _ _ _ HX1.out
  have c2:=cell_of_row _ _ 2 _ _ _ HX1.out
  have c3:=cell_of_row _ _ 3 _ _ _ HX1.out
  have c4:=cell_of_row _ _ 4 _ _ _ HX1.out
  have c5:=cell_of_row _ _ 5 _ _ _ HX1.out
  have c6:=cell_of_row _ _ 6 _ _ _ HX1.out
  have c7:=cell_of_row _ _ 7 _ _ _ HX1.out
  have HXp:=zaa (heap_alloc_new w1 (.cells #[.pointer none,.slice none 0 0,u0,u1,u2,u3,u4,u5,u6,u7] 125))
  have HBp:=zaa ((Below.refl w1.heap.size w1).alloc (Nat.le_refl _) (.cells #[.pointer none,.slice none 0 0,u0,u1,u2,u3,u4,u5,u6,u7] 125))
  have HP2:Hid (zbZ W.heap.size w1.heap.size ⟨u0,u1,u2,u3,u4,u5,u6,u7⟩ [] (w1.alloc (.cells #[.pointer none,.slice none 0 0,u0,u1,u2,u3,u4,u5,u6,u7] 125))):=zaa (.inl ⟨HB1.out.size,.slice none 0 0,HXp.out,World.ownsRow_nil _ _ _ _⟩)
  have hz1:w1.heap.size<(w1.alloc (.cells #[.pointer none,.slice none 0 0,u0,u1,u2,u3,u4,u5,u6,u7] 125)).heap.size:=by simp
  have hzz:w1.heap.size+1=(w1.alloc (.cells #[.pointer none,.slice none 0 0,u0,u1,u2,u3,u4,u5,u6,u7] 125)).heap.size:=by simp
  have HZZ:=zaa hzz
  clear hzz
  go_wp2_with fail
  rw[HZZ.out]
  clear HZZ c0 c1 c2 c3 c4 c5 c6 c7 HX1
  have HB2:=zaa (HB1.out.trans (HBp.out.mono HB1.out.size))
  clear HBp HXp
  generalize w1.alloc _=w2 at *
  generalize w1.heap.size=b at *
  have HXf:=zaa (heap_alloc_new w2 (.cells #[.func (.func 71) #[.pointer (some ⟨b,0,none⟩)] #[],.func (.func 72) #[.pointer (some ⟨b,0,none⟩)] #[],.func (.func 73) #[.pointer (some ⟨b,0,none⟩)] #[],.func (.func 74) #[.pointer (some ⟨b,0,none⟩)] #[],.func (.func 75) #[.pointer (some ⟨b,0,none⟩)] #[],.func (.func 76) #[.pointer (some ⟨b,0,none⟩)] #[],.func (.func 77) #[.pointer (some ⟨b,0,none⟩)] #[],.func (.func 78) #[.pointer (some ⟨b,0,none⟩)] #[]] 1))
  have HBf:=zaa ((Below.refl w2.heap.size w2).alloc (Nat.le_refl _) (.cells #[.func (.func 71) #[.pointer (some ⟨b,0,none⟩)] #[],.func (.func 72) #[.pointer (some ⟨b,0,none⟩)] #[],.func (.func 73) #[.pointer (some ⟨b,0,none⟩)] #[],.func (.func 74) #[.pointer (some ⟨b,0,none⟩)] #[],.func (.func 75) #[.pointer (some ⟨b,0,none⟩)] #[],.func (.func 76) #[.pointer (some ⟨b,0,none⟩)] #[],.func (.func 77) #[.pointer (some ⟨b,0,none⟩)] #[],.func (.func 78) #[.pointer (some ⟨b,0,none⟩)] #[]] 1))
  generalize w2.alloc _=w3 at *
  have HP3:=zaa (HP2.out.later HBf.out)
  have HB3:=zaa (HB2.out.trans (HBf.out.mono HB2.out.size))
  have HO3:Hid (Oth w3 w2.heap.size):=zaa ⟨_,_,_,HXf.out,by decide⟩
  have hne:w2.heap.size≠b:=by omega
  clear HP2 HB2 HBf
  generalize w2.heap.size=fb at *
  go_loopw [31] (fun v31 wr=> ∃k:Nat,k≤8∧v31= .int .i64 k∧zbZ W.heap.size b ⟨u0,u1,u2,u3,u4,u5,u6,u7⟩ (za4 id ((zet x).take k)) wr∧Below W.heap.size W wr∧PrK b w3 wr) (fun v31 _=>8-(intOf v31).toNat)
  case atStart=>exact⟨0,by omega,rfl,by rw[zbh];exact HP3.out,HB3.out,PrK.refl _ _⟩
  case round=>
   obtain⟨k,hk,rfl,hp,hbr,hkr⟩:=hrel
   have HP':=zaa hp
   have HBR:=zaa hbr
   have HKR:=zaa hkr
   have HXr:=zaa ((hkr.block fb hne HO3.out).trans HXf.out)
   have hBw:=hbr.size
   clear hp hbr hkr HP3 HB3
   by_cases hlt:k<8
   rotate_left
   ·obtain rfl:k=8:=by omega
    rw[List.take_of_length_le (by simp[zet]),←zc5] at HP'
    have HS:=zaa (ziA W.heap.size b _ _ wr HP'.out hBw)
    have hL:=HL.out
    clear hlt
    go_wp2_with fail
    refine HS.out.mono ?_
    rintro e w4 ⟨rfl,hb⟩
    have HB4:=zaa (HBR.out.trans hb)
    clear hb HS
    go_wp2_with fail
    refine(zhA ⟨(zhQ x).toArray⟩ w4 (by show(zhQ x).length≤_;omega)).mono ?_
    rintro e w5 ⟨rfl,rfl⟩
    rcases(by unfold zdC;split<;>exact⟨_,_,rfl⟩: ∃p q,zdC ⟨(zhQ x).toArray⟩= .tuple #[p,q]) with⟨p,q,hpq⟩
    rw[hpq] at HE ⊢
    go_wp2_with fail
    go_ret2
    exact⟨by rw[HE.out];rfl,HB4.out⟩
   rcases(by omega:k=0∨k=1∨k=2∨k=3∨k=4∨k=5∨k=6∨k=7) with rfl|rfl|rfl|rfl|rfl|rfl|rfl|rfl
   ·have cf:=cell_of_row _ _ 0 _ _ _ HXr.out
    have HT:=zaa (show(zet x)[0]? =some _ from rfl)
    have hroom:=zaV (f:=id) HT.out
    have hL:=HL.out
    rw[zc5] at hL
    have HC:=zaa (zjg W.heap.size b _ _ x.modules wr HP' (zaa (H0.out.lateG HBR.out)) (zaa HF.out.1) (by show(za4 id _).length+(id (za4 zgm x.modules)).length≤_;omega) hl.nm hBw hGB (zaa (hE.out.kept HBR.out)) hGP (zaa (hP.out.below HBR.out)) hl.m)
    go_wp2_with fail
    refine HC.out.mono ?_
    rintro e w9 ⟨rfl,h1,h2,h3⟩
    have HP9:=zaa h1
    have HB9:=zaa (HBR.out.trans h2)
    have HK9:=zaa (HKR.out.trans h3)
    clear h1 h2 h3 HC
    go_wp2_with fail
    go_roundw
    case rel=>exact⟨0+1,by omega,by go_num,by rw[zaE HT.out];exact HP9.out,HB9.out,HK9.out⟩
    case measure=>simp[intOf]
   ·have cf:=cell_of_row _ _ 1 _ _ _ HXr.out
    have HT:=zaa (show(zet x)[1]? =some _ from rfl)
    have hroom:=zaV (f:=id) HT.out
    have hL:=HL.out
    rw[zc5] at hL
    have HC:=zaa (zhH W.heap.size b _ _ x.channels wr HP' (zaa (H1.out.lateG HBR.out)) (zaa HF.out.2.1) (by show(za4 id _).length+(id (za4 zes x.channels)).length≤_;omega) hl.nc hBw hGB (zaa (hE.out.kept HBR.out)) hGP (zaa (hP.out.below HBR.out)))
    go_wp2_with fail
    refine HC.out.mono ?_
    rintro e w9 ⟨rfl,h1,h2,h3⟩
    have HP9:=zaa h1
    have HB9:=zaa (HBR.out.trans h2)
    have HK9:=zaa (HKR.out.trans h3)
    clear h1 h2 h3 HC
    go_wp2_with fail
    go_roundw
    case rel=>exact⟨1+1,by omega,by go_num,by rw[zaE HT.out];exact HP9.out,HB9.out,HK9.out⟩
    case measure=>simp[intOf]
   ·have cf:=cell_of_row _ _ 2 _ _ _ HXr.out
    have HT:=zaa (show(zet x)[2]? =some _ from rfl)
    have hroom:=zaV (f:=id) HT.out
    have hL:=HL.out
    rw[zc5] at hL
    have HC:=zaa (zh6 W.heap.size b _ _ x.switches wr HP' (zaa (H2.out.lateG HBR.out)) (zaa HF.out.2.2.1) (by show(za4 id _).length+(id (za4 swT x.switches)).length≤_;omega) hl.ns hBw hGB (zaa (hE.out.kept HBR.out)) hGP (zaa (hP.out.below HBR.out)))
    go_wp2_with fail
    refine HC.out.mono ?_
    rintro e w9 ⟨rfl,h1,h2,h3⟩
    have HP9:=zaa h1
    have HB9:=zaa (HBR.out.trans h2)
    have HK9:=zaa (HKR.out.trans h3)
    clear h1 h2 h3 HC
    go_wp2_with fail
    go_roundw
    case rel=>exact⟨2+1,by omega,by go_num,by rw[zaE HT.out];exact HP9.out,HB9.out,HK9.out⟩
    case measure=>simp[intOf]
   ·have cf:=cell_of_row _ _ 3 _ _ _ HXr.out
    have HT:=zaa (show(zet x)[3]? =some _ from rfl)
    have hroom:=zaV (f:=id) HT.out
    have hL:=HL.out
    rw[zc5] at hL
    have HC:=zaa (zlT W.heap.size b _ _ x.links wr HP' (zaa (H3.out.lateG HBR.out)) (zaa HF.out.2.2.2.1) (by show(za4 id _).length+(id (za4 zeH x.links)).length≤_;omega) hl.nl hBw hGB (zaa (hE.out.kept HBR.out)) hGP (zaa (hP.out.below HBR.out)))
    go_wp2_with fail
    refine HC.out.mono ?_
    rintro e w9 ⟨rfl,h1,h2,h3⟩
    have HP9:=zaa h1
    have HB9:=zaa (HBR.out.trans h2)
    have HK9:=zaa (HKR.out.trans h3)
    clear h1 h2 h3 HC
    go_wp2_with fail
    go_roundw
    case rel=>exact⟨3+1,by omega,by go_num,by rw[zaE HT.out];exact HP9.out,HB9.out,HK9.out⟩
    case measure=>simp[intOf]
   ·have cf:=cell_of_row _ _ 4 _ _ _ HXr.out
    have HT:=zaa (show(zet x)[4]? =some _ from rfl)
    have hroom:=zaV (f:=id) HT.out
    have hL:=HL.out
    rw[zc5] at hL
    have HC:=zaa (zoW W.heap.size b _ _ x.vls wr HP' (zaa (H4.out.lateG HBR.out)) (zaa HF.out.2.2.2.2.1) (by show(za4 id _).length+(id (za4 vlT x.vls)).length≤_;omega) hl.nv hBw hGB (zaa (hE.out.kept HBR.out)) hGP (zaa (hP.out.below HBR.out)))
    go_wp2_with fail
    refine HC.out.mono ?_
    rintro e w9 ⟨rfl,h1,h2,h3⟩
    have HP9:=zaa h1
    have HB9:=zaa (HBR.out.trans h2)
    have HK9:=zaa (HKR.out.trans h3)
    clear h1 h2 h3 HC
    go_wp2_with fail
    go_roundw
    case rel=>exact⟨4+1,by omega,by go_num,by rw[zaE HT.out];exact HP9.out,HB9.out,HK9.out⟩
    case measure=>simp[intOf]
   ·have cf:=cell_of_row _ _ 5 _ _ _ HXr.out
    have HT:=zaa (show(zet x)[5]? =some _ from rfl)
    have hroom:=zaV (f:=id) HT.out
    have hL:=HL.out
    rw[zc5] at hL
    have HC:=zaa (zjS W.heap.size b _ _ x.health wr HP' (zaa (H5.out.lateG HBR.out)) (zaa HF.out.2.2.2.2.2.1) (by show(za4 id _).length+(id (za4 zbD x.health)).length≤_;omega) hl.nh hBw hGB (zaa (hE.out.kept HBR.out)) hGP (zaa (hP.out.below HBR.out)) hl.h)
    go_wp2_with fail
    refine HC.out.mono ?_
    rintro e w9 ⟨rfl,h1,h2,h3⟩
    have HP9:=zaa h1
    have HB9:=zaa (HBR.out.trans h2)
    have HK9:=zaa (HKR.out.trans h3)
    clear h1 h2 h3 HC
    go_wp2_with fail
    go_roundw
    case rel=>exact⟨5+1,by omega,by go_num,by rw[zaE HT.out];exact HP9.out,HB9.out,HK9.out⟩
    case measure=>simp[intOf]
   ·have cf:=cell_of_row _ _ 6 _ _ _ HXr.out
    have HT:=zaa (show(zet x)[6]? =some _ from rfl)
    have hroom:=zaV (f:=id) HT.out
    have hL:=HL.out
    rw[zc5] at hL
    have HC:=zaa (zkr W.heap.size b _ _ x.causes wr HP' (zaa (H6.out.lateG HBR.out)) (zaa HF.out.2.2.2.2.2.2.1) (by show(za4 id _).length+(id (za4 zcr x.causes)).length≤_;omega) hl.nk hBw hGB (zaa (hE.out.kept HBR.out)) hGP (zaa (hP.out.below HBR.out)) hl.k)
    go_wp2_with fail
    refine HC.out.mono ?_
    rintro e w9 ⟨rfl,h1,h2,h3⟩
    have HP9:=zaa h1
    have HB9:=zaa (HBR.out.trans h2)
    have HK9:=zaa (HKR.out.trans h3)
    clear h1 h2 h3 HC
    go_wp2_with fail
    go_roundw
    case rel=>exact⟨6+1,by omega,by go_num,by rw[zaE HT.out];exact HP9.out,HB9.out,HK9.out⟩
    case measure=>simp[intOf]
   ·have cf:=cell_of_row _ _ 7 _ _ _ HXr.out
    have HT:=zaa (show(zet x)[7]? =some _ from rfl)
    have hroom:=zaV (f:=id) HT.out
    have hL:=HL.out
    rw[zc5] at hL
    have HC:=zaa (zhS W.heap.size b _ _ x.versions wr HP' (zaa (H7.out.lateG HBR.out)) (zaa HF.out.2.2.2.2.2.2.2) (by show(za4 id _).length+(id (za4 ziF x.versions)).length≤_;omega) hl.nr hBw hGB (zaa (hE.out.kept HBR.out)) hGP (zaa (hP.out.below HBR.out)))
    go_wp2_with fail
    refine HC.out.mono ?_
    rintro e w9 ⟨rfl,h1,h2,h3⟩
    have HP9:=zaa h1
    have HB9:=zaa (HBR.out.trans h2)
    have HK9:=zaa (HKR.out.trans h3)
    clear h1 h2 h3 HC
    go_wp2_with fail
    go_roundw
    case rel=>exact⟨7+1,by omega,by go_num,by rw[zaE HT.out];exact HP9.out,HB9.out,HK9.out⟩
    case measure=>simp[intOf]
end Go.Proofs.YtgbfaompondolaaGreatDoor
namespace Go.Proofs.YtgbfaompondolaaGreatDoor
open Go.RowKit
def zfd:zaT:=⟨[105],2,false,8,3,0⟩
def zkl:zaT:=⟨[105],3,false,8,3,0⟩
def zh5:zaT:=⟨[105],1,false,0,1,0⟩
def ze3 (p:zaT):zbR:={zbR.none with modules:=[⟨[109],1,2,[⟨[112],2,1,0,[],0,0,[],[p],[]⟩]⟩],vls:=[⟨[118],⟨[109,49],[112,49],[111]⟩,200,40,[⟨[109,50],[112,50],[105]⟩,⟨[109,51],[112,49],[105]⟩]⟩],causes:=[⟨[117],[⟨[120],1⟩,⟨[121],2⟩],[[122]]⟩]}
def zhR:ByteArray:=⟨#[109,111,100,117,108,101,32,109,32,109,101,109,32,49,32,102,114,97,109,101,32,50,32,123,10,9,112,97,114,116,32,112,32,112,101,114,105,111,100,32,50,32,108,101,110,103,116,104,32,49,32,109,101,109,32,48,32,123,10,9,9,105,110,32,105,32,113,117,101,117,105,110,103,32,115,105,122,101,32,56,32,100,101,112,116,104,32,51,59,10,9,125,10,125,10,118,108,32,118,32,102,114,111,109,32,109,49,46,112,49,46,111,32,98,97,103,32,50,48,48,32,109,97,120,32,52,48,32,116,111,32,109,50,46,112,50,46,105,44,32,109,51,46,112,49,46,105,59,10,99,97,117,115,101,32,117,32,110,101,101,100,115,32,120,58,49,44,32,121,58,50,32,117,110,108,101,115,115,32,122,59,10]⟩
def zmm:List zbU:=[⟨2,0,5,0⟩,⟨19,0,0,0⟩]
theorem zj2:zfG (ze3 zfd)=true:=by kernel_rfl
theorem ziR:zfG (ze3 zkl)=false:=by kernel_rfl
theorem ziJ:zfG (ze3 zh5)=false:=by kernel_rfl
theorem znV:Lib.itoa 0=[48]:=by rw[show(0:Int)=((0:Nat):Int) from rfl,Lib.itoa_nonneg];unfold Lib.decDigits;rfl
theorem zoU:Lib.itoa 1=[49]:=by rw[show(1:Int)=((1:Nat):Int) from rfl,Lib.itoa_nonneg];unfold Lib.decDigits;rfl
theorem zoz:Lib.itoa 2=[50]:=by rw[show(2:Int)=((2:Nat):Int) from rfl,Lib.itoa_nonneg];unfold Lib.decDigits;rfl
theorem zou:Lib.itoa 3=[51]:=by rw[show(3:Int)=((3:Nat):Int) from rfl,Lib.itoa_nonneg];unfold Lib.decDigits;rfl
theorem zoO:Lib.itoa 5=[53]:=by rw[show(5:Int)=((5:Nat):Int) from rfl,Lib.itoa_nonneg];unfold Lib.decDigits;rfl
theorem zoq:Lib.itoa 8=[56]:=by rw[show(8:Int)=((8:Nat):Int) from rfl,Lib.itoa_nonneg];unfold Lib.decDigits;rfl
theorem dd4:Lib.decDigits 4=[52]:=by unfold Lib.decDigits;rfl
theorem dd2:Lib.decDigits 2=[50]:=by unfold Lib.decDigits;rfl
theorem dd20:Lib.decDigits 20=[50,48]:=by unfold Lib.decDigits;rw[dif_neg (by decide),dd2];rfl
theorem znb:Lib.itoa 40=[52,48]:=by rw[show(40:Int)=((40:Nat):Int) from rfl,Lib.itoa_nonneg];unfold Lib.decDigits;rw[dif_neg (by decide),dd4];rfl
theorem zmB:Lib.itoa 200=[50,48,48]:=by rw[show(200:Int)=((200:Nat):Int) from rfl,Lib.itoa_nonneg];unfold Lib.decDigits;rw[dif_neg (by decide),dd20];rfl
theorem zlq:zhQ (ze3 zfd)=zhR.data.toList:=by
 simp[zhQ,ze3,zbR.none,za4,zgm,zld,zd1,zdl,zcv,zbX,zb5,zeh,zdO,zgx,zfd,vlT,zcr,zem,lnT,zcm,Arg.txt,ze2,zdR,zd4,zgG,ze5,Lib.repeatL,Lib.join,List.intercalate,List.intersperse,znV,zoU,zoz,zou,zoq,znb,zmB,zhR]
theorem zi3:cfgE (ze3 zfd)= .tuple #[.string zhR,.int .i64 0]:=by
 unfold cfgE
 rw[if_pos zj2,zlq]
 have e:(⟨zhR.data.toList.toArray⟩:ByteArray)=zhR:=by apply ByteArray.ext;simp
 rw[e]
 unfold zdC
 rw[if_neg (by decide +kernel)]
theorem zm7:cfgE (ze3 zkl)= .tuple #[.string ⟨#[]⟩,.int .i64 2]:=by
 unfold cfgE
 rw[if_neg (by rw[ziR];decide)]
theorem znH:cfgE (ze3 zh5)= .tuple #[.string ⟨#[]⟩,.int .i64 2]:=by
 unfold cfgE
 rw[if_neg (by rw[ziJ];decide)]
theorem zkO:zmm.all zed=true:=by kernel_rfl
theorem znL:zdI zmm=[115,101,116,32,48,32,53,59,32,110,101,120,116,59]:=by
 have h1:zex ⟨2,0,5,0⟩=[115,101,116,32,48,32,53,59]:=by
  rw[zfJ,show zcz ⟨2,0,5,0⟩=[0,5] from rfl,show zaj zaD (zbU.op ⟨2,0,5,0⟩)=[115,101,116] from rfl]
  simp[za4,opT,znV,zoO]
 have h2:zex ⟨19,0,0,0⟩=[110,101,120,116,59]:=by
  rw[zfJ,show zcz ⟨19,0,0,0⟩=[] from rfl,show zaj zaD (zbU.op ⟨19,0,0,0⟩)=[110,101,120,116] from rfl]
  simp[za4]
 unfold zdI zmm
 rw[List.map_cons,List.map_cons,List.map_nil,h1,h2]
 rfl
theorem zng:codeE zmm= .tuple #[.string ⟨#[115,101,116,32,48,32,53,59,32,110,101,120,116,59]⟩,.int .i64 0]:=by
 unfold codeE
 rw[if_pos zkO,znL]
 unfold zdC
 rw[if_neg (by decide)]
theorem zd2 (p:zaT):zdE (ze3 p):=by
 constructor<;>simp[ze3,zbR.none,zb8,zbv,zbe]
def aVs (z:Nat):List Value:=[.slice (some ⟨z+1+1+1+1,0,none⟩) 1 1,.slice none 0 0,.slice none 0 0,.slice none 0 0,.slice (some ⟨z+1+1+1+1+1+1,0,none⟩) 1 1,.slice none 0 0,.slice (some ⟨z+1+1+1+1+1+1+1+1+1,0,none⟩) 1 1,.slice none 0 0]
def zdF (p:zaT):Array Value:= #[.string ⟨p.name.toArray⟩,.int .u8 (p.kind:Int),.bool p.out,.int .i64 p.size,.int .i64 p.depth,.int .i64 p.refresh]
def aOb (z:Nat) (p:Array Value):List Obj:=[
 .cells #[.string ⟨#[109,50]⟩,.string ⟨#[112,50]⟩,.string ⟨#[105]⟩] 55,
 .cells #[.string ⟨#[109,51]⟩,.string ⟨#[112,49]⟩,.string ⟨#[105]⟩] 55,
 .cells p 51,
 .cells #[.string ⟨#[112]⟩,.int .i64 2,.int .i64 1,.int .i64 0,.slice none 0 0,.int .i64 0,.int .i64 0,.slice none 0 0,.slice (some ⟨z+1+1,0,none⟩) 1 1,.slice none 0 0] 49,
 .cells #[.string ⟨#[109]⟩,.int .i64 1,.int .i64 2,.slice (some ⟨z+1+1+1,0,none⟩) 1 1] 44,
 .cells #[.string ⟨#[109,50]⟩,.string ⟨#[112,50]⟩,.string ⟨#[105]⟩,.string ⟨#[109,51]⟩,.string ⟨#[112,49]⟩,.string ⟨#[105]⟩] 55,
 .cells #[.string ⟨#[118]⟩,.string ⟨#[109,49]⟩,.string ⟨#[112,49]⟩,.string ⟨#[111]⟩,.int .i64 200,.int .i64 40,.slice (some ⟨z+1+1+1+1+1,0,none⟩) 2 2] 61,
 .cells #[.string ⟨#[120]⟩,.int .i64 1,.string ⟨#[121]⟩,.int .i64 2] 67,
 .cells #[.string ⟨#[122]⟩] 9,
 .cells #[.string ⟨#[117]⟩,.slice (some ⟨z+1+1+1+1+1+1+1,0,none⟩) 2 2,.slice (some ⟨z+1+1+1+1+1+1+1+1,0,none⟩) 1 1] 65,
 .cells (aVs z).toArray 31]
def AAt (w:World) (z:Nat) (p:zaT):Prop:= ∀(i:Nat) (o:Obj),(aOb z (zdF p))[i]? =some o→w.heap[z+i]? =some o
theorem AAt.below {w w':World} {z:Nat} {p:zaT} (h:AAt w z p) (hb:Below w.heap.size w w'):AAt w' z p:=fun i o ho=>(hb.block _ (zaJ (h i o ho))).trans (h i o ho)
theorem AAt.cfg {V:World} {z:Nat} {p:zaT} (hat:AAt V z p):zab V (fun _=>True) (aVs z) (ze3 p).cells:=by
 have d0:DAt V (fun _=>True) (.slice (some ⟨z+1+1,0,none⟩) 1 1) (.row 6 [zaT.cells p]):=
  DAt.block (hat 2 _ rfl) rfl (by simp[zaT.cells]) (by(show zab V _ [_,_,_,_,_,_] _;(repeat(refine zab.cons ?_ ?_;first|exact .leaf _|exact .nil _ _ _|assumption));exact zab.nil)) trivial
 have d1:DAt V (fun _=>True) (.slice (some ⟨z+1+1+1,0,none⟩) 1 1) (.row 10 [zaM.cells ⟨[112],2,1,0,[],0,0,[],[p],[]⟩]):=
  DAt.block (hat 3 _ rfl) rfl (by simp[zaM.cells]) (by((repeat(refine zab.cons ?_ ?_;first|exact .leaf _|exact .nil _ _ _|assumption));exact zab.nil)) trivial
 have d2:DAt V (fun _=>True) (.slice (some ⟨z+1+1+1+1,0,none⟩) 1 1) (.row 4 ((ze3 p).modules.map zcl.cells)):=
  DAt.block (hat 4 _ rfl) rfl (by simp[ze3,zcl.cells]) (by((repeat(refine zab.cons ?_ ?_;first|exact .leaf _|exact .nil _ _ _|assumption));exact zab.nil)) trivial
 have d3:DAt V (fun _=>True) (.slice (some ⟨z+1+1+1+1+1,0,none⟩) 2 2) (.row 3 [zb2.cells ⟨[109,50],[112,50],[105]⟩,zb2.cells ⟨[109,51],[112,49],[105]⟩]):=
  DAt.block (hat 5 _ rfl) rfl (by simp[zb2.cells]) (by((repeat(refine zab.cons ?_ ?_;first|exact .leaf _|exact .nil _ _ _|assumption));exact zab.nil)) trivial
 have d4:DAt V (fun _=>True) (.slice (some ⟨z+1+1+1+1+1+1,0,none⟩) 1 1) (.row 7 ((ze3 p).vls.map VlD.cells)):=
  DAt.block (hat 6 _ rfl) rfl (by simp[ze3,VlD.cells,zb2.cells]) (by((repeat(refine zab.cons ?_ ?_;first|exact .leaf _|exact .nil _ _ _|assumption));exact zab.nil)) trivial
 have d5:DAt V (fun _=>True) (.slice (some ⟨z+1+1+1+1+1+1+1,0,none⟩) 2 2) (.row 2 [zck.cells ⟨[120],1⟩,zck.cells ⟨[121],2⟩]):=
  DAt.block (hat 7 _ rfl) rfl (by simp[zck.cells]) (by((repeat(refine zab.cons ?_ ?_;first|exact .leaf _|exact .nil _ _ _|assumption));exact zab.nil)) trivial
 have d6:DAt V (fun _=>True) (.slice (some ⟨z+1+1+1+1+1+1+1+1,0,none⟩) 1 1) (.row 1 (zao [[122]])):=
  DAt.block (hat 8 _ rfl) rfl (by simp[zao]) (by((repeat(refine zab.cons ?_ ?_;first|exact .leaf _|exact .nil _ _ _|assumption));exact zab.nil)) trivial
 have d7:DAt V (fun _=>True) (.slice (some ⟨z+1+1+1+1+1+1+1+1+1,0,none⟩) 1 1) (.row 3 ((ze3 p).causes.map zaN.cells)):=
  DAt.block (hat 9 _ rfl) rfl (by simp[ze3,zaN.cells]) (by((repeat(refine zab.cons ?_ ?_;first|exact .leaf _|exact .nil _ _ _|assumption));exact zab.nil)) trivial
 ((repeat(refine zab.cons ?_ ?_;first|exact .leaf _|exact .nil _ _ _|assumption));exact zab.nil)
end Go.Proofs.YtgbfaompondolaaGreatDoor
namespace Go.Proofs.YtgbfaompondolaaGreatDoor
open Go.RowKit
attribute [local go_sem] zal.cell
theorem AAt.put {w:World} {z j:Nat} {p q:zaT} {v:Value} (h:AAt w z p) (hq:zdF q=(zdF p).setIfInBounds j v):AAt (w.setCell ⟨z+1+1,j,none⟩ v) z q:=by
 intro i o ho
 by_cases hi:i=2
 ·subst hi
  have e:o= .cells (zdF q) 51:=by simpa [aOb] using ho.symm
  subst e
  rw[hq]
  exact heap_setCell_same w (z+2) j _ _ v (h 2 _ rfl)
 ·have e:(aOb z (zdF p))[i]? =some o:=by
   rw[←ho]
   match i,hi with
   |0,_=>rfl
   |1,_=>rfl
   |i+3,_=>rfl
  exact(Below.heap_setCell w _ _ _ (by show z+i≠z+1+1;omega)).trans (h i o e)
theorem AAt.cfgcell {w:World} {z:Nat} {p:zaT} (h:AAt w z p) (j:Nat):w.cell? ⟨z+1+1+1+1+1+1+1+1+1+1,j,none⟩=(aVs z).toArray[j]? :=cell_of_row _ _ j _ _ _ (h 10 _ rfl)
def portB1:zaT:=⟨[105],3,false,8,3,0⟩
theorem zi9 (W:World) (hE:Hid (Env W)) (hP:Hid (zcL W)):Calls Tryz.prog 9 #[] W fun e w'=>e= .returned (.bool true)∧Below W.heap.size W w':=by
 have HA:=zaa (fun V hE hP hd=>zea (ze3 zfd) (aVs W.heap.size) V hE hP hd (zd2 _) (fun _=>by rw[zlq];decide +kernel))
 have HB:=zaa (fun V hE hP hd=>zea (ze3 zkl) (aVs W.heap.size) V hE hP hd (zd2 _) (fun h=>by rw[ziR] at h;cases h))
 have HC:=zaa (fun V hE hP hd=>zea (ze3 zh5) (aVs W.heap.size) V hE hP hd (zd2 _) (fun h=>by rw[ziJ] at h;cases h))
 rw[zi3] at HA
 unfold zhR at HA
 rw[zm7] at HB
 rw[znH] at HC
 have HD:=zaa (fun v V hv hE hP=>zgv v zmm V hv (by decide) (by decide) hE hP)
 rw[zng] at HD
 have HS:=zaa (fun V ha=>(zil (ze3 zh5) (ze3 zh5) True (zaa ⟨fun _=>rfl,fun _=>trivial⟩) (aVs W.heap.size) (aVs W.heap.size) V ha ha (zd2 _) (zd2 _)).mono (fun _ _ h=>zau.yes trivial h))
 go_enter Tryz.func9,Tryz.ntmps9
 go_wp2_with fail
 have hb0:=zcN (aOb W.heap.size (zdF zfd)) W
 have HT0:=zaa (show AAt (zd3 W (aOb W.heap.size (zdF zfd))) W.heap.size zfd from fun i o ho=>zc2 _ W i o ho)
 change Calls _ _ _ (zd3 W (aOb W.heap.size (zdF zfd))) _
 generalize zd3 W (aOb W.heap.size (zdF zfd))=w0 at *
 refine(HA.out w0 (zaa (hE.out.kept hb0)) (zaa (hP.out.below hb0)) (zaa HT0.out.cfg)).mono ?_
 rintro e w1 ⟨rfl,hb1⟩
 have HB1:=zaa (btZ hb0 hb1)
 have HT1:=zaa (HT0.out.below hb1)
 clear hb0 hb1 HT0 HA
 have hz1:W.heap.size+11≤w1.heap.size:=(zaJ (HT1.out 10 _ rfl))
 go_wp2_with fail
 have HD0:=zaa (show DAt (w1.alloc (.cells #[.int .u8 2,.int .i64 0,.int .i64 5,.int .i64 0,.int .u8 19,.int .i64 0,.int .i64 0,.int .i64 0] 78)) (fun _=>True) (.slice (some ⟨w1.heap.size,0,none⟩) 2 2) (.row 4 (zmm.map zbU.cells)) from DAt.block (heap_alloc_new w1 _) rfl (by simp[zmm,zbU.cells]) (by((repeat(refine zab.cons ?_ ?_;first|exact .leaf _|exact .nil _ _ _|assumption));exact zab.nil)) trivial)
 have hb2:=HB1.out.alloc HB1.out.size (.cells #[.int .u8 2,.int .i64 0,.int .i64 5,.int .i64 0,.int .u8 19,.int .i64 0,.int .i64 0,.int .i64 0] 78)
 have HT2:=zaa (HT1.out.below ((Below.refl w1.heap.size w1).alloc (Nat.le_refl _) (.cells #[.int .u8 2,.int .i64 0,.int .i64 5,.int .i64 0,.int .u8 19,.int .i64 0,.int .i64 0,.int .i64 0] 78)))
 refine(HD.out _ _ HD0 (zaa (hE.out.kept hb2)) (zaa (hP.out.below hb2))).mono ?_
 rintro e w3 ⟨rfl,hb3⟩
 have HB3:=zaa (btZ hb2 hb3)
 have HT3:=zaa (HT2.out.below hb3)
 clear hb2 hb3 HT1 HT2 HB1 HD0 HD hz1
 have c0:w3.cell? ⟨W.heap.size+1+1+1+1+1+1+1+1+1+1,0,none⟩=some (.slice (some ⟨W.heap.size+1+1+1+1,0,none⟩) 1 1):=HT3.out.cfgcell 0
 have c1:w3.cell? ⟨W.heap.size+1+1+1+1,3,none⟩=some (.slice (some ⟨W.heap.size+1+1+1,0,none⟩) 1 1):=cell_of_row _ _ 3 _ _ _ (HT3.out 4 _ rfl)
 have c2:w3.cell? ⟨W.heap.size+1+1+1,8,none⟩=some (.slice (some ⟨W.heap.size+1+1,0,none⟩) 1 1):=cell_of_row _ _ 8 _ _ _ (HT3.out 3 _ rfl)
 have c3:w3.cell? ⟨W.heap.size+1+1,1,none⟩=some (.int .u8 2):=cell_of_row _ _ 1 _ _ _ (HT3.out 2 _ rfl)
 have f3:w3.frozen? ⟨W.heap.size+1+1,1,none⟩=false:=frozen_of_row _ _ 1 _ _ (HT3.out 2 _ rfl)
 go_upto_region 8 with fail
 have HT4:=zaa (HT3.out.put (q:=zkl) (j:=1) (v:= .int .u8 3) rfl)
 have hb4:=HB3.out.setCell (p:=⟨W.heap.size+1+1,1,none⟩) (by show W.heap.size≤W.heap.size+1+1;omega) (.int .u8 3)
 clear c0 c1 c2 c3 f3
 generalize w3.setCell ⟨W.heap.size+1+1,1,none⟩ (.int .u8 3)=w4 at *
 have q0:w4.cell? ⟨W.heap.size+1+1+1+1+1+1+1+1+1+1,0,none⟩=some (.slice (some ⟨W.heap.size+1+1+1+1,0,none⟩) 1 1):=HT4.out.cfgcell 0
 have q1:w4.cell? ⟨W.heap.size+1+1+1+1+1+1+1+1+1+1,1,none⟩=some (.slice none 0 0):=HT4.out.cfgcell 1
 have q2:w4.cell? ⟨W.heap.size+1+1+1+1+1+1+1+1+1+1,2,none⟩=some (.slice none 0 0):=HT4.out.cfgcell 2
 have q3:w4.cell? ⟨W.heap.size+1+1+1+1+1+1+1+1+1+1,3,none⟩=some (.slice none 0 0):=HT4.out.cfgcell 3
 have q4:w4.cell? ⟨W.heap.size+1+1+1+1+1+1+1+1+1+1,4,none⟩=some (.slice (some ⟨W.heap.size+1+1+1+1+1+1,0,none⟩) 1 1):=HT4.out.cfgcell 4
 have q5:w4.cell? ⟨W.heap.size+1+1+1+1+1+1+1+1+1+1,5,none⟩=some (.slice none 0 0):=HT4.out.cfgcell 5
 have q6:w4.cell? ⟨W.heap.size+1+1+1+1+1+1+1+1+1+1,6,none⟩=some (.slice (some ⟨W.heap.size+1+1+1+1+1+1+1+1+1,0,none⟩) 1 1):=HT4.out.cfgcell 6
 have q7:w4.cell? ⟨W.heap.size+1+1+1+1+1+1+1+1+1+1,7,none⟩=some (.slice none 0 0):=HT4.out.cfgcell 7
 go_wp2_with fail
 clear q0 q1 q2 q3 q4 q5 q6 q7
 refine(HB.out w4 (zaa (hE.out.kept hb4)) (zaa (hP.out.below hb4)) (zaa HT4.out.cfg)).mono ?_
 rintro e w5 ⟨rfl,hb5⟩
 have HB5:=zaa (btZ hb4 hb5)
 have HT5:=zaa (HT4.out.below hb5)
 clear hb4 hb5 HT3 HT4 HB3 HB
 have c0:w5.cell? ⟨W.heap.size+1+1+1+1+1+1+1+1+1+1,0,none⟩=some (.slice (some ⟨W.heap.size+1+1+1+1,0,none⟩) 1 1):=HT5.out.cfgcell 0
 have c1:w5.cell? ⟨W.heap.size+1+1+1+1,3,none⟩=some (.slice (some ⟨W.heap.size+1+1+1,0,none⟩) 1 1):=cell_of_row _ _ 3 _ _ _ (HT5.out 4 _ rfl)
 have c2:w5.cell? ⟨W.heap.size+1+1+1,8,none⟩=some (.slice (some ⟨W.heap.size+1+1,0,none⟩) 1 1):=cell_of_row _ _ 8 _ _ _ (HT5.out 3 _ rfl)
 have p0:=cell_of_row _ _ 0 _ _ _ (HT5.out 2 _ rfl)
 have f0:=frozen_of_row _ _ 0 _ _ (HT5.out 2 _ rfl)
 have p1:=cell_of_row _ _ 1 _ _ _ (HT5.out 2 _ rfl)
 have f1:=frozen_of_row _ _ 1 _ _ (HT5.out 2 _ rfl)
 have p2:=cell_of_row _ _ 2 _ _ _ (HT5.out 2 _ rfl)
 have f2:=frozen_of_row _ _ 2 _ _ (HT5.out 2 _ rfl)
 have p3:=cell_of_row _ _ 3 _ _ _ (HT5.out 2 _ rfl)
 have f3:=frozen_of_row _ _ 3 _ _ (HT5.out 2 _ rfl)
 have p4:=cell_of_row _ _ 4 _ _ _ (HT5.out 2 _ rfl)
 have f4:=frozen_of_row _ _ 4 _ _ (HT5.out 2 _ rfl)
 have p5:=cell_of_row _ _ 5 _ _ _ (HT5.out 2 _ rfl)
 have f5:=frozen_of_row _ _ 5 _ _ (HT5.out 2 _ rfl)
 simp only[zdF] at p0 p1 p2 p3 p4 p5
 have HT6:=zaa ((((((HT5.out.put (q:=⟨[105],3,false,8,3,0⟩) (j:=0) (v:= .string ⟨#[105]⟩) rfl).put (q:=⟨[105],1,false,8,3,0⟩) (j:=1) (v:= .int .u8 1) rfl).put (q:=⟨[105],1,false,8,3,0⟩) (j:=2) (v:= .bool false) rfl).put (q:=⟨[105],1,false,0,3,0⟩) (j:=3) (v:= .int .i64 0) rfl).put (q:=⟨[105],1,false,0,1,0⟩) (j:=4) (v:= .int .i64 1) rfl).put (q:=zh5) (j:=5) (v:= .int .i64 0) rfl)
 have hb6:=(((((HB5.out.setCell (p:=⟨W.heap.size+1+1,0,none⟩) (by show W.heap.size≤W.heap.size+1+1;omega) (.string ⟨#[105]⟩)).setCell (p:=⟨W.heap.size+1+1,1,none⟩) (by show W.heap.size≤W.heap.size+1+1;omega) (.int .u8 1)).setCell (p:=⟨W.heap.size+1+1,2,none⟩) (by show W.heap.size≤W.heap.size+1+1;omega) (.bool false)).setCell (p:=⟨W.heap.size+1+1,3,none⟩) (by show W.heap.size≤W.heap.size+1+1;omega) (.int .i64 0)).setCell (p:=⟨W.heap.size+1+1,4,none⟩) (by show W.heap.size≤W.heap.size+1+1;omega) (.int .i64 1)).setCell (p:=⟨W.heap.size+1+1,5,none⟩) (by show W.heap.size≤W.heap.size+1+1;omega) (.int .i64 0)
 go_upto_region 10 with fail
 clear c0 c1 c2 p0 p1 p2 p3 p4 p5 f0 f1 f2 f3 f4 f5
 generalize(((((w5.setCell ⟨W.heap.size+1+1,0,none⟩ (.string ⟨#[105]⟩)).setCell ⟨W.heap.size+1+1,1,none⟩ (.int .u8 1)).setCell ⟨W.heap.size+1+1,2,none⟩ (.bool false)).setCell ⟨W.heap.size+1+1,3,none⟩ (.int .i64 0)).setCell ⟨W.heap.size+1+1,4,none⟩ (.int .i64 1)).setCell ⟨W.heap.size+1+1,5,none⟩ (.int .i64 0)=w6 at *
 have q0:w6.cell? ⟨W.heap.size+1+1+1+1+1+1+1+1+1+1,0,none⟩=some (.slice (some ⟨W.heap.size+1+1+1+1,0,none⟩) 1 1):=HT6.out.cfgcell 0
 have q1:w6.cell? ⟨W.heap.size+1+1+1+1+1+1+1+1+1+1,1,none⟩=some (.slice none 0 0):=HT6.out.cfgcell 1
 have q2:w6.cell? ⟨W.heap.size+1+1+1+1+1+1+1+1+1+1,2,none⟩=some (.slice none 0 0):=HT6.out.cfgcell 2
 have q3:w6.cell? ⟨W.heap.size+1+1+1+1+1+1+1+1+1+1,3,none⟩=some (.slice none 0 0):=HT6.out.cfgcell 3
 have q4:w6.cell? ⟨W.heap.size+1+1+1+1+1+1+1+1+1+1,4,none⟩=some (.slice (some ⟨W.heap.size+1+1+1+1+1+1,0,none⟩) 1 1):=HT6.out.cfgcell 4
 have q5:w6.cell? ⟨W.heap.size+1+1+1+1+1+1+1+1+1+1,5,none⟩=some (.slice none 0 0):=HT6.out.cfgcell 5
 have q6:w6.cell? ⟨W.heap.size+1+1+1+1+1+1+1+1+1+1,6,none⟩=some (.slice (some ⟨W.heap.size+1+1+1+1+1+1+1+1+1,0,none⟩) 1 1):=HT6.out.cfgcell 6
 have q7:w6.cell? ⟨W.heap.size+1+1+1+1+1+1+1+1+1+1,7,none⟩=some (.slice none 0 0):=HT6.out.cfgcell 7
 go_wp2_with fail
 clear q0 q1 q2 q3 q4 q5 q6 q7
 refine(HC.out w6 (zaa (hE.out.kept hb6)) (zaa (hP.out.below hb6)) (zaa HT6.out.cfg)).mono ?_
 rintro e w7 ⟨rfl,hb7⟩
 have HB7:=zaa (btZ hb6 hb7)
 have HT7:=zaa (HT6.out.below hb7)
 clear hb6 hb7 HT5 HT6 HB5 HC
 have q0:w7.cell? ⟨W.heap.size+1+1+1+1+1+1+1+1+1+1,0,none⟩=some (.slice (some ⟨W.heap.size+1+1+1+1,0,none⟩) 1 1):=HT7.out.cfgcell 0
 have q1:w7.cell? ⟨W.heap.size+1+1+1+1+1+1+1+1+1+1,1,none⟩=some (.slice none 0 0):=HT7.out.cfgcell 1
 have q2:w7.cell? ⟨W.heap.size+1+1+1+1+1+1+1+1+1+1,2,none⟩=some (.slice none 0 0):=HT7.out.cfgcell 2
 have q3:w7.cell? ⟨W.heap.size+1+1+1+1+1+1+1+1+1+1,3,none⟩=some (.slice none 0 0):=HT7.out.cfgcell 3
 have q4:w7.cell? ⟨W.heap.size+1+1+1+1+1+1+1+1+1+1,4,none⟩=some (.slice (some ⟨W.heap.size+1+1+1+1+1+1,0,none⟩) 1 1):=HT7.out.cfgcell 4
 have q5:w7.cell? ⟨W.heap.size+1+1+1+1+1+1+1+1+1+1,5,none⟩=some (.slice none 0 0):=HT7.out.cfgcell 5
 have q6:w7.cell? ⟨W.heap.size+1+1+1+1+1+1+1+1+1+1,6,none⟩=some (.slice (some ⟨W.heap.size+1+1+1+1+1+1+1+1+1,0,none⟩) 1 1):=HT7.out.cfgcell 6
 have q7:w7.cell? ⟨W.heap.size+1+1+1+1+1+1+1+1+1+1,7,none⟩=some (.slice none 0 0):=HT7.out.cfgcell 7
 go_wp2_with fail
 refine(HS.out w7 (zaa HT7.out.cfg)).mono ?_
 rintro e w8 ⟨rfl,hb8⟩
 have HB8:=zaa (btZ HB7.out hb8)
 clear hb8
 go_wp2_with fail
 go_ret
 exact⟨rfl,HB8.out⟩
end Go.Proofs.YtgbfaompondolaaGreatDoor
namespace Go.Proofs.YtgbfaompondolaaGreatDoor
open Go.RowKit
theorem own:ownKnob Tryz.prog.godebug=none:=by kernel_rfl
theorem zoT:laidOutB Tryz.prog=true:=by kernel_rfl
theorem znU:(Tryz.prog.globals[3]?).map (·.type)=some 304:=by kernel_rfl
theorem zoP:(Tryz.prog.globals[0]?).map (·.type)=some 277:=by kernel_rfl
theorem zmV:(Tryz.prog.globals[7]?).map (·.type)=some 183:=by kernel_rfl
theorem zlI:(Tryz.prog.globals[6]?).map (·.type)=some 183:=by kernel_rfl
theorem zi6:Tryz.prog.cellsOf 346=1:=by kernel_rfl
theorem zho:Tryz.prog.cellsOf 9=1:=by kernel_rfl
theorem zlC: "*" ++ "errors.errorString" = "*errors.errorString" :=by decide
theorem znK (u:TypeId) (h:Tryz.prog.typeName? 3 u=some "*errors.errorString"):u=344:=
 typeName_ptr_named (nm:= "errors.errorString") (by rw[zlC];kernel_rfl) (by kernel_rfl) (by decide) u (by rw[zlC];exact h)
def zmr:List (String×DataW Unit):=Rows.formatTellsRow.laid
theorem zon (os:Os) (args:Array Value):laidMetH Tryz.prog zmr ((World.doorLaid Tryz.prog 400 os).forCall (fun _ _=>0) ⟨#[],args,[]⟩).memory:=
 laidMetH_of_parts3 (fuel:=8) (laidMet_of_run' 8 (by kernel_rfl) (by kernel_rfl)) (by kernel_rfl) (by kernel_rfl)
theorem zht {W:World} {n:String} {g:Nat} {cs:Array Value} {v:Value} (hg:Tryz.prog.globalNamed n=some g) (hv:W.var? Tryz.prog n=some cs) (h0:cs[0]? =some v):g<W.heap.size:=by
 have hc:=World.var?_cell hg hv 0
 exact World.block_lt_of_cell? W ⟨g,0,none⟩ (hc.trans h0)
theorem env_of {W:World} (h:laidMetH Tryz.prog zmr W) (_hs:W.ShapedOpen Tryz.prog):Env W:=by
 rw[MakeChecks.laidMetH_plain _ _ _ (by kernel_rfl)] at h
 have h2:=laidMet.tail (laidMet.tail h)
 have ht:Lib.TabIs Tryz.prog W "internal/strconv.uint64pow10" .u64 Lib.pow10Tab:=Lib.tabIs_of_head (n:=20) zok znU Tryz.underlying304 Tryz.underlying274 (by kernel_rfl) (by kernel_rfl) h2
 have h3:=laidMet.tail h2
 obtain⟨a1,s1,v1, -, -, -⟩:=laid_sentinel h3 zkT zmV Tryz.underlying183 znK Tryz.underlying344 Tryz.underlying346 rfl rfl Tryz.underlying9 zi6 zho
 obtain⟨a2,s2,v2, -, -, -⟩:=laid_sentinel (laidMet.tail h3) zjZ zlI Tryz.underlying183 znK Tryz.underlying344 Tryz.underlying346 rfl rfl Tryz.underlying9 zi6 zho
 exact⟨ht,⟨_,_,v2⟩,⟨_,_,v1⟩,zht zok ht (v:= .int .u64 1) rfl,zht zjZ v2 rfl,zht zkT v1 rfl⟩
theorem zoF {W:World} (h:laidMetH Tryz.prog zmr W) (hs:W.ShapedOpen Tryz.prog):zcL W:=by
 rw[MakeChecks.laidMetH_plain _ _ _ (by kernel_rfl)] at h
 have h6:=laidMet.tail (laidMet.tail (laidMet.tail (laidMet.tail (laidMet.tail (laidMet.tail h)))))
 have ht:Lib.TabIs Tryz.prog W "strings.asciiSpace" .u8 Lib.asciiSpaceTab:=Lib.tabIs_of_head (n:=256) gSp zoP Tryz.underlying277 Tryz.underlying5 (by kernel_rfl) (by kernel_rfl) h6
 obtain⟨m,hm⟩:=cell_of_shapedOpen_int (g:=1) (t:=3) (zero:= #[.int .i64 0]) hs (of_decide_eq_true (by kernel_rfl)) (by kernel_rfl) rfl (by kernel_rfl) (by kernel_rfl) Tryz.underlying3
 have h1:=zht gSp ht (v:= .int .u8 0) rfl
 have h2:=World.block_lt_of_cell? W ⟨1,0,none⟩ hm
 refine⟨ht,⟨m,hm⟩,?_⟩
 show 2≤_
 change 0<_ at h1
 change 1<_ at h2
 omega
end Go.Proofs.YtgbfaompondolaaGreatDoor
namespace Go.Proofs.YtgbfaompondolaaGreatDoor
open Go.ChangeShapes Go.WideShapes Go.Deep Go.RowKit
def Opn {α:Type} (H:Type) (enc:TypeId×Value→H) (W:World) (t:TypeId) (cells:α→List Dat) (Q:α→DataW H→Prop):Prop:=
 ∀(fuel:Nat) (us:List Value) (d:DataW H) (p:List MemPlace),DataW.trod enc Tryz.prog W 0 (fun _=>true) true fuel t us=some (d,p)→ ∃x:α,zab W (fun _=>True) us (cells x)∧Q x d
section
variable {H:Type} {enc:TypeId×Value→H} {W:World}
theorem zbE {t:TypeId} (ht:Tryz.prog.underlying t=some .string):Opn H enc W t (fun l:List UInt8=>[lS l]) (fun l d=>d= .lit (.string l)):=by
 intro fuel us d p h
 obtain⟨s,rfl,hx, -⟩:=DataW.trod_string ht h
 simp only[Prod.mk.injEq] at hx
 exact⟨s.data.toList,zab.cons (.leaf _) .nil,hx.1⟩
theorem zaZ {t:TypeId} (ht:Tryz.prog.underlying t=some (.int .i64)):Opn H enc W t (fun n:Int=>[lI n]) (fun n _=> -9223372036854775808≤n∧n≤9223372036854775807):=by
 intro fuel us d p h
 obtain⟨n,rfl,hx,hw⟩:=DataW.trod_int ht h
 exact⟨n,zab.cons (.leaf _) .nil,znB hw⟩
theorem zgg {t:TypeId} (ht:Tryz.prog.underlying t=some (.int .u8)):Opn H enc W t (fun n:Nat=>[lU n]) (fun n _=>n≤255):=by
 intro fuel us d p h
 obtain⟨n,rfl,hx,hw⟩:=DataW.trod_int ht h
 obtain⟨h0,h1⟩:=zoK hw
 refine⟨n.toNat,zab.cons ?_ .nil,by omega⟩
 have e:(n.toNat:Int)=n:=by omega
 show DAt _ _ _ (.leaf (.int .u8 (n.toNat:Int)))
 rw[e]
 exact .leaf _
theorem zkH {t:TypeId} (ht:Tryz.prog.underlying t=some .bool):Opn H enc W t (fun b:Bool=>[lB b]) (fun _ _=>True):=by
 intro fuel us d p h
 obtain⟨b,rfl,hx⟩:=DataW.trod_bool ht h
 exact⟨b,zab.cons (.leaf _) .nil,trivial⟩
def zbB (H:Type) (enc:TypeId×Value→H) (W:World) (fs:List (TypeId×Nat)) (us:List Value) (ds:List (DataW H)):Prop:=
 ds.length=fs.length∧us.length=(fs.map (·.2)).sum∧ ∀(i:Nat) (t k:Nat) (d:DataW H),fs[i]? =some (t,k)→ds[i]? =some d→ ∃fuel p,DataW.trod enc Tryz.prog W 0 (fun _=>true) true fuel t ((us.drop ((fs.take i).map (·.2)).sum).take k)=some (d,p)
theorem zbB.nil {us:List Value} {ds:List (DataW H)} (h:zbB H enc W [] us ds):us=[]∧ds=[]:=⟨List.eq_nil_of_length_eq_zero h.2.1,List.eq_nil_of_length_eq_zero h.1⟩
theorem zbB.cons {α:Type} {t k:Nat} {cells:α→List Dat} {Q:α→DataW H→Prop} {fs:List (TypeId×Nat)} {us:List Value} {ds:List (DataW H)} (ho:Opn H enc W t cells Q) (h:zbB H enc W ((t,k)::fs) us ds):
 ∃x vs us' d ds',us=vs++us'∧ds=d::ds'∧zab W (fun _=>True) vs (cells x)∧Q x d∧zbB H enc W fs us' ds':=by
 obtain⟨h1,h2,h3⟩:=h
 cases ds with
 |nil=>simp at h1
 |cons d ds=>
  obtain⟨fuel,p,h4⟩:=h3 0 t k d rfl rfl
  simp only[List.take_zero,List.map_nil,List.sum_nil,List.drop_zero] at h4
  obtain⟨x,hx,hq⟩:=ho _ _ _ _ h4
  simp only[List.map_cons,List.sum_cons] at h2
  refine⟨x,us.take k,us.drop k,d,ds,(List.take_append_drop k us).symm,rfl,hx,hq,by simpa using h1,by rw[List.length_drop];omega,fun i t' k' d' hi hd=> ?_⟩
  obtain⟨fuel',p',h5⟩:=h3 (i+1) t' k' d' hi hd
  refine⟨fuel',p',?_⟩
  rw[List.drop_drop]
  rw[List.take_succ_cons,List.map_cons,List.sum_cons] at h5
  exact h5
theorem za1 {α:Type} {t:TypeId} {fs:Array Field} {cells:α→List Dat} {Q:α→DataW H→Prop} (fl:List (TypeId×Nat)) (ht:Tryz.prog.underlying t=some (.struct fs)) (hfl:(fs.toList.map fun f=>(f.type,Tryz.prog.cellsOf f.type))=fl)
 (hoff:fs.toList.zipIdx.all (fun f=>f.1.offset==((fl.take f.2).map (·.2)).sum)=true) (hsz:Tryz.prog.cellsOf t=(fl.map (·.2)).sum)
 (ho: ∀us ds,zbB H enc W fl us ds→ ∃x:α,zab W (fun _=>True) us (cells x)∧Q x (.agg ds)):Opn H enc W t cells Q:=by
 intro fuel us d p h
 obtain⟨xs,n, -,hx,hl,hxl,hf⟩:=DataW.trod_struct ht h
 simp only[Prod.mk.injEq] at hx
 obtain⟨rfl, -⟩:=hx
 refine ho us _ ⟨by rw[List.length_map,hxl,←hfl];simp,by rw[hl,hsz],fun i t' k d hi hd=> ?_⟩
 rw[←hfl,List.getElem?_map] at hi
 obtain⟨f,hfi,he⟩:=Option.map_eq_some_iff.1 hi
 simp only[Prod.mk.injEq] at he
 obtain⟨rfl,rfl⟩:=he
 have h6:=hf i f (by simpa using hfi)
 rw[List.getElem?_map] at hd
 obtain⟨y,hy,rfl⟩:=Option.map_eq_some_iff.1 hd
 have ho':=List.all_eq_true.1 hoff (f,i) (by rw[List.mem_zipIdx_iff_getElem?];exact hfi)
 simp only[beq_iff_eq] at ho'
 refine⟨n,y.2,?_⟩
 rw[ho',hy] at h6
 exact h6
def SlQ {α:Type} (Q:α→DataW H→Prop) (l:List α) (d:DataW H):Prop:=
 l.length≤9223372036854775807∧(d= .nil∧l=[]∨ ∃ds spare,d= .slice ds spare∧ds.length=l.length∧ ∀(i:Nat) x y,l[i]? =some x→ds[i]? =some y→Q x y)
theorem za0 {α:Type} {t e:TypeId} {size:Nat} {cells:α→List Dat} {Q:α→DataW H→Prop} (ht:Tryz.prog.underlying t=some (.slice e)) (hc:Tryz.prog.cellsOf e=size) (hs:0<size) (hw: ∀x,(cells x).length=size) (ho:Opn H enc W e cells Q):
 Opn H enc W t (fun l:List α=>[Dat.row size (l.map cells)]) (SlQ Q):=by
 intro fuel us d p h
 rcases open_slice ht h with⟨rfl,hx⟩|⟨a,len,cap,m,n,D,Pl,rfl, -,hl,hm,hmm,hx,hi⟩
 ·simp only[Prod.mk.injEq] at hx
  exact⟨[],zab.cons (.nil none 0 size) .nil,by simp,.inl ⟨hx.1,rfl⟩⟩
 ·simp only[Prod.mk.injEq] at hx
  rw[hc] at hi
  unfold maxLen at hm
  have hml:len≤m:=by rw[hmm];simp;omega
  have hone: ∀i:Fin len,∃x:α,(∃cs',W.cells? 0 (a.add (i.1*size)) size=some cs'∧zab W (fun _=>True) cs' (cells x))∧Q x (D i.1):=by
   intro i
   obtain⟨cs',h1,h2⟩:=hi i.1 (by omega)
   obtain⟨x,h3,h4⟩:=ho _ _ _ _ h2
   exact⟨x,⟨cs',h1,h3⟩,h4⟩
  have hget: ∀(i:Nat) x,(List.ofFn fun i:Fin len=>Classical.choose (hone i))[i]? =some x→i<len∧(∃cs',W.cells? 0 (a.add (i*size)) size=some cs'∧zab W (fun _=>True) cs' (cells x))∧Q x (D i):=by
   intro i x hr
   obtain⟨hin,hr⟩:=List.getElem?_eq_some_iff.1 hr
   simp only[List.length_ofFn] at hin
   rw[List.getElem_ofFn] at hr
   have:=Classical.choose_spec (hone ⟨i,hin⟩)
   rw[hr] at this
   exact⟨hin,this⟩
  have hlen:(List.ofFn fun i:Fin len=>Classical.choose (hone i)).length=len:=by simp
  generalize(List.ofFn fun i:Fin len=>Classical.choose (hone i))=l at hget hlen
  clear hone
  refine⟨l,zab.cons ?_ .nil,?_,.inr ⟨_,_,hx.1,by simp[hlen],fun i x y hx' hy=> ?_⟩⟩
  ·rcases Nat.eq_zero_or_pos len with h0|h0
   ·subst h0
    obtain rfl:=List.eq_nil_of_length_eq_zero hlen
    exact .nil _ _ _
   ·obtain⟨b,off,spot⟩:=a
    have hcell: ∀(i j:Nat) e d,(l.map cells)[i]? =some e→e[j]? =some d→ ∃u,W.cell? (Addr.add ⟨b,off,spot⟩ (i*size+j))=some u∧DAt W (fun _=>True) u d:=by
     intro i j e d he hd
     rw[List.getElem?_map] at he
     obtain⟨x,hx',rfl⟩:=Option.map_eq_some_iff.1 he
     obtain⟨hin,⟨cs',h1,h2⟩, -⟩:=hget i x hx'
     obtain⟨_,hcl,hat⟩:=World.cells?_some h1
     have hj:j<size:=by rw[←hw x];exact(List.getElem?_eq_some_iff.1 hd).1
     have hv:cs'[j]? =some (cs'[j]'(by omega)):=List.getElem?_eq_getElem (by omega)
     refine⟨_,?_,h2.2 j _ d hv hd⟩
     rw[←Go.Deep.add_add,hat j hj,hv]
    obtain⟨x0,hx0⟩: ∃x0,l[0]? =some x0:=⟨_,List.getElem?_eq_getElem (by omega)⟩
    have hd0:(cells x0)[0]? =some ((cells x0)[0]'(by rw[hw];exact hs)):=List.getElem?_eq_getElem _
    obtain⟨u0,hu0, -⟩:=hcell 0 0 _ _ (by rw[List.getElem?_map,hx0];rfl) hd0
    have hspot:spot=none:=by
     simpa [Addr.add] using World.cell?_spot hu0
    subst hspot
    have hadd: ∀j,(Addr.add ⟨b,off,none⟩ j)=⟨b,off+j,none⟩:=by
     intro j;unfold Addr.add;split
     ·rename_i hj;subst hj;rfl
     ·rfl
    simp only[hadd] at hcell hu0
    have hcell': ∃val:Nat→Nat→Value,∀i j e d,(l.map cells)[i]? =some e→e[j]? =some d→W.cell? ⟨b,off+(i*size+j),none⟩=some (val i j)∧DAt W (fun _=>True) (val i j) d:=by
     refine⟨fun i j=>(W.cell? ⟨b,off+(i*size+j),none⟩).getD (.bool false),fun i j e d he hd=> ?_⟩
     obtain⟨u,hu,hdu⟩:=hcell i j e d he hd
     simp only[hu,Option.getD_some]
     exact⟨trivial,hdu⟩
    obtain⟨val,hval⟩:=hcell'
    refine .row b off cap size len _ val (by rw[List.length_map];exact hlen) trivial (zic hu0) (fun i j e d he hd=> ?_) (fun i j e d he hd=>(hval i j e d he hd).2) hl
    rw[Nat.add_assoc]
    exact(hval i j e d he hd).1
  ·rw[hlen]
   omega
  ·obtain⟨hin, -,hq⟩:=hget i x hx'
   rw[List.getElem?_map,List.getElem?_range hin] at hy
   simp only[Option.map_some,Option.some.injEq] at hy
   subst hy
   exact hq
end
end Go.Proofs.YtgbfaompondolaaGreatDoor
