/- Merged texts of the walks and of the plain laws on which the statement leans.-/
import Derived.Test.YtgbfaompondolaaGreatDoorPk1
import Derived.Test.YtgbfaompondolaaGreatDoorPk25
set_option maxHeartbeats 4000000
set_option maxRecDepth 100000
namespace Go.Proofs.YtgbfaompondolaaGreatDoor
open Go.Proofs.Tryz
open Go.RowKit
attribute [local go_sem] zaj.cell
theorem zgo (r:zb7) (l:List zb7) (A:Option Addr) (q:Nat) (W:World) (h:Hid (DAt W (fun _=>True) (.slice A l.length q) (.row 3 (l.map zb7.cells)))) (hn:l.length≤140737488355328):
 Calls prog 105 #[.agg #[.string ⟨r.m.toArray⟩,.string ⟨r.p.toArray⟩,.string ⟨r.o.toArray⟩],.slice A l.length q] W fun e w'=>e= .returned (.bool (zfl r l))∧Below W.heap.size W w':=by
 have hA:=h.out;obtain⟨A_,q_,e_,hA⟩:=hA.slice;injection e_ with e1 e2 e3
 subst e1 e3;clear e2;have HA:=zaa hA;clear hA h;have hp:zfl r l=([r.m,r.p,r.o].all zaD&&(decide (0<l.length)&&l.all zii)):=rfl;obtain⟨z0,hz0⟩: ∃z,[r.m,r.p,r.o].all zaD=z:=⟨_,rfl⟩;rw[hz0] at hp;have HZ0:=zaa hz0;clear hz0;have HP:=zaa hp;clear hp;have HX:=zaa (heap_alloc_new W (.cells #[.string ⟨r.m.toArray⟩,.string ⟨r.p.toArray⟩,.string ⟨r.o.toArray⟩] 55));have HB:=zaa ((Below.refl W.heap.size W).alloc (Nat.le_refl _) (.cells #[.string ⟨r.m.toArray⟩,.string ⟨r.p.toArray⟩,.string ⟨r.o.toArray⟩] 55))
 go_enter func105,ntmps105
 go_wp2_with fail;generalize W.alloc _=w0 at *
 go_loopw [5] (fun v5 wr=> ∃k:Nat,k≤l.length∧v5= .int .i64 k∧(l.take k).all zii=true∧Below w0.heap.size w0 wr) (fun v5 _=>l.length-(intOf v5).toNat)
 case atStart=>exact⟨0,by omega,rfl,by simp,Below.refl _ _⟩
 case round=>
  obtain⟨k,hk,rfl,ht,hbr⟩:=hrel;have HT:=zaa ht;have HR:=zaa hbr;have HBR:=zaa (btZ HB.out hbr);have HXR:=zaa (bkZ hbr HX.out);clear ht hbr;by_cases hlt:k<l.length
  rotate_left
  ·obtain rfl:k=l.length:=by omega
   rw[List.take_length] at HT;clear hlt;rw[HT.out] at HP;replace HX:=HXR;replace HB:=HBR;clear HXR HBR HR HT;by_cases h0:l.length=0
   ·rw[h0] at HP ⊢
    go_wp2_with fail;go_ret;exact⟨by rw[HP.out];simp,HB.out⟩
   have hp:(0:Int)<(l.length:Int):=by omega
   rw[decide_eq_true (by omega:0<l.length)] at HP;clear h0;obtain⟨c0,c1,c2⟩:=zdy HX.out;go_wp2_with fail;clear c0 c1 c2;have HC:=zaa (zaU (.slice (some ⟨wr.heap.size,0,none⟩) 3 3) [r.m,r.p,r.o] (wr.alloc (.cells #[.string ⟨r.m.toArray⟩,.string ⟨r.p.toArray⟩,.string ⟨r.o.toArray⟩] 9)) (zaa (zba wr [r.m,r.p,r.o] 9)) (by simp));replace HX:=zaa ((Below.heap_alloc wr (.cells #[.string ⟨r.m.toArray⟩,.string ⟨r.p.toArray⟩,.string ⟨r.o.toArray⟩] 9) _ (zau HX.out)).trans HX.out);replace HB:=zaa (HB.out.alloc HB.out.size (.cells #[.string ⟨r.m.toArray⟩,.string ⟨r.p.toArray⟩,.string ⟨r.o.toArray⟩] 9));rw[HZ0.out] at HC;generalize wr.alloc _=wn0 at *
   cases z0 with
   |false=>
    refine HC.out.mono ?_;rintro e wq0 ⟨rfl,hb⟩;clear HC;replace HX:=zaa (bkZ hb HX.out);replace HB:=zaa (btZ HB.out hb);clear hb;go_wp2_with fail;go_ret;exact⟨by rw[HP.out];simp,HB.out⟩
   |true=>
    refine HC.out.mono ?_;rintro e wq0 ⟨rfl,hb⟩;clear HC;replace HX:=zaa (bkZ hb HX.out);replace HB:=zaa (btZ HB.out hb);clear hb;go_wp2_with fail;go_ret;exact⟨by rw[HP.out];simp,HB.out⟩
  obtain⟨y,hx⟩:=zbE hlt;obtain⟨b,off,rfl,hb,hca⟩:=HA.out.at_ hx;obtain⟨u0,d0,g0⟩:=hca 0 _ rfl;obtain⟨u1,d1,g1⟩:=hca 1 _ rfl;obtain⟨u2,d2,g2⟩:=hca 2 _ rfl;clear hca;obtain rfl:=g0.leaf_eq;obtain rfl:=g1.leaf_eq;obtain rfl:=g2.leaf_eq;have d0:=zad HBR.out hb (off+k*3) d0;have d1:=zad HBR.out hb (off+k*3+1) d1;have d2:=zad HBR.out hb (off+k*3+2) d2;simp only[zav] at d0 d1 d2;have k0:=kbZ k l.length;have HY:=zaa hx;have hbw:b<wr.heap.size:=Nat.lt_of_lt_of_le hb HBR.out.size;clear hx;go_wp2_with fail;refine zak (S:=fun w'=>Below wr.heap.size wr w') 15 (by kernel_rfl) (by kernel_rfl) (Below.refl _ _).drew (fun hHeld=> ?_);generalize wr.drew=U at *;refine tq 0 12 rfl hHeld ?_;refine tq 1 13 rfl hHeld ?_;refine tq 2 14 rfl hHeld ?_;refine tq 3 15 rfl hHeld ?_
  (try simp only[pu])
  refine tyZ (v:= ?_) 4 16 rfl hHeld (fun v hS=> ?_) ?_;rotate_left
  ·have e0:=zad hS hbw (off+k*3) d0
   go_simp
   with_reducible rfl
  refine tq 5 17 rfl hHeld ?_;refine tq 6 18 rfl hHeld ?_;refine tq 7 19 rfl hHeld ?_;refine tq 8 20 rfl hHeld ?_
  (try simp only[pu])
  refine tyZ (v:= ?_) 9 21 rfl hHeld (fun v hS=> ?_) ?_;rotate_left
  ·have e0:=zad hS hbw (off+k*3+1) d1
   go_simp
   with_reducible rfl
  refine tq 10 22 rfl hHeld ?_;refine tq 11 23 rfl hHeld ?_;refine tq 12 24 rfl hHeld ?_;refine tq 13 25 rfl hHeld ?_
  (try simp only[pu])
  refine tyZ (v:= ?_) 14 26 rfl hHeld (fun v hS=> ?_) ?_;rotate_left
  ·have e0:=zad hS hbw (off+k*3+2) d2
   go_simp
   with_reducible rfl
  (try simp only[pu])
  refine zan (by kernel_rfl) ?_;simp only[List.drop_succ_cons,List.drop_zero];clear d0 d1 d2 k0 hb hbw;have HRU:=zaa ((btZ HR.out hHeld).alloc (btZ HR.out hHeld).size (.cells #[.string ⟨y.m.toArray⟩,.string ⟨y.p.toArray⟩,.string ⟨y.o.toArray⟩] 9));have HBU:=zaa ((btZ HBR.out hHeld).alloc (btZ HBR.out hHeld).size (.cells #[.string ⟨y.m.toArray⟩,.string ⟨y.p.toArray⟩,.string ⟨y.o.toArray⟩] 9));have HC:=zaa (zaU (.slice (some ⟨U.heap.size,0,none⟩) 3 3) [y.m,y.p,y.o] (U.alloc (.cells #[.string ⟨y.m.toArray⟩,.string ⟨y.p.toArray⟩,.string ⟨y.o.toArray⟩] 9)) (zaa (zba U [y.m,y.p,y.o] 9)) (by simp));clear hHeld;go_wp2_with fail;generalize U.alloc _=U1 at *
  cases hw:[y.m,y.p,y.o].all zaD with
  |false=>
   have HNO:=zaa (zaH HY.out (show zii y=false from hw));rw[hw] at HC;clear hw;refine HC.out.mono ?_;rintro e w2 ⟨rfl,hb2⟩;have HR2:=zaa (btZ HRU.out hb2);have HB2:=zaa (btZ HBU.out hb2);clear hb2 HC;go_wp2_with fail;go_ret;exact⟨by rw[HP.out,HNO.out];simp,HB2.out⟩
  |true=>
   have HTK:=zaa (zaK HT.out HY.out (show zii y=true from hw));rw[hw] at HC;clear hw;refine HC.out.mono ?_;rintro e w2 ⟨rfl,hb2⟩;have HR2:=zaa (btZ HRU.out hb2);have HB2:=zaa (btZ HBU.out hb2);clear hb2 HC;go_wp2_with fail;go_roundw
   case rel=>exact⟨k+1,by omega,by go_num,HTK.out,HR2.out⟩
   case measure=>simp[intOf];omega
theorem zg4 (x:zaB) (W:World) (hl:zdN x):
 Calls prog 107 #[.agg #[.string ⟨x.module.toArray⟩,.string ⟨x.part.toArray⟩,.int .u8 (x.fault:Int),.int .u8 (x.level:Int),.int .u8 (x.do_:Int)]] W fun e w'=>e= .returned (.bool (zbe x))∧Below W.heap.size W w':=by
 obtain⟨x_module,x_part,x_fault,x_level,x_do_⟩:=x;obtain⟨h1,h2,h3⟩:=hl;simp only at h1 h2 h3 ⊢;have HX:=zaa (heap_alloc_new W (.cells #[.string ⟨x_module.toArray⟩,.string ⟨x_part.toArray⟩,.int .u8 (x_fault:Int),.int .u8 (x_level:Int),.int .u8 (x_do_:Int)] 73));have HB:=zaa ((Below.refl W.heap.size W).alloc (Nat.le_refl _) (.cells #[.string ⟨x_module.toArray⟩,.string ⟨x_part.toArray⟩,.int .u8 (x_fault:Int),.int .u8 (x_level:Int),.int .u8 (x_do_:Int)] 73));by_cases hm:x_module=[]
 ·subst hm
  by_cases hp:x_part=[]
  ·subst hp
   have hp:zbe ⟨[],[],x_fault,x_level,x_do_⟩=((zaf zal x_fault != [])&&((zaf zai x_level != [])&&(zaf zag x_do_ != []))):=by simp[zbe,zcY]
   obtain⟨z0,hz0⟩: ∃z,(zaf zal x_fault != [])=z:=⟨_,rfl⟩;rw[hz0] at hp;have HZ0:=zaa hz0;clear hz0;obtain⟨z1,hz1⟩: ∃z,(zaf zai x_level != [])=z:=⟨_,rfl⟩;rw[hz1] at hp;have HZ1:=zaa hz1;clear hz1;obtain⟨z2,hz2⟩: ∃z,(zaf zag x_do_ != [])=z:=⟨_,rfl⟩;rw[hz2] at hp;have HZ2:=zaa hz2;clear hz2;have HP:=zaa hp;clear hp
   go_enter func107,ntmps107
   go_upto_region 1 with fail
   generalize W.alloc _=w0 at *;obtain⟨c0,c1,c2,c3,c4⟩:=zbw HX.out;go_wp2_with fail;clear c0 c1 c2 c3 c4;obtain⟨S0,hS⟩: ∃S:ByteArray,(⟨(zaf zal x_fault).toArray⟩:ByteArray)=S:=⟨_,rfl⟩;have hw0:=za9 (zaf zal x_fault);have HC:=zaa (zdi x_fault h1 w0);rw[hS] at hw0 HC;clear hS;rcases hw0 with⟨hw0,hz⟩|⟨hw0,hz⟩
   ·have hz:=HZ0.out.symm.trans hz
    subst hz;rw[hw0] at HC;clear hw0;refine HC.out.mono ?_;rintro e wq0 ⟨rfl,hb⟩;clear HC;replace HX:=zaa (bkZ hb HX.out);replace HB:=zaa (btZ HB.out hb);clear hb;go_wp2_with fail;go_ret;exact⟨by rw[HP.out];simp,HB.out⟩
   ·have hz:=HZ0.out.symm.trans hz
    subst hz;refine HC.out.mono ?_;rintro e wq0 ⟨rfl,hb⟩;clear HC;replace HX:=zaa (bkZ hb HX.out);replace HB:=zaa (btZ HB.out hb);clear hb;obtain⟨c0,c1,c2,c3,c4⟩:=zbw HX.out;go_wp2_with fail;clear c0 c1 c2 c3 c4;obtain⟨S1,hS⟩: ∃S:ByteArray,(⟨(zaf zai x_level).toArray⟩:ByteArray)=S:=⟨_,rfl⟩;have hw1:=za9 (zaf zai x_level);have HC:=zaa (zdn x_level h2 wq0);rw[hS] at hw1 HC;clear hS;rcases hw1 with⟨hw1,hz⟩|⟨hw1,hz⟩
    ·have hz:=HZ1.out.symm.trans hz
     subst hz;rw[hw1] at HC;clear hw1;refine HC.out.mono ?_;rintro e wq1 ⟨rfl,hb⟩;clear HC;replace HX:=zaa (bkZ hb HX.out);replace HB:=zaa (btZ HB.out hb);clear hb;go_wp2_with fail;go_ret;exact⟨by rw[HP.out];simp,HB.out⟩
    ·have hz:=HZ1.out.symm.trans hz
     subst hz;refine HC.out.mono ?_;rintro e wq1 ⟨rfl,hb⟩;clear HC;replace HX:=zaa (bkZ hb HX.out);replace HB:=zaa (btZ HB.out hb);clear hb;obtain⟨c0,c1,c2,c3,c4⟩:=zbw HX.out;go_wp2_with fail;clear c0 c1 c2 c3 c4;obtain⟨S2,hS⟩: ∃S:ByteArray,(⟨(zaf zag x_do_).toArray⟩:ByteArray)=S:=⟨_,rfl⟩;have hw2:=za9 (zaf zag x_do_);have HC:=zaa (zcX x_do_ h3 wq1);rw[hS] at hw2 HC;clear hS;rcases hw2 with⟨hw2,hz⟩|⟨hw2,hz⟩
     ·have hz:=HZ2.out.symm.trans hz
      subst hz;rw[hw2] at HC;clear hw2;refine HC.out.mono ?_;rintro e wq2 ⟨rfl,hb⟩;clear HC;replace HX:=zaa (bkZ hb HX.out);replace HB:=zaa (btZ HB.out hb);clear hb;go_wp2_with fail;go_ret;exact⟨by rw[HP.out];simp,HB.out⟩
     ·have hz:=HZ2.out.symm.trans hz
      subst hz;refine HC.out.mono ?_;rintro e wq2 ⟨rfl,hb⟩;clear HC;replace HX:=zaa (bkZ hb HX.out);replace HB:=zaa (btZ HB.out hb);clear hb;go_wp2_with fail;go_ret;exact⟨by rw[HP.out];simp,HB.out⟩
  ·have e2:x_part.isEmpty=false:=by simpa using hp
   have hp:zbe ⟨[],x_part,x_fault,x_level,x_do_⟩=([x_part].all zaD&&((zaf zal x_fault != [])&&((zaf zai x_level != [])&&(zaf zag x_do_ != [])))):=by simp[zbe,zcY,e2]
   obtain⟨z0,hz0⟩: ∃z,[x_part].all zaD=z:=⟨_,rfl⟩;rw[hz0] at hp;have HZ0:=zaa hz0;clear hz0;obtain⟨z1,hz1⟩: ∃z,(zaf zal x_fault != [])=z:=⟨_,rfl⟩;rw[hz1] at hp;have HZ1:=zaa hz1;clear hz1;obtain⟨z2,hz2⟩: ∃z,(zaf zai x_level != [])=z:=⟨_,rfl⟩;rw[hz2] at hp;have HZ2:=zaa hz2;clear hz2;obtain⟨z3,hz3⟩: ∃z,(zaf zag x_do_ != [])=z:=⟨_,rfl⟩;rw[hz3] at hp;have HZ3:=zaa hz3;clear hz3;have HP:=zaa hp;clear hp
   go_enter func107,ntmps107
   go_upto_region 1 with fail
   generalize W.alloc _=w0 at *;obtain⟨c0,c1,c2,c3,c4⟩:=zbw HX.out;go_wp2_with fail;clear c0 c1 c2 c3 c4;have HC:=zaa (zaU (.slice (some ⟨w0.heap.size,0,none⟩) 1 1) [x_part] (w0.alloc (.cells #[.string ⟨x_part.toArray⟩] 9)) (zaa (zba w0 [x_part] 9)) (by simp));replace HX:=zaa ((Below.heap_alloc w0 (.cells #[.string ⟨x_part.toArray⟩] 9) _ (zau HX.out)).trans HX.out);replace HB:=zaa (HB.out.alloc HB.out.size (.cells #[.string ⟨x_part.toArray⟩] 9));rw[HZ0.out] at HC;generalize w0.alloc _=wn0 at *
   cases z0 with
   |false=>
    refine HC.out.mono ?_;rintro e wq0 ⟨rfl,hb⟩;clear HC;replace HX:=zaa (bkZ hb HX.out);replace HB:=zaa (btZ HB.out hb);clear hb;go_wp2_with fail;go_ret;exact⟨by rw[HP.out];simp,HB.out⟩
   |true=>
    refine HC.out.mono ?_;rintro e wq0 ⟨rfl,hb⟩;clear HC;replace HX:=zaa (bkZ hb HX.out);replace HB:=zaa (btZ HB.out hb);clear hb;obtain⟨c0,c1,c2,c3,c4⟩:=zbw HX.out;go_wp2_with fail;clear c0 c1 c2 c3 c4;obtain⟨S1,hS⟩: ∃S:ByteArray,(⟨(zaf zal x_fault).toArray⟩:ByteArray)=S:=⟨_,rfl⟩;have hw1:=za9 (zaf zal x_fault);have HC:=zaa (zdi x_fault h1 wq0);rw[hS] at hw1 HC;clear hS;rcases hw1 with⟨hw1,hz⟩|⟨hw1,hz⟩
    ·have hz:=HZ1.out.symm.trans hz
     subst hz;rw[hw1] at HC;clear hw1;refine HC.out.mono ?_;rintro e wq1 ⟨rfl,hb⟩;clear HC;replace HX:=zaa (bkZ hb HX.out);replace HB:=zaa (btZ HB.out hb);clear hb;go_wp2_with fail;go_ret;exact⟨by rw[HP.out];simp,HB.out⟩
    ·have hz:=HZ1.out.symm.trans hz
     subst hz;refine HC.out.mono ?_;rintro e wq1 ⟨rfl,hb⟩;clear HC;replace HX:=zaa (bkZ hb HX.out);replace HB:=zaa (btZ HB.out hb);clear hb;obtain⟨c0,c1,c2,c3,c4⟩:=zbw HX.out;go_wp2_with fail;clear c0 c1 c2 c3 c4;obtain⟨S2,hS⟩: ∃S:ByteArray,(⟨(zaf zai x_level).toArray⟩:ByteArray)=S:=⟨_,rfl⟩;have hw2:=za9 (zaf zai x_level);have HC:=zaa (zdn x_level h2 wq1);rw[hS] at hw2 HC;clear hS;rcases hw2 with⟨hw2,hz⟩|⟨hw2,hz⟩
     ·have hz:=HZ2.out.symm.trans hz
      subst hz;rw[hw2] at HC;clear hw2;refine HC.out.mono ?_;rintro e wq2 ⟨rfl,hb⟩;clear HC;replace HX:=zaa (bkZ hb HX.out);replace HB:=zaa (btZ HB.out hb);clear hb;go_wp2_with fail;go_ret;exact⟨by rw[HP.out];simp,HB.out⟩
     ·have hz:=HZ2.out.symm.trans hz
      subst hz;refine HC.out.mono ?_;rintro e wq2 ⟨rfl,hb⟩;clear HC;replace HX:=zaa (bkZ hb HX.out);replace HB:=zaa (btZ HB.out hb);clear hb;obtain⟨c0,c1,c2,c3,c4⟩:=zbw HX.out;go_wp2_with fail;clear c0 c1 c2 c3 c4;obtain⟨S3,hS⟩: ∃S:ByteArray,(⟨(zaf zag x_do_).toArray⟩:ByteArray)=S:=⟨_,rfl⟩;have hw3:=za9 (zaf zag x_do_);have HC:=zaa (zcX x_do_ h3 wq2);rw[hS] at hw3 HC;clear hS;rcases hw3 with⟨hw3,hz⟩|⟨hw3,hz⟩
      ·have hz:=HZ3.out.symm.trans hz
       subst hz;rw[hw3] at HC;clear hw3;refine HC.out.mono ?_;rintro e wq3 ⟨rfl,hb⟩;clear HC;replace HX:=zaa (bkZ hb HX.out);replace HB:=zaa (btZ HB.out hb);clear hb;go_wp2_with fail;go_ret;exact⟨by rw[HP.out];simp,HB.out⟩
      ·have hz:=HZ3.out.symm.trans hz
       subst hz;refine HC.out.mono ?_;rintro e wq3 ⟨rfl,hb⟩;clear HC;replace HX:=zaa (bkZ hb HX.out);replace HB:=zaa (btZ HB.out hb);clear hb;go_wp2_with fail;go_ret;exact⟨by rw[HP.out];simp,HB.out⟩
 ·have e1:x_module.isEmpty=false:=by simpa using hm
  by_cases hp:x_part=[]
  ·subst hp
   have hp:zbe ⟨x_module,[],x_fault,x_level,x_do_⟩=([x_module].all zaD&&((zaf zal x_fault != [])&&((zaf zai x_level != [])&&(zaf zag x_do_ != [])))):=by simp[zbe,zcY,e1]
   obtain⟨z0,hz0⟩: ∃z,[x_module].all zaD=z:=⟨_,rfl⟩;rw[hz0] at hp;have HZ0:=zaa hz0;clear hz0;obtain⟨z1,hz1⟩: ∃z,(zaf zal x_fault != [])=z:=⟨_,rfl⟩;rw[hz1] at hp;have HZ1:=zaa hz1;clear hz1;obtain⟨z2,hz2⟩: ∃z,(zaf zai x_level != [])=z:=⟨_,rfl⟩;rw[hz2] at hp;have HZ2:=zaa hz2;clear hz2;obtain⟨z3,hz3⟩: ∃z,(zaf zag x_do_ != [])=z:=⟨_,rfl⟩;rw[hz3] at hp;have HZ3:=zaa hz3;clear hz3;have HP:=zaa hp;clear hp
   go_enter func107,ntmps107
   go_upto_region 1 with fail
   generalize W.alloc _=w0 at *;obtain⟨c0,c1,c2,c3,c4⟩:=zbw HX.out;go_wp2_with fail;clear c0 c1 c2 c3 c4;have HC:=zaa (zaU (.slice (some ⟨w0.heap.size,0,none⟩) 1 1) [x_module] (w0.alloc (.cells #[.string ⟨x_module.toArray⟩] 9)) (zaa (zba w0 [x_module] 9)) (by simp));replace HX:=zaa ((Below.heap_alloc w0 (.cells #[.string ⟨x_module.toArray⟩] 9) _ (zau HX.out)).trans HX.out);replace HB:=zaa (HB.out.alloc HB.out.size (.cells #[.string ⟨x_module.toArray⟩] 9));rw[HZ0.out] at HC;generalize w0.alloc _=wn0 at *
   cases z0 with
   |false=>
    refine HC.out.mono ?_;rintro e wq0 ⟨rfl,hb⟩;clear HC;replace HX:=zaa (bkZ hb HX.out);replace HB:=zaa (btZ HB.out hb);clear hb;go_wp2_with fail;go_ret;exact⟨by rw[HP.out];simp,HB.out⟩
   |true=>
    refine HC.out.mono ?_;rintro e wq0 ⟨rfl,hb⟩;clear HC;replace HX:=zaa (bkZ hb HX.out);replace HB:=zaa (btZ HB.out hb);clear hb;obtain⟨c0,c1,c2,c3,c4⟩:=zbw HX.out;go_wp2_with fail;clear c0 c1 c2 c3 c4;obtain⟨S1,hS⟩: ∃S:ByteArray,(⟨(zaf zal x_fault).toArray⟩:ByteArray)=S:=⟨_,rfl⟩;have hw1:=za9 (zaf zal x_fault);have HC:=zaa (zdi x_fault h1 wq0);rw[hS] at hw1 HC;clear hS;rcases hw1 with⟨hw1,hz⟩|⟨hw1,hz⟩
    ·have hz:=HZ1.out.symm.trans hz
     subst hz;rw[hw1] at HC;clear hw1;refine HC.out.mono ?_;rintro e wq1 ⟨rfl,hb⟩;clear HC;replace HX:=zaa (bkZ hb HX.out);replace HB:=zaa (btZ HB.out hb);clear hb;go_wp2_with fail;go_ret;exact⟨by rw[HP.out];simp,HB.out⟩
    ·have hz:=HZ1.out.symm.trans hz
     subst hz;refine HC.out.mono ?_;rintro e wq1 ⟨rfl,hb⟩;clear HC;replace HX:=zaa (bkZ hb HX.out);replace HB:=zaa (btZ HB.out hb);clear hb;obtain⟨c0,c1,c2,c3,c4⟩:=zbw HX.out;go_wp2_with fail;clear c0 c1 c2 c3 c4;obtain⟨S2,hS⟩: ∃S:ByteArray,(⟨(zaf zai x_level).toArray⟩:ByteArray)=S:=⟨_,rfl⟩;have hw2:=za9 (zaf zai x_level);have HC:=zaa (zdn x_level h2 wq1);rw[hS] at hw2 HC;clear hS;rcases hw2 with⟨hw2,hz⟩|⟨hw2,hz⟩
     ·have hz:=HZ2.out.symm.trans hz
      subst hz;rw[hw2] at HC;clear hw2;refine HC.out.mono ?_;rintro e wq2 ⟨rfl,hb⟩;clear HC;replace HX:=zaa (bkZ hb HX.out);replace HB:=zaa (btZ HB.out hb);clear hb;go_wp2_with fail;go_ret;exact⟨by rw[HP.out];simp,HB.out⟩
     ·have hz:=HZ2.out.symm.trans hz
      subst hz;refine HC.out.mono ?_;rintro e wq2 ⟨rfl,hb⟩;clear HC;replace HX:=zaa (bkZ hb HX.out);replace HB:=zaa (btZ HB.out hb);clear hb;obtain⟨c0,c1,c2,c3,c4⟩:=zbw HX.out;go_wp2_with fail;clear c0 c1 c2 c3 c4;obtain⟨S3,hS⟩: ∃S:ByteArray,(⟨(zaf zag x_do_).toArray⟩:ByteArray)=S:=⟨_,rfl⟩;have hw3:=za9 (zaf zag x_do_);have HC:=zaa (zcX x_do_ h3 wq2);rw[hS] at hw3 HC;clear hS;rcases hw3 with⟨hw3,hz⟩|⟨hw3,hz⟩
      ·have hz:=HZ3.out.symm.trans hz
       subst hz;rw[hw3] at HC;clear hw3;refine HC.out.mono ?_;rintro e wq3 ⟨rfl,hb⟩;clear HC;replace HX:=zaa (bkZ hb HX.out);replace HB:=zaa (btZ HB.out hb);clear hb;go_wp2_with fail;go_ret;exact⟨by rw[HP.out];simp,HB.out⟩
      ·have hz:=HZ3.out.symm.trans hz
       subst hz;refine HC.out.mono ?_;rintro e wq3 ⟨rfl,hb⟩;clear HC;replace HX:=zaa (bkZ hb HX.out);replace HB:=zaa (btZ HB.out hb);clear hb;go_wp2_with fail;go_ret;exact⟨by rw[HP.out];simp,HB.out⟩
  ·have e2:x_part.isEmpty=false:=by simpa using hp
   have hp:zbe ⟨x_module,x_part,x_fault,x_level,x_do_⟩=([x_module].all zaD&&([x_part].all zaD&&((zaf zal x_fault != [])&&((zaf zai x_level != [])&&(zaf zag x_do_ != []))))):=by simp[zbe,zcY,e1,e2]
   obtain⟨z0,hz0⟩: ∃z,[x_module].all zaD=z:=⟨_,rfl⟩;rw[hz0] at hp;have HZ0:=zaa hz0;clear hz0;obtain⟨z1,hz1⟩: ∃z,[x_part].all zaD=z:=⟨_,rfl⟩;rw[hz1] at hp;have HZ1:=zaa hz1;clear hz1;obtain⟨z2,hz2⟩: ∃z,(zaf zal x_fault != [])=z:=⟨_,rfl⟩;rw[hz2] at hp;have HZ2:=zaa hz2;clear hz2;obtain⟨z3,hz3⟩: ∃z,(zaf zai x_level != [])=z:=⟨_,rfl⟩;rw[hz3] at hp;have HZ3:=zaa hz3;clear hz3;obtain⟨z4,hz4⟩: ∃z,(zaf zag x_do_ != [])=z:=⟨_,rfl⟩;rw[hz4] at hp;have HZ4:=zaa hz4;clear hz4;have HP:=zaa hp;clear hp
   go_enter func107,ntmps107
   go_upto_region 1 with fail
   generalize W.alloc _=w0 at *;obtain⟨c0,c1,c2,c3,c4⟩:=zbw HX.out;go_wp2_with fail;clear c0 c1 c2 c3 c4;have HC:=zaa (zaU (.slice (some ⟨w0.heap.size,0,none⟩) 1 1) [x_module] (w0.alloc (.cells #[.string ⟨x_module.toArray⟩] 9)) (zaa (zba w0 [x_module] 9)) (by simp));replace HX:=zaa ((Below.heap_alloc w0 (.cells #[.string ⟨x_module.toArray⟩] 9) _ (zau HX.out)).trans HX.out);replace HB:=zaa (HB.out.alloc HB.out.size (.cells #[.string ⟨x_module.toArray⟩] 9));rw[HZ0.out] at HC;generalize w0.alloc _=wn0 at *
   cases z0 with
   |false=>
    refine HC.out.mono ?_;rintro e wq0 ⟨rfl,hb⟩;clear HC;replace HX:=zaa (bkZ hb HX.out);replace HB:=zaa (btZ HB.out hb);clear hb;go_wp2_with fail;go_ret;exact⟨by rw[HP.out];simp,HB.out⟩
   |true=>
    refine HC.out.mono ?_;rintro e wq0 ⟨rfl,hb⟩;clear HC;replace HX:=zaa (bkZ hb HX.out);replace HB:=zaa (btZ HB.out hb);clear hb;obtain⟨c0,c1,c2,c3,c4⟩:=zbw HX.out;go_wp2_with fail;clear c0 c1 c2 c3 c4;have HC:=zaa (zaU (.slice (some ⟨wq0.heap.size,0,none⟩) 1 1) [x_part] (wq0.alloc (.cells #[.string ⟨x_part.toArray⟩] 9)) (zaa (zba wq0 [x_part] 9)) (by simp));replace HX:=zaa ((Below.heap_alloc wq0 (.cells #[.string ⟨x_part.toArray⟩] 9) _ (zau HX.out)).trans HX.out);replace HB:=zaa (HB.out.alloc HB.out.size (.cells #[.string ⟨x_part.toArray⟩] 9));rw[HZ1.out] at HC;generalize wq0.alloc _=wn1 at *
    cases z1 with
    |false=>
     refine HC.out.mono ?_;rintro e wq1 ⟨rfl,hb⟩;clear HC;replace HX:=zaa (bkZ hb HX.out);replace HB:=zaa (btZ HB.out hb);clear hb;go_wp2_with fail;go_ret;exact⟨by rw[HP.out];simp,HB.out⟩
    |true=>
     refine HC.out.mono ?_;rintro e wq1 ⟨rfl,hb⟩;clear HC;replace HX:=zaa (bkZ hb HX.out);replace HB:=zaa (btZ HB.out hb);clear hb;obtain⟨c0,c1,c2,c3,c4⟩:=zbw HX.out;go_wp2_with fail;clear c0 c1 c2 c3 c4;obtain⟨S2,hS⟩: ∃S:ByteArray,(⟨(zaf zal x_fault).toArray⟩:ByteArray)=S:=⟨_,rfl⟩;have hw2:=za9 (zaf zal x_fault);have HC:=zaa (zdi x_fault h1 wq1);rw[hS] at hw2 HC;clear hS;rcases hw2 with⟨hw2,hz⟩|⟨hw2,hz⟩
     ·have hz:=HZ2.out.symm.trans hz
      subst hz;rw[hw2] at HC;clear hw2;refine HC.out.mono ?_;rintro e wq2 ⟨rfl,hb⟩;clear HC;replace HX:=zaa (bkZ hb HX.out);replace HB:=zaa (btZ HB.out hb);clear hb;go_wp2_with fail;go_ret;exact⟨by rw[HP.out];simp,HB.out⟩
     ·have hz:=HZ2.out.symm.trans hz
      subst hz;refine HC.out.mono ?_;rintro e wq2 ⟨rfl,hb⟩;clear HC;replace HX:=zaa (bkZ hb HX.out);replace HB:=zaa (btZ HB.out hb);clear hb;obtain⟨c0,c1,c2,c3,c4⟩:=zbw HX.out;go_wp2_with fail;clear c0 c1 c2 c3 c4;obtain⟨S3,hS⟩: ∃S:ByteArray,(⟨(zaf zai x_level).toArray⟩:ByteArray)=S:=⟨_,rfl⟩;have hw3:=za9 (zaf zai x_level);have HC:=zaa (zdn x_level h2 wq2);rw[hS] at hw3 HC;clear hS;rcases hw3 with⟨hw3,hz⟩|⟨hw3,hz⟩
      ·have hz:=HZ3.out.symm.trans hz
       subst hz;rw[hw3] at HC;clear hw3;refine HC.out.mono ?_;rintro e wq3 ⟨rfl,hb⟩;clear HC;replace HX:=zaa (bkZ hb HX.out);replace HB:=zaa (btZ HB.out hb);clear hb;go_wp2_with fail;go_ret;exact⟨by rw[HP.out];simp,HB.out⟩
      ·have hz:=HZ3.out.symm.trans hz
       subst hz;refine HC.out.mono ?_;rintro e wq3 ⟨rfl,hb⟩;clear HC;replace HX:=zaa (bkZ hb HX.out);replace HB:=zaa (btZ HB.out hb);clear hb;obtain⟨c0,c1,c2,c3,c4⟩:=zbw HX.out;go_wp2_with fail;clear c0 c1 c2 c3 c4;obtain⟨S4,hS⟩: ∃S:ByteArray,(⟨(zaf zag x_do_).toArray⟩:ByteArray)=S:=⟨_,rfl⟩;have hw4:=za9 (zaf zag x_do_);have HC:=zaa (zcX x_do_ h3 wq3);rw[hS] at hw4 HC;clear hS;rcases hw4 with⟨hw4,hz⟩|⟨hw4,hz⟩
       ·have hz:=HZ4.out.symm.trans hz
        subst hz;rw[hw4] at HC;clear hw4;refine HC.out.mono ?_;rintro e wq4 ⟨rfl,hb⟩;clear HC;replace HX:=zaa (bkZ hb HX.out);replace HB:=zaa (btZ HB.out hb);clear hb;go_wp2_with fail;go_ret;exact⟨by rw[HP.out];simp,HB.out⟩
       ·have hz:=HZ4.out.symm.trans hz
        subst hz;refine HC.out.mono ?_;rintro e wq4 ⟨rfl,hb⟩;clear HC;replace HX:=zaa (bkZ hb HX.out);replace HB:=zaa (btZ HB.out hb);clear hb;go_wp2_with fail;go_ret;exact⟨by rw[HP.out];simp,HB.out⟩
theorem ziL (x:zaF) (A1:Option Addr) (q1:Nat) (A2:Option Addr) (q2:Nat) (W:World) (h1:Hid (DAt W (fun _=>True) (.slice A1 x.needs.length q1) (.row 2 (x.needs.map zcu.cells)))) (h2:Hid (DAt W (fun _=>True) (.slice A2 x.but.length q2) (.row 1 (zao x.but)))) (hl:zbR x):
 Calls prog 108 #[.agg #[.string ⟨x.unit.toArray⟩,.slice A1 x.needs.length q1,.slice A2 x.but.length q2]] W fun e w'=>e= .returned (.bool (zch x))∧Below W.heap.size W w':=by
 have hp:zch x=(([x.unit].all zaD&&x.but.all zaD)&&(decide (0<x.needs.length)&&x.needs.all zf1)):=by simp[zch]
 obtain⟨z0,hz0⟩: ∃z,[x.unit].all zaD=z:=⟨_,rfl⟩;rw[hz0] at hp;have HZ0:=zaa hz0;clear hz0;obtain⟨z1,hz1⟩: ∃z,x.but.all zaD=z:=⟨_,rfl⟩;rw[hz1] at hp;have HZ1:=zaa hz1;clear hz1;have HP:=zaa hp;clear hp;have m1:=hl.1;have m2:x.but.length≤140737488355328:=by have:=hl.2;omega
 clear hl;have hA:=h1.out;obtain⟨A_,q_,e_,hA⟩:=hA.slice;injection e_ with e1 e2 e3
 subst e1 e3;clear e2;have HA1:=zaa hA;clear hA;have HX:=zaa (heap_alloc_new W (.cells #[.string ⟨x.unit.toArray⟩,.slice A1 x.needs.length q1,.slice A2 x.but.length q2] 65));have HB:=zaa ((Below.refl W.heap.size W).alloc (Nat.le_refl _) (.cells #[.string ⟨x.unit.toArray⟩,.slice A1 x.needs.length q1,.slice A2 x.but.length q2] 65));have hz:W.heap.size<(W.alloc (.cells #[.string ⟨x.unit.toArray⟩,.slice A1 x.needs.length q1,.slice A2 x.but.length q2] 65)).heap.size:=by simp
 clear hz
 go_enter func108,ntmps108
 go_wp2_with fail;generalize W.alloc _=w0 at *
 go_loopw [3] (fun v3 wr=> ∃k:Nat,k≤x.needs.length∧v3= .int .i64 k∧(x.needs.take k).all zf1=true∧Below w0.heap.size w0 wr) (fun v3 _=>x.needs.length-(intOf v3).toNat)
 case atStart=>exact⟨0,by omega,rfl,by simp,Below.refl _ _⟩
 case round=>
  obtain⟨k,hk,rfl,ht,hbr⟩:=hrel;have HT:=zaa ht;have HR:=zaa hbr;have HBR:=zaa (btZ HB.out hbr);have HXR:=zaa (bkZ hbr HX.out);clear ht hbr;by_cases hlt:k<x.needs.length
  rotate_left
  ·obtain rfl:k=x.needs.length:=by omega
   rw[List.take_length] at HT;clear hlt;rw[HT.out] at HP;replace HX:=HXR;replace HB:=HBR;clear HXR HBR HR HT;by_cases h0:x.needs.length=0
   ·rw[h0] at HP HX
    obtain⟨c0,c1,c2⟩:=zdy HX.out;go_wp2_with fail;go_ret;exact⟨by rw[HP.out];simp,HB.out⟩
   have hp:(0:Int)<(x.needs.length:Int):=by omega
   rw[decide_eq_true (by omega:0<x.needs.length)] at HP;clear h0;obtain⟨c0,c1,c2⟩:=zdy HX.out;go_wp2_with fail;clear c0 c1 c2;have HC:=zaa (zaU (.slice (some ⟨wr.heap.size,0,none⟩) 1 1) [x.unit] (wr.alloc (.cells #[.string ⟨x.unit.toArray⟩] 9)) (zaa (zba wr [x.unit] 9)) (by simp));replace HX:=zaa ((Below.heap_alloc wr (.cells #[.string ⟨x.unit.toArray⟩] 9) _ (zau HX.out)).trans HX.out);replace HB:=zaa (HB.out.alloc HB.out.size (.cells #[.string ⟨x.unit.toArray⟩] 9));rw[HZ0.out] at HC;generalize wr.alloc _=wn0 at *
   cases z0 with
   |false=>
    refine HC.out.mono ?_;rintro e wq0 ⟨rfl,hb⟩;clear HC;replace HX:=zaa (bkZ hb HX.out);replace HB:=zaa (btZ HB.out hb);clear hb;go_wp2_with fail;go_ret;exact⟨by rw[HP.out];simp,HB.out⟩
   |true=>
    refine HC.out.mono ?_;rintro e wq0 ⟨rfl,hb⟩;clear HC;replace HX:=zaa (bkZ hb HX.out);replace HB:=zaa (btZ HB.out hb);clear hb;obtain⟨c0,c1,c2⟩:=zdy HX.out;go_wp2_with fail;clear c0 c1 c2;have HC:=zaa (zaU _ x.but wq0 (zaa (h2.out.later HB.out)) m2);rw[HZ1.out] at HC
    cases z1 with
    |false=>
     refine HC.out.mono ?_;rintro e wq1 ⟨rfl,hb⟩;clear HC;replace HX:=zaa (bkZ hb HX.out);replace HB:=zaa (btZ HB.out hb);clear hb;go_wp2_with fail;go_ret;exact⟨by rw[HP.out];simp,HB.out⟩
    |true=>
     refine HC.out.mono ?_;rintro e wq1 ⟨rfl,hb⟩;clear HC;replace HX:=zaa (bkZ hb HX.out);replace HB:=zaa (btZ HB.out hb);clear hb;go_wp2_with fail;go_ret;exact⟨by rw[HP.out];simp,HB.out⟩
  obtain⟨y,hx⟩: ∃y,x.needs[k]? =some y:=⟨_,List.getElem?_eq_getElem hlt⟩;have HA:=HA1;obtain⟨b,off,rfl,hb,hca⟩:=HA.out.at_ hx;obtain⟨u0,d0,g0⟩:=hca 0 _ rfl;obtain⟨u1,d1,g1⟩:=hca 1 _ rfl;clear hca;obtain rfl:=g0.leaf_eq;obtain rfl:=g1.leaf_eq;have d0:=zad HBR.out hb (off+k*2) d0;have d1:=zad HBR.out hb (off+k*2+1) d1;simp only[zav] at d0;have HD0:=zaa d0;have HD1:=zaa d1;clear d0 d1;have k0:=kbZ k x.needs.length;have HY:=zaa hx;have hbw:b<wr.heap.size:=Nat.lt_of_lt_of_le hb HBR.out.size;clear hx;have hp:zf1 y=([y.unit].all zaD&&[y.code].all zbj):=by simp[zf1]
  obtain⟨HPo,hPo⟩: ∃p:Unit,p=p:=⟨(),rfl⟩;have HZ0_:=HZ0;have HZ1_:=HZ1;clear hPo HPo;obtain⟨z0,hz0⟩: ∃z,[y.unit].all zaD=z:=⟨_,rfl⟩;rw[hz0] at hp;have HZ0:=zaa hz0;clear hz0;obtain⟨z1,hz1⟩: ∃z,[y.code].all zbj=z:=⟨_,rfl⟩;rw[hz1] at hp;have HZ1:=zaa hz1;clear hz1;have HPy:=zaa hp;clear hp;have HQ:=zaa (Below.refl wr.heap.size wr);obtain⟨w3,hw3⟩: ∃w3,w3=wr:=⟨_,rfl⟩;clear hw3 w3;obtain⟨c0,c1,c2⟩:=zdy HXR.out;have d0:=zad HQ.out hbw (off+k*2) HD0.out;have d1:=zad HQ.out hbw (off+k*2+1) HD1.out;go_wp2_with fail;clear c0 c1 c2 d0 d1;have HC:=zaa (zaU (.slice (some ⟨wr.heap.size,0,none⟩) 1 1) [y.unit] (wr.alloc (.cells #[.string ⟨y.unit.toArray⟩] 9)) (zaa (zba wr [y.unit] 9)) (by simp));replace HXR:=zaa ((Below.heap_alloc wr (.cells #[.string ⟨y.unit.toArray⟩] 9) _ (zau HXR.out)).trans HXR.out);replace HR:=zaa (HR.out.alloc HR.out.size (.cells #[.string ⟨y.unit.toArray⟩] 9));replace HBR:=zaa (HBR.out.alloc HBR.out.size (.cells #[.string ⟨y.unit.toArray⟩] 9));replace HQ:=zaa (HQ.out.alloc HQ.out.size (.cells #[.string ⟨y.unit.toArray⟩] 9));rw[HZ0.out] at HC;generalize wr.alloc _=wn0 at *
  cases z0 with
  |false=>
   refine HC.out.mono ?_;rintro e wq0 ⟨rfl,hb⟩;clear HC;replace HXR:=zaa (bkZ hb HXR.out);replace HR:=zaa (btZ HR.out hb);replace HBR:=zaa (btZ HBR.out hb);replace HQ:=zaa (btZ HQ.out hb);clear hb;have HNO:=zaa (zaH HY.out (show zf1 y=false by rw[HPy.out];simp));go_wp2_with fail;go_ret;exact⟨by rw[HP.out,HNO.out];simp,HBR.out⟩
  |true=>
   refine HC.out.mono ?_;rintro e wq0 ⟨rfl,hb⟩;clear HC;replace HXR:=zaa (bkZ hb HXR.out);replace HR:=zaa (btZ HR.out hb);replace HBR:=zaa (btZ HBR.out hb);replace HQ:=zaa (btZ HQ.out hb);clear hb;obtain⟨c0,c1,c2⟩:=zdy HXR.out;have d0:=zad HQ.out hbw (off+k*2) HD0.out;have d1:=zad HQ.out hbw (off+k*2+1) HD1.out;go_wp2_with fail;clear c0 c1 c2 d0 d1;have HC:=zaa (zbB (.slice (some ⟨wq0.heap.size,0,none⟩) 1 1) [y.code] (wq0.alloc (.cells #[.int .i64 y.code] 3)) (zaa (za6 wq0 [y.code] 3)) (by simp));replace HXR:=zaa ((Below.heap_alloc wq0 (.cells #[.int .i64 y.code] 3) _ (zau HXR.out)).trans HXR.out);replace HR:=zaa (HR.out.alloc HR.out.size (.cells #[.int .i64 y.code] 3));replace HBR:=zaa (HBR.out.alloc HBR.out.size (.cells #[.int .i64 y.code] 3));replace HQ:=zaa (HQ.out.alloc HQ.out.size (.cells #[.int .i64 y.code] 3));rw[HZ1.out] at HC;generalize wq0.alloc _=wn1 at *
   cases z1 with
   |false=>
    refine HC.out.mono ?_;rintro e wq1 ⟨rfl,hb⟩;clear HC;replace HXR:=zaa (bkZ hb HXR.out);replace HR:=zaa (btZ HR.out hb);replace HBR:=zaa (btZ HBR.out hb);replace HQ:=zaa (btZ HQ.out hb);clear hb;have HNO:=zaa (zaH HY.out (show zf1 y=false by rw[HPy.out];simp));go_wp2_with fail;go_ret;exact⟨by rw[HP.out,HNO.out];simp,HBR.out⟩
   |true=>
    refine HC.out.mono ?_;rintro e wq1 ⟨rfl,hb⟩;clear HC;replace HXR:=zaa (bkZ hb HXR.out);replace HR:=zaa (btZ HR.out hb);replace HBR:=zaa (btZ HBR.out hb);replace HQ:=zaa (btZ HQ.out hb);clear hb;have HTK:=zaa (zaK HT.out HY.out (show zf1 y=true by rw[HPy.out];rfl));go_wp2_with fail;go_roundw
    case rel=>exact⟨k+1,by omega,by go_num,HTK.out,HR.out⟩
    case measure=>simp[intOf];omega
end Go.Proofs.YtgbfaompondolaaGreatDoor
