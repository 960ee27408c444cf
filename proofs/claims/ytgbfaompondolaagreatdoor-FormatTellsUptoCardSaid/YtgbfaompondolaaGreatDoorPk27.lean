/- Merged texts of the walks and of the plain laws on which the statement leans.-/
import Derived.Test.YtgbfaompondolaaGreatDoorPk1
import Derived.Test.YtgbfaompondolaaGreatDoorPk26
set_option maxHeartbeats 4000000
set_option maxRecDepth 100000
namespace Go.Proofs.YtgbfaompondolaaGreatDoor
open Go.Proofs.Tryz
open Go.RowKit
attribute [local go_sem] zaj.cell
theorem zcJ {α:Type} {l:List α} {p:α→Bool} {k:Nat} {x:α} (h:l[k]? =some x):(l.take (k+1)).all p=((l.take k).all p&&p x):=by
 rw[List.take_add_one,h,List.all_append];simp
theorem zhp (n:Int) (W:World):Calls prog 106 #[.int .i64 n] W fun e w'=>e= .returned (.bool (n/2==0))∧Below W.heap.size W w':=by
 by_cases h0:n=0
 ·subst h0
  go_enter func106,ntmps106
  go_wp2_with fail;go_ret;exact⟨rfl,Below.refl _ _⟩
 ·have e0:(n==0)=false:=by simpa using h0
  by_cases h1:n=1
  ·subst h1
   go_enter func106,ntmps106
   go_wp2_with fail;go_ret;exact⟨rfl,Below.refl _ _⟩
  ·have e1:(n==1)=false:=by simpa using h1
   have e2:(n/2==0)=false:=by rw[beq_eq_false_iff_ne];omega
   rw[e2];clear h0 h1 e2
   go_enter func106,ntmps106
   go_wp2_with fail;go_ret;exact⟨rfl,Below.refl _ _⟩
theorem zfD (x:zcS) (A0:Option Addr) (q0:Nat) (A1:Option Addr) (q1:Nat) (A2:Option Addr) (q2:Nat) (A3:Option Addr) (q3:Nat) (A4:Option Addr) (q4:Nat) (A5:Option Addr) (q5:Nat) (A6:Option Addr) (q6:Nat) (A7:Option Addr) (q7:Nat) (W:World) (h0:Hid (DAt W (fun _=>True) (.slice A0 x.modules.length q0) (.row 4 (x.modules.map zcy.cells)))) (h1:Hid (DAt W (fun _=>True) (.slice A1 x.channels.length q1) (.row 4 (x.channels.map zbi.cells)))) (h2:Hid (DAt W (fun _=>True) (.slice A2 x.switches.length q2) (.row 4 (x.switches.map SwD.cells)))) (h3:Hid (DAt W (fun _=>True) (.slice A3 x.links.length q3) (.row 4 (x.links.map zby.cells)))) (h4:Hid (DAt W (fun _=>True) (.slice A4 x.vls.length q4) (.row 7 (x.vls.map VlD.cells)))) (h5:Hid (DAt W (fun _=>True) (.slice A5 x.health.length q5) (.row 5 (x.health.map zaB.cells)))) (h6:Hid (DAt W (fun _=>True) (.slice A6 x.causes.length q6) (.row 3 (x.causes.map zaF.cells)))) (h7:Hid (DAt W (fun _=>True) (.slice A7 x.versions.length q7) (.row 4 (x.versions.map zdt.cells)))) (hl:zdB x):
 Calls prog 21 #[.agg #[.slice A0 x.modules.length q0,.slice A1 x.channels.length q1,.slice A2 x.switches.length q2,.slice A3 x.links.length q3,.slice A4 x.vls.length q4,.slice A5 x.health.length q5,.slice A6 x.causes.length q6,.slice A7 x.versions.length q7]] W fun e w'=>e= .returned (.bool (zev x))∧Below W.heap.size W w':=by
 have HO0:=zaa hl.m;have HO1:=zaa hl.c;have HO4:=zaa hl.v;have HO5:=zaa hl.h;have HO6:=zaa hl.k;have m0:x.modules.length≤140737488355328:=hl.nm;have m1:x.channels.length≤140737488355328:=hl.nc;have m2:x.switches.length≤140737488355328:=hl.ns;have m3:x.links.length≤140737488355328:=hl.nl;have m4:x.vls.length≤140737488355328:=hl.nv;have m5:x.health.length≤140737488355328:=hl.nh;have m6:x.causes.length≤140737488355328:=hl.nk;have m7:x.versions.length≤140737488355328:=hl.nr;clear hl;have hA:=h0.out;obtain⟨A_,q_,e_,hA⟩:=hA.slice;injection e_ with e1 e2 e3
 subst e1 e3;clear e2;have HA0:=zaa hA;clear hA;have hA:=h1.out;obtain⟨A_,q_,e_,hA⟩:=hA.slice;injection e_ with e1 e2 e3
 subst e1 e3;clear e2;have HA1:=zaa hA;clear hA;have hA:=h2.out;obtain⟨A_,q_,e_,hA⟩:=hA.slice;injection e_ with e1 e2 e3
 subst e1 e3;clear e2;have HA2:=zaa hA;clear hA;have hA:=h3.out;obtain⟨A_,q_,e_,hA⟩:=hA.slice;injection e_ with e1 e2 e3
 subst e1 e3;clear e2;have HA3:=zaa hA;clear hA;have hA:=h4.out;obtain⟨A_,q_,e_,hA⟩:=hA.slice;injection e_ with e1 e2 e3
 subst e1 e3;clear e2;have HA4:=zaa hA;clear hA;have hA:=h5.out;obtain⟨A_,q_,e_,hA⟩:=hA.slice;injection e_ with e1 e2 e3
 subst e1 e3;clear e2;have HA5:=zaa hA;clear hA;have hA:=h6.out;obtain⟨A_,q_,e_,hA⟩:=hA.slice;injection e_ with e1 e2 e3
 subst e1 e3;clear e2;have HA6:=zaa hA;clear hA;have hA:=h7.out;obtain⟨A_,q_,e_,hA⟩:=hA.slice;injection e_ with e1 e2 e3
 subst e1 e3;clear e2;have HA7:=zaa hA;clear hA;have HX:=zaa (heap_alloc_new W (.cells #[.slice A0 x.modules.length q0,.slice A1 x.channels.length q1,.slice A2 x.switches.length q2,.slice A3 x.links.length q3,.slice A4 x.vls.length q4,.slice A5 x.health.length q5,.slice A6 x.causes.length q6,.slice A7 x.versions.length q7] 31));have HB:=zaa ((Below.refl W.heap.size W).alloc (Nat.le_refl _) (.cells #[.slice A0 x.modules.length q0,.slice A1 x.channels.length q1,.slice A2 x.switches.length q2,.slice A3 x.links.length q3,.slice A4 x.vls.length q4,.slice A5 x.health.length q5,.slice A6 x.causes.length q6,.slice A7 x.versions.length q7] 31));have hz:W.heap.size<(W.alloc (.cells #[.slice A0 x.modules.length q0,.slice A1 x.channels.length q1,.slice A2 x.switches.length q2,.slice A3 x.links.length q3,.slice A4 x.vls.length q4,.slice A5 x.health.length q5,.slice A6 x.causes.length q6,.slice A7 x.versions.length q7] 31)).heap.size:=by simp
 clear hz
 go_enter func21,ntmps21
 go_wp2_with fail;generalize W.alloc _=w0 at *
 go_loopw [3,4] (fun v3 v4 wr=> ∃(k:Nat) (b:Bool),k≤x.modules.length∧v4= .int .i64 k∧v3= .bool b∧b=(true&&(x.modules.take k).all zeQ)∧Below w0.heap.size w0 wr) (fun _ v4 _=>x.modules.length-(intOf v4).toNat)
 case atStart=>exact⟨0,_,by omega,rfl,rfl,by simp,Below.refl _ _⟩
 case round=>
  obtain⟨k,b,hk,rfl,rfl,hS,hbr⟩:=hrel;have HQ:=zaa hS;have HR:=zaa hbr;have HBR:=zaa (btZ HB.out hbr);have HXR:=zaa (bkZ hbr HX.out);clear hS hbr;by_cases hlt:k<x.modules.length
  rotate_left
  ·obtain rfl:k=x.modules.length:=by omega
   rw[List.take_length] at HQ;clear hlt;have HX1:=HXR;have HB1:=HBR;have HV1:=HQ;clear HX HB HR HXR HBR HQ;obtain⟨w10,rfl⟩: ∃w10,w10=wr:=⟨_,rfl⟩;obtain⟨c0,c1,c2,c3,c4,c5,c6,c7⟩:=zaM HX1.out;go_wp2_with fail;clear c0 c1 c2 c3 c4 c5 c6 c7
   go_loopw [3,7] (fun v3 v7 wr=> ∃(k:Nat) (b:Bool),k≤x.channels.length∧v7= .int .i64 k∧v3= .bool b∧b=((true&&x.modules.all zeQ)&&(x.channels.take k).all zed)∧Below w10.heap.size w10 wr) (fun _ v7 _=>x.channels.length-(intOf v7).toNat)
   case atStart=>exact⟨0,_,by omega,rfl,rfl,by rw[HV1.out,List.take_zero];simp,Below.refl _ _⟩
   case round=>
    obtain⟨k,b,hk,rfl,rfl,hS,hbr⟩:=hrel;have HQ:=zaa hS;have HR:=zaa hbr;have HBR:=zaa (btZ HB1.out hbr);have HXR:=zaa (bkZ hbr HX1.out);clear hS hbr;by_cases hlt:k<x.channels.length
    rotate_left
    ·obtain rfl:k=x.channels.length:=by omega
     rw[List.take_length] at HQ;clear hlt;have HX2:=HXR;have HB2:=HBR;have HV2:=HQ;clear HX1 HB1 HR HXR HBR HQ;obtain⟨w11,rfl⟩: ∃w11,w11=wr:=⟨_,rfl⟩;obtain⟨c0,c1,c2,c3,c4,c5,c6,c7⟩:=zaM HX2.out;go_wp2_with fail;clear c0 c1 c2 c3 c4 c5 c6 c7
     go_loopw [3,8] (fun v3 v8 wr=> ∃(k:Nat) (b:Bool),k≤x.switches.length∧v8= .int .i64 k∧v3= .bool b∧b=(((true&&x.modules.all zeQ)&&x.channels.all zed)&&(x.switches.take k).all swF)∧Below w11.heap.size w11 wr) (fun _ v8 _=>x.switches.length-(intOf v8).toNat)
     case atStart=>exact⟨0,_,by omega,rfl,rfl,by rw[HV2.out,List.take_zero];simp,Below.refl _ _⟩
     case round=>
      obtain⟨k,b,hk,rfl,rfl,hS,hbr⟩:=hrel;have HQ:=zaa hS;have HR:=zaa hbr;have HBR:=zaa (btZ HB2.out hbr);have HXR:=zaa (bkZ hbr HX2.out);clear hS hbr;by_cases hlt:k<x.switches.length
      rotate_left
      ·obtain rfl:k=x.switches.length:=by omega
       rw[List.take_length] at HQ;clear hlt;have HX3:=HXR;have HB3:=HBR;have HV3:=HQ;clear HX2 HB2 HR HXR HBR HQ;obtain⟨w12,rfl⟩: ∃w12,w12=wr:=⟨_,rfl⟩;obtain⟨c0,c1,c2,c3,c4,c5,c6,c7⟩:=zaM HX3.out;go_wp2_with fail;clear c0 c1 c2 c3 c4 c5 c6 c7
       go_loopw [3,10] (fun v3 v10 wr=> ∃(k:Nat) (b:Bool),k≤x.links.length∧v10= .int .i64 k∧v3= .bool b∧b=((((true&&x.modules.all zeQ)&&x.channels.all zed)&&x.switches.all swF)&&(x.links.take k).all zdc)∧Below w12.heap.size w12 wr) (fun _ v10 _=>x.links.length-(intOf v10).toNat)
       case atStart=>exact⟨0,_,by omega,rfl,rfl,by rw[HV3.out,List.take_zero];simp,Below.refl _ _⟩
       case round=>
        obtain⟨k,b,hk,rfl,rfl,hS,hbr⟩:=hrel;have HQ:=zaa hS;have HR:=zaa hbr;have HBR:=zaa (btZ HB3.out hbr);have HXR:=zaa (bkZ hbr HX3.out);clear hS hbr;by_cases hlt:k<x.links.length
        rotate_left
        ·obtain rfl:k=x.links.length:=by omega
         rw[List.take_length] at HQ;clear hlt;have HX4:=HXR;have HB4:=HBR;have HV4:=HQ;clear HX3 HB3 HR HXR HBR HQ;obtain⟨w13,rfl⟩: ∃w13,w13=wr:=⟨_,rfl⟩;obtain⟨c0,c1,c2,c3,c4,c5,c6,c7⟩:=zaM HX4.out;go_wp2_with fail;clear c0 c1 c2 c3 c4 c5 c6 c7
         go_loopw [3,12] (fun v3 v12 wr=> ∃(k:Nat) (b:Bool),k≤x.vls.length∧v12= .int .i64 k∧v3= .bool b∧b=(((((true&&x.modules.all zeQ)&&x.channels.all zed)&&x.switches.all swF)&&x.links.all zdc)&&(x.vls.take k).all vlF)∧Below w13.heap.size w13 wr) (fun _ v12 _=>x.vls.length-(intOf v12).toNat)
         case atStart=>exact⟨0,_,by omega,rfl,rfl,by rw[HV4.out,List.take_zero];simp,Below.refl _ _⟩
         case round=>
          obtain⟨k,b,hk,rfl,rfl,hS,hbr⟩:=hrel;have HQ:=zaa hS;have HR:=zaa hbr;have HBR:=zaa (btZ HB4.out hbr);have HXR:=zaa (bkZ hbr HX4.out);clear hS hbr;by_cases hlt:k<x.vls.length
          rotate_left
          ·obtain rfl:k=x.vls.length:=by omega
           rw[List.take_length] at HQ;clear hlt;have HX5:=HXR;have HB5:=HBR;have HV5:=HQ;clear HX4 HB4 HR HXR HBR HQ;obtain⟨w14,rfl⟩: ∃w14,w14=wr:=⟨_,rfl⟩;obtain⟨c0,c1,c2,c3,c4,c5,c6,c7⟩:=zaM HX5.out;go_wp2_with fail;clear c0 c1 c2 c3 c4 c5 c6 c7
           go_loopw [3,14] (fun v3 v14 wr=> ∃(k:Nat) (b:Bool),k≤x.health.length∧v14= .int .i64 k∧v3= .bool b∧b=((((((true&&x.modules.all zeQ)&&x.channels.all zed)&&x.switches.all swF)&&x.links.all zdc)&&x.vls.all vlF)&&(x.health.take k).all zbe)∧Below w14.heap.size w14 wr) (fun _ v14 _=>x.health.length-(intOf v14).toNat)
           case atStart=>exact⟨0,_,by omega,rfl,rfl,by rw[HV5.out,List.take_zero];simp,Below.refl _ _⟩
           case round=>
            obtain⟨k,b,hk,rfl,rfl,hS,hbr⟩:=hrel;have HQ:=zaa hS;have HR:=zaa hbr;have HBR:=zaa (btZ HB5.out hbr);have HXR:=zaa (bkZ hbr HX5.out);clear hS hbr;by_cases hlt:k<x.health.length
            rotate_left
            ·obtain rfl:k=x.health.length:=by omega
             rw[List.take_length] at HQ;clear hlt;have HX6:=HXR;have HB6:=HBR;have HV6:=HQ;clear HX5 HB5 HR HXR HBR HQ;obtain⟨w15,rfl⟩: ∃w15,w15=wr:=⟨_,rfl⟩;obtain⟨c0,c1,c2,c3,c4,c5,c6,c7⟩:=zaM HX6.out;go_wp2_with fail;clear c0 c1 c2 c3 c4 c5 c6 c7
             go_loopw [3,15] (fun v3 v15 wr=> ∃(k:Nat) (b:Bool),k≤x.causes.length∧v15= .int .i64 k∧v3= .bool b∧b=(((((((true&&x.modules.all zeQ)&&x.channels.all zed)&&x.switches.all swF)&&x.links.all zdc)&&x.vls.all vlF)&&x.health.all zbe)&&(x.causes.take k).all zch)∧Below w15.heap.size w15 wr) (fun _ v15 _=>x.causes.length-(intOf v15).toNat)
             case atStart=>exact⟨0,_,by omega,rfl,rfl,by rw[HV6.out,List.take_zero];simp,Below.refl _ _⟩
             case round=>
              obtain⟨k,b,hk,rfl,rfl,hS,hbr⟩:=hrel;have HQ:=zaa hS;have HR:=zaa hbr;have HBR:=zaa (btZ HB6.out hbr);have HXR:=zaa (bkZ hbr HX6.out);clear hS hbr;by_cases hlt:k<x.causes.length
              rotate_left
              ·obtain rfl:k=x.causes.length:=by omega
               rw[List.take_length] at HQ;clear hlt;have HX7:=HXR;have HB7:=HBR;have HV7:=HQ;clear HX6 HB6 HR HXR HBR HQ;obtain⟨w16,rfl⟩: ∃w16,w16=wr:=⟨_,rfl⟩;obtain⟨c0,c1,c2,c3,c4,c5,c6,c7⟩:=zaM HX7.out;go_wp2_with fail;clear c0 c1 c2 c3 c4 c5 c6 c7
               go_loopw [3,16] (fun v3 v16 wr=> ∃(k:Nat) (b:Bool),k≤x.versions.length∧v16= .int .i64 k∧v3= .bool b∧b=((((((((true&&x.modules.all zeQ)&&x.channels.all zed)&&x.switches.all swF)&&x.links.all zdc)&&x.vls.all vlF)&&x.health.all zbe)&&x.causes.all zch)&&(x.versions.take k).all zgN)∧Below w16.heap.size w16 wr) (fun _ v16 _=>x.versions.length-(intOf v16).toNat)
               case atStart=>exact⟨0,_,by omega,rfl,rfl,by rw[HV7.out,List.take_zero];simp,Below.refl _ _⟩
               case round=>
                obtain⟨k,b,hk,rfl,rfl,hS,hbr⟩:=hrel;have HQ:=zaa hS;have HR:=zaa hbr;have HBR:=zaa (btZ HB7.out hbr);have HXR:=zaa (bkZ hbr HX7.out);clear hS hbr;by_cases hlt:k<x.versions.length
                rotate_left
                ·obtain rfl:k=x.versions.length:=by omega
                 rw[List.take_length] at HQ;clear hlt;obtain⟨c0,c1,c2,c3,c4,c5,c6,c7⟩:=zaM HXR.out;go_wp2_with fail;go_ret;exact⟨by rw[HQ.out];simp[zev,Bool.and_assoc],HBR.out⟩
                obtain⟨y,hx⟩: ∃y,x.versions[k]? =some y:=⟨_,List.getElem?_eq_getElem hlt⟩;have HA:=HA7;obtain⟨bb,off,rfl,hbb,hca⟩:=HA.out.at_ hx;obtain⟨u0,d0,g0⟩:=hca 0 _ rfl;obtain⟨u1,d1,g1⟩:=hca 1 _ rfl;obtain⟨u2,d2,g2⟩:=hca 2 _ rfl;obtain⟨u3,d3,g3⟩:=hca 3 _ rfl;clear hca;obtain rfl:=g0.leaf_eq;obtain rfl:=g1.leaf_eq;obtain rfl:=g2.leaf_eq;obtain rfl:=g3.leaf_eq;have d0:=zad HBR.out hbb (off+k*4) d0;have d1:=zad HBR.out hbb (off+k*4+1) d1;have d2:=zad HBR.out hbb (off+k*4+2) d2;have d3:=zad HBR.out hbb (off+k*4+3) d3;simp only[zav] at d0 d2;have k0:=kbZ k x.versions.length;have HY:=zaa hx;have HSU:=zaa (zcJ (p:=zgN) hx);clear hx;obtain⟨c0,c1,c2,c3,c4,c5,c6,c7⟩:=zaM HXR.out;have HXM:=zaa (heap_alloc_new wr (.cells #[.string ⟨y.a.toArray⟩,.int .i64 y.va,.string ⟨y.b.toArray⟩,.int .i64 y.vb] 75));have HRm:=zaa (HR.out.alloc HR.out.size (.cells #[.string ⟨y.a.toArray⟩,.int .i64 y.va,.string ⟨y.b.toArray⟩,.int .i64 y.vb] 75));have HBRm:=zaa (HBR.out.alloc HBR.out.size (.cells #[.string ⟨y.a.toArray⟩,.int .i64 y.va,.string ⟨y.b.toArray⟩,.int .i64 y.vb] 75));go_upto_region 42 with fail
                clear c0 c1 c2 c3 c4 c5 c6 c7 d0 d1 d2 d3;generalize wr.alloc _=wm at *;clear HXR HR HBR;have HR:=HRm;have HBR:=HBRm;clear HRm HBRm
                cases b with
                |false=>
                 go_wp2_with fail;go_roundw
                 case rel=>exact⟨k+1,_,by omega,by go_num,rfl,by rw[HSU.out,←Bool.and_assoc,←HQ.out];first|done|simp,HR.out⟩
                 case measure=>simp[intOf];omega
                |true=>
                 have hp:zgN y=([y.a,y.b].all zaD&&[y.va,y.vb].all zbj):=by simp[zgN]
                 obtain⟨z0,hz0⟩: ∃z,[y.a,y.b].all zaD=z:=⟨_,rfl⟩;rw[hz0] at hp;have HZ0:=zaa hz0;clear hz0;obtain⟨z1,hz1⟩: ∃z,[y.va,y.vb].all zbj=z:=⟨_,rfl⟩;rw[hz1] at hp;have HZ1:=zaa hz1;clear hz1;have HPy:=zaa hp;clear hp;obtain⟨d0,d1,d2,d3⟩:=zcf HXM.out;go_wp2_with fail;clear d0 d1 d2 d3;have HC:=zaa (zaU (.slice (some ⟨wm.heap.size,0,none⟩) 2 2) [y.a,y.b] (wm.alloc (.cells #[.string ⟨y.a.toArray⟩,.string ⟨y.b.toArray⟩] 9)) (zaa (zba wm [y.a,y.b] 9)) (by simp));replace HXM:=zaa ((Below.heap_alloc wm (.cells #[.string ⟨y.a.toArray⟩,.string ⟨y.b.toArray⟩] 9) _ (zau HXM.out)).trans HXM.out);replace HR:=zaa (HR.out.alloc HR.out.size (.cells #[.string ⟨y.a.toArray⟩,.string ⟨y.b.toArray⟩] 9));replace HBR:=zaa (HBR.out.alloc HBR.out.size (.cells #[.string ⟨y.a.toArray⟩,.string ⟨y.b.toArray⟩] 9));rw[HZ0.out] at HC;generalize wm.alloc _=wn0 at *
                 cases z0 with
                 |false=>
                  refine HC.out.mono ?_;rintro e wq0 ⟨rfl,hb⟩;clear HC;replace HXM:=zaa (bkZ hb HXM.out);replace HR:=zaa (btZ HR.out hb);replace HBR:=zaa (btZ HBR.out hb);clear hb;go_wp2_with fail;go_roundw
                  case rel=>exact⟨k+1,_,by omega,by go_num,rfl,by rw[HSU.out,←Bool.and_assoc,←HQ.out,HPy.out];first|done|simp,HR.out⟩
                  case measure=>simp[intOf];omega
                 |true=>
                  refine HC.out.mono ?_;rintro e wq0 ⟨rfl,hb⟩;clear HC;replace HXM:=zaa (bkZ hb HXM.out);replace HR:=zaa (btZ HR.out hb);replace HBR:=zaa (btZ HBR.out hb);clear hb;obtain⟨d0,d1,d2,d3⟩:=zcf HXM.out;go_wp2_with fail;clear d0 d1 d2 d3;have HC:=zaa (zbB (.slice (some ⟨wq0.heap.size,0,none⟩) 2 2) [y.va,y.vb] (wq0.alloc (.cells #[.int .i64 y.va,.int .i64 y.vb] 3)) (zaa (za6 wq0 [y.va,y.vb] 3)) (by simp));replace HXM:=zaa ((Below.heap_alloc wq0 (.cells #[.int .i64 y.va,.int .i64 y.vb] 3) _ (zau HXM.out)).trans HXM.out);replace HR:=zaa (HR.out.alloc HR.out.size (.cells #[.int .i64 y.va,.int .i64 y.vb] 3));replace HBR:=zaa (HBR.out.alloc HBR.out.size (.cells #[.int .i64 y.va,.int .i64 y.vb] 3));rw[HZ1.out] at HC;generalize wq0.alloc _=wn1 at *
                  cases z1 with
                  |false=>
                   refine HC.out.mono ?_;rintro e wq1 ⟨rfl,hb⟩;clear HC;replace HXM:=zaa (bkZ hb HXM.out);replace HR:=zaa (btZ HR.out hb);replace HBR:=zaa (btZ HBR.out hb);clear hb;go_wp2_with fail;go_roundw
                   case rel=>exact⟨k+1,_,by omega,by go_num,rfl,by rw[HSU.out,←Bool.and_assoc,←HQ.out,HPy.out];first|done|simp,HR.out⟩
                   case measure=>simp[intOf];omega
                  |true=>
                   refine HC.out.mono ?_;rintro e wq1 ⟨rfl,hb⟩;clear HC;replace HXM:=zaa (bkZ hb HXM.out);replace HR:=zaa (btZ HR.out hb);replace HBR:=zaa (btZ HBR.out hb);clear hb;go_wp2_with fail;go_roundw
                   case rel=>exact⟨k+1,_,by omega,by go_num,rfl,by rw[HSU.out,←Bool.and_assoc,←HQ.out,HPy.out];first|done|simp,HR.out⟩
                   case measure=>simp[intOf];omega
              obtain⟨y,hx⟩: ∃y,x.causes[k]? =some y:=⟨_,List.getElem?_eq_getElem hlt⟩;have HA:=HA6;obtain⟨bb,off,rfl,hbb,hca⟩:=HA.out.at_ hx;obtain⟨u0,d0,g0⟩:=hca 0 _ rfl;obtain⟨u1,d1,g1⟩:=hca 1 _ rfl;obtain⟨u2,d2,g2⟩:=hca 2 _ rfl;clear hca;obtain rfl:=g0.leaf_eq;have HG1:=zaa g1;obtain⟨B1,r1,rfl, -⟩:=g1.slice;clear g1;rw[List.length_map] at HG1 d1;have HG2:=zaa g2;obtain⟨B2,r2,rfl, -⟩:=g2.slice;clear g2;rw[show(zao y.but).length=y.but.length by simp[zao]] at HG2 d2;have d0:=zad HBR.out hbb (off+k*3) d0;have d1:=zad HBR.out hbb (off+k*3+1) d1;have d2:=zad HBR.out hbb (off+k*3+2) d2;simp only[zav] at d0;have k0:=kbZ k x.causes.length;have HY:=zaa hx;have HSU:=zaa (zcJ (p:=zch) hx);clear hx
              cases b with
              |false=>
               obtain⟨c0,c1,c2,c3,c4,c5,c6,c7⟩:=zaM HXR.out;clear d0 d1 d2;go_wp2_with fail;go_roundw
               case rel=>exact⟨k+1,_,by omega,by go_num,rfl,by rw[HSU.out,←Bool.and_assoc,←HQ.out];first|done|simp,HR.out⟩
               case measure=>simp[intOf];omega
              |true=>
               obtain⟨c0,c1,c2,c3,c4,c5,c6,c7⟩:=zaM HXR.out;have HC:=zaa (ziL y B1 r1 B2 r2 wr (zaa (HG1.out.later HBR.out)) (zaa (HG2.out.later HBR.out)) (HO6.out y (List.mem_of_getElem? HY.out)));go_wp2_with fail;clear c0 c1 c2 c3 c4 c5 c6 c7 d0 d1 d2;refine HC.out.mono ?_;rintro e w2 ⟨rfl,hb2⟩;replace HR:=zaa (btZ HR.out hb2);clear hb2 HC;go_wp2_with fail;go_roundw
               case rel=>exact⟨k+1,_,by omega,by go_num,rfl,by rw[HSU.out,←Bool.and_assoc,←HQ.out];first|done|simp,HR.out⟩
               case measure=>simp[intOf];omega
            obtain⟨y,hx⟩: ∃y,x.health[k]? =some y:=⟨_,List.getElem?_eq_getElem hlt⟩;have HA:=HA5;obtain⟨bb,off,rfl,hbb,hca⟩:=HA.out.at_ hx;obtain⟨u0,d0,g0⟩:=hca 0 _ rfl;obtain⟨u1,d1,g1⟩:=hca 1 _ rfl;obtain⟨u2,d2,g2⟩:=hca 2 _ rfl;obtain⟨u3,d3,g3⟩:=hca 3 _ rfl;obtain⟨u4,d4,g4⟩:=hca 4 _ rfl;clear hca;obtain rfl:=g0.leaf_eq;obtain rfl:=g1.leaf_eq;obtain rfl:=g2.leaf_eq;obtain rfl:=g3.leaf_eq;obtain rfl:=g4.leaf_eq;have d0:=zad HBR.out hbb (off+k*5) d0;have d1:=zad HBR.out hbb (off+k*5+1) d1;have d2:=zad HBR.out hbb (off+k*5+2) d2;have d3:=zad HBR.out hbb (off+k*5+3) d3;have d4:=zad HBR.out hbb (off+k*5+4) d4;simp only[zav] at d0 d1;have k0:=kbZ k x.health.length;have HY:=zaa hx;have HSU:=zaa (zcJ (p:=zbe) hx);clear hx
            cases b with
            |false=>
             obtain⟨c0,c1,c2,c3,c4,c5,c6,c7⟩:=zaM HXR.out;clear d0 d1 d2 d3 d4;go_wp2_with fail;go_roundw
             case rel=>exact⟨k+1,_,by omega,by go_num,rfl,by rw[HSU.out,←Bool.and_assoc,←HQ.out];first|done|simp,HR.out⟩
             case measure=>simp[intOf];omega
            |true=>
             obtain⟨c0,c1,c2,c3,c4,c5,c6,c7⟩:=zaM HXR.out;have HC:=zaa (zg4 y wr (HO5.out y (List.mem_of_getElem? HY.out)));go_wp2_with fail;clear c0 c1 c2 c3 c4 c5 c6 c7 d0 d1 d2 d3 d4;refine HC.out.mono ?_;rintro e w2 ⟨rfl,hb2⟩;replace HR:=zaa (btZ HR.out hb2);clear hb2 HC;go_wp2_with fail;go_roundw
             case rel=>exact⟨k+1,_,by omega,by go_num,rfl,by rw[HSU.out,←Bool.and_assoc,←HQ.out];first|done|simp,HR.out⟩
             case measure=>simp[intOf];omega
          obtain⟨y,hx⟩: ∃y,x.vls[k]? =some y:=⟨_,List.getElem?_eq_getElem hlt⟩;have HA:=HA4;obtain⟨bb,off,rfl,hbb,hca⟩:=HA.out.at_ hx;obtain⟨u0,d0,g0⟩:=hca 0 _ rfl;obtain⟨u1,d1,g1⟩:=hca 1 _ rfl;obtain⟨u2,d2,g2⟩:=hca 2 _ rfl;obtain⟨u3,d3,g3⟩:=hca 3 _ rfl;obtain⟨u4,d4,g4⟩:=hca 4 _ rfl;obtain⟨u5,d5,g5⟩:=hca 5 _ rfl;obtain⟨u6,d6,g6⟩:=hca 6 _ rfl;clear hca;obtain rfl:=g0.leaf_eq;obtain rfl:=g1.leaf_eq;obtain rfl:=g2.leaf_eq;obtain rfl:=g3.leaf_eq;obtain rfl:=g4.leaf_eq;obtain rfl:=g5.leaf_eq;have HG6:=zaa g6;obtain⟨B6,r6,rfl, -⟩:=g6.slice;clear g6;rw[List.length_map] at HG6 d6;have d0:=zad HBR.out hbb (off+k*7) d0;have d1:=zad HBR.out hbb (off+k*7+1) d1;have d2:=zad HBR.out hbb (off+k*7+2) d2;have d3:=zad HBR.out hbb (off+k*7+3) d3;have d4:=zad HBR.out hbb (off+k*7+4) d4;have d5:=zad HBR.out hbb (off+k*7+5) d5;have d6:=zad HBR.out hbb (off+k*7+6) d6;simp only[zav] at d0 d1 d2 d3;have k0:=kbZ k x.vls.length;have HY:=zaa hx;have HSU:=zaa (zcJ (p:=vlF) hx);clear hx;obtain⟨c0,c1,c2,c3,c4,c5,c6,c7⟩:=zaM HXR.out;have HXM:=zaa (heap_alloc_new wr (.cells #[.string ⟨y.name.toArray⟩,.string ⟨y.from_.m.toArray⟩,.string ⟨y.from_.p.toArray⟩,.string ⟨y.from_.o.toArray⟩,.int .i64 y.bag,.int .i64 y.max,.slice B6 y.to.length r6] 61));have HRm:=zaa (HR.out.alloc HR.out.size (.cells #[.string ⟨y.name.toArray⟩,.string ⟨y.from_.m.toArray⟩,.string ⟨y.from_.p.toArray⟩,.string ⟨y.from_.o.toArray⟩,.int .i64 y.bag,.int .i64 y.max,.slice B6 y.to.length r6] 61));have HBRm:=zaa (HBR.out.alloc HBR.out.size (.cells #[.string ⟨y.name.toArray⟩,.string ⟨y.from_.m.toArray⟩,.string ⟨y.from_.p.toArray⟩,.string ⟨y.from_.o.toArray⟩,.int .i64 y.bag,.int .i64 y.max,.slice B6 y.to.length r6] 61));go_upto_region 29 with fail
          clear c0 c1 c2 c3 c4 c5 c6 c7 d0 d1 d2 d3 d4 d5 d6;generalize wr.alloc _=wm at *;clear HXR HR HBR;have HR:=HRm;have HBR:=HBRm;clear HRm HBRm
          cases b with
          |false=>
           go_wp2_with fail;go_roundw
           case rel=>exact⟨k+1,_,by omega,by go_num,rfl,by rw[HSU.out,←Bool.and_assoc,←HQ.out];first|done|simp,HR.out⟩
           case measure=>simp[intOf];omega
          |true=>
           have hp:vlF y=([y.name].all zaD&&((zfl y.from_ y.to)&&[y.bag,y.max].all zbj)):=by simp[vlF]
           obtain⟨z0,hz0⟩: ∃z,[y.name].all zaD=z:=⟨_,rfl⟩;rw[hz0] at hp;have HZ0:=zaa hz0;clear hz0;obtain⟨z1,hz1⟩: ∃z,(zfl y.from_ y.to)=z:=⟨_,rfl⟩;rw[hz1] at hp;have HZ1:=zaa hz1;clear hz1;obtain⟨z2,hz2⟩: ∃z,[y.bag,y.max].all zbj=z:=⟨_,rfl⟩;rw[hz2] at hp;have HZ2:=zaa hz2;clear hz2;have HPy:=zaa hp;clear hp;obtain⟨d0,d1,d2,d3,d4,d5,d6⟩:=zhX HXM.out;go_wp2_with fail;clear d0 d1 d2 d3 d4 d5 d6;have HC:=zaa (zaU (.slice (some ⟨wm.heap.size,0,none⟩) 1 1) [y.name] (wm.alloc (.cells #[.string ⟨y.name.toArray⟩] 9)) (zaa (zba wm [y.name] 9)) (by simp));replace HXM:=zaa ((Below.heap_alloc wm (.cells #[.string ⟨y.name.toArray⟩] 9) _ (zau HXM.out)).trans HXM.out);replace HR:=zaa (HR.out.alloc HR.out.size (.cells #[.string ⟨y.name.toArray⟩] 9));replace HBR:=zaa (HBR.out.alloc HBR.out.size (.cells #[.string ⟨y.name.toArray⟩] 9));rw[HZ0.out] at HC;generalize wm.alloc _=wn0 at *
           cases z0 with
           |false=>
            refine HC.out.mono ?_;rintro e wq0 ⟨rfl,hb⟩;clear HC;replace HXM:=zaa (bkZ hb HXM.out);replace HR:=zaa (btZ HR.out hb);replace HBR:=zaa (btZ HBR.out hb);clear hb;go_wp2_with fail;go_roundw
            case rel=>exact⟨k+1,_,by omega,by go_num,rfl,by rw[HSU.out,←Bool.and_assoc,←HQ.out,HPy.out];first|done|simp,HR.out⟩
            case measure=>simp[intOf];omega
           |true=>
            refine HC.out.mono ?_;rintro e wq0 ⟨rfl,hb⟩;clear HC;replace HXM:=zaa (bkZ hb HXM.out);replace HR:=zaa (btZ HR.out hb);replace HBR:=zaa (btZ HBR.out hb);clear hb;obtain⟨d0,d1,d2,d3,d4,d5,d6⟩:=zhX HXM.out;go_wp2_with fail;clear d0 d1 d2 d3 d4 d5 d6;have HC:=zaa (zgo y.from_ y.to B6 r6 wq0 (zaa (HG6.out.later HBR.out)) (HO4.out y (List.mem_of_getElem? HY.out)));rw[HZ1.out] at HC
            cases z1 with
            |false=>
             refine HC.out.mono ?_;rintro e wq1 ⟨rfl,hb⟩;clear HC;replace HXM:=zaa (bkZ hb HXM.out);replace HR:=zaa (btZ HR.out hb);replace HBR:=zaa (btZ HBR.out hb);clear hb;go_wp2_with fail;go_roundw
             case rel=>exact⟨k+1,_,by omega,by go_num,rfl,by rw[HSU.out,←Bool.and_assoc,←HQ.out,HPy.out];first|done|simp,HR.out⟩
             case measure=>simp[intOf];omega
            |true=>
             refine HC.out.mono ?_;rintro e wq1 ⟨rfl,hb⟩;clear HC;replace HXM:=zaa (bkZ hb HXM.out);replace HR:=zaa (btZ HR.out hb);replace HBR:=zaa (btZ HBR.out hb);clear hb;obtain⟨d0,d1,d2,d3,d4,d5,d6⟩:=zhX HXM.out;go_wp2_with fail;clear d0 d1 d2 d3 d4 d5 d6;have HC:=zaa (zbB (.slice (some ⟨wq1.heap.size,0,none⟩) 2 2) [y.bag,y.max] (wq1.alloc (.cells #[.int .i64 y.bag,.int .i64 y.max] 3)) (zaa (za6 wq1 [y.bag,y.max] 3)) (by simp));replace HXM:=zaa ((Below.heap_alloc wq1 (.cells #[.int .i64 y.bag,.int .i64 y.max] 3) _ (zau HXM.out)).trans HXM.out);replace HR:=zaa (HR.out.alloc HR.out.size (.cells #[.int .i64 y.bag,.int .i64 y.max] 3));replace HBR:=zaa (HBR.out.alloc HBR.out.size (.cells #[.int .i64 y.bag,.int .i64 y.max] 3));rw[HZ2.out] at HC;generalize wq1.alloc _=wn2 at *
             cases z2 with
             |false=>
              refine HC.out.mono ?_;rintro e wq2 ⟨rfl,hb⟩;clear HC;replace HXM:=zaa (bkZ hb HXM.out);replace HR:=zaa (btZ HR.out hb);replace HBR:=zaa (btZ HBR.out hb);clear hb;go_wp2_with fail;go_roundw
              case rel=>exact⟨k+1,_,by omega,by go_num,rfl,by rw[HSU.out,←Bool.and_assoc,←HQ.out,HPy.out];first|done|simp,HR.out⟩
              case measure=>simp[intOf];omega
             |true=>
              refine HC.out.mono ?_;rintro e wq2 ⟨rfl,hb⟩;clear HC;replace HXM:=zaa (bkZ hb HXM.out);replace HR:=zaa (btZ HR.out hb);replace HBR:=zaa (btZ HBR.out hb);clear hb;go_wp2_with fail;go_roundw
              case rel=>exact⟨k+1,_,by omega,by go_num,rfl,by rw[HSU.out,←Bool.and_assoc,←HQ.out,HPy.out];first|done|simp,HR.out⟩
              case measure=>simp[intOf];omega
        obtain⟨y,hx⟩: ∃y,x.links[k]? =some y:=⟨_,List.getElem?_eq_getElem hlt⟩;have HA:=HA3;obtain⟨bb,off,rfl,hbb,hca⟩:=HA.out.at_ hx;obtain⟨u0,d0,g0⟩:=hca 0 _ rfl;obtain⟨u1,d1,g1⟩:=hca 1 _ rfl;obtain⟨u2,d2,g2⟩:=hca 2 _ rfl;obtain⟨u3,d3,g3⟩:=hca 3 _ rfl;clear hca;obtain rfl:=g0.leaf_eq;obtain rfl:=g1.leaf_eq;obtain rfl:=g2.leaf_eq;obtain rfl:=g3.leaf_eq;have d0:=zad HBR.out hbb (off+k*4) d0;have d1:=zad HBR.out hbb (off+k*4+1) d1;have d2:=zad HBR.out hbb (off+k*4+2) d2;have d3:=zad HBR.out hbb (off+k*4+3) d3;simp only[zav] at d0 d1;have k0:=kbZ k x.links.length;have HY:=zaa hx;have HSU:=zaa (zcJ (p:=zdc) hx);clear hx;obtain⟨c0,c1,c2,c3,c4,c5,c6,c7⟩:=zaM HXR.out;have HXM:=zaa (heap_alloc_new wr (.cells #[.string ⟨y.a.toArray⟩,.string ⟨y.b.toArray⟩,.int .i64 y.net,.int .i64 y.slow] 71));have HRm:=zaa (HR.out.alloc HR.out.size (.cells #[.string ⟨y.a.toArray⟩,.string ⟨y.b.toArray⟩,.int .i64 y.net,.int .i64 y.slow] 71));have HBRm:=zaa (HBR.out.alloc HBR.out.size (.cells #[.string ⟨y.a.toArray⟩,.string ⟨y.b.toArray⟩,.int .i64 y.net,.int .i64 y.slow] 71));go_upto_region 24 with fail
        clear c0 c1 c2 c3 c4 c5 c6 c7 d0 d1 d2 d3;generalize wr.alloc _=wm at *;clear HXR HR HBR;have HR:=HRm;have HBR:=HBRm;clear HRm HBRm
        cases b with
        |false=>
         go_wp2_with fail;go_roundw
         case rel=>exact⟨k+1,_,by omega,by go_num,rfl,by rw[HSU.out,←Bool.and_assoc,←HQ.out];first|done|simp,HR.out⟩
         case measure=>simp[intOf];omega
        |true=>
         have hp:zdc y=([y.a,y.b].all zaD&&(((y.net/2==0))&&[y.slow].all zbj)):=by simp[zdc]
         obtain⟨z0,hz0⟩: ∃z,[y.a,y.b].all zaD=z:=⟨_,rfl⟩;rw[hz0] at hp;have HZ0:=zaa hz0;clear hz0;obtain⟨z1,hz1⟩: ∃z,((y.net/2==0))=z:=⟨_,rfl⟩;rw[hz1] at hp;have HZ1:=zaa hz1;clear hz1;obtain⟨z2,hz2⟩: ∃z,[y.slow].all zbj=z:=⟨_,rfl⟩;rw[hz2] at hp;have HZ2:=zaa hz2;clear hz2;have HPy:=zaa hp;clear hp;obtain⟨d0,d1,d2,d3⟩:=zcf HXM.out;go_wp2_with fail;clear d0 d1 d2 d3;have HC:=zaa (zaU (.slice (some ⟨wm.heap.size,0,none⟩) 2 2) [y.a,y.b] (wm.alloc (.cells #[.string ⟨y.a.toArray⟩,.string ⟨y.b.toArray⟩] 9)) (zaa (zba wm [y.a,y.b] 9)) (by simp));replace HXM:=zaa ((Below.heap_alloc wm (.cells #[.string ⟨y.a.toArray⟩,.string ⟨y.b.toArray⟩] 9) _ (zau HXM.out)).trans HXM.out);replace HR:=zaa (HR.out.alloc HR.out.size (.cells #[.string ⟨y.a.toArray⟩,.string ⟨y.b.toArray⟩] 9));replace HBR:=zaa (HBR.out.alloc HBR.out.size (.cells #[.string ⟨y.a.toArray⟩,.string ⟨y.b.toArray⟩] 9));rw[HZ0.out] at HC;generalize wm.alloc _=wn0 at *
         cases z0 with
         |false=>
          refine HC.out.mono ?_;rintro e wq0 ⟨rfl,hb⟩;clear HC;replace HXM:=zaa (bkZ hb HXM.out);replace HR:=zaa (btZ HR.out hb);replace HBR:=zaa (btZ HBR.out hb);clear hb;go_wp2_with fail;go_roundw
          case rel=>exact⟨k+1,_,by omega,by go_num,rfl,by rw[HSU.out,←Bool.and_assoc,←HQ.out,HPy.out];first|done|simp,HR.out⟩
          case measure=>simp[intOf];omega
         |true=>
          refine HC.out.mono ?_;rintro e wq0 ⟨rfl,hb⟩;clear HC;replace HXM:=zaa (bkZ hb HXM.out);replace HR:=zaa (btZ HR.out hb);replace HBR:=zaa (btZ HBR.out hb);clear hb;obtain⟨d0,d1,d2,d3⟩:=zcf HXM.out;go_wp2_with fail;clear d0 d1 d2 d3;have HC:=zaa (zhp y.net wq0);rw[HZ1.out] at HC
          cases z1 with
          |false=>
           refine HC.out.mono ?_;rintro e wq1 ⟨rfl,hb⟩;clear HC;replace HXM:=zaa (bkZ hb HXM.out);replace HR:=zaa (btZ HR.out hb);replace HBR:=zaa (btZ HBR.out hb);clear hb;go_wp2_with fail;go_roundw
           case rel=>exact⟨k+1,_,by omega,by go_num,rfl,by rw[HSU.out,←Bool.and_assoc,←HQ.out,HPy.out];first|done|simp,HR.out⟩
           case measure=>simp[intOf];omega
          |true=>
           refine HC.out.mono ?_;rintro e wq1 ⟨rfl,hb⟩;clear HC;replace HXM:=zaa (bkZ hb HXM.out);replace HR:=zaa (btZ HR.out hb);replace HBR:=zaa (btZ HBR.out hb);clear hb;obtain⟨d0,d1,d2,d3⟩:=zcf HXM.out;go_wp2_with fail;clear d0 d1 d2 d3;have HC:=zaa (zbB (.slice (some ⟨wq1.heap.size,0,none⟩) 1 1) [y.slow] (wq1.alloc (.cells #[.int .i64 y.slow] 3)) (zaa (za6 wq1 [y.slow] 3)) (by simp));replace HXM:=zaa ((Below.heap_alloc wq1 (.cells #[.int .i64 y.slow] 3) _ (zau HXM.out)).trans HXM.out);replace HR:=zaa (HR.out.alloc HR.out.size (.cells #[.int .i64 y.slow] 3));replace HBR:=zaa (HBR.out.alloc HBR.out.size (.cells #[.int .i64 y.slow] 3));rw[HZ2.out] at HC;generalize wq1.alloc _=wn2 at *
           cases z2 with
           |false=>
            refine HC.out.mono ?_;rintro e wq2 ⟨rfl,hb⟩;clear HC;replace HXM:=zaa (bkZ hb HXM.out);replace HR:=zaa (btZ HR.out hb);replace HBR:=zaa (btZ HBR.out hb);clear hb;go_wp2_with fail;go_roundw
            case rel=>exact⟨k+1,_,by omega,by go_num,rfl,by rw[HSU.out,←Bool.and_assoc,←HQ.out,HPy.out];first|done|simp,HR.out⟩
            case measure=>simp[intOf];omega
           |true=>
            refine HC.out.mono ?_;rintro e wq2 ⟨rfl,hb⟩;clear HC;replace HXM:=zaa (bkZ hb HXM.out);replace HR:=zaa (btZ HR.out hb);replace HBR:=zaa (btZ HBR.out hb);clear hb;go_wp2_with fail;go_roundw
            case rel=>exact⟨k+1,_,by omega,by go_num,rfl,by rw[HSU.out,←Bool.and_assoc,←HQ.out,HPy.out];first|done|simp,HR.out⟩
            case measure=>simp[intOf];omega
      obtain⟨y,hx⟩: ∃y,x.switches[k]? =some y:=⟨_,List.getElem?_eq_getElem hlt⟩;have HA:=HA2;obtain⟨bb,off,rfl,hbb,hca⟩:=HA.out.at_ hx;obtain⟨u0,d0,g0⟩:=hca 0 _ rfl;obtain⟨u1,d1,g1⟩:=hca 1 _ rfl;obtain⟨u2,d2,g2⟩:=hca 2 _ rfl;obtain⟨u3,d3,g3⟩:=hca 3 _ rfl;clear hca;obtain rfl:=g0.leaf_eq;obtain rfl:=g1.leaf_eq;obtain rfl:=g2.leaf_eq;obtain rfl:=g3.leaf_eq;have d0:=zad HBR.out hbb (off+k*4) d0;have d1:=zad HBR.out hbb (off+k*4+1) d1;have d2:=zad HBR.out hbb (off+k*4+2) d2;have d3:=zad HBR.out hbb (off+k*4+3) d3;simp only[zav] at d0;have k0:=kbZ k x.switches.length;have HY:=zaa hx;have HSU:=zaa (zcJ (p:=swF) hx);clear hx;obtain⟨c0,c1,c2,c3,c4,c5,c6,c7⟩:=zaM HXR.out;have HXM:=zaa (heap_alloc_new wr (.cells #[.string ⟨y.name.toArray⟩,.int .i64 y.net,.int .i64 y.delay,.int .i64 y.store] 69));have HRm:=zaa (HR.out.alloc HR.out.size (.cells #[.string ⟨y.name.toArray⟩,.int .i64 y.net,.int .i64 y.delay,.int .i64 y.store] 69));have HBRm:=zaa (HBR.out.alloc HBR.out.size (.cells #[.string ⟨y.name.toArray⟩,.int .i64 y.net,.int .i64 y.delay,.int .i64 y.store] 69));go_upto_region 19 with fail
      clear c0 c1 c2 c3 c4 c5 c6 c7 d0 d1 d2 d3;generalize wr.alloc _=wm at *;clear HXR HR HBR;have HR:=HRm;have HBR:=HBRm;clear HRm HBRm
      cases b with
      |false=>
       go_wp2_with fail;go_roundw
       case rel=>exact⟨k+1,_,by omega,by go_num,rfl,by rw[HSU.out,←Bool.and_assoc,←HQ.out];first|done|simp,HR.out⟩
       case measure=>simp[intOf];omega
      |true=>
       have hp:swF y=([y.name].all zaD&&(((y.net/2==0))&&[y.delay,y.store].all zbj)):=by simp[swF]
       obtain⟨z0,hz0⟩: ∃z,[y.name].all zaD=z:=⟨_,rfl⟩;rw[hz0] at hp;have HZ0:=zaa hz0;clear hz0;obtain⟨z1,hz1⟩: ∃z,((y.net/2==0))=z:=⟨_,rfl⟩;rw[hz1] at hp;have HZ1:=zaa hz1;clear hz1;obtain⟨z2,hz2⟩: ∃z,[y.delay,y.store].all zbj=z:=⟨_,rfl⟩;rw[hz2] at hp;have HZ2:=zaa hz2;clear hz2;have HPy:=zaa hp;clear hp;obtain⟨d0,d1,d2,d3⟩:=zcf HXM.out;go_wp2_with fail;clear d0 d1 d2 d3;have HC:=zaa (zaU (.slice (some ⟨wm.heap.size,0,none⟩) 1 1) [y.name] (wm.alloc (.cells #[.string ⟨y.name.toArray⟩] 9)) (zaa (zba wm [y.name] 9)) (by simp));replace HXM:=zaa ((Below.heap_alloc wm (.cells #[.string ⟨y.name.toArray⟩] 9) _ (zau HXM.out)).trans HXM.out);replace HR:=zaa (HR.out.alloc HR.out.size (.cells #[.string ⟨y.name.toArray⟩] 9));replace HBR:=zaa (HBR.out.alloc HBR.out.size (.cells #[.string ⟨y.name.toArray⟩] 9));rw[HZ0.out] at HC;generalize wm.alloc _=wn0 at *
       cases z0 with
       |false=>
        refine HC.out.mono ?_;rintro e wq0 ⟨rfl,hb⟩;clear HC;replace HXM:=zaa (bkZ hb HXM.out);replace HR:=zaa (btZ HR.out hb);replace HBR:=zaa (btZ HBR.out hb);clear hb;go_wp2_with fail;go_roundw
        case rel=>exact⟨k+1,_,by omega,by go_num,rfl,by rw[HSU.out,←Bool.and_assoc,←HQ.out,HPy.out];first|done|simp,HR.out⟩
        case measure=>simp[intOf];omega
       |true=>
        refine HC.out.mono ?_;rintro e wq0 ⟨rfl,hb⟩;clear HC;replace HXM:=zaa (bkZ hb HXM.out);replace HR:=zaa (btZ HR.out hb);replace HBR:=zaa (btZ HBR.out hb);clear hb;obtain⟨d0,d1,d2,d3⟩:=zcf HXM.out;go_wp2_with fail;clear d0 d1 d2 d3;have HC:=zaa (zhp y.net wq0);rw[HZ1.out] at HC
        cases z1 with
        |false=>
         refine HC.out.mono ?_;rintro e wq1 ⟨rfl,hb⟩;clear HC;replace HXM:=zaa (bkZ hb HXM.out);replace HR:=zaa (btZ HR.out hb);replace HBR:=zaa (btZ HBR.out hb);clear hb;go_wp2_with fail;go_roundw
         case rel=>exact⟨k+1,_,by omega,by go_num,rfl,by rw[HSU.out,←Bool.and_assoc,←HQ.out,HPy.out];first|done|simp,HR.out⟩
         case measure=>simp[intOf];omega
        |true=>
         refine HC.out.mono ?_;rintro e wq1 ⟨rfl,hb⟩;clear HC;replace HXM:=zaa (bkZ hb HXM.out);replace HR:=zaa (btZ HR.out hb);replace HBR:=zaa (btZ HBR.out hb);clear hb;obtain⟨d0,d1,d2,d3⟩:=zcf HXM.out;go_wp2_with fail;clear d0 d1 d2 d3;have HC:=zaa (zbB (.slice (some ⟨wq1.heap.size,0,none⟩) 2 2) [y.delay,y.store] (wq1.alloc (.cells #[.int .i64 y.delay,.int .i64 y.store] 3)) (zaa (za6 wq1 [y.delay,y.store] 3)) (by simp));replace HXM:=zaa ((Below.heap_alloc wq1 (.cells #[.int .i64 y.delay,.int .i64 y.store] 3) _ (zau HXM.out)).trans HXM.out);replace HR:=zaa (HR.out.alloc HR.out.size (.cells #[.int .i64 y.delay,.int .i64 y.store] 3));replace HBR:=zaa (HBR.out.alloc HBR.out.size (.cells #[.int .i64 y.delay,.int .i64 y.store] 3));rw[HZ2.out] at HC;generalize wq1.alloc _=wn2 at *
         cases z2 with
         |false=>
          refine HC.out.mono ?_;rintro e wq2 ⟨rfl,hb⟩;clear HC;replace HXM:=zaa (bkZ hb HXM.out);replace HR:=zaa (btZ HR.out hb);replace HBR:=zaa (btZ HBR.out hb);clear hb;go_wp2_with fail;go_roundw
          case rel=>exact⟨k+1,_,by omega,by go_num,rfl,by rw[HSU.out,←Bool.and_assoc,←HQ.out,HPy.out];first|done|simp,HR.out⟩
          case measure=>simp[intOf];omega
         |true=>
          refine HC.out.mono ?_;rintro e wq2 ⟨rfl,hb⟩;clear HC;replace HXM:=zaa (bkZ hb HXM.out);replace HR:=zaa (btZ HR.out hb);replace HBR:=zaa (btZ HBR.out hb);clear hb;go_wp2_with fail;go_roundw
          case rel=>exact⟨k+1,_,by omega,by go_num,rfl,by rw[HSU.out,←Bool.and_assoc,←HQ.out,HPy.out];first|done|simp,HR.out⟩
          case measure=>simp[intOf];omega
    obtain⟨y,hx⟩: ∃y,x.channels[k]? =some y:=⟨_,List.getElem?_eq_getElem hlt⟩;have HA:=HA1;obtain⟨bb,off,rfl,hbb,hca⟩:=HA.out.at_ hx;obtain⟨u0,d0,g0⟩:=hca 0 _ rfl;obtain⟨u1,d1,g1⟩:=hca 1 _ rfl;obtain⟨u2,d2,g2⟩:=hca 2 _ rfl;obtain⟨u3,d3,g3⟩:=hca 3 _ rfl;clear hca;obtain rfl:=g0.leaf_eq;obtain rfl:=g1.leaf_eq;obtain rfl:=g2.leaf_eq;have HG3:=zaa g3;obtain⟨B3,r3,rfl, -⟩:=g3.slice;clear g3;rw[List.length_map] at HG3 d3;have d0:=zad HBR.out hbb (off+k*4) d0;have d1:=zad HBR.out hbb (off+k*4+1) d1;have d2:=zad HBR.out hbb (off+k*4+2) d2;have d3:=zad HBR.out hbb (off+k*4+3) d3;simp only[zav] at d0 d1 d2;have k0:=kbZ k x.channels.length;have HY:=zaa hx;have HSU:=zaa (zcJ (p:=zed) hx);clear hx
    cases b with
    |false=>
     have hbw:bb<wr.heap.size:=Nat.lt_of_lt_of_le hbb HBR.out.size;have hzw:=zau HXR.out;obtain⟨c0,c1,c2,c3,c4,c5,c6,c7⟩:=zaM HXR.out;go_wp2_with fail;refine zac (W:=wr) (by kernel_rfl) (by kernel_rfl) ?_
     repeat(go_big_quiet_step (fail))
     refine wpQuiet_nil ?_;rintro _ ⟨s,rfl⟩;clear c0 c1 c2 c3 c4 c5 c6 c7 d0 d1 d2 d3;replace HR:=zaa (HR.out.trans (s.below.mono HR.out.size));go_wp2_with fail;go_roundw
     case rel=>exact⟨k+1,_,by omega,by go_num,rfl,by rw[HSU.out,←Bool.and_assoc,←HQ.out];first|done|simp,HR.out⟩
     case measure=>simp[intOf];omega
    |true=>
     have hbw:bb<wr.heap.size:=Nat.lt_of_lt_of_le hbb HBR.out.size;have hzw:=zau HXR.out;have HC:=zaa (fun s:zaj wr=>zgo y.from_ y.to B3 r3 s.w (zaa (HG3.out.later (HBR.out.trans (s.below.mono HBR.out.size)))) (HO1.out y (List.mem_of_getElem? HY.out)));obtain⟨c0,c1,c2,c3,c4,c5,c6,c7⟩:=zaM HXR.out;go_wp2_with fail;refine zac (W:=wr) (by kernel_rfl) (by kernel_rfl) ?_
     repeat(go_big_quiet_step ((go_at_call 105;exact zaj.call (HC.out _))))
     refine wpQuiet_nil ?_;rintro _ ⟨s,rfl⟩;clear c0 c1 c2 c3 c4 c5 c6 c7 d0 d1 d2 d3;replace HR:=zaa (HR.out.trans (s.below.mono HR.out.size));go_wp2_with fail;go_roundw
     case rel=>exact⟨k+1,_,by omega,by go_num,rfl,by rw[HSU.out,←Bool.and_assoc,←HQ.out];rfl,HR.out⟩
     case measure=>simp[intOf];omega
  obtain⟨y,hx⟩: ∃y,x.modules[k]? =some y:=⟨_,List.getElem?_eq_getElem hlt⟩;have HA:=HA0;obtain⟨bb,off,rfl,hbb,hca⟩:=HA.out.at_ hx;obtain⟨u0,d0,g0⟩:=hca 0 _ rfl;obtain⟨u1,d1,g1⟩:=hca 1 _ rfl;obtain⟨u2,d2,g2⟩:=hca 2 _ rfl;obtain⟨u3,d3,g3⟩:=hca 3 _ rfl;clear hca;obtain rfl:=g0.leaf_eq;obtain rfl:=g1.leaf_eq;obtain rfl:=g2.leaf_eq;have HG3:=zaa g3;obtain⟨B3,r3,rfl, -⟩:=g3.slice;clear g3;rw[List.length_map] at HG3 d3;have d0:=zad HBR.out hbb (off+k*4) d0;have d1:=zad HBR.out hbb (off+k*4+1) d1;have d2:=zad HBR.out hbb (off+k*4+2) d2;have d3:=zad HBR.out hbb (off+k*4+3) d3;simp only[zav] at d0;have k0:=kbZ k x.modules.length;have HY:=zaa hx;have HSU:=zaa (zcJ (p:=zeQ) hx);clear hx;obtain⟨c0,c1,c2,c3,c4,c5,c6,c7⟩:=zaM HXR.out;have HXM:=zaa (heap_alloc_new wr (.cells #[.string ⟨y.name.toArray⟩,.int .i64 y.mem,.int .i64 y.frame,.slice B3 y.parts.length r3] 44));have HRm:=zaa (HR.out.alloc HR.out.size (.cells #[.string ⟨y.name.toArray⟩,.int .i64 y.mem,.int .i64 y.frame,.slice B3 y.parts.length r3] 44));have HBRm:=zaa (HBR.out.alloc HBR.out.size (.cells #[.string ⟨y.name.toArray⟩,.int .i64 y.mem,.int .i64 y.frame,.slice B3 y.parts.length r3] 44));go_upto_region 6 with fail
  clear c0 c1 c2 c3 c4 c5 c6 c7 d0 d1 d2 d3;generalize wr.alloc _=wm at *;clear HXR HR HBR;have HR:=HRm;have HBR:=HBRm;clear HRm HBRm;have hp:zeQ y=(([y.name].all zaD&&[y.mem,y.frame].all zbj)&&y.parts.all zc0):=by simp[zeQ,Bool.and_assoc]
  obtain⟨z0,hz0⟩: ∃z,[y.name].all zaD=z:=⟨_,rfl⟩;rw[hz0] at hp;have HZ0:=zaa hz0;clear hz0;obtain⟨z1,hz1⟩: ∃z,[y.mem,y.frame].all zbj=z:=⟨_,rfl⟩;rw[hz1] at hp;have HZ1:=zaa hz1;clear hz1;have HPy:=zaa hp;clear hp
  go_cut [3] (fun v3 wx=> ∃b1:Bool,v3= .bool b1∧Hid (b1=(b&&(z0&&z1)))∧Hid (Below wm.heap.size wm wx))
  case first=>
   as_aux_lemma=>
    have HM:=zaa (Below.refl wm.heap.size wm);clear HQ HPy HSU
    cases b with
    |false=>
     go_wp2_with fail;go_meet;exact⟨_,rfl,zaa (by simp),HM⟩
    |true=>
     obtain⟨d0,d1,d2,d3⟩:=zcf HXM.out;go_wp2_with fail;clear d0 d1 d2 d3;have HC:=zaa (zaU (.slice (some ⟨wm.heap.size,0,none⟩) 1 1) [y.name] (wm.alloc (.cells #[.string ⟨y.name.toArray⟩] 9)) (zaa (zba wm [y.name] 9)) (by simp));replace HXM:=zaa ((Below.heap_alloc wm (.cells #[.string ⟨y.name.toArray⟩] 9) _ (zau HXM.out)).trans HXM.out);replace HM:=zaa (HM.out.alloc HM.out.size (.cells #[.string ⟨y.name.toArray⟩] 9));rw[HZ0.out] at HC;generalize wm.alloc _=wn0 at *
     cases z0 with
     |false=>
      refine HC.out.mono ?_;rintro e wq0 ⟨rfl,hb⟩;clear HC;replace HXM:=zaa (bkZ hb HXM.out);replace HM:=zaa (btZ HM.out hb);clear hb;go_wp2_with fail;go_meet;exact⟨_,rfl,zaa (by simp),HM⟩
     |true=>
      refine HC.out.mono ?_;rintro e wq0 ⟨rfl,hb⟩;clear HC;replace HXM:=zaa (bkZ hb HXM.out);replace HM:=zaa (btZ HM.out hb);clear hb;obtain⟨d0,d1,d2,d3⟩:=zcf HXM.out;go_wp2_with fail;clear d0 d1 d2 d3;have HC:=zaa (zbB (.slice (some ⟨wq0.heap.size,0,none⟩) 2 2) [y.mem,y.frame] (wq0.alloc (.cells #[.int .i64 y.mem,.int .i64 y.frame] 3)) (zaa (za6 wq0 [y.mem,y.frame] 3)) (by simp));replace HXM:=zaa ((Below.heap_alloc wq0 (.cells #[.int .i64 y.mem,.int .i64 y.frame] 3) _ (zau HXM.out)).trans HXM.out);replace HM:=zaa (HM.out.alloc HM.out.size (.cells #[.int .i64 y.mem,.int .i64 y.frame] 3));rw[HZ1.out] at HC;generalize wq0.alloc _=wn1 at *
      cases z1 with
      |false=>
       refine HC.out.mono ?_;rintro e wq1 ⟨rfl,hb⟩;clear HC;replace HXM:=zaa (bkZ hb HXM.out);replace HM:=zaa (btZ HM.out hb);clear hb;go_wp2_with fail;go_meet;exact⟨_,rfl,zaa (by simp),HM⟩
      |true=>
       refine HC.out.mono ?_;rintro e wq1 ⟨rfl,hb⟩;clear HC;replace HXM:=zaa (bkZ hb HXM.out);replace HM:=zaa (btZ HM.out hb);clear hb;go_wp2_with fail;go_meet;exact⟨_,rfl,zaa (by simp),HM⟩
  case rest=>
   obtain⟨b1,rfl,HB1_,HM⟩:=hcut;replace HXM:=zaa (bkZ HM.out HXM.out);replace HR:=zaa (HR.out.trans (HM.out.mono HR.out.size));replace HBR:=zaa (HBR.out.trans (HM.out.mono HBR.out.size));clear HM HZ0 HZ1;obtain⟨w5,rfl⟩: ∃w5,w5=wc:=⟨_,rfl⟩;obtain⟨d0,d1,d2,d3⟩:=zcf HXM.out;go_wp2_with fail;clear d0 d1 d2 d3;have hA:=HG3.out;obtain⟨A_,q_,e_,hA⟩:=hA.slice;injection e_ with e1 e2 e3
   subst e1 e3;clear e2;have HAp:=zaa hA;clear hA;have mp:=(HO0.out y (List.mem_of_getElem? HY.out)).1;have HOp:=zaa (HO0.out y (List.mem_of_getElem? HY.out)).2
   go_loopw [3,6] (fun v3 v6 wr=> ∃(i:Nat) (c:Bool),i≤y.parts.length∧v6= .int .i64 i∧v3= .bool c∧c=(b1&&(y.parts.take i).all zc0)∧Below w5.heap.size w5 wr) (fun _ v6 _=>y.parts.length-(intOf v6).toNat)
   case atStart=>exact⟨0,_,by omega,rfl,rfl,by simp,Below.refl _ _⟩
   case round=>
    obtain⟨i,c,hi,rfl,rfl,hS,hbr⟩:=hrel;have HQ2:=zaa hS;have HR2:=zaa (btZ HR.out hbr);have HBR2:=zaa (btZ HBR.out hbr);have HXM2:=zaa (bkZ hbr HXM.out);have HI:=zaa hbr;clear hS hbr;obtain⟨d0,d1,d2,d3⟩:=zcf HXM2.out;by_cases hlt2:i<y.parts.length
    rotate_left
    ·obtain rfl:i=y.parts.length:=by omega
     rw[List.take_length] at HQ2;clear hlt2;go_wp2_with fail;go_roundw
     case rel=>exact⟨k+1,_,by omega,by go_num,rfl,by rw[HSU.out,←Bool.and_assoc,←HQ.out,HPy.out,HQ2.out,HB1_.out,Bool.and_assoc,Bool.and_assoc],HR2.out⟩
     case measure=>simp[intOf];omega
    obtain⟨t,hx2⟩: ∃t,y.parts[i]? =some t:=⟨_,List.getElem?_eq_getElem hlt2⟩;obtain⟨b2,of2,rfl,hb2,hca⟩:=HAp.out.at_ hx2;obtain⟨u0,e0,g0⟩:=hca 0 _ rfl;obtain⟨u1,e1,g1⟩:=hca 1 _ rfl;obtain⟨u2,e2,g2⟩:=hca 2 _ rfl;obtain⟨u3,e3,g3⟩:=hca 3 _ rfl;obtain⟨u4,e4,g4⟩:=hca 4 _ rfl;obtain⟨u5,e5,g5⟩:=hca 5 _ rfl;obtain⟨u6,e6,g6⟩:=hca 6 _ rfl;obtain⟨u7,e7,g7⟩:=hca 7 _ rfl;obtain⟨u8,e8,g8⟩:=hca 8 _ rfl;obtain⟨u9,e9,g9⟩:=hca 9 _ rfl;clear hca;obtain rfl:=g0.leaf_eq;obtain rfl:=g1.leaf_eq;obtain rfl:=g2.leaf_eq;obtain rfl:=g3.leaf_eq;have HH4:=zaa g4;obtain⟨E4,f4,rfl, -⟩:=g4.slice;clear g4;rw[show(zah t.semas).length=t.semas.length by simp[zah]] at HH4 e4;obtain rfl:=g5.leaf_eq;obtain rfl:=g6.leaf_eq;have HH7:=zaa g7;obtain⟨E7,f7,rfl, -⟩:=g7.slice;clear g7;rw[show(zah t.bufs).length=t.bufs.length by simp[zah]] at HH7 e7;have HH8:=zaa g8;obtain⟨E8,f8,rfl, -⟩:=g8.slice;clear g8;rw[List.length_map] at HH8 e8;have HH9:=zaa g9;obtain⟨E9,f9,rfl, -⟩:=g9.slice;clear g9;rw[List.length_map] at HH9 e9;have e0:=zad HBR2.out hb2 (of2+i*10) e0;have e1:=zad HBR2.out hb2 (of2+i*10+1) e1;have e2:=zad HBR2.out hb2 (of2+i*10+2) e2;have e3:=zad HBR2.out hb2 (of2+i*10+3) e3;have e4:=zad HBR2.out hb2 (of2+i*10+4) e4;have e5:=zad HBR2.out hb2 (of2+i*10+5) e5;have e6:=zad HBR2.out hb2 (of2+i*10+6) e6;have e7:=zad HBR2.out hb2 (of2+i*10+7) e7;have e8:=zad HBR2.out hb2 (of2+i*10+8) e8;have e9:=zad HBR2.out hb2 (of2+i*10+9) e9;simp only[zav] at e0;have k1:=kbZ i y.parts.length;have HT:=zaa hx2;have HSU2:=zaa (zcJ (p:=zc0) hx2);clear hx2
    cases c with
    |false=>
     go_wp2_with fail;clear d0 d1 d2 d3 e0 e1 e2 e3 e4 e5 e6 e7 e8 e9;go_roundw
     case rel=>exact⟨i+1,_,by omega,by go_num,rfl,by rw[HSU2.out,←Bool.and_assoc,←HQ2.out];first|done|simp,HI.out⟩
     case measure=>simp[intOf];omega
    |true=>
     have HC:=zaa (zkq t E4 f4 E7 f7 E8 f8 E9 f9 wr (zaa (HH4.out.later HBR2.out)) (zaa (HH7.out.later HBR2.out)) (zaa (HH8.out.later HBR2.out)) (zaa (HH9.out.later HBR2.out)) (HOp.out t (List.mem_of_getElem? HT.out)));go_wp2_with fail;clear d0 d1 d2 d3 e0 e1 e2 e3 e4 e5 e6 e7 e8 e9;refine HC.out.mono ?_;rintro e w2 ⟨rfl,hb3⟩;replace HI:=zaa (btZ HI.out hb3);clear hb3 HC;go_wp2_with fail;go_roundw
     case rel=>exact⟨i+1,_,by omega,by go_num,rfl,by rw[HSU2.out,←Bool.and_assoc,←HQ2.out];rfl,HI.out⟩
     case measure=>simp[intOf];omega
end Go.Proofs.YtgbfaompondolaaGreatDoor
