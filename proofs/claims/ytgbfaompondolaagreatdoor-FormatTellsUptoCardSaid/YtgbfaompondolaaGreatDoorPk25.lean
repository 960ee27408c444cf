/- Merged texts of the walks and of the plain laws on which the statement leans.-/
import Derived.Test.YtgbfaompondolaaGreatDoorPk1
import Derived.Test.YtgbfaompondolaaGreatDoorPk22
import Derived.Test.YtgbfaompondolaaGreatDoorPk24
set_option maxHeartbeats 4000000
set_option maxRecDepth 100000
namespace Go.Proofs.YtgbfaompondolaaGreatDoor
open Go.Proofs.Tryz
open Go.RowKit
attribute [local go_sem] zaj.cell
theorem zj8 (x:zaT) (W:World):
 Calls prog 185 #[.agg #[.string ⟨x.name.toArray⟩,.int .u8 (x.kind:Int),.bool x.out,.int .i64 x.size,.int .i64 x.depth,.int .i64 x.refresh]] W fun e w'=>e= .returned (.bool (zc5 x))∧Below W.heap.size W w':=by
 have e1:((x.kind:Int)==1)=(x.kind==1):=by rw[Bool.eq_iff_iff];simp;omega
 have e2:((x.kind:Int)==2)=(x.kind==2):=by rw[Bool.eq_iff_iff];simp;omega
 have hp:zc5 x=(([x.name].all zaD&&[x.size,x.depth,x.refresh].all zbj)&&((x.kind==1&&x.depth==0)||(x.kind==2&&x.refresh==0))):=by simp[zc5,zd4,Bool.and_comm]
 obtain⟨k1,h1⟩: ∃k,(x.kind==1)=k:=⟨_,rfl⟩;obtain⟨k2,h2⟩: ∃k,(x.depth==0)=k:=⟨_,rfl⟩;obtain⟨k3,h3⟩: ∃k,(x.kind==2)=k:=⟨_,rfl⟩;obtain⟨k4,h4⟩: ∃k,(x.refresh==0)=k:=⟨_,rfl⟩;rw[h1,h2,h3,h4] at hp;rw[h1] at e1;rw[h3] at e2;have HE:=zaa (And.intro e1 (And.intro h2 (And.intro e2 h4)));clear h1 h2 h3 h4 e1 e2;obtain⟨z0,hz0⟩: ∃z,[x.name].all zaD=z:=⟨_,rfl⟩;rw[hz0] at hp;have HZ0:=zaa hz0;clear hz0;obtain⟨z1,hz1⟩: ∃z,[x.size,x.depth,x.refresh].all zbj=z:=⟨_,rfl⟩;rw[hz1] at hp;have HZ1:=zaa hz1;clear hz1;have HP:=zaa hp;clear hp;have HX:=zaa (heap_alloc_new W (.cells #[.string ⟨x.name.toArray⟩,.int .u8 (x.kind:Int),.bool x.out,.int .i64 x.size,.int .i64 x.depth,.int .i64 x.refresh] 51));have HB:=zaa ((Below.refl W.heap.size W).alloc (Nat.le_refl _) (.cells #[.string ⟨x.name.toArray⟩,.int .u8 (x.kind:Int),.bool x.out,.int .i64 x.size,.int .i64 x.depth,.int .i64 x.refresh] 51));have hz:W.heap.size<(W.alloc (.cells #[.string ⟨x.name.toArray⟩,.int .u8 (x.kind:Int),.bool x.out,.int .i64 x.size,.int .i64 x.depth,.int .i64 x.refresh] 51)).heap.size:=by simp
 clear hz
 go_enter func185,ntmps185
 go_upto_region 1 with fail
 generalize W.alloc _=w0 at *;obtain⟨c0,c1,c2,c3,c4,c5⟩:=ze2 HX.out;go_wp2_with fail;clear c0 c1 c2 c3 c4 c5;have HC:=zaa (zaU (.slice (some ⟨w0.heap.size,0,none⟩) 1 1) [x.name] (w0.alloc (.cells #[.string ⟨x.name.toArray⟩] 9)) (zaa (zba w0 [x.name] 9)) (by simp));replace HX:=zaa ((Below.heap_alloc w0 (.cells #[.string ⟨x.name.toArray⟩] 9) _ (zau HX.out)).trans HX.out);replace HB:=zaa (HB.out.alloc HB.out.size (.cells #[.string ⟨x.name.toArray⟩] 9));rw[HZ0.out] at HC;generalize w0.alloc _=wn0 at *
 cases z0 with
 |false=>
  refine HC.out.mono ?_;rintro e wq0 ⟨rfl,hb⟩;clear HC;replace HX:=zaa (bkZ hb HX.out);replace HB:=zaa (btZ HB.out hb);clear hb;go_wp2_with fail;go_ret;exact⟨by rw[HP.out];simp,HB.out⟩
 |true=>
  refine HC.out.mono ?_;rintro e wq0 ⟨rfl,hb⟩;clear HC;replace HX:=zaa (bkZ hb HX.out);replace HB:=zaa (btZ HB.out hb);clear hb;obtain⟨c0,c1,c2,c3,c4,c5⟩:=ze2 HX.out;go_wp2_with fail;clear c0 c1 c2 c3 c4 c5;have HC:=zaa (zbB (.slice (some ⟨wq0.heap.size,0,none⟩) 3 3) [x.size,x.depth,x.refresh] (wq0.alloc (.cells #[.int .i64 x.size,.int .i64 x.depth,.int .i64 x.refresh] 3)) (zaa (za6 wq0 [x.size,x.depth,x.refresh] 3)) (by simp));replace HX:=zaa ((Below.heap_alloc wq0 (.cells #[.int .i64 x.size,.int .i64 x.depth,.int .i64 x.refresh] 3) _ (zau HX.out)).trans HX.out);replace HB:=zaa (HB.out.alloc HB.out.size (.cells #[.int .i64 x.size,.int .i64 x.depth,.int .i64 x.refresh] 3));rw[HZ1.out] at HC;generalize wq0.alloc _=wn1 at *
  cases z1 with
  |false=>
   refine HC.out.mono ?_;rintro e wq1 ⟨rfl,hb⟩;clear HC;replace HX:=zaa (bkZ hb HX.out);replace HB:=zaa (btZ HB.out hb);clear hb;go_wp2_with fail;go_ret;exact⟨by rw[HP.out];simp,HB.out⟩
  |true=>
   refine HC.out.mono ?_;rintro e wq1 ⟨rfl,hb⟩;clear HC;replace HX:=zaa (bkZ hb HX.out);replace HB:=zaa (btZ HB.out hb);clear hb;obtain⟨e1,e2,e3,e4⟩:=HE.out;clear HE;obtain⟨c0,c1,c2,c3,c4,c5⟩:=ze2 HX.out
   cases k1<;>cases k2<;>cases k3<;>cases k4<;>(go_wp2_with fail;go_ret;exact⟨by rw[HP.out];simp,HB.out⟩)
theorem zjB (x:za0) (A4:Option Addr) (q4:Nat) (W:World) (h4:Hid (DAt W (fun _=>True) (.slice A4 x.code.length q4) (.row 4 (x.code.map zb3.cells)))) (hl:zcb x):
 Calls prog 186 #[.agg #[.string ⟨x.name.toArray⟩,.int .i64 x.prio,.int .i64 x.period,.int .i64 x.limit,.slice A4 x.code.length q4]] W fun e w'=>e= .returned (.bool (zdE x))∧Below W.heap.size W w':=by
 have hp:zdE x=(x.code.all zeg&&([x.name].all zaD&&[x.prio,x.period,x.limit].all zbj)):=by simp[zdE,Bool.and_comm,Bool.and_left_comm]
 obtain⟨z0,hz0⟩: ∃z,[x.name].all zaD=z:=⟨_,rfl⟩;rw[hz0] at hp;have HZ0:=zaa hz0;clear hz0;obtain⟨z1,hz1⟩: ∃z,[x.prio,x.period,x.limit].all zbj=z:=⟨_,rfl⟩;rw[hz1] at hp;have HZ1:=zaa hz1;clear hz1;have HP:=zaa hp;clear hp;have HO:=zaa hl.2;have hln:=hl.1;clear hl;have hA:=h4.out;obtain⟨A_,q_,e_,hA⟩:=hA.slice;injection e_ with e1 e2 e3
 subst e1 e3;clear e2;have HA4:=zaa hA;clear hA;have HX:=zaa (heap_alloc_new W (.cells #[.string ⟨x.name.toArray⟩,.int .i64 x.prio,.int .i64 x.period,.int .i64 x.limit,.slice A4 x.code.length q4] 53));have HB:=zaa ((Below.refl W.heap.size W).alloc (Nat.le_refl _) (.cells #[.string ⟨x.name.toArray⟩,.int .i64 x.prio,.int .i64 x.period,.int .i64 x.limit,.slice A4 x.code.length q4] 53));have hz:W.heap.size<(W.alloc (.cells #[.string ⟨x.name.toArray⟩,.int .i64 x.prio,.int .i64 x.period,.int .i64 x.limit,.slice A4 x.code.length q4] 53)).heap.size:=by simp
 clear hz
 go_enter func186,ntmps186
 go_wp2_with fail;generalize W.alloc _=w0 at *
 go_loopw [3] (fun v3 wr=> ∃k:Nat,k≤x.code.length∧v3= .int .i64 k∧(x.code.take k).all zeg=true∧Below w0.heap.size w0 wr) (fun v3 _=>x.code.length-(intOf v3).toNat)
 case atStart=>exact⟨0,by omega,rfl,by simp,Below.refl _ _⟩
 case round=>
  obtain⟨k,hk,rfl,ht,hbr⟩:=hrel;have HT:=zaa ht;have HR:=zaa hbr;have HBR:=zaa (btZ HB.out hbr);have HXR:=zaa (bkZ hbr HX.out);clear ht hbr;by_cases hlt:k<x.code.length
  rotate_left
  ·obtain rfl:k=x.code.length:=by omega
   rw[List.take_length] at HT;clear hlt;rw[HT.out] at HP;replace HX:=HXR;replace HB:=HBR;clear HXR HBR HR HT;obtain⟨c0,c1,c2,c3,c4⟩:=zbw HX.out;go_wp2_with fail;clear c0 c1 c2 c3 c4;have HC:=zaa (zaU (.slice (some ⟨wr.heap.size,0,none⟩) 1 1) [x.name] (wr.alloc (.cells #[.string ⟨x.name.toArray⟩] 9)) (zaa (zba wr [x.name] 9)) (by simp));replace HX:=zaa ((Below.heap_alloc wr (.cells #[.string ⟨x.name.toArray⟩] 9) _ (zau HX.out)).trans HX.out);replace HB:=zaa (HB.out.alloc HB.out.size (.cells #[.string ⟨x.name.toArray⟩] 9));rw[HZ0.out] at HC;generalize wr.alloc _=wn0 at *
   cases z0 with
   |false=>
    refine HC.out.mono ?_;rintro e wq0 ⟨rfl,hb⟩;clear HC;replace HX:=zaa (bkZ hb HX.out);replace HB:=zaa (btZ HB.out hb);clear hb;go_wp2_with fail;go_ret;exact⟨by rw[HP.out];simp,HB.out⟩
   |true=>
    refine HC.out.mono ?_;rintro e wq0 ⟨rfl,hb⟩;clear HC;replace HX:=zaa (bkZ hb HX.out);replace HB:=zaa (btZ HB.out hb);clear hb;obtain⟨c0,c1,c2,c3,c4⟩:=zbw HX.out;go_wp2_with fail;clear c0 c1 c2 c3 c4;have HC:=zaa (zbB (.slice (some ⟨wq0.heap.size,0,none⟩) 3 3) [x.prio,x.period,x.limit] (wq0.alloc (.cells #[.int .i64 x.prio,.int .i64 x.period,.int .i64 x.limit] 3)) (zaa (za6 wq0 [x.prio,x.period,x.limit] 3)) (by simp));replace HX:=zaa ((Below.heap_alloc wq0 (.cells #[.int .i64 x.prio,.int .i64 x.period,.int .i64 x.limit] 3) _ (zau HX.out)).trans HX.out);replace HB:=zaa (HB.out.alloc HB.out.size (.cells #[.int .i64 x.prio,.int .i64 x.period,.int .i64 x.limit] 3));rw[HZ1.out] at HC;generalize wq0.alloc _=wn1 at *
    cases z1 with
    |false=>
     refine HC.out.mono ?_;rintro e wq1 ⟨rfl,hb⟩;clear HC;replace HX:=zaa (bkZ hb HX.out);replace HB:=zaa (btZ HB.out hb);clear hb;go_wp2_with fail;go_ret;exact⟨by rw[HP.out];simp,HB.out⟩
    |true=>
     refine HC.out.mono ?_;rintro e wq1 ⟨rfl,hb⟩;clear HC;replace HX:=zaa (bkZ hb HX.out);replace HB:=zaa (btZ HB.out hb);clear hb;go_wp2_with fail;go_ret;exact⟨by rw[HP.out];simp,HB.out⟩
  obtain⟨y,hx⟩: ∃y,x.code[k]? =some y:=⟨_,List.getElem?_eq_getElem hlt⟩;have HA:=HA4;obtain⟨b,off,rfl,hb,hca⟩:=HA.out.at_ hx;obtain⟨u0,d0,g0⟩:=hca 0 _ rfl;obtain⟨u1,d1,g1⟩:=hca 1 _ rfl;obtain⟨u2,d2,g2⟩:=hca 2 _ rfl;obtain⟨u3,d3,g3⟩:=hca 3 _ rfl;clear hca;obtain rfl:=g0.leaf_eq;obtain rfl:=g1.leaf_eq;obtain rfl:=g2.leaf_eq;obtain rfl:=g3.leaf_eq;have d0:=zad HBR.out hb (off+k*4) d0;have d1:=zad HBR.out hb (off+k*4+1) d1;have d2:=zad HBR.out hb (off+k*4+2) d2;have d3:=zad HBR.out hb (off+k*4+3) d3;have k0:=kbZ k x.code.length;have HY:=zaa hx;clear hx;have HC:=zaa (fun(V:World) (hV:Below W.heap.size W V)=>zhB y (HO.out y (List.mem_of_getElem? HY.out)) V);obtain⟨c0,c1,c2,c3,c4⟩:=zbw HXR.out;go_wp2_with fail;clear c0 c1 c2 c3 c4 d0 d1 d2 d3
  cases hw:zeg y with
  |false=>
   have HNO:=zaa (zaH HY.out hw);rw[hw] at HC;clear hw;refine(HC.out _ HBR.out).mono ?_;rintro e w2 ⟨rfl,hb2⟩;have HR2:=zaa (btZ HR.out hb2);have HB2:=zaa (btZ HBR.out hb2);clear hb2 HC;go_wp2_with fail;go_ret;exact⟨by rw[HP.out,HNO.out];simp,HB2.out⟩
  |true=>
   have HTK:=zaa (zaK HT.out HY.out hw);rw[hw] at HC;clear hw;refine(HC.out _ HBR.out).mono ?_;rintro e w2 ⟨rfl,hb2⟩;have HR2:=zaa (btZ HR.out hb2);have HB2:=zaa (btZ HBR.out hb2);clear hb2 HC;go_wp2_with fail;go_roundw
   case rel=>exact⟨k+1,by omega,by go_num,HTK.out,HR2.out⟩
   case measure=>simp[intOf];omega
theorem zkq (x:zaQ) (A4:Option Addr) (q4:Nat) (A7:Option Addr) (q7:Nat) (A8:Option Addr) (q8:Nat) (A9:Option Addr) (q9:Nat) (W:World) (h4:Hid (DAt W (fun _=>True) (.slice A4 x.semas.length q4) (.row 1 (zah x.semas)))) (h7:Hid (DAt W (fun _=>True) (.slice A7 x.bufs.length q7) (.row 1 (zah x.bufs)))) (h8:Hid (DAt W (fun _=>True) (.slice A8 x.ports.length q8) (.row 6 (x.ports.map zaT.cells)))) (h9:Hid (DAt W (fun _=>True) (.slice A9 x.procs.length q9) (.row 5 (x.procs.map za0.cells)))) (hl:zb0 x):
 Calls prog 104 #[.agg #[.string ⟨x.name.toArray⟩,.int .i64 x.period,.int .i64 x.length,.int .i64 x.mem,.slice A4 x.semas.length q4,.int .i64 x.events,.int .i64 x.boards,.slice A7 x.bufs.length q7,.slice A8 x.ports.length q8,.slice A9 x.procs.length q9]] W fun e w'=>e= .returned (.bool (zc0 x))∧Below W.heap.size W w':=by
 have hp:zc0 x=(x.ports.all zc5&&(x.procs.all zdE&&([x.name].all zaD&&([x.period,x.length,x.mem,x.events,x.boards].all zbj&&(x.semas.all zbj&&x.bufs.all zbj))))):=by simp only[zc0,List.all_cons,List.all_nil,Bool.and_true];ac_rfl
 obtain⟨z0,hz0⟩: ∃z,[x.name].all zaD=z:=⟨_,rfl⟩;rw[hz0] at hp;have HZ0:=zaa hz0;clear hz0;obtain⟨z1,hz1⟩: ∃z,[x.period,x.length,x.mem,x.events,x.boards].all zbj=z:=⟨_,rfl⟩;rw[hz1] at hp;have HZ1:=zaa hz1;clear hz1;obtain⟨z2,hz2⟩: ∃z,x.semas.all zbj=z:=⟨_,rfl⟩;rw[hz2] at hp;have HZ2:=zaa hz2;clear hz2;obtain⟨z3,hz3⟩: ∃z,x.bufs.all zbj=z:=⟨_,rfl⟩;rw[hz3] at hp;have HZ3:=zaa hz3;clear hz3;have HP:=zaa hp;clear hp;have HO:=zaa hl;have m0:=hl.1;have m1:=hl.2.1;have m2:=hl.2.2.1;have m3:=hl.2.2.2.1;clear hl;have hA:=h8.out;obtain⟨A_,q_,e_,hA⟩:=hA.slice;injection e_ with e1 e2 e3
 subst e1 e3;clear e2;have HA8:=zaa hA;clear hA;have hA:=h9.out;obtain⟨A_,q_,e_,hA⟩:=hA.slice;injection e_ with e1 e2 e3
 subst e1 e3;clear e2;have HA9:=zaa hA;clear hA;have HX:=zaa (heap_alloc_new W (.cells #[.string ⟨x.name.toArray⟩,.int .i64 x.period,.int .i64 x.length,.int .i64 x.mem,.slice A4 x.semas.length q4,.int .i64 x.events,.int .i64 x.boards,.slice A7 x.bufs.length q7,.slice A8 x.ports.length q8,.slice A9 x.procs.length q9] 49));have HB:=zaa ((Below.refl W.heap.size W).alloc (Nat.le_refl _) (.cells #[.string ⟨x.name.toArray⟩,.int .i64 x.period,.int .i64 x.length,.int .i64 x.mem,.slice A4 x.semas.length q4,.int .i64 x.events,.int .i64 x.boards,.slice A7 x.bufs.length q7,.slice A8 x.ports.length q8,.slice A9 x.procs.length q9] 49));have hz:W.heap.size<(W.alloc (.cells #[.string ⟨x.name.toArray⟩,.int .i64 x.period,.int .i64 x.length,.int .i64 x.mem,.slice A4 x.semas.length q4,.int .i64 x.events,.int .i64 x.boards,.slice A7 x.bufs.length q7,.slice A8 x.ports.length q8,.slice A9 x.procs.length q9] 49)).heap.size:=by simp
 clear hz
 go_enter func104,ntmps104
 go_wp2_with fail;generalize W.alloc _=w0 at *
 go_loopw [3] (fun v3 wr=> ∃k:Nat,k≤x.ports.length∧v3= .int .i64 k∧(x.ports.take k).all zc5=true∧Below w0.heap.size w0 wr) (fun v3 _=>x.ports.length-(intOf v3).toNat)
 case atStart=>exact⟨0,by omega,rfl,by simp,Below.refl _ _⟩
 case round=>
  obtain⟨k,hk,rfl,ht,hbr⟩:=hrel;have HT:=zaa ht;have HR:=zaa hbr;have HBR:=zaa (btZ HB.out hbr);have HXR:=zaa (bkZ hbr HX.out);clear ht hbr;by_cases hlt:k<x.ports.length
  rotate_left
  ·obtain rfl:k=x.ports.length:=by omega
   rw[List.take_length] at HT;clear hlt;rw[HT.out] at HP;have HX2:=HXR;have HB2:=HBR;clear HX HB HXR HBR HR HT;obtain⟨w3,rfl⟩: ∃w3,w3=wr:=⟨_,rfl⟩;obtain⟨c0,c1,c2,c3,c4,c5,c6,c7,c8,c9⟩:=zbU HX2.out;go_wp2_with fail;clear c0 c1 c2 c3 c4 c5 c6 c7 c8 c9
   go_loopw [4] (fun v4 wr=> ∃k:Nat,k≤x.procs.length∧v4= .int .i64 k∧(x.procs.take k).all zdE=true∧Below w3.heap.size w3 wr) (fun v4 _=>x.procs.length-(intOf v4).toNat)
   case atStart=>exact⟨0,by omega,rfl,by simp,Below.refl _ _⟩
   case round=>
    obtain⟨k,hk,rfl,ht,hbr⟩:=hrel;have HT:=zaa ht;have HR:=zaa hbr;have HBR:=zaa (btZ HB2.out hbr);have HXR:=zaa (bkZ hbr HX2.out);clear ht hbr;by_cases hlt:k<x.procs.length
    rotate_left
    ·obtain rfl:k=x.procs.length:=by omega
     rw[List.take_length] at HT;clear hlt;have HX:=0;have HB:=0;rw[HT.out] at HP;replace HX:=HXR;replace HB:=HBR;clear HXR HBR HR HT HX2 HB2;obtain⟨c0,c1,c2,c3,c4,c5,c6,c7,c8,c9⟩:=zbU HX.out;go_wp2_with fail;clear c0 c1 c2 c3 c4 c5 c6 c7 c8 c9;have HC:=zaa (zaU (.slice (some ⟨wr.heap.size,0,none⟩) 1 1) [x.name] (wr.alloc (.cells #[.string ⟨x.name.toArray⟩] 9)) (zaa (zba wr [x.name] 9)) (by simp));replace HX:=zaa ((Below.heap_alloc wr (.cells #[.string ⟨x.name.toArray⟩] 9) _ (zau HX.out)).trans HX.out);replace HB:=zaa (HB.out.alloc HB.out.size (.cells #[.string ⟨x.name.toArray⟩] 9));rw[HZ0.out] at HC;generalize wr.alloc _=wn0 at *
     cases z0 with
     |false=>
      refine HC.out.mono ?_;rintro e wq0 ⟨rfl,hb⟩;clear HC;replace HX:=zaa (bkZ hb HX.out);replace HB:=zaa (btZ HB.out hb);clear hb;go_wp2_with fail;go_ret;exact⟨by rw[HP.out];simp,HB.out⟩
     |true=>
      refine HC.out.mono ?_;rintro e wq0 ⟨rfl,hb⟩;clear HC;replace HX:=zaa (bkZ hb HX.out);replace HB:=zaa (btZ HB.out hb);clear hb;obtain⟨c0,c1,c2,c3,c4,c5,c6,c7,c8,c9⟩:=zbU HX.out;go_wp2_with fail;clear c0 c1 c2 c3 c4 c5 c6 c7 c8 c9;have HC:=zaa (zbB (.slice (some ⟨wq0.heap.size,0,none⟩) 5 5) [x.period,x.length,x.mem,x.events,x.boards] (wq0.alloc (.cells #[.int .i64 x.period,.int .i64 x.length,.int .i64 x.mem,.int .i64 x.events,.int .i64 x.boards] 3)) (zaa (za6 wq0 [x.period,x.length,x.mem,x.events,x.boards] 3)) (by simp));replace HX:=zaa ((Below.heap_alloc wq0 (.cells #[.int .i64 x.period,.int .i64 x.length,.int .i64 x.mem,.int .i64 x.events,.int .i64 x.boards] 3) _ (zau HX.out)).trans HX.out);replace HB:=zaa (HB.out.alloc HB.out.size (.cells #[.int .i64 x.period,.int .i64 x.length,.int .i64 x.mem,.int .i64 x.events,.int .i64 x.boards] 3));rw[HZ1.out] at HC;generalize wq0.alloc _=wn1 at *
      cases z1 with
      |false=>
       refine HC.out.mono ?_;rintro e wq1 ⟨rfl,hb⟩;clear HC;replace HX:=zaa (bkZ hb HX.out);replace HB:=zaa (btZ HB.out hb);clear hb;go_wp2_with fail;go_ret;exact⟨by rw[HP.out];simp,HB.out⟩
      |true=>
       refine HC.out.mono ?_;rintro e wq1 ⟨rfl,hb⟩;clear HC;replace HX:=zaa (bkZ hb HX.out);replace HB:=zaa (btZ HB.out hb);clear hb;obtain⟨c0,c1,c2,c3,c4,c5,c6,c7,c8,c9⟩:=zbU HX.out;go_wp2_with fail;clear c0 c1 c2 c3 c4 c5 c6 c7 c8 c9;have HC:=zaa (zbB _ x.semas wq1 (zaa (h4.out.later HB.out)) m0);rw[HZ2.out] at HC
       cases z2 with
       |false=>
        refine HC.out.mono ?_;rintro e wq2 ⟨rfl,hb⟩;clear HC;replace HX:=zaa (bkZ hb HX.out);replace HB:=zaa (btZ HB.out hb);clear hb;go_wp2_with fail;go_ret;exact⟨by rw[HP.out];simp,HB.out⟩
       |true=>
        refine HC.out.mono ?_;rintro e wq2 ⟨rfl,hb⟩;clear HC;replace HX:=zaa (bkZ hb HX.out);replace HB:=zaa (btZ HB.out hb);clear hb;obtain⟨c0,c1,c2,c3,c4,c5,c6,c7,c8,c9⟩:=zbU HX.out;go_wp2_with fail;clear c0 c1 c2 c3 c4 c5 c6 c7 c8 c9;have HC:=zaa (zbB _ x.bufs wq2 (zaa (h7.out.later HB.out)) m1);rw[HZ3.out] at HC
        cases z3 with
        |false=>
         refine HC.out.mono ?_;rintro e wq3 ⟨rfl,hb⟩;clear HC;replace HX:=zaa (bkZ hb HX.out);replace HB:=zaa (btZ HB.out hb);clear hb;go_wp2_with fail;go_ret;exact⟨by rw[HP.out];simp,HB.out⟩
        |true=>
         refine HC.out.mono ?_;rintro e wq3 ⟨rfl,hb⟩;clear HC;replace HX:=zaa (bkZ hb HX.out);replace HB:=zaa (btZ HB.out hb);clear hb;go_wp2_with fail;go_ret;exact⟨by rw[HP.out];simp,HB.out⟩
    obtain⟨y,hx⟩: ∃y,x.procs[k]? =some y:=⟨_,List.getElem?_eq_getElem hlt⟩;have HA:=HA9;obtain⟨b,off,rfl,hb,hca⟩:=HA.out.at_ hx;obtain⟨u0,d0,g0⟩:=hca 0 _ rfl;obtain⟨u1,d1,g1⟩:=hca 1 _ rfl;obtain⟨u2,d2,g2⟩:=hca 2 _ rfl;obtain⟨u3,d3,g3⟩:=hca 3 _ rfl;obtain⟨u4,d4,g4⟩:=hca 4 _ rfl;clear hca;obtain rfl:=g0.leaf_eq;obtain rfl:=g1.leaf_eq;obtain rfl:=g2.leaf_eq;obtain rfl:=g3.leaf_eq;have HG4:=zaa g4;obtain⟨B4,r4,rfl, -⟩:=g4.slice;clear g4;rw[List.length_map] at HG4 d4;have d0:=zad HBR.out hb (off+k*5) d0;have d1:=zad HBR.out hb (off+k*5+1) d1;have d2:=zad HBR.out hb (off+k*5+2) d2;have d3:=zad HBR.out hb (off+k*5+3) d3;have d4:=zad HBR.out hb (off+k*5+4) d4;simp only[zav] at d0;have k0:=kbZ k x.procs.length;have HY:=zaa hx;clear hx;have HC:=zaa (fun(V:World) (hV:Below W.heap.size W V)=>zjB y B4 r4 V (zaa (HG4.out.later hV)) (HO.out.2.2.2.2 y (List.mem_of_getElem? HY.out)));obtain⟨c0,c1,c2,c3,c4,c5,c6,c7,c8,c9⟩:=zbU HXR.out;go_wp2_with fail;clear c0 c1 c2 c3 c4 c5 c6 c7 c8 c9 d0 d1 d2 d3 d4
    cases hw:zdE y with
    |false=>
     have HNO:=zaa (zaH HY.out hw);rw[hw] at HC;clear hw;refine(HC.out _ HBR.out).mono ?_;rintro e w2 ⟨rfl,hb2⟩;have HR2:=zaa (btZ HR.out hb2);have HB2:=zaa (btZ HBR.out hb2);clear hb2 HC;go_wp2_with fail;go_ret;exact⟨by rw[HP.out,HNO.out];simp,HB2.out⟩
    |true=>
     have HTK:=zaa (zaK HT.out HY.out hw);rw[hw] at HC;clear hw;refine(HC.out _ HBR.out).mono ?_;rintro e w2 ⟨rfl,hb2⟩;have HR2:=zaa (btZ HR.out hb2);have HB2:=zaa (btZ HBR.out hb2);clear hb2 HC;go_wp2_with fail;go_roundw
     case rel=>exact⟨k+1,by omega,by go_num,HTK.out,HR2.out⟩
     case measure=>simp[intOf];omega
  obtain⟨y,hx⟩: ∃y,x.ports[k]? =some y:=⟨_,List.getElem?_eq_getElem hlt⟩;have HA:=HA8;obtain⟨b,off,rfl,hb,hca⟩:=HA.out.at_ hx;obtain⟨u0,d0,g0⟩:=hca 0 _ rfl;obtain⟨u1,d1,g1⟩:=hca 1 _ rfl;obtain⟨u2,d2,g2⟩:=hca 2 _ rfl;obtain⟨u3,d3,g3⟩:=hca 3 _ rfl;obtain⟨u4,d4,g4⟩:=hca 4 _ rfl;obtain⟨u5,d5,g5⟩:=hca 5 _ rfl;clear hca;obtain rfl:=g0.leaf_eq;obtain rfl:=g1.leaf_eq;obtain rfl:=g2.leaf_eq;obtain rfl:=g3.leaf_eq;obtain rfl:=g4.leaf_eq;obtain rfl:=g5.leaf_eq;have d0:=zad HBR.out hb (off+k*6) d0;have d1:=zad HBR.out hb (off+k*6+1) d1;have d2:=zad HBR.out hb (off+k*6+2) d2;have d3:=zad HBR.out hb (off+k*6+3) d3;have d4:=zad HBR.out hb (off+k*6+4) d4;have d5:=zad HBR.out hb (off+k*6+5) d5;simp only[zav] at d0;have k0:=kbZ k x.ports.length;have HY:=zaa hx;clear hx;have HC:=zaa (fun(V:World) (hV:Below W.heap.size W V)=>zj8 y V);obtain⟨c0,c1,c2,c3,c4,c5,c6,c7,c8,c9⟩:=zbU HXR.out;go_wp2_with fail;clear c0 c1 c2 c3 c4 c5 c6 c7 c8 c9 d0 d1 d2 d3 d4 d5
  cases hw:zc5 y with
  |false=>
   have HNO:=zaa (zaH HY.out hw);rw[hw] at HC;clear hw;refine(HC.out _ HBR.out).mono ?_;rintro e w2 ⟨rfl,hb2⟩;have HR2:=zaa (btZ HR.out hb2);have HB2:=zaa (btZ HBR.out hb2);clear hb2 HC;go_wp2_with fail;go_ret;exact⟨by rw[HP.out,HNO.out];simp,HB2.out⟩
  |true=>
   have HTK:=zaa (zaK HT.out HY.out hw);rw[hw] at HC;clear hw;refine(HC.out _ HBR.out).mono ?_;rintro e w2 ⟨rfl,hb2⟩;have HR2:=zaa (btZ HR.out hb2);have HB2:=zaa (btZ HBR.out hb2);clear hb2 HC;go_wp2_with fail;go_roundw
   case rel=>exact⟨k+1,by omega,by go_num,HTK.out,HR2.out⟩
   case measure=>simp[intOf];omega
end Go.Proofs.YtgbfaompondolaaGreatDoor
