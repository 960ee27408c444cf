/- Merged texts of the walks and of the plain laws on which the statement leans.-/
import Derived.Test.YtgbfaompondolaaGreatDoorPk28
import Derived.Test.YtgbfaompondolaaGreatDoorPk11
import Derived.Test.YtgbfaompondolaaGreatDoorPk1
import Derived.Deep.Light
set_option maxHeartbeats 8000000
set_option maxRecDepth 100000
namespace Go.Proofs.YtgbfaompondolaaGreatDoor
open Tryz
open Go.RowKit
attribute [local go_sem] zaj.cell
theorem zeG {α:Type} (f:α→Nat) (l:List α) (h: ∀x,1≤f x):l.length≤(l.map f).sum:=by
 induction l with
 |nil=>simp
 |cons a l ih=>
  have:=h a;simp only[List.length_cons,List.map_cons,List.sum_cons]
  omega
theorem zb2 (s:List UInt8): ∃b:ByteArray,zav s= .string b∧b.size≤s.length∧s.length≤b.size:=⟨⟨s.toArray⟩,rfl,Nat.le_of_eq (zc4 s),Nat.le_of_eq (zc4 s).symm⟩
theorem znJ {B:Nat} {a w:World} (h:Below B a w) (n:Nat):Below B a (w.drewN n):=h.trans ⟨rfl,rfl,rfl,Nat.le_refl _,fun _ _=>rfl⟩
theorem zlj (x:zcS) (us:List Value) (W:World) (hd:Hid (zab W (fun _=>True) us x.cells)) (hn:zgP x+zh9 x≤1000000000):
 Calls prog 8 #[.agg us.toArray] W fun e w'=>e= .returned (.int .i64 ((zgP x+zh9 x/8:Nat):Int))∧Below W.heap.size W w':=by
 have hd:=hd.out;obtain⟨u0,u1,u2,u3,u4,u5,u6,u7,rfl,h0,h1,h2,h3,h4,h5,h6,h7⟩:=dc8 hd;clear hd;have HU0:=zaa h0;obtain⟨A0,p0,rfl, -⟩:=h0.slice;clear h0;rw[List.length_map] at HU0 ⊢;have HU1:=zaa h1;obtain⟨A1,p1,rfl, -⟩:=h1.slice;clear h1;rw[List.length_map] at HU1 ⊢;have HU2:=zaa h2;obtain⟨A2,p2,rfl, -⟩:=h2.slice;clear h2;rw[List.length_map] at HU2 ⊢;have HU3:=zaa h3;obtain⟨A3,p3,rfl, -⟩:=h3.slice;clear h3;rw[List.length_map] at HU3 ⊢;have HU4:=zaa h4;obtain⟨A4,p4,rfl, -⟩:=h4.slice;clear h4;rw[List.length_map] at HU4 ⊢;have HU5:=zaa h5;obtain⟨A5,p5,rfl, -⟩:=h5.slice;clear h5;rw[List.length_map] at HU5 ⊢;have HU6:=zaa h6;obtain⟨A6,p6,rfl, -⟩:=h6.slice;clear h6;rw[List.length_map] at HU6 ⊢;have HU7:=zaa h7;obtain⟨A7,p7,rfl, -⟩:=h7.slice;clear h7;rw[List.length_map] at HU7 ⊢;have hnn:zgP x=x.links.length*3+x.switches.length*2+x.versions.length*3+x.health.length*3+(x.modules.map zfh).sum+(x.channels.map zc6).sum+(x.vls.map vlN).sum+(x.causes.map zbW).sum:=rfl;have hcc:zh9 x=(x.modules.map zgZ).sum+(x.channels.map zd7).sum+(x.vls.map vlC).sum+(x.causes.map zcU).sum+(x.switches.map fun y=>y.name.length).sum+(x.links.map zec).sum+(x.health.map zb1).sum+(x.versions.map zg1).sum:=rfl;rw[hnn,hcc] at hn;rw[hnn,hcc];clear hnn hcc;have l0:=zeG zfh x.modules (fun y=>by unfold zfh;omega);have l1:=zeG zc6 x.channels (fun y=>by unfold zc6;omega);have l4:=zeG vlN x.vls (fun y=>by unfold vlN;omega);have l6:=zeG zbW x.causes (fun y=>by unfold zbW;omega);have HN:=zaa hn;have HL:Hid (x.modules.length≤1000000000∧x.channels.length≤1000000000∧x.switches.length≤1000000000∧x.links.length≤1000000000∧x.vls.length≤1000000000∧x.health.length≤1000000000∧x.causes.length≤1000000000∧x.versions.length≤1000000000):=zaa (by omega);have hL:=HL.out;clear l0 l1 l4 l6 hn;have HX:=zaa (heap_alloc_new W (.cells #[.slice A0 x.modules.length p0,.slice A1 x.channels.length p1,.slice A2 x.switches.length p2,.slice A3 x.links.length p3,.slice A4 x.vls.length p4,.slice A5 x.health.length p5,.slice A6 x.causes.length p6,.slice A7 x.versions.length p7] 31));have HBA:=zaa ((Below.refl W.heap.size W).alloc (Nat.le_refl _) (.cells #[.slice A0 x.modules.length p0,.slice A1 x.channels.length p1,.slice A2 x.switches.length p2,.slice A3 x.links.length p3,.slice A4 x.vls.length p4,.slice A5 x.health.length p5,.slice A6 x.causes.length p6,.slice A7 x.versions.length p7] 31));have hz:W.heap.size<(W.alloc (.cells #[.slice A0 x.modules.length p0,.slice A1 x.channels.length p1,.slice A2 x.switches.length p2,.slice A3 x.links.length p3,.slice A4 x.vls.length p4,.slice A5 x.health.length p5,.slice A6 x.causes.length p6,.slice A7 x.versions.length p7] 31)).heap.size:=by simp
 go_enter func8,ntmps8
 go_wp2_with fail;generalize W.alloc _=w0 at *;have HU0:=zaa (HU0.out.later HBA.out);obtain⟨B0,q0,heq,hr⟩:=HU0.out.slice;injection heq with e1 e2 e3
 subst e1 e3;clear e2;have HR0:=zaa hr;clear hr HU0;have HU1:=zaa (HU1.out.later HBA.out);obtain⟨B1,q1,heq,hr⟩:=HU1.out.slice;injection heq with e1 e2 e3
 subst e1 e3;clear e2;have HR1:=zaa hr;clear hr HU1;have HU2:=zaa (HU2.out.later HBA.out);obtain⟨B2,q2,heq,hr⟩:=HU2.out.slice;injection heq with e1 e2 e3
 subst e1 e3;clear e2;have HR2:=zaa hr;clear hr HU2;have HU3:=zaa (HU3.out.later HBA.out);obtain⟨B3,q3,heq,hr⟩:=HU3.out.slice;injection heq with e1 e2 e3
 subst e1 e3;clear e2;have HR3:=zaa hr;clear hr HU3;have HU4:=zaa (HU4.out.later HBA.out);obtain⟨B4,q4,heq,hr⟩:=HU4.out.slice;injection heq with e1 e2 e3
 subst e1 e3;clear e2;have HR4:=zaa hr;clear hr HU4;have HU5:=zaa (HU5.out.later HBA.out);obtain⟨B5,q5,heq,hr⟩:=HU5.out.slice;injection heq with e1 e2 e3
 subst e1 e3;clear e2;have HR5:=zaa hr;clear hr HU5;have HU6:=zaa (HU6.out.later HBA.out);obtain⟨B6,q6,heq,hr⟩:=HU6.out.slice;injection heq with e1 e2 e3
 subst e1 e3;clear e2;have HR6:=zaa hr;clear hr HU6;have HU7:=zaa (HU7.out.later HBA.out);obtain⟨B7,q7,heq,hr⟩:=HU7.out.slice;injection heq with e1 e2 e3
 subst e1 e3;clear e2;have HR7:=zaa hr;clear hr HU7;have HBz:=zaa (Below.refl w0.heap.size w0)
 go_loopw [3,4,5] (fun vn vc vi wr=> ∃k n c:Nat,k≤x.modules.length∧vi= .int .i64 k∧vn= .int .i64 n∧n=x.links.length*3+x.switches.length*2+x.versions.length*3+x.health.length*3+((x.modules.take k).map zfh).sum∧vc= .int .i64 c∧c=0+((x.modules.take k).map zgZ).sum∧Below w0.heap.size w0 wr) (fun _ _ vi _=>x.modules.length-(intOf vi).toNat)
 case atStart=>exact⟨0,_,0,Nat.zero_le _,rfl,by go_num,by simp,by go_num,by simp,HBz.out⟩
 case round=>
  obtain⟨ka,na,ca,hka,rfl,rfl,hen,rfl,hec,hbr⟩:=hrel;have HENa:=zaa hen;clear hen;have HECa:=zaa hec;clear hec;have HBa:=zaa hbr;clear hbr HBz;obtain⟨wa,hwz⟩: ∃a,a=wr:=⟨_,rfl⟩;subst hwz;have c0:=zad HBa.out hz 0 (cell_of_row _ _ 0 _ _ _ HX.out);by_cases hlt:ka<x.modules.length
  ·as_aux_lemma=>
    obtain⟨y,hy⟩: ∃e_,x.modules[ka]? =some e_:=⟨_,List.getElem?_eq_getElem hlt⟩;obtain⟨bky,ofy,rfl,hbky,hca⟩:=HR0.out.at_ hy;obtain⟨uy0,y0,g0⟩:=hca 0 _ rfl;obtain⟨uy1,y1,g1⟩:=hca 1 _ rfl;obtain⟨uy2,y2,g2⟩:=hca 2 _ rfl;obtain⟨uy3,y3,g3⟩:=hca 3 _ rfl;have y0:=zeF HBa.out hbky y0;obtain rfl:=g0.leaf_eq;obtain⟨sy0,es,ey0a,ey0b⟩:=zb2 y.name;rw[es] at y0;clear es;have y1:=zaI HBa.out hbky y1;obtain rfl:=g1.leaf_eq;have y2:=zaI HBa.out hbky y2;obtain rfl:=g2.leaf_eq;have y3:=zaI HBa.out hbky y3;have HDy3:=zaa g3;obtain⟨Ay3,py3,rfl,hr⟩:=g3.slice;have HRy3:=zaa hr;clear hr g3;rw[List.length_map] at y3 HDy3;clear hca;have hN:=HN.out;have hE0:=HENa.out;have hE1:=HECa.out;have q_0:((x.modules.take ka).map zfh).sum+(1+(y.parts.map zcM).sum)≤(x.modules.map zfh).sum:=za5 (zfh) hy;have q_1:((x.modules.take ka).map zgZ).sum+(y.name.length+(y.parts.map zdI).sum)≤(x.modules.map zgZ).sum:=za5 (zgZ) hy;have hb1:na+1+(y.parts.map zcM).sum≤1000000000:=by omega
    have hb2:ca+y.name.length+(y.parts.map zdI).sum≤1000000000:=by omega
    have Sa0:=zaa (show((x.modules.take (ka+1)).map zfh).sum=((x.modules.take ka).map zfh).sum+(1+(y.parts.map zcM).sum) from za2 (zfh) hy);have Sa1:=zaa (show((x.modules.take (ka+1)).map zgZ).sum=((x.modules.take ka).map zgZ).sum+(y.name.length+(y.parts.map zdI).sum) from za2 (zgZ) hy);clear hN hE0 hE1 q_0 q_1;have q3:=zeG zcM y.parts (fun z=>by unfold zcM;omega);clear hy;have k0ka:=kbZ ka x.modules.length;have HXM:=zaa (heap_alloc_new wa (.cells #[.string sy0,.int .i64 y.mem,.int .i64 y.frame,.slice Ay3 y.parts.length py3] 44));have HBm:=zaa ((Below.refl wa.heap.size wa).alloc (Nat.le_refl _) (.cells #[.string sy0,.int .i64 y.mem,.int .i64 y.frame,.slice Ay3 y.parts.length py3] 44));have hzm:wa.heap.size<(wa.alloc (.cells #[.string sy0,.int .i64 y.mem,.int .i64 y.frame,.slice Ay3 y.parts.length py3] 44)).heap.size:=by simp
    go_wp2_with fail;clear c0 y0 y1 y2 y3;generalize wa.alloc _=wm at *;have M0:=cell_of_row _ _ 0 _ _ _ HXM.out;have HBM:=zaa (HBa.out.trans (HBm.out.mono HBa.out.size));have HBz:=zaa (Below.refl wm.heap.size wm);go_wp2_with fail;clear M0
    go_loopw [3,4,7] (fun vn vc vi wr=> ∃k n c:Nat,k≤y.parts.length∧vi= .int .i64 k∧vn= .int .i64 n∧n=na+1+((y.parts.take k).map zcM).sum∧vc= .int .i64 c∧c=ca+sy0.size+((y.parts.take k).map zdI).sum∧Below wm.heap.size wm wr) (fun _ _ vi _=>y.parts.length-(intOf vi).toNat)
    case atStart=>exact⟨0,_,_,Nat.zero_le _,rfl,by go_num,by simp,by go_num,by simp,HBz.out⟩
    case round=>
     obtain⟨kb,nb,cb,hkb,rfl,rfl,hen,rfl,hec,hbr⟩:=hrel;have HENb:=zaa hen;clear hen;have HECb:=zaa hec;clear hec;have HBb:=zaa hbr;clear hbr HBz;obtain⟨wb,hwz⟩: ∃a,a=wr:=⟨_,rfl⟩;subst hwz;have M3:=zad HBb.out hzm 3 (cell_of_row _ _ 3 _ _ _ HXM.out);have HBt:=zaa (HBM.out.trans (HBb.out.mono HBM.out.size));by_cases hlt:kb<y.parts.length
     ·as_aux_lemma=>
       obtain⟨t,ht⟩: ∃e_,y.parts[kb]? =some e_:=⟨_,List.getElem?_eq_getElem hlt⟩;obtain⟨bkt,oft,rfl,hbkt,hca⟩:=HRy3.out.at_ ht;obtain⟨ut0,t0,g0⟩:=hca 0 _ rfl;obtain⟨ut1,t1,g1⟩:=hca 1 _ rfl;obtain⟨ut2,t2,g2⟩:=hca 2 _ rfl;obtain⟨ut3,t3,g3⟩:=hca 3 _ rfl;obtain⟨ut4,t4,g4⟩:=hca 4 _ rfl;obtain⟨ut5,t5,g5⟩:=hca 5 _ rfl;obtain⟨ut6,t6,g6⟩:=hca 6 _ rfl;obtain⟨ut7,t7,g7⟩:=hca 7 _ rfl;obtain⟨ut8,t8,g8⟩:=hca 8 _ rfl;obtain⟨ut9,t9,g9⟩:=hca 9 _ rfl;have t0:=zeF HBt.out hbkt t0;obtain rfl:=g0.leaf_eq;obtain⟨st0,es,et0a,et0b⟩:=zb2 t.name;rw[es] at t0;clear es;have t1:=zaI HBt.out hbkt t1;obtain rfl:=g1.leaf_eq;have t2:=zaI HBt.out hbkt t2;obtain rfl:=g2.leaf_eq;have t3:=zaI HBt.out hbkt t3;obtain rfl:=g3.leaf_eq;have t4:=zaI HBt.out hbkt t4;have HDt4:=zaa g4;obtain⟨At4,pt4,rfl,hr⟩:=g4.slice;have HRt4:=zaa hr;clear hr g4;rw[show(zah t.semas).length=t.semas.length by simp[zah]] at t4 HDt4;have t5:=zaI HBt.out hbkt t5;obtain rfl:=g5.leaf_eq;have t6:=zaI HBt.out hbkt t6;obtain rfl:=g6.leaf_eq;have t7:=zaI HBt.out hbkt t7;have HDt7:=zaa g7;obtain⟨At7,pt7,rfl,hr⟩:=g7.slice;have HRt7:=zaa hr;clear hr g7;rw[show(zah t.bufs).length=t.bufs.length by simp[zah]] at t7 HDt7;have t8:=zaI HBt.out hbkt t8;have HDt8:=zaa g8;obtain⟨At8,pt8,rfl,hr⟩:=g8.slice;have HRt8:=zaa hr;clear hr g8;rw[List.length_map] at t8 HDt8;have t9:=zaI HBt.out hbkt t9;have HDt9:=zaa g9;obtain⟨At9,pt9,rfl,hr⟩:=g9.slice;have HRt9:=zaa hr;clear hr g9;rw[List.length_map] at t9 HDt9;clear hca;have hN:=HN.out;have hE0:=HENb.out;have hE1:=HECb.out;have q_0:((y.parts.take kb).map zcM).sum+(2+t.semas.length+t.bufs.length+2*t.ports.length+(t.procs.map zcV).sum)≤(y.parts.map zcM).sum:=za5 (zcM) ht;have q_1:((y.parts.take kb).map zdI).sum+(t.name.length+(t.ports.map (fun y:zaT=>y.name.length)).sum+(t.procs.map (fun y:za0=>y.name.length)).sum)≤(y.parts.map zdI).sum:=za5 (zdI) ht;have hb3:nb+(2+t.semas.length+t.bufs.length+2*t.ports.length)+(t.procs.map zcV).sum≤1000000000:=by omega
       have hb4:cb+t.name.length+(t.ports.map (fun y:zaT=>y.name.length)).sum+(t.procs.map (fun y:za0=>y.name.length)).sum≤1000000000:=by omega
       have Sb0:=zaa (show((y.parts.take (kb+1)).map zcM).sum=((y.parts.take kb).map zcM).sum+(2+t.semas.length+t.bufs.length+2*t.ports.length+(t.procs.map zcV).sum) from za2 (zcM) ht);have Sb1:=zaa (show((y.parts.take (kb+1)).map zdI).sum=((y.parts.take kb).map zdI).sum+(t.name.length+(t.ports.map (fun y:zaT=>y.name.length)).sum+(t.procs.map (fun y:za0=>y.name.length)).sum) from za2 (zdI) ht);clear hN hE0 hE1 q_0 q_1;have q4:=zeG zcV t.procs (fun z=>by unfold zcV;omega);clear ht;have k0kb:=kbZ kb y.parts.length;have HXP:=zaa (heap_alloc_new wb (.cells #[.string st0,.int .i64 t.period,.int .i64 t.length,.int .i64 t.mem,.slice At4 t.semas.length pt4,.int .i64 t.events,.int .i64 t.boards,.slice At7 t.bufs.length pt7,.slice At8 t.ports.length pt8,.slice At9 t.procs.length pt9] 49));have HBp:=zaa ((Below.refl wb.heap.size wb).alloc (Nat.le_refl _) (.cells #[.string st0,.int .i64 t.period,.int .i64 t.length,.int .i64 t.mem,.slice At4 t.semas.length pt4,.int .i64 t.events,.int .i64 t.boards,.slice At7 t.bufs.length pt7,.slice At8 t.ports.length pt8,.slice At9 t.procs.length pt9] 49));go_wp2_with fail;clear M3 t0 t1 t2 t3 t4 t5 t6 t7 t8 t9;generalize wb.alloc _=wp at *;have P0:=cell_of_row _ _ 0 _ _ _ HXP.out;have P4:=cell_of_row _ _ 4 _ _ _ HXP.out;have P7:=cell_of_row _ _ 7 _ _ _ HXP.out;have P8:=cell_of_row _ _ 8 _ _ _ HXP.out;have P9:=cell_of_row _ _ 9 _ _ _ HXP.out;have HBT:=zaa (HBt.out.trans (HBp.out.mono HBt.out.size));have HBb2:=zaa (HBb.out.trans (HBp.out.mono HBb.out.size));go_wp2_with fail;clear P0 P4 P7
       go_loopw [4,9] (fun vc vi wr=> ∃k c:Nat,k≤t.ports.length∧vi= .int .i64 k∧vc= .int .i64 c∧c=cb+st0.size+((t.ports.take k).map (fun y:zaT=>y.name.length)).sum∧wp=wr) (fun _ vi _=>t.ports.length-(intOf vi).toNat)
       case atStart=>exact⟨0,_,Nat.zero_le _,rfl,by go_num,by simp,rfl⟩
       case round=>
        obtain⟨kc,cc,hkc,rfl,rfl,hec,hbr⟩:=hrel;have HECc:=zaa hec;clear hec;subst hbr;by_cases hlt:kc<t.ports.length
        ·as_aux_lemma=>
          obtain⟨o,ho⟩: ∃e_,t.ports[kc]? =some e_:=⟨_,List.getElem?_eq_getElem hlt⟩;obtain⟨bko,ofo,rfl,hbko,hca⟩:=HRt8.out.at_ ho;obtain⟨uo0,o0,g0⟩:=hca 0 _ rfl;have o0:=zeF HBT.out hbko o0;obtain rfl:=g0.leaf_eq;obtain⟨so0,es,eo0a,eo0b⟩:=zb2 o.name;rw[es] at o0;clear es;clear hca;have hN:=HN.out;have hE0:=HECc.out;have q_0:((t.ports.take kc).map (fun y:zaT=>y.name.length)).sum+(o.name.length)≤(t.ports.map (fun y:zaT=>y.name.length)).sum:=za5 ((fun y:zaT=>y.name.length)) ho;have hb5:cc+o.name.length≤1000000000:=by omega
          have Sc0:=zaa (show((t.ports.take (kc+1)).map (fun y:zaT=>y.name.length)).sum=((t.ports.take kc).map (fun y:zaT=>y.name.length)).sum+(o.name.length) from za2 ((fun y:zaT=>y.name.length)) ho);clear hN hE0 q_0;have k0kc:=kbZ kc t.ports.length;go_wp2_with fail;go_roundw
          case rel=>exact⟨kc+1,cc+so0.size,by omega,by go_num,by go_num,by rw[Sc0.out];have:=HECc.out;omega,trivial⟩
          case measure=>simp[intOf];omega
        obtain rfl:kc=t.ports.length:=by omega
        rw[List.take_length] at HECc;clear hlt hkc;go_wp2_with fail
        go_loopw [3,4,10] (fun vn vc vi wr=> ∃k n c:Nat,k≤t.procs.length∧vi= .int .i64 k∧vn= .int .i64 n∧n=nb+(2+t.semas.length+t.bufs.length+2*t.ports.length)+((t.procs.take k).map zcV).sum∧vc= .int .i64 c∧c=cc+((t.procs.take k).map (fun y:za0=>y.name.length)).sum∧wp=wr) (fun _ _ vi _=>t.procs.length-(intOf vi).toNat)
        case atStart=>exact⟨0,_,_,Nat.zero_le _,rfl,by go_num,by simp,by go_num,by simp,rfl⟩
        case round=>
         obtain⟨kd,nd,cd,hkd,rfl,rfl,hen,rfl,hec,hbr⟩:=hrel;have HENd:=zaa hen;clear hen;have HECd:=zaa hec;clear hec;subst hbr;by_cases hlt:kd<t.procs.length
         ·as_aux_lemma=>
           obtain⟨o,ho⟩: ∃e_,t.procs[kd]? =some e_:=⟨_,List.getElem?_eq_getElem hlt⟩;obtain⟨bko,ofo,rfl,hbko,hca⟩:=HRt9.out.at_ ho;obtain⟨uo0,o0,g0⟩:=hca 0 _ rfl;obtain⟨uo4,o4,g4⟩:=hca 4 _ rfl;have o0:=zeF HBT.out hbko o0;obtain rfl:=g0.leaf_eq;obtain⟨so0,es,eo0a,eo0b⟩:=zb2 o.name;rw[es] at o0;clear es;have o4:=zaI HBT.out hbko o4;have HDo4:=zaa g4;obtain⟨Ao4,po4,rfl,hr⟩:=g4.slice;have HRo4:=zaa hr;clear hr g4;rw[List.length_map] at o4 HDo4;clear hca;have hN:=HN.out;have hE0:=HENd.out;have hE1:=HECd.out;have hE2:=HECc.out;have q_0:((t.procs.take kd).map zcV).sum+(2+o.code.length)≤(t.procs.map zcV).sum:=za5 (zcV) ho;have q_1:((t.procs.take kd).map (fun y:za0=>y.name.length)).sum+(o.name.length)≤(t.procs.map (fun y:za0=>y.name.length)).sum:=za5 ((fun y:za0=>y.name.length)) ho;have hb5:nd+(2+o.code.length)≤1000000000:=by omega
           have hb6:cd+o.name.length≤1000000000:=by omega
           have Sd0:=zaa (show((t.procs.take (kd+1)).map zcV).sum=((t.procs.take kd).map zcV).sum+(2+o.code.length) from za2 (zcV) ho);have Sd1:=zaa (show((t.procs.take (kd+1)).map (fun y:za0=>y.name.length)).sum=((t.procs.take kd).map (fun y:za0=>y.name.length)).sum+(o.name.length) from za2 ((fun y:za0=>y.name.length)) ho);clear hN hE0 hE1 hE2 q_0 q_1;have k0kd:=kbZ kd t.procs.length;go_wp2_with fail;go_roundw
           case rel=>exact⟨kd+1,nd+(2+o.code.length),cd+so0.size,by omega,by go_num,by go_num,by rw[Sd0.out];have:=HENd.out;omega,by go_num,by rw[Sd1.out];have:=HECd.out;omega,trivial⟩
           case measure=>simp[intOf];omega
         obtain rfl:kd=t.procs.length:=by omega
         rw[List.take_length] at HENd HECd;clear hlt hkd;go_wp2_with fail;go_roundw
         case rel=>exact⟨kb+1,nd,cd,by omega,by go_num,by go_num,by rw[Sb0.out];have:=HENb.out;have:=HENd.out;omega,by go_num,by rw[Sb1.out];have:=HECb.out;have:=HECc.out;have:=HECd.out;omega,HBb2.out⟩
         case measure=>simp[intOf];omega
     obtain rfl:kb=y.parts.length:=by omega
     rw[List.take_length] at HENb HECb;clear hlt hkb;go_wp2_with fail;go_roundw
     case rel=>exact⟨ka+1,nb,cb,by omega,by go_num,by go_num,by rw[Sa0.out];have:=HENa.out;have:=HENb.out;omega,by go_num,by rw[Sa1.out];have:=HECa.out;have:=HECb.out;omega,HBt.out⟩
     case measure=>simp[intOf];omega
  obtain rfl:ka=x.modules.length:=by omega
  rw[List.take_length] at HENa HECa;clear hlt hka;go_wp2_with fail;clear c0
  go_loopw [3,4,11] (fun vn vc vi wr=> ∃k n c:Nat,k≤x.channels.length∧vi= .int .i64 k∧vn= .int .i64 n∧n=na+((x.channels.take k).map zc6).sum∧vc= .int .i64 c∧c=ca+((x.channels.take k).map zd7).sum∧Below w0.heap.size w0 wr) (fun _ _ vi _=>x.channels.length-(intOf vi).toNat)
  case atStart=>exact⟨0,_,_,Nat.zero_le _,rfl,by go_num,by simp,by go_num,by simp,HBa.out⟩
  case round=>
   obtain⟨ke,ne,ce,hke,rfl,rfl,hen,rfl,hec,hbr⟩:=hrel;have HENe:=zaa hen;clear hen;have HECe:=zaa hec;clear hec;have HBe:=zaa hbr;clear hbr;obtain⟨we,hwz⟩: ∃a,a=wr:=⟨_,rfl⟩;subst hwz;have c1:=zad HBe.out hz 1 (cell_of_row _ _ 1 _ _ _ HX.out);by_cases hlt:ke<x.channels.length
   ·as_aux_lemma=>
     obtain⟨y,hy⟩: ∃e_,x.channels[ke]? =some e_:=⟨_,List.getElem?_eq_getElem hlt⟩;obtain⟨bky,ofy,rfl,hbky,hca⟩:=HR1.out.at_ hy;obtain⟨uy0,y0,g0⟩:=hca 0 _ rfl;obtain⟨uy1,y1,g1⟩:=hca 1 _ rfl;obtain⟨uy2,y2,g2⟩:=hca 2 _ rfl;obtain⟨uy3,y3,g3⟩:=hca 3 _ rfl;have y0:=zeF HBe.out hbky y0;obtain rfl:=g0.leaf_eq;simp only[zav] at y0;have y1:=zaI HBe.out hbky y1;obtain rfl:=g1.leaf_eq;simp only[zav] at y1;have y2:=zaI HBe.out hbky y2;obtain rfl:=g2.leaf_eq;simp only[zav] at y2;have y3:=zaI HBe.out hbky y3;have HDy3:=zaa g3;obtain⟨Ay3,py3,rfl,hr⟩:=g3.slice;have HRy3:=zaa hr;clear hr g3;rw[List.length_map] at y3 HDy3;clear hca;have hN:=HN.out;have hE0:=HENa.out;have hE1:=HECa.out;have hE2:=HENe.out;have hE3:=HECe.out;have q_0:((x.channels.take ke).map zc6).sum+(2+2*y.to.length)≤(x.channels.map zc6).sum:=za5 (zc6) hy;have q_1:((x.channels.take ke).map zd7).sum+(zd9 y.from_+zer y.to)≤(x.channels.map zd7).sum:=za5 (zd7) hy;have hb1:ne+(2+2*y.to.length)≤1000000000:=by omega
     have hb2:ce+(zd9 y.from_+zer y.to)≤1000000000:=by omega
     have Se0:=zaa (show((x.channels.take (ke+1)).map zc6).sum=((x.channels.take ke).map zc6).sum+(2+2*y.to.length) from za2 (zc6) hy);have Se1:=zaa (show((x.channels.take (ke+1)).map zd7).sum=((x.channels.take ke).map zd7).sum+(zd9 y.from_+zer y.to) from za2 (zd7) hy);clear hN hE0 hE1 hE2 hE3 q_0 q_1;have k0ke:=kbZ ke x.channels.length;have HLC:=zaa (fun s:zaj we=>ze5 y.from_ _ y.to s.w (zaa ((HDy3.out.later HBe.out).later s.below)) (by omega) (by omega));clear HDy3 hy;have hbY:=Nat.lt_of_lt_of_le hbky HBe.out.size;have hbW:=Nat.lt_of_lt_of_le hz HBe.out.size;go_wp2_with fail;refine zac (W:=we) (by kernel_rfl) (by kernel_rfl) ?_
     repeat(go_big_quiet_step (exact zaj.call (HLC.out _)))
     refine wpQuiet_nil ?_;rintro _ ⟨s_,rfl⟩;have HBE:=zaa (HBe.out.trans (s_.below.mono HBe.out.size));generalize s_.w=wE at *;go_wp2_with fail;go_roundw
     case rel=>exact⟨ke+1,ne+(2+2*y.to.length),ce+(zd9 y.from_+zer y.to),by omega,by go_num,by go_num,by rw[Se0.out];have:=HENe.out;omega,by go_num,by rw[Se1.out];have:=HECe.out;omega,HBE.out⟩
     case measure=>simp[intOf];omega
   obtain rfl:ke=x.channels.length:=by omega
   rw[List.take_length] at HENe HECe;clear hlt hke;go_wp2_with fail;clear c1
   go_loopw [3,4,12] (fun vn vc vi wr=> ∃k n c:Nat,k≤x.vls.length∧vi= .int .i64 k∧vn= .int .i64 n∧n=ne+((x.vls.take k).map vlN).sum∧vc= .int .i64 c∧c=ce+((x.vls.take k).map vlC).sum∧Below w0.heap.size w0 wr) (fun _ _ vi _=>x.vls.length-(intOf vi).toNat)
   case atStart=>exact⟨0,_,_,Nat.zero_le _,rfl,by go_num,by simp,by go_num,by simp,HBe.out⟩
   case round=>
    obtain⟨kf,nf,cf,hkf,rfl,rfl,hen,rfl,hec,hbr⟩:=hrel;have HENf:=zaa hen;clear hen;have HECf:=zaa hec;clear hec;have HBf:=zaa hbr;clear hbr;obtain⟨wf,hwz⟩: ∃a,a=wr:=⟨_,rfl⟩;subst hwz;have c4:=zad HBf.out hz 4 (cell_of_row _ _ 4 _ _ _ HX.out);by_cases hlt:kf<x.vls.length
    ·as_aux_lemma=>
      obtain⟨y,hy⟩: ∃e_,x.vls[kf]? =some e_:=⟨_,List.getElem?_eq_getElem hlt⟩;obtain⟨bky,ofy,rfl,hbky,hca⟩:=HR4.out.at_ hy;obtain⟨uy0,y0,g0⟩:=hca 0 _ rfl;obtain⟨uy1,y1,g1⟩:=hca 1 _ rfl;obtain⟨uy2,y2,g2⟩:=hca 2 _ rfl;obtain⟨uy3,y3,g3⟩:=hca 3 _ rfl;obtain⟨uy6,y6,g6⟩:=hca 6 _ rfl;have y0:=zeF HBf.out hbky y0;obtain rfl:=g0.leaf_eq;obtain⟨sy0,es,ey0a,ey0b⟩:=zb2 y.name;rw[es] at y0;clear es;have y1:=zaI HBf.out hbky y1;obtain rfl:=g1.leaf_eq;simp only[zav] at y1;have y2:=zaI HBf.out hbky y2;obtain rfl:=g2.leaf_eq;simp only[zav] at y2;have y3:=zaI HBf.out hbky y3;obtain rfl:=g3.leaf_eq;simp only[zav] at y3;have y6:=zaI HBf.out hbky y6;have HDy6:=zaa g6;obtain⟨Ay6,py6,rfl,hr⟩:=g6.slice;have HRy6:=zaa hr;clear hr g6;rw[List.length_map] at y6 HDy6;clear hca;have hN:=HN.out;have hE0:=HENa.out;have hE1:=HECa.out;have hE2:=HENe.out;have hE3:=HECe.out;have hE4:=HENf.out;have hE5:=HECf.out;have q_0:((x.vls.take kf).map vlN).sum+(3+2*y.to.length)≤(x.vls.map vlN).sum:=za5 (vlN) hy;have q_1:((x.vls.take kf).map vlC).sum+(y.name.length+(zd9 y.from_+zer y.to))≤(x.vls.map vlC).sum:=za5 (vlC) hy;have hb1:nf+(3+2*y.to.length)≤1000000000:=by omega
      have hb2:cf+(y.name.length+(zd9 y.from_+zer y.to))≤1000000000:=by omega
      have Sf0:=zaa (show((x.vls.take (kf+1)).map vlN).sum=((x.vls.take kf).map vlN).sum+(3+2*y.to.length) from za2 (vlN) hy);have Sf1:=zaa (show((x.vls.take (kf+1)).map vlC).sum=((x.vls.take kf).map vlC).sum+(y.name.length+(zd9 y.from_+zer y.to)) from za2 (vlC) hy);clear hN hE0 hE1 hE2 hE3 hE4 hE5 q_0 q_1;have k0kf:=kbZ kf x.vls.length;have HLC:=zaa (fun s:zaj wf=>ze5 y.from_ _ y.to s.w (zaa ((HDy6.out.later HBf.out).later s.below)) (by omega) (by omega));clear HDy6 hy;have hbY:=Nat.lt_of_lt_of_le hbky HBf.out.size;have hbW:=Nat.lt_of_lt_of_le hz HBf.out.size;go_wp2_with fail;refine zac (W:=wf) (by kernel_rfl) (by kernel_rfl) ?_
      repeat(go_big_quiet_step (exact zaj.call (HLC.out _)))
      refine wpQuiet_nil ?_;rintro _ ⟨s_,rfl⟩;have HBF:=zaa (HBf.out.trans (s_.below.mono HBf.out.size));generalize s_.w=wF at *;go_wp2_with fail;go_roundw
      case rel=>exact⟨kf+1,nf+(3+2*y.to.length),cf+(sy0.size+(zd9 y.from_+zer y.to)),by omega,by go_num,by go_num,by rw[Sf0.out];have:=HENf.out;omega,by go_num,by rw[Sf1.out];have:=HECf.out;omega,HBF.out⟩
      case measure=>simp[intOf];omega
    obtain rfl:kf=x.vls.length:=by omega
    rw[List.take_length] at HENf HECf;clear hlt hkf;go_wp2_with fail;clear c4
    go_loopw [3,4,13] (fun vn vc vi wr=> ∃k n c:Nat,k≤x.causes.length∧vi= .int .i64 k∧vn= .int .i64 n∧n=nf+((x.causes.take k).map zbW).sum∧vc= .int .i64 c∧c=cf+((x.causes.take k).map zcU).sum∧Below w0.heap.size w0 wr) (fun _ _ vi _=>x.causes.length-(intOf vi).toNat)
    case atStart=>exact⟨0,_,_,Nat.zero_le _,rfl,by go_num,by simp,by go_num,by simp,HBf.out⟩
    case round=>
     obtain⟨kg,ng,cg,hkg,rfl,rfl,hen,rfl,hec,hbr⟩:=hrel;have HENg:=zaa hen;clear hen;have HECg:=zaa hec;clear hec;have HBg:=zaa hbr;clear hbr;obtain⟨wg,hwz⟩: ∃a,a=wr:=⟨_,rfl⟩;subst hwz;have c6:=zad HBg.out hz 6 (cell_of_row _ _ 6 _ _ _ HX.out);by_cases hlt:kg<x.causes.length
     ·as_aux_lemma=>
       obtain⟨y,hy⟩: ∃e_,x.causes[kg]? =some e_:=⟨_,List.getElem?_eq_getElem hlt⟩;obtain⟨bky,ofy,rfl,hbky,hca⟩:=HR6.out.at_ hy;obtain⟨uy0,y0,g0⟩:=hca 0 _ rfl;obtain⟨uy1,y1,g1⟩:=hca 1 _ rfl;obtain⟨uy2,y2,g2⟩:=hca 2 _ rfl;have y0raw:=y0;have y0:=zeF HBg.out hbky y0;obtain rfl:=g0.leaf_eq;obtain⟨sy0,es,ey0a,ey0b⟩:=zb2 y.unit;rw[es] at y0 y0raw;clear es;have y1raw:=y1;have y1:=zaI HBg.out hbky y1;have HDy1:=zaa g1;obtain⟨Ay1,py1,rfl,hr⟩:=g1.slice;have HRy1:=zaa hr;clear hr g1;rw[List.length_map] at y1 HDy1 y1raw;have y2raw:=y2;have y2:=zaI HBg.out hbky y2;have HDy2:=zaa g2;obtain⟨Ay2,py2,rfl,hr⟩:=g2.slice;have HRy2:=zaa hr;clear hr g2;rw[show(zao y.but).length=y.but.length by simp[zao]] at y2 HDy2 y2raw;clear hca;have hN:=HN.out;have hE0:=HENa.out;have hE1:=HECa.out;have hE2:=HENe.out;have hE3:=HECe.out;have hE4:=HENf.out;have hE5:=HECf.out;have hE6:=HENg.out;have hE7:=HECg.out;have q_0:((x.causes.take kg).map zbW).sum+(1+2*y.needs.length+y.but.length)≤(x.causes.map zbW).sum:=za5 (zbW) hy;have q_1:((x.causes.take kg).map zcU).sum+(y.unit.length+(y.needs.map (fun y:zcu=>y.unit.length)).sum+(y.but.map (fun y:List UInt8=>y.length)).sum)≤(x.causes.map zcU).sum:=za5 (zcU) hy;have hb1:ng+(1+2*y.needs.length+y.but.length)≤1000000000:=by omega
       have hb2:cg+y.unit.length+(y.needs.map (fun y:zcu=>y.unit.length)).sum+(y.but.map (fun y:List UInt8=>y.length)).sum≤1000000000:=by omega
       have Sg0:=zaa (show((x.causes.take (kg+1)).map zbW).sum=((x.causes.take kg).map zbW).sum+(1+2*y.needs.length+y.but.length) from za2 (zbW) hy);have Sg1:=zaa (show((x.causes.take (kg+1)).map zcU).sum=((x.causes.take kg).map zcU).sum+(y.unit.length+(y.needs.map (fun y:zcu=>y.unit.length)).sum+(y.but.map (fun y:List UInt8=>y.length)).sum) from za2 (zcU) hy);clear hN hE0 hE1 hE2 hE3 hE4 hE5 hE6 hE7 q_0 q_1;have k0kg:=kbZ kg x.causes.length;clear hy HDy1 HDy2;have hbY:=Nat.lt_of_lt_of_le hbky HBg.out.size;have hbW:=Nat.lt_of_lt_of_le hz HBg.out.size;have HYC:=zaa (And.intro y0raw (And.intro y1raw y2raw));go_wp2_with fail;refine zac (W:=wg) (by kernel_rfl) (by kernel_rfl) ?_
       repeat(go_big_quiet_step (fail))
       refine wpQuiet_nil ?_;rintro _ ⟨s_,rfl⟩;have HBG:=zaa (HBg.out.trans (s_.below.mono HBg.out.size));generalize s_.w=wG at *;clear c6 y0 y1 y2;have hbY:=Nat.lt_of_lt_of_le hbky HBG.out.size;have C6:=zad HBG.out hz 6 (cell_of_row _ _ 6 _ _ _ HX.out);have Y0:=zad HBG.out hbky (ofy+kg*3) (HYC.out.1);go_wp2_with fail;clear Y0;have Y1:=zad HBG.out hbky (ofy+kg*3+1) (HYC.out.2.1)
       go_loopw [4,14] (fun vc vi wr=> ∃k c:Nat,k≤y.needs.length∧vi= .int .i64 k∧vc= .int .i64 c∧c=cg+sy0.size+((y.needs.take k).map (fun y:zcu=>y.unit.length)).sum∧wG=wr) (fun _ vi _=>y.needs.length-(intOf vi).toNat)
       case atStart=>exact⟨0,_,Nat.zero_le _,rfl,by go_num,by simp,rfl⟩
       case round=>
        obtain⟨kh,ch,hkh,rfl,rfl,hec,hbr⟩:=hrel;have HECh:=zaa hec;clear hec;subst hbr;by_cases hlt:kh<y.needs.length
        ·as_aux_lemma=>
          obtain⟨o,ho⟩: ∃e_,y.needs[kh]? =some e_:=⟨_,List.getElem?_eq_getElem hlt⟩;obtain⟨bko,ofo,rfl,hbko,hca⟩:=HRy1.out.at_ ho;obtain⟨uo0,o0,g0⟩:=hca 0 _ rfl;have o0:=zeF HBG.out hbko o0;obtain rfl:=g0.leaf_eq;obtain⟨so0,es,eo0a,eo0b⟩:=zb2 o.unit;rw[es] at o0;clear es;clear hca;have hN:=HN.out;have hE0:=HECh.out;have q_0:((y.needs.take kh).map (fun y:zcu=>y.unit.length)).sum+(o.unit.length)≤(y.needs.map (fun y:zcu=>y.unit.length)).sum:=za5 ((fun y:zcu=>y.unit.length)) ho;have hb5:ch+o.unit.length≤1000000000:=by omega
          have Sh0:=zaa (show((y.needs.take (kh+1)).map (fun y:zcu=>y.unit.length)).sum=((y.needs.take kh).map (fun y:zcu=>y.unit.length)).sum+(o.unit.length) from za2 ((fun y:zcu=>y.unit.length)) ho);clear hN hE0 q_0;have k0kh:=kbZ kh y.needs.length;go_wp2_with fail;go_roundw
          case rel=>exact⟨kh+1,ch+so0.size,by omega,by go_num,by go_num,by rw[Sh0.out];have:=HECh.out;omega,trivial⟩
          case measure=>simp[intOf];omega
        obtain rfl:kh=y.needs.length:=by omega
        rw[List.take_length] at HECh;clear hlt hkh;have Y2:=(HBG.out.cell (p:=⟨bky,ofy+kg*3+2,none⟩) hbky).trans HYC.out.2.2;go_wp2_with fail;clear Y1
        go_loopw [4,15] (fun vc vi wr=> ∃k c:Nat,k≤y.but.length∧vi= .int .i64 k∧vc= .int .i64 c∧c=ch+((y.but.take k).map (fun y:List UInt8=>y.length)).sum∧wG=wr) (fun _ vi _=>y.but.length-(intOf vi).toNat)
        case atStart=>exact⟨0,_,Nat.zero_le _,rfl,by go_num,by simp,rfl⟩
        case round=>
         obtain⟨ki,ci,hki,rfl,rfl,hec,hbr⟩:=hrel;have HECi:=zaa hec;clear hec;subst hbr;by_cases hlt:ki<y.but.length
         ·as_aux_lemma=>
           obtain⟨o,ho⟩: ∃e_,y.but[ki]? =some e_:=⟨_,List.getElem?_eq_getElem hlt⟩;obtain⟨bko,ofo,rfl,hbko,hca⟩:=HRy2.out.at_ (cells:=fun s:List UInt8=>[lS s]) ho;obtain⟨uo0,o0,g0⟩:=hca 0 _ rfl;rw[Nat.mul_one,Nat.add_zero] at o0;have o0:=zad HBG.out hbko (ofo+ki) o0;obtain rfl:=g0.leaf_eq;obtain⟨so0,es,eo0a,eo0b⟩:=zb2 o;rw[es] at o0;clear es;clear hca;have hN:=HN.out;have hE0:=HECi.out;have hE1:=HECh.out;have q_0:((y.but.take ki).map (fun y:List UInt8=>y.length)).sum+(o.length)≤(y.but.map (fun y:List UInt8=>y.length)).sum:=za5 ((fun y:List UInt8=>y.length)) ho;have hb5:ci+o.length≤1000000000:=by omega
           have Si0:=zaa (show((y.but.take (ki+1)).map (fun y:List UInt8=>y.length)).sum=((y.but.take ki).map (fun y:List UInt8=>y.length)).sum+(o.length) from za2 ((fun y:List UInt8=>y.length)) ho);clear hN hE0 hE1 q_0;have k0ki:=kbZ ki y.but.length;go_wp2_with fail;go_roundw
           case rel=>exact⟨ki+1,ci+so0.size,by omega,by go_num,by go_num,by rw[Si0.out];have:=HECi.out;omega,trivial⟩
           case measure=>simp[intOf];omega
         obtain rfl:ki=y.but.length:=by omega
         rw[List.take_length] at HECi;clear hlt hki;go_wp2_with fail;go_roundw
         case rel=>exact⟨kg+1,ng+(1+2*y.needs.length+y.but.length),ci,by omega,by go_num,by go_num,by rw[Sg0.out];have:=HENg.out;omega,by go_num,by rw[Sg1.out];have:=HECg.out;have:=HECh.out;have:=HECi.out;omega,HBG.out⟩
         case measure=>simp[intOf];omega
     obtain rfl:kg=x.causes.length:=by omega
     rw[List.take_length] at HENg HECg;clear hlt hkg;go_wp2_with fail;clear c6
     go_loopw [4,16] (fun vc vi wr=> ∃k c:Nat,k≤x.switches.length∧vi= .int .i64 k∧vc= .int .i64 c∧c=cg+((x.switches.take k).map (fun y:SwD=>y.name.length)).sum∧Below w0.heap.size w0 wr) (fun _ vi _=>x.switches.length-(intOf vi).toNat)
     case atStart=>exact⟨0,_,Nat.zero_le _,rfl,by go_num,by simp,HBg.out⟩
     case round=>
      obtain⟨kj,cj,hkj,rfl,rfl,hec,hbr⟩:=hrel;have HECj:=zaa hec;clear hec;have HBj:=zaa hbr;clear hbr;obtain⟨wj,hwz⟩: ∃a,a=wr:=⟨_,rfl⟩;subst hwz;have c2:=zad HBj.out hz 2 (cell_of_row _ _ 2 _ _ _ HX.out);by_cases hlt:kj<x.switches.length
      ·as_aux_lemma=>
        obtain⟨y,hy⟩: ∃e_,x.switches[kj]? =some e_:=⟨_,List.getElem?_eq_getElem hlt⟩;obtain⟨bky,ofy,rfl,hbky,hca⟩:=HR2.out.at_ hy;obtain⟨uy0,y0,g0⟩:=hca 0 _ rfl;have y0:=zeF HBj.out hbky y0;obtain rfl:=g0.leaf_eq;obtain⟨sy0,es,ey0a,ey0b⟩:=zb2 y.name;rw[es] at y0;clear es;clear hca;have hN:=HN.out;have hE0:=HENa.out;have hE1:=HECa.out;have hE2:=HENe.out;have hE3:=HECe.out;have hE4:=HENf.out;have hE5:=HECf.out;have hE6:=HENg.out;have hE7:=HECg.out;have hE8:=HECj.out;have q_0:((x.switches.take kj).map (fun y:SwD=>y.name.length)).sum+(y.name.length)≤(x.switches.map (fun y:SwD=>y.name.length)).sum:=za5 ((fun y:SwD=>y.name.length)) hy;have hb1:cj+(y.name.length)≤1000000000:=by omega
        have Sj0:=zaa (show((x.switches.take (kj+1)).map (fun y:SwD=>y.name.length)).sum=((x.switches.take kj).map (fun y:SwD=>y.name.length)).sum+(y.name.length) from za2 ((fun y:SwD=>y.name.length)) hy);clear hN hE0 hE1 hE2 hE3 hE4 hE5 hE6 hE7 hE8 q_0;clear hy;have k0kj:=kbZ kj x.switches.length;have hbY:=Nat.lt_of_lt_of_le hbky HBj.out.size;have hbW:=Nat.lt_of_lt_of_le hz HBj.out.size;go_wp2_with fail;go_roundw
        case rel=>exact⟨kj+1,cj+(sy0.size),by omega,by go_num,by go_num,by rw[Sj0.out];have:=HECj.out;omega,HBj.out⟩
        case measure=>simp[intOf];omega
      obtain rfl:kj=x.switches.length:=by omega
      rw[List.take_length] at HECj;clear hlt hkj;go_wp2_with fail;clear c2
      go_loopw [4,17] (fun vc vi wr=> ∃k c:Nat,k≤x.links.length∧vi= .int .i64 k∧vc= .int .i64 c∧c=cj+((x.links.take k).map zec).sum∧Below w0.heap.size w0 wr) (fun _ vi _=>x.links.length-(intOf vi).toNat)
      case atStart=>exact⟨0,_,Nat.zero_le _,rfl,by go_num,by simp,HBj.out⟩
      case round=>
       obtain⟨kl,cl,hkl,rfl,rfl,hec,hbr⟩:=hrel;have HECl:=zaa hec;clear hec;have HBl:=zaa hbr;clear hbr;obtain⟨wl,hwz⟩: ∃a,a=wr:=⟨_,rfl⟩;subst hwz;have c3:=zad HBl.out hz 3 (cell_of_row _ _ 3 _ _ _ HX.out);by_cases hlt:kl<x.links.length
       ·as_aux_lemma=>
         obtain⟨y,hy⟩: ∃e_,x.links[kl]? =some e_:=⟨_,List.getElem?_eq_getElem hlt⟩;obtain⟨bky,ofy,rfl,hbky,hca⟩:=HR3.out.at_ hy;obtain⟨uy0,y0,g0⟩:=hca 0 _ rfl;obtain⟨uy1,y1,g1⟩:=hca 1 _ rfl;have y0:=zeF HBl.out hbky y0;obtain rfl:=g0.leaf_eq;obtain⟨sy0,es,ey0a,ey0b⟩:=zb2 y.a;rw[es] at y0;clear es;have y1:=zaI HBl.out hbky y1;obtain rfl:=g1.leaf_eq;obtain⟨sy1,es,ey1a,ey1b⟩:=zb2 y.b;rw[es] at y1;clear es;clear hca;have hN:=HN.out;have hE0:=HENa.out;have hE1:=HECa.out;have hE2:=HENe.out;have hE3:=HECe.out;have hE4:=HENf.out;have hE5:=HECf.out;have hE6:=HENg.out;have hE7:=HECg.out;have hE8:=HECj.out;have hE9:=HECl.out;have q_0:((x.links.take kl).map zec).sum+(y.a.length+y.b.length)≤(x.links.map zec).sum:=za5 (zec) hy;have hb1:cl+(y.a.length+y.b.length)≤1000000000:=by omega
         have Sl0:=zaa (show((x.links.take (kl+1)).map zec).sum=((x.links.take kl).map zec).sum+(y.a.length+y.b.length) from za2 (zec) hy);clear hN hE0 hE1 hE2 hE3 hE4 hE5 hE6 hE7 hE8 hE9 q_0;clear hy;have k0kl:=kbZ kl x.links.length;have hbY:=Nat.lt_of_lt_of_le hbky HBl.out.size;have hbW:=Nat.lt_of_lt_of_le hz HBl.out.size;go_wp2_with fail;refine zac (W:=wl) (by kernel_rfl) (by kernel_rfl) ?_
         repeat(go_big_quiet_step (fail))
         refine wpQuiet_nil ?_;rintro _ ⟨s_,rfl⟩;have HBL:=zaa (HBl.out.trans (s_.below.mono HBl.out.size));generalize s_.w=wL at *;go_wp2_with fail;go_roundw
         case rel=>exact⟨kl+1,cl+(sy0.size+sy1.size),by omega,by go_num,by go_num,by rw[Sl0.out];have:=HECl.out;omega,HBL.out⟩
         case measure=>simp[intOf];omega
       obtain rfl:kl=x.links.length:=by omega
       rw[List.take_length] at HECl;clear hlt hkl;go_wp2_with fail;clear c3
       go_loopw [4,18] (fun vc vi wr=> ∃k c:Nat,k≤x.health.length∧vi= .int .i64 k∧vc= .int .i64 c∧c=cl+((x.health.take k).map zb1).sum∧Below w0.heap.size w0 wr) (fun _ vi _=>x.health.length-(intOf vi).toNat)
       case atStart=>exact⟨0,_,Nat.zero_le _,rfl,by go_num,by simp,HBl.out⟩
       case round=>
        obtain⟨km,cm,hkm,rfl,rfl,hec,hbr⟩:=hrel;have HECm:=zaa hec;clear hec;have HBm:=zaa hbr;clear hbr;obtain⟨wm,hwz⟩: ∃a,a=wr:=⟨_,rfl⟩;subst hwz;have c5:=zad HBm.out hz 5 (cell_of_row _ _ 5 _ _ _ HX.out);by_cases hlt:km<x.health.length
        ·as_aux_lemma=>
          obtain⟨y,hy⟩: ∃e_,x.health[km]? =some e_:=⟨_,List.getElem?_eq_getElem hlt⟩;obtain⟨bky,ofy,rfl,hbky,hca⟩:=HR5.out.at_ hy;obtain⟨uy0,y0,g0⟩:=hca 0 _ rfl;obtain⟨uy1,y1,g1⟩:=hca 1 _ rfl;have y0:=zeF HBm.out hbky y0;obtain rfl:=g0.leaf_eq;obtain⟨sy0,es,ey0a,ey0b⟩:=zb2 y.module;rw[es] at y0;clear es;have y1:=zaI HBm.out hbky y1;obtain rfl:=g1.leaf_eq;obtain⟨sy1,es,ey1a,ey1b⟩:=zb2 y.part;rw[es] at y1;clear es;clear hca;have hN:=HN.out;have hE0:=HENa.out;have hE1:=HECa.out;have hE2:=HENe.out;have hE3:=HECe.out;have hE4:=HENf.out;have hE5:=HECf.out;have hE6:=HENg.out;have hE7:=HECg.out;have hE8:=HECj.out;have hE9:=HECl.out;have hE10:=HECm.out;have q_0:((x.health.take km).map zb1).sum+(y.module.length+y.part.length)≤(x.health.map zb1).sum:=za5 (zb1) hy;have hb1:cm+(y.module.length+y.part.length)≤1000000000:=by omega
          have Sm0:=zaa (show((x.health.take (km+1)).map zb1).sum=((x.health.take km).map zb1).sum+(y.module.length+y.part.length) from za2 (zb1) hy);clear hN hE0 hE1 hE2 hE3 hE4 hE5 hE6 hE7 hE8 hE9 hE10 q_0;clear hy;have k0km:=kbZ km x.health.length;have hbY:=Nat.lt_of_lt_of_le hbky HBm.out.size;have hbW:=Nat.lt_of_lt_of_le hz HBm.out.size;go_wp2_with fail;refine zac (W:=wm) (by kernel_rfl) (by kernel_rfl) ?_
          repeat(go_big_quiet_step (fail))
          refine wpQuiet_nil ?_;rintro _ ⟨s_,rfl⟩;have HBM:=zaa (HBm.out.trans (s_.below.mono HBm.out.size));generalize s_.w=wM at *;go_wp2_with fail;go_roundw
          case rel=>exact⟨km+1,cm+(sy0.size+sy1.size),by omega,by go_num,by go_num,by rw[Sm0.out];have:=HECm.out;omega,HBM.out⟩
          case measure=>simp[intOf];omega
        obtain rfl:km=x.health.length:=by omega
        rw[List.take_length] at HECm;clear hlt hkm;go_wp2_with fail;clear c5
        go_loopw [4,19] (fun vc vi wr=> ∃k c:Nat,k≤x.versions.length∧vi= .int .i64 k∧vc= .int .i64 c∧c=cm+((x.versions.take k).map zg1).sum∧Below w0.heap.size w0 wr) (fun _ vi _=>x.versions.length-(intOf vi).toNat)
        case atStart=>exact⟨0,_,Nat.zero_le _,rfl,by go_num,by simp,HBm.out⟩
        case round=>
         obtain⟨ko,co,hko,rfl,rfl,hec,hbr⟩:=hrel;have HECo:=zaa hec;clear hec;have HBo:=zaa hbr;clear hbr;obtain⟨wo,hwz⟩: ∃a,a=wr:=⟨_,rfl⟩;subst hwz;have c7:=zad HBo.out hz 7 (cell_of_row _ _ 7 _ _ _ HX.out);by_cases hlt:ko<x.versions.length
         ·as_aux_lemma=>
           obtain⟨y,hy⟩: ∃e_,x.versions[ko]? =some e_:=⟨_,List.getElem?_eq_getElem hlt⟩;obtain⟨bky,ofy,rfl,hbky,hca⟩:=HR7.out.at_ hy;obtain⟨uy2,y2,g2⟩:=hca 2 _ rfl;have y0:=zad HBo.out hbky (ofy+ko*4) (hca 0 _ rfl).leafc;obtain⟨sy0,es,ey0a,ey0b⟩:=zb2 y.a;rw[es] at y0;clear es;have y2:=zaI HBo.out hbky y2;obtain rfl:=g2.leaf_eq;obtain⟨sy2,es,ey2a,ey2b⟩:=zb2 y.b;rw[es] at y2;clear es;clear hca;have hN:=HN.out;have hE0:=HENa.out;have hE1:=HECa.out;have hE2:=HENe.out;have hE3:=HECe.out;have hE4:=HENf.out;have hE5:=HECf.out;have hE6:=HENg.out;have hE7:=HECg.out;have hE8:=HECj.out;have hE9:=HECl.out;have hE10:=HECm.out;have hE11:=HECo.out;have q_0:((x.versions.take ko).map zg1).sum+(y.a.length+y.b.length)≤(x.versions.map zg1).sum:=za5 (zg1) hy;have hb1:co+(y.a.length+y.b.length)≤1000000000:=by omega
           have So0:=zaa (show((x.versions.take (ko+1)).map zg1).sum=((x.versions.take ko).map zg1).sum+(y.a.length+y.b.length) from za2 (zg1) hy);clear hN hE0 hE1 hE2 hE3 hE4 hE5 hE6 hE7 hE8 hE9 hE10 hE11 q_0;clear hy;have k0ko:=kbZ ko x.versions.length;have hbY:=Nat.lt_of_lt_of_le hbky HBo.out.size;have hbW:=Nat.lt_of_lt_of_le hz HBo.out.size;go_wp2_with fail;refine zac (W:=wo) (by kernel_rfl) (by kernel_rfl) ?_
           repeat(go_big_quiet_step (fail))
           refine wpQuiet_nil ?_;rintro _ ⟨s_,rfl⟩;have HBO:=zaa (HBo.out.trans (s_.below.mono HBo.out.size));generalize s_.w=wO at *;go_wp2_with fail;go_roundw
           case rel=>exact⟨ko+1,co+(sy0.size+sy2.size),by omega,by go_num,by go_num,by rw[So0.out];have:=HECo.out;omega,HBO.out⟩
           case measure=>simp[intOf];omega
         obtain rfl:ko=x.versions.length:=by omega
         rw[List.take_length] at HECo;clear hlt hko;have hN:=HN.out;have e_HENa:=HENa.out;have e_HECa:=HECa.out;have e_HENe:=HENe.out;have e_HECe:=HECe.out;have e_HENf:=HENf.out;have e_HECf:=HECf.out;have e_HENg:=HENg.out;have e_HECg:=HECg.out;have e_HECj:=HECj.out;have e_HECl:=HECl.out;have e_HECm:=HECm.out;have e_HECo:=HECo.out;have hbz:ng+co≤1000000000:=by omega
         clear hN e_HENa e_HECa e_HENe e_HECe e_HENf e_HECf e_HENg e_HECg e_HECj e_HECl e_HECm e_HECo;go_wp2_with fail;go_ret;refine⟨?_,HBA.out.trans (HBo.out.mono HBA.out.size)⟩;have e_HENa:=HENa.out;have e_HECa:=HECa.out;have e_HENe:=HENe.out;have e_HECe:=HECe.out;have e_HENf:=HENf.out;have e_HECf:=HECf.out;have e_HENg:=HENg.out;have e_HECg:=HECg.out;have e_HECj:=HECj.out;have e_HECl:=HECl.out;have e_HECm:=HECm.out;have e_HECo:=HECo.out;refine congrArg (fun z_:Int=>Ending.returned (Value.int .i64 z_)) (show(ng:Int)+(co:Int)/8=_ from ?_)
         omega
end Go.Proofs.YtgbfaompondolaaGreatDoor
