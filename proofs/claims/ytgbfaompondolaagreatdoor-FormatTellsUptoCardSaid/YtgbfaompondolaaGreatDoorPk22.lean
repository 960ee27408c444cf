/- Merged texts of the walks and of the plain laws on which the statement leans.-/
import Derived.Test.YtgbfaompondolaaGreatDoorPk1
import Derived.Test.YtgbfaompondolaaGreatDoorPk21
set_option maxHeartbeats 4000000
set_option maxRecDepth 100000
namespace Go.Proofs.YtgbfaompondolaaGreatDoor
open Go.Proofs.Tryz
open Go.RowKit
attribute [local go_sem] zaj.cell
theorem zj3 (x:zaT) (W:World) (hF:zc5 x=true) (hn:x.name.length≤1000000000):
 Calls prog 260 #[.agg #[.string ⟨x.name.toArray⟩,.int .u8 (x.kind:Int),.bool x.out,.int .i64 x.size,.int .i64 x.depth,.int .i64 x.refresh]] W fun e w'=>e= .returned (.string ⟨(zbP x).toArray⟩)∧Below W.heap.size W w':=by
 simp only[zc5,zd4,List.all_cons,List.all_nil,Bool.and_eq_true,Bool.or_eq_true,beq_iff_eq,Bool.and_true] at hF;obtain⟨hk, -,g0,g1,g2⟩:=hF;obtain⟨D0,HD0,s0,t0⟩:=zhk x.size g0;obtain⟨D1,HD1,s1,t1⟩:=zhk x.depth g1;obtain⟨D2,HD2,s2,t2⟩:=zhk x.refresh g2;clear g0 g1 g2;have HX:=zaa (heap_alloc_new W (.cells #[.string ⟨x.name.toArray⟩,.int .u8 (x.kind:Int),.bool x.out,.int .i64 x.size,.int .i64 x.depth,.int .i64 x.refresh] 51));have HB:=zaa ((Below.refl W.heap.size W).alloc (Nat.le_refl _) (.cells #[.string ⟨x.name.toArray⟩,.int .u8 (x.kind:Int),.bool x.out,.int .i64 x.size,.int .i64 x.depth,.int .i64 x.refresh] 51));have hz:W.heap.size<(W.alloc (.cells #[.string ⟨x.name.toArray⟩,.int .u8 (x.kind:Int),.bool x.out,.int .i64 x.size,.int .i64 x.depth,.int .i64 x.refresh] 51)).heap.size:=by simp
 rcases hk with⟨hk, -⟩|⟨hk, -⟩
 ·have e1:((x.kind:Int)==1)=true:=by rw[hk];rfl
  cases ho:x.out with
  |true=>
   have HT:=zaa (show zbP x=[9,9,111,117,116,32]++x.name++[32,115,97,109,112,108,105,110,103,32,115,105,122,101,32]++Lib.itoa x.size++[32,114,101,102,114,101,115,104,32]++Lib.itoa x.refresh++[59,10] by simp[zbP,hk,ho,zfJ,lnT,zbK,Arg.txt,Lib.repeatL]);rw[ho] at HX HB hz;have k1:=smZ (6+x.name.length);have k2:=smZ (6+x.name.length+15);have k3:=smZ (6+x.name.length+15+D0.size);have k4:=smZ (6+x.name.length+15+D0.size+9);have k5:=smZ (6+x.name.length+15+D0.size+9+D2.size);have k6:=smZ (6+x.name.length+15+D0.size+9+D2.size+2);clear hk ho hn s0 s1 s2
   go_enter func260,ntmps260
   go_wp2_with fail;generalize W.alloc _=w0 at *;obtain⟨c0,c1,c2,c3,c4,c5⟩:=ze2 HX.out;refine zac (W:=w0) (by kernel_rfl) (by kernel_rfl) ?_
   repeat(go_big_quiet_step ((go_at_call 157;first|(with_reducible exact zaj.call (HD0.out _))|(with_reducible exact zaj.call (HD2.out _)))))
   refine wpQuiet_nil ?_;rintro _ ⟨s,rfl⟩;clear c0 c1 c2 c3 c4 c5;go_wp2_with fail;go_ret;exact⟨txt (by rw[HT.out];simp[ByteArray.data_append,t0.out,t2.out]),HB.out.trans (s.below.mono HB.out.size)⟩
  |false=>
   have HT:=zaa (show zbP x=[9,9,105,110,32]++x.name++[32,115,97,109,112,108,105,110,103,32,115,105,122,101,32]++Lib.itoa x.size++[32,114,101,102,114,101,115,104,32]++Lib.itoa x.refresh++[59,10] by simp[zbP,hk,ho,zfJ,lnT,zbK,Arg.txt,Lib.repeatL]);rw[ho] at HX HB hz;have k1:=smZ (5+x.name.length);have k2:=smZ (5+x.name.length+15);have k3:=smZ (5+x.name.length+15+D0.size);have k4:=smZ (5+x.name.length+15+D0.size+9);have k5:=smZ (5+x.name.length+15+D0.size+9+D2.size);have k6:=smZ (5+x.name.length+15+D0.size+9+D2.size+2);clear hk ho hn s0 s1 s2
   go_enter func260,ntmps260
   go_wp2_with fail;generalize W.alloc _=w0 at *;obtain⟨c0,c1,c2,c3,c4,c5⟩:=ze2 HX.out;refine zac (W:=w0) (by kernel_rfl) (by kernel_rfl) ?_
   repeat(go_big_quiet_step ((go_at_call 157;first|(with_reducible exact zaj.call (HD0.out _))|(with_reducible exact zaj.call (HD2.out _)))))
   refine wpQuiet_nil ?_;rintro _ ⟨s,rfl⟩;clear c0 c1 c2 c3 c4 c5;go_wp2_with fail;go_ret;exact⟨txt (by rw[HT.out];simp[ByteArray.data_append,t0.out,t2.out]),HB.out.trans (s.below.mono HB.out.size)⟩
 ·have e1:((x.kind:Int)==1)=false:=by rw[hk];rfl
  cases ho:x.out with
  |true=>
   have HT:=zaa (show zbP x=[9,9,111,117,116,32]++x.name++[32,113,117,101,117,105,110,103,32,115,105,122,101,32]++Lib.itoa x.size++[32,100,101,112,116,104,32]++Lib.itoa x.depth++[59,10] by simp[zbP,hk,ho,zfJ,lnT,zbK,Arg.txt,Lib.repeatL]);rw[ho] at HX HB hz;have k1:=smZ (6+x.name.length);have k2:=smZ (6+x.name.length+14);have k3:=smZ (6+x.name.length+14+D0.size);have k4:=smZ (6+x.name.length+14+D0.size+7);have k5:=smZ (6+x.name.length+14+D0.size+7+D1.size);have k6:=smZ (6+x.name.length+14+D0.size+7+D1.size+2);clear hk ho hn s0 s1 s2
   go_enter func260,ntmps260
   go_wp2_with fail;generalize W.alloc _=w0 at *;obtain⟨c0,c1,c2,c3,c4,c5⟩:=ze2 HX.out;refine zac (W:=w0) (by kernel_rfl) (by kernel_rfl) ?_
   repeat(go_big_quiet_step ((go_at_call 157;first|(with_reducible exact zaj.call (HD0.out _))|(with_reducible exact zaj.call (HD1.out _)))))
   refine wpQuiet_nil ?_;rintro _ ⟨s,rfl⟩;clear c0 c1 c2 c3 c4 c5;go_wp2_with fail;go_ret;exact⟨txt (by rw[HT.out];simp[ByteArray.data_append,t0.out,t1.out]),HB.out.trans (s.below.mono HB.out.size)⟩
  |false=>
   have HT:=zaa (show zbP x=[9,9,105,110,32]++x.name++[32,113,117,101,117,105,110,103,32,115,105,122,101,32]++Lib.itoa x.size++[32,100,101,112,116,104,32]++Lib.itoa x.depth++[59,10] by simp[zbP,hk,ho,zfJ,lnT,zbK,Arg.txt,Lib.repeatL]);rw[ho] at HX HB hz;have k1:=smZ (5+x.name.length);have k2:=smZ (5+x.name.length+14);have k3:=smZ (5+x.name.length+14+D0.size);have k4:=smZ (5+x.name.length+14+D0.size+7);have k5:=smZ (5+x.name.length+14+D0.size+7+D1.size);have k6:=smZ (5+x.name.length+14+D0.size+7+D1.size+2);clear hk ho hn s0 s1 s2
   go_enter func260,ntmps260
   go_wp2_with fail;generalize W.alloc _=w0 at *;obtain⟨c0,c1,c2,c3,c4,c5⟩:=ze2 HX.out;refine zac (W:=w0) (by kernel_rfl) (by kernel_rfl) ?_
   repeat(go_big_quiet_step ((go_at_call 157;first|(with_reducible exact zaj.call (HD0.out _))|(with_reducible exact zaj.call (HD1.out _)))))
   refine wpQuiet_nil ?_;rintro _ ⟨s,rfl⟩;clear c0 c1 c2 c3 c4 c5;go_wp2_with fail;go_ret;exact⟨txt (by rw[HT.out];simp[ByteArray.data_append,t0.out,t1.out]),HB.out.trans (s.below.mono HB.out.size)⟩
theorem zkz (x:za0) (A4:Option Addr) (q4:Nat) (W:World) (h4:Hid (DAt W (fun _=>True) (.slice A4 x.code.length q4) (.row 4 (x.code.map zb3.cells)))) (hF:zdE x=true) (hl:zcb x) (hn:(zcB x).length≤1000000000):
 Calls prog 261 #[.agg #[.string ⟨x.name.toArray⟩,.int .i64 x.prio,.int .i64 x.period,.int .i64 x.limit,.slice A4 x.code.length q4]] W fun e w'=>e= .returned (.string ⟨(zcB x).toArray⟩)∧Below W.heap.size W w':=by
 simp only[zdE,List.all_cons,List.all_nil,Bool.and_eq_true,Bool.and_true] at hF;obtain⟨gw,⟨g0,g1,g2⟩,gc⟩:=hF;have n0:=zdW gw;obtain⟨D0,HD0,s0,t0⟩:=zhk x.prio g0;obtain⟨D1,HD1,s1,t1⟩:=zhk x.period g1;obtain⟨D2,HD2,s2,t2⟩:=zhk x.limit g2;have HF:=zaa gc;have HO:=zaa hl.2;have hln:=hl.1;clear g0 g1 g2 gw gc hl;have HT:=zaa (show zeE x=[9,9,112,114,111,99,32]++x.name++[32,112,114,105,111,32]++Lib.itoa x.prio++[32,112,101,114,105,111,100,32]++Lib.itoa x.period++[32,108,105,109,105,116,32]++Lib.itoa x.limit++[32,123,10] by simp[zeE,lnT,zbK,Arg.txt,Lib.repeatL]);have HL:Hid ((zeE x).length+(zap zeb x.code).length≤1000000000):=zaa (by simp only[zcB,List.length_append] at hn ⊢;omega);have hA:=h4.out;obtain⟨A_,q_,e_,hA⟩:=hA.slice;injection e_ with e1 e2 e3
 subst e1 e3;clear e2;have HA:=zaa hA;clear hA h4;have HX:=zaa (heap_alloc_new W (.cells #[.string ⟨x.name.toArray⟩,.int .i64 x.prio,.int .i64 x.period,.int .i64 x.limit,.slice A4 x.code.length q4] 53));have HB:=zaa ((Below.refl W.heap.size W).alloc (Nat.le_refl _) (.cells #[.string ⟨x.name.toArray⟩,.int .i64 x.prio,.int .i64 x.period,.int .i64 x.limit,.slice A4 x.code.length q4] 53));have hz:W.heap.size<(W.alloc (.cells #[.string ⟨x.name.toArray⟩,.int .i64 x.prio,.int .i64 x.period,.int .i64 x.limit,.slice A4 x.code.length q4] 53)).heap.size:=by simp
 have k1:=smZ (7+x.name.length);have k2:=smZ (7+x.name.length+6);have k3:=smZ (7+x.name.length+6+D0.size);have k4:=smZ (7+x.name.length+6+D0.size+8);have k5:=smZ (7+x.name.length+6+D0.size+8+D1.size);have k6:=smZ (7+x.name.length+6+D0.size+8+D1.size+7);have k7:=smZ (7+x.name.length+6+D0.size+8+D1.size+7+D2.size);have k8:=smZ (7+x.name.length+6+D0.size+8+D1.size+7+D2.size+3);have q0: ¬9223372036854775807<(zeE x++zap zeb x.code).length+4:=by have:=HL.out;rw[List.length_append];omega
 clear hn s0 s1 s2 n0
 go_enter func261,ntmps261
 go_wp2_with fail;generalize W.alloc _=w0 at *;obtain⟨c0,c1,c2,c3,c4⟩:=zbw HX.out;refine zac (W:=w0) (by kernel_rfl) (by kernel_rfl) ?_
 repeat(go_big_quiet_step ((go_at_call 157;first|(with_reducible exact zaj.call (HD0.out _))|(with_reducible exact zaj.call (HD1.out _))|(with_reducible exact zaj.call (HD2.out _)))))
 refine wpQuiet_nil ?_;rintro _ ⟨s,rfl⟩;clear c0 c1 c2 c3 c4;have HX1:=zaa (bkZ s.below HX.out);have HB1:=zaa (HB.out.trans (s.below.mono HB.out.size));generalize s.w=w1 at *;go_wp2_with fail
 go_loopw [3,4] (fun v3 v4 wr=> ∃(k:Nat) (S:ByteArray),k≤x.code.length∧v4= .int .i64 k∧v3= .string S∧S.data.toList=zeE x++zap zeb (x.code.take k)∧Below w1.heap.size w1 wr) (fun _ v4 _=>x.code.length-(intOf v4).toNat)
 case atStart=>exact⟨0,_,by omega,rfl,rfl,by rw[HT.out];simp[ByteArray.data_append,t0.out,t1.out,t2.out,zap],Below.refl _ _⟩
 case round=>
  obtain⟨k,S,hk,rfl,rfl,hS,hbr⟩:=hrel;have HS:=zaa hS;have HR:=zaa hbr;have HBR:=zaa (btZ HB1.out hbr);have HXR:=zaa (bkZ hbr HX1.out);clear hS hbr;by_cases hlt:k<x.code.length
  rotate_left
  ·obtain rfl:k=x.code.length:=by omega
   rw[List.take_length] at HS;clear hlt;obtain⟨c0,c1,c2,c3,c4⟩:=zbw HXR.out;have hs:=congrArg List.length HS.out;rw[Array.length_toList] at hs;have hs:S.size=_:=hs;have q1: ¬9223372036854775807<S.size+4:=by rw[hs];exact q0
   clear hs;go_wp2_with fail;go_ret;exact⟨txt (by simp only[ByteArray.data_append,Array.toList_append,HS.out];rfl),HBR.out⟩
  obtain⟨y,hx⟩: ∃y,x.code[k]? =some y:=⟨_,List.getElem?_eq_getElem hlt⟩;obtain⟨b,off,rfl,hb,hca⟩:=HA.out.at_ hx;obtain⟨u0,d0,g0⟩:=hca 0 _ rfl;obtain⟨u1,d1,g1⟩:=hca 1 _ rfl;obtain⟨u2,d2,g2⟩:=hca 2 _ rfl;obtain⟨u3,d3,g3⟩:=hca 3 _ rfl;clear hca;obtain rfl:=g0.leaf_eq;obtain rfl:=g1.leaf_eq;obtain rfl:=g2.leaf_eq;obtain rfl:=g3.leaf_eq;have d0:=zad HBR.out hb (off+k*4) d0;have d1:=zad HBR.out hb (off+k*4+1) d1;have d2:=zad HBR.out hb (off+k*4+2) d2;have d3:=zad HBR.out hb (off+k*4+3) d3;have k0:=kbZ k x.code.length;have hr:=zat (f:=zeb) hx;have hs:=congrArg List.length HS.out;rw[List.length_append,Array.length_toList] at hs;have hs:S.size=_:=hs;have hS1:=HL.out;have HY:=zaa hx;clear hx;obtain⟨D,hD⟩: ∃D:ByteArray,(⟨(zep y).toArray⟩:ByteArray)=D:=⟨_,rfl⟩;have hF:zeb y=[9,9,9]++zep y++[10]:=by simp[zeb,lnT,zbK,Arg.txt,Lib.repeatL]
  have hDs:D.size=(zep y).length:=by rw[←hD];simp[ByteArray.size]
  have hDt:D.data.toList=zep y:=by rw[←hD]
  rw[hF] at hr;simp only[List.length_append,List.length_cons,List.length_nil] at hr;have HC:=zaa (fun(V:World) (hV:Below W.heap.size W V)=>zgA y (HO.out y (List.mem_of_getElem? HY.out)) V (List.all_eq_true.1 HF.out y (List.mem_of_getElem? HY.out)));rw[hD] at HC;have q1:=smZ (S.size+3);have q2:=smZ (S.size+3+D.size);have q3:=smZ (S.size+3+D.size+1);have HN:=zaa (show(S++⟨#[9,9,9]⟩++D++⟨#[10]⟩).data.toList=zeE x++zap zeb (x.code.take (k+1)) by rw[zaq HY.out,hF];simp only[ByteArray.data_append,Array.toList_append,HS.out,hDt,List.append_assoc]);clear hr hs hS1 hF hDs hDt hD;obtain⟨c0,c1,c2,c3,c4⟩:=zbw HXR.out;go_wp2_with fail;clear c0 c1 c2 c3 c4 d0 d1 d2 d3;refine(HC.out _ HBR.out).mono ?_;rintro e w2 ⟨rfl,hb2⟩;have HR2:=zaa (btZ HR.out hb2);clear hb2 HC;go_wp2_with fail;go_roundw
  case rel=>exact⟨k+1,_,by omega,by go_num,rfl,HN.out,HR2.out⟩
  case measure=>simp[intOf];omega
theorem zkD (x:zaQ) (A4:Option Addr) (q4:Nat) (A7:Option Addr) (q7:Nat) (A8:Option Addr) (q8:Nat) (A9:Option Addr) (q9:Nat) (W:World) (h4:Hid (DAt W (fun _=>True) (.slice A4 x.semas.length q4) (.row 1 (zah x.semas)))) (h7:Hid (DAt W (fun _=>True) (.slice A7 x.bufs.length q7) (.row 1 (zah x.bufs)))) (h8:Hid (DAt W (fun _=>True) (.slice A8 x.ports.length q8) (.row 6 (x.ports.map zaT.cells)))) (h9:Hid (DAt W (fun _=>True) (.slice A9 x.procs.length q9) (.row 5 (x.procs.map za0.cells)))) (hF:zc0 x=true) (hl:zb0 x) (hn:(zcq x).length≤1000000000):
 Calls prog 218 #[.agg #[.string ⟨x.name.toArray⟩,.int .i64 x.period,.int .i64 x.length,.int .i64 x.mem,.slice A4 x.semas.length q4,.int .i64 x.events,.int .i64 x.boards,.slice A7 x.bufs.length q7,.slice A8 x.ports.length q8,.slice A9 x.procs.length q9]] W fun e w'=>e= .returned (.string ⟨(zcq x).toArray⟩)∧Below W.heap.size W w':=by
 simp only[zc0,List.all_cons,List.all_nil,Bool.and_eq_true,Bool.and_true] at hF;obtain⟨gw,⟨g0,g1,g2,g5,g6⟩,g4,g7,g8,g9⟩:=hF;have n0:=zdW gw;obtain⟨D0,HD0,s0,t0⟩:=zhk x.period g0;obtain⟨D1,HD1,s1,t1⟩:=zhk x.length g1;obtain⟨D2,HD2,s2,t2⟩:=zhk x.mem g2;have HG5:=zaa g5;have HG6:=zaa g6;have HG4:=zaa (List.all_eq_true.1 g4);have HG7:=zaa (List.all_eq_true.1 g7);have HF8:=zaa g8;have HF9:=zaa g9;have HO:=zaa hl;clear g0 g1 g2 g4 g5 g6 g7 g8 g9 gw hl;have HT:=zaa (show zbM x=[9,112,97,114,116,32]++x.name++[32,112,101,114,105,111,100,32]++Lib.itoa x.period++[32,108,101,110,103,116,104,32]++Lib.itoa x.length++[32,109,101,109,32]++Lib.itoa x.mem++[32,123,10] by simp[zbM,lnT,zbK,Arg.txt,Lib.repeatL]);have HM:=zaa (show(zbM x).length+(za7 x).length+(zaR x).length+(zaW x).length+(zcA x).length+(zap zbP x.ports).length+(zap zcB x.procs).length≤1000000000 by simp only[zcq,List.length_append] at hn;omega);have hA:=h8.out;obtain⟨A_,q_,e_,hA⟩:=hA.slice;injection e_ with e1 e2 e3
 subst e1 e3;clear e2;have HA8:=zaa hA;clear hA;have hA:=h9.out;obtain⟨A_,q_,e_,hA⟩:=hA.slice;injection e_ with e1 e2 e3
 subst e1 e3;clear e2;have HA9:=zaa hA;clear hA;have HX:=zaa (heap_alloc_new W (.cells #[.string ⟨x.name.toArray⟩,.int .i64 x.period,.int .i64 x.length,.int .i64 x.mem,.slice A4 x.semas.length q4,.int .i64 x.events,.int .i64 x.boards,.slice A7 x.bufs.length q7,.slice A8 x.ports.length q8,.slice A9 x.procs.length q9] 49));have HB:=zaa ((Below.refl W.heap.size W).alloc (Nat.le_refl _) (.cells #[.string ⟨x.name.toArray⟩,.int .i64 x.period,.int .i64 x.length,.int .i64 x.mem,.slice A4 x.semas.length q4,.int .i64 x.events,.int .i64 x.boards,.slice A7 x.bufs.length q7,.slice A8 x.ports.length q8,.slice A9 x.procs.length q9] 49));have hz:W.heap.size<(W.alloc (.cells #[.string ⟨x.name.toArray⟩,.int .i64 x.period,.int .i64 x.length,.int .i64 x.mem,.slice A4 x.semas.length q4,.int .i64 x.events,.int .i64 x.boards,.slice A7 x.bufs.length q7,.slice A8 x.ports.length q8,.slice A9 x.procs.length q9] 49)).heap.size:=by simp
 have k1:=smZ (6+x.name.length);have k2:=smZ (6+x.name.length+8);have k3:=smZ (6+x.name.length+8+D0.size);have k4:=smZ (6+x.name.length+8+D0.size+8);have k5:=smZ (6+x.name.length+8+D0.size+8+D1.size);have k6:=smZ (6+x.name.length+8+D0.size+8+D1.size+5);have k7:=smZ (6+x.name.length+8+D0.size+8+D1.size+5+D2.size);have k8:=smZ (6+x.name.length+8+D0.size+8+D1.size+5+D2.size+3);clear hn s0 s1 s2 n0
 go_enter func218,ntmps218
 go_wp2_with fail;generalize W.alloc _=w0 at *
 go_cut [3] (fun v3 wx=> ∃S,v3= .string S∧Hid (S.data.toList=zbM x)∧Hid (Below w0.heap.size w0 wx))
 case first=>
  as_aux_lemma=>
   obtain⟨c0,c1,c2,c3,c4,c5,c6,c7,c8,c9⟩:=zbU HX.out;refine zac (W:=w0) (by kernel_rfl) (by kernel_rfl) ?_
   repeat(go_big_quiet_step ((go_at_call 157;first|(with_reducible exact zaj.call (HD0.out _))|(with_reducible exact zaj.call (HD1.out _))|(with_reducible exact zaj.call (HD2.out _)))))
   refine wpQuiet_nil ?_;rintro _ ⟨s,rfl⟩;clear c0 c1 c2 c3 c4 c5 c6 c7 c8 c9;go_wp2_with fail;go_meet;exact⟨_,rfl,zaa (by rw[HT.out];simp[ByteArray.data_append,t0.out,t1.out,t2.out]),zaa s.below⟩
 case rest=>
  obtain⟨S,rfl,HS,HBn⟩:=hcut;have HXc:=zaa (bkZ HBn.out HX.out);have HBc:=zaa (HB.out.trans (HBn.out.mono HB.out.size));clear HBn HX HB hz HT HD0 HD1 HD2 t0 t1 t2 k1 k2 k3 k4 k5 k6 k7 k8;obtain⟨wa,rfl⟩: ∃wa,wa=wc:=⟨_,rfl⟩;have hfit:x.semas.length≤140737488355328:=HO.out.1;have HXi:=HXc;have c4:=(zbU HXi.out).2.2.2.2.1
  go_upto_if 28 with fail
  go_cut [3] (fun v3 wx=> ∃S,v3= .string S∧Hid (S.data.toList=zbM x++za7 x)∧Hid (Below wa.heap.size wa wx))
  case first=>
   as_aux_lemma=>
    by_cases hc:x.semas=[]
    ·have he:za7 x=[]:=if_pos hc
     have hn0:x.semas.length=0:=by rw[hc];rfl
     rw[hn0] at c4;clear hc;go_wp2_with fail;go_meet;exact⟨_,rfl,zaa (by rw[he,List.append_nil];exact HS.out),zaa (Below.refl _ _)⟩
    ·have hT:za7 x=[9,9,115,101,109,97,115,32]++zcp x.semas++[59,10]:=by simp[za7,hc,lnT,zbK,Arg.txt,Lib.repeatL]
     have hn1:(0:Int)<(x.semas.length:Int):=by have:=List.length_pos_iff.2 hc;omega
     have hs:=congrArg List.length HS.out;rw[Array.length_toList] at hs;have hs:S.size=_:=hs;have hm:=HM.out;rw[hT] at hm;simp only[List.length_append,List.length_cons,List.length_nil] at hs hm;obtain⟨D,hD⟩: ∃D:ByteArray,(⟨(zcp x.semas).toArray⟩:ByteArray)=D:=⟨_,rfl⟩;have hDs:D.size=(zcp x.semas).length:=by rw[←hD];simp[ByteArray.size]
     have hDt:D.data.toList=zcp x.semas:=by rw[←hD]
     have HC:=zaa (fun V (hV:Below W.heap.size W V)=>zgI _ x.semas V (zaa (h4.out.later hV)) (by have:=hfit;omega) HG4 (by omega));rw[hD] at HC;clear hD;have k1:=smZ (S.size+8);have k2:=smZ (S.size+8+D.size);have k3:=smZ (S.size+8+D.size+2);have HN:=zaa (show(S++⟨#[9,9,115,101,109,97,115,32]⟩++D++⟨#[59,10]⟩).data.toList=zbM x++za7 x by rw[hT];simp only[ByteArray.data_append,Array.toList_append,HS.out,hDt,List.append_assoc]);clear hc hs hm hDs hDt hT;go_wp2_with fail;refine(HC.out _ HBc.out).mono ?_;rintro e w9 ⟨rfl,hb⟩;have HBn:=zaa hb;clear hb HC;go_wp2_with fail;go_meet;exact⟨_,rfl,HN,HBn⟩
  case rest=>
   obtain⟨S_,rfl,HSn,HBn⟩:=hcut;replace HXc:=zaa (bkZ HBn.out HXc.out);replace HBc:=zaa (HBc.out.trans (HBn.out.mono HBc.out.size));clear HXi HS HBn c4;obtain⟨wb,rfl⟩: ∃wb,wb=wc:=⟨_,rfl⟩;obtain⟨S,rfl⟩: ∃S,S=S_:=⟨_,rfl⟩;have HS:=HSn;clear HSn
   skip
   have HXi:=HXc;have c5:=(zbU HXi.out).2.2.2.2.2.1
   go_upto_if 38 with fail
   go_cut [3] (fun v3 wx=> ∃S,v3= .string S∧Hid (S.data.toList=zbM x++za7 x++zaR x)∧Hid (Below wb.heap.size wb wx))
   case first=>
    as_aux_lemma=>
     by_cases hc: ¬0<x.events
     ·have he:zaR x=[]:=if_neg hc
      have hn1: ¬(0:Int)<x.events:=hc;clear hc;go_wp2_with fail;go_meet;exact⟨_,rfl,zaa (by rw[he,List.append_nil];exact HS.out),zaa (Below.refl _ _)⟩
     ·have hT:zaR x=[9,9,101,118,101,110,116,115,32]++Lib.itoa x.events++[59,10]:=by simp[zaR,hc,lnT,zbK,Arg.txt,Lib.repeatL]
      have hn1:(0:Int)<x.events:=by omega
      have hs:=congrArg List.length HS.out;rw[Array.length_toList] at hs;have hs:S.size=_:=hs;have hm:=HM.out;rw[hT] at hm;simp only[List.length_append,List.length_cons,List.length_nil] at hs hm;obtain⟨D,HD,hDs,hDt⟩:=zhk x.events HG5.out;have hDt:=hDt.out;have HC:=zaa (fun V (_:Below W.heap.size W V)=>HD.out V);have k1:=smZ (S.size+9);have k2:=smZ (S.size+9+D.size);have k3:=smZ (S.size+9+D.size+2);have HN:=zaa (show(S++⟨#[9,9,101,118,101,110,116,115,32]⟩++D++⟨#[59,10]⟩).data.toList=zbM x++za7 x++zaR x by rw[hT];simp only[ByteArray.data_append,Array.toList_append,HS.out,hDt,List.append_assoc]);clear hc hs hm hDs hDt hT;go_wp2_with fail;refine(HC.out _ HBc.out).mono ?_;rintro e w9 ⟨rfl,hb⟩;have HBn:=zaa hb;clear hb HC;go_wp2_with fail;go_meet;exact⟨_,rfl,HN,HBn⟩
   case rest=>
    obtain⟨S_,rfl,HSn,HBn⟩:=hcut;replace HXc:=zaa (bkZ HBn.out HXc.out);replace HBc:=zaa (HBc.out.trans (HBn.out.mono HBc.out.size));clear HXi HS HBn c5;obtain⟨wd,rfl⟩: ∃wd,wd=wc:=⟨_,rfl⟩;obtain⟨S,rfl⟩: ∃S,S=S_:=⟨_,rfl⟩;have HS:=HSn;clear HSn
    skip
    have HXi:=HXc;have c6:=(zbU HXi.out).2.2.2.2.2.2.1
    go_upto_if 48 with fail
    go_cut [3] (fun v3 wx=> ∃S,v3= .string S∧Hid (S.data.toList=zbM x++za7 x++zaR x++zaW x)∧Hid (Below wd.heap.size wd wx))
    case first=>
     as_aux_lemma=>
      by_cases hc: ¬0<x.boards
      ·have he:zaW x=[]:=if_neg hc
       have hn1: ¬(0:Int)<x.boards:=hc;clear hc;go_wp2_with fail;go_meet;exact⟨_,rfl,zaa (by rw[he,List.append_nil];exact HS.out),zaa (Below.refl _ _)⟩
      ·have hT:zaW x=[9,9,98,111,97,114,100,115,32]++Lib.itoa x.boards++[59,10]:=by simp[zaW,hc,lnT,zbK,Arg.txt,Lib.repeatL]
       have hn1:(0:Int)<x.boards:=by omega
       have hs:=congrArg List.length HS.out;rw[Array.length_toList] at hs;have hs:S.size=_:=hs;have hm:=HM.out;rw[hT] at hm;simp only[List.length_append,List.length_cons,List.length_nil] at hs hm;obtain⟨D,HD,hDs,hDt⟩:=zhk x.boards HG6.out;have hDt:=hDt.out;have HC:=zaa (fun V (_:Below W.heap.size W V)=>HD.out V);have k1:=smZ (S.size+9);have k2:=smZ (S.size+9+D.size);have k3:=smZ (S.size+9+D.size+2);have HN:=zaa (show(S++⟨#[9,9,98,111,97,114,100,115,32]⟩++D++⟨#[59,10]⟩).data.toList=zbM x++za7 x++zaR x++zaW x by rw[hT];simp only[ByteArray.data_append,Array.toList_append,HS.out,hDt,List.append_assoc]);clear hc hs hm hDs hDt hT;go_wp2_with fail;refine(HC.out _ HBc.out).mono ?_;rintro e w9 ⟨rfl,hb⟩;have HBn:=zaa hb;clear hb HC;go_wp2_with fail;go_meet;exact⟨_,rfl,HN,HBn⟩
    case rest=>
     obtain⟨S_,rfl,HSn,HBn⟩:=hcut;replace HXc:=zaa (bkZ HBn.out HXc.out);replace HBc:=zaa (HBc.out.trans (HBn.out.mono HBc.out.size));clear HXi HS HBn c6;obtain⟨we,rfl⟩: ∃we,we=wc:=⟨_,rfl⟩;obtain⟨S,rfl⟩: ∃S,S=S_:=⟨_,rfl⟩;have HS:=HSn;clear HSn;have hfit:x.bufs.length≤140737488355328:=HO.out.2.1;have HXi:=HXc;have c7:=(zbU HXi.out).2.2.2.2.2.2.2.1
     go_upto_if 59 with fail
     go_cut [3] (fun v3 wx=> ∃S,v3= .string S∧Hid (S.data.toList=zbM x++za7 x++zaR x++zaW x++zcA x)∧Hid (Below we.heap.size we wx))
     case first=>
      as_aux_lemma=>
       by_cases hc:x.bufs=[]
       ·have he:zcA x=[]:=if_pos hc
        have hn0:x.bufs.length=0:=by rw[hc];rfl
        rw[hn0] at c7;clear hc;go_wp2_with fail;go_meet;exact⟨_,rfl,zaa (by rw[he,List.append_nil];exact HS.out),zaa (Below.refl _ _)⟩
       ·have hT:zcA x=[9,9,98,117,102,115,32]++zcp x.bufs++[59,10]:=by simp[zcA,hc,lnT,zbK,Arg.txt,Lib.repeatL]
        have hn1:(0:Int)<(x.bufs.length:Int):=by have:=List.length_pos_iff.2 hc;omega
        have hs:=congrArg List.length HS.out;rw[Array.length_toList] at hs;have hs:S.size=_:=hs;have hm:=HM.out;rw[hT] at hm;simp only[List.length_append,List.length_cons,List.length_nil] at hs hm;obtain⟨D,hD⟩: ∃D:ByteArray,(⟨(zcp x.bufs).toArray⟩:ByteArray)=D:=⟨_,rfl⟩;have hDs:D.size=(zcp x.bufs).length:=by rw[←hD];simp[ByteArray.size]
        have hDt:D.data.toList=zcp x.bufs:=by rw[←hD]
        have HC:=zaa (fun V (hV:Below W.heap.size W V)=>zgI _ x.bufs V (zaa (h7.out.later hV)) (by have:=hfit;omega) HG7 (by omega));rw[hD] at HC;clear hD;have k1:=smZ (S.size+7);have k2:=smZ (S.size+7+D.size);have k3:=smZ (S.size+7+D.size+2);have HN:=zaa (show(S++⟨#[9,9,98,117,102,115,32]⟩++D++⟨#[59,10]⟩).data.toList=zbM x++za7 x++zaR x++zaW x++zcA x by rw[hT];simp only[ByteArray.data_append,Array.toList_append,HS.out,hDt,List.append_assoc]);clear hc hs hm hDs hDt hT;go_wp2_with fail;refine(HC.out _ HBc.out).mono ?_;rintro e w9 ⟨rfl,hb⟩;have HBn:=zaa hb;clear hb HC;go_wp2_with fail;go_meet;exact⟨_,rfl,HN,HBn⟩
     case rest=>
      obtain⟨S_,rfl,HSn,HBn⟩:=hcut;replace HXc:=zaa (bkZ HBn.out HXc.out);replace HBc:=zaa (HBc.out.trans (HBn.out.mono HBc.out.size));clear HXi HS HBn c7;obtain⟨wf,rfl⟩: ∃wf,wf=wc:=⟨_,rfl⟩;obtain⟨S,rfl⟩: ∃S,S=S_:=⟨_,rfl⟩;have HS:=HSn;clear HSn;have HX1:=HXc;have HB1:=HBc;have HL:Hid ((zbM x++za7 x++zaR x++zaW x++zcA x).length+(zap zbP x.ports).length≤1000000000):=zaa (by have hm:=HM.out;simp only[List.length_append];omega);have HL2:Hid ((zbM x++za7 x++zaR x++zaW x++zcA x++zap zbP x.ports).length+(zap zcB x.procs).length≤1000000000):=zaa (by have hm:=HM.out;simp only[List.length_append];omega);have hl8:=HO.out.2.2.1;have hl9:=HO.out.2.2.2.1;have HA:=HA8;go_wp2_with fail
      go_loopw [3,4] (fun v3 v4 wr=> ∃(k:Nat) (S:ByteArray),k≤x.ports.length∧v4= .int .i64 k∧v3= .string S∧S.data.toList=zbM x++za7 x++zaR x++zaW x++zcA x++zap zbP (x.ports.take k)∧Below wf.heap.size wf wr) (fun _ v4 _=>x.ports.length-(intOf v4).toNat)
      case atStart=>exact⟨0,_,by omega,rfl,rfl,by simp only[HS.out,List.take_zero];simp[zap],Below.refl _ _⟩
      case round=>
       obtain⟨k,S,hk,rfl,rfl,hS,hbr⟩:=hrel;have HS:=zaa hS;have HR:=zaa hbr;have HBR:=zaa (btZ HB1.out hbr);have HXR:=zaa (bkZ hbr HX1.out);clear hS hbr;by_cases hlt:k<x.ports.length
       rotate_left
       ·obtain rfl:k=x.ports.length:=by omega
        rw[List.take_length] at HS;clear hlt;obtain⟨c0,c1,c2,c3,c4,c5,c6,c7,c8,c9⟩:=zbU HXR.out;have HX2:=HXR;have HB2:=HBR;have HS2:=HS;clear HX1 HB1 HR HXR HBR HS HL HA;have HL:=HL2;have HA:=HA9;obtain⟨w3,rfl⟩: ∃w3,w3=wr:=⟨_,rfl⟩;go_wp2_with fail;clear c0 c1 c2 c3 c4 c5 c6 c7 c8 c9
        go_loopw [3,5] (fun v3 v5 wr=> ∃(k:Nat) (S:ByteArray),k≤x.procs.length∧v5= .int .i64 k∧v3= .string S∧S.data.toList=zbM x++za7 x++zaR x++zaW x++zcA x++zap zbP x.ports++zap zcB (x.procs.take k)∧Below w3.heap.size w3 wr) (fun _ v5 _=>x.procs.length-(intOf v5).toNat)
        case atStart=>exact⟨0,_,by omega,rfl,rfl,by simp only[HS2.out,List.take_zero];simp[zap],Below.refl _ _⟩
        case round=>
         obtain⟨k,S,hk,rfl,rfl,hS,hbr⟩:=hrel;have HS:=zaa hS;have HR:=zaa hbr;have HBR:=zaa (btZ HB2.out hbr);have HXR:=zaa (bkZ hbr HX2.out);clear hS hbr;by_cases hlt:k<x.procs.length
         rotate_left
         ·obtain rfl:k=x.procs.length:=by omega
          rw[List.take_length] at HS;clear hlt;obtain⟨c0,c1,c2,c3,c4,c5,c6,c7,c8,c9⟩:=zbU HXR.out;have hs:=congrArg List.length HS.out;rw[Array.length_toList] at hs;have hs:S.size=_:=hs;have q1: ¬9223372036854775807<S.size+3:=by rw[hs,List.length_append];have:=HL.out;omega
          clear hs;go_wp2_with fail;go_ret;exact⟨txt (by simp only[ByteArray.data_append,Array.toList_append,HS.out];rfl),HBR.out⟩
         obtain⟨y,hx⟩: ∃y,x.procs[k]? =some y:=⟨_,List.getElem?_eq_getElem hlt⟩;obtain⟨b,off,rfl,hb,hca⟩:=HA.out.at_ hx;obtain⟨u0,d0,g0⟩:=hca 0 _ rfl;obtain⟨u1,d1,g1⟩:=hca 1 _ rfl;obtain⟨u2,d2,g2⟩:=hca 2 _ rfl;obtain⟨u3,d3,g3⟩:=hca 3 _ rfl;obtain⟨u4,d4,g4⟩:=hca 4 _ rfl;clear hca;obtain rfl:=g0.leaf_eq;obtain rfl:=g1.leaf_eq;obtain rfl:=g2.leaf_eq;obtain rfl:=g3.leaf_eq;have HG4:=zaa g4;obtain⟨B4,r4,rfl, -⟩:=g4.slice;clear g4;rw[List.length_map] at HG4 d4;have d0:=zad HBR.out hb (off+k*5) d0;have d1:=zad HBR.out hb (off+k*5+1) d1;have d2:=zad HBR.out hb (off+k*5+2) d2;have d3:=zad HBR.out hb (off+k*5+3) d3;have d4:=zad HBR.out hb (off+k*5+4) d4;simp only[zav] at d0;have k0:=kbZ k x.procs.length;have hr:=zat (f:=zcB) hx;have hs:=congrArg List.length HS.out;rw[List.length_append,Array.length_toList] at hs;have hs:S.size=_:=hs;have hS1:=HL.out;have HY:=zaa hx;clear hx;obtain⟨D,hD⟩: ∃D:ByteArray,(⟨(zcB y).toArray⟩:ByteArray)=D:=⟨_,rfl⟩;have hDs:D.size=(zcB y).length:=by rw[←hD];simp[ByteArray.size]
         have hDt:D.data.toList=zcB y:=by rw[←hD]
         have HC:=zaa (fun(V:World) (hV:Below W.heap.size W V)=>zkz y B4 r4 V (zaa (HG4.out.later hV)) (List.all_eq_true.1 HF9.out y (List.mem_of_getElem? HY.out)) (HO.out.2.2.2.2 y (List.mem_of_getElem? HY.out)) (Nat.le_trans (by have:=zat (f:=zcB) HY.out;omega) HL.out));rw[hD] at HC;have q1:=smZ (S.size+D.size);have HN:=zaa (show(S++D).data.toList=zbM x++za7 x++zaR x++zaW x++zcA x++zap zbP x.ports++zap zcB (x.procs.take (k+1)) by rw[zaq HY.out];simp only[ByteArray.data_append,Array.toList_append,HS.out,hDt,List.append_assoc]);clear hr hs hS1 hDs hDt hD;obtain⟨c0,c1,c2,c3,c4,c5,c6,c7,c8,c9⟩:=zbU HXR.out;go_wp2_with fail;clear c0 c1 c2 c3 c4 c5 c6 c7 c8 c9 d0 d1 d2 d3 d4;refine(HC.out _ HBR.out).mono ?_;rintro e w2 ⟨rfl,hb2⟩;have HR2:=zaa (btZ HR.out hb2);clear hb2 HC;go_wp2_with fail;go_roundw
         case rel=>exact⟨k+1,_,by omega,by go_num,rfl,HN.out,HR2.out⟩
         case measure=>simp[intOf];omega
       obtain⟨y,hx⟩: ∃y,x.ports[k]? =some y:=⟨_,List.getElem?_eq_getElem hlt⟩;obtain⟨b,off,rfl,hb,hca⟩:=HA.out.at_ hx;obtain⟨u0,d0,g0⟩:=hca 0 _ rfl;obtain⟨u1,d1,g1⟩:=hca 1 _ rfl;obtain⟨u2,d2,g2⟩:=hca 2 _ rfl;obtain⟨u3,d3,g3⟩:=hca 3 _ rfl;obtain⟨u4,d4,g4⟩:=hca 4 _ rfl;obtain⟨u5,d5,g5⟩:=hca 5 _ rfl;clear hca;obtain rfl:=g0.leaf_eq;obtain rfl:=g1.leaf_eq;obtain rfl:=g2.leaf_eq;obtain rfl:=g3.leaf_eq;obtain rfl:=g4.leaf_eq;obtain rfl:=g5.leaf_eq;have d0:=zad HBR.out hb (off+k*6) d0;have d1:=zad HBR.out hb (off+k*6+1) d1;have d2:=zad HBR.out hb (off+k*6+2) d2;have d3:=zad HBR.out hb (off+k*6+3) d3;have d4:=zad HBR.out hb (off+k*6+4) d4;have d5:=zad HBR.out hb (off+k*6+5) d5;simp only[zav] at d0;have k0:=kbZ k x.ports.length;have hr:=zat (f:=zbP) hx;have hs:=congrArg List.length HS.out;rw[List.length_append,Array.length_toList] at hs;have hs:S.size=_:=hs;have hS1:=HL.out;have HY:=zaa hx;clear hx;obtain⟨D,hD⟩: ∃D:ByteArray,(⟨(zbP y).toArray⟩:ByteArray)=D:=⟨_,rfl⟩;have hDs:D.size=(zbP y).length:=by rw[←hD];simp[ByteArray.size]
       have hDt:D.data.toList=zbP y:=by rw[←hD]
       have HC:=zaa (fun(V:World) (hV:Below W.heap.size W V)=>zj3 y V (List.all_eq_true.1 HF8.out y (List.mem_of_getElem? HY.out)) (by have:=zdW (by have h:=List.all_eq_true.1 HF8.out y (List.mem_of_getElem? HY.out);simp only[zc5,Bool.and_eq_true] at h;exact h.2.1:zaD y.name=true);omega));rw[hD] at HC;have q1:=smZ (S.size+D.size);have HN:=zaa (show(S++D).data.toList=zbM x++za7 x++zaR x++zaW x++zcA x++zap zbP (x.ports.take (k+1)) by rw[zaq HY.out];simp only[ByteArray.data_append,Array.toList_append,HS.out,hDt,List.append_assoc]);clear hr hs hS1 hDs hDt hD;obtain⟨c0,c1,c2,c3,c4,c5,c6,c7,c8,c9⟩:=zbU HXR.out;go_wp2_with fail;clear c0 c1 c2 c3 c4 c5 c6 c7 c8 c9 d0 d1 d2 d3 d4 d5;refine(HC.out _ HBR.out).mono ?_;rintro e w2 ⟨rfl,hb2⟩;have HR2:=zaa (btZ HR.out hb2);clear hb2 HC;go_wp2_with fail;go_roundw
       case rel=>exact⟨k+1,_,by omega,by go_num,rfl,HN.out,HR2.out⟩
       case measure=>simp[intOf];omega
theorem zlp (x:zcy) (A3:Option Addr) (q3:Nat) (W:World) (h3:Hid (DAt W (fun _=>True) (.slice A3 x.parts.length q3) (.row 10 (x.parts.map zaQ.cells)))) (hF:zeQ x=true) (hl:zdl x) (hn:(zcO x).length≤1000000000):
 Calls prog 153 #[.agg #[.string ⟨x.name.toArray⟩,.int .i64 x.mem,.int .i64 x.frame,.slice A3 x.parts.length q3]] W fun e w'=>e= .returned (.string ⟨(zcO x).toArray⟩)∧Below W.heap.size W w':=by
 simp only[zeQ,List.all_cons,List.all_nil,Bool.and_eq_true,Bool.and_true] at hF;obtain⟨gw,⟨g0,g1⟩,gc⟩:=hF;have n0:=zdW gw;obtain⟨D0,HD0,s0,t0⟩:=zhk x.mem g0;obtain⟨D1,HD1,s1,t1⟩:=zhk x.frame g1;have HF:=zaa gc;have HO:=zaa hl.2;have hln:=hl.1;clear g0 g1 gw gc hl;have HT:=zaa (show zhl x=[109,111,100,117,108,101,32]++x.name++[32,109,101,109,32]++Lib.itoa x.mem++[32,102,114,97,109,101,32]++Lib.itoa x.frame++[32,123,10] by simp[zhl,lnT,zbK,Arg.txt,Lib.repeatL]);have HL:Hid ((zhl x).length+(zap zcq x.parts).length≤1000000000):=zaa (by simp only[zcO,List.length_append] at hn ⊢;omega);have hA:=h3.out;obtain⟨A_,q_,e_,hA⟩:=hA.slice;injection e_ with e1 e2 e3
 subst e1 e3;clear e2;have HA:=zaa hA;clear hA;have HX:=zaa (heap_alloc_new W (.cells #[.string ⟨x.name.toArray⟩,.int .i64 x.mem,.int .i64 x.frame,.slice A3 x.parts.length q3] 44));have HB:=zaa ((Below.refl W.heap.size W).alloc (Nat.le_refl _) (.cells #[.string ⟨x.name.toArray⟩,.int .i64 x.mem,.int .i64 x.frame,.slice A3 x.parts.length q3] 44));have hz:W.heap.size<(W.alloc (.cells #[.string ⟨x.name.toArray⟩,.int .i64 x.mem,.int .i64 x.frame,.slice A3 x.parts.length q3] 44)).heap.size:=by simp
 have k1:=smZ (7+x.name.length);have k2:=smZ (7+x.name.length+5);have k3:=smZ (7+x.name.length+5+D0.size);have k4:=smZ (7+x.name.length+5+D0.size+7);have k5:=smZ (7+x.name.length+5+D0.size+7+D1.size);have k6:=smZ (7+x.name.length+5+D0.size+7+D1.size+3);have q0: ¬9223372036854775807<(zhl x++zap zcq x.parts).length+2:=by have:=HL.out;rw[List.length_append];omega
 clear hn s0 s1 n0
 go_enter func153,ntmps153
 go_wp2_with fail;generalize W.alloc _=w0 at *;obtain⟨c0,c1,c2,c3⟩:=zcf HX.out;refine zac (W:=w0) (by kernel_rfl) (by kernel_rfl) ?_
 repeat(go_big_quiet_step ((go_at_call 157;first|(with_reducible exact zaj.call (HD0.out _))|(with_reducible exact zaj.call (HD1.out _)))))
 refine wpQuiet_nil ?_;rintro _ ⟨s,rfl⟩;clear c0 c1 c2 c3;have HX1:=zaa (bkZ s.below HX.out);have HB1:=zaa (HB.out.trans (s.below.mono HB.out.size));generalize s.w=w1 at *;go_wp2_with fail
 go_loopw [3,4] (fun v3 v4 wr=> ∃(k:Nat) (S:ByteArray),k≤x.parts.length∧v4= .int .i64 k∧v3= .string S∧S.data.toList=zhl x++zap zcq (x.parts.take k)∧Below w1.heap.size w1 wr) (fun _ v4 _=>x.parts.length-(intOf v4).toNat)
 case atStart=>exact⟨0,_,by omega,rfl,rfl,by rw[HT.out];simp[ByteArray.data_append,t0.out,t1.out,zap],Below.refl _ _⟩
 case round=>
  obtain⟨k,S,hk,rfl,rfl,hS,hbr⟩:=hrel;have HS:=zaa hS;have HR:=zaa hbr;have HBR:=zaa (btZ HB1.out hbr);have HXR:=zaa (bkZ hbr HX1.out);clear hS hbr;by_cases hlt:k<x.parts.length
  rotate_left
  ·obtain rfl:k=x.parts.length:=by omega
   rw[List.take_length] at HS;clear hlt;obtain⟨c0,c1,c2,c3⟩:=zcf HXR.out;have hs:=congrArg List.length HS.out;rw[Array.length_toList] at hs;have hs:S.size=_:=hs;rw[←hs] at q0;clear hs;go_wp2_with fail;go_ret;exact⟨txt (by simp only[ByteArray.data_append,Array.toList_append,HS.out];rfl),HBR.out⟩
  obtain⟨y,hx⟩: ∃y,x.parts[k]? =some y:=⟨_,List.getElem?_eq_getElem hlt⟩;obtain⟨b,off,rfl,hb,hca⟩:=HA.out.at_ hx;obtain⟨u0,d0,g0⟩:=hca 0 _ rfl;obtain⟨u1,d1,g1⟩:=hca 1 _ rfl;obtain⟨u2,d2,g2⟩:=hca 2 _ rfl;obtain⟨u3,d3,g3⟩:=hca 3 _ rfl;obtain⟨u4,d4,g4⟩:=hca 4 _ rfl;obtain⟨u5,d5,g5⟩:=hca 5 _ rfl;obtain⟨u6,d6,g6⟩:=hca 6 _ rfl;obtain⟨u7,d7,g7⟩:=hca 7 _ rfl;obtain⟨u8,d8,g8⟩:=hca 8 _ rfl;obtain⟨u9,d9,g9⟩:=hca 9 _ rfl;clear hca;obtain rfl:=g0.leaf_eq;obtain rfl:=g1.leaf_eq;obtain rfl:=g2.leaf_eq;obtain rfl:=g3.leaf_eq;have HG4:=zaa g4;obtain⟨B4,r4,rfl, -⟩:=g4.slice;clear g4;rw[show(zah y.semas).length=y.semas.length by simp[zah]] at HG4 d4;obtain rfl:=g5.leaf_eq;obtain rfl:=g6.leaf_eq;have HG7:=zaa g7;obtain⟨B7,r7,rfl, -⟩:=g7.slice;clear g7;rw[show(zah y.bufs).length=y.bufs.length by simp[zah]] at HG7 d7;have HG8:=zaa g8;obtain⟨B8,r8,rfl, -⟩:=g8.slice;clear g8;rw[List.length_map] at HG8 d8;have HG9:=zaa g9;obtain⟨B9,r9,rfl, -⟩:=g9.slice;clear g9;rw[List.length_map] at HG9 d9;have d0:=zad HBR.out hb (off+k*10) d0;have d1:=zad HBR.out hb (off+k*10+1) d1;have d2:=zad HBR.out hb (off+k*10+2) d2;have d3:=zad HBR.out hb (off+k*10+3) d3;have d4:=zad HBR.out hb (off+k*10+4) d4;have d5:=zad HBR.out hb (off+k*10+5) d5;have d6:=zad HBR.out hb (off+k*10+6) d6;have d7:=zad HBR.out hb (off+k*10+7) d7;have d8:=zad HBR.out hb (off+k*10+8) d8;have d9:=zad HBR.out hb (off+k*10+9) d9;simp only[zav] at d0;have k0:=kbZ k x.parts.length;have hr:=zat (f:=zcq) hx;have hs:=congrArg List.length HS.out;rw[List.length_append,Array.length_toList] at hs;have hs:S.size=_:=hs;have hS1:=HL.out;have HY:=zaa hx;clear hx;obtain⟨D,hD⟩: ∃D:ByteArray,(⟨(zcq y).toArray⟩:ByteArray)=D:=⟨_,rfl⟩;have hDs:D.size=(zcq y).length:=by rw[←hD];simp[ByteArray.size]
  have hDt:D.data.toList=zcq y:=by rw[←hD]
  have HC:=zaa (fun(V:World) (hV:Below W.heap.size W V)=>zkD y B4 r4 B7 r7 B8 r8 B9 r9 V (zaa (HG4.out.later hV)) (zaa (HG7.out.later hV)) (zaa (HG8.out.later hV)) (zaa (HG9.out.later hV)) (List.all_eq_true.1 HF.out y (List.mem_of_getElem? HY.out)) (HO.out y (List.mem_of_getElem? HY.out)) (Nat.le_trans (by have:=zat (f:=zcq) HY.out;omega) HL.out));rw[hD] at HC;have q1:=smZ (S.size+D.size);have HN:=zaa (show(S++D).data.toList=zhl x++zap zcq (x.parts.take (k+1)) by rw[zaq HY.out];simp only[ByteArray.data_append,Array.toList_append,HS.out,hDt,List.append_assoc]);clear hr hs hS1 hDs hDt hD;obtain⟨c0,c1,c2,c3⟩:=zcf HXR.out;go_wp2_with fail;clear c0 c1 c2 c3 d0 d1 d2 d3 d4 d5 d6 d7 d8 d9;refine(HC.out _ HBR.out).mono ?_;rintro e w2 ⟨rfl,hb2⟩;have HR2:=zaa (btZ HR.out hb2);clear hb2 HC;go_wp2_with fail;go_roundw
  case rel=>exact⟨k+1,_,by omega,by go_num,rfl,HN.out,HR2.out⟩
  case measure=>simp[intOf];omega
theorem zgc {l:List UInt8} (h:zcY l=true):l.length≤24:=by
 unfold zcY at h;rw[Bool.or_eq_true] at h;rcases h with h|h
 ·rw[List.isEmpty_iff.1 h];simp
 ·exact zdW h
theorem zhW {K:FuncId} {args:Array Value} {t:List UInt8} (h: ∀V:World,Calls prog K args V fun e w'=>e= .returned (.string ⟨t.toArray⟩)∧Below V.heap.size V w'): ∃D:ByteArray,Hid (∀V:World,Calls prog K args V fun e w'=>e= .returned (.string D)∧Below V.heap.size V w')∧D.size=t.length∧Hid (D.data.toList=t):=
 ⟨⟨t.toArray⟩,zaa h,by simp[ByteArray.size],zaa rfl⟩
theorem zhi (x:zaB) (W:World) (hF:zbe x=true) (hl:zdN x):
 Calls prog 158 #[.agg #[.string ⟨x.module.toArray⟩,.string ⟨x.part.toArray⟩,.int .u8 (x.fault:Int),.int .u8 (x.level:Int),.int .u8 (x.do_:Int)]] W fun e w'=>e= .returned (.string ⟨(zaC x).toArray⟩)∧Below W.heap.size W w':=by
 obtain⟨x_module,x_part,x_fault,x_level,x_do_⟩:=x;obtain⟨h1,h2,h3⟩:=hl;simp only[zbe,Bool.and_eq_true] at h1 h2 h3 hF ⊢;obtain⟨gm,gp, -⟩:=hF;have nm:=zgc gm;have np:=zgc gp;obtain⟨w1_,w2_,w3_⟩:=And.intro (zmI x_fault).1 (And.intro (zmI x_level).2.1 (zmI x_do_).2.2);obtain⟨D0,HD0,s0,t0⟩:=zhW (fun V=>zdi x_fault h1 V);obtain⟨D1,HD1,s1,t1⟩:=zhW (fun V=>zdn x_level h2 V);obtain⟨D2,HD2,s2,t2⟩:=zhW (fun V=>zcX x_do_ h3 V);clear h1 h2 h3 gm gp;have HX:=zaa (heap_alloc_new W (.cells #[.string ⟨x_module.toArray⟩,.string ⟨x_part.toArray⟩,.int .u8 (x_fault:Int),.int .u8 (x_level:Int),.int .u8 (x_do_:Int)] 73));have HB:=zaa ((Below.refl W.heap.size W).alloc (Nat.le_refl _) (.cells #[.string ⟨x_module.toArray⟩,.string ⟨x_part.toArray⟩,.int .u8 (x_fault:Int),.int .u8 (x_level:Int),.int .u8 (x_do_:Int)] 73));by_cases hm:x_module=[]
 ·subst hm
  by_cases hp:x_part=[]
  ·subst hp
   have HT:=zaa (show zaC ⟨[],[],x_fault,x_level,x_do_⟩=[111,110,32]++zaf zal x_fault++[32,108,101,118,101,108,32]++zaf zai x_level++[32,100,111,32]++zaf zag x_do_++[59,10] by simp[zaC,zef,lnT,zbK,Arg.txt,Lib.repeatL]);have k1:=smZ (3+D0.size);have k2:=smZ (3+D0.size+7);have k3:=smZ (3+D0.size+7+D1.size);have k4:=smZ (3+D0.size+7+D1.size+4);have k5:=smZ (3+D0.size+7+D1.size+4+D2.size);have k6:=smZ (3+D0.size+7+D1.size+4+D2.size+2);clear s0 s1 s2 w1_ w2_ w3_ nm np
   go_enter func158,ntmps158
   go_wp2_with fail;generalize W.alloc _=w0 at *;refine(HD0.out _).mono ?_;rintro e w1 ⟨rfl,hb⟩;replace HX:=zaa (bkZ hb HX.out);replace HB:=zaa (btZ HB.out hb);clear hb;obtain⟨c0,c1,c2,c3,c4⟩:=zbw HX.out;go_wp2_with fail;have hz:=zau HX.out;refine zac (W:=w1) (by kernel_rfl) (by kernel_rfl) ?_
   repeat(go_big_quiet_step (first|(go_at_call 188;exact zaj.call (HD1.out _))|(go_at_call 189;exact zaj.call (HD2.out _))))
   refine wpQuiet_nil ?_;rintro _ ⟨s,rfl⟩;clear c0 c1 c2 c3 c4;go_wp2_with fail;go_ret;exact⟨txt (by rw[HT.out];simp[ByteArray.data_append,t0.out,t1.out,t2.out]),HB.out.trans (s.below.mono HB.out.size)⟩
  ·have e2:x_part.isEmpty=false:=by simpa using hp
   have HT:=zaa (show zaC ⟨[],x_part,x_fault,x_level,x_do_⟩=[111,110,32]++zaf zal x_fault++[32,112,97,114,116,32]++x_part++[32,108,101,118,101,108,32]++zaf zai x_level++[32,100,111,32]++zaf zag x_do_++[59,10] by simp[zaC,zef,lnT,zbK,Arg.txt,Lib.repeatL,hp]);have k1:=smZ (3+D0.size);have k2:=smZ (3+D0.size+6);have k3:=smZ (3+D0.size+6+x_part.length);have k4:=smZ (3+D0.size+6+x_part.length+7);have k5:=smZ (3+D0.size+6+x_part.length+7+D1.size);have k6:=smZ (3+D0.size+6+x_part.length+7+D1.size+4);have k7:=smZ (3+D0.size+6+x_part.length+7+D1.size+4+D2.size);have k8:=smZ (3+D0.size+6+x_part.length+7+D1.size+4+D2.size+2);clear hp s0 s1 s2 w1_ w2_ w3_ nm np
   go_enter func158,ntmps158
   go_wp2_with fail;generalize W.alloc _=w0 at *;refine(HD0.out _).mono ?_;rintro e w1 ⟨rfl,hb⟩;replace HX:=zaa (bkZ hb HX.out);replace HB:=zaa (btZ HB.out hb);clear hb;obtain⟨c0,c1,c2,c3,c4⟩:=zbw HX.out;go_wp2_with fail;have hz:=zau HX.out;refine zac (W:=w1) (by kernel_rfl) (by kernel_rfl) ?_
   repeat(go_big_quiet_step (first|(go_at_call 188;exact zaj.call (HD1.out _))|(go_at_call 189;exact zaj.call (HD2.out _))))
   refine wpQuiet_nil ?_;rintro _ ⟨s,rfl⟩;clear c0 c1 c2 c3 c4;go_wp2_with fail;go_ret;exact⟨txt (by rw[HT.out];simp[ByteArray.data_append,t0.out,t1.out,t2.out]),HB.out.trans (s.below.mono HB.out.size)⟩
 skip
 ·have e1:x_module.isEmpty=false:=by simpa using hm
  by_cases hp:x_part=[]
  ·subst hp
   have HT:=zaa (show zaC ⟨x_module,[],x_fault,x_level,x_do_⟩=[111,110,32]++zaf zal x_fault++[32,109,111,100,117,108,101,32]++x_module++[32,108,101,118,101,108,32]++zaf zai x_level++[32,100,111,32]++zaf zag x_do_++[59,10] by simp[zaC,zef,lnT,zbK,Arg.txt,Lib.repeatL,hm]);have k1:=smZ (3+D0.size);have k2:=smZ (3+D0.size+8);have k3:=smZ (3+D0.size+8+x_module.length);have k4:=smZ (3+D0.size+8+x_module.length+7);have k5:=smZ (3+D0.size+8+x_module.length+7+D1.size);have k6:=smZ (3+D0.size+8+x_module.length+7+D1.size+4);have k7:=smZ (3+D0.size+8+x_module.length+7+D1.size+4+D2.size);have k8:=smZ (3+D0.size+8+x_module.length+7+D1.size+4+D2.size+2);clear hm s0 s1 s2 w1_ w2_ w3_ nm np
   go_enter func158,ntmps158
   go_wp2_with fail;generalize W.alloc _=w0 at *;refine(HD0.out _).mono ?_;rintro e w1 ⟨rfl,hb⟩;replace HX:=zaa (bkZ hb HX.out);replace HB:=zaa (btZ HB.out hb);clear hb;obtain⟨c0,c1,c2,c3,c4⟩:=zbw HX.out;go_wp2_with fail;have hz:=zau HX.out;refine zac (W:=w1) (by kernel_rfl) (by kernel_rfl) ?_
   repeat(go_big_quiet_step (first|(go_at_call 188;exact zaj.call (HD1.out _))|(go_at_call 189;exact zaj.call (HD2.out _))))
   refine wpQuiet_nil ?_;rintro _ ⟨s,rfl⟩;clear c0 c1 c2 c3 c4;go_wp2_with fail;go_ret;exact⟨txt (by rw[HT.out];simp[ByteArray.data_append,t0.out,t1.out,t2.out]),HB.out.trans (s.below.mono HB.out.size)⟩
  ·have e2:x_part.isEmpty=false:=by simpa using hp
   have HT:=zaa (show zaC ⟨x_module,x_part,x_fault,x_level,x_do_⟩=[111,110,32]++zaf zal x_fault++[32,109,111,100,117,108,101,32]++x_module++[32,112,97,114,116,32]++x_part++[32,108,101,118,101,108,32]++zaf zai x_level++[32,100,111,32]++zaf zag x_do_++[59,10] by simp[zaC,zef,lnT,zbK,Arg.txt,Lib.repeatL,hm,hp]);have k1:=smZ (3+D0.size);have k2:=smZ (3+D0.size+8);have k3:=smZ (3+D0.size+8+x_module.length);have k4:=smZ (3+D0.size+8+x_module.length+6);have k5:=smZ (3+D0.size+8+x_module.length+6+x_part.length);have k6:=smZ (3+D0.size+8+x_module.length+6+x_part.length+7);have k7:=smZ (3+D0.size+8+x_module.length+6+x_part.length+7+D1.size);have k8:=smZ (3+D0.size+8+x_module.length+6+x_part.length+7+D1.size+4);have k9:=smZ (3+D0.size+8+x_module.length+6+x_part.length+7+D1.size+4+D2.size);have k10:=smZ (3+D0.size+8+x_module.length+6+x_part.length+7+D1.size+4+D2.size+2);clear hm hp s0 s1 s2 w1_ w2_ w3_ nm np
   go_enter func158,ntmps158
   go_wp2_with fail;generalize W.alloc _=w0 at *;refine(HD0.out _).mono ?_;rintro e w1 ⟨rfl,hb⟩;replace HX:=zaa (bkZ hb HX.out);replace HB:=zaa (btZ HB.out hb);clear hb;obtain⟨c0,c1,c2,c3,c4⟩:=zbw HX.out;go_wp2_with fail;have hz:=zau HX.out;refine zac (W:=w1) (by kernel_rfl) (by kernel_rfl) ?_
   repeat(go_big_quiet_step (first|(go_at_call 188;exact zaj.call (HD1.out _))|(go_at_call 189;exact zaj.call (HD2.out _))))
   refine wpQuiet_nil ?_;rintro _ ⟨s,rfl⟩;clear c0 c1 c2 c3 c4;go_wp2_with fail;go_ret;exact⟨txt (by rw[HT.out];simp[ByteArray.data_append,t0.out,t1.out,t2.out]),HB.out.trans (s.below.mono HB.out.size)⟩
def zgU (l:List (List UInt8)) (k:Nat):List UInt8:=if k=0 then[] else[32,117,110,108,101,115,115,32]++Lib.join (l.take k) zcZ
theorem zgz {l:List (List UInt8)} {k:Nat} {x:List UInt8} (h:l[k]? =some x):zgU l (k+1)=zgU l k++(if k=0 then[32,117,110,108,101,115,115,32] else zcZ)++x:=by
 have hj:=zcP (fun s=>s) l k x h;simp only[List.map_id'] at hj;unfold zgU;rw[if_neg (by omega),hj];by_cases h0:k=0
 ·subst h0;simp[Lib.join]
 ·rw[if_neg h0,if_neg h0,if_neg h0];simp
theorem zkU (l:List (List UInt8)):zgU l l.length=if l=[] then[] else[32,117,110,108,101,115,115,32]++Lib.join l zcZ:=by
 unfold zgU
 cases l with
 |nil=>simp
 |cons a l=>simp
theorem zkA {l:List (List UInt8)} {k:Nat} {x:List UInt8} (h:l[k]? =some x):(zgU l k).length+8+x.length≤(zgU l l.length).length+8:=by
 have h2:=zfL (fun s=>s) l (l.length-(k+1)) (k+1) (by have:=(List.getElem?_eq_some_iff.1 h).1;omega);have h3:=zgz h;have h4:=congrArg List.length h3;have h5:(zgU l (k+1)).length≤(zgU l l.length).length:=by
  unfold zgU;rw[if_neg (by omega),if_neg (by have:=(List.getElem?_eq_some_iff.1 h).1;omega),List.length_append,List.length_append,List.take_length];simp only[List.map_id'] at h2
  omega
 simp only[List.length_append] at h4
 omega
theorem zic (x:zaF) (A1:Option Addr) (q1:Nat) (A2:Option Addr) (q2:Nat) (W:World) (h1:Hid (DAt W (fun _=>True) (.slice A1 x.needs.length q1) (.row 2 (x.needs.map zcu.cells)))) (h2:Hid (DAt W (fun _=>True) (.slice A2 x.but.length q2) (.row 1 (zao x.but)))) (hF:zch x=true) (hl:zbR x) (hn:(zbg x).length≤1000000000):
 Calls prog 159 #[.agg #[.string ⟨x.unit.toArray⟩,.slice A1 x.needs.length q1,.slice A2 x.but.length q2]] W fun e w'=>e= .returned (.string ⟨(zbg x).toArray⟩)∧Below W.heap.size W w':=by
 simp only[zch,List.all_cons,Bool.and_eq_true] at hF;obtain⟨⟨gw, -⟩, -,gc⟩:=hF;have n0:=zdW gw;have HF:=zaa gc;have hn1:=hl.1;have hn2:=hl.2;clear gw gc hl;have hT:zbg x=[99,97,117,115,101,32]++x.unit++[32,110,101,101,100,115,32]++zdk x.needs++zgU x.but x.but.length++[59,10]:=by
  rw[zkU];by_cases hb:x.but=[]<;>simp[zbg,zes,lnT,zbK,Arg.txt,Lib.repeatL,hb]
 obtain⟨PRE,hP⟩: ∃p,[99,97,117,115,101,32]++x.unit++[32,110,101,101,100,115,32]=p:=⟨_,rfl⟩;have HP0:=zaa hP;rw[hP] at hT;clear hP;rw[hT] at hn ⊢;simp only[List.length_append,List.length_cons,List.length_nil] at hn;have HL:=zaa hn;clear hn hT;have hA:=h1.out;obtain⟨A_,q_,e_,hA⟩:=hA.slice;injection e_ with e1 e2 e3
 subst e1 e3;clear e2;have HA1:=zaa hA;clear hA;have hA:=h2.out;obtain⟨A_,q_,e_,hA⟩:=hA.slice;injection e_ with e1 e2 e3
 subst e1 e3;clear e2;have HA2:=zaa hA;clear hA;have HX:=zaa (heap_alloc_new W (.cells #[.string ⟨x.unit.toArray⟩,.slice A1 x.needs.length q1,.slice A2 x.but.length q2] 65));have HB:=zaa ((Below.refl W.heap.size W).alloc (Nat.le_refl _) (.cells #[.string ⟨x.unit.toArray⟩,.slice A1 x.needs.length q1,.slice A2 x.but.length q2] 65));have hz:W.heap.size<(W.alloc (.cells #[.string ⟨x.unit.toArray⟩,.slice A1 x.needs.length q1,.slice A2 x.but.length q2] 65)).heap.size:=by simp
 have k1:=smZ (6+x.unit.length);have k2:=smZ (6+x.unit.length+7)
 go_enter func159,ntmps159
 go_wp2_with fail;generalize W.alloc _=w0 at *
 go_loopw [3,4] (fun v3 v4 wr=> ∃(k:Nat) (S:ByteArray),k≤x.needs.length∧v4= .int .i64 k∧v3= .string S∧S.data.toList=PRE++Lib.join ((x.needs.take k).map zeP) zcZ∧Below w0.heap.size w0 wr) (fun _ v4 _=>x.needs.length-(intOf v4).toNat)
 case atStart=>exact⟨0,_,by omega,rfl,rfl,by rw[←HP0.out];simp[ByteArray.data_append,Lib.join_nil],Below.refl _ _⟩
 case round=>
  obtain⟨k,S,hk,rfl,rfl,hS,hbr⟩:=hrel;have HS:=zaa hS;have HR:=zaa hbr;have HBR:=zaa (btZ HB.out hbr);have HXR:=zaa (bkZ hbr HX.out);clear hS hbr;by_cases hlt:k<x.needs.length
  rotate_left
  ·obtain rfl:k=x.needs.length:=by omega
   rw[List.take_length] at HS;clear hlt;have HX2:=HXR;have HB2:=HBR;have HS2:=zaa (show S.data.toList=PRE++zdk x.needs from HS.out);clear HX HB HR HXR HBR HS;obtain⟨w3,rfl⟩: ∃w3,w3=wr:=⟨_,rfl⟩;obtain⟨c0,c1,c2⟩:=zdy HX2.out;go_wp2_with fail;clear c0 c1 c2
   go_loopw [3,5] (fun v3 v5 wr=> ∃(k:Nat) (S:ByteArray),k≤x.but.length∧v5= .int .i64 k∧v3= .string S∧S.data.toList=PRE++zdk x.needs++zgU x.but k∧Below w3.heap.size w3 wr) (fun _ v5 _=>x.but.length-(intOf v5).toNat)
   case atStart=>exact⟨0,_,by omega,rfl,rfl,by rw[HS2.out];simp[zgU],Below.refl _ _⟩
   case round=>
    obtain⟨k,S,hk,rfl,rfl,hS,hbr⟩:=hrel;have HS:=zaa hS;have HR:=zaa hbr;have HBR:=zaa (btZ HB2.out hbr);have HXR:=zaa (bkZ hbr HX2.out);clear hS hbr;have hs:=congrArg List.length HS.out;rw[Array.length_toList] at hs;have hs:S.size=_:=hs;simp only[List.length_append] at hs;have hL:=HL.out;by_cases hlt:k<x.but.length
    rotate_left
    ·obtain rfl:k=x.but.length:=by omega
     have q1:=smZ (S.size+2);clear hlt hs hL;obtain⟨c0,c1,c2⟩:=zdy HXR.out;go_wp2_with fail;go_ret;exact⟨txt (by simp only[ByteArray.data_append,Array.toList_append,HS.out]),HBR.out⟩
    obtain⟨y,hx⟩: ∃y,x.but[k]? =some y:=⟨_,List.getElem?_eq_getElem hlt⟩;obtain⟨b,off,rfl,hb,hca⟩:=HA2.out.at_ (cells:=fun s:List UInt8=>[lS s]) hx;obtain⟨u0,d0,g0⟩:=hca 0 _ rfl;clear hca;obtain rfl:=g0.leaf_eq;rw[Nat.mul_one,Nat.add_zero] at d0;have d0:=zad HBR.out hb (off+k) d0;simp only[zav] at d0;have k0:=kbZ k x.but.length;have hr:=zkA hx;have hst:=zgz hx;clear hx;by_cases hk0:k=0
    ·subst hk0
     rw[if_pos rfl] at hst;have q1:=smZ (S.size+8);have q2:=smZ (S.size+8+y.length);have HN:=zaa (show(S++⟨#[32,117,110,108,101,115,115,32]⟩++⟨y.toArray⟩).data.toList=PRE++zdk x.needs++zgU x.but (0+1) by rw[hst];simp only[ByteArray.data_append,Array.toList_append,HS.out,List.append_assoc]);simp only[Nat.add_zero] at d0;clear hr hs hL hst;obtain⟨c0,c1,c2⟩:=zdy HXR.out;go_wp2_with fail;go_roundw
     case rel=>exact⟨0+1,_,by omega,rfl,rfl,HN.out,HR.out⟩
     case measure=>simp[intOf];omega
    ·have e1:((k:Int)==0)=false:=by simpa using(by omega:(k:Int)≠0)
     rw[if_neg hk0] at hst;have q1:=smZ (S.size+2);have q2:=smZ (S.size+2+y.length);have HN:=zaa (show(S++⟨#[44,32]⟩++⟨y.toArray⟩).data.toList=PRE++zdk x.needs++zgU x.but (k+1) by rw[hst];simp only[ByteArray.data_append,Array.toList_append,HS.out,List.append_assoc,zcZ]);clear hr hs hL hst hk0;obtain⟨c0,c1,c2⟩:=zdy HXR.out;go_wp2_with fail;go_roundw
     case rel=>exact⟨k+1,_,by omega,by go_num,rfl,HN.out,HR.out⟩
     case measure=>simp[intOf];omega
  obtain⟨y,hx⟩: ∃y,x.needs[k]? =some y:=⟨_,List.getElem?_eq_getElem hlt⟩;obtain⟨b,off,rfl,hb,hca⟩:=HA1.out.at_ hx;obtain⟨u0,d0,g0⟩:=hca 0 _ rfl;obtain⟨u1,d1,g1⟩:=hca 1 _ rfl;clear hca;obtain rfl:=g0.leaf_eq;obtain rfl:=g1.leaf_eq;have d0:=zad HBR.out hb (off+k*2) d0;have d1:=zad HBR.out hb (off+k*2+1) d1;simp only[zav] at d0;have hbw:b<wr.heap.size:=Nat.lt_of_lt_of_le hb HBR.out.size;have hzw:=zau HXR.out;have k0:=kbZ k x.needs.length;have hr:=zeC zeP x.needs k y hx;have hst:=zcP zeP x.needs k y hx;have hs:=congrArg List.length HS.out;rw[List.length_append,Array.length_toList] at hs;have hs:S.size=_:=hs;have hL:=HL.out;have hrr:(Lib.join (x.needs.map zeP) zcZ).length=(zdk x.needs).length:=rfl;have hy:(zeP y).length=y.unit.length+1+(Lib.itoa y.code).length:=by simp[zeP];omega
  have hF:=List.all_eq_true.1 HF.out y (List.mem_of_getElem? hx);simp only[zf1,List.all_cons,List.all_nil,Bool.and_eq_true,Bool.and_true] at hF;obtain⟨D,HD,hDs,hDt⟩:=zhk y.code hF.2;have hDl:D.size=(Lib.itoa y.code).length:=by rw[←hDt.out];exact Array.length_toList.symm
  clear hx hF;by_cases hk0:k=0
  ·subst hk0
   rw[if_pos rfl] at hst hr;have q1:=smZ (S.size+y.unit.length);have q2:=smZ (S.size+y.unit.length+1);have q3:=smZ (S.size+y.unit.length+1+D.size);have HN:=zaa (show(S++⟨y.unit.toArray⟩++⟨#[58]⟩++D).data.toList=PRE++Lib.join ((x.needs.take (0+1)).map zeP) zcZ by rw[hst];simp only[ByteArray.data_append,Array.toList_append,HS.out,hDt.out,zeP,List.append_assoc,zcZ];simp);simp only[Nat.zero_mul,Nat.add_zero] at d0 d1;clear hr hs hL hst hrr hy hDs hDl;obtain⟨c0,c1,c2⟩:=zdy HXR.out;go_wp2_with fail;refine zac (W:=wr) (by kernel_rfl) (by kernel_rfl) ?_
   repeat(go_big_quiet_step ((go_at_call 157;exact zaj.call (HD.out _))))
   refine wpQuiet_nil ?_;rintro _ ⟨s,rfl⟩;clear c0 c1 c2 d0 d1;go_wp2_with fail;go_roundw
   case rel=>exact⟨0+1,_,by omega,rfl,rfl,HN.out,HR.out.trans (s.below.mono HR.out.size)⟩
   case measure=>simp[intOf];omega
  ·have e1:(0:Int)<(k:Int):=by omega
   rw[if_neg hk0] at hst hr;have q1:=smZ (S.size+2);have q2:=smZ (S.size+2+y.unit.length);have q3:=smZ (S.size+2+y.unit.length+1);have q4:=smZ (S.size+2+y.unit.length+1+D.size);have HN:=zaa (show(S++⟨#[44,32]⟩++⟨y.unit.toArray⟩++⟨#[58]⟩++D).data.toList=PRE++Lib.join ((x.needs.take (k+1)).map zeP) zcZ by rw[hst];simp only[ByteArray.data_append,Array.toList_append,HS.out,hDt.out,zeP,List.append_assoc,zcZ]);clear hr hs hL hst hrr hy hDs hDl hk0;obtain⟨c0,c1,c2⟩:=zdy HXR.out;go_wp2_with fail;refine zac (W:=wr) (by kernel_rfl) (by kernel_rfl) ?_
   repeat(go_big_quiet_step ((go_at_call 157;exact zaj.call (HD.out _))))
   refine wpQuiet_nil ?_;rintro _ ⟨s,rfl⟩;clear c0 c1 c2 d0 d1;go_wp2_with fail;go_roundw
   case rel=>exact⟨k+1,_,by omega,by go_num,rfl,HN.out,HR.out.trans (s.below.mono HR.out.size)⟩
   case measure=>simp[intOf];omega
end Go.Proofs.YtgbfaompondolaaGreatDoor
