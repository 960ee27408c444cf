/- Merged texts of the walks and of the plain laws on which the statement leans.-/
import Derived.Test.YtlngbjphagnloaaGreatDoorPk1
import Derived.Test.YtlngbjphagnloaaGreatDoorPk7
set_option maxHeartbeats 4000000
set_option maxRecDepth 100000
namespace Go.Proofs.YtlngbjphagnloaaGreatDoor
open Tryz
open Go.RowKit
attribute [local go_sem] zax.cell zbW
theorem zlc (x y:zca) (ua4 ub4:Value) (W:World) (Ha4:Hid (DAt W (fun _=>True) ua4 (.row 4 (x.code.map zcQ.cells)))) (Hb4:Hid (DAt W (fun _=>True) ub4 (.row 4 (y.code.map zcQ.cells)))) (hx:x.sm) (hy:y.sm):
 Calls prog 184 #[.agg #[zbj x.name,.int .i64 x.prio,.int .i64 x.period,.int .i64 x.limit,ua4],.agg #[zbj y.name,.int .i64 y.prio,.int .i64 y.period,.int .i64 y.limit,ub4]] W fun e w'=>e= .returned (.bool (eqB x y))∧Below W.heap.size W w':=by
 unfold zbj;obtain⟨p0,p1,p2,p3,p4⟩:=x;obtain⟨q0,q1,q2,q3,q4⟩:=y;dsimp only at *;have HSX:Hid _:=hx;have HSY:Hid _:=hy;clear hx hy;have HC4:=zaa (fun(V:World) (hb:Below W.heap.size W V)=>zhF ua4 ub4 p4 q4 V (zaa (Ha4.out.later hb)) (zaa (Hb4.out.later hb)) HSX.out HSY.out);obtain⟨EQ,hEQ⟩: ∃b,eqB (⟨p0,p1,p2,p3,p4⟩:zca) ⟨q0,q1,q2,q3,q4⟩=b:=⟨_,rfl⟩;rw[hEQ];clear Ha4 Hb4 HSX HSY;rcases dS p0 q0 with h|rfl
 rotate_left;rcases dI p1 q1 with⟨h,g⟩|rfl
 rotate_left;rcases dI p2 q2 with⟨h,g⟩|rfl
 rotate_left;rcases dI p3 q3 with⟨h,g⟩|rfl
 rotate_left;rcases dR p4 q4 with h|rfl
 rotate_left
 all_goals
  first
   |have hq:EQ=true:=hEQ.symm.trans (zaT rfl)
   |have hq:EQ=false:=hEQ.symm.trans (zbm (by intro e;cases e;simp[zbW] at h))
  subst hq;clear hEQ
  (try generalize(⟨p0.toArray⟩:ByteArray)=xB0 at *)
  (try generalize(⟨q0.toArray⟩:ByteArray)=yB0 at *)
  go_enter func184,ntmps184
  go_wp2_with fail
  try
   with_reducible refine(HC4.out _ (((Below.refl _ W).alloc (Nat.le_refl _) _).alloc (by simp) _)).mono ?_
   rintro e w4 ⟨rfl,hb4⟩;have HB4:=zaa ((((Below.refl _ W).alloc (Nat.le_refl _) _).alloc (by simp) _:Below W.heap.size W _).trans (hb4.mono (by simp;omega)));have hz4:W.heap.size+1<w4.heap.size:=by have:=hb4.size;simp at this;omega
   have hy4:W.heap.size<w4.heap.size:=by omega
   obtain⟨hc4,hf4⟩:=zdz hb4;clear hb4;go_wp2_with fail
  go_ret
  first
   |exact⟨rfl,HB4.out⟩
   |exact⟨rfl,(((Below.refl _ W).alloc (Nat.le_refl _) _).alloc (by simp) _)⟩
theorem zj5 (va vb:Value) (la lb:List zca) (W:World) (Ha:Hid (DAt W (fun _=>True) va (.row 5 (la.map zca.cells)))) (Hb:Hid (DAt W (fun _=>True) vb (.row 5 (lb.map zca.cells)))) (hla:la.length≤1099511627776) (_hlb:lb.length≤1099511627776) (hwa: ∀x∈la,x.sm) (hwb: ∀x∈lb,x.sm):
 Calls prog 167 #[va,vb] W fun e w'=>e= .returned (.bool (eqB la lb))∧Below W.heap.size W w':=by
 have HWA:=zaa hwa;have HWB:=zaa hwb;clear hwa hwb;obtain⟨A,c,rfl,hA⟩:=Ha.out.slice;obtain⟨A',c',rfl,hB⟩:=Hb.out.slice;have HA:=zaa hA;have HB:=zaa hB;clear hA hB Ha Hb;rw[List.length_map,List.length_map];by_cases hn:la.length=lb.length
 rotate_left
 ·have hd:((la.length:Int)==((lb.length:Nat):Int))=false:=by rw[beq_eq_false_iff_ne];omega
  have hd2:((la.length:Int) != ((lb.length:Nat):Int))=true:=by simp;omega
  have HNE:=zaa (zbm (fun e:la=lb=>hn (congrArg List.length e)));clear hn
  go_enter func167,ntmps167
  go_wp2_with fail;go_ret;exact⟨zap HNE.out.symm,Below.refl _ _⟩
 rw[←hn];have HN:=zaa hn;clear hn
 go_enter func167,ntmps167
 go_wp2_with fail
 go_loopw [5] (fun v5 wr=> ∃k:Nat,k≤la.length∧v5= .int .i64 k∧la.take k=lb.take k∧Below W.heap.size W wr) (fun v5 _=>la.length-(intOf v5).toNat)
 case atStart=>exact⟨0,by omega,rfl,rfl,Below.refl _ _⟩
 case round=>
  obtain⟨k,hk,rfl,ht,hbr⟩:=hrel;have HT:=zaa ht;have HBR:=zaa hbr;clear ht hbr;by_cases hlt:k<la.length
  rotate_left
  ·have HEQ:=zaa (zaT (zbe HT.out hlt HN.out))
   have hdl:decide ((k:Int)<((la.length:Nat):Int))=false:=by simp;omega
   go_wp2_with fail;go_ret;exact⟨zap HEQ.out.symm,HBR.out⟩
  obtain⟨x,hx⟩:=zhG hlt;obtain⟨y,hy⟩: ∃y,lb[k]? =some y:=⟨_,List.getElem?_eq_getElem (by have:=HN.out;omega)⟩;obtain⟨b,off,rfl,hb,hca⟩:=HA.out.at_ hx;obtain⟨b',off',rfl,hb',hcb⟩:=HB.out.at_ hy;have c0:wr.cell? ⟨b,off+k*5,none⟩=some (zbj x.name):=lc HBR.out hb (hca 0 _ rfl);have d0:wr.cell? ⟨b',off'+k*5,none⟩=some (zbj y.name):=lc HBR.out hb' (hcb 0 _ rfl);have c1:wr.cell? ⟨b,off+k*5+1,none⟩=some (Value.int .i64 x.prio):=lc HBR.out hb (hca 1 _ rfl);have d1:wr.cell? ⟨b',off'+k*5+1,none⟩=some (Value.int .i64 y.prio):=lc HBR.out hb' (hcb 1 _ rfl);have c2:wr.cell? ⟨b,off+k*5+2,none⟩=some (Value.int .i64 x.period):=lc HBR.out hb (hca 2 _ rfl);have d2:wr.cell? ⟨b',off'+k*5+2,none⟩=some (Value.int .i64 y.period):=lc HBR.out hb' (hcb 2 _ rfl);have c3:wr.cell? ⟨b,off+k*5+3,none⟩=some (Value.int .i64 x.limit):=lc HBR.out hb (hca 3 _ rfl);have d3:wr.cell? ⟨b',off'+k*5+3,none⟩=some (Value.int .i64 y.limit):=lc HBR.out hb' (hcb 3 _ rfl);obtain⟨ua4,gc4,Dc4⟩:=hca 4 _ rfl;have c4:wr.cell? ⟨b,off+k*5+4,none⟩=some ua4:=zlW HBR.out hb gc4;clear gc4;have Ec4:=zaa (Dc4.later HBR.out);clear Dc4;obtain⟨ub4,gd4,Dd4⟩:=hcb 4 _ rfl;have d4:wr.cell? ⟨b',off'+k*5+4,none⟩=some ub4:=(HBR.out.cell (p:=⟨b',off'+k*5+4,none⟩) hb').trans gd4;clear gd4;have Ed4:=zaa (Dd4.later HBR.out);clear Dd4;have hbw:=HBR.out.size;have hb1:b<wr.heap.size:=by omega
  have hb2:b'<wr.heap.size:=by omega
  clear hca hcb;have k0:=kbZ k la.length;have k1:decide (k<la.length)=true:=by simp;exact hlt
  have HS:=zaa (fun s:zax wr=>zlc x y ua4 ub4 s.w (zaa (Ec4.out.later s.below)) (zaa (Ed4.out.later s.below)) (HWA.out x (List.mem_of_getElem? hx)) (HWB.out y (List.mem_of_getElem? hy)));have HX:=zaa hx;have HY:=zaa hy;clear hx hy;unfold zbj at HS;unfold zbj at c0 d0;by_cases hf:x=y
  ·have HTK:=zaa (zbg HT.out HX.out (by rw[hf];exact HY.out))
   rw[zaT hf] at HS;clear hf
   (try generalize(⟨x.name.toArray⟩:ByteArray)=xB0 at *)
   (try generalize(⟨y.name.toArray⟩:ByteArray)=yB0 at *)
   (try generalize x.prio=xB1 at *)
   (try generalize y.prio=yB1 at *)
   (try generalize x.period=xB2 at *)
   (try generalize y.period=yB2 at *)
   (try generalize x.limit=xB3 at *)
   (try generalize y.limit=yB3 at *)
   go_wp2_with fail;refine zaq (W:=wr) (by kernel_rfl) (by kernel_rfl) ?_
   repeat(go_big_quiet_step (first
    |(go_at_call 184;exact zax.call (HS.out _))))
   refine wpQuiet_nil ?_;intro _ hw';obtain⟨nq,hw''⟩:=hw';subst hw'';have HQ:=zaa nq.below;go_wp2_with fail;go_roundw
   case rel=>exact⟨k+1,by omega,by go_num,HTK.out,HBR.out.trans (HQ.out.mono HBR.out.size)⟩
   case measure=>simp[intOf];omega
  ·have HNE:=zaa (zdY HX.out HY.out hf)
   rw[zbm hf] at HS;clear hf
   (try generalize(⟨x.name.toArray⟩:ByteArray)=xB0 at *)
   (try generalize(⟨y.name.toArray⟩:ByteArray)=yB0 at *)
   (try generalize x.prio=xB1 at *)
   (try generalize y.prio=yB1 at *)
   (try generalize x.period=xB2 at *)
   (try generalize y.period=yB2 at *)
   (try generalize x.limit=xB3 at *)
   (try generalize y.limit=yB3 at *)
   go_wp2_with fail;refine zaq (W:=wr) (by kernel_rfl) (by kernel_rfl) ?_
   repeat(go_big_quiet_step (first
    |(go_at_call 184;exact zax.call (HS.out _))))
   refine wpQuiet_nil ?_;intro _ hw';obtain⟨nq,hw''⟩:=hw';subst hw'';have HQ:=zaa nq.below;go_wp2_with fail;go_ret;exact⟨zap HNE.out.symm,HBR.out.trans (HQ.out.mono HBR.out.size)⟩
theorem zhg (x y:zcU) (ua3 ub3:Value) (W:World) (Ha3:Hid (DAt W (fun _=>True) ua3 (.row 3 (x.to.map zeJ.cells)))) (Hb3:Hid (DAt W (fun _=>True) ub3 (.row 3 (y.to.map zeJ.cells)))) (hx:x.sm) (hy:y.sm):
 Calls prog 67 #[.agg #[zbj x.from_.m,zbj x.from_.p,zbj x.from_.o,ua3],.agg #[zbj y.from_.m,zbj y.from_.p,zbj y.from_.o,ub3]] W fun e w'=>e= .returned (.bool (eqB x y))∧Below W.heap.size W w':=by
 unfold zbj;obtain⟨⟨p0,p1,p2⟩,p3⟩:=x;obtain⟨⟨q0,q1,q2⟩,q3⟩:=y;dsimp only at *;have HSX:Hid _:=hx;have HSY:Hid _:=hy;clear hx hy;have HC3:=zaa (fun(V:World) (hb:Below W.heap.size W V)=>zhx ua3 ub3 p3 q3 V (zaa (Ha3.out.later hb)) (zaa (Hb3.out.later hb)) HSX.out HSY.out);obtain⟨EQ,hEQ⟩: ∃b,eqB (⟨⟨p0,p1,p2⟩,p3⟩:zcU) ⟨⟨q0,q1,q2⟩,q3⟩=b:=⟨_,rfl⟩;rw[hEQ];clear Ha3 Hb3 HSX HSY;rcases dS p0 q0 with h|rfl
 rotate_left;rcases dS p1 q1 with h|rfl
 rotate_left;rcases dS p2 q2 with h|rfl
 rotate_left;rcases dR p3 q3 with h|rfl
 rotate_left
 all_goals
  first
   |have hq:EQ=true:=hEQ.symm.trans (zaT rfl)
   |have hq:EQ=false:=hEQ.symm.trans (zbm (by intro e;cases e;simp[zbW] at h))
  subst hq;clear hEQ
  (try generalize(⟨p0.toArray⟩:ByteArray)=xB0 at *)
  (try generalize(⟨q0.toArray⟩:ByteArray)=yB0 at *)
  (try generalize(⟨p1.toArray⟩:ByteArray)=xB1 at *)
  (try generalize(⟨q1.toArray⟩:ByteArray)=yB1 at *)
  (try generalize(⟨p2.toArray⟩:ByteArray)=xB2 at *)
  (try generalize(⟨q2.toArray⟩:ByteArray)=yB2 at *)
  go_enter func67,ntmps67
  go_wp2_with fail
  try
   with_reducible refine(HC3.out _ (((Below.refl _ W).alloc (Nat.le_refl _) _).alloc (by simp) _)).mono ?_
   rintro e w3 ⟨rfl,hb3⟩;have HB3:=zaa ((((Below.refl _ W).alloc (Nat.le_refl _) _).alloc (by simp) _:Below W.heap.size W _).trans (hb3.mono (by simp;omega)));have hz3:W.heap.size+1<w3.heap.size:=by have:=hb3.size;simp at this;omega
   have hy3:W.heap.size<w3.heap.size:=by omega
   obtain⟨hc3,hf3⟩:=zdz hb3;clear hb3;go_wp2_with fail
  go_ret
  first
   |exact⟨rfl,HB3.out⟩
   |exact⟨rfl,(((Below.refl _ W).alloc (Nat.le_refl _) _).alloc (by simp) _)⟩
theorem zgB (va vb:Value) (la lb:List zcU) (W:World) (Ha:Hid (DAt W (fun _=>True) va (.row 4 (la.map zcU.cells)))) (Hb:Hid (DAt W (fun _=>True) vb (.row 4 (lb.map zcU.cells)))) (hla:la.length≤1099511627776) (_hlb:lb.length≤1099511627776) (hwa: ∀x∈la,x.sm) (hwb: ∀x∈lb,x.sm):
 Calls prog 38 #[va,vb] W fun e w'=>e= .returned (.bool (eqB la lb))∧Below W.heap.size W w':=by
 have HWA:=zaa hwa;have HWB:=zaa hwb;clear hwa hwb;obtain⟨A,c,rfl,hA⟩:=Ha.out.slice;obtain⟨A',c',rfl,hB⟩:=Hb.out.slice;have HA:=zaa hA;have HB:=zaa hB;clear hA hB Ha Hb;rw[List.length_map,List.length_map];by_cases hn:la.length=lb.length
 rotate_left
 ·have hd:((la.length:Int)==((lb.length:Nat):Int))=false:=by rw[beq_eq_false_iff_ne];omega
  have hd2:((la.length:Int) != ((lb.length:Nat):Int))=true:=by simp;omega
  have HNE:=zaa (zbm (fun e:la=lb=>hn (congrArg List.length e)));clear hn
  go_enter func38,ntmps38
  go_wp2_with fail;go_ret;exact⟨zap HNE.out.symm,Below.refl _ _⟩
 rw[←hn];have HN:=zaa hn;clear hn
 go_enter func38,ntmps38
 go_wp2_with fail
 go_loopw [5] (fun v5 wr=> ∃k:Nat,k≤la.length∧v5= .int .i64 k∧la.take k=lb.take k∧Below W.heap.size W wr) (fun v5 _=>la.length-(intOf v5).toNat)
 case atStart=>exact⟨0,by omega,rfl,rfl,Below.refl _ _⟩
 case round=>
  obtain⟨k,hk,rfl,ht,hbr⟩:=hrel;have HT:=zaa ht;have HBR:=zaa hbr;clear ht hbr;by_cases hlt:k<la.length
  rotate_left
  ·have HEQ:=zaa (zaT (zbe HT.out hlt HN.out))
   have hdl:decide ((k:Int)<((la.length:Nat):Int))=false:=by simp;omega
   go_wp2_with fail;go_ret;exact⟨zap HEQ.out.symm,HBR.out⟩
  obtain⟨x,hx⟩:=zhG hlt;obtain⟨y,hy⟩: ∃y,lb[k]? =some y:=⟨_,List.getElem?_eq_getElem (by have:=HN.out;omega)⟩;obtain⟨b,off,rfl,hb,hca⟩:=HA.out.at_ hx;obtain⟨b',off',rfl,hb',hcb⟩:=HB.out.at_ hy;have c0:wr.cell? ⟨b,off+k*4,none⟩=some (zbj x.from_.m):=lc HBR.out hb (hca 0 _ rfl);have d0:wr.cell? ⟨b',off'+k*4,none⟩=some (zbj y.from_.m):=lc HBR.out hb' (hcb 0 _ rfl);have c1:wr.cell? ⟨b,off+k*4+1,none⟩=some (zbj x.from_.p):=lc HBR.out hb (hca 1 _ rfl);have d1:wr.cell? ⟨b',off'+k*4+1,none⟩=some (zbj y.from_.p):=lc HBR.out hb' (hcb 1 _ rfl);have c2:wr.cell? ⟨b,off+k*4+2,none⟩=some (zbj x.from_.o):=lc HBR.out hb (hca 2 _ rfl);have d2:wr.cell? ⟨b',off'+k*4+2,none⟩=some (zbj y.from_.o):=lc HBR.out hb' (hcb 2 _ rfl);obtain⟨ua3,gc3,Dc3⟩:=hca 3 _ rfl;have c3:wr.cell? ⟨b,off+k*4+3,none⟩=some ua3:=zlW HBR.out hb gc3;clear gc3;have Ec3:=zaa (Dc3.later HBR.out);clear Dc3;obtain⟨ub3,gd3,Dd3⟩:=hcb 3 _ rfl;have d3:wr.cell? ⟨b',off'+k*4+3,none⟩=some ub3:=(HBR.out.cell (p:=⟨b',off'+k*4+3,none⟩) hb').trans gd3;clear gd3;have Ed3:=zaa (Dd3.later HBR.out);clear Dd3;have hbw:=HBR.out.size;have hb1:b<wr.heap.size:=by omega
  have hb2:b'<wr.heap.size:=by omega
  clear hca hcb;have k0:=kbZ k la.length;have k1:decide (k<la.length)=true:=by simp;exact hlt
  have HS:=zaa (fun s:zax wr=>zhg x y ua3 ub3 s.w (zaa (Ec3.out.later s.below)) (zaa (Ed3.out.later s.below)) (HWA.out x (List.mem_of_getElem? hx)) (HWB.out y (List.mem_of_getElem? hy)));have HX:=zaa hx;have HY:=zaa hy;clear hx hy;unfold zbj at HS;unfold zbj at c0 d0 c1 d1 c2 d2;by_cases hf:x=y
  ·have HTK:=zaa (zbg HT.out HX.out (by rw[hf];exact HY.out))
   rw[zaT hf] at HS;clear hf
   (try generalize(⟨x.from_.m.toArray⟩:ByteArray)=xB0 at *)
   (try generalize(⟨y.from_.m.toArray⟩:ByteArray)=yB0 at *)
   (try generalize(⟨x.from_.p.toArray⟩:ByteArray)=xB1 at *)
   (try generalize(⟨y.from_.p.toArray⟩:ByteArray)=yB1 at *)
   (try generalize(⟨x.from_.o.toArray⟩:ByteArray)=xB2 at *)
   (try generalize(⟨y.from_.o.toArray⟩:ByteArray)=yB2 at *)
   go_wp2_with fail;refine zaq (W:=wr) (by kernel_rfl) (by kernel_rfl) ?_
   repeat(go_big_quiet_step (first
    |(go_at_call 67;exact zax.call (HS.out _))))
   refine wpQuiet_nil ?_;intro _ hw';obtain⟨nq,hw''⟩:=hw';subst hw'';have HQ:=zaa nq.below;go_wp2_with fail;go_roundw
   case rel=>exact⟨k+1,by omega,by go_num,HTK.out,HBR.out.trans (HQ.out.mono HBR.out.size)⟩
   case measure=>simp[intOf];omega
  ·have HNE:=zaa (zdY HX.out HY.out hf)
   rw[zbm hf] at HS;clear hf
   (try generalize(⟨x.from_.m.toArray⟩:ByteArray)=xB0 at *)
   (try generalize(⟨y.from_.m.toArray⟩:ByteArray)=yB0 at *)
   (try generalize(⟨x.from_.p.toArray⟩:ByteArray)=xB1 at *)
   (try generalize(⟨y.from_.p.toArray⟩:ByteArray)=yB1 at *)
   (try generalize(⟨x.from_.o.toArray⟩:ByteArray)=xB2 at *)
   (try generalize(⟨y.from_.o.toArray⟩:ByteArray)=yB2 at *)
   go_wp2_with fail;refine zaq (W:=wr) (by kernel_rfl) (by kernel_rfl) ?_
   repeat(go_big_quiet_step (first
    |(go_at_call 67;exact zax.call (HS.out _))))
   refine wpQuiet_nil ?_;intro _ hw';obtain⟨nq,hw''⟩:=hw';subst hw'';have HQ:=zaa nq.below;go_wp2_with fail;go_ret;exact⟨zap HNE.out.symm,HBR.out.trans (HQ.out.mono HBR.out.size)⟩
theorem zlB (x y:zas) (ua4 ub4 ua7 ub7 ua8 ub8 ua9 ub9:Value) (W:World) (Ha4:Hid (DAt W (fun _=>True) ua4 (.row 1 (x.semas.map (fun n:Int=>[lI n]))))) (Hb4:Hid (DAt W (fun _=>True) ub4 (.row 1 (y.semas.map (fun n:Int=>[lI n]))))) (Ha7:Hid (DAt W (fun _=>True) ua7 (.row 1 (x.bufs.map (fun n:Int=>[lI n]))))) (Hb7:Hid (DAt W (fun _=>True) ub7 (.row 1 (y.bufs.map (fun n:Int=>[lI n]))))) (Ha8:Hid (DAt W (fun _=>True) ua8 (.row 6 (x.ports.map zcp.cells)))) (Hb8:Hid (DAt W (fun _=>True) ub8 (.row 6 (y.ports.map zcp.cells)))) (Ha9:Hid (DAt W (fun _=>True) ua9 (.row 5 (x.procs.map zca.cells)))) (Hb9:Hid (DAt W (fun _=>True) ub9 (.row 5 (y.procs.map zca.cells)))) (hx:x.sm) (hy:y.sm):
 Calls prog 139 #[.agg #[zbj x.name,.int .i64 x.period,.int .i64 x.length,.int .i64 x.mem,ua4,.int .i64 x.events,.int .i64 x.boards,ua7,ua8,ua9],.agg #[zbj y.name,.int .i64 y.period,.int .i64 y.length,.int .i64 y.mem,ub4,.int .i64 y.events,.int .i64 y.boards,ub7,ub8,ub9]] W fun e w'=>e= .returned (.bool (eqB x y))∧Below W.heap.size W w':=by
 unfold zbj;obtain⟨p0,p1,p2,p3,p4,p5,p6,p7,p8,p9⟩:=x;obtain⟨q0,q1,q2,q3,q4,q5,q6,q7,q8,q9⟩:=y;dsimp only at *;have HSX:Hid _:=hx;have HSY:Hid _:=hy;clear hx hy;have HC4:=zaa (fun(V:World) (hb:Below W.heap.size W V)=>zhC ua4 ub4 p4 q4 V (zaa (Ha4.out.later hb)) (zaa (Hb4.out.later hb)) HSX.out.1 HSY.out.1);have HC7:=zaa (fun(V:World) (hb:Below W.heap.size W V)=>zhC ua7 ub7 p7 q7 V (zaa (Ha7.out.later hb)) (zaa (Hb7.out.later hb)) HSX.out.2.1 HSY.out.2.1);have HC8:=zaa (fun(V:World) (hb:Below W.heap.size W V)=>zj9 ua8 ub8 p8 q8 V (zaa (Ha8.out.later hb)) (zaa (Hb8.out.later hb)) HSX.out.2.2.1 HSY.out.2.2.1);have HC9:=zaa (fun(V:World) (hb:Below W.heap.size W V)=>zj5 ua9 ub9 p9 q9 V (zaa (Ha9.out.later hb)) (zaa (Hb9.out.later hb)) HSX.out.2.2.2.1 HSY.out.2.2.2.1 HSX.out.2.2.2.2 HSY.out.2.2.2.2);obtain⟨EQ,hEQ⟩: ∃b,eqB (⟨p0,p1,p2,p3,p4,p5,p6,p7,p8,p9⟩:zas) ⟨q0,q1,q2,q3,q4,q5,q6,q7,q8,q9⟩=b:=⟨_,rfl⟩;rw[hEQ];clear Ha4 Hb4 Ha7 Hb7 Ha8 Hb8 Ha9 Hb9 HSX HSY;rcases dS p0 q0 with h|rfl
 rotate_left;rcases dI p1 q1 with⟨h,g⟩|rfl
 rotate_left;rcases dI p2 q2 with⟨h,g⟩|rfl
 rotate_left;rcases dI p3 q3 with⟨h,g⟩|rfl
 rotate_left;rcases dR p4 q4 with h|rfl
 rotate_left;rcases dI p5 q5 with⟨h,g⟩|rfl
 rotate_left;rcases dI p6 q6 with⟨h,g⟩|rfl
 rotate_left;rcases dR p7 q7 with h|rfl
 rotate_left;rcases dR p8 q8 with h|rfl
 rotate_left;rcases dR p9 q9 with h|rfl
 rotate_left
 all_goals
  first
   |have hq:EQ=true:=hEQ.symm.trans (zaT rfl)
   |have hq:EQ=false:=hEQ.symm.trans (zbm (by intro e;cases e;simp[zbW] at h))
  subst hq;clear hEQ
  (try generalize(⟨p0.toArray⟩:ByteArray)=xB0 at *)
  (try generalize(⟨q0.toArray⟩:ByteArray)=yB0 at *)
  go_enter func139,ntmps139
  go_wp2_with fail
  try
   with_reducible refine(HC4.out _ (((Below.refl _ W).alloc (Nat.le_refl _) _).alloc (by simp) _)).mono ?_
   rintro e w4 ⟨rfl,hb4⟩;have HB4:=zaa ((((Below.refl _ W).alloc (Nat.le_refl _) _).alloc (by simp) _:Below W.heap.size W _).trans (hb4.mono (by simp;omega)));have hz4:W.heap.size+1<w4.heap.size:=by have:=hb4.size;simp at this;omega
   have hy4:W.heap.size<w4.heap.size:=by omega
   obtain⟨hc4,hf4⟩:=zdz hb4;clear hb4;go_wp2_with fail
  try
   with_reducible refine(HC7.out _ HB4.out).mono ?_
   rintro e w7 ⟨rfl,hb7⟩;have HB7:=zaa (btZ HB4.out hb7);have hz7:W.heap.size+1<w7.heap.size:=by have:=hb7.size;omega
   have hy7:W.heap.size<w7.heap.size:=by omega
   obtain⟨hc7,hf7⟩:=zdz hb7;clear hb7;go_wp2_with fail
  try
   with_reducible refine(HC8.out _ HB7.out).mono ?_
   rintro e w8 ⟨rfl,hb8⟩;have HB8:=zaa (btZ HB7.out hb8);have hz8:W.heap.size+1<w8.heap.size:=by have:=hb8.size;omega
   have hy8:W.heap.size<w8.heap.size:=by omega
   obtain⟨hc8,hf8⟩:=zdz hb8;clear hb8;go_wp2_with fail
  try
   with_reducible refine(HC9.out _ HB8.out).mono ?_
   rintro e w9 ⟨rfl,hb9⟩;have HB9:=zaa (btZ HB8.out hb9);have hz9:W.heap.size+1<w9.heap.size:=by have:=hb9.size;omega
   have hy9:W.heap.size<w9.heap.size:=by omega
   obtain⟨hc9,hf9⟩:=zdz hb9;clear hb9;go_wp2_with fail
  go_ret
  first
   |exact⟨rfl,HB9.out⟩
   |exact⟨rfl,HB8.out⟩
   |exact⟨rfl,HB7.out⟩
   |exact⟨rfl,HB4.out⟩
   |exact⟨rfl,(((Below.refl _ W).alloc (Nat.le_refl _) _).alloc (by simp) _)⟩
theorem zjh (va vb:Value) (la lb:List zas) (W:World) (Ha:Hid (DAt W (fun _=>True) va (.row 10 (la.map zas.cells)))) (Hb:Hid (DAt W (fun _=>True) vb (.row 10 (lb.map zas.cells)))) (hla:la.length≤1099511627776) (_hlb:lb.length≤1099511627776) (hwa: ∀x∈la,x.sm) (hwb: ∀x∈lb,x.sm):
 Calls prog 102 #[va,vb] W fun e w'=>e= .returned (.bool (eqB la lb))∧Below W.heap.size W w':=by
 have HWA:=zaa hwa;have HWB:=zaa hwb;clear hwa hwb;obtain⟨A,c,rfl,hA⟩:=Ha.out.slice;obtain⟨A',c',rfl,hB⟩:=Hb.out.slice;have HA:=zaa hA;have HB:=zaa hB;clear hA hB Ha Hb;rw[List.length_map,List.length_map];by_cases hn:la.length=lb.length
 rotate_left
 ·have hd:((la.length:Int)==((lb.length:Nat):Int))=false:=by rw[beq_eq_false_iff_ne];omega
  have hd2:((la.length:Int) != ((lb.length:Nat):Int))=true:=by simp;omega
  have HNE:=zaa (zbm (fun e:la=lb=>hn (congrArg List.length e)));clear hn
  go_enter func102,ntmps102
  go_wp2_with fail;go_ret;exact⟨zap HNE.out.symm,Below.refl _ _⟩
 rw[←hn];have HN:=zaa hn;clear hn
 go_enter func102,ntmps102
 go_wp2_with fail
 go_loopw [5] (fun v5 wr=> ∃k:Nat,k≤la.length∧v5= .int .i64 k∧la.take k=lb.take k∧Below W.heap.size W wr) (fun v5 _=>la.length-(intOf v5).toNat)
 case atStart=>exact⟨0,by omega,rfl,rfl,Below.refl _ _⟩
 case round=>
  obtain⟨k,hk,rfl,ht,hbr⟩:=hrel;have HT:=zaa ht;have HBR:=zaa hbr;clear ht hbr;by_cases hlt:k<la.length
  rotate_left
  ·have HEQ:=zaa (zaT (zbe HT.out hlt HN.out))
   have hdl:decide ((k:Int)<((la.length:Nat):Int))=false:=by simp;omega
   go_wp2_with fail;go_ret;exact⟨zap HEQ.out.symm,HBR.out⟩
  obtain⟨x,hx⟩:=zhG hlt;obtain⟨y,hy⟩: ∃y,lb[k]? =some y:=⟨_,List.getElem?_eq_getElem (by have:=HN.out;omega)⟩;obtain⟨b,off,rfl,hb,hca⟩:=HA.out.at_ hx;obtain⟨b',off',rfl,hb',hcb⟩:=HB.out.at_ hy;have c0:wr.cell? ⟨b,off+k*10,none⟩=some (zbj x.name):=lc HBR.out hb (hca 0 _ rfl);have d0:wr.cell? ⟨b',off'+k*10,none⟩=some (zbj y.name):=lc HBR.out hb' (hcb 0 _ rfl);have c1:wr.cell? ⟨b,off+k*10+1,none⟩=some (Value.int .i64 x.period):=lc HBR.out hb (hca 1 _ rfl);have d1:wr.cell? ⟨b',off'+k*10+1,none⟩=some (Value.int .i64 y.period):=lc HBR.out hb' (hcb 1 _ rfl);have c2:wr.cell? ⟨b,off+k*10+2,none⟩=some (Value.int .i64 x.length):=lc HBR.out hb (hca 2 _ rfl);have d2:wr.cell? ⟨b',off'+k*10+2,none⟩=some (Value.int .i64 y.length):=lc HBR.out hb' (hcb 2 _ rfl);have c3:wr.cell? ⟨b,off+k*10+3,none⟩=some (Value.int .i64 x.mem):=lc HBR.out hb (hca 3 _ rfl);have d3:wr.cell? ⟨b',off'+k*10+3,none⟩=some (Value.int .i64 y.mem):=lc HBR.out hb' (hcb 3 _ rfl);obtain⟨ua4,gc4,Dc4⟩:=hca 4 _ rfl;have c4:wr.cell? ⟨b,off+k*10+4,none⟩=some ua4:=zlW HBR.out hb gc4;clear gc4;have Ec4:=zaa (Dc4.later HBR.out);clear Dc4;obtain⟨ub4,gd4,Dd4⟩:=hcb 4 _ rfl;have d4:wr.cell? ⟨b',off'+k*10+4,none⟩=some ub4:=(HBR.out.cell (p:=⟨b',off'+k*10+4,none⟩) hb').trans gd4;clear gd4;have Ed4:=zaa (Dd4.later HBR.out);clear Dd4;have c5:wr.cell? ⟨b,off+k*10+5,none⟩=some (Value.int .i64 x.events):=lc HBR.out hb (hca 5 _ rfl);have d5:wr.cell? ⟨b',off'+k*10+5,none⟩=some (Value.int .i64 y.events):=lc HBR.out hb' (hcb 5 _ rfl);have c6:wr.cell? ⟨b,off+k*10+6,none⟩=some (Value.int .i64 x.boards):=lc HBR.out hb (hca 6 _ rfl);have d6:wr.cell? ⟨b',off'+k*10+6,none⟩=some (Value.int .i64 y.boards):=lc HBR.out hb' (hcb 6 _ rfl);obtain⟨ua7,gc7,Dc7⟩:=hca 7 _ rfl;have c7:wr.cell? ⟨b,off+k*10+7,none⟩=some ua7:=zlW HBR.out hb gc7;clear gc7;have Ec7:=zaa (Dc7.later HBR.out);clear Dc7;obtain⟨ub7,gd7,Dd7⟩:=hcb 7 _ rfl;have d7:wr.cell? ⟨b',off'+k*10+7,none⟩=some ub7:=(HBR.out.cell (p:=⟨b',off'+k*10+7,none⟩) hb').trans gd7;clear gd7;have Ed7:=zaa (Dd7.later HBR.out);clear Dd7;obtain⟨ua8,gc8,Dc8⟩:=hca 8 _ rfl;have c8:wr.cell? ⟨b,off+k*10+8,none⟩=some ua8:=zlW HBR.out hb gc8;clear gc8;have Ec8:=zaa (Dc8.later HBR.out);clear Dc8;obtain⟨ub8,gd8,Dd8⟩:=hcb 8 _ rfl;have d8:wr.cell? ⟨b',off'+k*10+8,none⟩=some ub8:=(HBR.out.cell (p:=⟨b',off'+k*10+8,none⟩) hb').trans gd8;clear gd8;have Ed8:=zaa (Dd8.later HBR.out);clear Dd8;obtain⟨ua9,gc9,Dc9⟩:=hca 9 _ rfl;have c9:wr.cell? ⟨b,off+k*10+9,none⟩=some ua9:=zlW HBR.out hb gc9;clear gc9;have Ec9:=zaa (Dc9.later HBR.out);clear Dc9;obtain⟨ub9,gd9,Dd9⟩:=hcb 9 _ rfl;have d9:wr.cell? ⟨b',off'+k*10+9,none⟩=some ub9:=(HBR.out.cell (p:=⟨b',off'+k*10+9,none⟩) hb').trans gd9;clear gd9;have Ed9:=zaa (Dd9.later HBR.out);clear Dd9;have hbw:=HBR.out.size;have hb1:b<wr.heap.size:=by omega
  have hb2:b'<wr.heap.size:=by omega
  clear hca hcb;have k0:=kbZ k la.length;have k1:decide (k<la.length)=true:=by simp;exact hlt
  have HS:=zaa (fun s:zax wr=>zlB x y ua4 ub4 ua7 ub7 ua8 ub8 ua9 ub9 s.w (zaa (Ec4.out.later s.below)) (zaa (Ed4.out.later s.below)) (zaa (Ec7.out.later s.below)) (zaa (Ed7.out.later s.below)) (zaa (Ec8.out.later s.below)) (zaa (Ed8.out.later s.below)) (zaa (Ec9.out.later s.below)) (zaa (Ed9.out.later s.below)) (HWA.out x (List.mem_of_getElem? hx)) (HWB.out y (List.mem_of_getElem? hy)));have HX:=zaa hx;have HY:=zaa hy;clear hx hy;unfold zbj at HS;unfold zbj at c0 d0;by_cases hf:x=y
  ·have HTK:=zaa (zbg HT.out HX.out (by rw[hf];exact HY.out))
   rw[zaT hf] at HS;clear hf
   (try generalize(⟨x.name.toArray⟩:ByteArray)=xB0 at *)
   (try generalize(⟨y.name.toArray⟩:ByteArray)=yB0 at *)
   (try generalize x.period=xB1 at *)
   (try generalize y.period=yB1 at *)
   (try generalize x.length=xB2 at *)
   (try generalize y.length=yB2 at *)
   (try generalize x.mem=xB3 at *)
   (try generalize y.mem=yB3 at *)
   (try generalize x.events=xB5 at *)
   (try generalize y.events=yB5 at *)
   (try generalize x.boards=xB6 at *)
   (try generalize y.boards=yB6 at *)
   go_wp2_with fail;refine zaq (W:=wr) (by kernel_rfl) (by kernel_rfl) ?_
   repeat(go_big_quiet_step (first
    |(go_at_call 139;exact zax.call (HS.out _))))
   refine wpQuiet_nil ?_;intro _ hw';obtain⟨nq,hw''⟩:=hw';subst hw'';have HQ:=zaa nq.below;go_wp2_with fail;go_roundw
   case rel=>exact⟨k+1,by omega,by go_num,HTK.out,HBR.out.trans (HQ.out.mono HBR.out.size)⟩
   case measure=>simp[intOf];omega
  ·have HNE:=zaa (zdY HX.out HY.out hf)
   rw[zbm hf] at HS;clear hf
   (try generalize(⟨x.name.toArray⟩:ByteArray)=xB0 at *)
   (try generalize(⟨y.name.toArray⟩:ByteArray)=yB0 at *)
   (try generalize x.period=xB1 at *)
   (try generalize y.period=yB1 at *)
   (try generalize x.length=xB2 at *)
   (try generalize y.length=yB2 at *)
   (try generalize x.mem=xB3 at *)
   (try generalize y.mem=yB3 at *)
   (try generalize x.events=xB5 at *)
   (try generalize y.events=yB5 at *)
   (try generalize x.boards=xB6 at *)
   (try generalize y.boards=yB6 at *)
   go_wp2_with fail;refine zaq (W:=wr) (by kernel_rfl) (by kernel_rfl) ?_
   repeat(go_big_quiet_step (first
    |(go_at_call 139;exact zax.call (HS.out _))))
   refine wpQuiet_nil ?_;intro _ hw';obtain⟨nq,hw''⟩:=hw';subst hw'';have HQ:=zaa nq.below;go_wp2_with fail;go_ret;exact⟨zap HNE.out.symm,HBR.out.trans (HQ.out.mono HBR.out.size)⟩
theorem zix (x y:zdZ) (ua3 ub3:Value) (W:World) (Ha3:Hid (DAt W (fun _=>True) ua3 (.row 10 (x.parts.map zas.cells)))) (Hb3:Hid (DAt W (fun _=>True) ub3 (.row 10 (y.parts.map zas.cells)))) (hx:x.sm) (hy:y.sm):
 Calls prog 66 #[.agg #[zbj x.name,.int .i64 x.mem,.int .i64 x.frame,ua3],.agg #[zbj y.name,.int .i64 y.mem,.int .i64 y.frame,ub3]] W fun e w'=>e= .returned (.bool (eqB x y))∧Below W.heap.size W w':=by
 unfold zbj;obtain⟨p0,p1,p2,p3⟩:=x;obtain⟨q0,q1,q2,q3⟩:=y;dsimp only at *;have HSX:Hid _:=hx;have HSY:Hid _:=hy;clear hx hy;have HC3:=zaa (fun(V:World) (hb:Below W.heap.size W V)=>zjh ua3 ub3 p3 q3 V (zaa (Ha3.out.later hb)) (zaa (Hb3.out.later hb)) HSX.out.1 HSY.out.1 HSX.out.2 HSY.out.2);obtain⟨EQ,hEQ⟩: ∃b,eqB (⟨p0,p1,p2,p3⟩:zdZ) ⟨q0,q1,q2,q3⟩=b:=⟨_,rfl⟩;rw[hEQ];clear Ha3 Hb3 HSX HSY;rcases dS p0 q0 with h|rfl
 rotate_left;rcases dI p1 q1 with⟨h,g⟩|rfl
 rotate_left;rcases dI p2 q2 with⟨h,g⟩|rfl
 rotate_left;rcases dR p3 q3 with h|rfl
 rotate_left
 all_goals
  first
   |have hq:EQ=true:=hEQ.symm.trans (zaT rfl)
   |have hq:EQ=false:=hEQ.symm.trans (zbm (by intro e;cases e;simp[zbW] at h))
  subst hq;clear hEQ
  (try generalize(⟨p0.toArray⟩:ByteArray)=xB0 at *)
  (try generalize(⟨q0.toArray⟩:ByteArray)=yB0 at *)
  go_enter func66,ntmps66
  go_wp2_with fail
  try
   with_reducible refine(HC3.out _ (((Below.refl _ W).alloc (Nat.le_refl _) _).alloc (by simp) _)).mono ?_
   rintro e w3 ⟨rfl,hb3⟩;have HB3:=zaa ((((Below.refl _ W).alloc (Nat.le_refl _) _).alloc (by simp) _:Below W.heap.size W _).trans (hb3.mono (by simp;omega)));have hz3:W.heap.size+1<w3.heap.size:=by have:=hb3.size;simp at this;omega
   have hy3:W.heap.size<w3.heap.size:=by omega
   obtain⟨hc3,hf3⟩:=zdz hb3;clear hb3;go_wp2_with fail
  go_ret
  first
   |exact⟨rfl,HB3.out⟩
   |exact⟨rfl,(((Below.refl _ W).alloc (Nat.le_refl _) _).alloc (by simp) _)⟩
theorem zhI (va vb:Value) (la lb:List zdZ) (W:World) (Ha:Hid (DAt W (fun _=>True) va (.row 4 (la.map zdZ.cells)))) (Hb:Hid (DAt W (fun _=>True) vb (.row 4 (lb.map zdZ.cells)))) (hla:la.length≤1099511627776) (_hlb:lb.length≤1099511627776) (hwa: ∀x∈la,x.sm) (hwb: ∀x∈lb,x.sm):
 Calls prog 37 #[va,vb] W fun e w'=>e= .returned (.bool (eqB la lb))∧Below W.heap.size W w':=by
 have HWA:=zaa hwa;have HWB:=zaa hwb;clear hwa hwb;obtain⟨A,c,rfl,hA⟩:=Ha.out.slice;obtain⟨A',c',rfl,hB⟩:=Hb.out.slice;have HA:=zaa hA;have HB:=zaa hB;clear hA hB Ha Hb;rw[List.length_map,List.length_map];by_cases hn:la.length=lb.length
 rotate_left
 ·have hd:((la.length:Int)==((lb.length:Nat):Int))=false:=by rw[beq_eq_false_iff_ne];omega
  have hd2:((la.length:Int) != ((lb.length:Nat):Int))=true:=by simp;omega
  have HNE:=zaa (zbm (fun e:la=lb=>hn (congrArg List.length e)));clear hn
  go_enter func37,ntmps37
  go_wp2_with fail;go_ret;exact⟨zap HNE.out.symm,Below.refl _ _⟩
 rw[←hn];have HN:=zaa hn;clear hn
 go_enter func37,ntmps37
 go_wp2_with fail
 go_loopw [5] (fun v5 wr=> ∃k:Nat,k≤la.length∧v5= .int .i64 k∧la.take k=lb.take k∧Below W.heap.size W wr) (fun v5 _=>la.length-(intOf v5).toNat)
 case atStart=>exact⟨0,by omega,rfl,rfl,Below.refl _ _⟩
 case round=>
  obtain⟨k,hk,rfl,ht,hbr⟩:=hrel;have HT:=zaa ht;have HBR:=zaa hbr;clear ht hbr;by_cases hlt:k<la.length
  rotate_left
  ·have HEQ:=zaa (zaT (zbe HT.out hlt HN.out))
   have hdl:decide ((k:Int)<((la.length:Nat):Int))=false:=by simp;omega
   go_wp2_with fail;go_ret;exact⟨zap HEQ.out.symm,HBR.out⟩
  obtain⟨x,hx⟩:=zhG hlt;obtain⟨y,hy⟩: ∃y,lb[k]? =some y:=⟨_,List.getElem?_eq_getElem (by have:=HN.out;omega)⟩;obtain⟨b,off,rfl,hb,hca⟩:=HA.out.at_ hx;obtain⟨b',off',rfl,hb',hcb⟩:=HB.out.at_ hy;have c0:wr.cell? ⟨b,off+k*4,none⟩=some (zbj x.name):=lc HBR.out hb (hca 0 _ rfl);have d0:wr.cell? ⟨b',off'+k*4,none⟩=some (zbj y.name):=lc HBR.out hb' (hcb 0 _ rfl);have c1:wr.cell? ⟨b,off+k*4+1,none⟩=some (Value.int .i64 x.mem):=lc HBR.out hb (hca 1 _ rfl);have d1:wr.cell? ⟨b',off'+k*4+1,none⟩=some (Value.int .i64 y.mem):=lc HBR.out hb' (hcb 1 _ rfl);have c2:wr.cell? ⟨b,off+k*4+2,none⟩=some (Value.int .i64 x.frame):=lc HBR.out hb (hca 2 _ rfl);have d2:wr.cell? ⟨b',off'+k*4+2,none⟩=some (Value.int .i64 y.frame):=lc HBR.out hb' (hcb 2 _ rfl);obtain⟨ua3,gc3,Dc3⟩:=hca 3 _ rfl;have c3:wr.cell? ⟨b,off+k*4+3,none⟩=some ua3:=zlW HBR.out hb gc3;clear gc3;have Ec3:=zaa (Dc3.later HBR.out);clear Dc3;obtain⟨ub3,gd3,Dd3⟩:=hcb 3 _ rfl;have d3:wr.cell? ⟨b',off'+k*4+3,none⟩=some ub3:=(HBR.out.cell (p:=⟨b',off'+k*4+3,none⟩) hb').trans gd3;clear gd3;have Ed3:=zaa (Dd3.later HBR.out);clear Dd3;have hbw:=HBR.out.size;have hb1:b<wr.heap.size:=by omega
  have hb2:b'<wr.heap.size:=by omega
  clear hca hcb;have k0:=kbZ k la.length;have k1:decide (k<la.length)=true:=by simp;exact hlt
  have HS:=zaa (fun s:zax wr=>zix x y ua3 ub3 s.w (zaa (Ec3.out.later s.below)) (zaa (Ed3.out.later s.below)) (HWA.out x (List.mem_of_getElem? hx)) (HWB.out y (List.mem_of_getElem? hy)));have HX:=zaa hx;have HY:=zaa hy;clear hx hy;unfold zbj at HS;unfold zbj at c0 d0;by_cases hf:x=y
  ·have HTK:=zaa (zbg HT.out HX.out (by rw[hf];exact HY.out))
   rw[zaT hf] at HS;clear hf
   (try generalize(⟨x.name.toArray⟩:ByteArray)=xB0 at *)
   (try generalize(⟨y.name.toArray⟩:ByteArray)=yB0 at *)
   (try generalize x.mem=xB1 at *)
   (try generalize y.mem=yB1 at *)
   (try generalize x.frame=xB2 at *)
   (try generalize y.frame=yB2 at *)
   go_wp2_with fail;refine zaq (W:=wr) (by kernel_rfl) (by kernel_rfl) ?_
   repeat(go_big_quiet_step (first
    |(go_at_call 66;exact zax.call (HS.out _))))
   refine wpQuiet_nil ?_;intro _ hw';obtain⟨nq,hw''⟩:=hw';subst hw'';have HQ:=zaa nq.below;go_wp2_with fail;go_roundw
   case rel=>exact⟨k+1,by omega,by go_num,HTK.out,HBR.out.trans (HQ.out.mono HBR.out.size)⟩
   case measure=>simp[intOf];omega
  ·have HNE:=zaa (zdY HX.out HY.out hf)
   rw[zbm hf] at HS;clear hf
   (try generalize(⟨x.name.toArray⟩:ByteArray)=xB0 at *)
   (try generalize(⟨y.name.toArray⟩:ByteArray)=yB0 at *)
   (try generalize x.mem=xB1 at *)
   (try generalize y.mem=yB1 at *)
   (try generalize x.frame=xB2 at *)
   (try generalize y.frame=yB2 at *)
   go_wp2_with fail;refine zaq (W:=wr) (by kernel_rfl) (by kernel_rfl) ?_
   repeat(go_big_quiet_step (first
    |(go_at_call 66;exact zax.call (HS.out _))))
   refine wpQuiet_nil ?_;intro _ hw';obtain⟨nq,hw''⟩:=hw';subst hw'';have HQ:=zaa nq.below;go_wp2_with fail;go_ret;exact⟨zap HNE.out.symm,HBR.out.trans (HQ.out.mono HBR.out.size)⟩
theorem znt (x y:VlD) (ua6 ub6:Value) (W:World) (Ha6:Hid (DAt W (fun _=>True) ua6 (.row 3 (x.to.map zeJ.cells)))) (Hb6:Hid (DAt W (fun _=>True) ub6 (.row 3 (y.to.map zeJ.cells)))) (hx:x.sm) (hy:y.sm):
 Calls prog 68 #[.agg #[zbj x.name,zbj x.from_.m,zbj x.from_.p,zbj x.from_.o,.int .i64 x.bag,.int .i64 x.max,ua6],.agg #[zbj y.name,zbj y.from_.m,zbj y.from_.p,zbj y.from_.o,.int .i64 y.bag,.int .i64 y.max,ub6]] W fun e w'=>e= .returned (.bool (eqB x y))∧Below W.heap.size W w':=by
 unfold zbj;obtain⟨p0,⟨p1,p2,p3⟩,p4,p5,p6⟩:=x;obtain⟨q0,⟨q1,q2,q3⟩,q4,q5,q6⟩:=y;dsimp only at *;have HSX:Hid _:=hx;have HSY:Hid _:=hy;clear hx hy;have HC6:=zaa (fun(V:World) (hb:Below W.heap.size W V)=>zhx ua6 ub6 p6 q6 V (zaa (Ha6.out.later hb)) (zaa (Hb6.out.later hb)) HSX.out HSY.out);obtain⟨EQ,hEQ⟩: ∃b,eqB (⟨p0,⟨p1,p2,p3⟩,p4,p5,p6⟩:VlD) ⟨q0,⟨q1,q2,q3⟩,q4,q5,q6⟩=b:=⟨_,rfl⟩;rw[hEQ];clear Ha6 Hb6 HSX HSY;rcases dS p0 q0 with h|rfl
 rotate_left;rcases dS p1 q1 with h|rfl
 rotate_left;rcases dS p2 q2 with h|rfl
 rotate_left;rcases dS p3 q3 with h|rfl
 rotate_left;rcases dI p4 q4 with⟨h,g⟩|rfl
 rotate_left;rcases dI p5 q5 with⟨h,g⟩|rfl
 rotate_left;rcases dR p6 q6 with h|rfl
 rotate_left
 all_goals
  first
   |have hq:EQ=true:=hEQ.symm.trans (zaT rfl)
   |have hq:EQ=false:=hEQ.symm.trans (zbm (by intro e;cases e;simp[zbW] at h))
  subst hq;clear hEQ
  (try generalize(⟨p0.toArray⟩:ByteArray)=xB0 at *)
  (try generalize(⟨q0.toArray⟩:ByteArray)=yB0 at *)
  (try generalize(⟨p1.toArray⟩:ByteArray)=xB1 at *)
  (try generalize(⟨q1.toArray⟩:ByteArray)=yB1 at *)
  (try generalize(⟨p2.toArray⟩:ByteArray)=xB2 at *)
  (try generalize(⟨q2.toArray⟩:ByteArray)=yB2 at *)
  (try generalize(⟨p3.toArray⟩:ByteArray)=xB3 at *)
  (try generalize(⟨q3.toArray⟩:ByteArray)=yB3 at *)
  go_enter func68,ntmps68
  go_wp2_with fail
  try
   with_reducible refine(HC6.out _ (((Below.refl _ W).alloc (Nat.le_refl _) _).alloc (by simp) _)).mono ?_
   rintro e w6 ⟨rfl,hb6⟩;have HB6:=zaa ((((Below.refl _ W).alloc (Nat.le_refl _) _).alloc (by simp) _:Below W.heap.size W _).trans (hb6.mono (by simp;omega)));have hz6:W.heap.size+1<w6.heap.size:=by have:=hb6.size;simp at this;omega
   have hy6:W.heap.size<w6.heap.size:=by omega
   obtain⟨hc6,hf6⟩:=zdz hb6;clear hb6;go_wp2_with fail
  go_ret
  first
   |exact⟨rfl,HB6.out⟩
   |exact⟨rfl,(((Below.refl _ W).alloc (Nat.le_refl _) _).alloc (by simp) _)⟩
theorem zmz (va vb:Value) (la lb:List VlD) (W:World) (Ha:Hid (DAt W (fun _=>True) va (.row 7 (la.map VlD.cells)))) (Hb:Hid (DAt W (fun _=>True) vb (.row 7 (lb.map VlD.cells)))) (hla:la.length≤1099511627776) (_hlb:lb.length≤1099511627776) (hwa: ∀x∈la,x.sm) (hwb: ∀x∈lb,x.sm):
 Calls prog 41 #[va,vb] W fun e w'=>e= .returned (.bool (eqB la lb))∧Below W.heap.size W w':=by
 have HWA:=zaa hwa;have HWB:=zaa hwb;clear hwa hwb;obtain⟨A,c,rfl,hA⟩:=Ha.out.slice;obtain⟨A',c',rfl,hB⟩:=Hb.out.slice;have HA:=zaa hA;have HB:=zaa hB;clear hA hB Ha Hb;rw[List.length_map,List.length_map];by_cases hn:la.length=lb.length
 rotate_left
 ·have hd:((la.length:Int)==((lb.length:Nat):Int))=false:=by rw[beq_eq_false_iff_ne];omega
  have hd2:((la.length:Int) != ((lb.length:Nat):Int))=true:=by simp;omega
  have HNE:=zaa (zbm (fun e:la=lb=>hn (congrArg List.length e)));clear hn
  go_enter func41,ntmps41
  go_wp2_with fail;go_ret;exact⟨zap HNE.out.symm,Below.refl _ _⟩
 rw[←hn];have HN:=zaa hn;clear hn
 go_enter func41,ntmps41
 go_wp2_with fail
 go_loopw [5] (fun v5 wr=> ∃k:Nat,k≤la.length∧v5= .int .i64 k∧la.take k=lb.take k∧Below W.heap.size W wr) (fun v5 _=>la.length-(intOf v5).toNat)
 case atStart=>exact⟨0,by omega,rfl,rfl,Below.refl _ _⟩
 case round=>
  obtain⟨k,hk,rfl,ht,hbr⟩:=hrel;have HT:=zaa ht;have HBR:=zaa hbr;clear ht hbr;by_cases hlt:k<la.length
  rotate_left
  ·have HEQ:=zaa (zaT (zbe HT.out hlt HN.out))
   have hdl:decide ((k:Int)<((la.length:Nat):Int))=false:=by simp;omega
   go_wp2_with fail;go_ret;exact⟨zap HEQ.out.symm,HBR.out⟩
  obtain⟨x,hx⟩:=zhG hlt;obtain⟨y,hy⟩: ∃y,lb[k]? =some y:=⟨_,List.getElem?_eq_getElem (by have:=HN.out;omega)⟩;obtain⟨b,off,rfl,hb,hca⟩:=HA.out.at_ hx;obtain⟨b',off',rfl,hb',hcb⟩:=HB.out.at_ hy;have c0:wr.cell? ⟨b,off+k*7,none⟩=some (zbj x.name):=lc HBR.out hb (hca 0 _ rfl);have d0:wr.cell? ⟨b',off'+k*7,none⟩=some (zbj y.name):=lc HBR.out hb' (hcb 0 _ rfl);have c1:wr.cell? ⟨b,off+k*7+1,none⟩=some (zbj x.from_.m):=lc HBR.out hb (hca 1 _ rfl);have d1:wr.cell? ⟨b',off'+k*7+1,none⟩=some (zbj y.from_.m):=lc HBR.out hb' (hcb 1 _ rfl);have c2:wr.cell? ⟨b,off+k*7+2,none⟩=some (zbj x.from_.p):=lc HBR.out hb (hca 2 _ rfl);have d2:wr.cell? ⟨b',off'+k*7+2,none⟩=some (zbj y.from_.p):=lc HBR.out hb' (hcb 2 _ rfl);have c3:wr.cell? ⟨b,off+k*7+3,none⟩=some (zbj x.from_.o):=lc HBR.out hb (hca 3 _ rfl);have d3:wr.cell? ⟨b',off'+k*7+3,none⟩=some (zbj y.from_.o):=lc HBR.out hb' (hcb 3 _ rfl);have c4:wr.cell? ⟨b,off+k*7+4,none⟩=some (Value.int .i64 x.bag):=lc HBR.out hb (hca 4 _ rfl);have d4:wr.cell? ⟨b',off'+k*7+4,none⟩=some (Value.int .i64 y.bag):=lc HBR.out hb' (hcb 4 _ rfl);have c5:wr.cell? ⟨b,off+k*7+5,none⟩=some (Value.int .i64 x.max):=lc HBR.out hb (hca 5 _ rfl);have d5:wr.cell? ⟨b',off'+k*7+5,none⟩=some (Value.int .i64 y.max):=lc HBR.out hb' (hcb 5 _ rfl);obtain⟨ua6,gc6,Dc6⟩:=hca 6 _ rfl;have c6:wr.cell? ⟨b,off+k*7+6,none⟩=some ua6:=zlW HBR.out hb gc6;clear gc6;have Ec6:=zaa (Dc6.later HBR.out);clear Dc6;obtain⟨ub6,gd6,Dd6⟩:=hcb 6 _ rfl;have d6:wr.cell? ⟨b',off'+k*7+6,none⟩=some ub6:=(HBR.out.cell (p:=⟨b',off'+k*7+6,none⟩) hb').trans gd6;clear gd6;have Ed6:=zaa (Dd6.later HBR.out);clear Dd6;have hbw:=HBR.out.size;have hb1:b<wr.heap.size:=by omega
  have hb2:b'<wr.heap.size:=by omega
  clear hca hcb;have k0:=kbZ k la.length;have k1:decide (k<la.length)=true:=by simp;exact hlt
  have HS:=zaa (fun s:zax wr=>znt x y ua6 ub6 s.w (zaa (Ec6.out.later s.below)) (zaa (Ed6.out.later s.below)) (HWA.out x (List.mem_of_getElem? hx)) (HWB.out y (List.mem_of_getElem? hy)));have HX:=zaa hx;have HY:=zaa hy;clear hx hy;unfold zbj at HS;unfold zbj at c0 d0 c1 d1 c2 d2 c3 d3;by_cases hf:x=y
  ·have HTK:=zaa (zbg HT.out HX.out (by rw[hf];exact HY.out))
   rw[zaT hf] at HS;clear hf
   (try generalize(⟨x.name.toArray⟩:ByteArray)=xB0 at *)
   (try generalize(⟨y.name.toArray⟩:ByteArray)=yB0 at *)
   (try generalize(⟨x.from_.m.toArray⟩:ByteArray)=xB1 at *)
   (try generalize(⟨y.from_.m.toArray⟩:ByteArray)=yB1 at *)
   (try generalize(⟨x.from_.p.toArray⟩:ByteArray)=xB2 at *)
   (try generalize(⟨y.from_.p.toArray⟩:ByteArray)=yB2 at *)
   (try generalize(⟨x.from_.o.toArray⟩:ByteArray)=xB3 at *)
   (try generalize(⟨y.from_.o.toArray⟩:ByteArray)=yB3 at *)
   (try generalize x.bag=xB4 at *)
   (try generalize y.bag=yB4 at *)
   (try generalize x.max=xB5 at *)
   (try generalize y.max=yB5 at *)
   go_wp2_with fail;refine zaq (W:=wr) (by kernel_rfl) (by kernel_rfl) ?_
   repeat(go_big_quiet_step (first
    |(go_at_call 68;exact zax.call (HS.out _))))
   refine wpQuiet_nil ?_;intro _ hw';obtain⟨nq,hw''⟩:=hw';subst hw'';have HQ:=zaa nq.below;go_wp2_with fail;go_roundw
   case rel=>exact⟨k+1,by omega,by go_num,HTK.out,HBR.out.trans (HQ.out.mono HBR.out.size)⟩
   case measure=>simp[intOf];omega
  ·have HNE:=zaa (zdY HX.out HY.out hf)
   rw[zbm hf] at HS;clear hf
   (try generalize(⟨x.name.toArray⟩:ByteArray)=xB0 at *)
   (try generalize(⟨y.name.toArray⟩:ByteArray)=yB0 at *)
   (try generalize(⟨x.from_.m.toArray⟩:ByteArray)=xB1 at *)
   (try generalize(⟨y.from_.m.toArray⟩:ByteArray)=yB1 at *)
   (try generalize(⟨x.from_.p.toArray⟩:ByteArray)=xB2 at *)
   (try generalize(⟨y.from_.p.toArray⟩:ByteArray)=yB2 at *)
   (try generalize(⟨x.from_.o.toArray⟩:ByteArray)=xB3 at *)
   (try generalize(⟨y.from_.o.toArray⟩:ByteArray)=yB3 at *)
   (try generalize x.bag=xB4 at *)
   (try generalize y.bag=yB4 at *)
   (try generalize x.max=xB5 at *)
   (try generalize y.max=yB5 at *)
   go_wp2_with fail;refine zaq (W:=wr) (by kernel_rfl) (by kernel_rfl) ?_
   repeat(go_big_quiet_step (first
    |(go_at_call 68;exact zax.call (HS.out _))))
   refine wpQuiet_nil ?_;intro _ hw';obtain⟨nq,hw''⟩:=hw';subst hw'';have HQ:=zaa nq.below;go_wp2_with fail;go_ret;exact⟨zap HNE.out.symm,HBR.out.trans (HQ.out.mono HBR.out.size)⟩
theorem zj0 (x y:zbl) (ua1 ub1 ua2 ub2:Value) (W:World) (Ha1:Hid (DAt W (fun _=>True) ua1 (.row 2 (x.needs.map zf2.cells)))) (Hb1:Hid (DAt W (fun _=>True) ub1 (.row 2 (y.needs.map zf2.cells)))) (Ha2:Hid (DAt W (fun _=>True) ua2 (.row 1 (x.but.map (fun s:List UInt8=>[lS s]))))) (Hb2:Hid (DAt W (fun _=>True) ub2 (.row 1 (y.but.map (fun s:List UInt8=>[lS s]))))) (hx:x.sm) (hy:y.sm):
 Calls prog 69 #[.agg #[zbj x.unit,ua1,ua2],.agg #[zbj y.unit,ub1,ub2]] W fun e w'=>e= .returned (.bool (eqB x y))∧Below W.heap.size W w':=by
 unfold zbj;obtain⟨p0,p1,p2⟩:=x;obtain⟨q0,q1,q2⟩:=y;dsimp only at *;have HSX:Hid _:=hx;have HSY:Hid _:=hy;clear hx hy;have HC1:=zaa (fun(V:World) (hb:Below W.heap.size W V)=>zgT ua1 ub1 p1 q1 V (zaa (Ha1.out.later hb)) (zaa (Hb1.out.later hb)) HSX.out.1 HSY.out.1);have HC2:=zaa (fun(V:World) (hb:Below W.heap.size W V)=>zj6 ua2 ub2 p2 q2 V (zaa (Ha2.out.later hb)) (zaa (Hb2.out.later hb)) HSX.out.2 HSY.out.2);obtain⟨EQ,hEQ⟩: ∃b,eqB (⟨p0,p1,p2⟩:zbl) ⟨q0,q1,q2⟩=b:=⟨_,rfl⟩;rw[hEQ];clear Ha1 Hb1 Ha2 Hb2 HSX HSY;rcases dS p0 q0 with h|rfl
 rotate_left;rcases dR p1 q1 with h|rfl
 rotate_left;rcases dR p2 q2 with h|rfl
 rotate_left
 all_goals
  first
   |have hq:EQ=true:=hEQ.symm.trans (zaT rfl)
   |have hq:EQ=false:=hEQ.symm.trans (zbm (by intro e;cases e;simp[zbW] at h))
  subst hq;clear hEQ
  (try generalize(⟨p0.toArray⟩:ByteArray)=xB0 at *)
  (try generalize(⟨q0.toArray⟩:ByteArray)=yB0 at *)
  go_enter func69,ntmps69
  go_wp2_with fail
  try
   with_reducible refine(HC1.out _ (((Below.refl _ W).alloc (Nat.le_refl _) _).alloc (by simp) _)).mono ?_
   rintro e w1 ⟨rfl,hb1⟩;have HB1:=zaa ((((Below.refl _ W).alloc (Nat.le_refl _) _).alloc (by simp) _:Below W.heap.size W _).trans (hb1.mono (by simp;omega)));have hz1:W.heap.size+1<w1.heap.size:=by have:=hb1.size;simp at this;omega
   have hy1:W.heap.size<w1.heap.size:=by omega
   obtain⟨hc1,hf1⟩:=zdz hb1;clear hb1;go_wp2_with fail
  try
   with_reducible refine(HC2.out _ HB1.out).mono ?_
   rintro e w2 ⟨rfl,hb2⟩;have HB2:=zaa (btZ HB1.out hb2);have hz2:W.heap.size+1<w2.heap.size:=by have:=hb2.size;omega
   have hy2:W.heap.size<w2.heap.size:=by omega
   obtain⟨hc2,hf2⟩:=zdz hb2;clear hb2;go_wp2_with fail
  go_ret
  first
   |exact⟨rfl,HB2.out⟩
   |exact⟨rfl,HB1.out⟩
   |exact⟨rfl,(((Below.refl _ W).alloc (Nat.le_refl _) _).alloc (by simp) _)⟩
theorem zic (va vb:Value) (la lb:List zbl) (W:World) (Ha:Hid (DAt W (fun _=>True) va (.row 3 (la.map zbl.cells)))) (Hb:Hid (DAt W (fun _=>True) vb (.row 3 (lb.map zbl.cells)))) (hla:la.length≤1099511627776) (_hlb:lb.length≤1099511627776) (hwa: ∀x∈la,x.sm) (hwb: ∀x∈lb,x.sm):
 Calls prog 43 #[va,vb] W fun e w'=>e= .returned (.bool (eqB la lb))∧Below W.heap.size W w':=by
 have HWA:=zaa hwa;have HWB:=zaa hwb;clear hwa hwb;obtain⟨A,c,rfl,hA⟩:=Ha.out.slice;obtain⟨A',c',rfl,hB⟩:=Hb.out.slice;have HA:=zaa hA;have HB:=zaa hB;clear hA hB Ha Hb;rw[List.length_map,List.length_map];by_cases hn:la.length=lb.length
 rotate_left
 ·have hd:((la.length:Int)==((lb.length:Nat):Int))=false:=by rw[beq_eq_false_iff_ne];omega
  have hd2:((la.length:Int) != ((lb.length:Nat):Int))=true:=by simp;omega
  have HNE:=zaa (zbm (fun e:la=lb=>hn (congrArg List.length e)));clear hn
  go_enter func43,ntmps43
  go_wp2_with fail;go_ret;exact⟨zap HNE.out.symm,Below.refl _ _⟩
 rw[←hn];have HN:=zaa hn;clear hn
 go_enter func43,ntmps43
 go_wp2_with fail
 go_loopw [5] (fun v5 wr=> ∃k:Nat,k≤la.length∧v5= .int .i64 k∧la.take k=lb.take k∧Below W.heap.size W wr) (fun v5 _=>la.length-(intOf v5).toNat)
 case atStart=>exact⟨0,by omega,rfl,rfl,Below.refl _ _⟩
 case round=>
  obtain⟨k,hk,rfl,ht,hbr⟩:=hrel;have HT:=zaa ht;have HBR:=zaa hbr;clear ht hbr;by_cases hlt:k<la.length
  rotate_left
  ·have HEQ:=zaa (zaT (zbe HT.out hlt HN.out))
   have hdl:decide ((k:Int)<((la.length:Nat):Int))=false:=by simp;omega
   go_wp2_with fail;go_ret;exact⟨zap HEQ.out.symm,HBR.out⟩
  obtain⟨x,hx⟩:=zhG hlt;obtain⟨y,hy⟩: ∃y,lb[k]? =some y:=⟨_,List.getElem?_eq_getElem (by have:=HN.out;omega)⟩;obtain⟨b,off,rfl,hb,hca⟩:=HA.out.at_ hx;obtain⟨b',off',rfl,hb',hcb⟩:=HB.out.at_ hy;have c0:wr.cell? ⟨b,off+k*3,none⟩=some (zbj x.unit):=lc HBR.out hb (hca 0 _ rfl);have d0:wr.cell? ⟨b',off'+k*3,none⟩=some (zbj y.unit):=lc HBR.out hb' (hcb 0 _ rfl);obtain⟨ua1,gc1,Dc1⟩:=hca 1 _ rfl;have c1:wr.cell? ⟨b,off+k*3+1,none⟩=some ua1:=zlW HBR.out hb gc1;clear gc1;have Ec1:=zaa (Dc1.later HBR.out);clear Dc1;obtain⟨ub1,gd1,Dd1⟩:=hcb 1 _ rfl;have d1:wr.cell? ⟨b',off'+k*3+1,none⟩=some ub1:=(HBR.out.cell (p:=⟨b',off'+k*3+1,none⟩) hb').trans gd1;clear gd1;have Ed1:=zaa (Dd1.later HBR.out);clear Dd1;obtain⟨ua2,gc2,Dc2⟩:=hca 2 _ rfl;have c2:wr.cell? ⟨b,off+k*3+2,none⟩=some ua2:=zlW HBR.out hb gc2;clear gc2;have Ec2:=zaa (Dc2.later HBR.out);clear Dc2;obtain⟨ub2,gd2,Dd2⟩:=hcb 2 _ rfl;have d2:wr.cell? ⟨b',off'+k*3+2,none⟩=some ub2:=(HBR.out.cell (p:=⟨b',off'+k*3+2,none⟩) hb').trans gd2;clear gd2;have Ed2:=zaa (Dd2.later HBR.out);clear Dd2;have hbw:=HBR.out.size;have hb1:b<wr.heap.size:=by omega
  have hb2:b'<wr.heap.size:=by omega
  clear hca hcb;have k0:=kbZ k la.length;have k1:decide (k<la.length)=true:=by simp;exact hlt
  have HS:=zaa (fun s:zax wr=>zj0 x y ua1 ub1 ua2 ub2 s.w (zaa (Ec1.out.later s.below)) (zaa (Ed1.out.later s.below)) (zaa (Ec2.out.later s.below)) (zaa (Ed2.out.later s.below)) (HWA.out x (List.mem_of_getElem? hx)) (HWB.out y (List.mem_of_getElem? hy)));have HX:=zaa hx;have HY:=zaa hy;clear hx hy;unfold zbj at HS;unfold zbj at c0 d0;by_cases hf:x=y
  ·have HTK:=zaa (zbg HT.out HX.out (by rw[hf];exact HY.out))
   rw[zaT hf] at HS;clear hf
   (try generalize(⟨x.unit.toArray⟩:ByteArray)=xB0 at *)
   (try generalize(⟨y.unit.toArray⟩:ByteArray)=yB0 at *)
   go_wp2_with fail;refine zaq (W:=wr) (by kernel_rfl) (by kernel_rfl) ?_
   repeat(go_big_quiet_step (first
    |(go_at_call 69;exact zax.call (HS.out _))))
   refine wpQuiet_nil ?_;intro _ hw';obtain⟨nq,hw''⟩:=hw';subst hw'';have HQ:=zaa nq.below;go_wp2_with fail;go_roundw
   case rel=>exact⟨k+1,by omega,by go_num,HTK.out,HBR.out.trans (HQ.out.mono HBR.out.size)⟩
   case measure=>simp[intOf];omega
  ·have HNE:=zaa (zdY HX.out HY.out hf)
   rw[zbm hf] at HS;clear hf
   (try generalize(⟨x.unit.toArray⟩:ByteArray)=xB0 at *)
   (try generalize(⟨y.unit.toArray⟩:ByteArray)=yB0 at *)
   go_wp2_with fail;refine zaq (W:=wr) (by kernel_rfl) (by kernel_rfl) ?_
   repeat(go_big_quiet_step (first
    |(go_at_call 69;exact zax.call (HS.out _))))
   refine wpQuiet_nil ?_;intro _ hw';obtain⟨nq,hw''⟩:=hw';subst hw'';have HQ:=zaa nq.below;go_wp2_with fail;go_ret;exact⟨zap HNE.out.symm,HBR.out.trans (HQ.out.mono HBR.out.size)⟩
end Go.Proofs.YtlngbjphagnloaaGreatDoor
