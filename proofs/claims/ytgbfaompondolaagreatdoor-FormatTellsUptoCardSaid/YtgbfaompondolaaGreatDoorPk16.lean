/- Merged texts of the walks and of the plain laws on which the statement leans.-/
import Derived.Test.YtgbfaompondolaaGreatDoorPk1
import Derived.Test.YtgbfaompondolaaGreatDoorPk14
import Derived.Test.YtgbfaompondolaaGreatDoorPk13
import Derived.Deep.DeepCutAuto
import Derived.Deep.Light
set_option maxHeartbeats 8000000
set_option maxRecDepth 100000
namespace Go.Proofs.YtgbfaompondolaaGreatDoor
open Tryz
open Go.RowKit
attribute [local go_sem] zaj.cell
theorem bs1 (t0:TypeId) (x0:Value) (w:World):(Instr.buildSlice 174 1 #[(0,.iface t0 x0)]).run prog w= .ok (.slice (some ⟨w.heap.size,0,none⟩) 1 1) (w.alloc (.cells #[.iface t0 x0] 20)):=by kernel_rfl
theorem bs2 (t0 t1:TypeId) (x0 x1:Value) (w:World):(Instr.buildSlice 174 2 #[(0,.iface t0 x0),(1,.iface t1 x1)]).run prog w= .ok (.slice (some ⟨w.heap.size,0,none⟩) 2 2) (w.alloc (.cells #[.iface t0 x0,.iface t1 x1] 20)):=by kernel_rfl
theorem bs6 (t0 t1 t2 t3 t4 t5:TypeId) (x0 x1 x2 x3 x4 x5:Value) (w:World):(Instr.buildSlice 174 6 #[(0,.iface t0 x0),(1,.iface t1 x1),(2,.iface t2 x2),(3,.iface t3 x3),(4,.iface t4 x4),(5,.iface t5 x5)]).run prog w= .ok (.slice (some ⟨w.heap.size,0,none⟩) 6 6) (w.alloc (.cells #[.iface t0 x0,.iface t1 x1,.iface t2 x2,.iface t3 x3,.iface t4 x4,.iface t5 x5] 20)):=by kernel_rfl
theorem bs8 (t0 t1 t2 t3 t4 t5 t6 t7:TypeId) (x0 x1 x2 x3 x4 x5 x6 x7:Value) (w:World):(Instr.buildSlice 174 8 #[(0,.iface t0 x0),(1,.iface t1 x1),(2,.iface t2 x2),(3,.iface t3 x3),(4,.iface t4 x4),(5,.iface t5 x5),(6,.iface t6 x6),(7,.iface t7 x7)]).run prog w= .ok (.slice (some ⟨w.heap.size,0,none⟩) 8 8) (w.alloc (.cells #[.iface t0 x0,.iface t1 x1,.iface t2 x2,.iface t3 x3,.iface t4 x4,.iface t5 x5,.iface t6 x6,.iface t7 x7] 20)):=by kernel_rfl
theorem zcw {ρ:Operand→Value} {o:Oper} {t:TypeId} {n:Nat} {parts:Array (Nat×Operand)} {ps:Array (Nat×Value)} {v:Value} {w w':World} (ho:o.op= .buildSlice t n parts) (hp:(parts.map fun x=>(x.1,ρ x.2))=ps) (h:(Instr.buildSlice t n ps).run prog w= .ok v w'):(execOp ρ o).run prog w= .ok (.value v) w':=by
 unfold execOp;rw[ho];subst hp;simp[h]
theorem zcv {c:Prop} [Decidable c] {p q:Prop} (h:c) (hp:p):(if c then p else q):=by
 rw[if_pos h];exact hp
theorem zbZ {o:Oper} {a:Act} {w w':World} {v:Value} {K:Act→World→Prop} {Q:Exit→Act→World→Prop} (h:(execOp a.eval o).run prog w= .ok (.value v) w') (hK:K (a.put o.dst v) w'):Oper.wp prog o a w K Q:=by
 unfold Oper.wp;rw[h];rw[Oper.upon_value];exact hK
theorem zoR (B b:Nat) (k8:C8) (L:List UInt8) (x:zaQ) (us:List Value) (W:World) (h:Hid (zb6 B b k8 L W)) (hd:Hid (zab W (fun g=>g<B) us x.cells)) (hF:zc0 x=true) (hlen:L.length+(zcq x).length≤1000000) (hBw:B≤W.heap.size) (hGB:8≤B) (hE:Hid (Env W)) (hGP:2≤B) (hP:Hid (zcT W)) (hfit:zb0 x):
 Calls prog 133 #[.pointer (some ⟨b,0,none⟩),.agg us.toArray] W fun e w'=>e= .returned (.tuple #[])∧zb6 B b k8 (L++zcq x) w'∧Below B W w'∧PrK b W w':=by
 simp only[zc0,Bool.and_eq_true] at hF;obtain⟨-,hn,hsm,hbf,hpt,hpr⟩:=hF;simp only[List.all_cons,List.all_nil,Bool.and_true,Bool.and_eq_true] at hn;obtain⟨n0,n1,n2,n3,n4⟩:=hn;have HSM:=zaa hsm;have HBF:=zaa hbf;have HPT:=zaa hpt;have HPR:=zaa hpr;clear hsm hbf hpt hpr;obtain⟨fs,fb,fp,fq,fz⟩:=hfit;have HZ:=zaa fz;clear fz;have hsum:(zcq x).length=(zbM x).length+(za7 x).length+(zaR x).length+(zaW x).length+(zcA x).length+(zap zbP x.ports).length+(zap zcB x.procs).length+3:=by
  have:(lnT 1 [125] []).length=3:=by rw[zaz];rfl
  simp only[zcq,List.length_append]
  omega
 rw[hsum] at hlen;have hfin:L++zcq x=L++zbM x++za7 x++zaR x++zaW x++zcA x++zap zbP x.ports++zap zcB x.procs++lnT 1 [125] []:=by simp only[zcq,List.append_assoc]
 rw[hfin];clear hsum hfin;have hd:=hd.out;obtain⟨u0,us,rfl,h0,hd0⟩:=zae hd;clear hd;obtain⟨u1,us,rfl,h1,hd1⟩:=zae hd0;clear hd0;obtain⟨u2,us,rfl,h2,hd2⟩:=zae hd1;clear hd1;obtain⟨u3,us,rfl,h3,hd3⟩:=zae hd2;clear hd2;obtain⟨u4,us,rfl,h4,hd4⟩:=zae hd3;clear hd3;obtain⟨u5,us,rfl,h5,hd5⟩:=zae hd4;clear hd4;obtain⟨u6,us,rfl,h6,hd6⟩:=zae hd5;clear hd5;obtain⟨u7,us,rfl,h7,hd7⟩:=zae hd6;clear hd6;obtain⟨u8,us,rfl,h8,hd8⟩:=zae hd7;clear hd7;obtain⟨u9,us,rfl,h9,hd9⟩:=zae hd8;clear hd8;obtain rfl:=zbD hd9;clear hd9;obtain rfl:=h0.leaf_eq;obtain rfl:=h1.leaf_eq;obtain rfl:=h2.leaf_eq;obtain rfl:=h3.leaf_eq;have HG4:=zaa h4;obtain⟨A4,q4,rfl,hr4⟩:=h4.sliceG;have HR4:=zaa hr4;clear hr4;obtain rfl:=h5.leaf_eq;obtain rfl:=h6.leaf_eq;have HG7:=zaa h7;obtain⟨A7,q7,rfl,hr7⟩:=h7.sliceG;have HR7:=zaa hr7;clear hr7;have HG8:=zaa h8;obtain⟨A8,q8,rfl,hr8⟩:=h8.sliceG;have HR8:=zaa hr8;clear hr8;have HG9:=zaa h9;obtain⟨A9,q9,rfl,hr9⟩:=h9.sliceG;have HR9:=zaa hr9;clear hr9;rw[show(zah x.semas).length=x.semas.length from by simp[zah]] at HG4 ⊢;rw[show(zah x.bufs).length=x.bufs.length from by simp[zah]] at HG7 ⊢;simp only[List.length_map] at HG8 HG9 ⊢;clear h0 h1 h2 h3 h4 h5 h6 h7 h8 h9;simp only[zav];have HXb:=zaa (heap_alloc_new W (.cells #[.string ⟨x.name.toArray⟩,.int .i64 x.period,.int .i64 x.length,.int .i64 x.mem,.slice A4 x.semas.length q4,.int .i64 x.events,.int .i64 x.boards,.slice A7 x.bufs.length q7,.slice A8 x.ports.length q8,.slice A9 x.procs.length q9] 49));have HBA:=zaa ((Below.refl W.heap.size W).alloc (Nat.le_refl _) (.cells #[.string ⟨x.name.toArray⟩,.int .i64 x.period,.int .i64 x.length,.int .i64 x.mem,.slice A4 x.semas.length q4,.int .i64 x.events,.int .i64 x.boards,.slice A7 x.bufs.length q7,.slice A8 x.ports.length q8,.slice A9 x.procs.length q9] 49));have hxl0:W.heap.size<(W.alloc (.cells #[.string ⟨x.name.toArray⟩,.int .i64 x.period,.int .i64 x.length,.int .i64 x.mem,.slice A4 x.semas.length q4,.int .i64 x.events,.int .i64 x.boards,.slice A7 x.bufs.length q7,.slice A8 x.ports.length q8,.slice A9 x.procs.length q9] 49)).heap.size:=by simp
 go_enter func133,ntmps133
 go_wp2_with fail;generalize W.alloc _=w0 at *;have HPa:=zaa (h.out.later HBA.out);have HBa:=zaa (HBA.out.mono hBw);have HKa:=zaa (PrK.refl b w0);have HKW:=zaa (PrK.later (b:=b) HBA.out);have hxb:W.heap.size≠b:=by have:=h.out.lt;omega
 have HOx:Hid (Oth w0 W.heap.size):=zaa ⟨_,_,_,HXb.out,by decide⟩;obtain⟨xb,hxbe⟩: ∃xb,W.heap.size=xb:=⟨_,rfl⟩;have HXE:=zaa hxbe;clear h HBA;clear hxbe xb HXE;have HXw:=zaa ((HKa.out.block W.heap.size hxb HOx.out).trans HXb.out);have hxl:W.heap.size<w0.heap.size:=(zau HXw.out);obtain⟨x0,x1,x2,x3⟩:=zc1 HXw.out rfl;have hl1:(zbM x).length=1+(zbK ([.s ([112,97,114,116]),.s (x.name),.s ([112,101,114,105,111,100]),.n (x.period),.s ([108,101,110,103,116,104]),.n (x.length),.s ([109,101,109]),.n (x.mem)]:List Arg)).length+3:=by rw[zbM,zaz];rfl
 have hBa:B≤w0.heap.size:=Nat.le_trans hBw HBa.out.size;refine zak (S:=fun w'=>Below w0.heap.size w0 w') 20 (by kernel_rfl) (by kernel_rfl) (Below.refl _ _).drew (fun hHeld=> ?_);generalize w0.drew=U at *;refine tq 0 11 rfl hHeld ?_;refine tq 1 12 rfl hHeld ?_;refine tq 2 13 rfl hHeld ?_;refine tq 3 14 rfl hHeld ?_;refine tq 4 15 rfl hHeld ?_
 (try simp only[pu])
 refine tyZ (v:= ?_) 5 16 rfl hHeld (fun v hS=> ?_) ?_;rotate_left
 ·have e0:=zad hS hxl 0 x0
  go_simp
  with_reducible rfl
 refine tq 6 17 rfl hHeld ?_;refine tq 7 18 rfl hHeld ?_;refine tq 8 19 rfl hHeld ?_
 (try simp only[pu])
 refine tyZ (v:= ?_) 9 20 rfl hHeld (fun v hS=> ?_) ?_;rotate_left
 ·have e0:=zad hS hxl 1 x1
  go_simp
  with_reducible rfl
 refine tq 10 21 rfl hHeld ?_;refine tq 11 22 rfl hHeld ?_;refine tq 12 23 rfl hHeld ?_
 (try simp only[pu])
 refine tyZ (v:= ?_) 13 24 rfl hHeld (fun v hS=> ?_) ?_;rotate_left
 ·have e0:=zad hS hxl 2 x2
  go_simp
  with_reducible rfl
 refine tq 14 25 rfl hHeld ?_;refine tq 15 26 rfl hHeld ?_;refine tq 16 27 rfl hHeld ?_
 (try simp only[pu])
 refine tyZ (v:= ?_) 17 28 rfl hHeld (fun v hS=> ?_) ?_;rotate_left
 ·have e0:=zad hS hxl 3 x3
  go_simp
  with_reducible rfl
 refine tq 18 29 rfl hHeld ?_
 (try simp only[pu])
 refine trZ [19] (zaN.cons rfl (fun K hK=> ?_) zaN.nil);refine zcv (by rfl) ?_;have HD:=zaa (zbL U ([.s ([112,97,114,116]),.s (x.name),.s ([112,101,114,105,111,100]),.n (x.period),.s ([108,101,110,103,116,104]),.n (x.length),.s ([109,101,109]),.n (x.mem)]:List Arg) (b:=b) (HPa.out.later hHeld).lt);refine zbZ (zcw (ps:= #[(0,.iface 9 (.string ⟨([112,97,114,116]).toArray⟩)),(1,.iface 9 (.string ⟨(x.name).toArray⟩)),(2,.iface 9 (.string ⟨([112,101,114,105,111,100]).toArray⟩)),(3,.iface 3 (.int .i64 x.period)),(4,.iface 9 (.string ⟨([108,101,110,103,116,104]).toArray⟩)),(5,.iface 3 (.int .i64 x.length)),(6,.iface 9 (.string ⟨([109,101,109]).toArray⟩)),(7,.iface 3 (.int .i64 x.mem))]) rfl (by kernel_rfl) (bs8 _ _ _ _ _ _ _ _ _ _ _ _ _ _ _ _ U)) ?_;refine hK.out _ _ (hHeld.alloc hHeld.size _) (fun hHeld1=> ?_);clear hK K hHeld
 (try simp only[Act.put,zgl])
 refine zan (by kernel_rfl) ?_;simp only[List.drop_succ_cons,List.drop_zero];have HBl:=zaa (HBa.out.trans (hHeld1.mono hBa));have HKl:=zaa (HKa.out.trans (.later hHeld1));have HC:=zaa (zbx B b k8 _ 1 [32,123] _ ([.s ([112,97,114,116]),.s (x.name),.s ([112,101,114,105,111,100]),.n (x.period),.s ([108,101,110,103,116,104]),.n (x.length),.s ([109,101,109]),.n (x.mem)]:List Arg) _ (zaa (HPa.out.later hHeld1)) HD (zaa (za4 (za4 (za4 (zeR n0 (za4 (zeR n1 (za4 (zeR n2 zbh))))))))) (by simp) (by omega) (by simp) (by omega) (Nat.le_trans hBa hHeld1.size) hGB (zaa (hE.out.keptB HBl.out hGB)));clear hHeld1 HD;go_wp2_with fail;refine HC.out.mono ?_;rintro e wb ⟨rfl,h1,h2,h3⟩;have HPb:=zaa h1;have HBb:=zaa (HBl.out.trans h2);have HKb:=zaa (HKl.out.trans h3);clear h1 h2 h3 HC HBl HKl;clear hl1 HXw x0 x1 x2 x3 hxl;replace HPb:Hid (zb6 B b k8 (L++zbM x) wb):=HPb;have HXw:=zaa ((HKb.out.block W.heap.size hxb HOx.out).trans HXb.out);have hxl:W.heap.size<wb.heap.size:=(zau HXw.out);have x4:=cell_of_row _ _ 4 _ _ _ HXw.out
 go_upto_if 35 with fail
 go_cut [] (fun wx=>Hid (zb6 B b k8 (L++zbM x++za7 x) wx)∧Hid (Below B W wx)∧Hid (PrK b w0 wx))
 case first=>
  as_aux_lemma=>
   by_cases hc:x.semas=[]
   ·have he:za7 x=[]:=if_pos hc
    have hn0:x.semas.length=0:=by rw[hc];rfl
    rw[hn0] at x4;go_wp2_with fail;go_meet;exact⟨zaa (by rw[he,List.append_nil];exact HPb.out),HBb,HKb⟩
   ·have hnc:=zaa hc
    have hn1:(0:Int)<(x.semas.length:Int):=by have:=List.length_pos_iff.2 hc;omega
    have hT:za7 x=lnT 2 [59] ([.s ([115,101,109,97,115]),.s (zcp x.semas)]:List Arg):=if_neg hc;have hl1:=congrArg List.length hT;rw[zaz] at hl1;have hl2:=hl1;simp only[zbK,Arg.txt,List.map_cons,List.map_nil,List.flatten_cons,List.flatten_nil,List.length_append,List.length_cons,List.length_nil] at hl2;go_wp2_with fail;have hBb:B≤wb.heap.size:=Nat.le_trans hBw HBb.out.size;refine zak (S:=fun w'=>Below wb.heap.size wb w') 9 (by kernel_rfl) (by kernel_rfl) (Below.refl _ _).drew (fun hHeld=> ?_);generalize wb.drew=U at *;refine tq 0 36 rfl hHeld ?_;refine tq 1 37 rfl hHeld ?_;refine tq 2 38 rfl hHeld ?_;refine tq 3 39 rfl hHeld ?_;refine tq 4 40 rfl hHeld ?_
    (try simp only[pu])
    refine tyZ (v:= ?_) 5 41 rfl hHeld (fun v hS=> ?_) ?_;rotate_left
    ·have e0:=zad hS hxl 4 x4
     go_simp
     with_reducible rfl
    (try simp only[pu])
    refine trZ [6] (zaN.cons rfl (fun K hK=> ?_) zaN.nil);go_simp;have HI:=zaa (zgC (.slice A4 x.semas.length q4) x.semas U (zaa (((HG4.out.lateG (HBb.out)).lateG (hHeld.mono hBb)).mono (fun _ _ _=>trivial))) (by omega) HSM (Nat.le_trans hGB (Nat.le_trans hBb hHeld.size)) (zaa (hE.out.keptB (HBb.out.trans (hHeld.mono hBb)) hGB)));refine HI.out.mono ?_;rintro e Ua ⟨rfl,hb⟩;have hSUa:=hHeld.trans (hb.mono hHeld.size);clear hb HI hHeld;go_wp2_with fail;refine hK.out _ _ hSUa (fun hHeld=> ?_);clear hK K hSUa;refine tq 7 43 rfl hHeld ?_
    (try simp only[pu])
    refine trZ [8] (zaN.cons rfl (fun K hK=> ?_) zaN.nil);refine zcv (by rfl) ?_;have HD:=zaa (zbL Ua ([.s ([115,101,109,97,115]),.s (zcp x.semas)]:List Arg) (b:=b) (HPb.out.later hHeld).lt);refine zbZ (zcw (ps:= #[(0,.iface 9 (.string ⟨([115,101,109,97,115]).toArray⟩)),(1,.iface 9 (.string ⟨(zcp x.semas).toArray⟩))]) rfl (by kernel_rfl) (bs2 _ _ _ _ Ua)) ?_;refine hK.out _ _ (hHeld.alloc hHeld.size _) (fun hHeld1=> ?_);clear hK K hHeld
    (try simp only[Act.put,zgl])
    refine zan (by kernel_rfl) ?_;simp only[List.drop_succ_cons,List.drop_zero];have HBl:=zaa (HBb.out.trans (hHeld1.mono hBb));have HKl:=zaa (HKb.out.trans (.later hHeld1));have HC:=zaa (zbx B b k8 _ 2 [59] _ ([.s ([115,101,109,97,115]),.s (zcp x.semas)]:List Arg) _ (zaa (HPb.out.later hHeld1)) HD (zaa (za4 (za4 zbh))) (by simp) (by omega) (by simp) (by simp only[List.length_append];omega) (Nat.le_trans hBb hHeld1.size) hGB (zaa (hE.out.keptB HBl.out hGB)));clear hHeld1 HD;go_wp2_with fail;refine HC.out.mono ?_;rintro e wy ⟨rfl,h1,h2,h3⟩;have HPy:=zaa h1;have HBy:=zaa (HBl.out.trans h2);have HKy:=zaa (HKl.out.trans h3);clear h1 h2 h3 HC HBl HKl;rw[←hT] at HPy;go_wp2_with fail;go_meet;exact⟨HPy,HBy,HKy⟩
 case rest=>
  clear HPb HBb HKb HXw x4 hxl;obtain⟨HPc,HBc,HKc⟩:=hcut;obtain⟨wsc,rfl⟩: ∃wsc,wsc=wc:=⟨_,rfl⟩;have HXw:=zaa ((HKc.out.block W.heap.size hxb HOx.out).trans HXb.out);have hxl:W.heap.size<wsc.heap.size:=(zau HXw.out);have x5:=cell_of_row _ _ 5 _ _ _ HXw.out
  go_upto_if 48 with fail
  go_cut [] (fun wx=>Hid (zb6 B b k8 (L++zbM x++za7 x++zaR x) wx)∧Hid (Below B W wx)∧Hid (PrK b w0 wx))
  case first=>
   as_aux_lemma=>
    by_cases hc: ¬0<x.events
    ·have he:zaR x=[]:=if_neg hc
     have hn1: ¬(0:Int)<x.events:=hc;go_wp2_with fail;go_meet;exact⟨zaa (by rw[he,List.append_nil];exact HPc.out),HBc,HKc⟩
    ·have hnc:=zaa hc
     have hT:zaR x=lnT 2 [59] ([.s ([101,118,101,110,116,115]),.n (x.events)]:List Arg):=if_pos (by omega);have hn1:(0:Int)<x.events:=by omega
     have hl1:=congrArg List.length hT;rw[zaz] at hl1;go_wp2_with fail;have hBc:B≤wsc.heap.size:=Nat.le_trans hBw HBc.out.size;refine zak (S:=fun w'=>Below wsc.heap.size wsc w') 8 (by kernel_rfl) (by kernel_rfl) (Below.refl _ _).drew (fun hHeld=> ?_);generalize wsc.drew=U at *;refine tq 0 49 rfl hHeld ?_;refine tq 1 50 rfl hHeld ?_;refine tq 2 51 rfl hHeld ?_;refine tq 3 52 rfl hHeld ?_;refine tq 4 53 rfl hHeld ?_
     (try simp only[pu])
     refine tyZ (v:= ?_) 5 54 rfl hHeld (fun v hS=> ?_) ?_;rotate_left
     ·have e0:=zad hS hxl 5 x5
      go_simp
      with_reducible rfl
     refine tq 6 55 rfl hHeld ?_
     (try simp only[pu])
     refine trZ [7] (zaN.cons rfl (fun K hK=> ?_) zaN.nil);refine zcv (by rfl) ?_;have HD:=zaa (zbL U ([.s ([101,118,101,110,116,115]),.n (x.events)]:List Arg) (b:=b) (HPc.out.later hHeld).lt);refine zbZ (zcw (ps:= #[(0,.iface 9 (.string ⟨([101,118,101,110,116,115]).toArray⟩)),(1,.iface 3 (.int .i64 x.events))]) rfl (by kernel_rfl) (bs2 _ _ _ _ U)) ?_;refine hK.out _ _ (hHeld.alloc hHeld.size _) (fun hHeld1=> ?_);clear hK K hHeld
     (try simp only[Act.put,zgl])
     refine zan (by kernel_rfl) ?_;simp only[List.drop_succ_cons,List.drop_zero];have HBl:=zaa (HBc.out.trans (hHeld1.mono hBc));have HKl:=zaa (HKc.out.trans (.later hHeld1));have HC:=zaa (zbx B b k8 _ 2 [59] _ ([.s ([101,118,101,110,116,115]),.n (x.events)]:List Arg) _ (zaa (HPc.out.later hHeld1)) HD (zaa (za4 (zeR n3 zbh))) (by simp) (by omega) (by simp) (by simp only[List.length_append];omega) (Nat.le_trans hBc hHeld1.size) hGB (zaa (hE.out.keptB HBl.out hGB)));clear hHeld1 HD;go_wp2_with fail;refine HC.out.mono ?_;rintro e wy ⟨rfl,h1,h2,h3⟩;have HPy:=zaa h1;have HBy:=zaa (HBl.out.trans h2);have HKy:=zaa (HKl.out.trans h3);clear h1 h2 h3 HC HBl HKl;rw[←hT] at HPy;go_wp2_with fail;go_meet;exact⟨HPy,HBy,HKy⟩
  case rest=>
   clear HPc HBc HKc HXw x5 hxl;obtain⟨HPd,HBd,HKd⟩:=hcut;obtain⟨wsd,rfl⟩: ∃wsd,wsd=wc:=⟨_,rfl⟩;have HXw:=zaa ((HKd.out.block W.heap.size hxb HOx.out).trans HXb.out);have hxl:W.heap.size<wsd.heap.size:=(zau HXw.out);have x6:=cell_of_row _ _ 6 _ _ _ HXw.out
   go_upto_if 60 with fail
   go_cut [] (fun wx=>Hid (zb6 B b k8 (L++zbM x++za7 x++zaR x++zaW x) wx)∧Hid (Below B W wx)∧Hid (PrK b w0 wx))
   case first=>
    as_aux_lemma=>
     by_cases hc: ¬0<x.boards
     ·have he:zaW x=[]:=if_neg hc
      have hn1: ¬(0:Int)<x.boards:=hc;go_wp2_with fail;go_meet;exact⟨zaa (by rw[he,List.append_nil];exact HPd.out),HBd,HKd⟩
     ·have hnc:=zaa hc
      have hT:zaW x=lnT 2 [59] ([.s ([98,111,97,114,100,115]),.n (x.boards)]:List Arg):=if_pos (by omega);have hn1:(0:Int)<x.boards:=by omega
      have hl1:=congrArg List.length hT;rw[zaz] at hl1;go_wp2_with fail;have hBd:B≤wsd.heap.size:=Nat.le_trans hBw HBd.out.size;refine zak (S:=fun w'=>Below wsd.heap.size wsd w') 8 (by kernel_rfl) (by kernel_rfl) (Below.refl _ _).drew (fun hHeld=> ?_);generalize wsd.drew=U at *;refine tq 0 61 rfl hHeld ?_;refine tq 1 62 rfl hHeld ?_;refine tq 2 63 rfl hHeld ?_;refine tq 3 64 rfl hHeld ?_;refine tq 4 65 rfl hHeld ?_
      (try simp only[pu])
      refine tyZ (v:= ?_) 5 66 rfl hHeld (fun v hS=> ?_) ?_;rotate_left
      ·have e0:=zad hS hxl 6 x6
       go_simp
       with_reducible rfl
      refine tq 6 67 rfl hHeld ?_
      (try simp only[pu])
      refine trZ [7] (zaN.cons rfl (fun K hK=> ?_) zaN.nil);refine zcv (by rfl) ?_;have HD:=zaa (zbL U ([.s ([98,111,97,114,100,115]),.n (x.boards)]:List Arg) (b:=b) (HPd.out.later hHeld).lt);refine zbZ (zcw (ps:= #[(0,.iface 9 (.string ⟨([98,111,97,114,100,115]).toArray⟩)),(1,.iface 3 (.int .i64 x.boards))]) rfl (by kernel_rfl) (bs2 _ _ _ _ U)) ?_;refine hK.out _ _ (hHeld.alloc hHeld.size _) (fun hHeld1=> ?_);clear hK K hHeld
      (try simp only[Act.put,zgl])
      refine zan (by kernel_rfl) ?_;simp only[List.drop_succ_cons,List.drop_zero];have HBl:=zaa (HBd.out.trans (hHeld1.mono hBd));have HKl:=zaa (HKd.out.trans (.later hHeld1));have HC:=zaa (zbx B b k8 _ 2 [59] _ ([.s ([98,111,97,114,100,115]),.n (x.boards)]:List Arg) _ (zaa (HPd.out.later hHeld1)) HD (zaa (za4 (zeR n4 zbh))) (by simp) (by omega) (by simp) (by simp only[List.length_append];omega) (Nat.le_trans hBd hHeld1.size) hGB (zaa (hE.out.keptB HBl.out hGB)));clear hHeld1 HD;go_wp2_with fail;refine HC.out.mono ?_;rintro e wy ⟨rfl,h1,h2,h3⟩;have HPy:=zaa h1;have HBy:=zaa (HBl.out.trans h2);have HKy:=zaa (HKl.out.trans h3);clear h1 h2 h3 HC HBl HKl;rw[←hT] at HPy;go_wp2_with fail;go_meet;exact⟨HPy,HBy,HKy⟩
   case rest=>
    clear HPd HBd HKd HXw x6 hxl;obtain⟨HPe,HBe,HKe⟩:=hcut;obtain⟨wse,rfl⟩: ∃wse,wse=wc:=⟨_,rfl⟩;have HXw:=zaa ((HKe.out.block W.heap.size hxb HOx.out).trans HXb.out);have hxl:W.heap.size<wse.heap.size:=(zau HXw.out);have x7:=cell_of_row _ _ 7 _ _ _ HXw.out
    go_upto_if 73 with fail
    go_cut [] (fun wx=>Hid (zb6 B b k8 (L++zbM x++za7 x++zaR x++zaW x++zcA x) wx)∧Hid (Below B W wx)∧Hid (PrK b w0 wx))
    case first=>
     as_aux_lemma=>
      by_cases hc:x.bufs=[]
      ·have he:zcA x=[]:=if_pos hc
       have hn0:x.bufs.length=0:=by rw[hc];rfl
       rw[hn0] at x7;go_wp2_with fail;go_meet;exact⟨zaa (by rw[he,List.append_nil];exact HPe.out),HBe,HKe⟩
      ·have hnc:=zaa hc
       have hn1:(0:Int)<(x.bufs.length:Int):=by have:=List.length_pos_iff.2 hc;omega
       have hT:zcA x=lnT 2 [59] ([.s ([98,117,102,115]),.s (zcp x.bufs)]:List Arg):=if_neg hc;have hl1:=congrArg List.length hT;rw[zaz] at hl1;have hl2:=hl1;simp only[zbK,Arg.txt,List.map_cons,List.map_nil,List.flatten_cons,List.flatten_nil,List.length_append,List.length_cons,List.length_nil] at hl2;go_wp2_with fail;have hBe:B≤wse.heap.size:=Nat.le_trans hBw HBe.out.size;refine zak (S:=fun w'=>Below wse.heap.size wse w') 9 (by kernel_rfl) (by kernel_rfl) (Below.refl _ _).drew (fun hHeld=> ?_);generalize wse.drew=U at *;refine tq 0 74 rfl hHeld ?_;refine tq 1 75 rfl hHeld ?_;refine tq 2 76 rfl hHeld ?_;refine tq 3 77 rfl hHeld ?_;refine tq 4 78 rfl hHeld ?_
       (try simp only[pu])
       refine tyZ (v:= ?_) 5 79 rfl hHeld (fun v hS=> ?_) ?_;rotate_left
       ·have e0:=zad hS hxl 7 x7
        go_simp
        with_reducible rfl
       (try simp only[pu])
       refine trZ [6] (zaN.cons rfl (fun K hK=> ?_) zaN.nil);go_simp;have HI:=zaa (zgC (.slice A7 x.bufs.length q7) x.bufs U (zaa (((HG7.out.lateG (HBe.out)).lateG (hHeld.mono hBe)).mono (fun _ _ _=>trivial))) (by omega) HBF (Nat.le_trans hGB (Nat.le_trans hBe hHeld.size)) (zaa (hE.out.keptB (HBe.out.trans (hHeld.mono hBe)) hGB)));refine HI.out.mono ?_;rintro e Ua ⟨rfl,hb⟩;have hSUa:=hHeld.trans (hb.mono hHeld.size);clear hb HI hHeld;go_wp2_with fail;refine hK.out _ _ hSUa (fun hHeld=> ?_);clear hK K hSUa;refine tq 7 81 rfl hHeld ?_
       (try simp only[pu])
       refine trZ [8] (zaN.cons rfl (fun K hK=> ?_) zaN.nil);refine zcv (by rfl) ?_;have HD:=zaa (zbL Ua ([.s ([98,117,102,115]),.s (zcp x.bufs)]:List Arg) (b:=b) (HPe.out.later hHeld).lt);refine zbZ (zcw (ps:= #[(0,.iface 9 (.string ⟨([98,117,102,115]).toArray⟩)),(1,.iface 9 (.string ⟨(zcp x.bufs).toArray⟩))]) rfl (by kernel_rfl) (bs2 _ _ _ _ Ua)) ?_;refine hK.out _ _ (hHeld.alloc hHeld.size _) (fun hHeld1=> ?_);clear hK K hHeld
       (try simp only[Act.put,zgl])
       refine zan (by kernel_rfl) ?_;simp only[List.drop_succ_cons,List.drop_zero];have HBl:=zaa (HBe.out.trans (hHeld1.mono hBe));have HKl:=zaa (HKe.out.trans (.later hHeld1));have HC:=zaa (zbx B b k8 _ 2 [59] _ ([.s ([98,117,102,115]),.s (zcp x.bufs)]:List Arg) _ (zaa (HPe.out.later hHeld1)) HD (zaa (za4 (za4 zbh))) (by simp) (by omega) (by simp) (by simp only[List.length_append];omega) (Nat.le_trans hBe hHeld1.size) hGB (zaa (hE.out.keptB HBl.out hGB)));clear hHeld1 HD;go_wp2_with fail;refine HC.out.mono ?_;rintro e wy ⟨rfl,h1,h2,h3⟩;have HPy:=zaa h1;have HBy:=zaa (HBl.out.trans h2);have HKy:=zaa (HKl.out.trans h3);clear h1 h2 h3 HC HBl HKl;rw[←hT] at HPy;go_wp2_with fail;go_meet;exact⟨HPy,HBy,HKy⟩
    case rest=>
     clear HPe HBe HKe HXw x7 hxl;obtain⟨HPf,HBf,HKf⟩:=hcut;obtain⟨wsf,rfl⟩: ∃wsf,wsf=wc:=⟨_,rfl⟩;have HXw:=zaa ((HKf.out.block W.heap.size hxb HOx.out).trans HXb.out);have x8:=cell_of_row _ _ 8 _ _ _ HXw.out;go_wp2_with fail;clear x8 HXw
     go_loopw [87] (fun v wr=> ∃k:Nat,k≤x.ports.length∧v= .int .i64 k∧zb6 B b k8 (L++zbM x++za7 x++zaR x++zaW x++zcA x++zap zbP (x.ports.take k)) wr∧Below B W wr∧PrK b w0 wr) (fun v _=>x.ports.length-(intOf v).toNat)
     case atStart=>exact⟨0,by omega,rfl,by rw[zbl,List.append_nil];exact HPf.out,HBf.out,HKf.out⟩
     case round=>
      obtain⟨k,hk,rfl,hp,hbr,hkr⟩:=hrel;have HPr:=zaa hp;have HBr:=zaa hbr;have HKr:=zaa hkr;clear hp hbr hkr;by_cases hlt:k<x.ports.length
      ·as_aux_lemma=>
        go_light
        obtain⟨y,hy⟩: ∃y,x.ports[k]? =some y:=⟨_,List.getElem?_eq_getElem hlt⟩;obtain⟨g,off,rfl,hG,hg,hca⟩:=(HR8.out.keep HBr.out).at_ hy;obtain⟨uy0,c0,g0⟩:=hca 0 _ rfl;obtain rfl:=g0.leaf_eq;obtain⟨uy1,c1,g1⟩:=hca 1 _ rfl;obtain rfl:=g1.leaf_eq;obtain⟨uy2,c2,g2⟩:=hca 2 _ rfl;obtain rfl:=g2.leaf_eq;obtain⟨uy3,c3,g3⟩:=hca 3 _ rfl;obtain rfl:=g3.leaf_eq;obtain⟨uy4,c4,g4⟩:=hca 4 _ rfl;obtain rfl:=g4.leaf_eq;obtain⟨uy5,c5,g5⟩:=hca 5 _ rfl;obtain rfl:=g5.leaf_eq;clear hca g0 g1 g2 g3 g4 g5
        (try simp only[zav] at c0 c1 c2 c3 c4 c5)
        rw[Nat.add_zero] at c0;have k0:=kbZ k x.ports.length;have HXy:=zaa hy;have hroomy:=zat (f:=zbP) hy;clear hy;have hpf:=List.all_eq_true.1 HPT.out y (List.mem_of_getElem? HXy.out);simp only[zc5,Bool.and_eq_true,List.all_cons,List.all_nil,Bool.and_true] at hpf;obtain⟨hkd, -,m0,m1,m2⟩:=hpf;have HXyb:=zaa (heap_alloc_new wr (.cells #[.string ⟨y.name.toArray⟩,.int .u8 (y.kind:Int),.bool y.out,.int .i64 y.size,.int .i64 y.depth,.int .i64 y.refresh] 51));have HBAy:=zaa ((Below.refl wr.heap.size wr).alloc (Nat.le_refl _) (.cells #[.string ⟨y.name.toArray⟩,.int .u8 (y.kind:Int),.bool y.out,.int .i64 y.size,.int .i64 y.depth,.int .i64 y.refresh] 51));have hyl:wr.heap.size<(wr.alloc (.cells #[.string ⟨y.name.toArray⟩,.int .u8 (y.kind:Int),.bool y.out,.int .i64 y.size,.int .i64 y.depth,.int .i64 y.refresh] 51)).heap.size:=by simp
        have hkk:y.kind=1∨y.kind=2:=by simp only[zd4,Bool.or_eq_true,Bool.and_eq_true,beq_iff_eq] at hkd;omega
        rcases hkk with hk1|hk1
        ·have hT:zbP y=lnT 2 [59] ([.s (zfJ y),.s (y.name),.s ([115,97,109,112,108,105,110,103,32,115,105,122,101]),.n (y.size),.s ([114,101,102,114,101,115,104]),.n (y.refresh)]:List Arg):=if_pos hk1
         have hl1:=congrArg List.length hT;rw[zaz] at hl1;have hkz:(y.kind:Int)=1:=by omega
         rw[hkz] at c1;rw[hkz] at HXyb HBAy hyl;clear hkz
         cases ho:y.out with
         |true=>
          have hw:([111,117,116]:List UInt8)=zfJ y:=by unfold zfJ;rw[ho];rfl
          rw[ho] at c2 HXyb HBAy hyl;clear ho hk1;go_wp2_with fail;clear c0 c1 c2 c3 c4 c5;generalize wr.alloc _=w1 at *;have HPg:=zaa (HPr.out.later HBAy.out);have HBg:=zaa (HBr.out.trans (HBAy.out.mono (Nat.le_trans hBw HBr.out.size)));have HKg:=zaa (HKr.out.trans (.later HBAy.out));obtain⟨y0,y1,y2,y3⟩:=zc1 HXyb.out rfl;have y5:=cell_of_row _ _ 5 _ _ _ HXyb.out;go_wp2_with fail;rw[←hw] at hT hl1;have HT:=zaa hT;clear hw hT;have hBg:B≤w1.heap.size:=Nat.le_trans hBw HBg.out.size;refine zak (S:=fun w'=>Below w1.heap.size w1 w') 17 (by kernel_rfl) (by kernel_rfl) (Below.refl _ _).drew (fun hHeld=> ?_);generalize w1.drew=U at *;refine tq 0 96 rfl hHeld ?_;refine tq 1 97 rfl hHeld ?_;refine tq 2 98 rfl hHeld ?_;refine tq 3 99 rfl hHeld ?_;refine tq 4 100 rfl hHeld ?_;refine tq 5 101 rfl hHeld ?_
          (try simp only[pu])
          refine tyZ (v:= ?_) 6 102 rfl hHeld (fun v hS=> ?_) ?_;rotate_left
          ·have e0:=zad hS hyl 0 y0
           go_simp
           with_reducible rfl
          refine tq 7 103 rfl hHeld ?_;refine tq 8 104 rfl hHeld ?_;refine tq 9 105 rfl hHeld ?_
          (try simp only[pu])
          refine tyZ (v:= ?_) 10 106 rfl hHeld (fun v hS=> ?_) ?_;rotate_left
          ·have e0:=zad hS hyl 3 y3
           go_simp
           with_reducible rfl
          refine tq 11 107 rfl hHeld ?_;refine tq 12 108 rfl hHeld ?_;refine tq 13 109 rfl hHeld ?_
          (try simp only[pu])
          refine tyZ (v:= ?_) 14 110 rfl hHeld (fun v hS=> ?_) ?_;rotate_left
          ·have e0:=zad hS hyl 5 y5
           go_simp
           with_reducible rfl
          refine tq 15 111 rfl hHeld ?_
          (try simp only[pu])
          refine trZ [16] (zaN.cons rfl (fun K hK=> ?_) zaN.nil);refine zcv (by rfl) ?_;have HD:=zaa (zbL U ([.s ([111,117,116]),.s (y.name),.s ([115,97,109,112,108,105,110,103,32,115,105,122,101]),.n (y.size),.s ([114,101,102,114,101,115,104]),.n (y.refresh)]:List Arg) (b:=b) (HPg.out.later hHeld).lt);refine zbZ (zcw (ps:= #[(0,.iface 9 (.string ⟨([111,117,116]).toArray⟩)),(1,.iface 9 (.string ⟨(y.name).toArray⟩)),(2,.iface 9 (.string ⟨([115,97,109,112,108,105,110,103,32,115,105,122,101]).toArray⟩)),(3,.iface 3 (.int .i64 y.size)),(4,.iface 9 (.string ⟨([114,101,102,114,101,115,104]).toArray⟩)),(5,.iface 3 (.int .i64 y.refresh))]) rfl (by kernel_rfl) (bs6 _ _ _ _ _ _ _ _ _ _ _ _ U)) ?_;refine hK.out _ _ (hHeld.alloc hHeld.size _) (fun hHeld1=> ?_);clear hK K hHeld
          (try simp only[Act.put,zgl])
          refine zan (by kernel_rfl) ?_;simp only[List.drop_succ_cons,List.drop_zero];have HBl:=zaa (HBg.out.trans (hHeld1.mono hBg));have HKl:=zaa (HKg.out.trans (.later hHeld1));have HC:=zaa (zbx B b k8 _ 2 [59] _ ([.s ([111,117,116]),.s (y.name),.s ([115,97,109,112,108,105,110,103,32,115,105,122,101]),.n (y.size),.s ([114,101,102,114,101,115,104]),.n (y.refresh)]:List Arg) _ (zaa (HPg.out.later hHeld1)) HD (zaa (za4 (za4 (za4 (zeR m0 (za4 (zeR m2 zbh))))))) (by simp) (by omega) (by simp) (by simp only[List.length_append];omega) (Nat.le_trans hBg hHeld1.size) hGB (zaa (hE.out.keptB HBl.out hGB)));clear hHeld1 HD;go_wp2_with fail;refine HC.out.mono ?_;rintro e wz ⟨rfl,h1,h2,h3⟩;have HPz:=zaa h1;have HBz:=zaa (HBl.out.trans h2);have HKz:=zaa (HKl.out.trans h3);clear h1 h2 h3 HC HBl HKl;go_wp2_with fail;go_roundw
          case rel=>exact⟨k+1,by omega,by go_num,by rw[zaq HXy.out,HT.out,←List.append_assoc];exact HPz.out,HBz.out,HKz.out⟩
          case measure=>simp[intOf];omega
         |false=>
          have hw:([105,110]:List UInt8)=zfJ y:=by unfold zfJ;rw[ho];rfl
          rw[ho] at c2 HXyb HBAy hyl;clear ho hk1;go_wp2_with fail;clear c0 c1 c2 c3 c4 c5;generalize wr.alloc _=w1 at *;have HPg:=zaa (HPr.out.later HBAy.out);have HBg:=zaa (HBr.out.trans (HBAy.out.mono (Nat.le_trans hBw HBr.out.size)));have HKg:=zaa (HKr.out.trans (.later HBAy.out));obtain⟨y0,y1,y2,y3⟩:=zc1 HXyb.out rfl;have y5:=cell_of_row _ _ 5 _ _ _ HXyb.out;go_wp2_with fail;rw[←hw] at hT hl1;have HT:=zaa hT;clear hw hT;have hBg:B≤w1.heap.size:=Nat.le_trans hBw HBg.out.size;refine zak (S:=fun w'=>Below w1.heap.size w1 w') 17 (by kernel_rfl) (by kernel_rfl) (Below.refl _ _).drew (fun hHeld=> ?_);generalize w1.drew=U at *;refine tq 0 96 rfl hHeld ?_;refine tq 1 97 rfl hHeld ?_;refine tq 2 98 rfl hHeld ?_;refine tq 3 99 rfl hHeld ?_;refine tq 4 100 rfl hHeld ?_;refine tq 5 101 rfl hHeld ?_
          (try simp only[pu])
          refine tyZ (v:= ?_) 6 102 rfl hHeld (fun v hS=> ?_) ?_;rotate_left
          ·have e0:=zad hS hyl 0 y0
           go_simp
           with_reducible rfl
          refine tq 7 103 rfl hHeld ?_;refine tq 8 104 rfl hHeld ?_;refine tq 9 105 rfl hHeld ?_
          (try simp only[pu])
          refine tyZ (v:= ?_) 10 106 rfl hHeld (fun v hS=> ?_) ?_;rotate_left
          ·have e0:=zad hS hyl 3 y3
           go_simp
           with_reducible rfl
          refine tq 11 107 rfl hHeld ?_;refine tq 12 108 rfl hHeld ?_;refine tq 13 109 rfl hHeld ?_
          (try simp only[pu])
          refine tyZ (v:= ?_) 14 110 rfl hHeld (fun v hS=> ?_) ?_;rotate_left
          ·have e0:=zad hS hyl 5 y5
           go_simp
           with_reducible rfl
          refine tq 15 111 rfl hHeld ?_
          (try simp only[pu])
          refine trZ [16] (zaN.cons rfl (fun K hK=> ?_) zaN.nil);refine zcv (by rfl) ?_;have HD:=zaa (zbL U ([.s ([105,110]),.s (y.name),.s ([115,97,109,112,108,105,110,103,32,115,105,122,101]),.n (y.size),.s ([114,101,102,114,101,115,104]),.n (y.refresh)]:List Arg) (b:=b) (HPg.out.later hHeld).lt);refine zbZ (zcw (ps:= #[(0,.iface 9 (.string ⟨([105,110]).toArray⟩)),(1,.iface 9 (.string ⟨(y.name).toArray⟩)),(2,.iface 9 (.string ⟨([115,97,109,112,108,105,110,103,32,115,105,122,101]).toArray⟩)),(3,.iface 3 (.int .i64 y.size)),(4,.iface 9 (.string ⟨([114,101,102,114,101,115,104]).toArray⟩)),(5,.iface 3 (.int .i64 y.refresh))]) rfl (by kernel_rfl) (bs6 _ _ _ _ _ _ _ _ _ _ _ _ U)) ?_;refine hK.out _ _ (hHeld.alloc hHeld.size _) (fun hHeld1=> ?_);clear hK K hHeld
          (try simp only[Act.put,zgl])
          refine zan (by kernel_rfl) ?_;simp only[List.drop_succ_cons,List.drop_zero];have HBl:=zaa (HBg.out.trans (hHeld1.mono hBg));have HKl:=zaa (HKg.out.trans (.later hHeld1));have HC:=zaa (zbx B b k8 _ 2 [59] _ ([.s ([105,110]),.s (y.name),.s ([115,97,109,112,108,105,110,103,32,115,105,122,101]),.n (y.size),.s ([114,101,102,114,101,115,104]),.n (y.refresh)]:List Arg) _ (zaa (HPg.out.later hHeld1)) HD (zaa (za4 (za4 (za4 (zeR m0 (za4 (zeR m2 zbh))))))) (by simp) (by omega) (by simp) (by simp only[List.length_append];omega) (Nat.le_trans hBg hHeld1.size) hGB (zaa (hE.out.keptB HBl.out hGB)));clear hHeld1 HD;go_wp2_with fail;refine HC.out.mono ?_;rintro e wz ⟨rfl,h1,h2,h3⟩;have HPz:=zaa h1;have HBz:=zaa (HBl.out.trans h2);have HKz:=zaa (HKl.out.trans h3);clear h1 h2 h3 HC HBl HKl;go_wp2_with fail;go_roundw
          case rel=>exact⟨k+1,by omega,by go_num,by rw[zaq HXy.out,HT.out,←List.append_assoc];exact HPz.out,HBz.out,HKz.out⟩
          case measure=>simp[intOf];omega
        ·have hT:zbP y=lnT 2 [59] ([.s (zfJ y),.s (y.name),.s ([113,117,101,117,105,110,103,32,115,105,122,101]),.n (y.size),.s ([100,101,112,116,104]),.n (y.depth)]:List Arg):=if_neg (by omega)
         have hl1:=congrArg List.length hT;rw[zaz] at hl1;have hkz:(y.kind:Int)=2:=by omega
         rw[hkz] at c1;rw[hkz] at HXyb HBAy hyl;clear hkz
         cases ho:y.out with
         |true=>
          have hw:([111,117,116]:List UInt8)=zfJ y:=by unfold zfJ;rw[ho];rfl
          rw[ho] at c2 HXyb HBAy hyl;clear ho hk1;go_wp2_with fail;clear c0 c1 c2 c3 c4 c5;generalize wr.alloc _=w1 at *;have HPg:=zaa (HPr.out.later HBAy.out);have HBg:=zaa (HBr.out.trans (HBAy.out.mono (Nat.le_trans hBw HBr.out.size)));have HKg:=zaa (HKr.out.trans (.later HBAy.out));obtain⟨y0,y1,y2,y3,y4⟩:=zkI HXyb.out rfl;go_wp2_with fail;rw[←hw] at hT hl1;have HT:=zaa hT;clear hw hT;have hBg:B≤w1.heap.size:=Nat.le_trans hBw HBg.out.size;refine zak (S:=fun w'=>Below w1.heap.size w1 w') 17 (by kernel_rfl) (by kernel_rfl) (Below.refl _ _).drew (fun hHeld=> ?_);generalize w1.drew=U at *;refine tq 0 114 rfl hHeld ?_;refine tq 1 115 rfl hHeld ?_;refine tq 2 116 rfl hHeld ?_;refine tq 3 117 rfl hHeld ?_;refine tq 4 118 rfl hHeld ?_;refine tq 5 119 rfl hHeld ?_
          (try simp only[pu])
          refine tyZ (v:= ?_) 6 120 rfl hHeld (fun v hS=> ?_) ?_;rotate_left
          ·have e0:=zad hS hyl 0 y0
           go_simp
           with_reducible rfl
          refine tq 7 121 rfl hHeld ?_;refine tq 8 122 rfl hHeld ?_;refine tq 9 123 rfl hHeld ?_
          (try simp only[pu])
          refine tyZ (v:= ?_) 10 124 rfl hHeld (fun v hS=> ?_) ?_;rotate_left
          ·have e0:=zad hS hyl 3 y3
           go_simp
           with_reducible rfl
          refine tq 11 125 rfl hHeld ?_;refine tq 12 126 rfl hHeld ?_;refine tq 13 127 rfl hHeld ?_
          (try simp only[pu])
          refine tyZ (v:= ?_) 14 128 rfl hHeld (fun v hS=> ?_) ?_;rotate_left
          ·have e0:=zad hS hyl 4 y4
           go_simp
           with_reducible rfl
          refine tq 15 129 rfl hHeld ?_
          (try simp only[pu])
          refine trZ [16] (zaN.cons rfl (fun K hK=> ?_) zaN.nil);refine zcv (by rfl) ?_;have HD:=zaa (zbL U ([.s ([111,117,116]),.s (y.name),.s ([113,117,101,117,105,110,103,32,115,105,122,101]),.n (y.size),.s ([100,101,112,116,104]),.n (y.depth)]:List Arg) (b:=b) (HPg.out.later hHeld).lt);refine zbZ (zcw (ps:= #[(0,.iface 9 (.string ⟨([111,117,116]).toArray⟩)),(1,.iface 9 (.string ⟨(y.name).toArray⟩)),(2,.iface 9 (.string ⟨([113,117,101,117,105,110,103,32,115,105,122,101]).toArray⟩)),(3,.iface 3 (.int .i64 y.size)),(4,.iface 9 (.string ⟨([100,101,112,116,104]).toArray⟩)),(5,.iface 3 (.int .i64 y.depth))]) rfl (by kernel_rfl) (bs6 _ _ _ _ _ _ _ _ _ _ _ _ U)) ?_;refine hK.out _ _ (hHeld.alloc hHeld.size _) (fun hHeld1=> ?_);clear hK K hHeld
          (try simp only[Act.put,zgl])
          refine zan (by kernel_rfl) ?_;simp only[List.drop_succ_cons,List.drop_zero];have HBl:=zaa (HBg.out.trans (hHeld1.mono hBg));have HKl:=zaa (HKg.out.trans (.later hHeld1));have HC:=zaa (zbx B b k8 _ 2 [59] _ ([.s ([111,117,116]),.s (y.name),.s ([113,117,101,117,105,110,103,32,115,105,122,101]),.n (y.size),.s ([100,101,112,116,104]),.n (y.depth)]:List Arg) _ (zaa (HPg.out.later hHeld1)) HD (zaa (za4 (za4 (za4 (zeR m0 (za4 (zeR m1 zbh))))))) (by simp) (by omega) (by simp) (by simp only[List.length_append];omega) (Nat.le_trans hBg hHeld1.size) hGB (zaa (hE.out.keptB HBl.out hGB)));clear hHeld1 HD;go_wp2_with fail;refine HC.out.mono ?_;rintro e wz ⟨rfl,h1,h2,h3⟩;have HPz:=zaa h1;have HBz:=zaa (HBl.out.trans h2);have HKz:=zaa (HKl.out.trans h3);clear h1 h2 h3 HC HBl HKl;go_wp2_with fail;go_roundw
          case rel=>exact⟨k+1,by omega,by go_num,by rw[zaq HXy.out,HT.out,←List.append_assoc];exact HPz.out,HBz.out,HKz.out⟩
          case measure=>simp[intOf];omega
         |false=>
          have hw:([105,110]:List UInt8)=zfJ y:=by unfold zfJ;rw[ho];rfl
          rw[ho] at c2 HXyb HBAy hyl;clear ho hk1;go_wp2_with fail;clear c0 c1 c2 c3 c4 c5;generalize wr.alloc _=w1 at *;have HPg:=zaa (HPr.out.later HBAy.out);have HBg:=zaa (HBr.out.trans (HBAy.out.mono (Nat.le_trans hBw HBr.out.size)));have HKg:=zaa (HKr.out.trans (.later HBAy.out));obtain⟨y0,y1,y2,y3,y4⟩:=zkI HXyb.out rfl;go_wp2_with fail;rw[←hw] at hT hl1;have HT:=zaa hT;clear hw hT;have hBg:B≤w1.heap.size:=Nat.le_trans hBw HBg.out.size;refine zak (S:=fun w'=>Below w1.heap.size w1 w') 17 (by kernel_rfl) (by kernel_rfl) (Below.refl _ _).drew (fun hHeld=> ?_);generalize w1.drew=U at *;refine tq 0 114 rfl hHeld ?_;refine tq 1 115 rfl hHeld ?_;refine tq 2 116 rfl hHeld ?_;refine tq 3 117 rfl hHeld ?_;refine tq 4 118 rfl hHeld ?_;refine tq 5 119 rfl hHeld ?_
          (try simp only[pu])
          refine tyZ (v:= ?_) 6 120 rfl hHeld (fun v hS=> ?_) ?_;rotate_left
          ·have e0:=zad hS hyl 0 y0
           go_simp
           with_reducible rfl
          refine tq 7 121 rfl hHeld ?_;refine tq 8 122 rfl hHeld ?_;refine tq 9 123 rfl hHeld ?_
          (try simp only[pu])
          refine tyZ (v:= ?_) 10 124 rfl hHeld (fun v hS=> ?_) ?_;rotate_left
          ·have e0:=zad hS hyl 3 y3
           go_simp
           with_reducible rfl
          refine tq 11 125 rfl hHeld ?_;refine tq 12 126 rfl hHeld ?_;refine tq 13 127 rfl hHeld ?_
          (try simp only[pu])
          refine tyZ (v:= ?_) 14 128 rfl hHeld (fun v hS=> ?_) ?_;rotate_left
          ·have e0:=zad hS hyl 4 y4
           go_simp
           with_reducible rfl
          refine tq 15 129 rfl hHeld ?_
          (try simp only[pu])
          refine trZ [16] (zaN.cons rfl (fun K hK=> ?_) zaN.nil);refine zcv (by rfl) ?_;have HD:=zaa (zbL U ([.s ([105,110]),.s (y.name),.s ([113,117,101,117,105,110,103,32,115,105,122,101]),.n (y.size),.s ([100,101,112,116,104]),.n (y.depth)]:List Arg) (b:=b) (HPg.out.later hHeld).lt);refine zbZ (zcw (ps:= #[(0,.iface 9 (.string ⟨([105,110]).toArray⟩)),(1,.iface 9 (.string ⟨(y.name).toArray⟩)),(2,.iface 9 (.string ⟨([113,117,101,117,105,110,103,32,115,105,122,101]).toArray⟩)),(3,.iface 3 (.int .i64 y.size)),(4,.iface 9 (.string ⟨([100,101,112,116,104]).toArray⟩)),(5,.iface 3 (.int .i64 y.depth))]) rfl (by kernel_rfl) (bs6 _ _ _ _ _ _ _ _ _ _ _ _ U)) ?_;refine hK.out _ _ (hHeld.alloc hHeld.size _) (fun hHeld1=> ?_);clear hK K hHeld
          (try simp only[Act.put,zgl])
          refine zan (by kernel_rfl) ?_;simp only[List.drop_succ_cons,List.drop_zero];have HBl:=zaa (HBg.out.trans (hHeld1.mono hBg));have HKl:=zaa (HKg.out.trans (.later hHeld1));have HC:=zaa (zbx B b k8 _ 2 [59] _ ([.s ([105,110]),.s (y.name),.s ([113,117,101,117,105,110,103,32,115,105,122,101]),.n (y.size),.s ([100,101,112,116,104]),.n (y.depth)]:List Arg) _ (zaa (HPg.out.later hHeld1)) HD (zaa (za4 (za4 (za4 (zeR m0 (za4 (zeR m1 zbh))))))) (by simp) (by omega) (by simp) (by simp only[List.length_append];omega) (Nat.le_trans hBg hHeld1.size) hGB (zaa (hE.out.keptB HBl.out hGB)));clear hHeld1 HD;go_wp2_with fail;refine HC.out.mono ?_;rintro e wz ⟨rfl,h1,h2,h3⟩;have HPz:=zaa h1;have HBz:=zaa (HBl.out.trans h2);have HKz:=zaa (HKl.out.trans h3);clear h1 h2 h3 HC HBl HKl;go_wp2_with fail;go_roundw
          case rel=>exact⟨k+1,by omega,by go_num,by rw[zaq HXy.out,HT.out,←List.append_assoc];exact HPz.out,HBz.out,HKz.out⟩
          case measure=>simp[intOf];omega
      obtain rfl:k=x.ports.length:=by omega
      rw[List.take_length] at HPr;clear hlt HPf HBf HKf;obtain⟨wh,hwh⟩: ∃wh,wh=wr:=⟨_,rfl⟩;subst hwh;have HXw:=zaa ((HKr.out.block W.heap.size hxb HOx.out).trans HXb.out);have x9:=cell_of_row _ _ 9 _ _ _ HXw.out;go_wp2_with fail;clear x9 HXw
      go_loopw [136] (fun v wr=> ∃k:Nat,k≤x.procs.length∧v= .int .i64 k∧zb6 B b k8 (L++zbM x++za7 x++zaR x++zaW x++zcA x++zap zbP x.ports++zap zcB (x.procs.take k)) wr∧Below B W wr∧PrK b w0 wr) (fun v _=>x.procs.length-(intOf v).toNat)
      case atStart=>exact⟨0,by omega,rfl,by rw[zbl,List.append_nil];exact HPr.out,HBr.out,HKr.out⟩
      case round=>
       clear HPr HBr HKr;obtain⟨k,hk,rfl,hp,hbr,hkr⟩:=hrel;have HPr:=zaa hp;have HBr:=zaa hbr;have HKr:=zaa hkr;clear hp hbr hkr;by_cases hlt:k<x.procs.length
       rotate_left
       ·obtain rfl:k=x.procs.length:=by omega
        rw[List.take_length] at HPr;clear hlt;go_wp2_with fail;have HC:=zaa (zbx B b k8 _ 1 [125] _ ([]:List Arg) wr HPr (zaa (.nil none 0 1)) (zaa zbh) (by simp) (by omega) (by simp) (by simp only[List.length_append,zbK,List.length_nil];omega) (Nat.le_trans hBw HBr.out.size) hGB (zaa (hE.out.keptB HBr.out hGB)));refine HC.out.mono ?_;rintro e wz ⟨rfl,h1,h2,h3⟩;have HPz:=zaa h1;have HBz:=zaa (HBr.out.trans h2);have HKz:=zaa (HKr.out.trans h3);clear h1 h2 h3 HC;go_wp2_with fail
        go_end0
        exact⟨rfl,HPz.out,HBz.out,HKW.out.trans HKz.out⟩
       obtain⟨y,hy⟩: ∃y,x.procs[k]? =some y:=⟨_,List.getElem?_eq_getElem hlt⟩;obtain⟨g,off,rfl,hG,hg,hca⟩:=(HR9.out.keep HBr.out).at_ hy;obtain⟨uy0,c0,g0⟩:=hca 0 _ rfl;obtain rfl:=g0.leaf_eq;obtain⟨uy1,c1,g1⟩:=hca 1 _ rfl;obtain rfl:=g1.leaf_eq;obtain⟨uy2,c2,g2⟩:=hca 2 _ rfl;obtain rfl:=g2.leaf_eq;obtain⟨uy3,c3,g3⟩:=hca 3 _ rfl;obtain rfl:=g3.leaf_eq;obtain⟨uy4,c4,g4⟩:=hca 4 _ rfl;have HGy4:=zaa g4;obtain⟨Ay4,qy4,rfl,hry4⟩:=g4.sliceG;have HRy4:=zaa hry4;clear hry4;rw[List.length_map] at HGy4 c4;clear hca g0 g1 g2 g3 g4
       (try simp only[zav] at c0 c1 c2 c3 c4)
       rw[Nat.add_zero] at c0;have k0:=kbZ k x.procs.length;have HXy:=zaa hy;have hroomy:=zat (f:=zcB) hy;clear hy;have hpf:=List.all_eq_true.1 HPR.out y (List.mem_of_getElem? HXy.out);have hzf:=HZ.out y (List.mem_of_getElem? HXy.out);have hzl:=hzf.1;simp only[zdE,Bool.and_eq_true,List.all_cons,List.all_nil,Bool.and_true] at hpf;obtain⟨-,⟨m0,m1,m2⟩,hco⟩:=hpf;have HCO:=zaa hco;clear hco;have hcl:(zcB y).length=(zeE y).length+(zap zeb y.code).length+4:=by
        have:(lnT 2 [125] []).length=4:=by rw[zaz];rfl
        simp only[zcB,List.length_append]
        omega
       have HXyb:=zaa (heap_alloc_new wr (.cells #[.string ⟨y.name.toArray⟩,.int .i64 y.prio,.int .i64 y.period,.int .i64 y.limit,.slice Ay4 y.code.length qy4] 53));have HBAy:=zaa ((Below.refl wr.heap.size wr).alloc (Nat.le_refl _) (.cells #[.string ⟨y.name.toArray⟩,.int .i64 y.prio,.int .i64 y.period,.int .i64 y.limit,.slice Ay4 y.code.length qy4] 53));have hyl:wr.heap.size<(wr.alloc (.cells #[.string ⟨y.name.toArray⟩,.int .i64 y.prio,.int .i64 y.period,.int .i64 y.limit,.slice Ay4 y.code.length qy4] 53)).heap.size:=by simp
       go_wp2_with fail;clear c0 c1 c2 c3 c4;generalize wr.alloc _=w1 at *;have HPg:=zaa (HPr.out.later HBAy.out);have HBg:=zaa (HBr.out.trans (HBAy.out.mono (Nat.le_trans hBw HBr.out.size)));have HKg:=zaa (HKr.out.trans (.later HBAy.out));obtain⟨y0,y1,y2,y3,y4⟩:=zkI HXyb.out rfl;have HBy1:=zaa (HBAy.out.mono (Nat.le_trans hBw HBr.out.size));have hyb:wr.heap.size≠b:=by have:=HPr.out.lt;omega
       have HOy:Hid (Oth w1 wr.heap.size):=zaa ⟨_,_,_,HXyb.out,by decide⟩;have HKy1:=zaa (PrK.refl b w1);have hl1:(zeE y).length=2+(zbK ([.s ([112,114,111,99]),.s (y.name),.s ([112,114,105,111]),.n (y.prio),.s ([112,101,114,105,111,100]),.n (y.period),.s ([108,105,109,105,116]),.n (y.limit)]:List Arg)).length+3:=by rw[zeE,zaz];rfl
       have hBg:B≤w1.heap.size:=Nat.le_trans hBw HBg.out.size;refine zak (S:=fun w'=>Below w1.heap.size w1 w') 20 (by kernel_rfl) (by kernel_rfl) (Below.refl _ _).drew (fun hHeld=> ?_);generalize w1.drew=U at *;refine tq 0 140 rfl hHeld ?_;refine tq 1 141 rfl hHeld ?_;refine tq 2 142 rfl hHeld ?_;refine tq 3 143 rfl hHeld ?_;refine tq 4 144 rfl hHeld ?_
       (try simp only[pu])
       refine tyZ (v:= ?_) 5 145 rfl hHeld (fun v hS=> ?_) ?_;rotate_left
       ·have e0:=zad hS hyl 0 y0
        go_simp
        with_reducible rfl
       refine tq 6 146 rfl hHeld ?_;refine tq 7 147 rfl hHeld ?_;refine tq 8 148 rfl hHeld ?_
       (try simp only[pu])
       refine tyZ (v:= ?_) 9 149 rfl hHeld (fun v hS=> ?_) ?_;rotate_left
       ·have e0:=zad hS hyl 1 y1
        go_simp
        with_reducible rfl
       refine tq 10 150 rfl hHeld ?_;refine tq 11 151 rfl hHeld ?_;refine tq 12 152 rfl hHeld ?_
       (try simp only[pu])
       refine tyZ (v:= ?_) 13 153 rfl hHeld (fun v hS=> ?_) ?_;rotate_left
       ·have e0:=zad hS hyl 2 y2
        go_simp
        with_reducible rfl
       refine tq 14 154 rfl hHeld ?_;refine tq 15 155 rfl hHeld ?_;refine tq 16 156 rfl hHeld ?_
       (try simp only[pu])
       refine tyZ (v:= ?_) 17 157 rfl hHeld (fun v hS=> ?_) ?_;rotate_left
       ·have e0:=zad hS hyl 3 y3
        go_simp
        with_reducible rfl
       refine tq 18 158 rfl hHeld ?_
       (try simp only[pu])
       refine trZ [19] (zaN.cons rfl (fun K hK=> ?_) zaN.nil);refine zcv (by rfl) ?_;have HD:=zaa (zbL U ([.s ([112,114,111,99]),.s (y.name),.s ([112,114,105,111]),.n (y.prio),.s ([112,101,114,105,111,100]),.n (y.period),.s ([108,105,109,105,116]),.n (y.limit)]:List Arg) (b:=b) (HPg.out.later hHeld).lt);refine zbZ (zcw (ps:= #[(0,.iface 9 (.string ⟨([112,114,111,99]).toArray⟩)),(1,.iface 9 (.string ⟨(y.name).toArray⟩)),(2,.iface 9 (.string ⟨([112,114,105,111]).toArray⟩)),(3,.iface 3 (.int .i64 y.prio)),(4,.iface 9 (.string ⟨([112,101,114,105,111,100]).toArray⟩)),(5,.iface 3 (.int .i64 y.period)),(6,.iface 9 (.string ⟨([108,105,109,105,116]).toArray⟩)),(7,.iface 3 (.int .i64 y.limit))]) rfl (by kernel_rfl) (bs8 _ _ _ _ _ _ _ _ _ _ _ _ _ _ _ _ U)) ?_;refine hK.out _ _ (hHeld.alloc hHeld.size _) (fun hHeld1=> ?_);clear hK K hHeld
       (try simp only[Act.put,zgl])
       refine zan (by kernel_rfl) ?_;simp only[List.drop_succ_cons,List.drop_zero];have HBl:=zaa (HBg.out.trans (hHeld1.mono hBg));have HKl:=zaa (HKg.out.trans (.later hHeld1));have HKyhl:=zaa (PrK.later (b:=b) hHeld1);have HByhl:=zaa (hHeld1.mono hBg);have HC:=zaa (zbx B b k8 _ 2 [32,123] _ ([.s ([112,114,111,99]),.s (y.name),.s ([112,114,105,111]),.n (y.prio),.s ([112,101,114,105,111,100]),.n (y.period),.s ([108,105,109,105,116]),.n (y.limit)]:List Arg) _ (zaa (HPg.out.later hHeld1)) HD (zaa (za4 (za4 (za4 (zeR m0 (za4 (zeR m1 (za4 (zeR m2 zbh))))))))) (by simp) (by omega) (by simp) (by simp only[List.length_append];omega) (Nat.le_trans hBg hHeld1.size) hGB (zaa (hE.out.keptB HBl.out hGB)));clear hHeld1 HD;go_wp2_with fail;refine HC.out.mono ?_;rintro e wh ⟨rfl,h1,h2,h3⟩;have HPh:=zaa h1;have HBh:=zaa (HBl.out.trans h2);have HKh:=zaa (HKl.out.trans h3);have HKyh:=zaa (HKyhl.out.trans h3);have HByh:=zaa (HByhl.out.trans h2);clear HKyhl HByhl;clear h1 h2 h3 HC HBl HKl;replace HPh:Hid (zb6 B b k8 (L++zbM x++za7 x++zaR x++zaW x++zcA x++zap zbP x.ports++zap zcB (x.procs.take k)++zeE y) wh):=HPh;have HYw:=zaa ((HKyh.out.block wr.heap.size hyb HOy.out).trans HXyb.out);clear y0 y1 y2 y3 y4 hl1;have y4:=cell_of_row _ _ 4 _ _ _ HYw.out;go_wp2_with fail;clear y4 HYw
       go_loopw [164] (fun v wq=> ∃n:Nat,n≤y.code.length∧v= .int .i64 n∧zb6 B b k8 (L++zbM x++za7 x++zaR x++zaW x++zcA x++zap zbP x.ports++zap zcB (x.procs.take k)++zeE y++zap zeb (y.code.take n)) wq∧Below B W wq∧PrK b w0 wq∧Below B w1 wq) (fun v _=>y.code.length-(intOf v).toNat)
       case atStart=>exact⟨0,by omega,rfl,by rw[zbl,List.append_nil];exact HPh.out,HBh.out,HKh.out,HByh.out⟩
       case round=>
        clear HPh HBh HKh;obtain⟨n,hn,rfl,hp,hbr,hkr,hjr⟩:=hrel;have HPq:=zaa hp;have HBq:=zaa hbr;have HKq:=zaa hkr;have HJq:=zaa hjr;clear hp hbr hkr hjr;by_cases hlt2:n<y.code.length
        rotate_left
        ·obtain rfl:n=y.code.length:=by omega
         rw[List.take_length] at HPq;clear hlt2;go_wp2_with fail;have HC:=zaa (zbx B b k8 _ 2 [125] _ ([]:List Arg) wr HPq (zaa (.nil none 0 1)) (zaa zbh) (by simp) (by omega) (by simp) (by simp only[List.length_append,zbK,List.length_nil];omega) (Nat.le_trans hBw HBq.out.size) hGB (zaa (hE.out.keptB HBq.out hGB)));refine HC.out.mono ?_;rintro e wz ⟨rfl,h1,h2,h3⟩;have HPz:=zaa h1;have HBz:=zaa (HBq.out.trans h2);have HKz:=zaa (HKq.out.trans h3);clear h1 h2 h3 HC;go_wp2_with fail;go_roundw
         case rel=>exact⟨k+1,by omega,by go_num,by rw[zaq HXy.out];simpa only[zcB,List.append_assoc] using HPz.out,HBz.out,HKz.out⟩
         case measure=>simp[intOf];omega
        have hlt:=hlt2;obtain⟨c,hc⟩: ∃c,y.code[n]? =some c:=⟨_,List.getElem?_eq_getElem hlt⟩;obtain⟨g,off,rfl,hG,hg,hca⟩:=(HRy4.out.keep (HBy1.out.trans HJq.out)).at_ hc;obtain⟨uc0,c0,g0⟩:=hca 0 _ rfl;obtain rfl:=g0.leaf_eq;obtain⟨uc1,c1,g1⟩:=hca 1 _ rfl;obtain rfl:=g1.leaf_eq;obtain⟨uc2,c2,g2⟩:=hca 2 _ rfl;obtain rfl:=g2.leaf_eq;obtain⟨uc3,c3,g3⟩:=hca 3 _ rfl;obtain rfl:=g3.leaf_eq;clear hca g0 g1 g2 g3
        (try simp only[zav] at c0 c1 c2 c3)
        rw[Nat.add_zero] at c0;have k0:=kbZ n y.code.length;have HXc:=zaa hc;have hroomc:=zat (f:=zeb) hc;clear hc;have hci:=List.all_eq_true.1 HCO.out c (List.mem_of_getElem? HXc.out);have hop:=hzf.2 c (List.mem_of_getElem? HXc.out);have HXcb:=zaa (heap_alloc_new wr (.cells #[.int .u8 (c.op:Int),.int .i64 c.a,.int .i64 c.b,.int .i64 c.c] 78));have HBAc:=zaa ((Below.refl wr.heap.size wr).alloc (Nat.le_refl _) (.cells #[.int .u8 (c.op:Int),.int .i64 c.a,.int .i64 c.b,.int .i64 c.c] 78));have hcxl:wr.heap.size<(wr.alloc (.cells #[.int .u8 (c.op:Int),.int .i64 c.a,.int .i64 c.b,.int .i64 c.c] 78)).heap.size:=by simp
        go_wp2_with fail;clear c0 c1 c2 c3;generalize wr.alloc _=w2 at *;have HPi:=zaa (HPq.out.later HBAc.out);have HBi:=zaa (HBq.out.trans (HBAc.out.mono (Nat.le_trans hBw HBq.out.size)));have HKi:=zaa (HKq.out.trans (.later HBAc.out));obtain⟨z0,z1,z2,z3⟩:=zc1 HXcb.out rfl;have hT:zeb c=lnT 3 [] ([.s (zep c)]:List Arg):=rfl;have hl1:=congrArg List.length hT;rw[zaz] at hl1;have hBi:B≤w2.heap.size:=Nat.le_trans hBw HBi.out.size;refine zak (S:=fun w'=>Below w2.heap.size w2 w') 7 (by kernel_rfl) (by kernel_rfl) (Below.refl _ _).drew (fun hHeld=> ?_);generalize w2.drew=U at *;refine tq 0 168 rfl hHeld ?_;refine tq 1 169 rfl hHeld ?_;refine tq 2 170 rfl hHeld ?_
        (try simp only[pu])
        refine tyZ (v:= ?_) 3 171 rfl hHeld (fun v hS=> ?_) ?_;rotate_left
        ·have e0:=zad hS hcxl 0 z0
         have e1:=zad hS hcxl 1 z1;have e2:=zad hS hcxl 2 z2;have e3:=zad hS hcxl 3 z3;go_simp
         with_reducible rfl
        (try simp only[pu])
        refine trZ [4] (zaN.cons rfl (fun K hK=> ?_) zaN.nil);go_simp;have HI:=zaa (zh4 c hop U hci (zaa (hE.out.keptB (HBi.out.trans (hHeld.mono hBi)) hGB)) (zaa (hP.out.keptB (HBi.out.trans (hHeld.mono hBi)) hGP)));refine HI.out.mono ?_;rintro e Ua ⟨rfl,hb⟩;have hSUa:=hHeld.trans (hb.mono hHeld.size);clear hb HI hHeld;go_wp2_with fail;refine hK.out _ _ hSUa (fun hHeld=> ?_);clear hK K hSUa;refine tq 5 173 rfl hHeld ?_
        (try simp only[pu])
        refine trZ [6] (zaN.cons rfl (fun K hK=> ?_) zaN.nil);refine zcv (by rfl) ?_;have HD:=zaa (zbL Ua ([.s (zep c)]:List Arg) (b:=b) (HPi.out.later hHeld).lt);refine zbZ (zcw (ps:= #[(0,.iface 9 (.string ⟨(zep c).toArray⟩))]) rfl (by kernel_rfl) (bs1 _ _ Ua)) ?_;refine hK.out _ _ (hHeld.alloc hHeld.size _) (fun hHeld1=> ?_);clear hK K hHeld
        (try simp only[Act.put,zgl])
        refine zan (by kernel_rfl) ?_;simp only[List.drop_succ_cons,List.drop_zero];have HBl:=zaa (HBi.out.trans (hHeld1.mono hBi));have HKl:=zaa (HKi.out.trans (.later hHeld1));have HKczl:=zaa (PrK.later (b:=b) hHeld1);have HBczl:=zaa (hHeld1.mono hBi);have HC:=zaa (zbx B b k8 _ 3 [] _ ([.s (zep c)]:List Arg) _ (zaa (HPi.out.later hHeld1)) HD (zaa (za4 zbh)) (by simp) (by omega) (by simp) (by simp only[List.length_append];omega) (Nat.le_trans hBi hHeld1.size) hGB (zaa (hE.out.keptB HBl.out hGB)));clear hHeld1 HD;go_wp2_with fail;refine HC.out.mono ?_;rintro e wz ⟨rfl,h1,h2,h3⟩;have HPz:=zaa h1;have HBz:=zaa (HBl.out.trans h2);have HKz:=zaa (HKl.out.trans h3);have HKcz:=zaa (HKczl.out.trans h3);have HBcz:=zaa (HBczl.out.trans h2);clear HKczl HBczl;clear h1 h2 h3 HC HBl HKl;go_wp2_with fail;go_roundw
        case rel=>exact⟨n+1,by omega,by go_num,by rw[zaq HXc.out,hT,←List.append_assoc];exact HPz.out,HBz.out,HKz.out,HJq.out.trans ((HBAc.out.mono (Nat.le_trans hBw HBq.out.size)).trans HBcz.out)⟩
        case measure=>simp[intOf];omega
theorem zkC (B b:Nat) (k8:C8) (L:List UInt8) (l:List zcy) (W:World) (h:Hid (zb6 B b k8 L W)) (hv:Hid (DAt W (fun g=>g<B) k8.c0 (.row 4 (l.map zcy.cells)))) (hF:Hid (l.all zeQ=true)) (hlen:L.length+(zap zcO l).length≤1000000) (hnl:l.length≤140737488355328) (hBw:B≤W.heap.size) (hGB:8≤B) (hE:Hid (Env W)) (hGP:2≤B) (hP:Hid (zcT W)) (hfit: ∀y∈l,zdl y):
 Calls prog 71 #[.pointer (some ⟨b,0,none⟩)] W fun e w'=>e= .returned (.tuple #[])∧zb6 B b k8 (L++zap zcO l) w'∧Below B W w'∧PrK b W w':=by
 obtain⟨A,c,ek,hA⟩:=hv.out.sliceG;have HA:=zaa hA;rw[List.length_map] at ek;clear hA hv;have cb:W.cell? ⟨b,2,none⟩=some (.slice A l.length c):=(h.out.cell 0 (by decide)).trans (congrArg some ek);clear ek;have HL:=zaa hlen;clear hlen
 go_enter func71,ntmps71
 go_wp2_with fail;clear cb
 go_loopw [12] (fun v wr=> ∃k:Nat,k≤l.length∧v= .int .i64 k∧zb6 B b k8 (L++zap zcO (l.take k)) wr∧Below B W wr∧PrK b W wr) (fun v _=>l.length-(intOf v).toNat)
 case atStart=>exact⟨0,by omega,rfl,by rw[zbl,List.append_nil];exact h.out,Below.refl _ _,PrK.refl _ _⟩
 case round=>
  obtain⟨k,hk,rfl,hp,hbr,hkr⟩:=hrel;have HP:=zaa hp;have HBR:=zaa hbr;have HKR:=zaa hkr;clear hp hbr hkr h;by_cases hlt:k<l.length
  rotate_left
  ·obtain rfl:k=l.length:=by omega
   rw[List.take_length] at HP;clear hlt;go_wp2_with fail
   go_end0
   exact⟨rfl,HP.out,HBR.out,HKR.out⟩
  obtain⟨x,hx⟩:=zbE hlt;obtain⟨g,off,rfl,hG,hg,hca⟩:=(HA.out.keep HBR.out).at_ hx;obtain⟨u0,c0,g0⟩:=hca 0 _ rfl;obtain rfl:=g0.leaf_eq;obtain⟨u1,c1,g1⟩:=hca 1 _ rfl;obtain rfl:=g1.leaf_eq;obtain⟨u2,c2,g2⟩:=hca 2 _ rfl;obtain rfl:=g2.leaf_eq;obtain⟨u3,c3,g3⟩:=hca 3 _ rfl;have HG3:=zaa g3;obtain⟨A3,q3,rfl,hr3⟩:=g3.sliceG;have HR3:=zaa hr3;clear hr3;rw[List.length_map] at HG3 c3;clear hca g0 g1 g2 g3;simp only[zav] at c0 c1 c2 c3;rw[Nat.add_zero] at c0;have k0:=kbZ k l.length;have HFx:=zaa (List.all_eq_true.1 hF.out x (List.mem_of_getElem? hx));have HX:=zaa hx;have hroom:=zat (f:=zcO) hx;have hL:=HL.out;clear hx;have HXb:=zaa (heap_alloc_new wr (.cells #[.string ⟨x.name.toArray⟩,.int .i64 x.mem,.int .i64 x.frame,.slice A3 x.parts.length q3] 44));have HBA:=zaa ((Below.refl wr.heap.size wr).alloc (Nat.le_refl _) (.cells #[.string ⟨x.name.toArray⟩,.int .i64 x.mem,.int .i64 x.frame,.slice A3 x.parts.length q3] 44));have hxl:wr.heap.size<(wr.alloc (.cells #[.string ⟨x.name.toArray⟩,.int .i64 x.mem,.int .i64 x.frame,.slice A3 x.parts.length q3] 44)).heap.size:=by simp
  have hft:=hfit x (List.mem_of_getElem? HX.out);go_wp2_with fail;clear c0 c1 c2 c3;generalize wr.alloc _=w0 at *;have HP0:=zaa (HP.out.later HBA.out);have HKR0:=zaa (HKR.out.trans (.later HBA.out));have hBr:B≤wr.heap.size:=Nat.le_trans hBw HBR.out.size;have HBR0:=zaa (HBR.out.trans (HBA.out.mono hBr));have hB0:B≤w0.heap.size:=Nat.le_trans hBw HBR0.out.size;obtain⟨x0,x1,x2,x3⟩:=zc1 HXb.out rfl;have hq:=HFx.out;simp only[zeQ,Bool.and_eq_true,List.all_cons,List.all_nil,Bool.and_true] at hq;obtain⟨-,⟨d0,d1⟩,hpa⟩:=hq;have HPA:=zaa hpa;clear hpa;have hpl:=hft.1;have hml:(zcO x).length=(zhl x).length+(zap zcq x.parts).length+2:=by
   have:(lnT 0 [125] []).length=2:=by rw[zaz];rfl
   simp only[zcO,List.length_append]
   omega
  have hl1:(zhl x).length=0+(zbK ([.s ([109,111,100,117,108,101]),.s (x.name),.s ([109,101,109]),.n (x.mem),.s ([102,114,97,109,101]),.n (x.frame)]:List Arg)).length+3:=by rw[zhl,zaz];rfl
  have HB0:=HBR0;have HK0:=HKR0;have hxb:wr.heap.size≠b:=by have:=HP.out.lt;omega
  have HOx:Hid (Oth w0 wr.heap.size):=zaa ⟨_,_,_,HXb.out,by decide⟩;have hB0:B≤w0.heap.size:=Nat.le_trans hBw HB0.out.size;refine zak (S:=fun w'=>Below w0.heap.size w0 w') 16 (by kernel_rfl) (by kernel_rfl) (Below.refl _ _).drew (fun hHeld=> ?_);generalize w0.drew=U at *;refine tq 0 16 rfl hHeld ?_;refine tq 1 17 rfl hHeld ?_;refine tq 2 18 rfl hHeld ?_;refine tq 3 19 rfl hHeld ?_;refine tq 4 20 rfl hHeld ?_
  (try simp only[pu])
  refine tyZ (v:= ?_) 5 21 rfl hHeld (fun v hS=> ?_) ?_;rotate_left
  ·have e0:=zad hS hxl 0 x0
   go_simp
   with_reducible rfl
  refine tq 6 22 rfl hHeld ?_;refine tq 7 23 rfl hHeld ?_;refine tq 8 24 rfl hHeld ?_
  (try simp only[pu])
  refine tyZ (v:= ?_) 9 25 rfl hHeld (fun v hS=> ?_) ?_;rotate_left
  ·have e0:=zad hS hxl 1 x1
   go_simp
   with_reducible rfl
  refine tq 10 26 rfl hHeld ?_;refine tq 11 27 rfl hHeld ?_;refine tq 12 28 rfl hHeld ?_
  (try simp only[pu])
  refine tyZ (v:= ?_) 13 29 rfl hHeld (fun v hS=> ?_) ?_;rotate_left
  ·have e0:=zad hS hxl 2 x2
   go_simp
   with_reducible rfl
  refine tq 14 30 rfl hHeld ?_
  (try simp only[pu])
  refine trZ [15] (zaN.cons rfl (fun K hK=> ?_) zaN.nil);refine zcv (by rfl) ?_;have HD:=zaa (zbL U ([.s ([109,111,100,117,108,101]),.s (x.name),.s ([109,101,109]),.n (x.mem),.s ([102,114,97,109,101]),.n (x.frame)]:List Arg) (b:=b) (HP0.out.later hHeld).lt);refine zbZ (zcw (ps:= #[(0,.iface 9 (.string ⟨([109,111,100,117,108,101]).toArray⟩)),(1,.iface 9 (.string ⟨(x.name).toArray⟩)),(2,.iface 9 (.string ⟨([109,101,109]).toArray⟩)),(3,.iface 3 (.int .i64 x.mem)),(4,.iface 9 (.string ⟨([102,114,97,109,101]).toArray⟩)),(5,.iface 3 (.int .i64 x.frame))]) rfl (by kernel_rfl) (bs6 _ _ _ _ _ _ _ _ _ _ _ _ U)) ?_;refine hK.out _ _ (hHeld.alloc hHeld.size _) (fun hHeld1=> ?_);clear hK K hHeld
  (try simp only[Act.put,zgl])
  refine zan (by kernel_rfl) ?_;simp only[List.drop_succ_cons,List.drop_zero];have HBl:=zaa (HB0.out.trans (hHeld1.mono hB0));have HKl:=zaa (HK0.out.trans (.later hHeld1));have HKxhl:=zaa (PrK.later (b:=b) hHeld1);have HBxhl:=zaa (hHeld1.mono hB0);have HC:=zaa (zbx B b k8 _ 0 [32,123] _ ([.s ([109,111,100,117,108,101]),.s (x.name),.s ([109,101,109]),.n (x.mem),.s ([102,114,97,109,101]),.n (x.frame)]:List Arg) _ (zaa (HP0.out.later hHeld1)) HD (zaa (za4 (za4 (za4 (zeR d0 (za4 (zeR d1 zbh))))))) (by simp) (by omega) (by simp) (by simp only[List.length_append];omega) (Nat.le_trans hB0 hHeld1.size) hGB (zaa (hE.out.keptB HBl.out hGB)));clear hHeld1 HD;go_wp2_with fail;refine HC.out.mono ?_;rintro e wh ⟨rfl,h1,h2,h3⟩;have HPh:=zaa h1;have HBh:=zaa (HBl.out.trans h2);have HKh:=zaa (HKl.out.trans h3);have HKxh:=zaa (HKxhl.out.trans h3);have HBxh:=zaa (HBxhl.out.trans h2);clear HKxhl HBxhl;clear h1 h2 h3 HC HBl HKl;replace HPh:Hid (zb6 B b k8 (L++zap zcO (l.take k)++zhl x) wh):=HPh;have HYw:=zaa ((HKxh.out.block wr.heap.size hxb HOx.out).trans HXb.out);clear x0 x1 x2 x3 hl1;have x3:=cell_of_row _ _ 3 _ _ _ HYw.out;go_wp2_with fail;clear x3 HYw
  go_loopw [36] (fun v wq=> ∃n:Nat,n≤x.parts.length∧v= .int .i64 n∧zb6 B b k8 (L++zap zcO (l.take k)++zhl x++zap zcq (x.parts.take n)) wq∧Below B W wq∧PrK b W wq∧Below B w0 wq) (fun v _=>x.parts.length-(intOf v).toNat)
  case atStart=>exact⟨0,by omega,rfl,by rw[zbl,List.append_nil];exact HPh.out,HBh.out,HKh.out,HBxh.out⟩
  case round=>
   clear HPh HBh HKh;obtain⟨n,hn,rfl,hp,hbr,hkr,hjr⟩:=hrel;have HPq:=zaa hp;have HBq:=zaa hbr;have HKq:=zaa hkr;have HJq:=zaa hjr;clear hp hbr hkr hjr;by_cases hlt2:n<x.parts.length
   rotate_left
   ·obtain rfl:n=x.parts.length:=by omega
    rw[List.take_length] at HPq;clear hlt2;go_wp2_with fail;have HC:=zaa (zbx B b k8 _ 0 [125] _ ([]:List Arg) wr HPq (zaa (.nil none 0 1)) (zaa zbh) (by simp) (by omega) (by simp) (by simp only[List.length_append,zbK,List.length_nil];omega) (Nat.le_trans hBw HBq.out.size) hGB (zaa (hE.out.keptB HBq.out hGB)));refine HC.out.mono ?_;rintro e wz ⟨rfl,h1,h2,h3⟩;have HPz:=zaa h1;have HBz:=zaa (HBq.out.trans h2);have HKz:=zaa (HKq.out.trans h3);clear h1 h2 h3 HC;go_wp2_with fail;go_roundw
    case rel=>exact⟨k+1,by omega,by go_num,by rw[zaq HX.out];simpa only[zcO,List.append_assoc] using HPz.out,HBz.out,HKz.out⟩
    case measure=>simp[intOf];omega
   have hlt:=hlt2;obtain⟨y,hy⟩: ∃y,x.parts[n]? =some y:=⟨_,List.getElem?_eq_getElem hlt⟩;obtain⟨g,off,rfl,hG,hg,hca⟩:=(HR3.out.keep ((HBA.out.mono hBr).trans HJq.out)).at_ hy;obtain⟨uy0,c0,g0⟩:=hca 0 _ rfl;obtain⟨uy1,c1,g1⟩:=hca 1 _ rfl;obtain⟨uy2,c2,g2⟩:=hca 2 _ rfl;obtain⟨uy3,c3,g3⟩:=hca 3 _ rfl;obtain⟨uy4,c4,g4⟩:=hca 4 _ rfl;obtain⟨uy5,c5,g5⟩:=hca 5 _ rfl;obtain⟨uy6,c6,g6⟩:=hca 6 _ rfl;obtain⟨uy7,c7,g7⟩:=hca 7 _ rfl;obtain⟨uy8,c8,g8⟩:=hca 8 _ rfl;obtain⟨uy9,c9,g9⟩:=hca 9 _ rfl;obtain rfl:=g0.leaf_eq;obtain rfl:=g1.leaf_eq;obtain rfl:=g2.leaf_eq;obtain rfl:=g3.leaf_eq;obtain⟨Ay4,qy4,rfl, -⟩:=g4.sliceG;rw[show(zah y.semas).length=y.semas.length from by simp[zah]] at g4 c4;obtain rfl:=g5.leaf_eq;obtain rfl:=g6.leaf_eq;obtain⟨Ay7,qy7,rfl, -⟩:=g7.sliceG;rw[show(zah y.bufs).length=y.bufs.length from by simp[zah]] at g7 c7;obtain⟨Ay8,qy8,rfl, -⟩:=g8.sliceG;rw[List.length_map] at g8 c8;obtain⟨Ay9,qy9,rfl, -⟩:=g9.sliceG;rw[List.length_map] at g9 c9;simp only[zav] at c0 c1 c2 c3 c4 c5 c6 c7 c8 c9;clear hca;rw[Nat.add_zero] at c0;have k0:=kbZ n x.parts.length;have HXy:=zaa hy;have hroomy:=zat (f:=zcq) hy;clear hy;have HDy:=zaa (show zab wr (fun g=>g<B) [.string ⟨y.name.toArray⟩,.int .i64 y.period,.int .i64 y.length,.int .i64 y.mem,.slice Ay4 y.semas.length qy4,.int .i64 y.events,.int .i64 y.boards,.slice Ay7 y.bufs.length qy7,.slice Ay8 y.ports.length qy8,.slice Ay9 y.procs.length qy9] y.cells from(zab.cons g0 (zab.cons g1 (zab.cons g2 (zab.cons g3 (zab.cons g4 (zab.cons g5 (zab.cons g6 (zab.cons g7 (zab.cons g8 (zab.cons g9 zab.nil)))))))))));clear g0 g1 g2 g3 g4 g5 g6 g7 g8 g9;have HXyb:=zaa (heap_alloc_new wr (.cells #[.string ⟨y.name.toArray⟩,.int .i64 y.period,.int .i64 y.length,.int .i64 y.mem,.slice Ay4 y.semas.length qy4,.int .i64 y.events,.int .i64 y.boards,.slice Ay7 y.bufs.length qy7,.slice Ay8 y.ports.length qy8,.slice Ay9 y.procs.length qy9] 49));have HBAy:=zaa ((Below.refl wr.heap.size wr).alloc (Nat.le_refl _) (.cells #[.string ⟨y.name.toArray⟩,.int .i64 y.period,.int .i64 y.length,.int .i64 y.mem,.slice Ay4 y.semas.length qy4,.int .i64 y.events,.int .i64 y.boards,.slice Ay7 y.bufs.length qy7,.slice Ay8 y.ports.length qy8,.slice Ay9 y.procs.length qy9] 49));go_wp2_with fail;clear c0 c1 c2 c3 c4 c5 c6 c7 c8 c9;generalize wr.alloc _=w2 at *;have HPi:=zaa (HPq.out.later HBAy.out);have HBi:=zaa (HBq.out.trans (HBAy.out.mono (Nat.le_trans hBw HBq.out.size)));have HKi:=zaa (HKq.out.trans (.later HBAy.out));have HC:=zaa (zoR B b k8 _ y [.string ⟨y.name.toArray⟩,.int .i64 y.period,.int .i64 y.length,.int .i64 y.mem,.slice Ay4 y.semas.length qy4,.int .i64 y.events,.int .i64 y.boards,.slice Ay7 y.bufs.length qy7,.slice Ay8 y.ports.length qy8,.slice Ay9 y.procs.length qy9] w2 HPi (zaa (HDy.out.keep HBAy.out.size (fun g hg _=>HBAy.out.block g (Nat.lt_of_lt_of_le hg (Nat.le_trans hBw HBq.out.size))))) (List.all_eq_true.1 HPA.out y (List.mem_of_getElem? HXy.out)) (by simp only[List.length_append];omega) (Nat.le_trans hBw HBi.out.size) hGB (zaa (hE.out.keptB HBi.out hGB)) hGP (zaa (hP.out.keptB HBi.out hGP)) (hft.2 y (List.mem_of_getElem? HXy.out)));refine HC.out.mono ?_;rintro e wz ⟨rfl,h1,h2,h3⟩;have HPz:=zaa h1;have HBz:=zaa (HBi.out.trans h2);have HKz:=zaa (HKi.out.trans h3);have HJz:=zaa (HJq.out.trans ((HBAy.out.mono (Nat.le_trans hBw HBq.out.size)).trans h2));clear h1 h2 h3 HC;go_wp2_with fail;go_roundw
   case rel=>exact⟨n+1,by omega,by go_num,by rw[zaq HXy.out,←List.append_assoc];exact HPz.out,HBz.out,HKz.out,HJz.out⟩
   case measure=>simp[intOf];omega
end Go.Proofs.YtgbfaompondolaaGreatDoor
