/- Merged texts of the walks and of the plain laws on which the statement leans.-/
import Derived.Test.YtgbfaompondolaaGreatDoorPk1
import Derived.Test.YtgbfaompondolaaGreatDoorPk14
import Derived.Test.YtgbfaompondolaaGreatDoorPk11
set_option maxHeartbeats 4000000
set_option maxRecDepth 100000
namespace Go.Proofs.YtgbfaompondolaaGreatDoor
open Tryz
open Go.RowKit
attribute [local go_sem] zaj.cell
theorem zfE:(prog.info? 20).map (fun i=>(i.zero,i.size,i.bytes))=some (some .nilIface,1,16):=by kernel_rfl
theorem zdX {w:World} {g m:Nat} {cs:Array Value} {t:TypeId} (h:w.heap[g]? =some (.cells cs t (0,0))) (hs:cs.size=m):zbv w w.heap.size 1 (some ⟨g,0,none⟩) m cs.toList:=by
 refine⟨by simpa using hs,fun _=>⟨_,rfl,(zau h),fun j u hu=> ?_⟩⟩;have e:(⟨g,0,none⟩:Addr).add j=⟨g,j,none⟩:=by
  unfold Addr.add
  split
  ·rename_i hj;rw[hj]
  ·simp
 rw[e];exact(cell_of_row w g j _ _ _ h).trans (by simpa using hu)
theorem zey {B b base n:Nat} {k8:C8} {L:List UInt8} {w:World} {v:Value} {l:List Arg} (h:w.ownsRow base 20 1 v n (l.map Arg.val)) (hp:zb6 B b k8 L w):DAt w (fun g=>g≠b∧Oth w g) v (.row 1 (zbN l)):=by
 have hl:(zbN l).length=n:=by
  have:=h.1;simp at this;simp[zbN,this]
 have hf:(zbN l).flatten=(l.map Arg.val).map Dat.leaf:=zeW Arg.val l;refine(zg7 (G:=fun _=>False) hl (fun e he=> ?_) h (by rw[hf];exact zcI _)).mono (fun g hg _=> ?_)
 ·unfold zbN at he
  obtain⟨s,_,rfl⟩:=List.mem_map.1 he
  rfl
 ·rcases hg with hg|hg
  ·exact hg.elim
  ·rcases h.2 with⟨rfl,_⟩|⟨g',cap,cur,rfl,_,hh,_⟩
   ·cases hg
   ·injection hg with hg
    have hg2:g'=g:=hg;subst hg2;refine⟨fun e=> ?_,cur,_,_,hh,by decide⟩;subst e;obtain⟨p,v,hr⟩:=hp.row;rw[hh] at hr;injection hr with hr
    injection hr with _ ht
    exact absurd ht (by decide)
theorem zh0 {l m:List Arg} (h: ∀a∈l,a.ok) (k: ∀a∈m,a.ok): ∀a∈l++m,a.ok:=fun a ha=>(List.mem_append.1 ha).elim (h a) (k a)
theorem zlf (B b:Nat) (k8:C8) (L:List UInt8) (l:List zaB) (W:World) (h:Hid (zb6 B b k8 L W)) (hv:Hid (DAt W (fun g=>g<B) k8.c5 (.row 5 (l.map zaB.cells)))) (hF:Hid (l.all zbe=true)) (hlen:L.length+(zap zaC l).length≤1000000) (hnl:l.length≤140737488355328) (hBw:B≤W.heap.size) (hGB:8≤B) (hE:Hid (Env W)) (hGP:2≤B) (hP:Hid (zcT W)) (hfit: ∀y∈l,zdN y):
 Calls prog 76 #[.pointer (some ⟨b,0,none⟩)] W fun e w'=>e= .returned (.tuple #[])∧zb6 B b k8 (L++zap zaC l) w'∧Below B W w'∧PrK b W w':=by
 obtain⟨A,c,ek,hA⟩:=hv.out.sliceG;have HA:=zaa hA;rw[List.length_map] at ek;clear hA hv;have cb:W.cell? ⟨b,7,none⟩=some (.slice A l.length c):=(h.out.cell 5 (by decide)).trans (congrArg some ek);clear ek;have HL:=zaa hlen;clear hlen
 go_enter func76,ntmps76
 go_wp2_with fail;clear cb
 go_loopw [11] (fun v wr=> ∃k:Nat,k≤l.length∧v= .int .i64 k∧zb6 B b k8 (L++zap zaC (l.take k)) wr∧Below B W wr∧PrK b W wr) (fun v _=>l.length-(intOf v).toNat)
 case atStart=>exact⟨0,by omega,rfl,by rw[zbl,List.append_nil];exact h.out,Below.refl _ _,PrK.refl _ _⟩
 case round=>
  obtain⟨k,hk,rfl,hp,hbr,hkr⟩:=hrel;have HP:=zaa hp;have HBR:=zaa hbr;have HKR:=zaa hkr;clear hp hbr hkr h;by_cases hlt:k<l.length
  rotate_left
  ·obtain rfl:k=l.length:=by omega
   rw[List.take_length] at HP;clear hlt;go_wp2_with fail
   go_end0
   exact⟨rfl,HP.out,HBR.out,HKR.out⟩
  obtain⟨x,hx⟩:=zbE hlt;obtain⟨g,off,rfl,hG,hg,hca⟩:=(HA.out.keep HBR.out).at_ hx;obtain⟨u0,c0,g0⟩:=hca 0 _ rfl;obtain rfl:=g0.leaf_eq;obtain⟨u1,c1,g1⟩:=hca 1 _ rfl;obtain rfl:=g1.leaf_eq;obtain⟨u2,c2,g2⟩:=hca 2 _ rfl;obtain rfl:=g2.leaf_eq;obtain⟨u3,c3,g3⟩:=hca 3 _ rfl;obtain rfl:=g3.leaf_eq;obtain⟨u4,c4,g4⟩:=hca 4 _ rfl;obtain rfl:=g4.leaf_eq;clear hca g0 g1 g2 g3 g4;simp only[zav] at c0 c1 c2 c3 c4;rw[Nat.add_zero] at c0;have k0:=kbZ k l.length;have HFx:=zaa (List.all_eq_true.1 hF.out x (List.mem_of_getElem? hx));have HX:=zaa hx;have hroom:=zat (f:=zaC) hx;have hL:=HL.out;clear hx;have HXb:=zaa (heap_alloc_new wr (.cells #[.string ⟨x.module.toArray⟩,.string ⟨x.part.toArray⟩,.int .u8 (x.fault:Int),.int .u8 (x.level:Int),.int .u8 (x.do_:Int)] 73));have HBA:=zaa ((Below.refl wr.heap.size wr).alloc (Nat.le_refl _) (.cells #[.string ⟨x.module.toArray⟩,.string ⟨x.part.toArray⟩,.int .u8 (x.fault:Int),.int .u8 (x.level:Int),.int .u8 (x.do_:Int)] 73));have hxl:wr.heap.size<(wr.alloc (.cells #[.string ⟨x.module.toArray⟩,.string ⟨x.part.toArray⟩,.int .u8 (x.fault:Int),.int .u8 (x.level:Int),.int .u8 (x.do_:Int)] 73)).heap.size:=by simp
  have hft:=hfit x (List.mem_of_getElem? HX.out);go_wp2_with fail;clear c0 c1 c2 c3 c4;generalize wr.alloc _=w0 at *;have HP0:=zaa (HP.out.later HBA.out);have HKR0:=zaa (HKR.out.trans (.later HBA.out));have hBr:B≤wr.heap.size:=Nat.le_trans hBw HBR.out.size;have HBR0:=zaa (HBR.out.trans (HBA.out.mono hBr));have hB0:B≤w0.heap.size:=Nat.le_trans hBw HBR0.out.size;obtain⟨x0,x1,x2,x3,x4⟩:=zkI HXb.out rfl;have HC:=zaa (zgx x.fault w0 (hP.out.keptB HBR0.out hGP) hft.1);refine HC.out.mono ?_;rintro e w1 ⟨rfl,hb⟩;have HS1:=zaa hb;clear hb HC;obtain⟨i0,hi0,hz0,hz1,hz2⟩:=info_parts zfE;have c0:=zad HS1.out hxl 0 x0;have c1:=zad HS1.out hxl 1 x1;have hz1w:=HS1.out.size;have hA0:zef x=[.s [111,110],.s (zaf zal x.fault)]++(if x.module=[] then[] else[.s [109,111,100,117,108,101],.s x.module])++(if x.part=[] then[] else[.s [112,97,114,116],.s x.part])++[.s [108,101,118,101,108],.s (zaf zai x.level),.s [100,111],.s (zaf zag x.do_)]:=rfl;have HA0:=zaa hA0;clear hA0;have HO:=zaa (World.ownsRow_lit (base:=w0.heap.size) (e:=20) (size:=1) w1 #[.iface 9 (.string ⟨([111,110]:List UInt8).toArray⟩),.iface 9 (.string ⟨(zaf zal x.fault).toArray⟩)] 2 hz1w (by unfold maxLen;omega) rfl);have HS2:=zaa (HS1.out.alloc HS1.out.size (.cells #[.iface 9 (.string ⟨([111,110]:List UInt8).toArray⟩),.iface 9 (.string ⟨(zaf zal x.fault).toArray⟩)] 20));have HS:=HS2;clear HS2 HS1;have c0:=zad HS.out hxl 0 x0;have c1:=zad HS.out hxl 1 x1;go_upto_region 4 with fail
  generalize w1.alloc _=wa at *;rcases za9 x.module with⟨em,hm⟩|⟨em,hm⟩
  ·have hmo:x.module=[]:=by simpa using hm
   rw[em] at x0 c0;clear em hm;rcases za9 x.part with⟨ep,hp⟩|⟨ep,hp⟩
   ·have hpa:x.part=[]:=by simpa using hp
    rw[ep] at x1 c1;clear ep hp;have HMO:=zaa hmo;have HPA:=zaa hpa;clear hmo hpa;go_wp2_with fail;refine zak (S:=fun w'=>Below w0.heap.size w0 w') 16 (by kernel_rfl) (by kernel_rfl) HS.out.drew (fun hHeld=> ?_);replace HO:=zaa (show World.ownsRow (World.drew _) _ _ _ _ _ _ from HO.out);clear HS;generalize World.drew _=U at *;refine tq 0 41 rfl hHeld ?_;refine tq 1 42 rfl hHeld ?_;refine tq 2 43 rfl hHeld ?_;refine tq 3 44 rfl hHeld ?_;refine tq 4 45 rfl hHeld ?_;refine tq 5 46 rfl hHeld ?_
    (try simp only[pu])
    refine tyZ (v:= ?_) 6 47 rfl hHeld (fun v hS=> ?_) ?_;rotate_left
    ·have e0:=zad hS hxl 3 x3
     go_simp
     with_reducible rfl
    refine tq 9 50 rfl hHeld ?_;refine tq 10 51 rfl hHeld ?_
    (try simp only[pu])
    refine tyZ (v:= ?_) 11 52 rfl hHeld (fun v hS=> ?_) ?_;rotate_left
    ·have e0:=zad hS hxl 4 x4
     go_simp
     with_reducible rfl
    (try simp only[pu])
    refine trZ [7] (zaN.cons rfl (fun K hK=> ?_) zaN.nil);go_simp;have HI:=zaa (zdK x.level U (hP.out.keptB (HBR0.out.trans (hHeld.mono hB0)) hGP) hft.2.1);refine HI.out.mono ?_;rintro e Ua ⟨rfl,hb⟩;replace HO:=zaa (zaJ HO.out (fun g hg hbg=>hb.block g (zas HO.out hg).2));have hSUa:=hHeld.trans (hb.mono hHeld.size);clear hb HI hHeld;go_wp2_with fail;refine hK.out _ _ hSUa (fun hHeld=> ?_);clear hK K hSUa;refine tq 8 49 rfl hHeld ?_
    (try simp only[pu])
    refine trZ [12] (zaN.cons rfl (fun K hK=> ?_) zaN.nil);go_simp;have HI:=zaa (zdo x.do_ Ua (hP.out.keptB (HBR0.out.trans (hHeld.mono hB0)) hGP) hft.2.2);refine HI.out.mono ?_;rintro e Uaa ⟨rfl,hb⟩;replace HO:=zaa (zaJ HO.out (fun g hg hbg=>hb.block g (zas HO.out hg).2));have hSUaa:=hHeld.trans (hb.mono hHeld.size);clear hb HI hHeld;go_wp2_with fail;refine hK.out _ _ hSUaa (fun hHeld=> ?_);clear hK K hSUaa;refine tq 13 54 rfl hHeld ?_
    (try simp only[pu])
    refine trZ [14] (zaN.cons rfl (fun K hK=> ?_) zaN.nil);go_simp;have XN:=zaa (heap_alloc_new Uaa (.cells #[.iface 9 (.string ⟨([108,101,118,101,108]:List UInt8).toArray⟩),.iface 9 (.string ⟨(zaf zai x.level:List UInt8).toArray⟩),.iface 9 (.string ⟨([100,111]:List UInt8).toArray⟩),.iface 9 (.string ⟨(zaf zag x.do_:List UInt8).toArray⟩)] 20));have HOa:=zaa (HO.out.alloc (.cells #[.iface 9 (.string ⟨([108,101,118,101,108]:List UInt8).toArray⟩),.iface 9 (.string ⟨(zaf zai x.level:List UInt8).toArray⟩),.iface 9 (.string ⟨([100,111]:List UInt8).toArray⟩),.iface 9 (.string ⟨(zaf zag x.do_:List UInt8).toArray⟩)] 20));have hzU:=hHeld.size;refine hK.out _ _ (hHeld.alloc hHeld.size _) (fun hHeld1=> ?_);clear hK K hHeld HO
    (try simp only[pu])
    refine trZ [15] (zaN.cons rfl (fun K hK=> ?_) zaN.nil);refine zca _ rfl (.tmp 44) (.tmp 55) 174 rfl w0.heap.size 20 i0 _ 1 16 underlying174 hi0 hz0 hz1 hz2 rfl (by decide) _ 2 _ rfl HOa.out _ (some ⟨Uaa.heap.size,0,none⟩) 4 4 [.iface 9 (.string ⟨([108,101,118,101,108]:List UInt8).toArray⟩),.iface 9 (.string ⟨(zaf zai x.level:List UInt8).toArray⟩),.iface 9 (.string ⟨([100,111]:List UInt8).toArray⟩),.iface 9 (.string ⟨(zaf zag x.do_:List UInt8).toArray⟩)] rfl (zdX XN.out rfl) (by simp[Value.oneCell']) (by unfold maxLen;omega) (by omega) (by simp;omega) ?_;intro v5 wz hown5 hg5 hat5;have hSz:=Below.grown hHeld1 hg5 hHeld1.size (fun g e=>(zas HOa.out e).1);have HOz:=zaa (show wz.ownsRow w0.heap.size 20 1 v5 6 ((([.s [111,110],.s (zaf zal x.fault)]:List Arg)++[.s ([108,101,118,101,108]),.s (zaf zai x.level),.s ([100,111]),.s (zaf zag x.do_)]:List Arg).map Arg.val) from hown5);clear hown5 hg5 hat5 XN HOa hHeld1;refine hK.out _ _ hSz (fun hHeld1=> ?_);clear hK K hSz
    (try simp only[Act.put,zgl])
    refine zan (by kernel_rfl) ?_;simp only[List.drop_succ_cons,List.drop_zero];have HBl:=zaa (HBR0.out.trans (hHeld1.mono hB0));have HKl:=zaa (HKR0.out.trans (.later hHeld1));have HPz:=zaa (HP0.out.later hHeld1);have HC:=zaa (zbx B b k8 _ 0 [59] _ (([.s [111,110],.s (zaf zal x.fault)]:List Arg)++[.s ([108,101,118,101,108]),.s (zaf zai x.level),.s ([100,111]),.s (zaf zag x.do_)]:List Arg) _ HPz (zaa (zey HOz.out HPz.out)) (zaa (zh0 (za4 (za4 zbh)) (za4 (za4 (za4 (za4 zbh)))))) (by simp) (by omega) (by simp) (by rw[List.length_append];rw[zaC,zaz,HA0.out] at hroom;simp only[List.cons_append,List.nil_append,HMO.out,HPA.out,if_true] at hroom ⊢;omega) (Nat.le_trans hB0 hHeld1.size) hGB (zaa (hE.out.keptB HBl.out hGB)));clear hHeld1 HOz HPz;go_wp2_with fail;refine HC.out.mono ?_;rintro e w9 ⟨rfl,h1,h2,h3⟩;have HP9:=zaa h1;have HB9:=zaa (HBl.out.trans h2);have HK9:=zaa (HKl.out.trans h3);clear h1 h2 h3 HC;go_wp2_with fail;go_roundw
    case rel=>exact⟨k+1,by omega,by go_num,by rw[zaq HX.out,←List.append_assoc,zaC,HA0.out];simp only[List.append_assoc,List.cons_append,List.nil_append,HMO.out,HPA.out,if_true];simpa only[List.append_assoc,List.cons_append,List.nil_append] using HP9.out,HB9.out,HK9.out⟩
    case measure=>simp[intOf];omega
   ·have hpa: ¬x.part=[]:=by simpa using hp
    have hie1:x.part.isEmpty=false:=by rw[List.isEmpty_eq_false_iff];exact hpa
    go_wp2_with(at_builtin;apply Hid.out)
    refine zaa ?_;refine wpList_append_own _ rfl _ _ 174 rfl w0.heap.size 20 i0 _ 1 16 underlying174 hi0 hz0 hz1 hz2 rfl (by decide) _ 2 _ rfl (HO.out.alloc _) ⟨wa.heap.size,0,none⟩ 2 2 [.iface 9 (.string ⟨([112,97,114,116]:List UInt8).toArray⟩),.iface 9 (.string ⟨x.part.toArray⟩)] rfl rfl (zaS (by simp)) (by simp[Value.oneCell']) (by unfold maxLen;omega) (by omega) (by simp;have:=HS.out.size;omega) ?_;intro v5 wc hown5 hg5 _;have hSz:=Below.grown (HS.out.alloc HS.out.size _) hg5 (HS.out.alloc HS.out.size _).size (fun g e=>(zas HO.out e).1);have HOz:=zaa (show wc.ownsRow w0.heap.size 20 1 v5 4 (([.s [111,110],.s (zaf zal x.fault)]++[.s [112,97,114,116],.s x.part]:List Arg).map Arg.val) from hown5);clear hown5 hg5 HO HS;have HO:=HOz;have HS:=zaa hSz;clear HOz hSz;have c0:=zad HS.out hxl 0 x0;have c1:=zad HS.out hxl 1 x1;have HMO:=zaa hmo;have HPA:=zaa hpa;clear hmo hpa;go_wp2_with fail;refine zak (S:=fun w'=>Below w0.heap.size w0 w') 16 (by kernel_rfl) (by kernel_rfl) HS.out.drew (fun hHeld=> ?_);replace HO:=zaa (show World.ownsRow (World.drew _) _ _ _ _ _ _ from HO.out);clear HS;generalize World.drew _=U at *;refine tq 0 41 rfl hHeld ?_;refine tq 1 42 rfl hHeld ?_;refine tq 2 43 rfl hHeld ?_;refine tq 3 44 rfl hHeld ?_;refine tq 4 45 rfl hHeld ?_;refine tq 5 46 rfl hHeld ?_
    (try simp only[pu])
    refine tyZ (v:= ?_) 6 47 rfl hHeld (fun v hS=> ?_) ?_;rotate_left
    ·have e0:=zad hS hxl 3 x3
     go_simp
     with_reducible rfl
    refine tq 9 50 rfl hHeld ?_;refine tq 10 51 rfl hHeld ?_
    (try simp only[pu])
    refine tyZ (v:= ?_) 11 52 rfl hHeld (fun v hS=> ?_) ?_;rotate_left
    ·have e0:=zad hS hxl 4 x4
     go_simp
     with_reducible rfl
    (try simp only[pu])
    refine trZ [7] (zaN.cons rfl (fun K hK=> ?_) zaN.nil);go_simp;have HI:=zaa (zdK x.level U (hP.out.keptB (HBR0.out.trans (hHeld.mono hB0)) hGP) hft.2.1);refine HI.out.mono ?_;rintro e Ua ⟨rfl,hb⟩;replace HO:=zaa (zaJ HO.out (fun g hg hbg=>hb.block g (zas HO.out hg).2));have hSUa:=hHeld.trans (hb.mono hHeld.size);clear hb HI hHeld;go_wp2_with fail;refine hK.out _ _ hSUa (fun hHeld=> ?_);clear hK K hSUa;refine tq 8 49 rfl hHeld ?_
    (try simp only[pu])
    refine trZ [12] (zaN.cons rfl (fun K hK=> ?_) zaN.nil);go_simp;have HI:=zaa (zdo x.do_ Ua (hP.out.keptB (HBR0.out.trans (hHeld.mono hB0)) hGP) hft.2.2);refine HI.out.mono ?_;rintro e Uaa ⟨rfl,hb⟩;replace HO:=zaa (zaJ HO.out (fun g hg hbg=>hb.block g (zas HO.out hg).2));have hSUaa:=hHeld.trans (hb.mono hHeld.size);clear hb HI hHeld;go_wp2_with fail;refine hK.out _ _ hSUaa (fun hHeld=> ?_);clear hK K hSUaa;refine tq 13 54 rfl hHeld ?_
    (try simp only[pu])
    refine trZ [14] (zaN.cons rfl (fun K hK=> ?_) zaN.nil);go_simp;have XN:=zaa (heap_alloc_new Uaa (.cells #[.iface 9 (.string ⟨([108,101,118,101,108]:List UInt8).toArray⟩),.iface 9 (.string ⟨(zaf zai x.level:List UInt8).toArray⟩),.iface 9 (.string ⟨([100,111]:List UInt8).toArray⟩),.iface 9 (.string ⟨(zaf zag x.do_:List UInt8).toArray⟩)] 20));have HOa:=zaa (HO.out.alloc (.cells #[.iface 9 (.string ⟨([108,101,118,101,108]:List UInt8).toArray⟩),.iface 9 (.string ⟨(zaf zai x.level:List UInt8).toArray⟩),.iface 9 (.string ⟨([100,111]:List UInt8).toArray⟩),.iface 9 (.string ⟨(zaf zag x.do_:List UInt8).toArray⟩)] 20));have hzU:=hHeld.size;refine hK.out _ _ (hHeld.alloc hHeld.size _) (fun hHeld1=> ?_);clear hK K hHeld HO
    (try simp only[pu])
    refine trZ [15] (zaN.cons rfl (fun K hK=> ?_) zaN.nil);refine zca _ rfl (.tmp 44) (.tmp 55) 174 rfl w0.heap.size 20 i0 _ 1 16 underlying174 hi0 hz0 hz1 hz2 rfl (by decide) _ 4 _ rfl HOa.out _ (some ⟨Uaa.heap.size,0,none⟩) 4 4 [.iface 9 (.string ⟨([108,101,118,101,108]:List UInt8).toArray⟩),.iface 9 (.string ⟨(zaf zai x.level:List UInt8).toArray⟩),.iface 9 (.string ⟨([100,111]:List UInt8).toArray⟩),.iface 9 (.string ⟨(zaf zag x.do_:List UInt8).toArray⟩)] rfl (zdX XN.out rfl) (by simp[Value.oneCell']) (by unfold maxLen;omega) (by omega) (by simp;omega) ?_;intro v5 wz hown5 hg5 hat5;have hSz:=Below.grown hHeld1 hg5 hHeld1.size (fun g e=>(zas HOa.out e).1);have HOz:=zaa (show wz.ownsRow w0.heap.size 20 1 v5 8 ((([.s [111,110],.s (zaf zal x.fault)]++[.s [112,97,114,116],.s x.part]:List Arg)++[.s ([108,101,118,101,108]),.s (zaf zai x.level),.s ([100,111]),.s (zaf zag x.do_)]:List Arg).map Arg.val) from hown5);clear hown5 hg5 hat5 XN HOa hHeld1;refine hK.out _ _ hSz (fun hHeld1=> ?_);clear hK K hSz
    (try simp only[Act.put,zgl])
    refine zan (by kernel_rfl) ?_;simp only[List.drop_succ_cons,List.drop_zero];have HBl:=zaa (HBR0.out.trans (hHeld1.mono hB0));have HKl:=zaa (HKR0.out.trans (.later hHeld1));have HPz:=zaa (HP0.out.later hHeld1);have HC:=zaa (zbx B b k8 _ 0 [59] _ (([.s [111,110],.s (zaf zal x.fault)]++[.s [112,97,114,116],.s x.part]:List Arg)++[.s ([108,101,118,101,108]),.s (zaf zai x.level),.s ([100,111]),.s (zaf zag x.do_)]:List Arg) _ HPz (zaa (zey HOz.out HPz.out)) (zaa (zh0 (za4 (za4 (za4 (za4 zbh)))) (za4 (za4 (za4 (za4 zbh)))))) (by simp) (by omega) (by simp) (by rw[List.length_append];rw[zaC,zaz,HA0.out] at hroom;simp only[List.cons_append,List.nil_append,HMO.out,HPA.out,if_true,if_false] at hroom ⊢;omega) (Nat.le_trans hB0 hHeld1.size) hGB (zaa (hE.out.keptB HBl.out hGB)));clear hHeld1 HOz HPz;go_wp2_with fail;refine HC.out.mono ?_;rintro e w9 ⟨rfl,h1,h2,h3⟩;have HP9:=zaa h1;have HB9:=zaa (HBl.out.trans h2);have HK9:=zaa (HKl.out.trans h3);clear h1 h2 h3 HC;go_wp2_with fail;go_roundw
    case rel=>exact⟨k+1,by omega,by go_num,by rw[zaq HX.out,←List.append_assoc,zaC,HA0.out];simp only[List.append_assoc,List.cons_append,List.nil_append,HMO.out,HPA.out,if_true,if_false];simpa only[List.append_assoc,List.cons_append,List.nil_append] using HP9.out,HB9.out,HK9.out⟩
    case measure=>simp[intOf];omega
  ·have hmo: ¬x.module=[]:=by simpa using hm
   have hie0:x.module.isEmpty=false:=by rw[List.isEmpty_eq_false_iff];exact hmo
   rcases za9 x.part with⟨ep,hp⟩|⟨ep,hp⟩
   ·have hpa:x.part=[]:=by simpa using hp
    rw[ep] at x1 c1;clear ep hp;go_wp2_with(at_builtin;apply Hid.out)
    refine zaa ?_;refine wpList_append_own _ rfl _ _ 174 rfl w0.heap.size 20 i0 _ 1 16 underlying174 hi0 hz0 hz1 hz2 rfl (by decide) _ 2 _ rfl (HO.out.alloc _) ⟨wa.heap.size,0,none⟩ 2 2 [.iface 9 (.string ⟨([109,111,100,117,108,101]:List UInt8).toArray⟩),.iface 9 (.string ⟨x.module.toArray⟩)] rfl rfl (zaS (by simp)) (by simp[Value.oneCell']) (by unfold maxLen;omega) (by omega) (by simp;have:=HS.out.size;omega) ?_;intro v5 wb hown5 hg5 _;have hSz:=Below.grown (HS.out.alloc HS.out.size _) hg5 (HS.out.alloc HS.out.size _).size (fun g e=>(zas HO.out e).1);have HOz:=zaa (show wb.ownsRow w0.heap.size 20 1 v5 4 (([.s [111,110],.s (zaf zal x.fault)]++[.s [109,111,100,117,108,101],.s x.module]:List Arg).map Arg.val) from hown5);clear hown5 hg5 HO HS;have HO:=HOz;have HS:=zaa hSz;clear HOz hSz;have c0:=zad HS.out hxl 0 x0;have c1:=zad HS.out hxl 1 x1;have HMO:=zaa hmo;have HPA:=zaa hpa;clear hmo hpa;go_wp2_with fail;refine zak (S:=fun w'=>Below w0.heap.size w0 w') 16 (by kernel_rfl) (by kernel_rfl) HS.out.drew (fun hHeld=> ?_);replace HO:=zaa (show World.ownsRow (World.drew _) _ _ _ _ _ _ from HO.out);clear HS;generalize World.drew _=U at *;refine tq 0 41 rfl hHeld ?_;refine tq 1 42 rfl hHeld ?_;refine tq 2 43 rfl hHeld ?_;refine tq 3 44 rfl hHeld ?_;refine tq 4 45 rfl hHeld ?_;refine tq 5 46 rfl hHeld ?_
    (try simp only[pu])
    refine tyZ (v:= ?_) 6 47 rfl hHeld (fun v hS=> ?_) ?_;rotate_left
    ·have e0:=zad hS hxl 3 x3
     go_simp
     with_reducible rfl
    refine tq 9 50 rfl hHeld ?_;refine tq 10 51 rfl hHeld ?_
    (try simp only[pu])
    refine tyZ (v:= ?_) 11 52 rfl hHeld (fun v hS=> ?_) ?_;rotate_left
    ·have e0:=zad hS hxl 4 x4
     go_simp
     with_reducible rfl
    (try simp only[pu])
    refine trZ [7] (zaN.cons rfl (fun K hK=> ?_) zaN.nil);go_simp;have HI:=zaa (zdK x.level U (hP.out.keptB (HBR0.out.trans (hHeld.mono hB0)) hGP) hft.2.1);refine HI.out.mono ?_;rintro e Ua ⟨rfl,hb⟩;replace HO:=zaa (zaJ HO.out (fun g hg hbg=>hb.block g (zas HO.out hg).2));have hSUa:=hHeld.trans (hb.mono hHeld.size);clear hb HI hHeld;go_wp2_with fail;refine hK.out _ _ hSUa (fun hHeld=> ?_);clear hK K hSUa;refine tq 8 49 rfl hHeld ?_
    (try simp only[pu])
    refine trZ [12] (zaN.cons rfl (fun K hK=> ?_) zaN.nil);go_simp;have HI:=zaa (zdo x.do_ Ua (hP.out.keptB (HBR0.out.trans (hHeld.mono hB0)) hGP) hft.2.2);refine HI.out.mono ?_;rintro e Uaa ⟨rfl,hb⟩;replace HO:=zaa (zaJ HO.out (fun g hg hbg=>hb.block g (zas HO.out hg).2));have hSUaa:=hHeld.trans (hb.mono hHeld.size);clear hb HI hHeld;go_wp2_with fail;refine hK.out _ _ hSUaa (fun hHeld=> ?_);clear hK K hSUaa;refine tq 13 54 rfl hHeld ?_
    (try simp only[pu])
    refine trZ [14] (zaN.cons rfl (fun K hK=> ?_) zaN.nil);go_simp;have XN:=zaa (heap_alloc_new Uaa (.cells #[.iface 9 (.string ⟨([108,101,118,101,108]:List UInt8).toArray⟩),.iface 9 (.string ⟨(zaf zai x.level:List UInt8).toArray⟩),.iface 9 (.string ⟨([100,111]:List UInt8).toArray⟩),.iface 9 (.string ⟨(zaf zag x.do_:List UInt8).toArray⟩)] 20));have HOa:=zaa (HO.out.alloc (.cells #[.iface 9 (.string ⟨([108,101,118,101,108]:List UInt8).toArray⟩),.iface 9 (.string ⟨(zaf zai x.level:List UInt8).toArray⟩),.iface 9 (.string ⟨([100,111]:List UInt8).toArray⟩),.iface 9 (.string ⟨(zaf zag x.do_:List UInt8).toArray⟩)] 20));have hzU:=hHeld.size;refine hK.out _ _ (hHeld.alloc hHeld.size _) (fun hHeld1=> ?_);clear hK K hHeld HO
    (try simp only[pu])
    refine trZ [15] (zaN.cons rfl (fun K hK=> ?_) zaN.nil);refine zca _ rfl (.tmp 44) (.tmp 55) 174 rfl w0.heap.size 20 i0 _ 1 16 underlying174 hi0 hz0 hz1 hz2 rfl (by decide) _ 4 _ rfl HOa.out _ (some ⟨Uaa.heap.size,0,none⟩) 4 4 [.iface 9 (.string ⟨([108,101,118,101,108]:List UInt8).toArray⟩),.iface 9 (.string ⟨(zaf zai x.level:List UInt8).toArray⟩),.iface 9 (.string ⟨([100,111]:List UInt8).toArray⟩),.iface 9 (.string ⟨(zaf zag x.do_:List UInt8).toArray⟩)] rfl (zdX XN.out rfl) (by simp[Value.oneCell']) (by unfold maxLen;omega) (by omega) (by simp;omega) ?_;intro v5 wz hown5 hg5 hat5;have hSz:=Below.grown hHeld1 hg5 hHeld1.size (fun g e=>(zas HOa.out e).1);have HOz:=zaa (show wz.ownsRow w0.heap.size 20 1 v5 8 ((([.s [111,110],.s (zaf zal x.fault)]++[.s [109,111,100,117,108,101],.s x.module]:List Arg)++[.s ([108,101,118,101,108]),.s (zaf zai x.level),.s ([100,111]),.s (zaf zag x.do_)]:List Arg).map Arg.val) from hown5);clear hown5 hg5 hat5 XN HOa hHeld1;refine hK.out _ _ hSz (fun hHeld1=> ?_);clear hK K hSz
    (try simp only[Act.put,zgl])
    refine zan (by kernel_rfl) ?_;simp only[List.drop_succ_cons,List.drop_zero];have HBl:=zaa (HBR0.out.trans (hHeld1.mono hB0));have HKl:=zaa (HKR0.out.trans (.later hHeld1));have HPz:=zaa (HP0.out.later hHeld1);have HC:=zaa (zbx B b k8 _ 0 [59] _ (([.s [111,110],.s (zaf zal x.fault)]++[.s [109,111,100,117,108,101],.s x.module]:List Arg)++[.s ([108,101,118,101,108]),.s (zaf zai x.level),.s ([100,111]),.s (zaf zag x.do_)]:List Arg) _ HPz (zaa (zey HOz.out HPz.out)) (zaa (zh0 (za4 (za4 (za4 (za4 zbh)))) (za4 (za4 (za4 (za4 zbh)))))) (by simp) (by omega) (by simp) (by rw[List.length_append];rw[zaC,zaz,HA0.out] at hroom;simp only[List.cons_append,List.nil_append,HMO.out,HPA.out,if_true,if_false] at hroom ⊢;omega) (Nat.le_trans hB0 hHeld1.size) hGB (zaa (hE.out.keptB HBl.out hGB)));clear hHeld1 HOz HPz;go_wp2_with fail;refine HC.out.mono ?_;rintro e w9 ⟨rfl,h1,h2,h3⟩;have HP9:=zaa h1;have HB9:=zaa (HBl.out.trans h2);have HK9:=zaa (HKl.out.trans h3);clear h1 h2 h3 HC;go_wp2_with fail;go_roundw
    case rel=>exact⟨k+1,by omega,by go_num,by rw[zaq HX.out,←List.append_assoc,zaC,HA0.out];simp only[List.append_assoc,List.cons_append,List.nil_append,HMO.out,HPA.out,if_true,if_false];simpa only[List.append_assoc,List.cons_append,List.nil_append] using HP9.out,HB9.out,HK9.out⟩
    case measure=>simp[intOf];omega
   ·have hpa: ¬x.part=[]:=by simpa using hp
    have hie1:x.part.isEmpty=false:=by rw[List.isEmpty_eq_false_iff];exact hpa
    go_wp2_with(at_builtin;apply Hid.out)
    refine zaa ?_;refine wpList_append_own _ rfl _ _ 174 rfl w0.heap.size 20 i0 _ 1 16 underlying174 hi0 hz0 hz1 hz2 rfl (by decide) _ 2 _ rfl (HO.out.alloc _) ⟨wa.heap.size,0,none⟩ 2 2 [.iface 9 (.string ⟨([109,111,100,117,108,101]:List UInt8).toArray⟩),.iface 9 (.string ⟨x.module.toArray⟩)] rfl rfl (zaS (by simp)) (by simp[Value.oneCell']) (by unfold maxLen;omega) (by omega) (by simp;have:=HS.out.size;omega) ?_;intro v5 wb hown5 hg5 _;have hSz:=Below.grown (HS.out.alloc HS.out.size _) hg5 (HS.out.alloc HS.out.size _).size (fun g e=>(zas HO.out e).1);have HOz:=zaa (show wb.ownsRow w0.heap.size 20 1 v5 4 (([.s [111,110],.s (zaf zal x.fault)]++[.s [109,111,100,117,108,101],.s x.module]:List Arg).map Arg.val) from hown5);clear hown5 hg5 HO HS;have HO:=HOz;have HS:=zaa hSz;clear HOz hSz;have c0:=zad HS.out hxl 0 x0;have c1:=zad HS.out hxl 1 x1;go_wp2_with(at_builtin;apply Hid.out)
    refine zaa ?_;refine wpList_append_own _ rfl _ _ 174 rfl w0.heap.size 20 i0 _ 1 16 underlying174 hi0 hz0 hz1 hz2 rfl (by decide) _ 4 _ rfl (HO.out.alloc _) ⟨wb.heap.size,0,none⟩ 2 2 [.iface 9 (.string ⟨([112,97,114,116]:List UInt8).toArray⟩),.iface 9 (.string ⟨x.part.toArray⟩)] rfl rfl (zaS (by simp)) (by simp[Value.oneCell']) (by unfold maxLen;omega) (by omega) (by simp;have:=HS.out.size;omega) ?_;intro v5 wc hown5 hg5 _;have hSz:=Below.grown (HS.out.alloc HS.out.size _) hg5 (HS.out.alloc HS.out.size _).size (fun g e=>(zas HO.out e).1);have HOz:=zaa (show wc.ownsRow w0.heap.size 20 1 v5 6 (([.s [111,110],.s (zaf zal x.fault)]++[.s [109,111,100,117,108,101],.s x.module]++[.s [112,97,114,116],.s x.part]:List Arg).map Arg.val) from hown5);clear hown5 hg5 HO HS;have HO:=HOz;have HS:=zaa hSz;clear HOz hSz;have c0:=zad HS.out hxl 0 x0;have c1:=zad HS.out hxl 1 x1;have HMO:=zaa hmo;have HPA:=zaa hpa;clear hmo hpa;go_wp2_with fail;refine zak (S:=fun w'=>Below w0.heap.size w0 w') 16 (by kernel_rfl) (by kernel_rfl) HS.out.drew (fun hHeld=> ?_);replace HO:=zaa (show World.ownsRow (World.drew _) _ _ _ _ _ _ from HO.out);clear HS;generalize World.drew _=U at *;refine tq 0 41 rfl hHeld ?_;refine tq 1 42 rfl hHeld ?_;refine tq 2 43 rfl hHeld ?_;refine tq 3 44 rfl hHeld ?_;refine tq 4 45 rfl hHeld ?_;refine tq 5 46 rfl hHeld ?_
    (try simp only[pu])
    refine tyZ (v:= ?_) 6 47 rfl hHeld (fun v hS=> ?_) ?_;rotate_left
    ·have e0:=zad hS hxl 3 x3
     go_simp
     with_reducible rfl
    refine tq 9 50 rfl hHeld ?_;refine tq 10 51 rfl hHeld ?_
    (try simp only[pu])
    refine tyZ (v:= ?_) 11 52 rfl hHeld (fun v hS=> ?_) ?_;rotate_left
    ·have e0:=zad hS hxl 4 x4
     go_simp
     with_reducible rfl
    (try simp only[pu])
    refine trZ [7] (zaN.cons rfl (fun K hK=> ?_) zaN.nil);go_simp;have HI:=zaa (zdK x.level U (hP.out.keptB (HBR0.out.trans (hHeld.mono hB0)) hGP) hft.2.1);refine HI.out.mono ?_;rintro e Ua ⟨rfl,hb⟩;replace HO:=zaa (zaJ HO.out (fun g hg hbg=>hb.block g (zas HO.out hg).2));have hSUa:=hHeld.trans (hb.mono hHeld.size);clear hb HI hHeld;go_wp2_with fail;refine hK.out _ _ hSUa (fun hHeld=> ?_);clear hK K hSUa;refine tq 8 49 rfl hHeld ?_
    (try simp only[pu])
    refine trZ [12] (zaN.cons rfl (fun K hK=> ?_) zaN.nil);go_simp;have HI:=zaa (zdo x.do_ Ua (hP.out.keptB (HBR0.out.trans (hHeld.mono hB0)) hGP) hft.2.2);refine HI.out.mono ?_;rintro e Uaa ⟨rfl,hb⟩;replace HO:=zaa (zaJ HO.out (fun g hg hbg=>hb.block g (zas HO.out hg).2));have hSUaa:=hHeld.trans (hb.mono hHeld.size);clear hb HI hHeld;go_wp2_with fail;refine hK.out _ _ hSUaa (fun hHeld=> ?_);clear hK K hSUaa;refine tq 13 54 rfl hHeld ?_
    (try simp only[pu])
    refine trZ [14] (zaN.cons rfl (fun K hK=> ?_) zaN.nil);go_simp;have XN:=zaa (heap_alloc_new Uaa (.cells #[.iface 9 (.string ⟨([108,101,118,101,108]:List UInt8).toArray⟩),.iface 9 (.string ⟨(zaf zai x.level:List UInt8).toArray⟩),.iface 9 (.string ⟨([100,111]:List UInt8).toArray⟩),.iface 9 (.string ⟨(zaf zag x.do_:List UInt8).toArray⟩)] 20));have HOa:=zaa (HO.out.alloc (.cells #[.iface 9 (.string ⟨([108,101,118,101,108]:List UInt8).toArray⟩),.iface 9 (.string ⟨(zaf zai x.level:List UInt8).toArray⟩),.iface 9 (.string ⟨([100,111]:List UInt8).toArray⟩),.iface 9 (.string ⟨(zaf zag x.do_:List UInt8).toArray⟩)] 20));have hzU:=hHeld.size;refine hK.out _ _ (hHeld.alloc hHeld.size _) (fun hHeld1=> ?_);clear hK K hHeld HO
    (try simp only[pu])
    refine trZ [15] (zaN.cons rfl (fun K hK=> ?_) zaN.nil);refine zca _ rfl (.tmp 44) (.tmp 55) 174 rfl w0.heap.size 20 i0 _ 1 16 underlying174 hi0 hz0 hz1 hz2 rfl (by decide) _ 6 _ rfl HOa.out _ (some ⟨Uaa.heap.size,0,none⟩) 4 4 [.iface 9 (.string ⟨([108,101,118,101,108]:List UInt8).toArray⟩),.iface 9 (.string ⟨(zaf zai x.level:List UInt8).toArray⟩),.iface 9 (.string ⟨([100,111]:List UInt8).toArray⟩),.iface 9 (.string ⟨(zaf zag x.do_:List UInt8).toArray⟩)] rfl (zdX XN.out rfl) (by simp[Value.oneCell']) (by unfold maxLen;omega) (by omega) (by simp;omega) ?_;intro v5 wz hown5 hg5 hat5;have hSz:=Below.grown hHeld1 hg5 hHeld1.size (fun g e=>(zas HOa.out e).1);have HOz:=zaa (show wz.ownsRow w0.heap.size 20 1 v5 10 ((([.s [111,110],.s (zaf zal x.fault)]++[.s [109,111,100,117,108,101],.s x.module]++[.s [112,97,114,116],.s x.part]:List Arg)++[.s ([108,101,118,101,108]),.s (zaf zai x.level),.s ([100,111]),.s (zaf zag x.do_)]:List Arg).map Arg.val) from hown5);clear hown5 hg5 hat5 XN HOa hHeld1;refine hK.out _ _ hSz (fun hHeld1=> ?_);clear hK K hSz
    (try simp only[Act.put,zgl])
    refine zan (by kernel_rfl) ?_;simp only[List.drop_succ_cons,List.drop_zero];have HBl:=zaa (HBR0.out.trans (hHeld1.mono hB0));have HKl:=zaa (HKR0.out.trans (.later hHeld1));have HPz:=zaa (HP0.out.later hHeld1);have HC:=zaa (zbx B b k8 _ 0 [59] _ (([.s [111,110],.s (zaf zal x.fault)]++[.s [109,111,100,117,108,101],.s x.module]++[.s [112,97,114,116],.s x.part]:List Arg)++[.s ([108,101,118,101,108]),.s (zaf zai x.level),.s ([100,111]),.s (zaf zag x.do_)]:List Arg) _ HPz (zaa (zey HOz.out HPz.out)) (zaa (zh0 (za4 (za4 (za4 (za4 (za4 (za4 zbh)))))) (za4 (za4 (za4 (za4 zbh)))))) (by simp) (by omega) (by simp) (by rw[List.length_append];rw[zaC,zaz,HA0.out] at hroom;simp only[List.cons_append,List.nil_append,HMO.out,HPA.out,if_false] at hroom ⊢;omega) (Nat.le_trans hB0 hHeld1.size) hGB (zaa (hE.out.keptB HBl.out hGB)));clear hHeld1 HOz HPz;go_wp2_with fail;refine HC.out.mono ?_;rintro e w9 ⟨rfl,h1,h2,h3⟩;have HP9:=zaa h1;have HB9:=zaa (HBl.out.trans h2);have HK9:=zaa (HKl.out.trans h3);clear h1 h2 h3 HC;go_wp2_with fail;go_roundw
    case rel=>exact⟨k+1,by omega,by go_num,by rw[zaq HX.out,←List.append_assoc,zaC,HA0.out];simp only[List.append_assoc,List.cons_append,List.nil_append,HMO.out,HPA.out,if_false];simpa only[List.append_assoc,List.cons_append,List.nil_append] using HP9.out,HB9.out,HK9.out⟩
    case measure=>simp[intOf];omega
theorem zlx (B b:Nat) (k8:C8) (L:List UInt8) (l:List zaF) (W:World) (h:Hid (zb6 B b k8 L W)) (hv:Hid (DAt W (fun g=>g<B) k8.c6 (.row 3 (l.map zaF.cells)))) (hF:Hid (l.all zch=true)) (hlen:L.length+(zap zbg l).length≤1000000) (hnl:l.length≤140737488355328) (hBw:B≤W.heap.size) (hGB:8≤B) (hE:Hid (Env W)) (_hGP:2≤B) (_hP:Hid (zcT W)) (hfit: ∀y∈l,zbR y):
 Calls prog 77 #[.pointer (some ⟨b,0,none⟩)] W fun e w'=>e= .returned (.tuple #[])∧zb6 B b k8 (L++zap zbg l) w'∧Below B W w'∧PrK b W w':=by
 obtain⟨A,c,ek,hA⟩:=hv.out.sliceG;have HA:=zaa hA;rw[List.length_map] at ek;clear hA hv;have cb:W.cell? ⟨b,8,none⟩=some (.slice A l.length c):=(h.out.cell 6 (by decide)).trans (congrArg some ek);clear ek;have HL:=zaa hlen;clear hlen
 go_enter func77,ntmps77
 go_wp2_with fail;clear cb
 go_loopw [11] (fun v wr=> ∃k:Nat,k≤l.length∧v= .int .i64 k∧zb6 B b k8 (L++zap zbg (l.take k)) wr∧Below B W wr∧PrK b W wr) (fun v _=>l.length-(intOf v).toNat)
 case atStart=>exact⟨0,by omega,rfl,by rw[zbl,List.append_nil];exact h.out,Below.refl _ _,PrK.refl _ _⟩
 case round=>
  obtain⟨k,hk,rfl,hp,hbr,hkr⟩:=hrel;have HP:=zaa hp;have HBR:=zaa hbr;have HKR:=zaa hkr;clear hp hbr hkr h;by_cases hlt:k<l.length
  rotate_left
  ·obtain rfl:k=l.length:=by omega
   rw[List.take_length] at HP;clear hlt;go_wp2_with fail
   go_end0
   exact⟨rfl,HP.out,HBR.out,HKR.out⟩
  obtain⟨x,hx⟩:=zbE hlt;obtain⟨g,off,rfl,hG,hg,hca⟩:=(HA.out.keep HBR.out).at_ hx;obtain⟨u0,c0,g0⟩:=hca 0 _ rfl;obtain rfl:=g0.leaf_eq;obtain⟨u1,c1,g1⟩:=hca 1 _ rfl;have HG1:=zaa g1;obtain⟨A1,q1,rfl, -⟩:=g1.sliceG;rw[List.length_map] at HG1 c1;obtain⟨u2,c2,g2⟩:=hca 2 _ rfl;have HG2:=zaa g2;obtain⟨A2,q2,rfl, -⟩:=g2.sliceG;rw[show(zao x.but).length=x.but.length from by simp[zao]] at HG2 c2;clear hca g0 g1 g2;simp only[zav] at c0 c1 c2;rw[Nat.add_zero] at c0;have k0:=kbZ k l.length;have HFx:=zaa (List.all_eq_true.1 hF.out x (List.mem_of_getElem? hx));have HX:=zaa hx;have hroom:=zat (f:=zbg) hx;have hL:=HL.out;clear hx;have HXb:=zaa (heap_alloc_new wr (.cells #[.string ⟨x.unit.toArray⟩,.slice A1 x.needs.length q1,.slice A2 x.but.length q2] 65));have HBA:=zaa ((Below.refl wr.heap.size wr).alloc (Nat.le_refl _) (.cells #[.string ⟨x.unit.toArray⟩,.slice A1 x.needs.length q1,.slice A2 x.but.length q2] 65));have hxl:wr.heap.size<(wr.alloc (.cells #[.string ⟨x.unit.toArray⟩,.slice A1 x.needs.length q1,.slice A2 x.but.length q2] 65)).heap.size:=by simp
  have hft:=hfit x (List.mem_of_getElem? HX.out);go_wp2_with fail;clear c0 c1 c2;generalize wr.alloc _=w0 at *;have HP0:=zaa (HP.out.later HBA.out);have HKR0:=zaa (HKR.out.trans (.later HBA.out));have hBr:B≤wr.heap.size:=Nat.le_trans hBw HBR.out.size;have HBR0:=zaa (HBR.out.trans (HBA.out.mono hBr));have hB0:B≤w0.heap.size:=Nat.le_trans hBw HBR0.out.size;obtain⟨x0,x1,x2⟩:=pf3Z HXb.out rfl;have hq:=HFx.out;simp only[zch,Bool.and_eq_true] at hq;have hr:=zaa hq.2.2;clear hq;have hroom2:=hroom;rw[zbg,zaz,zes] at hroom2;have r1:(zdk x.needs).length≤1000000∧(x.but≠[]→(Lib.join x.but zcZ).length≤1000000):=by
   split at hroom2<;>rename_i hbut<;>simp only[zbK,Arg.txt,List.map_cons,List.map_nil,List.flatten_cons,List.flatten_nil,List.length_append,List.length_cons,List.length_nil,List.append_nil,List.cons_append,List.nil_append] at hroom2
   ·exact⟨by omega,fun h=>absurd hbut h⟩
   ·exact⟨by omega,fun _=>by omega⟩
  clear hroom2;obtain⟨i0,hi0,hz0,hz1,hz2⟩:=info_parts zfE;refine zak (S:=fun w'=>Below w0.heap.size w0 w') 9 (by kernel_rfl) (by kernel_rfl) (Below.refl _ _).drew (fun hHeld=> ?_);generalize w0.drew=U at *;refine tq 0 15 rfl hHeld ?_;refine tq 1 16 rfl hHeld ?_
  (try simp only[pu])
  refine tyZ (v:= ?_) 2 17 rfl hHeld (fun v hS=> ?_) ?_;rotate_left
  ·have e0:=zad hS hxl 0 x0
   go_simp
   with_reducible rfl
  refine tq 3 18 rfl hHeld ?_;refine tq 4 19 rfl hHeld ?_;refine tq 5 20 rfl hHeld ?_
  (try simp only[pu])
  refine tyZ (v:= ?_) 6 21 rfl hHeld (fun v hS=> ?_) ?_;rotate_left
  ·have e0:=zad hS hxl 1 x1
   go_simp
   with_reducible rfl
  (try simp only[pu])
  refine trZ [7] (zaN.cons rfl (fun K hK=> ?_) zaN.nil);go_simp;have HI:=zaa (zja (.slice A1 x.needs.length q1) x.needs U (zaa (((HG1.out.lateG (HBA.out.mono hBr)).lateG (hHeld.mono hB0)).mono (fun _ _ _=>trivial))) r1.1 hr (Nat.le_trans hGB (Nat.le_trans hB0 hHeld.size)) (zaa (hE.out.keptB (HBR0.out.trans (hHeld.mono hB0)) hGB)));refine HI.out.mono ?_;rintro e Ua ⟨rfl,hb⟩;have hSUa:=hHeld.trans (hb.mono hHeld.size);clear hb HI hHeld;go_wp2_with fail;refine hK.out _ _ hSUa (fun hHeld=> ?_);clear hK K hSUa;refine tq 8 23 rfl hHeld ?_
  (try simp only[pu])
  refine zan (by kernel_rfl) ?_;simp only[List.drop_succ_cons,List.drop_zero];have HS1:=zaa hHeld;clear hHeld;have HO:=zaa (World.ownsRow_lit (base:=w0.heap.size) (e:=20) (size:=1) Ua #[.iface 9 (.string ⟨([99,97,117,115,101]:List UInt8).toArray⟩),.iface 9 (.string ⟨(x.unit:List UInt8).toArray⟩),.iface 9 (.string ⟨([110,101,101,100,115]:List UInt8).toArray⟩),.iface 9 (.string ⟨(zdk x.needs:List UInt8).toArray⟩)] 4 HS1.out.size (by unfold maxLen;omega) rfl);have HS:=zaa (HS1.out.alloc HS1.out.size (.cells #[.iface 9 (.string ⟨([99,97,117,115,101]:List UInt8).toArray⟩),.iface 9 (.string ⟨(x.unit:List UInt8).toArray⟩),.iface 9 (.string ⟨([110,101,101,100,115]:List UInt8).toArray⟩),.iface 9 (.string ⟨(zdk x.needs:List UInt8).toArray⟩)] 20));have c2:=zad HS.out hxl 2 x2;go_upto_region 4 with fail
  generalize Ua.alloc _=wa at *;have hzU:=HS.out.size;by_cases hbu:x.but=[]
  ·have hn0:x.but.length=0:=by rw[hbu];rfl
   rw[hn0] at c2;go_wp2_with fail;replace HO:=zaa (show World.ownsRow _ _ _ _ _ _ (([.s ([99,97,117,115,101]),.s (x.unit),.s ([110,101,101,100,115]),.s (zdk x.needs)]:List Arg).map Arg.val) from HO.out);have HBl:=zaa (HBR0.out.trans (HS.out.mono hB0));have HKl:=zaa (HKR0.out.trans (.later HS.out));have HPz:=zaa (HP0.out.later HS.out);have HC:=zaa (zbx B b k8 _ 0 [59] _ ([.s ([99,97,117,115,101]),.s (x.unit),.s ([110,101,101,100,115]),.s (zdk x.needs)]:List Arg) _ HPz (zaa (zey HO.out HPz.out)) (zaa (za4 (za4 (za4 (za4 zbh))))) (by simp) (by omega) (by simp) (by rw[List.length_append];rw[zbg,zaz,zes] at hroom;simp only[List.append_nil,hbu,if_true] at hroom ⊢;omega) (Nat.le_trans hB0 HS.out.size) hGB (zaa (hE.out.keptB HBl.out hGB)));go_wp2_with fail;refine HC.out.mono ?_;rintro e w9 ⟨rfl,h1,h2,h3⟩;have HP9:=zaa h1;have HB9:=zaa (HBl.out.trans h2);have HK9:=zaa (HKl.out.trans h3);clear h1 h2 h3 HC;go_wp2_with fail;go_roundw
   case rel=>exact⟨k+1,by omega,by go_num,by rw[zaq HX.out,←List.append_assoc,zbg,zes];simp only[List.append_nil,hbu,if_true];simpa only[List.cons_append,List.nil_append,List.append_nil] using HP9.out,HB9.out,HK9.out⟩
   case measure=>simp[intOf];omega
  ·have hn0:0<x.but.length:=List.length_pos_iff.2 hbu
   have hn1:(0:Int)<(x.but.length:Int):=by omega
   go_wp2_with fail;have HJ:=zaa (zek zcZ (((HG2.out.lateG (HBA.out.mono hBr)).lateG (HS.out.mono hB0)).mono (fun _ _ _=>trivial)) (by have:=hft.2;omega) (by have:=r1.2 hbu;omega));refine HJ.out.mono ?_;rintro e w3 ⟨rfl,hb⟩;replace HO:=zaa (zaJ HO.out (fun g hg hbg=>hb.block g (zas HO.out hg).2));replace HS:=zaa (btZ HS.out hb);clear hb HJ;go_wp2_with(at_builtin;apply Hid.out)
   refine zaa ?_;refine wpList_append_own _ rfl _ _ 174 rfl w0.heap.size 20 i0 _ 1 16 underlying174 hi0 hz0 hz1 hz2 rfl (by decide) _ 4 _ rfl (HO.out.alloc _) ⟨w3.heap.size,0,none⟩ 2 2 [.iface 9 (.string ⟨([117,110,108,101,115,115]:List UInt8).toArray⟩),.iface 9 (.string ⟨(Lib.join x.but zcZ).toArray⟩)] rfl rfl (zaS (by simp)) (by simp[Value.oneCell']) (by unfold maxLen;omega) (by omega) (by simp;have:=HS.out.size;omega) ?_;intro v5 wz hown5 hg5 _;have hSz:=Below.grown (HS.out.alloc HS.out.size _) hg5 (HS.out.alloc HS.out.size _).size (fun g e=>(zas HO.out e).1);have HOz:=zaa (show wz.ownsRow w0.heap.size 20 1 v5 6 (([.s ([99,97,117,115,101]),.s (x.unit),.s ([110,101,101,100,115]),.s (zdk x.needs)]++[.s [117,110,108,101,115,115],.s (Lib.join x.but zcZ)]:List Arg).map Arg.val) from hown5);clear hown5 hg5 HO HS;have HO:=HOz;have HS:=zaa hSz;clear HOz hSz;go_wp2_with fail;have HBl:=zaa (HBR0.out.trans (HS.out.mono hB0));have HKl:=zaa (HKR0.out.trans (.later HS.out));have HPz:=zaa (HP0.out.later HS.out);have HC:=zaa (zbx B b k8 _ 0 [59] _ ([.s ([99,97,117,115,101]),.s (x.unit),.s ([110,101,101,100,115]),.s (zdk x.needs)]++[.s [117,110,108,101,115,115],.s (Lib.join x.but zcZ)]:List Arg) _ HPz (zaa (zey HO.out HPz.out)) (zaa (za4 (za4 (za4 (za4 (za4 (za4 zbh))))))) (by simp) (by omega) (by simp) (by rw[List.length_append];rw[zbg,zaz,zes] at hroom;simp only[List.cons_append,List.nil_append,hbu,if_false] at hroom ⊢;omega) (Nat.le_trans hB0 HS.out.size) hGB (zaa (hE.out.keptB HBl.out hGB)));go_wp2_with fail;refine HC.out.mono ?_;rintro e w9 ⟨rfl,h1,h2,h3⟩;have HP9:=zaa h1;have HB9:=zaa (HBl.out.trans h2);have HK9:=zaa (HKl.out.trans h3);clear h1 h2 h3 HC;go_wp2_with fail;go_roundw
   case rel=>exact⟨k+1,by omega,by go_num,by rw[zaq HX.out,←List.append_assoc,zbg,zes];simp only[List.cons_append,List.nil_append,hbu,if_false];simpa only[List.cons_append,List.nil_append,List.append_nil] using HP9.out,HB9.out,HK9.out⟩
   case measure=>simp[intOf];omega
end Go.Proofs.YtgbfaompondolaaGreatDoor
