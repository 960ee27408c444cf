/- Merged texts of the walks and of the plain laws on which the statement leans.-/
import Derived.Test.YtgbfaompondolaaGreatDoorPk1
import Derived.Test.YtgbfaompondolaaGreatDoorPk27
import Derived.Laws.MakeOwn
import Derived.Deep.AppendLies
set_option maxHeartbeats 4000000
set_option maxRecDepth 100000
namespace Go.Proofs.YtgbfaompondolaaGreatDoor
open Go.RowKit
attribute [local go_sem] zal.cell
theorem zhu:(Tryz.prog.info? 53).map (fun i=>(i.zero,i.size,i.bytes))=some (some (.agg #[.string ⟨#[]⟩,.int .i64 0,.int .i64 0,.int .i64 0,.slice none 0 0]),5,64):=by kernel_rfl
def zcR (i:Nat):List Value:=[.string ⟨#[]⟩,.int .i64 (mkI 1 (i:Int)),.int .i64 0,.int .i64 0,.slice none 0 0]
theorem zmP (n:Nat) (h:n≤1000000) (W:World):(Instr.makeSlice 47 (.int .i64 0) (.int .i64 ((n:Int)+12))).run Tryz.prog W= .ok (.slice (some ⟨W.heap.size,0,none⟩) 0 (n+12)) (W.alloc (.cells (madeCells (Value.cells (.agg #[.string ⟨#[]⟩,.int .i64 0,.int .i64 0,.int .i64 0,.slice none 0 0])) ((n+12)*5)) 53)):=by
 obtain⟨i0,hi,hz0,hz1,hz2⟩:=info_parts zhu
 have:=run_make (P:=Tryz.prog) W 47 53 i0 (.agg #[.string ⟨#[]⟩,.int .i64 0,.int .i64 0,.int .i64 0,.slice none 0 0]) Tryz.underlying47 hi hz0 .i64 .i64 0 ((n:Int)+12) (by omega) (by omega) (by rw[hz2];omega) (by omega)
 rw[hz1,show((n:Int)+12).toNat=n+12 by omega] at this
 exact this
theorem ziN (v:Value) (l:List zaY) (w:World) (hv:Hid (DAt w (fun _=>True) v (.row 5 (l.map zaY.cells)))) (hn:l.length≤1000000) (hl: ∀x∈l,x.code.length≤1000000):
 Calls Tryz.prog 277 #[v] w fun e w'=>zbL 5 (zar zcR) zdo w l e w':=by
 obtain⟨i0,hi0,hz0,hz1,hz2⟩:=info_parts zhu
 obtain⟨A,q,rfl,hA⟩:=hv.out.slice
 have HA:=zaa hA
 rw[List.length_map] at hv ⊢
 have hmk:=fun W=>zmP l.length hn W
 have HOW0:Hid ((w.alloc (.cells (madeCells #[.string ⟨#[]⟩,.int .i64 0,.int .i64 0,.int .i64 0,.slice none 0 0] ((l.length+12)*5)) 53)).ownsRow w.heap.size 53 5 (.slice (some ⟨w.heap.size,0,none⟩) 0 (l.length+12)) 0 []):=zaa (World.ownsRow_made (base:=w.heap.size) (e:=53) (size:=5) w (madeCells #[.string ⟨#[]⟩,.int .i64 0,.int .i64 0,.int .i64 0,.slice none 0 0] ((l.length+12)*5)) (l.length+12) (Nat.le_refl _) (by unfold maxLen;omega) (by simp[madeCells]))
 have HB0:=zaa ((Below.refl w.heap.size w).alloc (Nat.le_refl _) (.cells (madeCells #[.string ⟨#[]⟩,.int .i64 0,.int .i64 0,.int .i64 0,.slice none 0 0] ((l.length+12)*5)) 53))
 clear hA hv
 go_enter Tryz.func277,Tryz.ntmps277
 go_wp2_with fail
 generalize w.alloc (.cells (madeCells #[.string ⟨#[]⟩,.int .i64 0,.int .i64 0,.int .i64 0,.slice none 0 0] ((l.length+12)*5)) 53)=w0 at *
 clear hmk
 have HLB0:Hid (LB zdo w0 w.heap.size 53 5 (.slice (some ⟨w.heap.size,0,none⟩) 0 (l.length+12)) l []):=zaa ⟨HOW0.out,fun i r x hr _=>by simp at hr⟩
 clear HOW0
 go_loopw [3,4] (fun v3 v4 wr=> ∃(k:Nat) (rs:List (List Value)),k≤l.length∧v4= .int .i64 k∧rs.length=k∧LB zdo wr w.heap.size 53 5 v3 l rs∧Below w.heap.size w wr) (fun _ v4 _=>l.length-(intOf v4).toNat)
 case atStart=>exact⟨0,[],by omega,rfl,rfl,HLB0.out,HB0.out⟩
 case round=>
  obtain⟨k,rs,hk,rfl,hrl,hlb,hbr⟩:=hrel
  have HLB:=zaa hlb
  have HBR:=zaa hbr
  have HRL:=zaa hrl
  clear hlb hbr hrl HLB0 HB0
  by_cases hlt:k<l.length
  ·skip
   obtain⟨x,hx⟩:=za9 hlt
   have hlx:=hl x (List.mem_of_getElem? hx)
   obtain⟨bA,oA,rfl,hbA,hcaA⟩:=HA.out.at_ hx
   have a0:=zan HBR.out hbA (oA+k*5) (hcaA 0 _ rfl).leafc
   have a1:=zan HBR.out hbA (oA+k*5+1) (hcaA 1 _ rfl).leafc
   have a2:=zan HBR.out hbA (oA+k*5+2) (hcaA 2 _ rfl).leafc
   have a3:=zan HBR.out hbA (oA+k*5+3) (hcaA 3 _ rfl).leafc
   obtain⟨uA4,cA4,gA4⟩:=hcaA 4 _ rfl
   have a4:=zat HBR.out hbA cA4
   have HU4:=zaa gA4
   obtain⟨A4,p4,rfl, -⟩:=gA4.slice
   clear cA4 gA4
   simp only[List.length_map] at HU4 a4
   clear hcaA
   simp only[zaF] at a0
   have k0:=kbZ k l.length
   have HX:=zaa hx
   have HC:=zaa (zh1 x [.string ⟨x.name.toArray⟩,.int .i64 x.prio,.int .i64 x.period,.int .i64 x.limit,.slice A4 x.code.length p4] wr (zaa (zab.cons (.leaf _) (zab.cons (.leaf _) (zab.cons (.leaf _) (zab.cons (.leaf _) (zab.cons (HU4.out.later HBR.out) (zab.nil))))))) hlx)
   clear hx hlx
   go_wp2_with fail
   refine HC.out.mono ?_
   rintro e w1 ⟨r,rfl,hE,hb⟩
   have HE:=zaa hE
   obtain⟨u4,rfl,hu4⟩:=hE
   obtain⟨g4,c4,heq4⟩: ∃g c,u4= .slice (some ⟨g,0,none⟩) x.code.length c:=by obtain⟨g,c,rows,e, -⟩:=hu4;exact⟨g,c,e⟩
   subst heq4
   clear hu4
   simp only[zaF] at HE ⊢
   have HB3:=zaa (btZ HBR.out hb)
   have HLB1:=zaa ((HLB.out.below zbl hb).below zbl (((Below.refl w1.heap.size w1).alloc (Nat.le_refl _) (.cells #[.string ⟨x.name.toArray⟩,.int .i64 x.prio,.int .i64 x.period,.int .i64 x.limit,.slice (some ⟨g4,0,none⟩) x.code.length c4] 53)).trans (((Below.refl (w1.alloc (.cells #[.string ⟨x.name.toArray⟩,.int .i64 x.prio,.int .i64 x.period,.int .i64 x.limit,.slice (some ⟨g4,0,none⟩) x.code.length c4] 53)).heap.size (w1.alloc (.cells #[.string ⟨x.name.toArray⟩,.int .i64 x.prio,.int .i64 x.period,.int .i64 x.limit,.slice (some ⟨g4,0,none⟩) x.code.length c4] 53))).alloc (Nat.le_refl _) (.cells #[.string ⟨x.name.toArray⟩,.int .i64 x.prio,.int .i64 x.period,.int .i64 x.limit,.slice (some ⟨g4,0,none⟩) x.code.length c4] 53)).mono (by simp))))
   have HE1:=zaa (zbl.keep _ _ _ _ _ (by simp<;>omega) (fun b _ hl=>(Below.heap_alloc _ _ _ (by simp<;>omega)).trans (Below.heap_alloc _ _ _ hl)) (zbl.mono _ _ (fun b=>w.heap.size≤b∧_≠some b) _ _ (fun b hb2 _=>⟨Nat.le_trans HBR.out.size hb2,fun e=>by have h1:=(zav HLB.out.own e).2;have h2:wr.heap.size≤b:=hb2;omega⟩) HE.out):zdo ((w1.alloc (.cells #[.string ⟨x.name.toArray⟩,.int .i64 x.prio,.int .i64 x.period,.int .i64 x.limit,.slice (some ⟨g4,0,none⟩) x.code.length c4] 53)).alloc (.cells #[.string ⟨x.name.toArray⟩,.int .i64 x.prio,.int .i64 x.period,.int .i64 x.limit,.slice (some ⟨g4,0,none⟩) x.code.length c4] 53)) _ _ _)
   have hz1':=HB3.out.size
   clear hb HC HE HLB
   go_wp2_with(first
    |(at_builtin;refine wpList_append_lies _ rfl _ _ 47 rfl w.heap.size 53 i0 _ 5 64 Tryz.underlying47 hi0 hz0 hz1 hz2 rfl (by decide) _ _ _ rfl HLB1.out.own ⟨w1.heap.size+1,0,none⟩ 1 1 [.string ⟨x.name.toArray⟩,.int .i64 x.prio,.int .i64 x.period,.int .i64 x.limit,.slice (some ⟨g4,0,none⟩) x.code.length c4] rfl rfl (zaU (by simp)) (by simp[Value.oneCell']) (by decide) (by have:=HRL.out;unfold maxLen;omega) (by have:=HRL.out;omega) (by simp;omega) _ rfl ?_;intro g cap w5 hown' hgrow hat _))
   have HB5:=zaa (HB3.out.trans (Below.grown (((Below.refl _ w1).alloc hz1' _).alloc (by simp;omega) _) hgrow (by simp;omega) (fun g hg=>(zav HLB1.out.own hg).1)))
   have HLB5:=zaa (HLB1.out.push zbl hown' (by omega) hgrow hat (fun y hy=>by rw[HRL.out,HX.out] at hy;obtain rfl:=Option.some.inj hy;exact HE1.out))
   clear hown' hgrow hat HLB1 HE1
   go_wp2_with fail
   go_roundw
   case rel=>exact⟨k+1,_,by omega,by go_num,by simp[HRL.out],HLB5.out,HB5.out⟩
   case measure=>simp[intOf];omega
  ·obtain rfl:k=l.length:=by omega
   have HLB0:=HLB
   have HB0:=HBR
   clear HLB HBR HA hlt hk
   go_wp2_with fail
   go_loopw [3,6] (fun v3 v6 wr=> ∃k:Nat,k≤12∧v6= .int .i64 k∧LB zdo wr w.heap.size 53 5 v3 l (rs++(List.range k).map zcR)∧Below w.heap.size w wr) (fun _ v6 _=>12-(intOf v6).toNat)
   case atStart=>exact⟨0,by omega,rfl,by simpa using HLB0.out,HB0.out⟩
   case round=>
    obtain⟨k,hk,rfl,hlb,hbr⟩:=hrel
    have HLB:=zaa hlb
    have HBR:=zaa hbr
    clear hlb hbr HLB0 HB0
    by_cases hlt:k<12
    ·have HM:=zaa (zlv k wr hlt)
     generalize hm:mkI 1 (k:Int)=m at HM
     have hm2:=zaa hm
     clear hm
     go_wp2_with fail
     refine HM.out.mono ?_
     rintro e w3 ⟨rfl,hb3⟩
     have HB3:=zaa (btZ HBR.out hb3)
     have hz3:=HB3.out.size
     have HLB3:=zaa ((HLB.out.below zbl hb3).below zbl ((Below.refl w3.heap.size w3).alloc (Nat.le_refl _) (.cells #[.string ⟨#[]⟩,.int .i64 (m),.int .i64 0,.int .i64 0,.slice none 0 0] 53)))
     clear hb3 HM HLB
     go_wp2_with(first
      |(at_builtin;refine wpList_append_lies _ rfl _ _ 47 rfl w.heap.size 53 i0 _ 5 64 Tryz.underlying47 hi0 hz0 hz1 hz2 rfl (by decide) _ _ _ rfl HLB3.out.own ⟨w3.heap.size,0,none⟩ 1 1 [.string ⟨#[]⟩,.int .i64 (m),.int .i64 0,.int .i64 0,.slice none 0 0] rfl rfl (zaU (by simp)) (by simp[Value.oneCell']) (by decide) (by have:=HRL.out;simp only[List.length_append,List.length_map,List.length_range];unfold maxLen;omega) (by have:=HRL.out;simp only[List.length_append,List.length_map,List.length_range];omega) (by simp;exact Nat.le_succ_of_le hz3) _ rfl ?_;intro g cap w5 hown' hgrow hat _))
     have HB5:=zaa (HB3.out.trans (Below.grown ((Below.refl _ w3).alloc hz3 _) hgrow (by simp;exact Nat.le_succ_of_le hz3) (fun g hg=>(zav HLB3.out.own hg).1)))
     have HLB5:=zaa (show LB zdo w5 w.heap.size 53 5 _ l (rs++(List.range (k+1)).map zcR) by
      rw[List.range_succ,List.map_append,←List.append_assoc,List.map_singleton,show zcR k=[.string ⟨#[]⟩,.int .i64 (m),.int .i64 0,.int .i64 0,.slice none 0 0] from by unfold zcR;rw[hm2.out]]
      exact HLB3.out.push zbl hown' rfl hgrow hat (fun y hy=>absurd hy (by rw[List.getElem?_eq_none (by have:=HRL.out;simp only[List.length_append,List.length_map,List.length_range];omega)];exact nofun)))
     clear hown' hgrow hat HLB3
     go_wp2_with fail
     go_roundw
     case rel=>exact⟨k+1,by omega,by go_num,by have h:=HLB5.out;simp only[List.length_append,List.length_map,List.length_range] at h;exact h,HB5.out⟩
     case measure=>simp[intOf];omega
    ·obtain rfl:k=12:=by omega
     obtain⟨g,c,hvv,hc1,hc2,hLL⟩:=LB.lent (ms:=zar zcR) zbl HLB.out HRL.out (by simp[zar])
     have HL:=zaa hLL
     subst hvv
     unfold maxLen at hc2
     clear hLL HLB
     go_wp2_with fail
     go_ret
     exact zbL.mk _ rfl HL.out HBR.out
theorem zhv:(Tryz.prog.info? 58).map (fun i=>(i.zero,i.size,i.bytes))=some (some (.agg #[.string ⟨#[]⟩,.string ⟨#[]⟩,.string ⟨#[]⟩,.slice none 0 0]),4,72):=by kernel_rfl
def zcT (i:Nat):List Value:=[.string ⟨#[]⟩,.string ⟨#[]⟩,.string (mkS i),.slice none 0 0]
theorem zmM (n:Nat) (h:n≤1000000) (W:World):(Instr.makeSlice 23 (.int .i64 0) (.int .i64 ((n:Int)+12))).run Tryz.prog W= .ok (.slice (some ⟨W.heap.size,0,none⟩) 0 (n+12)) (W.alloc (.cells (madeCells (Value.cells (.agg #[.string ⟨#[]⟩,.string ⟨#[]⟩,.string ⟨#[]⟩,.slice none 0 0])) ((n+12)*4)) 58)):=by
 obtain⟨i0,hi,hz0,hz1,hz2⟩:=info_parts zhv
 have:=run_make (P:=Tryz.prog) W 23 58 i0 (.agg #[.string ⟨#[]⟩,.string ⟨#[]⟩,.string ⟨#[]⟩,.slice none 0 0]) Tryz.underlying23 hi hz0 .i64 .i64 0 ((n:Int)+12) (by omega) (by omega) (by rw[hz2];omega) (by omega)
 rw[hz1,show((n:Int)+12).toNat=n+12 by omega] at this
 exact this
theorem ziH (v:Value) (l:List zbd) (w:World) (hv:Hid (DAt w (fun _=>True) v (.row 4 (l.map zbd.cells)))) (hn:l.length≤1000000) (hl: ∀x∈l,x.to.length≤1000000):
 Calls Tryz.prog 26 #[v] w fun e w'=>zbL 4 (zar zcT) zdv w l e w':=by
 obtain⟨i0,hi0,hz0,hz1,hz2⟩:=info_parts zhv
 obtain⟨A,q,rfl,hA⟩:=hv.out.slice
 have HA:=zaa hA
 rw[List.length_map] at hv ⊢
 have hmk:=fun W=>zmM l.length hn W
 have HOW0:Hid ((w.alloc (.cells (madeCells #[.string ⟨#[]⟩,.string ⟨#[]⟩,.string ⟨#[]⟩,.slice none 0 0] ((l.length+12)*4)) 58)).ownsRow w.heap.size 58 4 (.slice (some ⟨w.heap.size,0,none⟩) 0 (l.length+12)) 0 []):=zaa (World.ownsRow_made (base:=w.heap.size) (e:=58) (size:=4) w (madeCells #[.string ⟨#[]⟩,.string ⟨#[]⟩,.string ⟨#[]⟩,.slice none 0 0] ((l.length+12)*4)) (l.length+12) (Nat.le_refl _) (by unfold maxLen;omega) (by simp[madeCells]))
 have HB0:=zaa ((Below.refl w.heap.size w).alloc (Nat.le_refl _) (.cells (madeCells #[.string ⟨#[]⟩,.string ⟨#[]⟩,.string ⟨#[]⟩,.slice none 0 0] ((l.length+12)*4)) 58))
 clear hA hv
 go_enter Tryz.func26,Tryz.ntmps26
 go_wp2_with fail
 generalize w.alloc (.cells (madeCells #[.string ⟨#[]⟩,.string ⟨#[]⟩,.string ⟨#[]⟩,.slice none 0 0] ((l.length+12)*4)) 58)=w0 at *
 clear hmk
 have HLB0:Hid (LB zdv w0 w.heap.size 58 4 (.slice (some ⟨w.heap.size,0,none⟩) 0 (l.length+12)) l []):=zaa ⟨HOW0.out,fun i r x hr _=>by simp at hr⟩
 clear HOW0
 go_loopw [3,4] (fun v3 v4 wr=> ∃(k:Nat) (rs:List (List Value)),k≤l.length∧v4= .int .i64 k∧rs.length=k∧LB zdv wr w.heap.size 58 4 v3 l rs∧Below w.heap.size w wr) (fun _ v4 _=>l.length-(intOf v4).toNat)
 case atStart=>exact⟨0,[],by omega,rfl,rfl,HLB0.out,HB0.out⟩
 case round=>
  obtain⟨k,rs,hk,rfl,hrl,hlb,hbr⟩:=hrel
  have HLB:=zaa hlb
  have HBR:=zaa hbr
  have HRL:=zaa hrl
  clear hlb hbr hrl HLB0 HB0
  by_cases hlt:k<l.length
  ·skip
   obtain⟨x,hx⟩:=za9 hlt
   have hlx:=hl x (List.mem_of_getElem? hx)
   obtain⟨bA,oA,rfl,hbA,hcaA⟩:=HA.out.at_ hx
   have a0:=zan HBR.out hbA (oA+k*4) (hcaA 0 _ rfl).leafc
   have a1:=zan HBR.out hbA (oA+k*4+1) (hcaA 1 _ rfl).leafc
   have a2:=zan HBR.out hbA (oA+k*4+2) (hcaA 2 _ rfl).leafc
   obtain⟨uA3,cA3,gA3⟩:=hcaA 3 _ rfl
   have a3:=zat HBR.out hbA cA3
   have HU3:=zaa gA3
   obtain⟨A3,p3,rfl, -⟩:=gA3.slice
   clear cA3 gA3
   simp only[List.length_map] at HU3 a3
   clear hcaA
   simp only[zaF] at a0 a1 a2
   have k0:=kbZ k l.length
   have HX:=zaa hx
   have HC:=zaa (zhD x [.string ⟨x.from_.m.toArray⟩,.string ⟨x.from_.p.toArray⟩,.string ⟨x.from_.o.toArray⟩,.slice A3 x.to.length p3] wr (zaa (zab.cons (.leaf _) (zab.cons (.leaf _) (zab.cons (.leaf _) (zab.cons (HU3.out.later HBR.out) (zab.nil)))))) hlx)
   clear hx hlx
   go_wp2_with fail
   refine HC.out.mono ?_
   rintro e w1 ⟨r,rfl,hE,hb⟩
   have HE:=zaa hE
   obtain⟨u3,rfl,hu3⟩:=hE
   obtain⟨g3,c3,heq3⟩: ∃g c,u3= .slice (some ⟨g,0,none⟩) x.to.length c:=by obtain⟨g,c,rows,e, -⟩:=hu3;exact⟨g,c,e⟩
   subst heq3
   clear hu3
   simp only[zaF] at HE ⊢
   have HB3:=zaa (btZ HBR.out hb)
   have HLB1:=zaa ((HLB.out.below zaQ hb).below zaQ (((Below.refl w1.heap.size w1).alloc (Nat.le_refl _) (.cells #[.string ⟨x.from_.m.toArray⟩,.string ⟨x.from_.p.toArray⟩,.string ⟨x.from_.o.toArray⟩,.slice (some ⟨g3,0,none⟩) x.to.length c3] 58)).trans (((Below.refl (w1.alloc (.cells #[.string ⟨x.from_.m.toArray⟩,.string ⟨x.from_.p.toArray⟩,.string ⟨x.from_.o.toArray⟩,.slice (some ⟨g3,0,none⟩) x.to.length c3] 58)).heap.size (w1.alloc (.cells #[.string ⟨x.from_.m.toArray⟩,.string ⟨x.from_.p.toArray⟩,.string ⟨x.from_.o.toArray⟩,.slice (some ⟨g3,0,none⟩) x.to.length c3] 58))).alloc (Nat.le_refl _) (.cells #[.string ⟨x.from_.m.toArray⟩,.string ⟨x.from_.p.toArray⟩,.string ⟨x.from_.o.toArray⟩,.slice (some ⟨g3,0,none⟩) x.to.length c3] 58)).mono (by simp))))
   have HE1:=zaa (zaQ.keep _ _ _ _ _ (by simp<;>omega) (fun b _ hl=>(Below.heap_alloc _ _ _ (by simp<;>omega)).trans (Below.heap_alloc _ _ _ hl)) (zaQ.mono _ _ (fun b=>w.heap.size≤b∧_≠some b) _ _ (fun b hb2 _=>⟨Nat.le_trans HBR.out.size hb2,fun e=>by have h1:=(zav HLB.out.own e).2;have h2:wr.heap.size≤b:=hb2;omega⟩) HE.out):zdv ((w1.alloc (.cells #[.string ⟨x.from_.m.toArray⟩,.string ⟨x.from_.p.toArray⟩,.string ⟨x.from_.o.toArray⟩,.slice (some ⟨g3,0,none⟩) x.to.length c3] 58)).alloc (.cells #[.string ⟨x.from_.m.toArray⟩,.string ⟨x.from_.p.toArray⟩,.string ⟨x.from_.o.toArray⟩,.slice (some ⟨g3,0,none⟩) x.to.length c3] 58)) _ _ _)
   have hz1':=HB3.out.size
   clear hb HC HE HLB
   go_wp2_with(first
    |(at_builtin;refine wpList_append_lies _ rfl _ _ 23 rfl w.heap.size 58 i0 _ 4 72 Tryz.underlying23 hi0 hz0 hz1 hz2 rfl (by decide) _ _ _ rfl HLB1.out.own ⟨w1.heap.size+1,0,none⟩ 1 1 [.string ⟨x.from_.m.toArray⟩,.string ⟨x.from_.p.toArray⟩,.string ⟨x.from_.o.toArray⟩,.slice (some ⟨g3,0,none⟩) x.to.length c3] rfl rfl (zaU (by simp)) (by simp[Value.oneCell']) (by decide) (by have:=HRL.out;unfold maxLen;omega) (by have:=HRL.out;omega) (by simp;omega) _ rfl ?_;intro g cap w5 hown' hgrow hat _))
   have HB5:=zaa (HB3.out.trans (Below.grown (((Below.refl _ w1).alloc hz1' _).alloc (by simp;omega) _) hgrow (by simp;omega) (fun g hg=>(zav HLB1.out.own hg).1)))
   have HLB5:=zaa (HLB1.out.push zaQ hown' (by omega) hgrow hat (fun y hy=>by rw[HRL.out,HX.out] at hy;obtain rfl:=Option.some.inj hy;exact HE1.out))
   clear hown' hgrow hat HLB1 HE1
   go_wp2_with fail
   go_roundw
   case rel=>exact⟨k+1,_,by omega,by go_num,by simp[HRL.out],HLB5.out,HB5.out⟩
   case measure=>simp[intOf];omega
  ·obtain rfl:k=l.length:=by omega
   have HLB0:=HLB
   have HB0:=HBR
   clear HLB HBR HA hlt hk
   go_wp2_with fail
   go_loopw [3,6] (fun v3 v6 wr=> ∃k:Nat,k≤12∧v6= .int .i64 k∧LB zdv wr w.heap.size 58 4 v3 l (rs++(List.range k).map zcT)∧Below w.heap.size w wr) (fun _ v6 _=>12-(intOf v6).toNat)
   case atStart=>exact⟨0,by omega,rfl,by simpa using HLB0.out,HB0.out⟩
   case round=>
    obtain⟨k,hk,rfl,hlb,hbr⟩:=hrel
    have HLB:=zaa hlb
    have HBR:=zaa hbr
    clear hlb hbr HLB0 HB0
    by_cases hlt:k<12
    ·have HM:=zaa (zlp k wr hlt)
     generalize hm:mkS k=m at HM
     have hm2:=zaa hm
     clear hm
     go_wp2_with fail
     refine HM.out.mono ?_
     rintro e w3 ⟨rfl,hb3⟩
     have HB3:=zaa (btZ HBR.out hb3)
     have hz3:=HB3.out.size
     have HLB3:=zaa ((HLB.out.below zaQ hb3).below zaQ ((Below.refl w3.heap.size w3).alloc (Nat.le_refl _) (.cells #[.string ⟨#[]⟩,.string ⟨#[]⟩,.string (m),.slice none 0 0] 58)))
     clear hb3 HM HLB
     go_wp2_with(first
      |(at_builtin;refine wpList_append_lies _ rfl _ _ 23 rfl w.heap.size 58 i0 _ 4 72 Tryz.underlying23 hi0 hz0 hz1 hz2 rfl (by decide) _ _ _ rfl HLB3.out.own ⟨w3.heap.size,0,none⟩ 1 1 [.string ⟨#[]⟩,.string ⟨#[]⟩,.string (m),.slice none 0 0] rfl rfl (zaU (by simp)) (by simp[Value.oneCell']) (by decide) (by have:=HRL.out;simp only[List.length_append,List.length_map,List.length_range];unfold maxLen;omega) (by have:=HRL.out;simp only[List.length_append,List.length_map,List.length_range];omega) (by simp;exact Nat.le_succ_of_le hz3) _ rfl ?_;intro g cap w5 hown' hgrow hat _))
     have HB5:=zaa (HB3.out.trans (Below.grown ((Below.refl _ w3).alloc hz3 _) hgrow (by simp;exact Nat.le_succ_of_le hz3) (fun g hg=>(zav HLB3.out.own hg).1)))
     have HLB5:=zaa (show LB zdv w5 w.heap.size 58 4 _ l (rs++(List.range (k+1)).map zcT) by
      rw[List.range_succ,List.map_append,←List.append_assoc,List.map_singleton,show zcT k=[.string ⟨#[]⟩,.string ⟨#[]⟩,.string (m),.slice none 0 0] from by unfold zcT;rw[hm2.out]]
      exact HLB3.out.push zaQ hown' rfl hgrow hat (fun y hy=>absurd hy (by rw[List.getElem?_eq_none (by have:=HRL.out;simp only[List.length_append,List.length_map,List.length_range];omega)];exact nofun)))
     clear hown' hgrow hat HLB3
     go_wp2_with fail
     go_roundw
     case rel=>exact⟨k+1,by omega,by go_num,by have h:=HLB5.out;simp only[List.length_append,List.length_map,List.length_range] at h;exact h,HB5.out⟩
     case measure=>simp[intOf];omega
    ·obtain rfl:k=12:=by omega
     obtain⟨g,c,hvv,hc1,hc2,hLL⟩:=LB.lent (ms:=zar zcT) zaQ HLB.out HRL.out (by simp[zar])
     have HL:=zaa hLL
     subst hvv
     unfold maxLen at hc2
     clear hLL HLB
     go_wp2_with fail
     go_ret
     exact zbL.mk _ rfl HL.out HBR.out
theorem zly:(Tryz.prog.info? 61).map (fun i=>(i.zero,i.size,i.bytes))=some (some (.agg #[.string ⟨#[]⟩,.string ⟨#[]⟩,.string ⟨#[]⟩,.string ⟨#[]⟩,.int .i64 0,.int .i64 0,.slice none 0 0]),7,104):=by kernel_rfl
def zfe (i:Nat):List Value:=[.string ⟨#[]⟩,.string ⟨#[]⟩,.string ⟨#[]⟩,.string ⟨#[]⟩,.int .i64 (mkI 1 (i:Int)),.int .i64 0,.slice none 0 0]
theorem zoV (n:Nat) (h:n≤1000000) (W:World):(Instr.makeSlice 26 (.int .i64 0) (.int .i64 ((n:Int)+12))).run Tryz.prog W= .ok (.slice (some ⟨W.heap.size,0,none⟩) 0 (n+12)) (W.alloc (.cells (madeCells (Value.cells (.agg #[.string ⟨#[]⟩,.string ⟨#[]⟩,.string ⟨#[]⟩,.string ⟨#[]⟩,.int .i64 0,.int .i64 0,.slice none 0 0])) ((n+12)*7)) 61)):=by
 obtain⟨i0,hi,hz0,hz1,hz2⟩:=info_parts zly
 have:=run_make (P:=Tryz.prog) W 26 61 i0 (.agg #[.string ⟨#[]⟩,.string ⟨#[]⟩,.string ⟨#[]⟩,.string ⟨#[]⟩,.int .i64 0,.int .i64 0,.slice none 0 0]) Tryz.underlying26 hi hz0 .i64 .i64 0 ((n:Int)+12) (by omega) (by omega) (by rw[hz2];omega) (by omega)
 rw[hz1,show((n:Int)+12).toNat=n+12 by omega] at this
 exact this
theorem zmC (v:Value) (l:List VlD) (w:World) (hv:Hid (DAt w (fun _=>True) v (.row 7 (l.map VlD.cells)))) (hn:l.length≤1000000) (hl: ∀x∈l,x.to.length≤1000000):
 Calls Tryz.prog 29 #[v] w fun e w'=>zbL 7 (zar zfe) zjh w l e w':=by
 obtain⟨i0,hi0,hz0,hz1,hz2⟩:=info_parts zly
 obtain⟨A,q,rfl,hA⟩:=hv.out.slice
 have HA:=zaa hA
 rw[List.length_map] at hv ⊢
 have hmk:=fun W=>zoV l.length hn W
 have HOW0:Hid ((w.alloc (.cells (madeCells #[.string ⟨#[]⟩,.string ⟨#[]⟩,.string ⟨#[]⟩,.string ⟨#[]⟩,.int .i64 0,.int .i64 0,.slice none 0 0] ((l.length+12)*7)) 61)).ownsRow w.heap.size 61 7 (.slice (some ⟨w.heap.size,0,none⟩) 0 (l.length+12)) 0 []):=zaa (World.ownsRow_made (base:=w.heap.size) (e:=61) (size:=7) w (madeCells #[.string ⟨#[]⟩,.string ⟨#[]⟩,.string ⟨#[]⟩,.string ⟨#[]⟩,.int .i64 0,.int .i64 0,.slice none 0 0] ((l.length+12)*7)) (l.length+12) (Nat.le_refl _) (by unfold maxLen;omega) (by simp[madeCells]))
 have HB0:=zaa ((Below.refl w.heap.size w).alloc (Nat.le_refl _) (.cells (madeCells #[.string ⟨#[]⟩,.string ⟨#[]⟩,.string ⟨#[]⟩,.string ⟨#[]⟩,.int .i64 0,.int .i64 0,.slice none 0 0] ((l.length+12)*7)) 61))
 clear hA hv
 go_enter Tryz.func29,Tryz.ntmps29
 go_wp2_with fail
 generalize w.alloc (.cells (madeCells #[.string ⟨#[]⟩,.string ⟨#[]⟩,.string ⟨#[]⟩,.string ⟨#[]⟩,.int .i64 0,.int .i64 0,.slice none 0 0] ((l.length+12)*7)) 61)=w0 at *
 clear hmk
 have HLB0:Hid (LB zjh w0 w.heap.size 61 7 (.slice (some ⟨w.heap.size,0,none⟩) 0 (l.length+12)) l []):=zaa ⟨HOW0.out,fun i r x hr _=>by simp at hr⟩
 clear HOW0
 go_loopw [3,4] (fun v3 v4 wr=> ∃(k:Nat) (rs:List (List Value)),k≤l.length∧v4= .int .i64 k∧rs.length=k∧LB zjh wr w.heap.size 61 7 v3 l rs∧Below w.heap.size w wr) (fun _ v4 _=>l.length-(intOf v4).toNat)
 case atStart=>exact⟨0,[],by omega,rfl,rfl,HLB0.out,HB0.out⟩
 case round=>
  obtain⟨k,rs,hk,rfl,hrl,hlb,hbr⟩:=hrel
  have HLB:=zaa hlb
  have HBR:=zaa hbr
  have HRL:=zaa hrl
  clear hlb hbr hrl HLB0 HB0
  by_cases hlt:k<l.length
  ·skip
   obtain⟨x,hx⟩:=za9 hlt
   have hlx:=hl x (List.mem_of_getElem? hx)
   obtain⟨bA,oA,rfl,hbA,hcaA⟩:=HA.out.at_ hx
   have a0:=zan HBR.out hbA (oA+k*7) (hcaA 0 _ rfl).leafc
   have a1:=zan HBR.out hbA (oA+k*7+1) (hcaA 1 _ rfl).leafc
   have a2:=zan HBR.out hbA (oA+k*7+2) (hcaA 2 _ rfl).leafc
   have a3:=zan HBR.out hbA (oA+k*7+3) (hcaA 3 _ rfl).leafc
   have a4:=zan HBR.out hbA (oA+k*7+4) (hcaA 4 _ rfl).leafc
   have a5:=zan HBR.out hbA (oA+k*7+5) (hcaA 5 _ rfl).leafc
   obtain⟨uA6,cA6,gA6⟩:=hcaA 6 _ rfl
   have a6:=zat HBR.out hbA cA6
   have HU6:=zaa gA6
   obtain⟨A6,p6,rfl, -⟩:=gA6.slice
   clear cA6 gA6
   simp only[List.length_map] at HU6 a6
   clear hcaA
   simp only[zaF] at a0 a1 a2 a3
   have k0:=kbZ k l.length
   have HX:=zaa hx
   have HC:=zaa (zjY x [.string ⟨x.name.toArray⟩,.string ⟨x.from_.m.toArray⟩,.string ⟨x.from_.p.toArray⟩,.string ⟨x.from_.o.toArray⟩,.int .i64 x.bag,.int .i64 x.max,.slice A6 x.to.length p6] wr (zaa (zab.cons (.leaf _) (zab.cons (.leaf _) (zab.cons (.leaf _) (zab.cons (.leaf _) (zab.cons (.leaf _) (zab.cons (.leaf _) (zab.cons (HU6.out.later HBR.out) (zab.nil))))))))) hlx)
   clear hx hlx
   go_wp2_with fail
   refine HC.out.mono ?_
   rintro e w1 ⟨r,rfl,hE,hb⟩
   have HE:=zaa hE
   obtain⟨u6,rfl,hu6⟩:=hE
   obtain⟨g6,c6,heq6⟩: ∃g c,u6= .slice (some ⟨g,0,none⟩) x.to.length c:=by obtain⟨g,c,rows,e, -⟩:=hu6;exact⟨g,c,e⟩
   subst heq6
   clear hu6
   simp only[zaF] at HE ⊢
   have HB3:=zaa (btZ HBR.out hb)
   have HLB1:=zaa ((HLB.out.below zcb hb).below zcb (((Below.refl w1.heap.size w1).alloc (Nat.le_refl _) (.cells #[.string ⟨x.name.toArray⟩,.string ⟨x.from_.m.toArray⟩,.string ⟨x.from_.p.toArray⟩,.string ⟨x.from_.o.toArray⟩,.int .i64 x.bag,.int .i64 x.max,.slice (some ⟨g6,0,none⟩) x.to.length c6] 61)).trans (((Below.refl (w1.alloc (.cells #[.string ⟨x.name.toArray⟩,.string ⟨x.from_.m.toArray⟩,.string ⟨x.from_.p.toArray⟩,.string ⟨x.from_.o.toArray⟩,.int .i64 x.bag,.int .i64 x.max,.slice (some ⟨g6,0,none⟩) x.to.length c6] 61)).heap.size (w1.alloc (.cells #[.string ⟨x.name.toArray⟩,.string ⟨x.from_.m.toArray⟩,.string ⟨x.from_.p.toArray⟩,.string ⟨x.from_.o.toArray⟩,.int .i64 x.bag,.int .i64 x.max,.slice (some ⟨g6,0,none⟩) x.to.length c6] 61))).alloc (Nat.le_refl _) (.cells #[.string ⟨x.name.toArray⟩,.string ⟨x.from_.m.toArray⟩,.string ⟨x.from_.p.toArray⟩,.string ⟨x.from_.o.toArray⟩,.int .i64 x.bag,.int .i64 x.max,.slice (some ⟨g6,0,none⟩) x.to.length c6] 61)).mono (by simp))))
   have HE1:=zaa (zcb.keep _ _ _ _ _ (by simp<;>omega) (fun b _ hl=>(Below.heap_alloc _ _ _ (by simp<;>omega)).trans (Below.heap_alloc _ _ _ hl)) (zcb.mono _ _ (fun b=>w.heap.size≤b∧_≠some b) _ _ (fun b hb2 _=>⟨Nat.le_trans HBR.out.size hb2,fun e=>by have h1:=(zav HLB.out.own e).2;have h2:wr.heap.size≤b:=hb2;omega⟩) HE.out):zjh ((w1.alloc (.cells #[.string ⟨x.name.toArray⟩,.string ⟨x.from_.m.toArray⟩,.string ⟨x.from_.p.toArray⟩,.string ⟨x.from_.o.toArray⟩,.int .i64 x.bag,.int .i64 x.max,.slice (some ⟨g6,0,none⟩) x.to.length c6] 61)).alloc (.cells #[.string ⟨x.name.toArray⟩,.string ⟨x.from_.m.toArray⟩,.string ⟨x.from_.p.toArray⟩,.string ⟨x.from_.o.toArray⟩,.int .i64 x.bag,.int .i64 x.max,.slice (some ⟨g6,0,none⟩) x.to.length c6] 61)) _ _ _)
   have hz1':=HB3.out.size
   clear hb HC HE HLB
   go_wp2_with(first
    |(at_builtin;refine wpList_append_lies _ rfl _ _ 26 rfl w.heap.size 61 i0 _ 7 104 Tryz.underlying26 hi0 hz0 hz1 hz2 rfl (by decide) _ _ _ rfl HLB1.out.own ⟨w1.heap.size+1,0,none⟩ 1 1 [.string ⟨x.name.toArray⟩,.string ⟨x.from_.m.toArray⟩,.string ⟨x.from_.p.toArray⟩,.string ⟨x.from_.o.toArray⟩,.int .i64 x.bag,.int .i64 x.max,.slice (some ⟨g6,0,none⟩) x.to.length c6] rfl rfl (zaU (by simp)) (by simp[Value.oneCell']) (by decide) (by have:=HRL.out;unfold maxLen;omega) (by have:=HRL.out;omega) (by simp;omega) _ rfl ?_;intro g cap w5 hown' hgrow hat _))
   have HB5:=zaa (HB3.out.trans (Below.grown (((Below.refl _ w1).alloc hz1' _).alloc (by simp;omega) _) hgrow (by simp;omega) (fun g hg=>(zav HLB1.out.own hg).1)))
   have HLB5:=zaa (HLB1.out.push zcb hown' (by omega) hgrow hat (fun y hy=>by rw[HRL.out,HX.out] at hy;obtain rfl:=Option.some.inj hy;exact HE1.out))
   clear hown' hgrow hat HLB1 HE1
   go_wp2_with fail
   go_roundw
   case rel=>exact⟨k+1,_,by omega,by go_num,by simp[HRL.out],HLB5.out,HB5.out⟩
   case measure=>simp[intOf];omega
  ·obtain rfl:k=l.length:=by omega
   have HLB0:=HLB
   have HB0:=HBR
   clear HLB HBR HA hlt hk
   go_wp2_with fail
   go_loopw [3,6] (fun v3 v6 wr=> ∃k:Nat,k≤12∧v6= .int .i64 k∧LB zjh wr w.heap.size 61 7 v3 l (rs++(List.range k).map zfe)∧Below w.heap.size w wr) (fun _ v6 _=>12-(intOf v6).toNat)
   case atStart=>exact⟨0,by omega,rfl,by simpa using HLB0.out,HB0.out⟩
   case round=>
    obtain⟨k,hk,rfl,hlb,hbr⟩:=hrel
    have HLB:=zaa hlb
    have HBR:=zaa hbr
    clear hlb hbr HLB0 HB0
    by_cases hlt:k<12
    ·have HM:=zaa (m_vl k wr hlt)
     generalize hm:mkI 1 (k:Int)=m at HM
     have hm2:=zaa hm
     clear hm
     go_wp2_with fail
     refine HM.out.mono ?_
     rintro e w3 ⟨rfl,hb3⟩
     have HB3:=zaa (btZ HBR.out hb3)
     have hz3:=HB3.out.size
     have HLB3:=zaa ((HLB.out.below zcb hb3).below zcb ((Below.refl w3.heap.size w3).alloc (Nat.le_refl _) (.cells #[.string ⟨#[]⟩,.string ⟨#[]⟩,.string ⟨#[]⟩,.string ⟨#[]⟩,.int .i64 (m),.int .i64 0,.slice none 0 0] 61)))
     clear hb3 HM HLB
     go_wp2_with(first
      |(at_builtin;refine wpList_append_lies _ rfl _ _ 26 rfl w.heap.size 61 i0 _ 7 104 Tryz.underlying26 hi0 hz0 hz1 hz2 rfl (by decide) _ _ _ rfl HLB3.out.own ⟨w3.heap.size,0,none⟩ 1 1 [.string ⟨#[]⟩,.string ⟨#[]⟩,.string ⟨#[]⟩,.string ⟨#[]⟩,.int .i64 (m),.int .i64 0,.slice none 0 0] rfl rfl (zaU (by simp)) (by simp[Value.oneCell']) (by decide) (by have:=HRL.out;simp only[List.length_append,List.length_map,List.length_range];unfold maxLen;omega) (by have:=HRL.out;simp only[List.length_append,List.length_map,List.length_range];omega) (by simp;exact Nat.le_succ_of_le hz3) _ rfl ?_;intro g cap w5 hown' hgrow hat _))
     have HB5:=zaa (HB3.out.trans (Below.grown ((Below.refl _ w3).alloc hz3 _) hgrow (by simp;exact Nat.le_succ_of_le hz3) (fun g hg=>(zav HLB3.out.own hg).1)))
     have HLB5:=zaa (show LB zjh w5 w.heap.size 61 7 _ l (rs++(List.range (k+1)).map zfe) by
      rw[List.range_succ,List.map_append,←List.append_assoc,List.map_singleton,show zfe k=[.string ⟨#[]⟩,.string ⟨#[]⟩,.string ⟨#[]⟩,.string ⟨#[]⟩,.int .i64 (m),.int .i64 0,.slice none 0 0] from by unfold zfe;rw[hm2.out]]
      exact HLB3.out.push zcb hown' rfl hgrow hat (fun y hy=>absurd hy (by rw[List.getElem?_eq_none (by have:=HRL.out;simp only[List.length_append,List.length_map,List.length_range];omega)];exact nofun)))
     clear hown' hgrow hat HLB3
     go_wp2_with fail
     go_roundw
     case rel=>exact⟨k+1,by omega,by go_num,by have h:=HLB5.out;simp only[List.length_append,List.length_map,List.length_range] at h;exact h,HB5.out⟩
     case measure=>simp[intOf];omega
    ·obtain rfl:k=12:=by omega
     obtain⟨g,c,hvv,hc1,hc2,hLL⟩:=LB.lent (ms:=zar zfe) zcb HLB.out HRL.out (by simp[zar])
     have HL:=zaa hLL
     subst hvv
     unfold maxLen at hc2
     clear hLL HLB
     go_wp2_with fail
     go_ret
     exact zbL.mk _ rfl HL.out HBR.out
theorem zgl:(Tryz.prog.info? 65).map (fun i=>(i.zero,i.size,i.bytes))=some (some (.agg #[.string ⟨#[]⟩,.slice none 0 0,.slice none 0 0]),3,64):=by kernel_rfl
def zcg (i:Nat):List Value:=[.string (mkS i),.slice none 0 0,.slice none 0 0]
theorem zlg (n:Nat) (h:n≤1000000) (W:World):(Instr.makeSlice 28 (.int .i64 0) (.int .i64 ((n:Int)+12))).run Tryz.prog W= .ok (.slice (some ⟨W.heap.size,0,none⟩) 0 (n+12)) (W.alloc (.cells (madeCells (Value.cells (.agg #[.string ⟨#[]⟩,.slice none 0 0,.slice none 0 0])) ((n+12)*3)) 65)):=by
 obtain⟨i0,hi,hz0,hz1,hz2⟩:=info_parts zgl
 have:=run_make (P:=Tryz.prog) W 28 65 i0 (.agg #[.string ⟨#[]⟩,.slice none 0 0,.slice none 0 0]) Tryz.underlying28 hi hz0 .i64 .i64 0 ((n:Int)+12) (by omega) (by omega) (by rw[hz2];omega) (by omega)
 rw[hz1,show((n:Int)+12).toNat=n+12 by omega] at this
 exact this
theorem zhO (v:Value) (l:List zaN) (w:World) (hv:Hid (DAt w (fun _=>True) v (.row 3 (l.map zaN.cells)))) (hn:l.length≤1000000) (hl: ∀x∈l,x.needs.length≤1000000∧x.but.length≤1000000):
 Calls Tryz.prog 31 #[v] w fun e w'=>zbL 3 (zar zcg) zcG w l e w':=by
 obtain⟨i0,hi0,hz0,hz1,hz2⟩:=info_parts zgl
 obtain⟨A,q,rfl,hA⟩:=hv.out.slice
 have HA:=zaa hA
 rw[List.length_map] at hv ⊢
 have hmk:=fun W=>zlg l.length hn W
 have HOW0:Hid ((w.alloc (.cells (madeCells #[.string ⟨#[]⟩,.slice none 0 0,.slice none 0 0] ((l.length+12)*3)) 65)).ownsRow w.heap.size 65 3 (.slice (some ⟨w.heap.size,0,none⟩) 0 (l.length+12)) 0 []):=zaa (World.ownsRow_made (base:=w.heap.size) (e:=65) (size:=3) w (madeCells #[.string ⟨#[]⟩,.slice none 0 0,.slice none 0 0] ((l.length+12)*3)) (l.length+12) (Nat.le_refl _) (by unfold maxLen;omega) (by simp[madeCells]))
 have HB0:=zaa ((Below.refl w.heap.size w).alloc (Nat.le_refl _) (.cells (madeCells #[.string ⟨#[]⟩,.slice none 0 0,.slice none 0 0] ((l.length+12)*3)) 65))
 clear hA hv
 go_enter Tryz.func31,Tryz.ntmps31
 go_wp2_with fail
 generalize w.alloc (.cells (madeCells #[.string ⟨#[]⟩,.slice none 0 0,.slice none 0 0] ((l.length+12)*3)) 65)=w0 at *
 clear hmk
 have HLB0:Hid (LB zcG w0 w.heap.size 65 3 (.slice (some ⟨w.heap.size,0,none⟩) 0 (l.length+12)) l []):=zaa ⟨HOW0.out,fun i r x hr _=>by simp at hr⟩
 clear HOW0
 go_loopw [3,4] (fun v3 v4 wr=> ∃(k:Nat) (rs:List (List Value)),k≤l.length∧v4= .int .i64 k∧rs.length=k∧LB zcG wr w.heap.size 65 3 v3 l rs∧Below w.heap.size w wr) (fun _ v4 _=>l.length-(intOf v4).toNat)
 case atStart=>exact⟨0,[],by omega,rfl,rfl,HLB0.out,HB0.out⟩
 case round=>
  obtain⟨k,rs,hk,rfl,hrl,hlb,hbr⟩:=hrel
  have HLB:=zaa hlb
  have HBR:=zaa hbr
  have HRL:=zaa hrl
  clear hlb hbr hrl HLB0 HB0
  by_cases hlt:k<l.length
  ·skip
   obtain⟨x,hx⟩:=za9 hlt
   have hlx:=hl x (List.mem_of_getElem? hx)
   obtain⟨bA,oA,rfl,hbA,hcaA⟩:=HA.out.at_ hx
   have a0:=zan HBR.out hbA (oA+k*3) (hcaA 0 _ rfl).leafc
   obtain⟨uA1,cA1,gA1⟩:=hcaA 1 _ rfl
   have a1:=zat HBR.out hbA cA1
   have HU1:=zaa gA1
   obtain⟨A1,p1,rfl, -⟩:=gA1.slice
   clear cA1 gA1
   simp only[List.length_map] at HU1 a1
   obtain⟨uA2,cA2,gA2⟩:=hcaA 2 _ rfl
   have a2:=zat HBR.out hbA cA2
   have HU2:=zaa gA2
   obtain⟨A2,p2,rfl, -⟩:=gA2.slice
   clear cA2 gA2
   rw[show(zao x.but).length=x.but.length by simp[zao]] at HU2 a2
   clear hcaA
   simp only[zaF] at a0
   have k0:=kbZ k l.length
   have HX:=zaa hx
   have HC:=zaa (zgs x [.string ⟨x.unit.toArray⟩,.slice A1 x.needs.length p1,.slice A2 x.but.length p2] wr (zaa (zab.cons (.leaf _) (zab.cons (HU1.out.later HBR.out) (zab.cons (HU2.out.later HBR.out) (zab.nil))))) hlx)
   clear hx hlx
   go_wp2_with fail
   refine HC.out.mono ?_
   rintro e w1 ⟨r,rfl,hE,hb⟩
   have HE:=zaa hE
   obtain⟨u1,u2,rfl,hu1,hu2⟩:=hE
   obtain⟨g1,c1,heq1⟩: ∃g c,u1= .slice (some ⟨g,0,none⟩) x.needs.length c:=by obtain⟨g,c,rows,e, -⟩:=hu1;exact⟨g,c,e⟩
   subst heq1
   clear hu1
   obtain⟨g2,c2,heq2⟩: ∃g c,u2= .slice (some ⟨g,0,none⟩) x.but.length c:=by obtain⟨g,c,rows,e, -⟩:=hu2;exact⟨g,c,e⟩
   subst heq2
   clear hu2
   simp only[zaF] at HE ⊢
   have HB3:=zaa (btZ HBR.out hb)
   have HLB1:=zaa ((HLB.out.below zaW hb).below zaW (((Below.refl w1.heap.size w1).alloc (Nat.le_refl _) (.cells #[.string ⟨x.unit.toArray⟩,.slice (some ⟨g1,0,none⟩) x.needs.length c1,.slice (some ⟨g2,0,none⟩) x.but.length c2] 65)).trans (((Below.refl (w1.alloc (.cells #[.string ⟨x.unit.toArray⟩,.slice (some ⟨g1,0,none⟩) x.needs.length c1,.slice (some ⟨g2,0,none⟩) x.but.length c2] 65)).heap.size (w1.alloc (.cells #[.string ⟨x.unit.toArray⟩,.slice (some ⟨g1,0,none⟩) x.needs.length c1,.slice (some ⟨g2,0,none⟩) x.but.length c2] 65))).alloc (Nat.le_refl _) (.cells #[.string ⟨x.unit.toArray⟩,.slice (some ⟨g1,0,none⟩) x.needs.length c1,.slice (some ⟨g2,0,none⟩) x.but.length c2] 65)).mono (by simp))))
   have HE1:=zaa (zaW.keep _ _ _ _ _ (by simp<;>omega) (fun b _ hl=>(Below.heap_alloc _ _ _ (by simp<;>omega)).trans (Below.heap_alloc _ _ _ hl)) (zaW.mono _ _ (fun b=>w.heap.size≤b∧_≠some b) _ _ (fun b hb2 _=>⟨Nat.le_trans HBR.out.size hb2,fun e=>by have h1:=(zav HLB.out.own e).2;have h2:wr.heap.size≤b:=hb2;omega⟩) HE.out):zcG ((w1.alloc (.cells #[.string ⟨x.unit.toArray⟩,.slice (some ⟨g1,0,none⟩) x.needs.length c1,.slice (some ⟨g2,0,none⟩) x.but.length c2] 65)).alloc (.cells #[.string ⟨x.unit.toArray⟩,.slice (some ⟨g1,0,none⟩) x.needs.length c1,.slice (some ⟨g2,0,none⟩) x.but.length c2] 65)) _ _ _)
   have hz1':=HB3.out.size
   clear hb HC HE HLB
   go_wp2_with(first
    |(at_builtin;refine wpList_append_lies _ rfl _ _ 28 rfl w.heap.size 65 i0 _ 3 64 Tryz.underlying28 hi0 hz0 hz1 hz2 rfl (by decide) _ _ _ rfl HLB1.out.own ⟨w1.heap.size+1,0,none⟩ 1 1 [.string ⟨x.unit.toArray⟩,.slice (some ⟨g1,0,none⟩) x.needs.length c1,.slice (some ⟨g2,0,none⟩) x.but.length c2] rfl rfl (zaU (by simp)) (by simp[Value.oneCell']) (by decide) (by have:=HRL.out;unfold maxLen;omega) (by have:=HRL.out;omega) (by simp;omega) _ rfl ?_;intro g cap w5 hown' hgrow hat _))
   have HB5:=zaa (HB3.out.trans (Below.grown (((Below.refl _ w1).alloc hz1' _).alloc (by simp;omega) _) hgrow (by simp;omega) (fun g hg=>(zav HLB1.out.own hg).1)))
   have HLB5:=zaa (HLB1.out.push zaW hown' (by omega) hgrow hat (fun y hy=>by rw[HRL.out,HX.out] at hy;obtain rfl:=Option.some.inj hy;exact HE1.out))
   clear hown' hgrow hat HLB1 HE1
   go_wp2_with fail
   go_roundw
   case rel=>exact⟨k+1,_,by omega,by go_num,by simp[HRL.out],HLB5.out,HB5.out⟩
   case measure=>simp[intOf];omega
  ·obtain rfl:k=l.length:=by omega
   have HLB0:=HLB
   have HB0:=HBR
   clear HLB HBR HA hlt hk
   go_wp2_with fail
   go_loopw [3,6] (fun v3 v6 wr=> ∃k:Nat,k≤12∧v6= .int .i64 k∧LB zcG wr w.heap.size 65 3 v3 l (rs++(List.range k).map zcg)∧Below w.heap.size w wr) (fun _ v6 _=>12-(intOf v6).toNat)
   case atStart=>exact⟨0,by omega,rfl,by simpa using HLB0.out,HB0.out⟩
   case round=>
    obtain⟨k,hk,rfl,hlb,hbr⟩:=hrel
    have HLB:=zaa hlb
    have HBR:=zaa hbr
    clear hlb hbr HLB0 HB0
    by_cases hlt:k<12
    ·have HM:=zaa (ziE k wr hlt)
     generalize hm:mkS k=m at HM
     have hm2:=zaa hm
     clear hm
     go_wp2_with fail
     refine HM.out.mono ?_
     rintro e w3 ⟨rfl,hb3⟩
     have HB3:=zaa (btZ HBR.out hb3)
     have hz3:=HB3.out.size
     have HLB3:=zaa ((HLB.out.below zaW hb3).below zaW ((Below.refl w3.heap.size w3).alloc (Nat.le_refl _) (.cells #[.string (m),.slice none 0 0,.slice none 0 0] 65)))
     clear hb3 HM HLB
     go_wp2_with(first
      |(at_builtin;refine wpList_append_lies _ rfl _ _ 28 rfl w.heap.size 65 i0 _ 3 64 Tryz.underlying28 hi0 hz0 hz1 hz2 rfl (by decide) _ _ _ rfl HLB3.out.own ⟨w3.heap.size,0,none⟩ 1 1 [.string (m),.slice none 0 0,.slice none 0 0] rfl rfl (zaU (by simp)) (by simp[Value.oneCell']) (by decide) (by have:=HRL.out;simp only[List.length_append,List.length_map,List.length_range];unfold maxLen;omega) (by have:=HRL.out;simp only[List.length_append,List.length_map,List.length_range];omega) (by simp;exact Nat.le_succ_of_le hz3) _ rfl ?_;intro g cap w5 hown' hgrow hat _))
     have HB5:=zaa (HB3.out.trans (Below.grown ((Below.refl _ w3).alloc hz3 _) hgrow (by simp;exact Nat.le_succ_of_le hz3) (fun g hg=>(zav HLB3.out.own hg).1)))
     have HLB5:=zaa (show LB zcG w5 w.heap.size 65 3 _ l (rs++(List.range (k+1)).map zcg) by
      rw[List.range_succ,List.map_append,←List.append_assoc,List.map_singleton,show zcg k=[.string (m),.slice none 0 0,.slice none 0 0] from by unfold zcg;rw[hm2.out]]
      exact HLB3.out.push zaW hown' rfl hgrow hat (fun y hy=>absurd hy (by rw[List.getElem?_eq_none (by have:=HRL.out;simp only[List.length_append,List.length_map,List.length_range];omega)];exact nofun)))
     clear hown' hgrow hat HLB3
     go_wp2_with fail
     go_roundw
     case rel=>exact⟨k+1,by omega,by go_num,by have h:=HLB5.out;simp only[List.length_append,List.length_map,List.length_range] at h;exact h,HB5.out⟩
     case measure=>simp[intOf];omega
    ·obtain rfl:k=12:=by omega
     obtain⟨g,c,hvv,hc1,hc2,hLL⟩:=LB.lent (ms:=zar zcg) zaW HLB.out HRL.out (by simp[zar])
     have HL:=zaa hLL
     subst hvv
     unfold maxLen at hc2
     clear hLL HLB
     go_wp2_with fail
     go_ret
     exact zbL.mk _ rfl HL.out HBR.out
end Go.Proofs.YtgbfaompondolaaGreatDoor
