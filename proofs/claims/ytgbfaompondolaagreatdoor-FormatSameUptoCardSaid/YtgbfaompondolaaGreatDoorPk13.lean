/- Merged texts of the walks and of the plain laws on which the statement leans.-/
import Derived.Test.YtgbfaompondolaaGreatDoorPk1
import Derived.Test.YtgbfaompondolaaGreatDoorPk12
set_option maxHeartbeats 4000000
set_option maxRecDepth 100000
namespace Go.Proofs.YtgbfaompondolaaGreatDoor
open Go.RowKit
attribute [local go_sem] zal.cell
def zau (p:Prop) (B:Nat) (W:World) (e:Ending) (w':World):Prop:= ∃z,e= .returned (.bool z)∧(z=true↔p)∧Below B W w'
theorem zau.mk {p:Prop} {B:Nat} {W:World} {e:Ending} {w':World} (z:Bool) (he:e= .returned (.bool z)) (hz:z=true↔p) (hb:Below B W w'):zau p B W e w':=⟨z,he,hz,hb⟩
theorem zau.yes {p:Prop} {B:Nat} {W:World} {e:Ending} {w':World} (hp:p) (h:zau p B W e w'):e= .returned (.bool true)∧Below B W w':=by
 obtain⟨z,rfl,hz,hb⟩:=h
 rw[hz.2 hp]
 exact⟨rfl,hb⟩
theorem zau.no {p:Prop} {B:Nat} {W:World} {e:Ending} {w':World} (hp: ¬p) (h:zau p B W e w'):e= .returned (.bool false)∧Below B W w':=by
 obtain⟨z,rfl,hz,hb⟩:=h
 cases z with
 |true=>exact absurd (hz.1 rfl) hp
 |false=>exact⟨rfl,hb⟩
theorem zlh (x y:zaN) (p_:Prop) (hp_:Hid (p_↔x=y)) (us vs:List Value) (W:World) (ha:Hid (zab W (fun _=>True) us x.cells)) (hb:Hid (zab W (fun _=>True) vs y.cells)) (hl:zbe x) (hm:zbe y):
 Calls Tryz.prog 33 #[.agg us.toArray,.agg vs.toArray] W fun e w'=>zau p_ W.heap.size W e w':=by
 obtain⟨x_unit,x_needs,x_but⟩:=x
 obtain⟨y_unit,y_needs,y_but⟩:=y
 have hd:=ha.out
 have he:=hb.out
 obtain⟨u0,u1,u2,rfl,h0,h1,h2⟩:=dc3 hd
 obtain⟨v0,v1,v2,rfl,i0,i1,i2⟩:=dc3 he
 obtain rfl:=h0.leaf_eq
 obtain rfl:=i0.leaf_eq
 have HU1:=zaa h1
 have HV1:=zaa i1
 obtain⟨A1,p1,rfl, -⟩:=h1.slice
 obtain⟨B1,r1,rfl, -⟩:=i1.slice
 simp only[List.length_map] at HU1 HV1 ⊢
 have HU2:=zaa h2
 have HV2:=zaa i2
 obtain⟨A2,p2,rfl, -⟩:=h2.slice
 obtain⟨B2,r2,rfl, -⟩:=i2.slice
 rw[show(zao x_but).length=x_but.length by simp[zao]] at HU2 ⊢
 rw[show(zao y_but).length=y_but.length by simp[zao]] at HV2 ⊢
 clear ha hb hd he h0 i0 h1 i1 h2 i2
 simp only[zaF]
 by_cases e_:x_unit=y_unit
 rotate_left
 ·as_aux_lemma=>
   have HNE:=zaa e_
   have hne1:=zaw e_
   have hne2:=zaG e_
   clear e_
   have HB:=zaa (((Below.refl W.heap.size W).alloc (Nat.le_refl _) (.cells #[.string ⟨x_unit.toArray⟩,.slice A1 x_needs.length p1,.slice A2 x_but.length p2] 65)).alloc (by simp) (.cells #[.string ⟨y_unit.toArray⟩,.slice B1 y_needs.length r1,.slice B2 y_but.length r2] 65))
   go_enter Tryz.func33,Tryz.ntmps33
   go_wp2_with fail
   go_ret
   exact zau.mk false rfl ⟨(fun h=>by cases h),fun h=>absurd (congrArg (fun z_:zaN=>z_.unit) (hp_.out.1 h)) HNE.out⟩ HB.out
 subst e_
 have HX:=zaa ((Below.heap_alloc (W.alloc (.cells #[.string ⟨x_unit.toArray⟩,.slice A1 x_needs.length p1,.slice A2 x_but.length p2] 65)) (.cells #[.string ⟨x_unit.toArray⟩,.slice B1 y_needs.length r1,.slice B2 y_but.length r2] 65) W.heap.size (by simp)).trans (heap_alloc_new W (.cells #[.string ⟨x_unit.toArray⟩,.slice A1 x_needs.length p1,.slice A2 x_but.length p2] 65)))
 have HY:=zaa (heap_alloc_new (W.alloc (.cells #[.string ⟨x_unit.toArray⟩,.slice A1 x_needs.length p1,.slice A2 x_but.length p2] 65)) (.cells #[.string ⟨x_unit.toArray⟩,.slice B1 y_needs.length r1,.slice B2 y_but.length r2] 65))
 have HB:=zaa (((Below.refl W.heap.size W).alloc (Nat.le_refl _) (.cells #[.string ⟨x_unit.toArray⟩,.slice A1 x_needs.length p1,.slice A2 x_but.length p2] 65)).alloc (by simp) (.cells #[.string ⟨x_unit.toArray⟩,.slice B1 y_needs.length r1,.slice B2 y_but.length r2] 65))
 have hzz:(W.alloc (.cells #[.string ⟨x_unit.toArray⟩,.slice A1 x_needs.length p1,.slice A2 x_but.length p2] 65)).heap.size=W.heap.size+1:=by simp
 rw[hzz] at HY
 go_enter Tryz.func33,Tryz.ntmps33
 go_wp2_with fail
 (try rw[hzz])
 clear hzz
 generalize(W.alloc _).alloc _=w0 at *
 have HC:=zaa (zms _ _ x_needs y_needs w0 (zaa (HU1.out.later HB.out)) (zaa (HV1.out.later HB.out)) hl.1 hm.1)
 refine HC.out.mono ?_
 rintro e w1 ⟨z,rfl,hz,hb⟩
 have HBn:=zaa (btZ HB.out hb)
 have HXn:=zaa (bkZ hb HX.out)
 have HYn:=zaa (bkZ hb HY.out)
 clear HB HX HY hb HC
 have HB:=HBn
 have HX:=HXn
 have HY:=HYn
 clear HBn HXn HYn
 have HZ:=zaa hz
 clear hz
 cases z with
 |false=>as_aux_lemma=>
  have HN2:=zaa (show¬(x_needs=y_needs) from fun h=>by cases HZ.out.2 h)
  clear HZ
  go_wp2_with fail
  go_ret
  exact zau.mk false rfl ⟨(fun h=>by cases h),fun h=>absurd (congrArg (fun z_:zaN=>z_.needs) (hp_.out.1 h)) HN2.out⟩ HB.out
 |true=>
  have e_:=HZ.out.1 rfl
  clear HZ
  subst e_
  have a0:=cell_of_row _ _ 0 _ _ _ HX.out
  have b0:=cell_of_row _ _ 0 _ _ _ HY.out
  have a1:=cell_of_row _ _ 1 _ _ _ HX.out
  have b1:=cell_of_row _ _ 1 _ _ _ HY.out
  have a2:=cell_of_row _ _ 2 _ _ _ HX.out
  have b2:=cell_of_row _ _ 2 _ _ _ HY.out
  go_wp2_with fail
  clear a0 b0 a1 b1 a2 b2
  have HC:=zaa (zlO _ _ x_but y_but w1 (zaa (HU2.out.later HB.out)) (zaa (HV2.out.later HB.out)) (Nat.le_of_lt (Nat.lt_trans hl.2 (by decide))) (Nat.le_of_lt (Nat.lt_trans hm.2 (by decide))))
  refine HC.out.mono ?_
  rintro e w2 ⟨z,rfl,hz,hb⟩
  have HBn:=zaa (btZ HB.out hb)
  have HXn:=zaa (bkZ hb HX.out)
  have HYn:=zaa (bkZ hb HY.out)
  clear HB HX HY hb HC
  have HB:=HBn
  have HX:=HXn
  have HY:=HYn
  clear HBn HXn HYn
  have HZ:=zaa hz
  clear hz
  cases z with
  |false=>as_aux_lemma=>
   have HN2:=zaa (show¬(x_but=y_but) from fun h=>by cases HZ.out.2 h)
   clear HZ
   go_wp2_with fail
   go_ret
   exact zau.mk false rfl ⟨(fun h=>by cases h),fun h=>absurd (congrArg (fun z_:zaN=>z_.but) (hp_.out.1 h)) HN2.out⟩ HB.out
  |true=>
   have e_:=HZ.out.1 rfl
   clear HZ
   subst e_
   go_wp2_with fail
   go_ret
   exact zau.mk true rfl ⟨fun _=>hp_.out.2 (by first|rfl|trivial),fun _=>rfl⟩ HB.out
theorem zjy (va vb:Value) (l m:List zaN) (W:World) (ha:Hid (DAt W (fun _=>True) va (.row 3 (l.map zaN.cells)))) (hb:Hid (DAt W (fun _=>True) vb (.row 3 (m.map zaN.cells)))) (hn:l.length≤140737488355328) (_hm:m.length≤140737488355328) (hl: ∀z∈l,zbe z) (hk_: ∀z∈m,zbe z):
 Calls Tryz.prog 53 #[va,vb,.func (.func 33) #[] #[]] W fun e w'=>zau (l=m) W.heap.size W e w':=by
 obtain⟨A,c,rfl,hA⟩:=ha.out.slice
 obtain⟨B,d,rfl,hB⟩:=hb.out.slice
 have HA:=zaa hA
 have HB:=zaa hB
 clear hA hB ha hb
 rw[List.length_map]
 rw[List.length_map]
 by_cases hlen:l.length=m.length
 rotate_left
 ·have HN:=zaa hlen
  have hne1:=zaK hlen
  clear hlen
  go_enter Tryz.func53,Tryz.ntmps53
  go_wp2_with fail
  go_ret
  exact zau.mk false rfl ⟨(fun h=>by cases h),fun h=>absurd (congrArg List.length h) HN.out⟩ (Below.refl _ _)
 rw[←hlen]
 have HL:=zaa hlen
 clear hlen _hm
 go_enter Tryz.func53,Tryz.ntmps53
 go_wp2_with fail
 go_loopw [17] (fun v wr=> ∃k:Nat,k≤l.length∧v= .int .i64 k∧l.take k=m.take k∧Below W.heap.size W wr) (fun v _=>l.length-(intOf v).toNat)
 case atStart=>exact⟨0,by omega,rfl,rfl,Below.refl _ _⟩
 case round=>
  obtain⟨k,hk,rfl,ht,hbr⟩:=hrel
  have HBR:=zaa hbr
  have HT:=zaa ht
  clear hbr ht
  by_cases hlt:k<l.length
  rotate_left
  ·obtain rfl:k=l.length:=by omega
   clear hlt
   have HE:Hid (l=m):=zaa (by have h:=HT.out;rw[List.take_length,HL.out,List.take_length] at h;exact h)
   go_wp2_with fail
   go_ret
   exact zau.mk true rfl ⟨fun _=>HE.out,fun _=>rfl⟩ HBR.out
  have hlt2:k<m.length:=by have:=HL.out;omega
  obtain⟨x,hx⟩:=za9 hlt
  obtain⟨y,hy⟩:=za9 hlt2
  obtain⟨bA,oA,rfl,hbA,hcaA⟩:=HA.out.at_ hx
  obtain⟨uA0,a0,gA0⟩:=hcaA 0 _ rfl
  obtain rfl:=gA0.leaf_eq
  obtain⟨uA1,a1,gA1⟩:=hcaA 1 _ rfl
  obtain⟨uA2,a2,gA2⟩:=hcaA 2 _ rfl
  clear hcaA
  have a0:=zbH HBR.out hbA a0
  have a1:=zat HBR.out hbA a1
  have a2:=zat HBR.out hbA a2
  simp only[zaF] at a0 a1 a2
  obtain⟨bB,oB,rfl,hbB,hcaB⟩:=HB.out.at_ hy
  obtain⟨uB0,b0,gB0⟩:=hcaB 0 _ rfl
  obtain rfl:=gB0.leaf_eq
  obtain⟨uB1,b1,gB1⟩:=hcaB 1 _ rfl
  obtain⟨uB2,b2,gB2⟩:=hcaB 2 _ rfl
  clear hcaB
  have b0:=zbH HBR.out hbB b0
  have b1:=zat HBR.out hbB b1
  have b2:=zat HBR.out hbB b2
  simp only[zaF] at b0 b1 b2
  have k0:=kbZ k l.length
  have HX:=zaa hx
  have HY:=zaa hy
  clear hx hy hlt2
  have lbB:bB<wr.heap.size:=Nat.lt_of_lt_of_le hbB HBR.out.size
  have HU1:=zaa gA1
  have HV1:=zaa gB1
  obtain⟨A1,p1,rfl, -⟩:=gA1.slice
  obtain⟨B1,r1,rfl, -⟩:=gB1.slice
  simp only[List.length_map] at HU1 HV1 a1 b1
  have HU2:=zaa gA2
  have HV2:=zaa gB2
  obtain⟨A2,p2,rfl, -⟩:=gA2.slice
  obtain⟨B2,r2,rfl, -⟩:=gB2.slice
  rw[show(zao x.but).length=x.but.length by simp[zao]] at HU2 a2
  rw[show(zao y.but).length=y.but.length by simp[zao]] at HV2 b2
  have HBn:=zaa ((HBR.out.alloc HBR.out.size (.cells #[.string ⟨x.unit.toArray⟩,.slice A1 x.needs.length p1,.slice A2 x.but.length p2] 65)).alloc (HBR.out.alloc HBR.out.size _).size (.cells #[.string ⟨y.unit.toArray⟩,.slice B1 y.needs.length r1,.slice B2 y.but.length r2] 65))
  have HC:=zaa (zlh x y (x=y) (zaa Iff.rfl) [.string ⟨x.unit.toArray⟩,.slice A1 x.needs.length p1,.slice A2 x.but.length p2] [.string ⟨y.unit.toArray⟩,.slice B1 y.needs.length r1,.slice B2 y.but.length r2] ((wr.alloc (.cells #[.string ⟨x.unit.toArray⟩,.slice A1 x.needs.length p1,.slice A2 x.but.length p2] 65)).alloc (.cells #[.string ⟨y.unit.toArray⟩,.slice B1 y.needs.length r1,.slice B2 y.but.length r2] 65)) (zaa (zab.cons (.leaf _) (zab.cons (HU1.out.later HBn.out) (zab.cons (HU2.out.later HBn.out) zab.nil)))) (zaa (zab.cons (.leaf _) (zab.cons (HV1.out.later HBn.out) (zab.cons (HV2.out.later HBn.out) zab.nil)))) (hl x (List.mem_of_getElem? HX.out)) (hk_ y (List.mem_of_getElem? HY.out)))
  go_wp2_with fail
  refine HC.out.mono ?_
  rintro e w3 ⟨z,rfl,hz,hb3⟩
  have HB3:=zaa (btZ HBn.out hb3)
  have HZ:=zaa hz
  clear hb3 HC hz
  cases z with
  |false=>
   have HN2:=zaa (show¬(x=y) from fun h=>by cases HZ.out.2 h)
   clear HZ
   go_wp2_with fail
   go_ret
   exact zau.mk false rfl ⟨(fun h=>by cases h),fun h_=>absurd (by have h:=HX.out;rw[h_,HY.out] at h;exact(Option.some.inj h).symm) HN2.out⟩ HB3.out
  |true=>
   have HE2:=zaa (HZ.out.1 rfl)
   clear HZ
   go_wp2_with fail
   go_roundw
   case rel=>exact⟨k+1,by omega,by go_num,by rw[List.take_add_one,List.take_add_one,HX.out,HY.out,HT.out,HE2.out],HB3.out⟩
   case measure=>simp[intOf];omega
theorem zlR (x y:zaY) (p_:Prop) (hp_:Hid (p_↔x=y)) (us vs:List Value) (W:World) (ha:Hid (zab W (fun _=>True) us x.cells)) (hb:Hid (zab W (fun _=>True) vs y.cells)) (hl:zbJ x) (hm:zbJ y):
 Calls Tryz.prog 36 #[.agg us.toArray,.agg vs.toArray] W fun e w'=>zau p_ W.heap.size W e w':=by
 obtain⟨x_name,x_prio,x_period,x_limit,x_code⟩:=x
 obtain⟨y_name,y_prio,y_period,y_limit,y_code⟩:=y
 have hd:=ha.out
 have he:=hb.out
 obtain⟨u0,u1,u2,u3,u4,rfl,h0,h1,h2,h3,h4⟩:=dc5 hd
 obtain⟨v0,v1,v2,v3,v4,rfl,i0,i1,i2,i3,i4⟩:=dc5 he
 obtain rfl:=h0.leaf_eq
 obtain rfl:=i0.leaf_eq
 obtain rfl:=h1.leaf_eq
 obtain rfl:=i1.leaf_eq
 obtain rfl:=h2.leaf_eq
 obtain rfl:=i2.leaf_eq
 obtain rfl:=h3.leaf_eq
 obtain rfl:=i3.leaf_eq
 have HU4:=zaa h4
 have HV4:=zaa i4
 obtain⟨A4,p4,rfl, -⟩:=h4.slice
 obtain⟨B4,r4,rfl, -⟩:=i4.slice
 simp only[List.length_map] at HU4 HV4 ⊢
 clear ha hb hd he h0 i0 h1 i1 h2 i2 h3 i3 h4 i4
 simp only[zaF]
 by_cases e_:x_name=y_name
 rotate_left
 ·as_aux_lemma=>
   have HNE:=zaa e_
   have hne1:=zaw e_
   have hne2:=zaG e_
   clear e_
   have HB:=zaa (((Below.refl W.heap.size W).alloc (Nat.le_refl _) (.cells #[.string ⟨x_name.toArray⟩,.int .i64 x_prio,.int .i64 x_period,.int .i64 x_limit,.slice A4 x_code.length p4] 53)).alloc (by simp) (.cells #[.string ⟨y_name.toArray⟩,.int .i64 y_prio,.int .i64 y_period,.int .i64 y_limit,.slice B4 y_code.length r4] 53))
   go_enter Tryz.func36,Tryz.ntmps36
   go_wp2_with fail
   go_ret
   exact zau.mk false rfl ⟨(fun h=>by cases h),fun h=>absurd (congrArg (fun z_:zaY=>z_.name) (hp_.out.1 h)) HNE.out⟩ HB.out
 subst e_
 by_cases e_:x_prio=y_prio
 rotate_left
 ·as_aux_lemma=>
   have HNE:=zaa e_
   have hne1:=zaP e_
   have HB:=zaa (((Below.refl W.heap.size W).alloc (Nat.le_refl _) (.cells #[.string ⟨x_name.toArray⟩,.int .i64 x_prio,.int .i64 x_period,.int .i64 x_limit,.slice A4 x_code.length p4] 53)).alloc (by simp) (.cells #[.string ⟨x_name.toArray⟩,.int .i64 y_prio,.int .i64 y_period,.int .i64 y_limit,.slice B4 y_code.length r4] 53))
   go_enter Tryz.func36,Tryz.ntmps36
   go_wp2_with fail
   go_ret
   exact zau.mk false rfl ⟨(fun h=>by cases h),fun h=>absurd (congrArg (fun z_:zaY=>z_.prio) (hp_.out.1 h)) HNE.out⟩ HB.out
 subst e_
 by_cases e_:x_period=y_period
 rotate_left
 ·as_aux_lemma=>
   have HNE:=zaa e_
   have hne1:=zaP e_
   have HB:=zaa (((Below.refl W.heap.size W).alloc (Nat.le_refl _) (.cells #[.string ⟨x_name.toArray⟩,.int .i64 x_prio,.int .i64 x_period,.int .i64 x_limit,.slice A4 x_code.length p4] 53)).alloc (by simp) (.cells #[.string ⟨x_name.toArray⟩,.int .i64 x_prio,.int .i64 y_period,.int .i64 y_limit,.slice B4 y_code.length r4] 53))
   go_enter Tryz.func36,Tryz.ntmps36
   go_wp2_with fail
   go_ret
   exact zau.mk false rfl ⟨(fun h=>by cases h),fun h=>absurd (congrArg (fun z_:zaY=>z_.period) (hp_.out.1 h)) HNE.out⟩ HB.out
 subst e_
 by_cases e_:x_limit=y_limit
 rotate_left
 ·as_aux_lemma=>
   have HNE:=zaa e_
   have hne1:=zaP e_
   have HB:=zaa (((Below.refl W.heap.size W).alloc (Nat.le_refl _) (.cells #[.string ⟨x_name.toArray⟩,.int .i64 x_prio,.int .i64 x_period,.int .i64 x_limit,.slice A4 x_code.length p4] 53)).alloc (by simp) (.cells #[.string ⟨x_name.toArray⟩,.int .i64 x_prio,.int .i64 x_period,.int .i64 y_limit,.slice B4 y_code.length r4] 53))
   go_enter Tryz.func36,Tryz.ntmps36
   go_wp2_with fail
   go_ret
   exact zau.mk false rfl ⟨(fun h=>by cases h),fun h=>absurd (congrArg (fun z_:zaY=>z_.limit) (hp_.out.1 h)) HNE.out⟩ HB.out
 subst e_
 have HX:=zaa ((Below.heap_alloc (W.alloc (.cells #[.string ⟨x_name.toArray⟩,.int .i64 x_prio,.int .i64 x_period,.int .i64 x_limit,.slice A4 x_code.length p4] 53)) (.cells #[.string ⟨x_name.toArray⟩,.int .i64 x_prio,.int .i64 x_period,.int .i64 x_limit,.slice B4 y_code.length r4] 53) W.heap.size (by simp)).trans (heap_alloc_new W (.cells #[.string ⟨x_name.toArray⟩,.int .i64 x_prio,.int .i64 x_period,.int .i64 x_limit,.slice A4 x_code.length p4] 53)))
 have HY:=zaa (heap_alloc_new (W.alloc (.cells #[.string ⟨x_name.toArray⟩,.int .i64 x_prio,.int .i64 x_period,.int .i64 x_limit,.slice A4 x_code.length p4] 53)) (.cells #[.string ⟨x_name.toArray⟩,.int .i64 x_prio,.int .i64 x_period,.int .i64 x_limit,.slice B4 y_code.length r4] 53))
 have HB:=zaa (((Below.refl W.heap.size W).alloc (Nat.le_refl _) (.cells #[.string ⟨x_name.toArray⟩,.int .i64 x_prio,.int .i64 x_period,.int .i64 x_limit,.slice A4 x_code.length p4] 53)).alloc (by simp) (.cells #[.string ⟨x_name.toArray⟩,.int .i64 x_prio,.int .i64 x_period,.int .i64 x_limit,.slice B4 y_code.length r4] 53))
 have hzz:(W.alloc (.cells #[.string ⟨x_name.toArray⟩,.int .i64 x_prio,.int .i64 x_period,.int .i64 x_limit,.slice A4 x_code.length p4] 53)).heap.size=W.heap.size+1:=by simp
 rw[hzz] at HY
 go_enter Tryz.func36,Tryz.ntmps36
 go_wp2_with fail
 (try rw[hzz])
 clear hzz
 generalize(W.alloc _).alloc _=w0 at *
 have HC:=zaa (zlQ _ _ x_code y_code w0 (zaa (HU4.out.later HB.out)) (zaa (HV4.out.later HB.out)) hl.1 hm.1)
 refine HC.out.mono ?_
 rintro e w1 ⟨z,rfl,hz,hb⟩
 have HBn:=zaa (btZ HB.out hb)
 have HXn:=zaa (bkZ hb HX.out)
 have HYn:=zaa (bkZ hb HY.out)
 clear HB HX HY hb HC
 have HB:=HBn
 have HX:=HXn
 have HY:=HYn
 clear HBn HXn HYn
 have HZ:=zaa hz
 clear hz
 cases z with
 |false=>as_aux_lemma=>
  have HN2:=zaa (show¬(x_code=y_code) from fun h=>by cases HZ.out.2 h)
  clear HZ
  go_wp2_with fail
  go_ret
  exact zau.mk false rfl ⟨(fun h=>by cases h),fun h=>absurd (congrArg (fun z_:zaY=>z_.code) (hp_.out.1 h)) HN2.out⟩ HB.out
 |true=>
  have e_:=HZ.out.1 rfl
  clear HZ
  subst e_
  go_wp2_with fail
  go_ret
  exact zau.mk true rfl ⟨fun _=>hp_.out.2 (by first|rfl|trivial),fun _=>rfl⟩ HB.out
theorem zk1 (va vb:Value) (l m:List zaY) (W:World) (ha:Hid (DAt W (fun _=>True) va (.row 5 (l.map zaY.cells)))) (hb:Hid (DAt W (fun _=>True) vb (.row 5 (m.map zaY.cells)))) (hn:l.length≤140737488355328) (_hm:m.length≤140737488355328) (hl: ∀z∈l,zbJ z) (hk_: ∀z∈m,zbJ z):
 Calls Tryz.prog 41 #[va,vb,.func (.func 36) #[] #[]] W fun e w'=>zau (l=m) W.heap.size W e w':=by
 obtain⟨A,c,rfl,hA⟩:=ha.out.slice
 obtain⟨B,d,rfl,hB⟩:=hb.out.slice
 have HA:=zaa hA
 have HB:=zaa hB
 clear hA hB ha hb
 rw[List.length_map]
 rw[List.length_map]
 by_cases hlen:l.length=m.length
 rotate_left
 ·have HN:=zaa hlen
  have hne1:=zaK hlen
  clear hlen
  go_enter Tryz.func41,Tryz.ntmps41
  go_wp2_with fail
  go_ret
  exact zau.mk false rfl ⟨(fun h=>by cases h),fun h=>absurd (congrArg List.length h) HN.out⟩ (Below.refl _ _)
 rw[←hlen]
 have HL:=zaa hlen
 clear hlen _hm
 go_enter Tryz.func41,Tryz.ntmps41
 go_wp2_with fail
 go_loopw [17] (fun v wr=> ∃k:Nat,k≤l.length∧v= .int .i64 k∧l.take k=m.take k∧Below W.heap.size W wr) (fun v _=>l.length-(intOf v).toNat)
 case atStart=>exact⟨0,by omega,rfl,rfl,Below.refl _ _⟩
 case round=>
  obtain⟨k,hk,rfl,ht,hbr⟩:=hrel
  have HBR:=zaa hbr
  have HT:=zaa ht
  clear hbr ht
  by_cases hlt:k<l.length
  rotate_left
  ·obtain rfl:k=l.length:=by omega
   clear hlt
   have HE:Hid (l=m):=zaa (by have h:=HT.out;rw[List.take_length,HL.out,List.take_length] at h;exact h)
   go_wp2_with fail
   go_ret
   exact zau.mk true rfl ⟨fun _=>HE.out,fun _=>rfl⟩ HBR.out
  have hlt2:k<m.length:=by have:=HL.out;omega
  obtain⟨x,hx⟩:=za9 hlt
  obtain⟨y,hy⟩:=za9 hlt2
  obtain⟨bA,oA,rfl,hbA,hcaA⟩:=HA.out.at_ hx
  obtain⟨uA0,a0,gA0⟩:=hcaA 0 _ rfl
  obtain rfl:=gA0.leaf_eq
  obtain⟨uA1,a1,gA1⟩:=hcaA 1 _ rfl
  obtain rfl:=gA1.leaf_eq
  obtain⟨uA2,a2,gA2⟩:=hcaA 2 _ rfl
  obtain rfl:=gA2.leaf_eq
  obtain⟨uA3,a3,gA3⟩:=hcaA 3 _ rfl
  obtain rfl:=gA3.leaf_eq
  obtain⟨uA4,a4,gA4⟩:=hcaA 4 _ rfl
  clear hcaA
  have a0:=zbH HBR.out hbA a0
  have a1:=zat HBR.out hbA a1
  have a2:=zat HBR.out hbA a2
  have a3:=zat HBR.out hbA a3
  have a4:=zat HBR.out hbA a4
  simp only[zaF] at a0 a1 a2 a3 a4
  obtain⟨bB,oB,rfl,hbB,hcaB⟩:=HB.out.at_ hy
  obtain⟨uB0,b0,gB0⟩:=hcaB 0 _ rfl
  obtain rfl:=gB0.leaf_eq
  obtain⟨uB1,b1,gB1⟩:=hcaB 1 _ rfl
  obtain rfl:=gB1.leaf_eq
  obtain⟨uB2,b2,gB2⟩:=hcaB 2 _ rfl
  obtain rfl:=gB2.leaf_eq
  obtain⟨uB3,b3,gB3⟩:=hcaB 3 _ rfl
  obtain rfl:=gB3.leaf_eq
  obtain⟨uB4,b4,gB4⟩:=hcaB 4 _ rfl
  clear hcaB
  have b0:=zbH HBR.out hbB b0
  have b1:=zat HBR.out hbB b1
  have b2:=zat HBR.out hbB b2
  have b3:=zat HBR.out hbB b3
  have b4:=zat HBR.out hbB b4
  simp only[zaF] at b0 b1 b2 b3 b4
  have k0:=kbZ k l.length
  have HX:=zaa hx
  have HY:=zaa hy
  clear hx hy hlt2
  have lbB:bB<wr.heap.size:=Nat.lt_of_lt_of_le hbB HBR.out.size
  have HU4:=zaa gA4
  have HV4:=zaa gB4
  obtain⟨A4,p4,rfl, -⟩:=gA4.slice
  obtain⟨B4,r4,rfl, -⟩:=gB4.slice
  simp only[List.length_map] at HU4 HV4 a4 b4
  have HBn:=zaa ((HBR.out.alloc HBR.out.size (.cells #[.string ⟨x.name.toArray⟩,.int .i64 x.prio,.int .i64 x.period,.int .i64 x.limit,.slice A4 x.code.length p4] 53)).alloc (HBR.out.alloc HBR.out.size _).size (.cells #[.string ⟨y.name.toArray⟩,.int .i64 y.prio,.int .i64 y.period,.int .i64 y.limit,.slice B4 y.code.length r4] 53))
  have HC:=zaa (zlR x y (x=y) (zaa Iff.rfl) [.string ⟨x.name.toArray⟩,.int .i64 x.prio,.int .i64 x.period,.int .i64 x.limit,.slice A4 x.code.length p4] [.string ⟨y.name.toArray⟩,.int .i64 y.prio,.int .i64 y.period,.int .i64 y.limit,.slice B4 y.code.length r4] ((wr.alloc (.cells #[.string ⟨x.name.toArray⟩,.int .i64 x.prio,.int .i64 x.period,.int .i64 x.limit,.slice A4 x.code.length p4] 53)).alloc (.cells #[.string ⟨y.name.toArray⟩,.int .i64 y.prio,.int .i64 y.period,.int .i64 y.limit,.slice B4 y.code.length r4] 53)) (zaa (zab.cons (.leaf _) (zab.cons (.leaf _) (zab.cons (.leaf _) (zab.cons (.leaf _) (zab.cons (HU4.out.later HBn.out) zab.nil)))))) (zaa (zab.cons (.leaf _) (zab.cons (.leaf _) (zab.cons (.leaf _) (zab.cons (.leaf _) (zab.cons (HV4.out.later HBn.out) zab.nil)))))) (hl x (List.mem_of_getElem? HX.out)) (hk_ y (List.mem_of_getElem? HY.out)))
  go_wp2_with fail
  refine HC.out.mono ?_
  rintro e w3 ⟨z,rfl,hz,hb3⟩
  have HB3:=zaa (btZ HBn.out hb3)
  have HZ:=zaa hz
  clear hb3 HC hz
  cases z with
  |false=>
   have HN2:=zaa (show¬(x=y) from fun h=>by cases HZ.out.2 h)
   clear HZ
   go_wp2_with fail
   go_ret
   exact zau.mk false rfl ⟨(fun h=>by cases h),fun h_=>absurd (by have h:=HX.out;rw[h_,HY.out] at h;exact(Option.some.inj h).symm) HN2.out⟩ HB3.out
  |true=>
   have HE2:=zaa (HZ.out.1 rfl)
   clear HZ
   go_wp2_with fail
   go_roundw
   case rel=>exact⟨k+1,by omega,by go_num,by rw[List.take_add_one,List.take_add_one,HX.out,HY.out,HT.out,HE2.out],HB3.out⟩
   case measure=>simp[intOf];omega
theorem zlJ (q:Nat) (x y:zaM) (p_:Prop) (hp_:Hid (p_↔x=y)) (us vs:List Value) (W:World) (ha:Hid (zab W (fun _=>True) us x.cells)) (hb:Hid (zab W (fun _=>True) vs y.cells)) (hq:W.cell? ⟨q,0,none⟩=some (.func (.func 36) #[] #[])) (hl:zbv x) (hm:zbv y):
 Calls Tryz.prog 38 #[.agg us.toArray,.agg vs.toArray,.pointer (some ⟨q,0,none⟩)] W fun e w'=>zau p_ W.heap.size W e w':=by
 obtain⟨x_name,x_period,x_length,x_mem,x_semas,x_events,x_boards,x_bufs,x_ports,x_procs⟩:=x
 obtain⟨y_name,y_period,y_length,y_mem,y_semas,y_events,y_boards,y_bufs,y_ports,y_procs⟩:=y
 have hd:=ha.out
 have he:=hb.out
 obtain⟨u0,u1,u2,u3,u4,u5,u6,u7,u8,u9,rfl,h0,h1,h2,h3,h4,h5,h6,h7,h8,h9⟩:=zlF hd
 obtain⟨v0,v1,v2,v3,v4,v5,v6,v7,v8,v9,rfl,i0,i1,i2,i3,i4,i5,i6,i7,i8,i9⟩:=zlF he
 obtain rfl:=h0.leaf_eq
 obtain rfl:=i0.leaf_eq
 obtain rfl:=h1.leaf_eq
 obtain rfl:=i1.leaf_eq
 obtain rfl:=h2.leaf_eq
 obtain rfl:=i2.leaf_eq
 obtain rfl:=h3.leaf_eq
 obtain rfl:=i3.leaf_eq
 have HU4:=zaa h4
 have HV4:=zaa i4
 obtain⟨A4,p4,rfl, -⟩:=h4.slice
 obtain⟨B4,r4,rfl, -⟩:=i4.slice
 rw[show(zah x_semas).length=x_semas.length by simp[zah]] at HU4 ⊢
 rw[show(zah y_semas).length=y_semas.length by simp[zah]] at HV4 ⊢
 obtain rfl:=h5.leaf_eq
 obtain rfl:=i5.leaf_eq
 obtain rfl:=h6.leaf_eq
 obtain rfl:=i6.leaf_eq
 have HU7:=zaa h7
 have HV7:=zaa i7
 obtain⟨A7,p7,rfl, -⟩:=h7.slice
 obtain⟨B7,r7,rfl, -⟩:=i7.slice
 rw[show(zah x_bufs).length=x_bufs.length by simp[zah]] at HU7 ⊢
 rw[show(zah y_bufs).length=y_bufs.length by simp[zah]] at HV7 ⊢
 have HU8:=zaa h8
 have HV8:=zaa i8
 obtain⟨A8,p8,rfl, -⟩:=h8.slice
 obtain⟨B8,r8,rfl, -⟩:=i8.slice
 simp only[List.length_map] at HU8 HV8 ⊢
 have HU9:=zaa h9
 have HV9:=zaa i9
 obtain⟨A9,p9,rfl, -⟩:=h9.slice
 obtain⟨B9,r9,rfl, -⟩:=i9.slice
 simp only[List.length_map] at HU9 HV9 ⊢
 clear ha hb hd he h0 i0 h1 i1 h2 i2 h3 i3 h4 i4 h5 i5 h6 i6 h7 i7 h8 i8 h9 i9
 simp only[zaF]
 have hqb:=zbm hq
 by_cases e_:x_name=y_name
 rotate_left
 ·as_aux_lemma=>
   have HNE:=zaa e_
   have hne1:=zaw e_
   have hne2:=zaG e_
   clear e_
   have HB:=zaa (((Below.refl W.heap.size W).alloc (Nat.le_refl _) (.cells #[.string ⟨x_name.toArray⟩,.int .i64 x_period,.int .i64 x_length,.int .i64 x_mem,.slice A4 x_semas.length p4,.int .i64 x_events,.int .i64 x_boards,.slice A7 x_bufs.length p7,.slice A8 x_ports.length p8,.slice A9 x_procs.length p9] 49)).alloc (by simp) (.cells #[.string ⟨y_name.toArray⟩,.int .i64 y_period,.int .i64 y_length,.int .i64 y_mem,.slice B4 y_semas.length r4,.int .i64 y_events,.int .i64 y_boards,.slice B7 y_bufs.length r7,.slice B8 y_ports.length r8,.slice B9 y_procs.length r9] 49))
   go_enter Tryz.func38,Tryz.ntmps38
   go_wp2_with fail
   go_ret
   exact zau.mk false rfl ⟨(fun h=>by cases h),fun h=>absurd (congrArg (fun z_:zaM=>z_.name) (hp_.out.1 h)) HNE.out⟩ HB.out
 subst e_
 by_cases e_:x_period=y_period
 rotate_left
 ·as_aux_lemma=>
   have HNE:=zaa e_
   have hne1:=zaP e_
   have HB:=zaa (((Below.refl W.heap.size W).alloc (Nat.le_refl _) (.cells #[.string ⟨x_name.toArray⟩,.int .i64 x_period,.int .i64 x_length,.int .i64 x_mem,.slice A4 x_semas.length p4,.int .i64 x_events,.int .i64 x_boards,.slice A7 x_bufs.length p7,.slice A8 x_ports.length p8,.slice A9 x_procs.length p9] 49)).alloc (by simp) (.cells #[.string ⟨x_name.toArray⟩,.int .i64 y_period,.int .i64 y_length,.int .i64 y_mem,.slice B4 y_semas.length r4,.int .i64 y_events,.int .i64 y_boards,.slice B7 y_bufs.length r7,.slice B8 y_ports.length r8,.slice B9 y_procs.length r9] 49))
   go_enter Tryz.func38,Tryz.ntmps38
   go_wp2_with fail
   go_ret
   exact zau.mk false rfl ⟨(fun h=>by cases h),fun h=>absurd (congrArg (fun z_:zaM=>z_.period) (hp_.out.1 h)) HNE.out⟩ HB.out
 subst e_
 by_cases e_:x_length=y_length
 rotate_left
 ·as_aux_lemma=>
   have HNE:=zaa e_
   have hne1:=zaP e_
   have HB:=zaa (((Below.refl W.heap.size W).alloc (Nat.le_refl _) (.cells #[.string ⟨x_name.toArray⟩,.int .i64 x_period,.int .i64 x_length,.int .i64 x_mem,.slice A4 x_semas.length p4,.int .i64 x_events,.int .i64 x_boards,.slice A7 x_bufs.length p7,.slice A8 x_ports.length p8,.slice A9 x_procs.length p9] 49)).alloc (by simp) (.cells #[.string ⟨x_name.toArray⟩,.int .i64 x_period,.int .i64 y_length,.int .i64 y_mem,.slice B4 y_semas.length r4,.int .i64 y_events,.int .i64 y_boards,.slice B7 y_bufs.length r7,.slice B8 y_ports.length r8,.slice B9 y_procs.length r9] 49))
   go_enter Tryz.func38,Tryz.ntmps38
   go_wp2_with fail
   go_ret
   exact zau.mk false rfl ⟨(fun h=>by cases h),fun h=>absurd (congrArg (fun z_:zaM=>z_.length) (hp_.out.1 h)) HNE.out⟩ HB.out
 subst e_
 by_cases e_:x_mem=y_mem
 rotate_left
 ·as_aux_lemma=>
   have HNE:=zaa e_
   have hne1:=zaP e_
   have HB:=zaa (((Below.refl W.heap.size W).alloc (Nat.le_refl _) (.cells #[.string ⟨x_name.toArray⟩,.int .i64 x_period,.int .i64 x_length,.int .i64 x_mem,.slice A4 x_semas.length p4,.int .i64 x_events,.int .i64 x_boards,.slice A7 x_bufs.length p7,.slice A8 x_ports.length p8,.slice A9 x_procs.length p9] 49)).alloc (by simp) (.cells #[.string ⟨x_name.toArray⟩,.int .i64 x_period,.int .i64 x_length,.int .i64 y_mem,.slice B4 y_semas.length r4,.int .i64 y_events,.int .i64 y_boards,.slice B7 y_bufs.length r7,.slice B8 y_ports.length r8,.slice B9 y_procs.length r9] 49))
   go_enter Tryz.func38,Tryz.ntmps38
   go_wp2_with fail
   go_ret
   exact zau.mk false rfl ⟨(fun h=>by cases h),fun h=>absurd (congrArg (fun z_:zaM=>z_.mem) (hp_.out.1 h)) HNE.out⟩ HB.out
 subst e_
 have HX:=zaa ((Below.heap_alloc (W.alloc (.cells #[.string ⟨x_name.toArray⟩,.int .i64 x_period,.int .i64 x_length,.int .i64 x_mem,.slice A4 x_semas.length p4,.int .i64 x_events,.int .i64 x_boards,.slice A7 x_bufs.length p7,.slice A8 x_ports.length p8,.slice A9 x_procs.length p9] 49)) (.cells #[.string ⟨x_name.toArray⟩,.int .i64 x_period,.int .i64 x_length,.int .i64 x_mem,.slice B4 y_semas.length r4,.int .i64 y_events,.int .i64 y_boards,.slice B7 y_bufs.length r7,.slice B8 y_ports.length r8,.slice B9 y_procs.length r9] 49) W.heap.size (by simp)).trans (heap_alloc_new W (.cells #[.string ⟨x_name.toArray⟩,.int .i64 x_period,.int .i64 x_length,.int .i64 x_mem,.slice A4 x_semas.length p4,.int .i64 x_events,.int .i64 x_boards,.slice A7 x_bufs.length p7,.slice A8 x_ports.length p8,.slice A9 x_procs.length p9] 49)))
 have HY:=zaa (heap_alloc_new (W.alloc (.cells #[.string ⟨x_name.toArray⟩,.int .i64 x_period,.int .i64 x_length,.int .i64 x_mem,.slice A4 x_semas.length p4,.int .i64 x_events,.int .i64 x_boards,.slice A7 x_bufs.length p7,.slice A8 x_ports.length p8,.slice A9 x_procs.length p9] 49)) (.cells #[.string ⟨x_name.toArray⟩,.int .i64 x_period,.int .i64 x_length,.int .i64 x_mem,.slice B4 y_semas.length r4,.int .i64 y_events,.int .i64 y_boards,.slice B7 y_bufs.length r7,.slice B8 y_ports.length r8,.slice B9 y_procs.length r9] 49))
 have HB:=zaa (((Below.refl W.heap.size W).alloc (Nat.le_refl _) (.cells #[.string ⟨x_name.toArray⟩,.int .i64 x_period,.int .i64 x_length,.int .i64 x_mem,.slice A4 x_semas.length p4,.int .i64 x_events,.int .i64 x_boards,.slice A7 x_bufs.length p7,.slice A8 x_ports.length p8,.slice A9 x_procs.length p9] 49)).alloc (by simp) (.cells #[.string ⟨x_name.toArray⟩,.int .i64 x_period,.int .i64 x_length,.int .i64 x_mem,.slice B4 y_semas.length r4,.int .i64 y_events,.int .i64 y_boards,.slice B7 y_bufs.length r7,.slice B8 y_ports.length r8,.slice B9 y_procs.length r9] 49))
 have hzz:(W.alloc (.cells #[.string ⟨x_name.toArray⟩,.int .i64 x_period,.int .i64 x_length,.int .i64 x_mem,.slice A4 x_semas.length p4,.int .i64 x_events,.int .i64 x_boards,.slice A7 x_bufs.length p7,.slice A8 x_ports.length p8,.slice A9 x_procs.length p9] 49)).heap.size=W.heap.size+1:=by simp
 rw[hzz] at HY
 go_enter Tryz.func38,Tryz.ntmps38
 go_wp2_with fail
 (try rw[hzz])
 clear hzz
 generalize(W.alloc _).alloc _=w0 at *
 have HC:=zaa (zjq _ _ x_semas y_semas w0 (zaa (HU4.out.later HB.out)) (zaa (HV4.out.later HB.out)) hl.1 hm.1)
 refine HC.out.mono ?_
 rintro e w1 ⟨z,rfl,hz,hb⟩
 have HBn:=zaa (btZ HB.out hb)
 have HXn:=zaa (bkZ hb HX.out)
 have HYn:=zaa (bkZ hb HY.out)
 clear HB HX HY hb HC
 have HB:=HBn
 have HX:=HXn
 have HY:=HYn
 clear HBn HXn HYn
 have HZ:=zaa hz
 clear hz
 cases z with
 |false=>as_aux_lemma=>
  have HN2:=zaa (show¬(x_semas=y_semas) from fun h=>by cases HZ.out.2 h)
  clear HZ
  go_wp2_with fail
  go_ret
  exact zau.mk false rfl ⟨(fun h=>by cases h),fun h=>absurd (congrArg (fun z_:zaM=>z_.semas) (hp_.out.1 h)) HN2.out⟩ HB.out
 |true=>
  have e_:=HZ.out.1 rfl
  clear HZ
  subst e_
  by_cases e_:x_events=y_events
  rotate_left
  ·as_aux_lemma=>
    have HNE:=zaa e_
    have hne1:=zaP e_
    have a0:=cell_of_row _ _ 0 _ _ _ HX.out
    have b0:=cell_of_row _ _ 0 _ _ _ HY.out
    have a1:=cell_of_row _ _ 1 _ _ _ HX.out
    have b1:=cell_of_row _ _ 1 _ _ _ HY.out
    have a2:=cell_of_row _ _ 2 _ _ _ HX.out
    have b2:=cell_of_row _ _ 2 _ _ _ HY.out
    have a3:=cell_of_row _ _ 3 _ _ _ HX.out
    have b3:=cell_of_row _ _ 3 _ _ _ HY.out
    have a4:=cell_of_row _ _ 4 _ _ _ HX.out
    have b4:=cell_of_row _ _ 4 _ _ _ HY.out
    have a5:=cell_of_row _ _ 5 _ _ _ HX.out
    have b5:=cell_of_row _ _ 5 _ _ _ HY.out
    have a6:=cell_of_row _ _ 6 _ _ _ HX.out
    have b6:=cell_of_row _ _ 6 _ _ _ HY.out
    have a7:=cell_of_row _ _ 7 _ _ _ HX.out
    have b7:=cell_of_row _ _ 7 _ _ _ HY.out
    have a8:=cell_of_row _ _ 8 _ _ _ HX.out
    have b8:=cell_of_row _ _ 8 _ _ _ HY.out
    have a9:=cell_of_row _ _ 9 _ _ _ HX.out
    have b9:=cell_of_row _ _ 9 _ _ _ HY.out
    have cq:=zan HB.out hqb 0 hq
    go_wp2_with fail
    go_ret
    exact zau.mk false rfl ⟨(fun h=>by cases h),fun h=>absurd (congrArg (fun z_:zaM=>z_.events) (hp_.out.1 h)) HNE.out⟩ HB.out
  subst e_
  by_cases e_:x_boards=y_boards
  rotate_left
  ·as_aux_lemma=>
    have HNE:=zaa e_
    have hne1:=zaP e_
    have a0:=cell_of_row _ _ 0 _ _ _ HX.out
    have b0:=cell_of_row _ _ 0 _ _ _ HY.out
    have a1:=cell_of_row _ _ 1 _ _ _ HX.out
    have b1:=cell_of_row _ _ 1 _ _ _ HY.out
    have a2:=cell_of_row _ _ 2 _ _ _ HX.out
    have b2:=cell_of_row _ _ 2 _ _ _ HY.out
    have a3:=cell_of_row _ _ 3 _ _ _ HX.out
    have b3:=cell_of_row _ _ 3 _ _ _ HY.out
    have a4:=cell_of_row _ _ 4 _ _ _ HX.out
    have b4:=cell_of_row _ _ 4 _ _ _ HY.out
    have a5:=cell_of_row _ _ 5 _ _ _ HX.out
    have b5:=cell_of_row _ _ 5 _ _ _ HY.out
    have a6:=cell_of_row _ _ 6 _ _ _ HX.out
    have b6:=cell_of_row _ _ 6 _ _ _ HY.out
    have a7:=cell_of_row _ _ 7 _ _ _ HX.out
    have b7:=cell_of_row _ _ 7 _ _ _ HY.out
    have a8:=cell_of_row _ _ 8 _ _ _ HX.out
    have b8:=cell_of_row _ _ 8 _ _ _ HY.out
    have a9:=cell_of_row _ _ 9 _ _ _ HX.out
    have b9:=cell_of_row _ _ 9 _ _ _ HY.out
    have cq:=zan HB.out hqb 0 hq
    go_wp2_with fail
    go_ret
    exact zau.mk false rfl ⟨(fun h=>by cases h),fun h=>absurd (congrArg (fun z_:zaM=>z_.boards) (hp_.out.1 h)) HNE.out⟩ HB.out
  subst e_
  have a0:=cell_of_row _ _ 0 _ _ _ HX.out
  have b0:=cell_of_row _ _ 0 _ _ _ HY.out
  have a1:=cell_of_row _ _ 1 _ _ _ HX.out
  have b1:=cell_of_row _ _ 1 _ _ _ HY.out
  have a2:=cell_of_row _ _ 2 _ _ _ HX.out
  have b2:=cell_of_row _ _ 2 _ _ _ HY.out
  have a3:=cell_of_row _ _ 3 _ _ _ HX.out
  have b3:=cell_of_row _ _ 3 _ _ _ HY.out
  have a4:=cell_of_row _ _ 4 _ _ _ HX.out
  have b4:=cell_of_row _ _ 4 _ _ _ HY.out
  have a5:=cell_of_row _ _ 5 _ _ _ HX.out
  have b5:=cell_of_row _ _ 5 _ _ _ HY.out
  have a6:=cell_of_row _ _ 6 _ _ _ HX.out
  have b6:=cell_of_row _ _ 6 _ _ _ HY.out
  have a7:=cell_of_row _ _ 7 _ _ _ HX.out
  have b7:=cell_of_row _ _ 7 _ _ _ HY.out
  have a8:=cell_of_row _ _ 8 _ _ _ HX.out
  have b8:=cell_of_row _ _ 8 _ _ _ HY.out
  have a9:=cell_of_row _ _ 9 _ _ _ HX.out
  have b9:=cell_of_row _ _ 9 _ _ _ HY.out
  have cq:=zan HB.out hqb 0 hq
  go_wp2_with fail
  clear a0 b0 a1 b1 a2 b2 a3 b3 a4 b4 a5 b5 a6 b6 a7 b7 a8 b8 a9 b9 cq
  have HC:=zaa (zjq _ _ x_bufs y_bufs w1 (zaa (HU7.out.later HB.out)) (zaa (HV7.out.later HB.out)) hl.2.1 hm.2.1)
  refine HC.out.mono ?_
  rintro e w2 ⟨z,rfl,hz,hb⟩
  have HBn:=zaa (btZ HB.out hb)
  have HXn:=zaa (bkZ hb HX.out)
  have HYn:=zaa (bkZ hb HY.out)
  clear HB HX HY hb HC
  have HB:=HBn
  have HX:=HXn
  have HY:=HYn
  clear HBn HXn HYn
  have HZ:=zaa hz
  clear hz
  cases z with
  |false=>as_aux_lemma=>
   have HN2:=zaa (show¬(x_bufs=y_bufs) from fun h=>by cases HZ.out.2 h)
   clear HZ
   go_wp2_with fail
   go_ret
   exact zau.mk false rfl ⟨(fun h=>by cases h),fun h=>absurd (congrArg (fun z_:zaM=>z_.bufs) (hp_.out.1 h)) HN2.out⟩ HB.out
  |true=>
   have e_:=HZ.out.1 rfl
   clear HZ
   subst e_
   have a0:=cell_of_row _ _ 0 _ _ _ HX.out
   have b0:=cell_of_row _ _ 0 _ _ _ HY.out
   have a1:=cell_of_row _ _ 1 _ _ _ HX.out
   have b1:=cell_of_row _ _ 1 _ _ _ HY.out
   have a2:=cell_of_row _ _ 2 _ _ _ HX.out
   have b2:=cell_of_row _ _ 2 _ _ _ HY.out
   have a3:=cell_of_row _ _ 3 _ _ _ HX.out
   have b3:=cell_of_row _ _ 3 _ _ _ HY.out
   have a4:=cell_of_row _ _ 4 _ _ _ HX.out
   have b4:=cell_of_row _ _ 4 _ _ _ HY.out
   have a5:=cell_of_row _ _ 5 _ _ _ HX.out
   have b5:=cell_of_row _ _ 5 _ _ _ HY.out
   have a6:=cell_of_row _ _ 6 _ _ _ HX.out
   have b6:=cell_of_row _ _ 6 _ _ _ HY.out
   have a7:=cell_of_row _ _ 7 _ _ _ HX.out
   have b7:=cell_of_row _ _ 7 _ _ _ HY.out
   have a8:=cell_of_row _ _ 8 _ _ _ HX.out
   have b8:=cell_of_row _ _ 8 _ _ _ HY.out
   have a9:=cell_of_row _ _ 9 _ _ _ HX.out
   have b9:=cell_of_row _ _ 9 _ _ _ HY.out
   have cq:=zan HB.out hqb 0 hq
   go_wp2_with fail
   clear a0 b0 a1 b1 a2 b2 a3 b3 a4 b4 a5 b5 a6 b6 a7 b7 a8 b8 a9 b9 cq
   have HC:=zaa (zkR _ _ x_ports y_ports w2 (zaa (HU8.out.later HB.out)) (zaa (HV8.out.later HB.out)) hl.2.2.1 hm.2.2.1)
   refine HC.out.mono ?_
   rintro e w3 ⟨z,rfl,hz,hb⟩
   have HBn:=zaa (btZ HB.out hb)
   have HXn:=zaa (bkZ hb HX.out)
   have HYn:=zaa (bkZ hb HY.out)
   clear HB HX HY hb HC
   have HB:=HBn
   have HX:=HXn
   have HY:=HYn
   clear HBn HXn HYn
   have HZ:=zaa hz
   clear hz
   cases z with
   |false=>as_aux_lemma=>
    have HN2:=zaa (show¬(x_ports=y_ports) from fun h=>by cases HZ.out.2 h)
    clear HZ
    go_wp2_with fail
    go_ret
    exact zau.mk false rfl ⟨(fun h=>by cases h),fun h=>absurd (congrArg (fun z_:zaM=>z_.ports) (hp_.out.1 h)) HN2.out⟩ HB.out
   |true=>
    have e_:=HZ.out.1 rfl
    clear HZ
    subst e_
    have a0:=cell_of_row _ _ 0 _ _ _ HX.out
    have b0:=cell_of_row _ _ 0 _ _ _ HY.out
    have a1:=cell_of_row _ _ 1 _ _ _ HX.out
    have b1:=cell_of_row _ _ 1 _ _ _ HY.out
    have a2:=cell_of_row _ _ 2 _ _ _ HX.out
    have b2:=cell_of_row _ _ 2 _ _ _ HY.out
    have a3:=cell_of_row _ _ 3 _ _ _ HX.out
    have b3:=cell_of_row _ _ 3 _ _ _ HY.out
    have a4:=cell_of_row _ _ 4 _ _ _ HX.out
    have b4:=cell_of_row _ _ 4 _ _ _ HY.out
    have a5:=cell_of_row _ _ 5 _ _ _ HX.out
    have b5:=cell_of_row _ _ 5 _ _ _ HY.out
    have a6:=cell_of_row _ _ 6 _ _ _ HX.out
    have b6:=cell_of_row _ _ 6 _ _ _ HY.out
    have a7:=cell_of_row _ _ 7 _ _ _ HX.out
    have b7:=cell_of_row _ _ 7 _ _ _ HY.out
    have a8:=cell_of_row _ _ 8 _ _ _ HX.out
    have b8:=cell_of_row _ _ 8 _ _ _ HY.out
    have a9:=cell_of_row _ _ 9 _ _ _ HX.out
    have b9:=cell_of_row _ _ 9 _ _ _ HY.out
    have cq:=zan HB.out hqb 0 hq
    go_wp2_with fail
    clear a0 b0 a1 b1 a2 b2 a3 b3 a4 b4 a5 b5 a6 b6 a7 b7 a8 b8 a9 b9 cq
    have HC:=zaa (zk1 _ _ x_procs y_procs w3 (zaa (HU9.out.later HB.out)) (zaa (HV9.out.later HB.out)) hl.2.2.2.1 hm.2.2.2.1 (fun z hz=>hl.2.2.2.2 z hz) (fun z hz=>hm.2.2.2.2 z hz))
    refine HC.out.mono ?_
    rintro e w4 ⟨z,rfl,hz,hb⟩
    have HBn:=zaa (btZ HB.out hb)
    have HXn:=zaa (bkZ hb HX.out)
    have HYn:=zaa (bkZ hb HY.out)
    clear HB HX HY hb HC
    have HB:=HBn
    have HX:=HXn
    have HY:=HYn
    clear HBn HXn HYn
    have HZ:=zaa hz
    clear hz
    cases z with
    |false=>as_aux_lemma=>
     have HN2:=zaa (show¬(x_procs=y_procs) from fun h=>by cases HZ.out.2 h)
     clear HZ
     go_wp2_with fail
     go_ret
     exact zau.mk false rfl ⟨(fun h=>by cases h),fun h=>absurd (congrArg (fun z_:zaM=>z_.procs) (hp_.out.1 h)) HN2.out⟩ HB.out
    |true=>
     have e_:=HZ.out.1 rfl
     clear HZ
     subst e_
     go_wp2_with fail
     go_ret
     exact zau.mk true rfl ⟨fun _=>hp_.out.2 (by first|rfl|trivial),fun _=>rfl⟩ HB.out
theorem zjX (q:Nat) (va vb:Value) (l m:List zaM) (W:World) (ha:Hid (DAt W (fun _=>True) va (.row 10 (l.map zaM.cells)))) (hb:Hid (DAt W (fun _=>True) vb (.row 10 (m.map zaM.cells)))) (hn:l.length≤140737488355328) (_hm:m.length≤140737488355328) (hl: ∀z∈l,zbv z) (hk_: ∀z∈m,zbv z) (hq:W.cell? ⟨q,0,none⟩=some (.func (.func 36) #[] #[])):
 Calls Tryz.prog 43 #[va,vb,.func (.func 38) #[] #[.pointer (some ⟨q,0,none⟩)]] W fun e w'=>zau (l=m) W.heap.size W e w':=by
 have hqb:=zbm hq
 obtain⟨A,c,rfl,hA⟩:=ha.out.slice
 obtain⟨B,d,rfl,hB⟩:=hb.out.slice
 have HA:=zaa hA
 have HB:=zaa hB
 clear hA hB ha hb
 rw[List.length_map]
 rw[List.length_map]
 by_cases hlen:l.length=m.length
 rotate_left
 ·have HN:=zaa hlen
  have hne1:=zaK hlen
  clear hlen
  go_enter Tryz.func43,Tryz.ntmps43
  go_wp2_with fail
  go_ret
  exact zau.mk false rfl ⟨(fun h=>by cases h),fun h=>absurd (congrArg List.length h) HN.out⟩ (Below.refl _ _)
 rw[←hlen]
 have HL:=zaa hlen
 clear hlen _hm
 go_enter Tryz.func43,Tryz.ntmps43
 go_wp2_with fail
 go_loopw [17] (fun v wr=> ∃k:Nat,k≤l.length∧v= .int .i64 k∧l.take k=m.take k∧Below W.heap.size W wr) (fun v _=>l.length-(intOf v).toNat)
 case atStart=>exact⟨0,by omega,rfl,rfl,Below.refl _ _⟩
 case round=>
  obtain⟨k,hk,rfl,ht,hbr⟩:=hrel
  have HBR:=zaa hbr
  have HT:=zaa ht
  clear hbr ht
  by_cases hlt:k<l.length
  rotate_left
  ·obtain rfl:k=l.length:=by omega
   clear hlt
   have HE:Hid (l=m):=zaa (by have h:=HT.out;rw[List.take_length,HL.out,List.take_length] at h;exact h)
   go_wp2_with fail
   go_ret
   exact zau.mk true rfl ⟨fun _=>HE.out,fun _=>rfl⟩ HBR.out
  have hlt2:k<m.length:=by have:=HL.out;omega
  obtain⟨x,hx⟩:=za9 hlt
  obtain⟨y,hy⟩:=za9 hlt2
  obtain⟨bA,oA,rfl,hbA,hcaA⟩:=HA.out.at_ hx
  obtain⟨uA0,a0,gA0⟩:=hcaA 0 _ rfl
  obtain rfl:=gA0.leaf_eq
  obtain⟨uA1,a1,gA1⟩:=hcaA 1 _ rfl
  obtain rfl:=gA1.leaf_eq
  obtain⟨uA2,a2,gA2⟩:=hcaA 2 _ rfl
  obtain rfl:=gA2.leaf_eq
  obtain⟨uA3,a3,gA3⟩:=hcaA 3 _ rfl
  obtain rfl:=gA3.leaf_eq
  obtain⟨uA4,a4,gA4⟩:=hcaA 4 _ rfl
  obtain⟨uA5,a5,gA5⟩:=hcaA 5 _ rfl
  obtain rfl:=gA5.leaf_eq
  obtain⟨uA6,a6,gA6⟩:=hcaA 6 _ rfl
  obtain rfl:=gA6.leaf_eq
  obtain⟨uA7,a7,gA7⟩:=hcaA 7 _ rfl
  obtain⟨uA8,a8,gA8⟩:=hcaA 8 _ rfl
  obtain⟨uA9,a9,gA9⟩:=hcaA 9 _ rfl
  clear hcaA
  have a0:=zbH HBR.out hbA a0
  have a1:=zat HBR.out hbA a1
  have a2:=zat HBR.out hbA a2
  have a3:=zat HBR.out hbA a3
  have a4:=zat HBR.out hbA a4
  have a5:=zat HBR.out hbA a5
  have a6:=zat HBR.out hbA a6
  have a7:=zat HBR.out hbA a7
  have a8:=zat HBR.out hbA a8
  have a9:=zat HBR.out hbA a9
  simp only[zaF] at a0 a1 a2 a3 a4 a5 a6 a7 a8 a9
  obtain⟨bB,oB,rfl,hbB,hcaB⟩:=HB.out.at_ hy
  obtain⟨uB0,b0,gB0⟩:=hcaB 0 _ rfl
  obtain rfl:=gB0.leaf_eq
  obtain⟨uB1,b1,gB1⟩:=hcaB 1 _ rfl
  obtain rfl:=gB1.leaf_eq
  obtain⟨uB2,b2,gB2⟩:=hcaB 2 _ rfl
  obtain rfl:=gB2.leaf_eq
  obtain⟨uB3,b3,gB3⟩:=hcaB 3 _ rfl
  obtain rfl:=gB3.leaf_eq
  obtain⟨uB4,b4,gB4⟩:=hcaB 4 _ rfl
  obtain⟨uB5,b5,gB5⟩:=hcaB 5 _ rfl
  obtain rfl:=gB5.leaf_eq
  obtain⟨uB6,b6,gB6⟩:=hcaB 6 _ rfl
  obtain rfl:=gB6.leaf_eq
  obtain⟨uB7,b7,gB7⟩:=hcaB 7 _ rfl
  obtain⟨uB8,b8,gB8⟩:=hcaB 8 _ rfl
  obtain⟨uB9,b9,gB9⟩:=hcaB 9 _ rfl
  clear hcaB
  have b0:=zbH HBR.out hbB b0
  have b1:=zat HBR.out hbB b1
  have b2:=zat HBR.out hbB b2
  have b3:=zat HBR.out hbB b3
  have b4:=zat HBR.out hbB b4
  have b5:=zat HBR.out hbB b5
  have b6:=zat HBR.out hbB b6
  have b7:=zat HBR.out hbB b7
  have b8:=zat HBR.out hbB b8
  have b9:=zat HBR.out hbB b9
  simp only[zaF] at b0 b1 b2 b3 b4 b5 b6 b7 b8 b9
  have k0:=kbZ k l.length
  have HX:=zaa hx
  have HY:=zaa hy
  clear hx hy hlt2
  have lbB:bB<wr.heap.size:=Nat.lt_of_lt_of_le hbB HBR.out.size
  have HU4:=zaa gA4
  have HV4:=zaa gB4
  obtain⟨A4,p4,rfl, -⟩:=gA4.slice
  obtain⟨B4,r4,rfl, -⟩:=gB4.slice
  rw[show(zah x.semas).length=x.semas.length by simp[zah]] at HU4 a4
  rw[show(zah y.semas).length=y.semas.length by simp[zah]] at HV4 b4
  have HU7:=zaa gA7
  have HV7:=zaa gB7
  obtain⟨A7,p7,rfl, -⟩:=gA7.slice
  obtain⟨B7,r7,rfl, -⟩:=gB7.slice
  rw[show(zah x.bufs).length=x.bufs.length by simp[zah]] at HU7 a7
  rw[show(zah y.bufs).length=y.bufs.length by simp[zah]] at HV7 b7
  have HU8:=zaa gA8
  have HV8:=zaa gB8
  obtain⟨A8,p8,rfl, -⟩:=gA8.slice
  obtain⟨B8,r8,rfl, -⟩:=gB8.slice
  simp only[List.length_map] at HU8 HV8 a8 b8
  have HU9:=zaa gA9
  have HV9:=zaa gB9
  obtain⟨A9,p9,rfl, -⟩:=gA9.slice
  obtain⟨B9,r9,rfl, -⟩:=gB9.slice
  simp only[List.length_map] at HU9 HV9 a9 b9
  have HBn:=zaa ((HBR.out.alloc HBR.out.size (.cells #[.string ⟨x.name.toArray⟩,.int .i64 x.period,.int .i64 x.length,.int .i64 x.mem,.slice A4 x.semas.length p4,.int .i64 x.events,.int .i64 x.boards,.slice A7 x.bufs.length p7,.slice A8 x.ports.length p8,.slice A9 x.procs.length p9] 49)).alloc (HBR.out.alloc HBR.out.size _).size (.cells #[.string ⟨y.name.toArray⟩,.int .i64 y.period,.int .i64 y.length,.int .i64 y.mem,.slice B4 y.semas.length r4,.int .i64 y.events,.int .i64 y.boards,.slice B7 y.bufs.length r7,.slice B8 y.ports.length r8,.slice B9 y.procs.length r9] 49))
  have HC:=zaa (zlJ q x y (x=y) (zaa Iff.rfl) [.string ⟨x.name.toArray⟩,.int .i64 x.period,.int .i64 x.length,.int .i64 x.mem,.slice A4 x.semas.length p4,.int .i64 x.events,.int .i64 x.boards,.slice A7 x.bufs.length p7,.slice A8 x.ports.length p8,.slice A9 x.procs.length p9] [.string ⟨y.name.toArray⟩,.int .i64 y.period,.int .i64 y.length,.int .i64 y.mem,.slice B4 y.semas.length r4,.int .i64 y.events,.int .i64 y.boards,.slice B7 y.bufs.length r7,.slice B8 y.ports.length r8,.slice B9 y.procs.length r9] ((wr.alloc (.cells #[.string ⟨x.name.toArray⟩,.int .i64 x.period,.int .i64 x.length,.int .i64 x.mem,.slice A4 x.semas.length p4,.int .i64 x.events,.int .i64 x.boards,.slice A7 x.bufs.length p7,.slice A8 x.ports.length p8,.slice A9 x.procs.length p9] 49)).alloc (.cells #[.string ⟨y.name.toArray⟩,.int .i64 y.period,.int .i64 y.length,.int .i64 y.mem,.slice B4 y.semas.length r4,.int .i64 y.events,.int .i64 y.boards,.slice B7 y.bufs.length r7,.slice B8 y.ports.length r8,.slice B9 y.procs.length r9] 49)) (zaa (zab.cons (.leaf _) (zab.cons (.leaf _) (zab.cons (.leaf _) (zab.cons (.leaf _) (zab.cons (HU4.out.later HBn.out) (zab.cons (.leaf _) (zab.cons (.leaf _) (zab.cons (HU7.out.later HBn.out) (zab.cons (HU8.out.later HBn.out) (zab.cons (HU9.out.later HBn.out) zab.nil))))))))))) (zaa (zab.cons (.leaf _) (zab.cons (.leaf _) (zab.cons (.leaf _) (zab.cons (.leaf _) (zab.cons (HV4.out.later HBn.out) (zab.cons (.leaf _) (zab.cons (.leaf _) (zab.cons (HV7.out.later HBn.out) (zab.cons (HV8.out.later HBn.out) (zab.cons (HV9.out.later HBn.out) zab.nil))))))))))) ((HBn.out.cell (p:=⟨q,0,none⟩) hqb).trans hq) (hl x (List.mem_of_getElem? HX.out)) (hk_ y (List.mem_of_getElem? HY.out)))
  go_wp2_with fail
  refine HC.out.mono ?_
  rintro e w3 ⟨z,rfl,hz,hb3⟩
  have HB3:=zaa (btZ HBn.out hb3)
  have HZ:=zaa hz
  clear hb3 HC hz
  cases z with
  |false=>
   have HN2:=zaa (show¬(x=y) from fun h=>by cases HZ.out.2 h)
   clear HZ
   go_wp2_with fail
   go_ret
   exact zau.mk false rfl ⟨(fun h=>by cases h),fun h_=>absurd (by have h:=HX.out;rw[h_,HY.out] at h;exact(Option.some.inj h).symm) HN2.out⟩ HB3.out
  |true=>
   have HE2:=zaa (HZ.out.1 rfl)
   clear HZ
   go_wp2_with fail
   go_roundw
   case rel=>exact⟨k+1,by omega,by go_num,by rw[List.take_add_one,List.take_add_one,HX.out,HY.out,HT.out,HE2.out],HB3.out⟩
   case measure=>simp[intOf];omega
theorem zny (q r:Nat) (x y:zcl) (p_:Prop) (hp_:Hid (p_↔x=y)) (us vs:List Value) (W:World) (ha:Hid (zab W (fun _=>True) us x.cells)) (hb:Hid (zab W (fun _=>True) vs y.cells)) (hq:W.cell? ⟨q,0,none⟩=some (.func (.func 38) #[] #[.pointer (some ⟨r,0,none⟩)])) (hr:W.cell? ⟨r,0,none⟩=some (.func (.func 36) #[] #[])) (hl:zb8 x) (hm:zb8 y):
 Calls Tryz.prog 42 #[.agg us.toArray,.agg vs.toArray,.pointer (some ⟨q,0,none⟩)] W fun e w'=>zau p_ W.heap.size W e w':=by
 obtain⟨x_name,x_mem,x_frame,x_parts⟩:=x
 obtain⟨y_name,y_mem,y_frame,y_parts⟩:=y
 have hd:=ha.out
 have he:=hb.out
 obtain⟨u0,u1,u2,u3,rfl,h0,h1,h2,h3⟩:=dc4 hd
 obtain⟨v0,v1,v2,v3,rfl,i0,i1,i2,i3⟩:=dc4 he
 obtain rfl:=h0.leaf_eq
 obtain rfl:=i0.leaf_eq
 obtain rfl:=h1.leaf_eq
 obtain rfl:=i1.leaf_eq
 obtain rfl:=h2.leaf_eq
 obtain rfl:=i2.leaf_eq
 have HU3:=zaa h3
 have HV3:=zaa i3
 obtain⟨A3,p3,rfl, -⟩:=h3.slice
 obtain⟨B3,r3,rfl, -⟩:=i3.slice
 simp only[List.length_map] at HU3 HV3 ⊢
 clear ha hb hd he h0 i0 h1 i1 h2 i2 h3 i3
 simp only[zaF]
 have hqb:=zbm hq
 have hrb:=zbm hr
 by_cases e_:x_name=y_name
 rotate_left
 ·as_aux_lemma=>
   have HNE:=zaa e_
   have hne1:=zaw e_
   have hne2:=zaG e_
   clear e_
   have HB:=zaa (((Below.refl W.heap.size W).alloc (Nat.le_refl _) (.cells #[.string ⟨x_name.toArray⟩,.int .i64 x_mem,.int .i64 x_frame,.slice A3 x_parts.length p3] 44)).alloc (by simp) (.cells #[.string ⟨y_name.toArray⟩,.int .i64 y_mem,.int .i64 y_frame,.slice B3 y_parts.length r3] 44))
   go_enter Tryz.func42,Tryz.ntmps42
   go_wp2_with fail
   go_ret
   exact zau.mk false rfl ⟨(fun h=>by cases h),fun h=>absurd (congrArg (fun z_:zcl=>z_.name) (hp_.out.1 h)) HNE.out⟩ HB.out
 subst e_
 by_cases e_:x_mem=y_mem
 rotate_left
 ·as_aux_lemma=>
   have HNE:=zaa e_
   have hne1:=zaP e_
   have HB:=zaa (((Below.refl W.heap.size W).alloc (Nat.le_refl _) (.cells #[.string ⟨x_name.toArray⟩,.int .i64 x_mem,.int .i64 x_frame,.slice A3 x_parts.length p3] 44)).alloc (by simp) (.cells #[.string ⟨x_name.toArray⟩,.int .i64 y_mem,.int .i64 y_frame,.slice B3 y_parts.length r3] 44))
   go_enter Tryz.func42,Tryz.ntmps42
   go_wp2_with fail
   go_ret
   exact zau.mk false rfl ⟨(fun h=>by cases h),fun h=>absurd (congrArg (fun z_:zcl=>z_.mem) (hp_.out.1 h)) HNE.out⟩ HB.out
 subst e_
 by_cases e_:x_frame=y_frame
 rotate_left
 ·as_aux_lemma=>
   have HNE:=zaa e_
   have hne1:=zaP e_
   have HB:=zaa (((Below.refl W.heap.size W).alloc (Nat.le_refl _) (.cells #[.string ⟨x_name.toArray⟩,.int .i64 x_mem,.int .i64 x_frame,.slice A3 x_parts.length p3] 44)).alloc (by simp) (.cells #[.string ⟨x_name.toArray⟩,.int .i64 x_mem,.int .i64 y_frame,.slice B3 y_parts.length r3] 44))
   go_enter Tryz.func42,Tryz.ntmps42
   go_wp2_with fail
   go_ret
   exact zau.mk false rfl ⟨(fun h=>by cases h),fun h=>absurd (congrArg (fun z_:zcl=>z_.frame) (hp_.out.1 h)) HNE.out⟩ HB.out
 subst e_
 have HX:=zaa ((Below.heap_alloc (W.alloc (.cells #[.string ⟨x_name.toArray⟩,.int .i64 x_mem,.int .i64 x_frame,.slice A3 x_parts.length p3] 44)) (.cells #[.string ⟨x_name.toArray⟩,.int .i64 x_mem,.int .i64 x_frame,.slice B3 y_parts.length r3] 44) W.heap.size (by simp)).trans (heap_alloc_new W (.cells #[.string ⟨x_name.toArray⟩,.int .i64 x_mem,.int .i64 x_frame,.slice A3 x_parts.length p3] 44)))
 have HY:=zaa (heap_alloc_new (W.alloc (.cells #[.string ⟨x_name.toArray⟩,.int .i64 x_mem,.int .i64 x_frame,.slice A3 x_parts.length p3] 44)) (.cells #[.string ⟨x_name.toArray⟩,.int .i64 x_mem,.int .i64 x_frame,.slice B3 y_parts.length r3] 44))
 have HB:=zaa (((Below.refl W.heap.size W).alloc (Nat.le_refl _) (.cells #[.string ⟨x_name.toArray⟩,.int .i64 x_mem,.int .i64 x_frame,.slice A3 x_parts.length p3] 44)).alloc (by simp) (.cells #[.string ⟨x_name.toArray⟩,.int .i64 x_mem,.int .i64 x_frame,.slice B3 y_parts.length r3] 44))
 have hzz:(W.alloc (.cells #[.string ⟨x_name.toArray⟩,.int .i64 x_mem,.int .i64 x_frame,.slice A3 x_parts.length p3] 44)).heap.size=W.heap.size+1:=by simp
 rw[hzz] at HY
 go_enter Tryz.func42,Tryz.ntmps42
 go_wp2_with fail
 (try rw[hzz])
 clear hzz
 generalize(W.alloc _).alloc _=w0 at *
 have HC:=zaa (zjX r _ _ x_parts y_parts w0 (zaa (HU3.out.later HB.out)) (zaa (HV3.out.later HB.out)) hl.1 hm.1 (fun z hz=>hl.2 z hz) (fun z hz=>hm.2 z hz) ((HB.out.cell (p:=⟨r,0,none⟩) hrb).trans hr))
 refine HC.out.mono ?_
 rintro e w1 ⟨z,rfl,hz,hb⟩
 have HBn:=zaa (btZ HB.out hb)
 have HXn:=zaa (bkZ hb HX.out)
 have HYn:=zaa (bkZ hb HY.out)
 clear HB HX HY hb HC
 have HB:=HBn
 have HX:=HXn
 have HY:=HYn
 clear HBn HXn HYn
 have HZ:=zaa hz
 clear hz
 cases z with
 |false=>as_aux_lemma=>
  have HN2:=zaa (show¬(x_parts=y_parts) from fun h=>by cases HZ.out.2 h)
  clear HZ
  go_wp2_with fail
  go_ret
  exact zau.mk false rfl ⟨(fun h=>by cases h),fun h=>absurd (congrArg (fun z_:zcl=>z_.parts) (hp_.out.1 h)) HN2.out⟩ HB.out
 |true=>
  have e_:=HZ.out.1 rfl
  clear HZ
  subst e_
  go_wp2_with fail
  go_ret
  exact zau.mk true rfl ⟨fun _=>hp_.out.2 (by first|rfl|trivial),fun _=>rfl⟩ HB.out
theorem zmU (q r:Nat) (va vb:Value) (l m:List zcl) (W:World) (ha:Hid (DAt W (fun _=>True) va (.row 4 (l.map zcl.cells)))) (hb:Hid (DAt W (fun _=>True) vb (.row 4 (m.map zcl.cells)))) (hn:l.length≤140737488355328) (_hm:m.length≤140737488355328) (hl: ∀z∈l,zb8 z) (hk_: ∀z∈m,zb8 z) (hq:W.cell? ⟨q,0,none⟩=some (.func (.func 38) #[] #[.pointer (some ⟨r,0,none⟩)])) (hr:W.cell? ⟨r,0,none⟩=some (.func (.func 36) #[] #[])):
 Calls Tryz.prog 47 #[va,vb,.func (.func 42) #[] #[.pointer (some ⟨q,0,none⟩)]] W fun e w'=>zau (l=m) W.heap.size W e w':=by
 have hqb:=zbm hq
 have hrb:=zbm hr
 obtain⟨A,c,rfl,hA⟩:=ha.out.slice
 obtain⟨B,d,rfl,hB⟩:=hb.out.slice
 have HA:=zaa hA
 have HB:=zaa hB
 clear hA hB ha hb
 rw[List.length_map]
 rw[List.length_map]
 by_cases hlen:l.length=m.length
 rotate_left
 ·have HN:=zaa hlen
  have hne1:=zaK hlen
  clear hlen
  go_enter Tryz.func47,Tryz.ntmps47
  go_wp2_with fail
  go_ret
  exact zau.mk false rfl ⟨(fun h=>by cases h),fun h=>absurd (congrArg List.length h) HN.out⟩ (Below.refl _ _)
 rw[←hlen]
 have HL:=zaa hlen
 clear hlen _hm
 go_enter Tryz.func47,Tryz.ntmps47
 go_wp2_with fail
 go_loopw [17] (fun v wr=> ∃k:Nat,k≤l.length∧v= .int .i64 k∧l.take k=m.take k∧Below W.heap.size W wr) (fun v _=>l.length-(intOf v).toNat)
 case atStart=>exact⟨0,by omega,rfl,rfl,Below.refl _ _⟩
 case round=>
  obtain⟨k,hk,rfl,ht,hbr⟩:=hrel
  have HBR:=zaa hbr
  have HT:=zaa ht
  clear hbr ht
  by_cases hlt:k<l.length
  rotate_left
  ·obtain rfl:k=l.length:=by omega
   clear hlt
   have HE:Hid (l=m):=zaa (by have h:=HT.out;rw[List.take_length,HL.out,List.take_length] at h;exact h)
   go_wp2_with fail
   go_ret
   exact zau.mk true rfl ⟨fun _=>HE.out,fun _=>rfl⟩ HBR.out
  have hlt2:k<m.length:=by have:=HL.out;omega
  obtain⟨x,hx⟩:=za9 hlt
  obtain⟨y,hy⟩:=za9 hlt2
  obtain⟨bA,oA,rfl,hbA,hcaA⟩:=HA.out.at_ hx
  obtain⟨uA0,a0,gA0⟩:=hcaA 0 _ rfl
  obtain rfl:=gA0.leaf_eq
  obtain⟨uA1,a1,gA1⟩:=hcaA 1 _ rfl
  obtain rfl:=gA1.leaf_eq
  obtain⟨uA2,a2,gA2⟩:=hcaA 2 _ rfl
  obtain rfl:=gA2.leaf_eq
  obtain⟨uA3,a3,gA3⟩:=hcaA 3 _ rfl
  clear hcaA
  have a0:=zbH HBR.out hbA a0
  have a1:=zat HBR.out hbA a1
  have a2:=zat HBR.out hbA a2
  have a3:=zat HBR.out hbA a3
  simp only[zaF] at a0 a1 a2 a3
  obtain⟨bB,oB,rfl,hbB,hcaB⟩:=HB.out.at_ hy
  obtain⟨uB0,b0,gB0⟩:=hcaB 0 _ rfl
  obtain rfl:=gB0.leaf_eq
  obtain⟨uB1,b1,gB1⟩:=hcaB 1 _ rfl
  obtain rfl:=gB1.leaf_eq
  obtain⟨uB2,b2,gB2⟩:=hcaB 2 _ rfl
  obtain rfl:=gB2.leaf_eq
  obtain⟨uB3,b3,gB3⟩:=hcaB 3 _ rfl
  clear hcaB
  have b0:=zbH HBR.out hbB b0
  have b1:=zat HBR.out hbB b1
  have b2:=zat HBR.out hbB b2
  have b3:=zat HBR.out hbB b3
  simp only[zaF] at b0 b1 b2 b3
  have k0:=kbZ k l.length
  have HX:=zaa hx
  have HY:=zaa hy
  clear hx hy hlt2
  have lbB:bB<wr.heap.size:=Nat.lt_of_lt_of_le hbB HBR.out.size
  have HU3:=zaa gA3
  have HV3:=zaa gB3
  obtain⟨A3,p3,rfl, -⟩:=gA3.slice
  obtain⟨B3,r3,rfl, -⟩:=gB3.slice
  simp only[List.length_map] at HU3 HV3 a3 b3
  have HBn:=zaa ((HBR.out.alloc HBR.out.size (.cells #[.string ⟨x.name.toArray⟩,.int .i64 x.mem,.int .i64 x.frame,.slice A3 x.parts.length p3] 44)).alloc (HBR.out.alloc HBR.out.size _).size (.cells #[.string ⟨y.name.toArray⟩,.int .i64 y.mem,.int .i64 y.frame,.slice B3 y.parts.length r3] 44))
  have HC:=zaa (zny q r x y (x=y) (zaa Iff.rfl) [.string ⟨x.name.toArray⟩,.int .i64 x.mem,.int .i64 x.frame,.slice A3 x.parts.length p3] [.string ⟨y.name.toArray⟩,.int .i64 y.mem,.int .i64 y.frame,.slice B3 y.parts.length r3] ((wr.alloc (.cells #[.string ⟨x.name.toArray⟩,.int .i64 x.mem,.int .i64 x.frame,.slice A3 x.parts.length p3] 44)).alloc (.cells #[.string ⟨y.name.toArray⟩,.int .i64 y.mem,.int .i64 y.frame,.slice B3 y.parts.length r3] 44)) (zaa (zab.cons (.leaf _) (zab.cons (.leaf _) (zab.cons (.leaf _) (zab.cons (HU3.out.later HBn.out) zab.nil))))) (zaa (zab.cons (.leaf _) (zab.cons (.leaf _) (zab.cons (.leaf _) (zab.cons (HV3.out.later HBn.out) zab.nil))))) ((HBn.out.cell (p:=⟨q,0,none⟩) hqb).trans hq) ((HBn.out.cell (p:=⟨r,0,none⟩) hrb).trans hr) (hl x (List.mem_of_getElem? HX.out)) (hk_ y (List.mem_of_getElem? HY.out)))
  go_wp2_with fail
  refine HC.out.mono ?_
  rintro e w3 ⟨z,rfl,hz,hb3⟩
  have HB3:=zaa (btZ HBn.out hb3)
  have HZ:=zaa hz
  clear hb3 HC hz
  cases z with
  |false=>
   have HN2:=zaa (show¬(x=y) from fun h=>by cases HZ.out.2 h)
   clear HZ
   go_wp2_with fail
   go_ret
   exact zau.mk false rfl ⟨(fun h=>by cases h),fun h_=>absurd (by have h:=HX.out;rw[h_,HY.out] at h;exact(Option.some.inj h).symm) HN2.out⟩ HB3.out
  |true=>
   have HE2:=zaa (HZ.out.1 rfl)
   clear HZ
   go_wp2_with fail
   go_roundw
   case rel=>exact⟨k+1,by omega,by go_num,by rw[List.take_add_one,List.take_add_one,HX.out,HY.out,HT.out,HE2.out],HB3.out⟩
   case measure=>simp[intOf];omega
theorem zl6 (x y:zbd) (p_:Prop) (hp_:Hid (p_↔x=y)) (us vs:List Value) (W:World) (ha:Hid (zab W (fun _=>True) us x.cells)) (hb:Hid (zab W (fun _=>True) vs y.cells)) (hl:x.to.length≤140737488355328) (hm:y.to.length≤140737488355328):
 Calls Tryz.prog 44 #[.agg us.toArray,.agg vs.toArray] W fun e w'=>zau p_ W.heap.size W e w':=by
 obtain⟨⟨x_fm,x_fp,x_fo⟩,x_to⟩:=x
 obtain⟨⟨y_fm,y_fp,y_fo⟩,y_to⟩:=y
 have hd:=ha.out
 have he:=hb.out
 obtain⟨u0,u1,u2,u3,rfl,h0,h1,h2,h3⟩:=dc4 hd
 obtain⟨v0,v1,v2,v3,rfl,i0,i1,i2,i3⟩:=dc4 he
 obtain rfl:=h0.leaf_eq
 obtain rfl:=i0.leaf_eq
 obtain rfl:=h1.leaf_eq
 obtain rfl:=i1.leaf_eq
 obtain rfl:=h2.leaf_eq
 obtain rfl:=i2.leaf_eq
 have HU3:=zaa h3
 have HV3:=zaa i3
 obtain⟨A3,p3,rfl, -⟩:=h3.slice
 obtain⟨B3,r3,rfl, -⟩:=i3.slice
 simp only[List.length_map] at HU3 HV3 ⊢
 clear ha hb hd he h0 i0 h1 i1 h2 i2 h3 i3
 simp only[zaF]
 by_cases e_:x_fm=y_fm
 rotate_left
 ·as_aux_lemma=>
   have HNE:=zaa e_
   have hne1:=zaw e_
   have hne2:=zaG e_
   clear e_
   have HB:=zaa (((Below.refl W.heap.size W).alloc (Nat.le_refl _) (.cells #[.string ⟨x_fm.toArray⟩,.string ⟨x_fp.toArray⟩,.string ⟨x_fo.toArray⟩,.slice A3 x_to.length p3] 58)).alloc (by simp) (.cells #[.string ⟨y_fm.toArray⟩,.string ⟨y_fp.toArray⟩,.string ⟨y_fo.toArray⟩,.slice B3 y_to.length r3] 58))
   go_enter Tryz.func44,Tryz.ntmps44
   go_wp2_with fail
   go_ret
   exact zau.mk false rfl ⟨(fun h=>by cases h),fun h=>absurd (congrArg (fun z_:zbd=>z_.from_.m) (hp_.out.1 h)) HNE.out⟩ HB.out
 subst e_
 by_cases e_:x_fp=y_fp
 rotate_left
 ·as_aux_lemma=>
   have HNE:=zaa e_
   have hne1:=zaw e_
   have hne2:=zaG e_
   clear e_
   have HB:=zaa (((Below.refl W.heap.size W).alloc (Nat.le_refl _) (.cells #[.string ⟨x_fm.toArray⟩,.string ⟨x_fp.toArray⟩,.string ⟨x_fo.toArray⟩,.slice A3 x_to.length p3] 58)).alloc (by simp) (.cells #[.string ⟨x_fm.toArray⟩,.string ⟨y_fp.toArray⟩,.string ⟨y_fo.toArray⟩,.slice B3 y_to.length r3] 58))
   go_enter Tryz.func44,Tryz.ntmps44
   go_wp2_with fail
   go_ret
   exact zau.mk false rfl ⟨(fun h=>by cases h),fun h=>absurd (congrArg (fun z_:zbd=>z_.from_.p) (hp_.out.1 h)) HNE.out⟩ HB.out
 subst e_
 by_cases e_:x_fo=y_fo
 rotate_left
 ·as_aux_lemma=>
   have HNE:=zaa e_
   have hne1:=zaw e_
   have hne2:=zaG e_
   clear e_
   have HB:=zaa (((Below.refl W.heap.size W).alloc (Nat.le_refl _) (.cells #[.string ⟨x_fm.toArray⟩,.string ⟨x_fp.toArray⟩,.string ⟨x_fo.toArray⟩,.slice A3 x_to.length p3] 58)).alloc (by simp) (.cells #[.string ⟨x_fm.toArray⟩,.string ⟨x_fp.toArray⟩,.string ⟨y_fo.toArray⟩,.slice B3 y_to.length r3] 58))
   go_enter Tryz.func44,Tryz.ntmps44
   go_wp2_with fail
   go_ret
   exact zau.mk false rfl ⟨(fun h=>by cases h),fun h=>absurd (congrArg (fun z_:zbd=>z_.from_.o) (hp_.out.1 h)) HNE.out⟩ HB.out
 subst e_
 have HX:=zaa ((Below.heap_alloc (W.alloc (.cells #[.string ⟨x_fm.toArray⟩,.string ⟨x_fp.toArray⟩,.string ⟨x_fo.toArray⟩,.slice A3 x_to.length p3] 58)) (.cells #[.string ⟨x_fm.toArray⟩,.string ⟨x_fp.toArray⟩,.string ⟨x_fo.toArray⟩,.slice B3 y_to.length r3] 58) W.heap.size (by simp)).trans (heap_alloc_new W (.cells #[.string ⟨x_fm.toArray⟩,.string ⟨x_fp.toArray⟩,.string ⟨x_fo.toArray⟩,.slice A3 x_to.length p3] 58)))
 have HY:=zaa (heap_alloc_new (W.alloc (.cells #[.string ⟨x_fm.toArray⟩,.string ⟨x_fp.toArray⟩,.string ⟨x_fo.toArray⟩,.slice A3 x_to.length p3] 58)) (.cells #[.string ⟨x_fm.toArray⟩,.string ⟨x_fp.toArray⟩,.string ⟨x_fo.toArray⟩,.slice B3 y_to.length r3] 58))
 have HB:=zaa (((Below.refl W.heap.size W).alloc (Nat.le_refl _) (.cells #[.string ⟨x_fm.toArray⟩,.string ⟨x_fp.toArray⟩,.string ⟨x_fo.toArray⟩,.slice A3 x_to.length p3] 58)).alloc (by simp) (.cells #[.string ⟨x_fm.toArray⟩,.string ⟨x_fp.toArray⟩,.string ⟨x_fo.toArray⟩,.slice B3 y_to.length r3] 58))
 have hzz:(W.alloc (.cells #[.string ⟨x_fm.toArray⟩,.string ⟨x_fp.toArray⟩,.string ⟨x_fo.toArray⟩,.slice A3 x_to.length p3] 58)).heap.size=W.heap.size+1:=by simp
 rw[hzz] at HY
 go_enter Tryz.func44,Tryz.ntmps44
 go_wp2_with fail
 (try rw[hzz])
 clear hzz
 generalize(W.alloc _).alloc _=w0 at *
 have HC:=zaa (zjK _ _ x_to y_to w0 (zaa (HU3.out.later HB.out)) (zaa (HV3.out.later HB.out)) hl hm)
 refine HC.out.mono ?_
 rintro e w1 ⟨z,rfl,hz,hb⟩
 have HBn:=zaa (btZ HB.out hb)
 have HXn:=zaa (bkZ hb HX.out)
 have HYn:=zaa (bkZ hb HY.out)
 clear HB HX HY hb HC
 have HB:=HBn
 have HX:=HXn
 have HY:=HYn
 clear HBn HXn HYn
 have HZ:=zaa hz
 clear hz
 cases z with
 |false=>as_aux_lemma=>
  have HN2:=zaa (show¬(x_to=y_to) from fun h=>by cases HZ.out.2 h)
  clear HZ
  go_wp2_with fail
  go_ret
  exact zau.mk false rfl ⟨(fun h=>by cases h),fun h=>absurd (congrArg (fun z_:zbd=>z_.to) (hp_.out.1 h)) HN2.out⟩ HB.out
 |true=>
  have e_:=HZ.out.1 rfl
  clear HZ
  subst e_
  go_wp2_with fail
  go_ret
  exact zau.mk true rfl ⟨fun _=>hp_.out.2 (by first|rfl|trivial),fun _=>rfl⟩ HB.out
theorem zj7 (va vb:Value) (l m:List zbd) (W:World) (ha:Hid (DAt W (fun _=>True) va (.row 4 (l.map zbd.cells)))) (hb:Hid (DAt W (fun _=>True) vb (.row 4 (m.map zbd.cells)))) (hn:l.length≤140737488355328) (_hm:m.length≤140737488355328) (hl: ∀z∈l,z.to.length≤140737488355328) (hk_: ∀z∈m,z.to.length≤140737488355328):
 Calls Tryz.prog 48 #[va,vb,.func (.func 44) #[] #[]] W fun e w'=>zau (l=m) W.heap.size W e w':=by
 obtain⟨A,c,rfl,hA⟩:=ha.out.slice
 obtain⟨B,d,rfl,hB⟩:=hb.out.slice
 have HA:=zaa hA
 have HB:=zaa hB
 clear hA hB ha hb
 rw[List.length_map]
 rw[List.length_map]
 by_cases hlen:l.length=m.length
 rotate_left
 ·have HN:=zaa hlen
  have hne1:=zaK hlen
  clear hlen
  go_enter Tryz.func48,Tryz.ntmps48
  go_wp2_with fail
  go_ret
  exact zau.mk false rfl ⟨(fun h=>by cases h),fun h=>absurd (congrArg List.length h) HN.out⟩ (Below.refl _ _)
 rw[←hlen]
 have HL:=zaa hlen
 clear hlen _hm
 go_enter Tryz.func48,Tryz.ntmps48
 go_wp2_with fail
 go_loopw [17] (fun v wr=> ∃k:Nat,k≤l.length∧v= .int .i64 k∧l.take k=m.take k∧Below W.heap.size W wr) (fun v _=>l.length-(intOf v).toNat)
 case atStart=>exact⟨0,by omega,rfl,rfl,Below.refl _ _⟩
 case round=>
  obtain⟨k,hk,rfl,ht,hbr⟩:=hrel
  have HBR:=zaa hbr
  have HT:=zaa ht
  clear hbr ht
  by_cases hlt:k<l.length
  rotate_left
  ·obtain rfl:k=l.length:=by omega
   clear hlt
   have HE:Hid (l=m):=zaa (by have h:=HT.out;rw[List.take_length,HL.out,List.take_length] at h;exact h)
   go_wp2_with fail
   go_ret
   exact zau.mk true rfl ⟨fun _=>HE.out,fun _=>rfl⟩ HBR.out
  have hlt2:k<m.length:=by have:=HL.out;omega
  obtain⟨x,hx⟩:=za9 hlt
  obtain⟨y,hy⟩:=za9 hlt2
  obtain⟨bA,oA,rfl,hbA,hcaA⟩:=HA.out.at_ hx
  obtain⟨uA0,a0,gA0⟩:=hcaA 0 _ rfl
  obtain rfl:=gA0.leaf_eq
  obtain⟨uA1,a1,gA1⟩:=hcaA 1 _ rfl
  obtain rfl:=gA1.leaf_eq
  obtain⟨uA2,a2,gA2⟩:=hcaA 2 _ rfl
  obtain rfl:=gA2.leaf_eq
  obtain⟨uA3,a3,gA3⟩:=hcaA 3 _ rfl
  clear hcaA
  have a0:=zbH HBR.out hbA a0
  have a1:=zat HBR.out hbA a1
  have a2:=zat HBR.out hbA a2
  have a3:=zat HBR.out hbA a3
  simp only[zaF] at a0 a1 a2 a3
  obtain⟨bB,oB,rfl,hbB,hcaB⟩:=HB.out.at_ hy
  obtain⟨uB0,b0,gB0⟩:=hcaB 0 _ rfl
  obtain rfl:=gB0.leaf_eq
  obtain⟨uB1,b1,gB1⟩:=hcaB 1 _ rfl
  obtain rfl:=gB1.leaf_eq
  obtain⟨uB2,b2,gB2⟩:=hcaB 2 _ rfl
  obtain rfl:=gB2.leaf_eq
  obtain⟨uB3,b3,gB3⟩:=hcaB 3 _ rfl
  clear hcaB
  have b0:=zbH HBR.out hbB b0
  have b1:=zat HBR.out hbB b1
  have b2:=zat HBR.out hbB b2
  have b3:=zat HBR.out hbB b3
  simp only[zaF] at b0 b1 b2 b3
  have k0:=kbZ k l.length
  have HX:=zaa hx
  have HY:=zaa hy
  clear hx hy hlt2
  have lbB:bB<wr.heap.size:=Nat.lt_of_lt_of_le hbB HBR.out.size
  have HU3:=zaa gA3
  have HV3:=zaa gB3
  obtain⟨A3,p3,rfl, -⟩:=gA3.slice
  obtain⟨B3,r3,rfl, -⟩:=gB3.slice
  simp only[List.length_map] at HU3 HV3 a3 b3
  have HBn:=zaa ((HBR.out.alloc HBR.out.size (.cells #[.string ⟨x.from_.m.toArray⟩,.string ⟨x.from_.p.toArray⟩,.string ⟨x.from_.o.toArray⟩,.slice A3 x.to.length p3] 58)).alloc (HBR.out.alloc HBR.out.size _).size (.cells #[.string ⟨y.from_.m.toArray⟩,.string ⟨y.from_.p.toArray⟩,.string ⟨y.from_.o.toArray⟩,.slice B3 y.to.length r3] 58))
  have HC:=zaa (zl6 x y (x=y) (zaa Iff.rfl) [.string ⟨x.from_.m.toArray⟩,.string ⟨x.from_.p.toArray⟩,.string ⟨x.from_.o.toArray⟩,.slice A3 x.to.length p3] [.string ⟨y.from_.m.toArray⟩,.string ⟨y.from_.p.toArray⟩,.string ⟨y.from_.o.toArray⟩,.slice B3 y.to.length r3] ((wr.alloc (.cells #[.string ⟨x.from_.m.toArray⟩,.string ⟨x.from_.p.toArray⟩,.string ⟨x.from_.o.toArray⟩,.slice A3 x.to.length p3] 58)).alloc (.cells #[.string ⟨y.from_.m.toArray⟩,.string ⟨y.from_.p.toArray⟩,.string ⟨y.from_.o.toArray⟩,.slice B3 y.to.length r3] 58)) (zaa (zab.cons (.leaf _) (zab.cons (.leaf _) (zab.cons (.leaf _) (zab.cons (HU3.out.later HBn.out) zab.nil))))) (zaa (zab.cons (.leaf _) (zab.cons (.leaf _) (zab.cons (.leaf _) (zab.cons (HV3.out.later HBn.out) zab.nil))))) (hl x (List.mem_of_getElem? HX.out)) (hk_ y (List.mem_of_getElem? HY.out)))
  go_wp2_with fail
  refine HC.out.mono ?_
  rintro e w3 ⟨z,rfl,hz,hb3⟩
  have HB3:=zaa (btZ HBn.out hb3)
  have HZ:=zaa hz
  clear hb3 HC hz
  cases z with
  |false=>
   have HN2:=zaa (show¬(x=y) from fun h=>by cases HZ.out.2 h)
   clear HZ
   go_wp2_with fail
   go_ret
   exact zau.mk false rfl ⟨(fun h=>by cases h),fun h_=>absurd (by have h:=HX.out;rw[h_,HY.out] at h;exact(Option.some.inj h).symm) HN2.out⟩ HB3.out
  |true=>
   have HE2:=zaa (HZ.out.1 rfl)
   clear HZ
   go_wp2_with fail
   go_roundw
   case rel=>exact⟨k+1,by omega,by go_num,by rw[List.take_add_one,List.take_add_one,HX.out,HY.out,HT.out,HE2.out],HB3.out⟩
   case measure=>simp[intOf];omega
theorem zoJ (x y:VlD) (p_:Prop) (hp_:Hid (p_↔x=y)) (us vs:List Value) (W:World) (ha:Hid (zab W (fun _=>True) us x.cells)) (hb:Hid (zab W (fun _=>True) vs y.cells)) (hl:x.to.length≤140737488355328) (hm:y.to.length≤140737488355328):
 Calls Tryz.prog 46 #[.agg us.toArray,.agg vs.toArray] W fun e w'=>zau p_ W.heap.size W e w':=by
 obtain⟨x_name,⟨x_fm,x_fp,x_fo⟩,x_bag,x_max,x_to⟩:=x
 obtain⟨y_name,⟨y_fm,y_fp,y_fo⟩,y_bag,y_max,y_to⟩:=y
 have hd:=ha.out
 have he:=hb.out
 obtain⟨u0,u1,u2,u3,u4,u5,u6,rfl,h0,h1,h2,h3,h4,h5,h6⟩:=dc7 hd
 obtain⟨v0,v1,v2,v3,v4,v5,v6,rfl,i0,i1,i2,i3,i4,i5,i6⟩:=dc7 he
 obtain rfl:=h0.leaf_eq
 obtain rfl:=i0.leaf_eq
 obtain rfl:=h1.leaf_eq
 obtain rfl:=i1.leaf_eq
 obtain rfl:=h2.leaf_eq
 obtain rfl:=i2.leaf_eq
 obtain rfl:=h3.leaf_eq
 obtain rfl:=i3.leaf_eq
 obtain rfl:=h4.leaf_eq
 obtain rfl:=i4.leaf_eq
 obtain rfl:=h5.leaf_eq
 obtain rfl:=i5.leaf_eq
 have HU6:=zaa h6
 have HV6:=zaa i6
 obtain⟨A6,p6,rfl, -⟩:=h6.slice
 obtain⟨B6,r6,rfl, -⟩:=i6.slice
 simp only[List.length_map] at HU6 HV6 ⊢
 clear ha hb hd he h0 i0 h1 i1 h2 i2 h3 i3 h4 i4 h5 i5 h6 i6
 simp only[zaF]
 by_cases e_:x_name=y_name
 rotate_left
 ·as_aux_lemma=>
   have HNE:=zaa e_
   have hne1:=zaw e_
   have hne2:=zaG e_
   clear e_
   have HB:=zaa (((Below.refl W.heap.size W).alloc (Nat.le_refl _) (.cells #[.string ⟨x_name.toArray⟩,.string ⟨x_fm.toArray⟩,.string ⟨x_fp.toArray⟩,.string ⟨x_fo.toArray⟩,.int .i64 x_bag,.int .i64 x_max,.slice A6 x_to.length p6] 61)).alloc (by simp) (.cells #[.string ⟨y_name.toArray⟩,.string ⟨y_fm.toArray⟩,.string ⟨y_fp.toArray⟩,.string ⟨y_fo.toArray⟩,.int .i64 y_bag,.int .i64 y_max,.slice B6 y_to.length r6] 61))
   go_enter Tryz.func46,Tryz.ntmps46
   go_wp2_with fail
   go_ret
   exact zau.mk false rfl ⟨(fun h=>by cases h),fun h=>absurd (congrArg (fun z_:VlD=>z_.name) (hp_.out.1 h)) HNE.out⟩ HB.out
 subst e_
 by_cases e_:x_fm=y_fm
 rotate_left
 ·as_aux_lemma=>
   have HNE:=zaa e_
   have hne1:=zaw e_
   have hne2:=zaG e_
   clear e_
   have HB:=zaa (((Below.refl W.heap.size W).alloc (Nat.le_refl _) (.cells #[.string ⟨x_name.toArray⟩,.string ⟨x_fm.toArray⟩,.string ⟨x_fp.toArray⟩,.string ⟨x_fo.toArray⟩,.int .i64 x_bag,.int .i64 x_max,.slice A6 x_to.length p6] 61)).alloc (by simp) (.cells #[.string ⟨x_name.toArray⟩,.string ⟨y_fm.toArray⟩,.string ⟨y_fp.toArray⟩,.string ⟨y_fo.toArray⟩,.int .i64 y_bag,.int .i64 y_max,.slice B6 y_to.length r6] 61))
   go_enter Tryz.func46,Tryz.ntmps46
   go_wp2_with fail
   go_ret
   exact zau.mk false rfl ⟨(fun h=>by cases h),fun h=>absurd (congrArg (fun z_:VlD=>z_.from_.m) (hp_.out.1 h)) HNE.out⟩ HB.out
 subst e_
 by_cases e_:x_fp=y_fp
 rotate_left
 ·as_aux_lemma=>
   have HNE:=zaa e_
   have hne1:=zaw e_
   have hne2:=zaG e_
   clear e_
   have HB:=zaa (((Below.refl W.heap.size W).alloc (Nat.le_refl _) (.cells #[.string ⟨x_name.toArray⟩,.string ⟨x_fm.toArray⟩,.string ⟨x_fp.toArray⟩,.string ⟨x_fo.toArray⟩,.int .i64 x_bag,.int .i64 x_max,.slice A6 x_to.length p6] 61)).alloc (by simp) (.cells #[.string ⟨x_name.toArray⟩,.string ⟨x_fm.toArray⟩,.string ⟨y_fp.toArray⟩,.string ⟨y_fo.toArray⟩,.int .i64 y_bag,.int .i64 y_max,.slice B6 y_to.length r6] 61))
   go_enter Tryz.func46,Tryz.ntmps46
   go_wp2_with fail
   go_ret
   exact zau.mk false rfl ⟨(fun h=>by cases h),fun h=>absurd (congrArg (fun z_:VlD=>z_.from_.p) (hp_.out.1 h)) HNE.out⟩ HB.out
 subst e_
 by_cases e_:x_fo=y_fo
 rotate_left
 ·as_aux_lemma=>
   have HNE:=zaa e_
   have hne1:=zaw e_
   have hne2:=zaG e_
   clear e_
   have HB:=zaa (((Below.refl W.heap.size W).alloc (Nat.le_refl _) (.cells #[.string ⟨x_name.toArray⟩,.string ⟨x_fm.toArray⟩,.string ⟨x_fp.toArray⟩,.string ⟨x_fo.toArray⟩,.int .i64 x_bag,.int .i64 x_max,.slice A6 x_to.length p6] 61)).alloc (by simp) (.cells #[.string ⟨x_name.toArray⟩,.string ⟨x_fm.toArray⟩,.string ⟨x_fp.toArray⟩,.string ⟨y_fo.toArray⟩,.int .i64 y_bag,.int .i64 y_max,.slice B6 y_to.length r6] 61))
   go_enter Tryz.func46,Tryz.ntmps46
   go_wp2_with fail
   go_ret
   exact zau.mk false rfl ⟨(fun h=>by cases h),fun h=>absurd (congrArg (fun z_:VlD=>z_.from_.o) (hp_.out.1 h)) HNE.out⟩ HB.out
 subst e_
 by_cases e_:x_bag=y_bag
 rotate_left
 ·as_aux_lemma=>
   have HNE:=zaa e_
   have hne1:=zaP e_
   have HB:=zaa (((Below.refl W.heap.size W).alloc (Nat.le_refl _) (.cells #[.string ⟨x_name.toArray⟩,.string ⟨x_fm.toArray⟩,.string ⟨x_fp.toArray⟩,.string ⟨x_fo.toArray⟩,.int .i64 x_bag,.int .i64 x_max,.slice A6 x_to.length p6] 61)).alloc (by simp) (.cells #[.string ⟨x_name.toArray⟩,.string ⟨x_fm.toArray⟩,.string ⟨x_fp.toArray⟩,.string ⟨x_fo.toArray⟩,.int .i64 y_bag,.int .i64 y_max,.slice B6 y_to.length r6] 61))
   go_enter Tryz.func46,Tryz.ntmps46
   go_wp2_with fail
   go_ret
   exact zau.mk false rfl ⟨(fun h=>by cases h),fun h=>absurd (congrArg (fun z_:VlD=>z_.bag) (hp_.out.1 h)) HNE.out⟩ HB.out
 subst e_
 by_cases e_:x_max=y_max
 rotate_left
 ·as_aux_lemma=>
   have HNE:=zaa e_
   have hne1:=zaP e_
   have HB:=zaa (((Below.refl W.heap.size W).alloc (Nat.le_refl _) (.cells #[.string ⟨x_name.toArray⟩,.string ⟨x_fm.toArray⟩,.string ⟨x_fp.toArray⟩,.string ⟨x_fo.toArray⟩,.int .i64 x_bag,.int .i64 x_max,.slice A6 x_to.length p6] 61)).alloc (by simp) (.cells #[.string ⟨x_name.toArray⟩,.string ⟨x_fm.toArray⟩,.string ⟨x_fp.toArray⟩,.string ⟨x_fo.toArray⟩,.int .i64 x_bag,.int .i64 y_max,.slice B6 y_to.length r6] 61))
   go_enter Tryz.func46,Tryz.ntmps46
   go_wp2_with fail
   go_ret
   exact zau.mk false rfl ⟨(fun h=>by cases h),fun h=>absurd (congrArg (fun z_:VlD=>z_.max) (hp_.out.1 h)) HNE.out⟩ HB.out
 subst e_
 have HX:=zaa ((Below.heap_alloc (W.alloc (.cells #[.string ⟨x_name.toArray⟩,.string ⟨x_fm.toArray⟩,.string ⟨x_fp.toArray⟩,.string ⟨x_fo.toArray⟩,.int .i64 x_bag,.int .i64 x_max,.slice A6 x_to.length p6] 61)) (.cells #[.string ⟨x_name.toArray⟩,.string ⟨x_fm.toArray⟩,.string ⟨x_fp.toArray⟩,.string ⟨x_fo.toArray⟩,.int .i64 x_bag,.int .i64 x_max,.slice B6 y_to.length r6] 61) W.heap.size (by simp)).trans (heap_alloc_new W (.cells #[.string ⟨x_name.toArray⟩,.string ⟨x_fm.toArray⟩,.string ⟨x_fp.toArray⟩,.string ⟨x_fo.toArray⟩,.int .i64 x_bag,.int .i64 x_max,.slice A6 x_to.length p6] 61)))
 have HY:=zaa (heap_alloc_new (W.alloc (.cells #[.string ⟨x_name.toArray⟩,.string ⟨x_fm.toArray⟩,.string ⟨x_fp.toArray⟩,.string ⟨x_fo.toArray⟩,.int .i64 x_bag,.int .i64 x_max,.slice A6 x_to.length p6] 61)) (.cells #[.string ⟨x_name.toArray⟩,.string ⟨x_fm.toArray⟩,.string ⟨x_fp.toArray⟩,.string ⟨x_fo.toArray⟩,.int .i64 x_bag,.int .i64 x_max,.slice B6 y_to.length r6] 61))
 have HB:=zaa (((Below.refl W.heap.size W).alloc (Nat.le_refl _) (.cells #[.string ⟨x_name.toArray⟩,.string ⟨x_fm.toArray⟩,.string ⟨x_fp.toArray⟩,.string ⟨x_fo.toArray⟩,.int .i64 x_bag,.int .i64 x_max,.slice A6 x_to.length p6] 61)).alloc (by simp) (.cells #[.string ⟨x_name.toArray⟩,.string ⟨x_fm.toArray⟩,.string ⟨x_fp.toArray⟩,.string ⟨x_fo.toArray⟩,.int .i64 x_bag,.int .i64 x_max,.slice B6 y_to.length r6] 61))
 have hzz:(W.alloc (.cells #[.string ⟨x_name.toArray⟩,.string ⟨x_fm.toArray⟩,.string ⟨x_fp.toArray⟩,.string ⟨x_fo.toArray⟩,.int .i64 x_bag,.int .i64 x_max,.slice A6 x_to.length p6] 61)).heap.size=W.heap.size+1:=by simp
 rw[hzz] at HY
 go_enter Tryz.func46,Tryz.ntmps46
 go_wp2_with fail
 (try rw[hzz])
 clear hzz
 generalize(W.alloc _).alloc _=w0 at *
 have HC:=zaa (zjK _ _ x_to y_to w0 (zaa (HU6.out.later HB.out)) (zaa (HV6.out.later HB.out)) hl hm)
 refine HC.out.mono ?_
 rintro e w1 ⟨z,rfl,hz,hb⟩
 have HBn:=zaa (btZ HB.out hb)
 have HXn:=zaa (bkZ hb HX.out)
 have HYn:=zaa (bkZ hb HY.out)
 clear HB HX HY hb HC
 have HB:=HBn
 have HX:=HXn
 have HY:=HYn
 clear HBn HXn HYn
 have HZ:=zaa hz
 clear hz
 cases z with
 |false=>as_aux_lemma=>
  have HN2:=zaa (show¬(x_to=y_to) from fun h=>by cases HZ.out.2 h)
  clear HZ
  go_wp2_with fail
  go_ret
  exact zau.mk false rfl ⟨(fun h=>by cases h),fun h=>absurd (congrArg (fun z_:VlD=>z_.to) (hp_.out.1 h)) HN2.out⟩ HB.out
 |true=>
  have e_:=HZ.out.1 rfl
  clear HZ
  subst e_
  go_wp2_with fail
  go_ret
  exact zau.mk true rfl ⟨fun _=>hp_.out.2 (by first|rfl|trivial),fun _=>rfl⟩ HB.out
theorem znF (va vb:Value) (l m:List VlD) (W:World) (ha:Hid (DAt W (fun _=>True) va (.row 7 (l.map VlD.cells)))) (hb:Hid (DAt W (fun _=>True) vb (.row 7 (m.map VlD.cells)))) (hn:l.length≤140737488355328) (_hm:m.length≤140737488355328) (hl: ∀z∈l,z.to.length≤140737488355328) (hk_: ∀z∈m,z.to.length≤140737488355328):
 Calls Tryz.prog 51 #[va,vb,.func (.func 46) #[] #[]] W fun e w'=>zau (l=m) W.heap.size W e w':=by
 obtain⟨A,c,rfl,hA⟩:=ha.out.slice
 obtain⟨B,d,rfl,hB⟩:=hb.out.slice
 have HA:=zaa hA
 have HB:=zaa hB
 clear hA hB ha hb
 rw[List.length_map]
 rw[List.length_map]
 by_cases hlen:l.length=m.length
 rotate_left
 ·have HN:=zaa hlen
  have hne1:=zaK hlen
  clear hlen
  go_enter Tryz.func51,Tryz.ntmps51
  go_wp2_with fail
  go_ret
  exact zau.mk false rfl ⟨(fun h=>by cases h),fun h=>absurd (congrArg List.length h) HN.out⟩ (Below.refl _ _)
 rw[←hlen]
 have HL:=zaa hlen
 clear hlen _hm
 go_enter Tryz.func51,Tryz.ntmps51
 go_wp2_with fail
 go_loopw [17] (fun v wr=> ∃k:Nat,k≤l.length∧v= .int .i64 k∧l.take k=m.take k∧Below W.heap.size W wr) (fun v _=>l.length-(intOf v).toNat)
 case atStart=>exact⟨0,by omega,rfl,rfl,Below.refl _ _⟩
 case round=>
  obtain⟨k,hk,rfl,ht,hbr⟩:=hrel
  have HBR:=zaa hbr
  have HT:=zaa ht
  clear hbr ht
  by_cases hlt:k<l.length
  rotate_left
  ·obtain rfl:k=l.length:=by omega
   clear hlt
   have HE:Hid (l=m):=zaa (by have h:=HT.out;rw[List.take_length,HL.out,List.take_length] at h;exact h)
   go_wp2_with fail
   go_ret
   exact zau.mk true rfl ⟨fun _=>HE.out,fun _=>rfl⟩ HBR.out
  have hlt2:k<m.length:=by have:=HL.out;omega
  obtain⟨x,hx⟩:=za9 hlt
  obtain⟨y,hy⟩:=za9 hlt2
  obtain⟨bA,oA,rfl,hbA,hcaA⟩:=HA.out.at_ hx
  obtain⟨uA0,a0,gA0⟩:=hcaA 0 _ rfl
  obtain rfl:=gA0.leaf_eq
  obtain⟨uA1,a1,gA1⟩:=hcaA 1 _ rfl
  obtain rfl:=gA1.leaf_eq
  obtain⟨uA2,a2,gA2⟩:=hcaA 2 _ rfl
  obtain rfl:=gA2.leaf_eq
  obtain⟨uA3,a3,gA3⟩:=hcaA 3 _ rfl
  obtain rfl:=gA3.leaf_eq
  obtain⟨uA4,a4,gA4⟩:=hcaA 4 _ rfl
  obtain rfl:=gA4.leaf_eq
  obtain⟨uA5,a5,gA5⟩:=hcaA 5 _ rfl
  obtain rfl:=gA5.leaf_eq
  obtain⟨uA6,a6,gA6⟩:=hcaA 6 _ rfl
  clear hcaA
  have a0:=zbH HBR.out hbA a0
  have a1:=zat HBR.out hbA a1
  have a2:=zat HBR.out hbA a2
  have a3:=zat HBR.out hbA a3
  have a4:=zat HBR.out hbA a4
  have a5:=zat HBR.out hbA a5
  have a6:=zat HBR.out hbA a6
  simp only[zaF] at a0 a1 a2 a3 a4 a5 a6
  obtain⟨bB,oB,rfl,hbB,hcaB⟩:=HB.out.at_ hy
  obtain⟨uB0,b0,gB0⟩:=hcaB 0 _ rfl
  obtain rfl:=gB0.leaf_eq
  obtain⟨uB1,b1,gB1⟩:=hcaB 1 _ rfl
  obtain rfl:=gB1.leaf_eq
  obtain⟨uB2,b2,gB2⟩:=hcaB 2 _ rfl
  obtain rfl:=gB2.leaf_eq
  obtain⟨uB3,b3,gB3⟩:=hcaB 3 _ rfl
  obtain rfl:=gB3.leaf_eq
  obtain⟨uB4,b4,gB4⟩:=hcaB 4 _ rfl
  obtain rfl:=gB4.leaf_eq
  obtain⟨uB5,b5,gB5⟩:=hcaB 5 _ rfl
  obtain rfl:=gB5.leaf_eq
  obtain⟨uB6,b6,gB6⟩:=hcaB 6 _ rfl
  clear hcaB
  have b0:=zbH HBR.out hbB b0
  have b1:=zat HBR.out hbB b1
  have b2:=zat HBR.out hbB b2
  have b3:=zat HBR.out hbB b3
  have b4:=zat HBR.out hbB b4
  have b5:=zat HBR.out hbB b5
  have b6:=zat HBR.out hbB b6
  simp only[zaF] at b0 b1 b2 b3 b4 b5 b6
  have k0:=kbZ k l.length
  have HX:=zaa hx
  have HY:=zaa hy
  clear hx hy hlt2
  have lbB:bB<wr.heap.size:=Nat.lt_of_lt_of_le hbB HBR.out.size
  have HU6:=zaa gA6
  have HV6:=zaa gB6
  obtain⟨A6,p6,rfl, -⟩:=gA6.slice
  obtain⟨B6,r6,rfl, -⟩:=gB6.slice
  simp only[List.length_map] at HU6 HV6 a6 b6
  have HBn:=zaa ((HBR.out.alloc HBR.out.size (.cells #[.string ⟨x.name.toArray⟩,.string ⟨x.from_.m.toArray⟩,.string ⟨x.from_.p.toArray⟩,.string ⟨x.from_.o.toArray⟩,.int .i64 x.bag,.int .i64 x.max,.slice A6 x.to.length p6] 61)).alloc (HBR.out.alloc HBR.out.size _).size (.cells #[.string ⟨y.name.toArray⟩,.string ⟨y.from_.m.toArray⟩,.string ⟨y.from_.p.toArray⟩,.string ⟨y.from_.o.toArray⟩,.int .i64 y.bag,.int .i64 y.max,.slice B6 y.to.length r6] 61))
  have HC:=zaa (zoJ x y (x=y) (zaa Iff.rfl) [.string ⟨x.name.toArray⟩,.string ⟨x.from_.m.toArray⟩,.string ⟨x.from_.p.toArray⟩,.string ⟨x.from_.o.toArray⟩,.int .i64 x.bag,.int .i64 x.max,.slice A6 x.to.length p6] [.string ⟨y.name.toArray⟩,.string ⟨y.from_.m.toArray⟩,.string ⟨y.from_.p.toArray⟩,.string ⟨y.from_.o.toArray⟩,.int .i64 y.bag,.int .i64 y.max,.slice B6 y.to.length r6] ((wr.alloc (.cells #[.string ⟨x.name.toArray⟩,.string ⟨x.from_.m.toArray⟩,.string ⟨x.from_.p.toArray⟩,.string ⟨x.from_.o.toArray⟩,.int .i64 x.bag,.int .i64 x.max,.slice A6 x.to.length p6] 61)).alloc (.cells #[.string ⟨y.name.toArray⟩,.string ⟨y.from_.m.toArray⟩,.string ⟨y.from_.p.toArray⟩,.string ⟨y.from_.o.toArray⟩,.int .i64 y.bag,.int .i64 y.max,.slice B6 y.to.length r6] 61)) (zaa (zab.cons (.leaf _) (zab.cons (.leaf _) (zab.cons (.leaf _) (zab.cons (.leaf _) (zab.cons (.leaf _) (zab.cons (.leaf _) (zab.cons (HU6.out.later HBn.out) zab.nil)))))))) (zaa (zab.cons (.leaf _) (zab.cons (.leaf _) (zab.cons (.leaf _) (zab.cons (.leaf _) (zab.cons (.leaf _) (zab.cons (.leaf _) (zab.cons (HV6.out.later HBn.out) zab.nil)))))))) (hl x (List.mem_of_getElem? HX.out)) (hk_ y (List.mem_of_getElem? HY.out)))
  go_wp2_with fail
  refine HC.out.mono ?_
  rintro e w3 ⟨z,rfl,hz,hb3⟩
  have HB3:=zaa (btZ HBn.out hb3)
  have HZ:=zaa hz
  clear hb3 HC hz
  cases z with
  |false=>
   have HN2:=zaa (show¬(x=y) from fun h=>by cases HZ.out.2 h)
   clear HZ
   go_wp2_with fail
   go_ret
   exact zau.mk false rfl ⟨(fun h=>by cases h),fun h_=>absurd (by have h:=HX.out;rw[h_,HY.out] at h;exact(Option.some.inj h).symm) HN2.out⟩ HB3.out
  |true=>
   have HE2:=zaa (HZ.out.1 rfl)
   clear HZ
   go_wp2_with fail
   go_roundw
   case rel=>exact⟨k+1,by omega,by go_num,by rw[List.take_add_one,List.take_add_one,HX.out,HY.out,HT.out,HE2.out],HB3.out⟩
   case measure=>simp[intOf];omega
end Go.Proofs.YtgbfaompondolaaGreatDoor
