/- Merged texts of the walks and of the plain laws on which the statement leans.-/
import Derived.Test.YtgbfaompondolaaGreatDoorPk1
import Derived.Test.YtgbfaompondolaaGreatDoorPk22
set_option maxHeartbeats 4000000
set_option maxRecDepth 100000
namespace Go.Proofs.YtgbfaompondolaaGreatDoor
open Go.RowKit
attribute [local go_sem] zal.cell
theorem zfK (x y:zaN) (p_:Prop) (hp_:Hid (p_↔x=y)) (us vs:List Value) (W:World) (ha:Hid (zab W (fun _=>True) us x.cells)) (hb:Hid (zab W (fun _=>True) vs y.cells)) (hl:zbe x):
 Calls Tryz.prog 127 #[.agg us.toArray,.agg vs.toArray] W fun e w'=>zau p_ W.heap.size W e w':=by
 obtain⟨x_unit,x_needs,x_but⟩:=x
 obtain⟨y_unit,y_needs,y_but⟩:=y
 have hd:=ha.out
 have he:=hb.out
 obtain⟨u0,u1,u2,rfl,h0,h1,h2⟩:=dc3 hd
 obtain⟨v0,v1,v2,rfl,i0,i1,i2⟩:=dc3 he
 obtain rfl:=h0.leaf_eq
 obtain rfl:=i0.leaf_eq
 have HU1:=zaa h1
 have HV1:=zaa i1
 obtain⟨A1,p1,rfl, -⟩:=h1.slice
 obtain⟨B1,r1,rfl, -⟩:=i1.slice
 simp only[List.length_map] at HU1 HV1 ⊢
 have HU2:=zaa h2
 have HV2:=zaa i2
 obtain⟨A2,p2,rfl, -⟩:=h2.slice
 obtain⟨B2,r2,rfl, -⟩:=i2.slice
 rw[show(zao x_but).length=x_but.length by simp[zao]] at HU2 ⊢
 rw[show(zao y_but).length=y_but.length by simp[zao]] at HV2 ⊢
 clear ha hb hd he h0 i0 h1 i1 h2 i2
 simp only[zaF]
 by_cases hlead:x_unit=y_unit
 rotate_left
 ·have HN:=zaa (show¬p_ from fun h=>hlead (by have h2:=hp_.out.1 h;simp only[zaN.mk.injEq] at h2;exact h2.1))
  rcases naf1 hlead with h
  all_goals clear hlead hp_
  all_goals
   first
    |(have hne1:=zaw h;have hne2:=zaG h;clear h)
    |have hne1:=zaP h
    |(have hne1:=zaK h;clear h)
    |(have hne1:=zbu h;clear h)
  all_goals
   go_enter Tryz.func127,Tryz.ntmps127
   go_wp2_with fail
   go_ret
   exact zau.mk false rfl ⟨(fun h=>by cases h),fun h=>absurd h HN.out⟩ (zbp W _ _).b
 subst hlead
 have HT:=zaa (zbp W (.cells #[.string ⟨x_unit.toArray⟩,.slice A1 x_needs.length p1,.slice A2 x_but.length p2] 65) (.cells #[.string ⟨x_unit.toArray⟩,.slice B1 y_needs.length r1,.slice B2 y_but.length r2] 65))
 have hzz:(W.alloc (.cells #[.string ⟨x_unit.toArray⟩,.slice A1 x_needs.length p1,.slice A2 x_but.length p2] 65)).heap.size=W.heap.size+1:=by simp
 go_enter Tryz.func127,Tryz.ntmps127
 go_wp2_with fail
 (try rw[hzz])
 clear hzz
 generalize(W.alloc _).alloc _=w0 at *
 refine(zmN _ _ x_needs y_needs w0 (zaa (HU1.out.later HT.out.b)) (zaa (HV1.out.later HT.out.b)) hl.1).mono ?_
 rintro e w1 ⟨z,rfl,hz,hb⟩
 have HT:=zaa (HT.out.step hb)
 have HZ:=zaa hz
 clear hb hz
 cases z with
 |false=>as_aux_lemma=>
  have HN:=zaa (show¬p_ from fun h=>absurd (congrArg (fun z_:zaN=>z_.needs) (hp_.out.1 h)) (fun h=>by cases HZ.out.2 h))
  clear HZ hp_
  go_wp2_with fail
  go_ret
  exact zau.mk false rfl ⟨(fun h=>by cases h),fun h=>absurd h HN.out⟩ HT.out.b
 |true=>
  have e_:=HZ.out.1 rfl
  clear HZ
  subst e_
  obtain⟨a0,a1,a2⟩:=zc1 HT.out.x
  obtain⟨b0,b1,b2⟩:=zc1 HT.out.y
  go_wp2_with fail
  clear a0 b0 a1 b1 a2 b2
  refine(zmp _ _ x_but y_but w1 (zaa (HU2.out.later HT.out.b)) (zaa (HV2.out.later HT.out.b)) (Nat.le_of_lt (Nat.lt_trans hl.2 (by decide)))).mono ?_
  rintro e w2 ⟨z,rfl,hz,hb⟩
  have HT:=zaa (HT.out.step hb)
  have HZ:=zaa hz
  clear hb hz
  cases z with
  |false=>as_aux_lemma=>
   have HN:=zaa (show¬p_ from fun h=>absurd (congrArg (fun z_:zaN=>z_.but) (hp_.out.1 h)) (fun h=>by cases HZ.out.2 h))
   clear HZ hp_
   go_wp2_with fail
   go_ret
   exact zau.mk false rfl ⟨(fun h=>by cases h),fun h=>absurd h HN.out⟩ HT.out.b
  |true=>
   have e_:=HZ.out.1 rfl
   clear HZ
   subst e_
   go_wp2_with fail
   go_ret
   exact zau.mk true rfl ⟨fun _=>hp_.out.2 (by first|rfl|trivial),fun _=>rfl⟩ HT.out.b
theorem zjC (va vb:Value) (l m:List zaN) (W:World) (ha:Hid (DAt W (fun _=>True) va (.row 3 (l.map zaN.cells)))) (hb:Hid (DAt W (fun _=>True) vb (.row 3 (m.map zaN.cells)))) (hn:l.length≤140737488355328) (hl: ∀z∈l,zbe z):
 Calls Tryz.prog 61 #[va,vb] W fun e w'=>zau (l=m) W.heap.size W e w':=by
 obtain⟨A,c,rfl,hA⟩:=ha.out.slice
 obtain⟨B,d,rfl,hB⟩:=hb.out.slice
 have HA:=zaa hA
 have HB:=zaa hB
 clear hA hB ha hb
 rw[List.length_map]
 rw[List.length_map]
 by_cases hlen:l.length=m.length
 rotate_left
 ·have HN:=zaa hlen
  have hne1:=zaK hlen
  clear hlen
  go_enter Tryz.func61,Tryz.ntmps61
  go_wp2_with fail
  go_ret
  exact zau.mk false rfl ⟨(fun h=>by cases h),fun h=>absurd (congrArg List.length h) HN.out⟩ (Below.refl _ _)
 rw[←hlen]
 have HL:=zaa hlen
 clear hlen
 go_enter Tryz.func61,Tryz.ntmps61
 go_wp2_with fail
 go_loopw [5] (fun v wr=> ∃k:Nat,k≤l.length∧v= .int .i64 k∧l.take k=m.take k∧Below W.heap.size W wr) (fun v _=>l.length-(intOf v).toNat)
 case atStart=>exact⟨0,by omega,rfl,rfl,Below.refl _ _⟩
 case round=>
  obtain⟨k,hk,rfl,ht,hbr⟩:=hrel
  have HBR:=zaa hbr
  have HT:=zaa ht
  clear hbr ht
  by_cases hlt:k<l.length
  rotate_left
  ·obtain rfl:k=l.length:=by omega
   clear hlt
   have HE:Hid (l=m):=zaa (by have h:=HT.out;rw[List.take_length,HL.out,List.take_length] at h;exact h)
   go_wp2_with fail
   go_ret
   exact zau.mk true rfl ⟨fun _=>HE.out,fun _=>rfl⟩ HBR.out
  have hlt2:k<m.length:=by have:=HL.out;omega
  obtain⟨x,hx⟩:=za9 hlt
  obtain⟨y,hy⟩:=za9 hlt2
  obtain⟨bA,oA,rfl,hbA,hcaA⟩:=HA.out.at_ hx
  have a0:=zan HBR.out hbA (oA+k*3) (hcaA 0 _ rfl).leafc
  obtain⟨uA1,cA1,gA1⟩:=hcaA 1 _ rfl
  have a1:=zat HBR.out hbA cA1
  clear cA1
  obtain⟨uA2,cA2,gA2⟩:=hcaA 2 _ rfl
  have a2:=zat HBR.out hbA cA2
  clear cA2
  clear hcaA
  simp only[zaF] at a0
  obtain⟨bB,oB,rfl,hbB,hcaB⟩:=HB.out.at_ hy
  have b0:=zan HBR.out hbB (oB+k*3) (hcaB 0 _ rfl).leafc
  obtain⟨uB1,cB1,gB1⟩:=hcaB 1 _ rfl
  have b1:=zat HBR.out hbB cB1
  clear cB1
  obtain⟨uB2,cB2,gB2⟩:=hcaB 2 _ rfl
  have b2:=zat HBR.out hbB cB2
  clear cB2
  clear hcaB
  simp only[zaF] at b0
  have k0:=kbZ k l.length
  have HXY:=zaa (show x=y→l.take (k+1)=m.take (k+1) from fun h=>by rw[List.take_add_one,List.take_add_one,hx,hy,HT.out,h])
  have HNM:=zaa (show¬x=y→ ¬l=m from fun h1 h2=>h1 (by rw[h2,hy] at hx;exact(Option.some.inj hx).symm))
  have hfx:=hl x (List.mem_of_getElem? hx)
  clear hx hy hlt2
  have HU1:=zaa gA1
  have HV1:=zaa gB1
  obtain⟨A1,p1,rfl, -⟩:=gA1.slice
  obtain⟨B1,r1,rfl, -⟩:=gB1.slice
  clear gA1 gB1
  simp only[List.length_map] at HU1 HV1 a1 b1
  have HU2:=zaa gA2
  have HV2:=zaa gB2
  obtain⟨A2,p2,rfl, -⟩:=gA2.slice
  obtain⟨B2,r2,rfl, -⟩:=gB2.slice
  clear gA2 gB2
  rw[show(zao x.but).length=x.but.length by simp[zao]] at HU2 a2
  rw[show(zao y.but).length=y.but.length by simp[zao]] at HV2 b2
  have HC:=zaa (fun s:zal wr=>zfK x y (x=y) (zaa Iff.rfl) [.string ⟨x.unit.toArray⟩,.slice A1 x.needs.length p1,.slice A2 x.but.length p2] [.string ⟨y.unit.toArray⟩,.slice B1 y.needs.length r1,.slice B2 y.but.length r2] s.w (zaa (zab.cons (.leaf _) (zab.cons ((HU1.out.later HBR.out).later s.below) (zab.cons ((HU2.out.later HBR.out).later s.below) zab.nil)))) (zaa (zab.cons (.leaf _) (zab.cons ((HV1.out.later HBR.out).later s.below) (zab.cons ((HV2.out.later HBR.out).later s.below) zab.nil)))) hfx)
  have hBA:=Nat.lt_of_lt_of_le hbA HBR.out.size
  have hBB:=Nat.lt_of_lt_of_le hbB HBR.out.size
  clear hfx hl
  by_cases hxy:x=y
  ·have HE:=zaa (HXY.out hxy)
   have HC:=zaa (fun s:zal wr=>(HC.out s).mono (fun _ _ h=>zau.yes hxy h))
   clear hxy
   go_wp2_with fail
   refine zaf (W:=wr) (by kernel_rfl) (by kernel_rfl) ?_
   repeat(go_big_quiet_step ((go_at_call 127;exact zal.call (HC.out _))))
   refine wpQuiet_nil ?_
   rintro _ ⟨s,rfl⟩
   have HB3:=zaa (HBR.out.trans (s.below.mono HBR.out.size))
   go_wp2_with fail
   go_roundw
   case rel=>exact⟨k+1,by omega,by go_num,HE.out,HB3.out⟩
   case measure=>simp[intOf];omega
  ·have HN:=zaa (HNM.out hxy)
   have HC:=zaa (fun s:zal wr=>(HC.out s).mono (fun _ _ h=>zau.no hxy h))
   clear hxy
   go_wp2_with fail
   refine zaf (W:=wr) (by kernel_rfl) (by kernel_rfl) ?_
   repeat(go_big_quiet_step ((go_at_call 127;exact zal.call (HC.out _))))
   refine wpQuiet_nil ?_
   rintro _ ⟨s,rfl⟩
   have HB3:=zaa (HBR.out.trans (s.below.mono HBR.out.size))
   go_wp2_with fail
   go_ret
   exact zau.mk false rfl ⟨(fun h=>by cases h),fun h=>absurd h HN.out⟩ HB3.out
theorem zgK (x y:zaY) (p_:Prop) (hp_:Hid (p_↔x=y)) (us vs:List Value) (W:World) (ha:Hid (zab W (fun _=>True) us x.cells)) (hb:Hid (zab W (fun _=>True) vs y.cells)) (hl:zbJ x):
 Calls Tryz.prog 306 #[.agg us.toArray,.agg vs.toArray] W fun e w'=>zau p_ W.heap.size W e w':=by
 obtain⟨x_name,x_prio,x_period,x_limit,x_code⟩:=x
 obtain⟨y_name,y_prio,y_period,y_limit,y_code⟩:=y
 have hd:=ha.out
 have he:=hb.out
 obtain⟨u0,u1,u2,u3,u4,rfl,h0,h1,h2,h3,h4⟩:=dc5 hd
 obtain⟨v0,v1,v2,v3,v4,rfl,i0,i1,i2,i3,i4⟩:=dc5 he
 obtain rfl:=h0.leaf_eq
 obtain rfl:=i0.leaf_eq
 obtain rfl:=h1.leaf_eq
 obtain rfl:=i1.leaf_eq
 obtain rfl:=h2.leaf_eq
 obtain rfl:=i2.leaf_eq
 obtain rfl:=h3.leaf_eq
 obtain rfl:=i3.leaf_eq
 have HU4:=zaa h4
 have HV4:=zaa i4
 obtain⟨A4,p4,rfl, -⟩:=h4.slice
 obtain⟨B4,r4,rfl, -⟩:=i4.slice
 simp only[List.length_map] at HU4 HV4 ⊢
 clear ha hb hd he h0 i0 h1 i1 h2 i2 h3 i3 h4 i4
 simp only[zaF]
 by_cases hlead:x_name=y_name∧x_prio=y_prio∧x_period=y_period∧x_limit=y_limit
 rotate_left
 ·have HN:=zaa (show¬p_ from fun h=>hlead (by have h2:=hp_.out.1 h;simp only[zaY.mk.injEq] at h2;exact⟨h2.1,h2.2.1,h2.2.2.1,h2.2.2.2.1⟩))
  rcases zl8 hlead with h|⟨rfl,h⟩|⟨rfl,rfl,h⟩|⟨rfl,rfl,rfl,h⟩
  all_goals clear hlead hp_
  all_goals
   first
    |(have hne1:=zaw h;have hne2:=zaG h;clear h)
    |have hne1:=zaP h
    |(have hne1:=zaK h;clear h)
    |(have hne1:=zbu h;clear h)
  all_goals
   go_enter Tryz.func306,Tryz.ntmps306
   go_wp2_with fail
   go_ret
   exact zau.mk false rfl ⟨(fun h=>by cases h),fun h=>absurd h HN.out⟩ (zbp W _ _).b
 obtain⟨rfl,rfl,rfl,rfl⟩:=hlead
 have HT:=zaa (zbp W (.cells #[.string ⟨x_name.toArray⟩,.int .i64 x_prio,.int .i64 x_period,.int .i64 x_limit,.slice A4 x_code.length p4] 53) (.cells #[.string ⟨x_name.toArray⟩,.int .i64 x_prio,.int .i64 x_period,.int .i64 x_limit,.slice B4 y_code.length r4] 53))
 have hzz:(W.alloc (.cells #[.string ⟨x_name.toArray⟩,.int .i64 x_prio,.int .i64 x_period,.int .i64 x_limit,.slice A4 x_code.length p4] 53)).heap.size=W.heap.size+1:=by simp
 go_enter Tryz.func306,Tryz.ntmps306
 go_wp2_with fail
 (try rw[hzz])
 clear hzz
 generalize(W.alloc _).alloc _=w0 at *
 refine(zmq _ _ x_code y_code w0 (zaa (HU4.out.later HT.out.b)) (zaa (HV4.out.later HT.out.b)) hl.1).mono ?_
 rintro e w1 ⟨z,rfl,hz,hb⟩
 have HT:=zaa (HT.out.step hb)
 have HZ:=zaa hz
 clear hb hz
 cases z with
 |false=>as_aux_lemma=>
  have HN:=zaa (show¬p_ from fun h=>absurd (congrArg (fun z_:zaY=>z_.code) (hp_.out.1 h)) (fun h=>by cases HZ.out.2 h))
  clear HZ hp_
  go_wp2_with fail
  go_ret
  exact zau.mk false rfl ⟨(fun h=>by cases h),fun h=>absurd h HN.out⟩ HT.out.b
 |true=>
  have e_:=HZ.out.1 rfl
  clear HZ
  subst e_
  go_wp2_with fail
  go_ret
  exact zau.mk true rfl ⟨fun _=>hp_.out.2 (by first|rfl|trivial),fun _=>rfl⟩ HT.out.b
theorem zj8 (va vb:Value) (l m:List zaY) (W:World) (ha:Hid (DAt W (fun _=>True) va (.row 5 (l.map zaY.cells)))) (hb:Hid (DAt W (fun _=>True) vb (.row 5 (m.map zaY.cells)))) (hn:l.length≤140737488355328) (hl: ∀z∈l,zbJ z):
 Calls Tryz.prog 280 #[va,vb] W fun e w'=>zau (l=m) W.heap.size W e w':=by
 obtain⟨A,c,rfl,hA⟩:=ha.out.slice
 obtain⟨B,d,rfl,hB⟩:=hb.out.slice
 have HA:=zaa hA
 have HB:=zaa hB
 clear hA hB ha hb
 rw[List.length_map]
 rw[List.length_map]
 by_cases hlen:l.length=m.length
 rotate_left
 ·have HN:=zaa hlen
  have hne1:=zaK hlen
  clear hlen
  go_enter Tryz.func280,Tryz.ntmps280
  go_wp2_with fail
  go_ret
  exact zau.mk false rfl ⟨(fun h=>by cases h),fun h=>absurd (congrArg List.length h) HN.out⟩ (Below.refl _ _)
 rw[←hlen]
 have HL:=zaa hlen
 clear hlen
 go_enter Tryz.func280,Tryz.ntmps280
 go_wp2_with fail
 go_loopw [5] (fun v wr=> ∃k:Nat,k≤l.length∧v= .int .i64 k∧l.take k=m.take k∧Below W.heap.size W wr) (fun v _=>l.length-(intOf v).toNat)
 case atStart=>exact⟨0,by omega,rfl,rfl,Below.refl _ _⟩
 case round=>
  obtain⟨k,hk,rfl,ht,hbr⟩:=hrel
  have HBR:=zaa hbr
  have HT:=zaa ht
  clear hbr ht
  by_cases hlt:k<l.length
  rotate_left
  ·obtain rfl:k=l.length:=by omega
   clear hlt
   have HE:Hid (l=m):=zaa (by have h:=HT.out;rw[List.take_length,HL.out,List.take_length] at h;exact h)
   go_wp2_with fail
   go_ret
   exact zau.mk true rfl ⟨fun _=>HE.out,fun _=>rfl⟩ HBR.out
  have hlt2:k<m.length:=by have:=HL.out;omega
  obtain⟨x,hx⟩:=za9 hlt
  obtain⟨y,hy⟩:=za9 hlt2
  obtain⟨bA,oA,rfl,hbA,hcaA⟩:=HA.out.at_ hx
  have a0:=zan HBR.out hbA (oA+k*5) (hcaA 0 _ rfl).leafc
  have a1:=zan HBR.out hbA (oA+k*5+1) (hcaA 1 _ rfl).leafc
  have a2:=zan HBR.out hbA (oA+k*5+2) (hcaA 2 _ rfl).leafc
  have a3:=zan HBR.out hbA (oA+k*5+3) (hcaA 3 _ rfl).leafc
  obtain⟨uA4,cA4,gA4⟩:=hcaA 4 _ rfl
  have a4:=zat HBR.out hbA cA4
  clear cA4
  clear hcaA
  simp only[zaF] at a0
  obtain⟨bB,oB,rfl,hbB,hcaB⟩:=HB.out.at_ hy
  have b0:=zan HBR.out hbB (oB+k*5) (hcaB 0 _ rfl).leafc
  have b1:=zan HBR.out hbB (oB+k*5+1) (hcaB 1 _ rfl).leafc
  have b2:=zan HBR.out hbB (oB+k*5+2) (hcaB 2 _ rfl).leafc
  have b3:=zan HBR.out hbB (oB+k*5+3) (hcaB 3 _ rfl).leafc
  obtain⟨uB4,cB4,gB4⟩:=hcaB 4 _ rfl
  have b4:=zat HBR.out hbB cB4
  clear cB4
  clear hcaB
  simp only[zaF] at b0
  have k0:=kbZ k l.length
  have HXY:=zaa (show x=y→l.take (k+1)=m.take (k+1) from fun h=>by rw[List.take_add_one,List.take_add_one,hx,hy,HT.out,h])
  have HNM:=zaa (show¬x=y→ ¬l=m from fun h1 h2=>h1 (by rw[h2,hy] at hx;exact(Option.some.inj hx).symm))
  have hfx:=hl x (List.mem_of_getElem? hx)
  clear hx hy hlt2
  have HU4:=zaa gA4
  have HV4:=zaa gB4
  obtain⟨A4,p4,rfl, -⟩:=gA4.slice
  obtain⟨B4,r4,rfl, -⟩:=gB4.slice
  clear gA4 gB4
  simp only[List.length_map] at HU4 HV4 a4 b4
  have HC:=zaa (fun s:zal wr=>zgK x y (x=y) (zaa Iff.rfl) [.string ⟨x.name.toArray⟩,.int .i64 x.prio,.int .i64 x.period,.int .i64 x.limit,.slice A4 x.code.length p4] [.string ⟨y.name.toArray⟩,.int .i64 y.prio,.int .i64 y.period,.int .i64 y.limit,.slice B4 y.code.length r4] s.w (zaa (zab.cons (.leaf _) (zab.cons (.leaf _) (zab.cons (.leaf _) (zab.cons (.leaf _) (zab.cons ((HU4.out.later HBR.out).later s.below) zab.nil)))))) (zaa (zab.cons (.leaf _) (zab.cons (.leaf _) (zab.cons (.leaf _) (zab.cons (.leaf _) (zab.cons ((HV4.out.later HBR.out).later s.below) zab.nil)))))) hfx)
  have hBA:=Nat.lt_of_lt_of_le hbA HBR.out.size
  have hBB:=Nat.lt_of_lt_of_le hbB HBR.out.size
  clear hfx hl
  by_cases hxy:x=y
  ·have HE:=zaa (HXY.out hxy)
   have HC:=zaa (fun s:zal wr=>(HC.out s).mono (fun _ _ h=>zau.yes hxy h))
   clear hxy
   go_wp2_with fail
   refine zaf (W:=wr) (by kernel_rfl) (by kernel_rfl) ?_
   repeat(go_big_quiet_step ((go_at_call 306;exact zal.call (HC.out _))))
   refine wpQuiet_nil ?_
   rintro _ ⟨s,rfl⟩
   have HB3:=zaa (HBR.out.trans (s.below.mono HBR.out.size))
   go_wp2_with fail
   go_roundw
   case rel=>exact⟨k+1,by omega,by go_num,HE.out,HB3.out⟩
   case measure=>simp[intOf];omega
  ·have HN:=zaa (HNM.out hxy)
   have HC:=zaa (fun s:zal wr=>(HC.out s).mono (fun _ _ h=>zau.no hxy h))
   clear hxy
   go_wp2_with fail
   refine zaf (W:=wr) (by kernel_rfl) (by kernel_rfl) ?_
   repeat(go_big_quiet_step ((go_at_call 306;exact zal.call (HC.out _))))
   refine wpQuiet_nil ?_
   rintro _ ⟨s,rfl⟩
   have HB3:=zaa (HBR.out.trans (s.below.mono HBR.out.size))
   go_wp2_with fail
   go_ret
   exact zau.mk false rfl ⟨(fun h=>by cases h),fun h=>absurd h HN.out⟩ HB3.out
theorem zgA (x y:zaM) (p_:Prop) (hp_:Hid (p_↔x=y)) (us vs:List Value) (W:World) (ha:Hid (zab W (fun _=>True) us x.cells)) (hb:Hid (zab W (fun _=>True) vs y.cells)) (hl:zbv x):
 Calls Tryz.prog 247 #[.agg us.toArray,.agg vs.toArray] W fun e w'=>zau p_ W.heap.size W e w':=by
 obtain⟨x_name,x_period,x_length,x_mem,x_semas,x_events,x_boards,x_bufs,x_ports,x_procs⟩:=x
 obtain⟨y_name,y_period,y_length,y_mem,y_semas,y_events,y_boards,y_bufs,y_ports,y_procs⟩:=y
 have hd:=ha.out
 have he:=hb.out
 obtain⟨u0,u1,u2,u3,u4,u5,u6,u7,u8,u9,rfl,h0,h1,h2,h3,h4,h5,h6,h7,h8,h9⟩:=zlF hd
 obtain⟨v0,v1,v2,v3,v4,v5,v6,v7,v8,v9,rfl,i0,i1,i2,i3,i4,i5,i6,i7,i8,i9⟩:=zlF he
 obtain rfl:=h0.leaf_eq
 obtain rfl:=i0.leaf_eq
 obtain rfl:=h1.leaf_eq
 obtain rfl:=i1.leaf_eq
 obtain rfl:=h2.leaf_eq
 obtain rfl:=i2.leaf_eq
 obtain rfl:=h3.leaf_eq
 obtain rfl:=i3.leaf_eq
 have HU4:=zaa h4
 have HV4:=zaa i4
 obtain⟨A4,p4,rfl, -⟩:=h4.slice
 obtain⟨B4,r4,rfl, -⟩:=i4.slice
 rw[show(zah x_semas).length=x_semas.length by simp[zah]] at HU4 ⊢
 rw[show(zah y_semas).length=y_semas.length by simp[zah]] at HV4 ⊢
 obtain rfl:=h5.leaf_eq
 obtain rfl:=i5.leaf_eq
 obtain rfl:=h6.leaf_eq
 obtain rfl:=i6.leaf_eq
 have HU7:=zaa h7
 have HV7:=zaa i7
 obtain⟨A7,p7,rfl, -⟩:=h7.slice
 obtain⟨B7,r7,rfl, -⟩:=i7.slice
 rw[show(zah x_bufs).length=x_bufs.length by simp[zah]] at HU7 ⊢
 rw[show(zah y_bufs).length=y_bufs.length by simp[zah]] at HV7 ⊢
 have HU8:=zaa h8
 have HV8:=zaa i8
 obtain⟨A8,p8,rfl, -⟩:=h8.slice
 obtain⟨B8,r8,rfl, -⟩:=i8.slice
 simp only[List.length_map] at HU8 HV8 ⊢
 have HU9:=zaa h9
 have HV9:=zaa i9
 obtain⟨A9,p9,rfl, -⟩:=h9.slice
 obtain⟨B9,r9,rfl, -⟩:=i9.slice
 simp only[List.length_map] at HU9 HV9 ⊢
 clear ha hb hd he h0 i0 h1 i1 h2 i2 h3 i3 h4 i4 h5 i5 h6 i6 h7 i7 h8 i8 h9 i9
 simp only[zaF]
 by_cases hlead:x_name=y_name∧x_period=y_period∧x_length=y_length∧x_mem=y_mem
 rotate_left
 ·have HN:=zaa (show¬p_ from fun h=>hlead (by have h2:=hp_.out.1 h;simp only[zaM.mk.injEq] at h2;exact⟨h2.1,h2.2.1,h2.2.2.1,h2.2.2.2.1⟩))
  rcases zl8 hlead with h|⟨rfl,h⟩|⟨rfl,rfl,h⟩|⟨rfl,rfl,rfl,h⟩
  all_goals clear hlead hp_
  all_goals
   first
    |(have hne1:=zaw h;have hne2:=zaG h;clear h)
    |have hne1:=zaP h
    |(have hne1:=zaK h;clear h)
    |(have hne1:=zbu h;clear h)
  all_goals
   go_enter Tryz.func247,Tryz.ntmps247
   go_wp2_with fail
   go_ret
   exact zau.mk false rfl ⟨(fun h=>by cases h),fun h=>absurd h HN.out⟩ (zbp W _ _).b
 obtain⟨rfl,rfl,rfl,rfl⟩:=hlead
 have HT:=zaa (zbp W (.cells #[.string ⟨x_name.toArray⟩,.int .i64 x_period,.int .i64 x_length,.int .i64 x_mem,.slice A4 x_semas.length p4,.int .i64 x_events,.int .i64 x_boards,.slice A7 x_bufs.length p7,.slice A8 x_ports.length p8,.slice A9 x_procs.length p9] 49) (.cells #[.string ⟨x_name.toArray⟩,.int .i64 x_period,.int .i64 x_length,.int .i64 x_mem,.slice B4 y_semas.length r4,.int .i64 y_events,.int .i64 y_boards,.slice B7 y_bufs.length r7,.slice B8 y_ports.length r8,.slice B9 y_procs.length r9] 49))
 have hzz:(W.alloc (.cells #[.string ⟨x_name.toArray⟩,.int .i64 x_period,.int .i64 x_length,.int .i64 x_mem,.slice A4 x_semas.length p4,.int .i64 x_events,.int .i64 x_boards,.slice A7 x_bufs.length p7,.slice A8 x_ports.length p8,.slice A9 x_procs.length p9] 49)).heap.size=W.heap.size+1:=by simp
 go_enter Tryz.func247,Tryz.ntmps247
 go_wp2_with fail
 (try rw[hzz])
 clear hzz
 generalize(W.alloc _).alloc _=w0 at *
 refine(zja _ _ x_semas y_semas w0 (zaa (HU4.out.later HT.out.b)) (zaa (HV4.out.later HT.out.b)) hl.1).mono ?_
 rintro e w1 ⟨z,rfl,hz,hb⟩
 have HT:=zaa (HT.out.step hb)
 have HZ:=zaa hz
 clear hb hz
 cases z with
 |false=>as_aux_lemma=>
  have HN:=zaa (show¬p_ from fun h=>absurd (congrArg (fun z_:zaM=>z_.semas) (hp_.out.1 h)) (fun h=>by cases HZ.out.2 h))
  clear HZ hp_
  go_wp2_with fail
  go_ret
  exact zau.mk false rfl ⟨(fun h=>by cases h),fun h=>absurd h HN.out⟩ HT.out.b
 |true=>
  have e_:=HZ.out.1 rfl
  clear HZ
  subst e_
  by_cases h:x_events=y_events
  rotate_left
  ·as_aux_lemma=>
    have HN:=zaa (show¬p_ from fun h2=>h (congrArg (fun z_:zaM=>z_.events) (hp_.out.1 h2)))
    clear hp_
    first
     |(have hne1:=zaw h;have hne2:=zaG h;clear h)
     |have hne1:=zaP h
     |(have hne1:=zaK h;clear h)
     |(have hne1:=zbu h;clear h)
    obtain⟨a0,a1,a2,a3,a4,a5,a6,a7,a8,a9⟩:=zaX HT.out.x
    obtain⟨b0,b1,b2,b3,b4,b5,b6,b7,b8,b9⟩:=zaX HT.out.y
    go_wp2_with fail
    go_ret
    exact zau.mk false rfl ⟨(fun h=>by cases h),fun h=>absurd h HN.out⟩ HT.out.b
  subst h
  by_cases h:x_boards=y_boards
  rotate_left
  ·as_aux_lemma=>
    have HN:=zaa (show¬p_ from fun h2=>h (congrArg (fun z_:zaM=>z_.boards) (hp_.out.1 h2)))
    clear hp_
    first
     |(have hne1:=zaw h;have hne2:=zaG h;clear h)
     |have hne1:=zaP h
     |(have hne1:=zaK h;clear h)
     |(have hne1:=zbu h;clear h)
    obtain⟨a0,a1,a2,a3,a4,a5,a6,a7,a8,a9⟩:=zaX HT.out.x
    obtain⟨b0,b1,b2,b3,b4,b5,b6,b7,b8,b9⟩:=zaX HT.out.y
    go_wp2_with fail
    go_ret
    exact zau.mk false rfl ⟨(fun h=>by cases h),fun h=>absurd h HN.out⟩ HT.out.b
  subst h
  obtain⟨a0,a1,a2,a3,a4,a5,a6,a7,a8,a9⟩:=zaX HT.out.x
  obtain⟨b0,b1,b2,b3,b4,b5,b6,b7,b8,b9⟩:=zaX HT.out.y
  go_wp2_with fail
  clear a0 b0 a1 b1 a2 b2 a3 b3 a4 b4 a5 b5 a6 b6 a7 b7 a8 b8 a9 b9
  refine(zja _ _ x_bufs y_bufs w1 (zaa (HU7.out.later HT.out.b)) (zaa (HV7.out.later HT.out.b)) hl.2.1).mono ?_
  rintro e w2 ⟨z,rfl,hz,hb⟩
  have HT:=zaa (HT.out.step hb)
  have HZ:=zaa hz
  clear hb hz
  cases z with
  |false=>as_aux_lemma=>
   have HN:=zaa (show¬p_ from fun h=>absurd (congrArg (fun z_:zaM=>z_.bufs) (hp_.out.1 h)) (fun h=>by cases HZ.out.2 h))
   clear HZ hp_
   go_wp2_with fail
   go_ret
   exact zau.mk false rfl ⟨(fun h=>by cases h),fun h=>absurd h HN.out⟩ HT.out.b
  |true=>
   have e_:=HZ.out.1 rfl
   clear HZ
   subst e_
   obtain⟨a0,a1,a2,a3,a4,a5,a6,a7,a8,a9⟩:=zaX HT.out.x
   obtain⟨b0,b1,b2,b3,b4,b5,b6,b7,b8,b9⟩:=zaX HT.out.y
   go_wp2_with fail
   clear a0 b0 a1 b1 a2 b2 a3 b3 a4 b4 a5 b5 a6 b6 a7 b7 a8 b8 a9 b9
   refine(zkU _ _ x_ports y_ports w2 (zaa (HU8.out.later HT.out.b)) (zaa (HV8.out.later HT.out.b)) hl.2.2.1).mono ?_
   rintro e w3 ⟨z,rfl,hz,hb⟩
   have HT:=zaa (HT.out.step hb)
   have HZ:=zaa hz
   clear hb hz
   cases z with
   |false=>as_aux_lemma=>
    have HN:=zaa (show¬p_ from fun h=>absurd (congrArg (fun z_:zaM=>z_.ports) (hp_.out.1 h)) (fun h=>by cases HZ.out.2 h))
    clear HZ hp_
    go_wp2_with fail
    go_ret
    exact zau.mk false rfl ⟨(fun h=>by cases h),fun h=>absurd h HN.out⟩ HT.out.b
   |true=>
    have e_:=HZ.out.1 rfl
    clear HZ
    subst e_
    obtain⟨a0,a1,a2,a3,a4,a5,a6,a7,a8,a9⟩:=zaX HT.out.x
    obtain⟨b0,b1,b2,b3,b4,b5,b6,b7,b8,b9⟩:=zaX HT.out.y
    go_wp2_with fail
    clear a0 b0 a1 b1 a2 b2 a3 b3 a4 b4 a5 b5 a6 b6 a7 b7 a8 b8 a9 b9
    refine(zj8 _ _ x_procs y_procs w3 (zaa (HU9.out.later HT.out.b)) (zaa (HV9.out.later HT.out.b)) hl.2.2.2.1 (fun z hz=>hl.2.2.2.2 z hz)).mono ?_
    rintro e w4 ⟨z,rfl,hz,hb⟩
    have HT:=zaa (HT.out.step hb)
    have HZ:=zaa hz
    clear hb hz
    cases z with
    |false=>as_aux_lemma=>
     have HN:=zaa (show¬p_ from fun h=>absurd (congrArg (fun z_:zaM=>z_.procs) (hp_.out.1 h)) (fun h=>by cases HZ.out.2 h))
     clear HZ hp_
     go_wp2_with fail
     go_ret
     exact zau.mk false rfl ⟨(fun h=>by cases h),fun h=>absurd h HN.out⟩ HT.out.b
    |true=>
     have e_:=HZ.out.1 rfl
     clear HZ
     subst e_
     go_wp2_with fail
     go_ret
     exact zau.mk true rfl ⟨fun _=>hp_.out.2 (by first|rfl|trivial),fun _=>rfl⟩ HT.out.b
theorem zko (va vb:Value) (l m:List zaM) (W:World) (ha:Hid (DAt W (fun _=>True) va (.row 10 (l.map zaM.cells)))) (hb:Hid (DAt W (fun _=>True) vb (.row 10 (m.map zaM.cells)))) (hn:l.length≤140737488355328) (hl: ∀z∈l,zbv z):
 Calls Tryz.prog 198 #[va,vb] W fun e w'=>zau (l=m) W.heap.size W e w':=by
 obtain⟨A,c,rfl,hA⟩:=ha.out.slice
 obtain⟨B,d,rfl,hB⟩:=hb.out.slice
 have HA:=zaa hA
 have HB:=zaa hB
 clear hA hB ha hb
 rw[List.length_map]
 rw[List.length_map]
 by_cases hlen:l.length=m.length
 rotate_left
 ·have HN:=zaa hlen
  have hne1:=zaK hlen
  clear hlen
  go_enter Tryz.func198,Tryz.ntmps198
  go_wp2_with fail
  go_ret
  exact zau.mk false rfl ⟨(fun h=>by cases h),fun h=>absurd (congrArg List.length h) HN.out⟩ (Below.refl _ _)
 rw[←hlen]
 have HL:=zaa hlen
 clear hlen
 go_enter Tryz.func198,Tryz.ntmps198
 go_wp2_with fail
 go_loopw [5] (fun v wr=> ∃k:Nat,k≤l.length∧v= .int .i64 k∧l.take k=m.take k∧Below W.heap.size W wr) (fun v _=>l.length-(intOf v).toNat)
 case atStart=>exact⟨0,by omega,rfl,rfl,Below.refl _ _⟩
 case round=>
  obtain⟨k,hk,rfl,ht,hbr⟩:=hrel
  have HBR:=zaa hbr
  have HT:=zaa ht
  clear hbr ht
  by_cases hlt:k<l.length
  rotate_left
  ·obtain rfl:k=l.length:=by omega
   clear hlt
   have HE:Hid (l=m):=zaa (by have h:=HT.out;rw[List.take_length,HL.out,List.take_length] at h;exact h)
   go_wp2_with fail
   go_ret
   exact zau.mk true rfl ⟨fun _=>HE.out,fun _=>rfl⟩ HBR.out
  have hlt2:k<m.length:=by have:=HL.out;omega
  obtain⟨x,hx⟩:=za9 hlt
  obtain⟨y,hy⟩:=za9 hlt2
  obtain⟨bA,oA,rfl,hbA,hcaA⟩:=HA.out.at_ hx
  have a0:=zan HBR.out hbA (oA+k*10) (hcaA 0 _ rfl).leafc
  have a1:=zan HBR.out hbA (oA+k*10+1) (hcaA 1 _ rfl).leafc
  have a2:=zan HBR.out hbA (oA+k*10+2) (hcaA 2 _ rfl).leafc
  have a3:=zan HBR.out hbA (oA+k*10+3) (hcaA 3 _ rfl).leafc
  obtain⟨uA4,cA4,gA4⟩:=hcaA 4 _ rfl
  have a4:=zat HBR.out hbA cA4
  clear cA4
  have a5:=zan HBR.out hbA (oA+k*10+5) (hcaA 5 _ rfl).leafc
  have a6:=zan HBR.out hbA (oA+k*10+6) (hcaA 6 _ rfl).leafc
  obtain⟨uA7,cA7,gA7⟩:=hcaA 7 _ rfl
  have a7:=zat HBR.out hbA cA7
  clear cA7
  obtain⟨uA8,cA8,gA8⟩:=hcaA 8 _ rfl
  have a8:=zat HBR.out hbA cA8
  clear cA8
  obtain⟨uA9,cA9,gA9⟩:=hcaA 9 _ rfl
  have a9:=zat HBR.out hbA cA9
  clear cA9
  clear hcaA
  simp only[zaF] at a0
  obtain⟨bB,oB,rfl,hbB,hcaB⟩:=HB.out.at_ hy
  have b0:=zan HBR.out hbB (oB+k*10) (hcaB 0 _ rfl).leafc
  have b1:=zan HBR.out hbB (oB+k*10+1) (hcaB 1 _ rfl).leafc
  have b2:=zan HBR.out hbB (oB+k*10+2) (hcaB 2 _ rfl).leafc
  have b3:=zan HBR.out hbB (oB+k*10+3) (hcaB 3 _ rfl).leafc
  obtain⟨uB4,cB4,gB4⟩:=hcaB 4 _ rfl
  have b4:=zat HBR.out hbB cB4
  clear cB4
  have b5:=zan HBR.out hbB (oB+k*10+5) (hcaB 5 _ rfl).leafc
  have b6:=zan HBR.out hbB (oB+k*10+6) (hcaB 6 _ rfl).leafc
  obtain⟨uB7,cB7,gB7⟩:=hcaB 7 _ rfl
  have b7:=zat HBR.out hbB cB7
  clear cB7
  obtain⟨uB8,cB8,gB8⟩:=hcaB 8 _ rfl
  have b8:=zat HBR.out hbB cB8
  clear cB8
  obtain⟨uB9,cB9,gB9⟩:=hcaB 9 _ rfl
  have b9:=zat HBR.out hbB cB9
  clear cB9
  clear hcaB
  simp only[zaF] at b0
  have k0:=kbZ k l.length
  have HXY:=zaa (show x=y→l.take (k+1)=m.take (k+1) from fun h=>by rw[List.take_add_one,List.take_add_one,hx,hy,HT.out,h])
  have HNM:=zaa (show¬x=y→ ¬l=m from fun h1 h2=>h1 (by rw[h2,hy] at hx;exact(Option.some.inj hx).symm))
  have hfx:=hl x (List.mem_of_getElem? hx)
  clear hx hy hlt2
  have HU4:=zaa gA4
  have HV4:=zaa gB4
  obtain⟨A4,p4,rfl, -⟩:=gA4.slice
  obtain⟨B4,r4,rfl, -⟩:=gB4.slice
  clear gA4 gB4
  rw[show(zah x.semas).length=x.semas.length by simp[zah]] at HU4 a4
  rw[show(zah y.semas).length=y.semas.length by simp[zah]] at HV4 b4
  have HU7:=zaa gA7
  have HV7:=zaa gB7
  obtain⟨A7,p7,rfl, -⟩:=gA7.slice
  obtain⟨B7,r7,rfl, -⟩:=gB7.slice
  clear gA7 gB7
  rw[show(zah x.bufs).length=x.bufs.length by simp[zah]] at HU7 a7
  rw[show(zah y.bufs).length=y.bufs.length by simp[zah]] at HV7 b7
  have HU8:=zaa gA8
  have HV8:=zaa gB8
  obtain⟨A8,p8,rfl, -⟩:=gA8.slice
  obtain⟨B8,r8,rfl, -⟩:=gB8.slice
  clear gA8 gB8
  simp only[List.length_map] at HU8 HV8 a8 b8
  have HU9:=zaa gA9
  have HV9:=zaa gB9
  obtain⟨A9,p9,rfl, -⟩:=gA9.slice
  obtain⟨B9,r9,rfl, -⟩:=gB9.slice
  clear gA9 gB9
  simp only[List.length_map] at HU9 HV9 a9 b9
  have HC:=zaa (fun s:zal wr=>zgA x y (x=y) (zaa Iff.rfl) [.string ⟨x.name.toArray⟩,.int .i64 x.period,.int .i64 x.length,.int .i64 x.mem,.slice A4 x.semas.length p4,.int .i64 x.events,.int .i64 x.boards,.slice A7 x.bufs.length p7,.slice A8 x.ports.length p8,.slice A9 x.procs.length p9] [.string ⟨y.name.toArray⟩,.int .i64 y.period,.int .i64 y.length,.int .i64 y.mem,.slice B4 y.semas.length r4,.int .i64 y.events,.int .i64 y.boards,.slice B7 y.bufs.length r7,.slice B8 y.ports.length r8,.slice B9 y.procs.length r9] s.w (zaa (zab.cons (.leaf _) (zab.cons (.leaf _) (zab.cons (.leaf _) (zab.cons (.leaf _) (zab.cons ((HU4.out.later HBR.out).later s.below) (zab.cons (.leaf _) (zab.cons (.leaf _) (zab.cons ((HU7.out.later HBR.out).later s.below) (zab.cons ((HU8.out.later HBR.out).later s.below) (zab.cons ((HU9.out.later HBR.out).later s.below) zab.nil))))))))))) (zaa (zab.cons (.leaf _) (zab.cons (.leaf _) (zab.cons (.leaf _) (zab.cons (.leaf _) (zab.cons ((HV4.out.later HBR.out).later s.below) (zab.cons (.leaf _) (zab.cons (.leaf _) (zab.cons ((HV7.out.later HBR.out).later s.below) (zab.cons ((HV8.out.later HBR.out).later s.below) (zab.cons ((HV9.out.later HBR.out).later s.below) zab.nil))))))))))) hfx)
  have hBA:=Nat.lt_of_lt_of_le hbA HBR.out.size
  have hBB:=Nat.lt_of_lt_of_le hbB HBR.out.size
  clear hfx hl
  by_cases hxy:x=y
  ·have HE:=zaa (HXY.out hxy)
   have HC:=zaa (fun s:zal wr=>(HC.out s).mono (fun _ _ h=>zau.yes hxy h))
   clear hxy
   go_wp2_with fail
   refine zaf (W:=wr) (by kernel_rfl) (by kernel_rfl) ?_
   repeat(go_big_quiet_step ((go_at_call 247;exact zal.call (HC.out _))))
   refine wpQuiet_nil ?_
   rintro _ ⟨s,rfl⟩
   have HB3:=zaa (HBR.out.trans (s.below.mono HBR.out.size))
   go_wp2_with fail
   go_roundw
   case rel=>exact⟨k+1,by omega,by go_num,HE.out,HB3.out⟩
   case measure=>simp[intOf];omega
  ·have HN:=zaa (HNM.out hxy)
   have HC:=zaa (fun s:zal wr=>(HC.out s).mono (fun _ _ h=>zau.no hxy h))
   clear hxy
   go_wp2_with fail
   refine zaf (W:=wr) (by kernel_rfl) (by kernel_rfl) ?_
   repeat(go_big_quiet_step ((go_at_call 247;exact zal.call (HC.out _))))
   refine wpQuiet_nil ?_
   rintro _ ⟨s,rfl⟩
   have HB3:=zaa (HBR.out.trans (s.below.mono HBR.out.size))
   go_wp2_with fail
   go_ret
   exact zau.mk false rfl ⟨(fun h=>by cases h),fun h=>absurd h HN.out⟩ HB3.out
theorem zi8 (x y:zcl) (p_:Prop) (hp_:Hid (p_↔x=y)) (us vs:List Value) (W:World) (ha:Hid (zab W (fun _=>True) us x.cells)) (hb:Hid (zab W (fun _=>True) vs y.cells)) (hl:zb8 x):
 Calls Tryz.prog 124 #[.agg us.toArray,.agg vs.toArray] W fun e w'=>zau p_ W.heap.size W e w':=by
 obtain⟨x_name,x_mem,x_frame,x_parts⟩:=x
 obtain⟨y_name,y_mem,y_frame,y_parts⟩:=y
 have hd:=ha.out
 have he:=hb.out
 obtain⟨u0,u1,u2,u3,rfl,h0,h1,h2,h3⟩:=dc4 hd
 obtain⟨v0,v1,v2,v3,rfl,i0,i1,i2,i3⟩:=dc4 he
 obtain rfl:=h0.leaf_eq
 obtain rfl:=i0.leaf_eq
 obtain rfl:=h1.leaf_eq
 obtain rfl:=i1.leaf_eq
 obtain rfl:=h2.leaf_eq
 obtain rfl:=i2.leaf_eq
 have HU3:=zaa h3
 have HV3:=zaa i3
 obtain⟨A3,p3,rfl, -⟩:=h3.slice
 obtain⟨B3,r3,rfl, -⟩:=i3.slice
 simp only[List.length_map] at HU3 HV3 ⊢
 clear ha hb hd he h0 i0 h1 i1 h2 i2 h3 i3
 simp only[zaF]
 by_cases hlead:x_name=y_name∧x_mem=y_mem∧x_frame=y_frame
 rotate_left
 ·have HN:=zaa (show¬p_ from fun h=>hlead (by have h2:=hp_.out.1 h;simp only[zcl.mk.injEq] at h2;exact⟨h2.1,h2.2.1,h2.2.2.1⟩))
  rcases zoo hlead with h|⟨rfl,h⟩|⟨rfl,rfl,h⟩
  all_goals clear hlead hp_
  all_goals
   first
    |(have hne1:=zaw h;have hne2:=zaG h;clear h)
    |have hne1:=zaP h
    |(have hne1:=zaK h;clear h)
    |(have hne1:=zbu h;clear h)
  all_goals
   go_enter Tryz.func124,Tryz.ntmps124
   go_wp2_with fail
   go_ret
   exact zau.mk false rfl ⟨(fun h=>by cases h),fun h=>absurd h HN.out⟩ (zbp W _ _).b
 obtain⟨rfl,rfl,rfl⟩:=hlead
 have HT:=zaa (zbp W (.cells #[.string ⟨x_name.toArray⟩,.int .i64 x_mem,.int .i64 x_frame,.slice A3 x_parts.length p3] 44) (.cells #[.string ⟨x_name.toArray⟩,.int .i64 x_mem,.int .i64 x_frame,.slice B3 y_parts.length r3] 44))
 have hzz:(W.alloc (.cells #[.string ⟨x_name.toArray⟩,.int .i64 x_mem,.int .i64 x_frame,.slice A3 x_parts.length p3] 44)).heap.size=W.heap.size+1:=by simp
 go_enter Tryz.func124,Tryz.ntmps124
 go_wp2_with fail
 (try rw[hzz])
 clear hzz
 generalize(W.alloc _).alloc _=w0 at *
 refine(zko _ _ x_parts y_parts w0 (zaa (HU3.out.later HT.out.b)) (zaa (HV3.out.later HT.out.b)) hl.1 (fun z hz=>hl.2 z hz)).mono ?_
 rintro e w1 ⟨z,rfl,hz,hb⟩
 have HT:=zaa (HT.out.step hb)
 have HZ:=zaa hz
 clear hb hz
 cases z with
 |false=>as_aux_lemma=>
  have HN:=zaa (show¬p_ from fun h=>absurd (congrArg (fun z_:zcl=>z_.parts) (hp_.out.1 h)) (fun h=>by cases HZ.out.2 h))
  clear HZ hp_
  go_wp2_with fail
  go_ret
  exact zau.mk false rfl ⟨(fun h=>by cases h),fun h=>absurd h HN.out⟩ HT.out.b
 |true=>
  have e_:=HZ.out.1 rfl
  clear HZ
  subst e_
  go_wp2_with fail
  go_ret
  exact zau.mk true rfl ⟨fun _=>hp_.out.2 (by first|rfl|trivial),fun _=>rfl⟩ HT.out.b
theorem zl1 (va vb:Value) (l m:List zcl) (W:World) (ha:Hid (DAt W (fun _=>True) va (.row 4 (l.map zcl.cells)))) (hb:Hid (DAt W (fun _=>True) vb (.row 4 (m.map zcl.cells)))) (hn:l.length≤140737488355328) (hl: ∀z∈l,zb8 z):
 Calls Tryz.prog 55 #[va,vb] W fun e w'=>zau (l=m) W.heap.size W e w':=by
 obtain⟨A,c,rfl,hA⟩:=ha.out.slice
 obtain⟨B,d,rfl,hB⟩:=hb.out.slice
 have HA:=zaa hA
 have HB:=zaa hB
 clear hA hB ha hb
 rw[List.length_map]
 rw[List.length_map]
 by_cases hlen:l.length=m.length
 rotate_left
 ·have HN:=zaa hlen
  have hne1:=zaK hlen
  clear hlen
  go_enter Tryz.func55,Tryz.ntmps55
  go_wp2_with fail
  go_ret
  exact zau.mk false rfl ⟨(fun h=>by cases h),fun h=>absurd (congrArg List.length h) HN.out⟩ (Below.refl _ _)
 rw[←hlen]
 have HL:=zaa hlen
 clear hlen
 go_enter Tryz.func55,Tryz.ntmps55
 go_wp2_with fail
 go_loopw [5] (fun v wr=> ∃k:Nat,k≤l.length∧v= .int .i64 k∧l.take k=m.take k∧Below W.heap.size W wr) (fun v _=>l.length-(intOf v).toNat)
 case atStart=>exact⟨0,by omega,rfl,rfl,Below.refl _ _⟩
 case round=>
  obtain⟨k,hk,rfl,ht,hbr⟩:=hrel
  have HBR:=zaa hbr
  have HT:=zaa ht
  clear hbr ht
  by_cases hlt:k<l.length
  rotate_left
  ·obtain rfl:k=l.length:=by omega
   clear hlt
   have HE:Hid (l=m):=zaa (by have h:=HT.out;rw[List.take_length,HL.out,List.take_length] at h;exact h)
   go_wp2_with fail
   go_ret
   exact zau.mk true rfl ⟨fun _=>HE.out,fun _=>rfl⟩ HBR.out
  have hlt2:k<m.length:=by have:=HL.out;omega
  obtain⟨x,hx⟩:=za9 hlt
  obtain⟨y,hy⟩:=za9 hlt2
  obtain⟨bA,oA,rfl,hbA,hcaA⟩:=HA.out.at_ hx
  have a0:=zan HBR.out hbA (oA+k*4) (hcaA 0 _ rfl).leafc
  have a1:=zan HBR.out hbA (oA+k*4+1) (hcaA 1 _ rfl).leafc
  have a2:=zan HBR.out hbA (oA+k*4+2) (hcaA 2 _ rfl).leafc
  obtain⟨uA3,cA3,gA3⟩:=hcaA 3 _ rfl
  have a3:=zat HBR.out hbA cA3
  clear cA3
  clear hcaA
  simp only[zaF] at a0
  obtain⟨bB,oB,rfl,hbB,hcaB⟩:=HB.out.at_ hy
  have b0:=zan HBR.out hbB (oB+k*4) (hcaB 0 _ rfl).leafc
  have b1:=zan HBR.out hbB (oB+k*4+1) (hcaB 1 _ rfl).leafc
  have b2:=zan HBR.out hbB (oB+k*4+2) (hcaB 2 _ rfl).leafc
  obtain⟨uB3,cB3,gB3⟩:=hcaB 3 _ rfl
  have b3:=zat HBR.out hbB cB3
  clear cB3
  clear hcaB
  simp only[zaF] at b0
  have k0:=kbZ k l.length
  have HXY:=zaa (show x=y→l.take (k+1)=m.take (k+1) from fun h=>by rw[List.take_add_one,List.take_add_one,hx,hy,HT.out,h])
  have HNM:=zaa (show¬x=y→ ¬l=m from fun h1 h2=>h1 (by rw[h2,hy] at hx;exact(Option.some.inj hx).symm))
  have hfx:=hl x (List.mem_of_getElem? hx)
  clear hx hy hlt2
  have HU3:=zaa gA3
  have HV3:=zaa gB3
  obtain⟨A3,p3,rfl, -⟩:=gA3.slice
  obtain⟨B3,r3,rfl, -⟩:=gB3.slice
  clear gA3 gB3
  simp only[List.length_map] at HU3 HV3 a3 b3
  have HC:=zaa (fun s:zal wr=>zi8 x y (x=y) (zaa Iff.rfl) [.string ⟨x.name.toArray⟩,.int .i64 x.mem,.int .i64 x.frame,.slice A3 x.parts.length p3] [.string ⟨y.name.toArray⟩,.int .i64 y.mem,.int .i64 y.frame,.slice B3 y.parts.length r3] s.w (zaa (zab.cons (.leaf _) (zab.cons (.leaf _) (zab.cons (.leaf _) (zab.cons ((HU3.out.later HBR.out).later s.below) zab.nil))))) (zaa (zab.cons (.leaf _) (zab.cons (.leaf _) (zab.cons (.leaf _) (zab.cons ((HV3.out.later HBR.out).later s.below) zab.nil))))) hfx)
  have hBA:=Nat.lt_of_lt_of_le hbA HBR.out.size
  have hBB:=Nat.lt_of_lt_of_le hbB HBR.out.size
  clear hfx hl
  by_cases hxy:x=y
  ·have HE:=zaa (HXY.out hxy)
   have HC:=zaa (fun s:zal wr=>(HC.out s).mono (fun _ _ h=>zau.yes hxy h))
   clear hxy
   go_wp2_with fail
   refine zaf (W:=wr) (by kernel_rfl) (by kernel_rfl) ?_
   repeat(go_big_quiet_step ((go_at_call 124;exact zal.call (HC.out _))))
   refine wpQuiet_nil ?_
   rintro _ ⟨s,rfl⟩
   have HB3:=zaa (HBR.out.trans (s.below.mono HBR.out.size))
   go_wp2_with fail
   go_roundw
   case rel=>exact⟨k+1,by omega,by go_num,HE.out,HB3.out⟩
   case measure=>simp[intOf];omega
  ·have HN:=zaa (HNM.out hxy)
   have HC:=zaa (fun s:zal wr=>(HC.out s).mono (fun _ _ h=>zau.no hxy h))
   clear hxy
   go_wp2_with fail
   refine zaf (W:=wr) (by kernel_rfl) (by kernel_rfl) ?_
   repeat(go_big_quiet_step ((go_at_call 124;exact zal.call (HC.out _))))
   refine wpQuiet_nil ?_
   rintro _ ⟨s,rfl⟩
   have HB3:=zaa (HBR.out.trans (s.below.mono HBR.out.size))
   go_wp2_with fail
   go_ret
   exact zau.mk false rfl ⟨(fun h=>by cases h),fun h=>absurd h HN.out⟩ HB3.out
theorem zgM (x y:zbd) (p_:Prop) (hp_:Hid (p_↔x=y)) (us vs:List Value) (W:World) (ha:Hid (zab W (fun _=>True) us x.cells)) (hb:Hid (zab W (fun _=>True) vs y.cells)) (hl:x.to.length≤140737488355328):
 Calls Tryz.prog 125 #[.agg us.toArray,.agg vs.toArray] W fun e w'=>zau p_ W.heap.size W e w':=by
 obtain⟨⟨x_fm,x_fp,x_fo⟩,x_to⟩:=x
 obtain⟨⟨y_fm,y_fp,y_fo⟩,y_to⟩:=y
 have hd:=ha.out
 have he:=hb.out
 obtain⟨u0,u1,u2,u3,rfl,h0,h1,h2,h3⟩:=dc4 hd
 obtain⟨v0,v1,v2,v3,rfl,i0,i1,i2,i3⟩:=dc4 he
 obtain rfl:=h0.leaf_eq
 obtain rfl:=i0.leaf_eq
 obtain rfl:=h1.leaf_eq
 obtain rfl:=i1.leaf_eq
 obtain rfl:=h2.leaf_eq
 obtain rfl:=i2.leaf_eq
 have HU3:=zaa h3
 have HV3:=zaa i3
 obtain⟨A3,p3,rfl, -⟩:=h3.slice
 obtain⟨B3,r3,rfl, -⟩:=i3.slice
 simp only[List.length_map] at HU3 HV3 ⊢
 clear ha hb hd he h0 i0 h1 i1 h2 i2 h3 i3
 simp only[zaF]
 by_cases hlead:x_fm=y_fm∧x_fp=y_fp∧x_fo=y_fo
 rotate_left
 ·have HN:=zaa (show¬p_ from fun h=>hlead (by have h2:=hp_.out.1 h;simp only[zbd.mk.injEq,zb2.mk.injEq] at h2;exact⟨h2.1.1,h2.1.2.1,h2.1.2.2⟩))
  rcases zoo hlead with h|⟨rfl,h⟩|⟨rfl,rfl,h⟩
  all_goals clear hlead hp_
  all_goals
   first
    |(have hne1:=zaw h;have hne2:=zaG h;clear h)
    |have hne1:=zaP h
    |(have hne1:=zaK h;clear h)
    |(have hne1:=zbu h;clear h)
  all_goals
   go_enter Tryz.func125,Tryz.ntmps125
   go_wp2_with fail
   go_ret
   exact zau.mk false rfl ⟨(fun h=>by cases h),fun h=>absurd h HN.out⟩ (zbp W _ _).b
 obtain⟨rfl,rfl,rfl⟩:=hlead
 have HT:=zaa (zbp W (.cells #[.string ⟨x_fm.toArray⟩,.string ⟨x_fp.toArray⟩,.string ⟨x_fo.toArray⟩,.slice A3 x_to.length p3] 58) (.cells #[.string ⟨x_fm.toArray⟩,.string ⟨x_fp.toArray⟩,.string ⟨x_fo.toArray⟩,.slice B3 y_to.length r3] 58))
 have hzz:(W.alloc (.cells #[.string ⟨x_fm.toArray⟩,.string ⟨x_fp.toArray⟩,.string ⟨x_fo.toArray⟩,.slice A3 x_to.length p3] 58)).heap.size=W.heap.size+1:=by simp
 go_enter Tryz.func125,Tryz.ntmps125
 go_wp2_with fail
 (try rw[hzz])
 clear hzz
 generalize(W.alloc _).alloc _=w0 at *
 refine(ziG _ _ x_to y_to w0 (zaa (HU3.out.later HT.out.b)) (zaa (HV3.out.later HT.out.b)) hl).mono ?_
 rintro e w1 ⟨z,rfl,hz,hb⟩
 have HT:=zaa (HT.out.step hb)
 have HZ:=zaa hz
 clear hb hz
 cases z with
 |false=>as_aux_lemma=>
  have HN:=zaa (show¬p_ from fun h=>absurd (congrArg (fun z_:zbd=>z_.to) (hp_.out.1 h)) (fun h=>by cases HZ.out.2 h))
  clear HZ hp_
  go_wp2_with fail
  go_ret
  exact zau.mk false rfl ⟨(fun h=>by cases h),fun h=>absurd h HN.out⟩ HT.out.b
 |true=>
  have e_:=HZ.out.1 rfl
  clear HZ
  subst e_
  go_wp2_with fail
  go_ret
  exact zau.mk true rfl ⟨fun _=>hp_.out.2 (by first|rfl|trivial),fun _=>rfl⟩ HT.out.b
theorem zks (va vb:Value) (l m:List zbd) (W:World) (ha:Hid (DAt W (fun _=>True) va (.row 4 (l.map zbd.cells)))) (hb:Hid (DAt W (fun _=>True) vb (.row 4 (m.map zbd.cells)))) (hn:l.length≤140737488355328) (hl: ∀z∈l,z.to.length≤140737488355328):
 Calls Tryz.prog 56 #[va,vb] W fun e w'=>zau (l=m) W.heap.size W e w':=by
 obtain⟨A,c,rfl,hA⟩:=ha.out.slice
 obtain⟨B,d,rfl,hB⟩:=hb.out.slice
 have HA:=zaa hA
 have HB:=zaa hB
 clear hA hB ha hb
 rw[List.length_map]
 rw[List.length_map]
 by_cases hlen:l.length=m.length
 rotate_left
 ·have HN:=zaa hlen
  have hne1:=zaK hlen
  clear hlen
  go_enter Tryz.func56,Tryz.ntmps56
  go_wp2_with fail
  go_ret
  exact zau.mk false rfl ⟨(fun h=>by cases h),fun h=>absurd (congrArg List.length h) HN.out⟩ (Below.refl _ _)
 rw[←hlen]
 have HL:=zaa hlen
 clear hlen
 go_enter Tryz.func56,Tryz.ntmps56
 go_wp2_with fail
 go_loopw [5] (fun v wr=> ∃k:Nat,k≤l.length∧v= .int .i64 k∧l.take k=m.take k∧Below W.heap.size W wr) (fun v _=>l.length-(intOf v).toNat)
 case atStart=>exact⟨0,by omega,rfl,rfl,Below.refl _ _⟩
 case round=>
  obtain⟨k,hk,rfl,ht,hbr⟩:=hrel
  have HBR:=zaa hbr
  have HT:=zaa ht
  clear hbr ht
  by_cases hlt:k<l.length
  rotate_left
  ·obtain rfl:k=l.length:=by omega
   clear hlt
   have HE:Hid (l=m):=zaa (by have h:=HT.out;rw[List.take_length,HL.out,List.take_length] at h;exact h)
   go_wp2_with fail
   go_ret
   exact zau.mk true rfl ⟨fun _=>HE.out,fun _=>rfl⟩ HBR.out
  have hlt2:k<m.length:=by have:=HL.out;omega
  obtain⟨x,hx⟩:=za9 hlt
  obtain⟨y,hy⟩:=za9 hlt2
  obtain⟨bA,oA,rfl,hbA,hcaA⟩:=HA.out.at_ hx
  have a0:=zan HBR.out hbA (oA+k*4) (hcaA 0 _ rfl).leafc
  have a1:=zan HBR.out hbA (oA+k*4+1) (hcaA 1 _ rfl).leafc
  have a2:=zan HBR.out hbA (oA+k*4+2) (hcaA 2 _ rfl).leafc
  obtain⟨uA3,cA3,gA3⟩:=hcaA 3 _ rfl
  have a3:=zat HBR.out hbA cA3
  clear cA3
  clear hcaA
  simp only[zaF] at a0 a1 a2
  obtain⟨bB,oB,rfl,hbB,hcaB⟩:=HB.out.at_ hy
  have b0:=zan HBR.out hbB (oB+k*4) (hcaB 0 _ rfl).leafc
  have b1:=zan HBR.out hbB (oB+k*4+1) (hcaB 1 _ rfl).leafc
  have b2:=zan HBR.out hbB (oB+k*4+2) (hcaB 2 _ rfl).leafc
  obtain⟨uB3,cB3,gB3⟩:=hcaB 3 _ rfl
  have b3:=zat HBR.out hbB cB3
  clear cB3
  clear hcaB
  simp only[zaF] at b0 b1 b2
  have k0:=kbZ k l.length
  have HXY:=zaa (show x=y→l.take (k+1)=m.take (k+1) from fun h=>by rw[List.take_add_one,List.take_add_one,hx,hy,HT.out,h])
  have HNM:=zaa (show¬x=y→ ¬l=m from fun h1 h2=>h1 (by rw[h2,hy] at hx;exact(Option.some.inj hx).symm))
  have hfx:=hl x (List.mem_of_getElem? hx)
  clear hx hy hlt2
  have HU3:=zaa gA3
  have HV3:=zaa gB3
  obtain⟨A3,p3,rfl, -⟩:=gA3.slice
  obtain⟨B3,r3,rfl, -⟩:=gB3.slice
  clear gA3 gB3
  simp only[List.length_map] at HU3 HV3 a3 b3
  have HC:=zaa (fun s:zal wr=>zgM x y (x=y) (zaa Iff.rfl) [.string ⟨x.from_.m.toArray⟩,.string ⟨x.from_.p.toArray⟩,.string ⟨x.from_.o.toArray⟩,.slice A3 x.to.length p3] [.string ⟨y.from_.m.toArray⟩,.string ⟨y.from_.p.toArray⟩,.string ⟨y.from_.o.toArray⟩,.slice B3 y.to.length r3] s.w (zaa (zab.cons (.leaf _) (zab.cons (.leaf _) (zab.cons (.leaf _) (zab.cons ((HU3.out.later HBR.out).later s.below) zab.nil))))) (zaa (zab.cons (.leaf _) (zab.cons (.leaf _) (zab.cons (.leaf _) (zab.cons ((HV3.out.later HBR.out).later s.below) zab.nil))))) hfx)
  have hBA:=Nat.lt_of_lt_of_le hbA HBR.out.size
  have hBB:=Nat.lt_of_lt_of_le hbB HBR.out.size
  clear hfx hl
  by_cases hxy:x=y
  ·have HE:=zaa (HXY.out hxy)
   have HC:=zaa (fun s:zal wr=>(HC.out s).mono (fun _ _ h=>zau.yes hxy h))
   clear hxy
   go_wp2_with fail
   refine zaf (W:=wr) (by kernel_rfl) (by kernel_rfl) ?_
   repeat(go_big_quiet_step ((go_at_call 125;exact zal.call (HC.out _))))
   refine wpQuiet_nil ?_
   rintro _ ⟨s,rfl⟩
   have HB3:=zaa (HBR.out.trans (s.below.mono HBR.out.size))
   go_wp2_with fail
   go_roundw
   case rel=>exact⟨k+1,by omega,by go_num,HE.out,HB3.out⟩
   case measure=>simp[intOf];omega
  ·have HN:=zaa (HNM.out hxy)
   have HC:=zaa (fun s:zal wr=>(HC.out s).mono (fun _ _ h=>zau.no hxy h))
   clear hxy
   go_wp2_with fail
   refine zaf (W:=wr) (by kernel_rfl) (by kernel_rfl) ?_
   repeat(go_big_quiet_step ((go_at_call 125;exact zal.call (HC.out _))))
   refine wpQuiet_nil ?_
   rintro _ ⟨s,rfl⟩
   have HB3:=zaa (HBR.out.trans (s.below.mono HBR.out.size))
   go_wp2_with fail
   go_ret
   exact zau.mk false rfl ⟨(fun h=>by cases h),fun h=>absurd h HN.out⟩ HB3.out
theorem zmI (x y:VlD) (p_:Prop) (hp_:Hid (p_↔x=y)) (us vs:List Value) (W:World) (ha:Hid (zab W (fun _=>True) us x.cells)) (hb:Hid (zab W (fun _=>True) vs y.cells)) (hl:x.to.length≤140737488355328):
 Calls Tryz.prog 126 #[.agg us.toArray,.agg vs.toArray] W fun e w'=>zau p_ W.heap.size W e w':=by
 obtain⟨x_name,⟨x_fm,x_fp,x_fo⟩,x_bag,x_max,x_to⟩:=x
 obtain⟨y_name,⟨y_fm,y_fp,y_fo⟩,y_bag,y_max,y_to⟩:=y
 have hd:=ha.out
 have he:=hb.out
 obtain⟨u0,u1,u2,u3,u4,u5,u6,rfl,h0,h1,h2,h3,h4,h5,h6⟩:=dc7 hd
 obtain⟨v0,v1,v2,v3,v4,v5,v6,rfl,i0,i1,i2,i3,i4,i5,i6⟩:=dc7 he
 obtain rfl:=h0.leaf_eq
 obtain rfl:=i0.leaf_eq
 obtain rfl:=h1.leaf_eq
 obtain rfl:=i1.leaf_eq
 obtain rfl:=h2.leaf_eq
 obtain rfl:=i2.leaf_eq
 obtain rfl:=h3.leaf_eq
 obtain rfl:=i3.leaf_eq
 obtain rfl:=h4.leaf_eq
 obtain rfl:=i4.leaf_eq
 obtain rfl:=h5.leaf_eq
 obtain rfl:=i5.leaf_eq
 have HU6:=zaa h6
 have HV6:=zaa i6
 obtain⟨A6,p6,rfl, -⟩:=h6.slice
 obtain⟨B6,r6,rfl, -⟩:=i6.slice
 simp only[List.length_map] at HU6 HV6 ⊢
 clear ha hb hd he h0 i0 h1 i1 h2 i2 h3 i3 h4 i4 h5 i5 h6 i6
 simp only[zaF]
 by_cases hlead:x_name=y_name∧x_fm=y_fm∧x_fp=y_fp∧x_fo=y_fo∧x_bag=y_bag∧x_max=y_max
 rotate_left
 ·have HN:=zaa (show¬p_ from fun h=>hlead (by have h2:=hp_.out.1 h;simp only[VlD.mk.injEq,zb2.mk.injEq] at h2;exact⟨h2.1,h2.2.1.1,h2.2.1.2.1,h2.2.1.2.2,h2.2.2.1,h2.2.2.2.1⟩))
  rcases naf6 hlead with h|⟨rfl,h⟩|⟨rfl,rfl,h⟩|⟨rfl,rfl,rfl,h⟩|⟨rfl,rfl,rfl,rfl,h⟩|⟨rfl,rfl,rfl,rfl,rfl,h⟩
  all_goals clear hlead hp_
  all_goals
   first
    |(have hne1:=zaw h;have hne2:=zaG h;clear h)
    |have hne1:=zaP h
    |(have hne1:=zaK h;clear h)
    |(have hne1:=zbu h;clear h)
  all_goals
   go_enter Tryz.func126,Tryz.ntmps126
   go_wp2_with fail
   go_ret
   exact zau.mk false rfl ⟨(fun h=>by cases h),fun h=>absurd h HN.out⟩ (zbp W _ _).b
 obtain⟨rfl,rfl,rfl,rfl,rfl,rfl⟩:=hlead
 have HT:=zaa (zbp W (.cells #[.string ⟨x_name.toArray⟩,.string ⟨x_fm.toArray⟩,.string ⟨x_fp.toArray⟩,.string ⟨x_fo.toArray⟩,.int .i64 x_bag,.int .i64 x_max,.slice A6 x_to.length p6] 61) (.cells #[.string ⟨x_name.toArray⟩,.string ⟨x_fm.toArray⟩,.string ⟨x_fp.toArray⟩,.string ⟨x_fo.toArray⟩,.int .i64 x_bag,.int .i64 x_max,.slice B6 y_to.length r6] 61))
 have hzz:(W.alloc (.cells #[.string ⟨x_name.toArray⟩,.string ⟨x_fm.toArray⟩,.string ⟨x_fp.toArray⟩,.string ⟨x_fo.toArray⟩,.int .i64 x_bag,.int .i64 x_max,.slice A6 x_to.length p6] 61)).heap.size=W.heap.size+1:=by simp
 go_enter Tryz.func126,Tryz.ntmps126
 go_wp2_with fail
 (try rw[hzz])
 clear hzz
 generalize(W.alloc _).alloc _=w0 at *
 refine(ziG _ _ x_to y_to w0 (zaa (HU6.out.later HT.out.b)) (zaa (HV6.out.later HT.out.b)) hl).mono ?_
 rintro e w1 ⟨z,rfl,hz,hb⟩
 have HT:=zaa (HT.out.step hb)
 have HZ:=zaa hz
 clear hb hz
 cases z with
 |false=>as_aux_lemma=>
  have HN:=zaa (show¬p_ from fun h=>absurd (congrArg (fun z_:VlD=>z_.to) (hp_.out.1 h)) (fun h=>by cases HZ.out.2 h))
  clear HZ hp_
  go_wp2_with fail
  go_ret
  exact zau.mk false rfl ⟨(fun h=>by cases h),fun h=>absurd h HN.out⟩ HT.out.b
 |true=>
  have e_:=HZ.out.1 rfl
  clear HZ
  subst e_
  go_wp2_with fail
  go_ret
  exact zau.mk true rfl ⟨fun _=>hp_.out.2 (by first|rfl|trivial),fun _=>rfl⟩ HT.out.b
theorem zob (va vb:Value) (l m:List VlD) (W:World) (ha:Hid (DAt W (fun _=>True) va (.row 7 (l.map VlD.cells)))) (hb:Hid (DAt W (fun _=>True) vb (.row 7 (m.map VlD.cells)))) (hn:l.length≤140737488355328) (hl: ∀z∈l,z.to.length≤140737488355328):
 Calls Tryz.prog 59 #[va,vb] W fun e w'=>zau (l=m) W.heap.size W e w':=by
 obtain⟨A,c,rfl,hA⟩:=ha.out.slice
 obtain⟨B,d,rfl,hB⟩:=hb.out.slice
 have HA:=zaa hA
 have HB:=zaa hB
 clear hA hB ha hb
 rw[List.length_map]
 rw[List.length_map]
 by_cases hlen:l.length=m.length
 rotate_left
 ·have HN:=zaa hlen
  have hne1:=zaK hlen
  clear hlen
  go_enter Tryz.func59,Tryz.ntmps59
  go_wp2_with fail
  go_ret
  exact zau.mk false rfl ⟨(fun h=>by cases h),fun h=>absurd (congrArg List.length h) HN.out⟩ (Below.refl _ _)
 rw[←hlen]
 have HL:=zaa hlen
 clear hlen
 go_enter Tryz.func59,Tryz.ntmps59
 go_wp2_with fail
 go_loopw [5] (fun v wr=> ∃k:Nat,k≤l.length∧v= .int .i64 k∧l.take k=m.take k∧Below W.heap.size W wr) (fun v _=>l.length-(intOf v).toNat)
 case atStart=>exact⟨0,by omega,rfl,rfl,Below.refl _ _⟩
 case round=>
  obtain⟨k,hk,rfl,ht,hbr⟩:=hrel
  have HBR:=zaa hbr
  have HT:=zaa ht
  clear hbr ht
  by_cases hlt:k<l.length
  rotate_left
  ·obtain rfl:k=l.length:=by omega
   clear hlt
   have HE:Hid (l=m):=zaa (by have h:=HT.out;rw[List.take_length,HL.out,List.take_length] at h;exact h)
   go_wp2_with fail
   go_ret
   exact zau.mk true rfl ⟨fun _=>HE.out,fun _=>rfl⟩ HBR.out
  have hlt2:k<m.length:=by have:=HL.out;omega
  obtain⟨x,hx⟩:=za9 hlt
  obtain⟨y,hy⟩:=za9 hlt2
  obtain⟨bA,oA,rfl,hbA,hcaA⟩:=HA.out.at_ hx
  have a0:=zan HBR.out hbA (oA+k*7) (hcaA 0 _ rfl).leafc
  have a1:=zan HBR.out hbA (oA+k*7+1) (hcaA 1 _ rfl).leafc
  have a2:=zan HBR.out hbA (oA+k*7+2) (hcaA 2 _ rfl).leafc
  have a3:=zan HBR.out hbA (oA+k*7+3) (hcaA 3 _ rfl).leafc
  have a4:=zan HBR.out hbA (oA+k*7+4) (hcaA 4 _ rfl).leafc
  have a5:=zan HBR.out hbA (oA+k*7+5) (hcaA 5 _ rfl).leafc
  obtain⟨uA6,cA6,gA6⟩:=hcaA 6 _ rfl
  have a6:=zat HBR.out hbA cA6
  clear cA6
  clear hcaA
  simp only[zaF] at a0 a1 a2 a3
  obtain⟨bB,oB,rfl,hbB,hcaB⟩:=HB.out.at_ hy
  have b0:=zan HBR.out hbB (oB+k*7) (hcaB 0 _ rfl).leafc
  have b1:=zan HBR.out hbB (oB+k*7+1) (hcaB 1 _ rfl).leafc
  have b2:=zan HBR.out hbB (oB+k*7+2) (hcaB 2 _ rfl).leafc
  have b3:=zan HBR.out hbB (oB+k*7+3) (hcaB 3 _ rfl).leafc
  have b4:=zan HBR.out hbB (oB+k*7+4) (hcaB 4 _ rfl).leafc
  have b5:=zan HBR.out hbB (oB+k*7+5) (hcaB 5 _ rfl).leafc
  obtain⟨uB6,cB6,gB6⟩:=hcaB 6 _ rfl
  have b6:=zat HBR.out hbB cB6
  clear cB6
  clear hcaB
  simp only[zaF] at b0 b1 b2 b3
  have k0:=kbZ k l.length
  have HXY:=zaa (show x=y→l.take (k+1)=m.take (k+1) from fun h=>by rw[List.take_add_one,List.take_add_one,hx,hy,HT.out,h])
  have HNM:=zaa (show¬x=y→ ¬l=m from fun h1 h2=>h1 (by rw[h2,hy] at hx;exact(Option.some.inj hx).symm))
  have hfx:=hl x (List.mem_of_getElem? hx)
  clear hx hy hlt2
  have HU6:=zaa gA6
  have HV6:=zaa gB6
  obtain⟨A6,p6,rfl, -⟩:=gA6.slice
  obtain⟨B6,r6,rfl, -⟩:=gB6.slice
  clear gA6 gB6
  simp only[List.length_map] at HU6 HV6 a6 b6
  have HC:=zaa (fun s:zal wr=>zmI x y (x=y) (zaa Iff.rfl) [.string ⟨x.name.toArray⟩,.string ⟨x.from_.m.toArray⟩,.string ⟨x.from_.p.toArray⟩,.string ⟨x.from_.o.toArray⟩,.int .i64 x.bag,.int .i64 x.max,.slice A6 x.to.length p6] [.string ⟨y.name.toArray⟩,.string ⟨y.from_.m.toArray⟩,.string ⟨y.from_.p.toArray⟩,.string ⟨y.from_.o.toArray⟩,.int .i64 y.bag,.int .i64 y.max,.slice B6 y.to.length r6] s.w (zaa (zab.cons (.leaf _) (zab.cons (.leaf _) (zab.cons (.leaf _) (zab.cons (.leaf _) (zab.cons (.leaf _) (zab.cons (.leaf _) (zab.cons ((HU6.out.later HBR.out).later s.below) zab.nil)))))))) (zaa (zab.cons (.leaf _) (zab.cons (.leaf _) (zab.cons (.leaf _) (zab.cons (.leaf _) (zab.cons (.leaf _) (zab.cons (.leaf _) (zab.cons ((HV6.out.later HBR.out).later s.below) zab.nil)))))))) hfx)
  have hBA:=Nat.lt_of_lt_of_le hbA HBR.out.size
  have hBB:=Nat.lt_of_lt_of_le hbB HBR.out.size
  clear hfx hl
  by_cases hxy:x=y
  ·have HE:=zaa (HXY.out hxy)
   have HC:=zaa (fun s:zal wr=>(HC.out s).mono (fun _ _ h=>zau.yes hxy h))
   clear hxy
   go_wp2_with fail
   refine zaf (W:=wr) (by kernel_rfl) (by kernel_rfl) ?_
   repeat(go_big_quiet_step ((go_at_call 126;exact zal.call (HC.out _))))
   refine wpQuiet_nil ?_
   rintro _ ⟨s,rfl⟩
   have HB3:=zaa (HBR.out.trans (s.below.mono HBR.out.size))
   go_wp2_with fail
   go_roundw
   case rel=>exact⟨k+1,by omega,by go_num,HE.out,HB3.out⟩
   case measure=>simp[intOf];omega
  ·have HN:=zaa (HNM.out hxy)
   have HC:=zaa (fun s:zal wr=>(HC.out s).mono (fun _ _ h=>zau.no hxy h))
   clear hxy
   go_wp2_with fail
   refine zaf (W:=wr) (by kernel_rfl) (by kernel_rfl) ?_
   repeat(go_big_quiet_step ((go_at_call 126;exact zal.call (HC.out _))))
   refine wpQuiet_nil ?_
   rintro _ ⟨s,rfl⟩
   have HB3:=zaa (HBR.out.trans (s.below.mono HBR.out.size))
   go_wp2_with fail
   go_ret
   exact zau.mk false rfl ⟨(fun h=>by cases h),fun h=>absurd h HN.out⟩ HB3.out
end Go.Proofs.YtgbfaompondolaaGreatDoor
