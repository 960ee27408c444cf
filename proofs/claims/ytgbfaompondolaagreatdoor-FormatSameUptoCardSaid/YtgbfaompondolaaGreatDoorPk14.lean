/- Merged texts of the walks and of the plain laws on which the statement leans.-/
import Derived.Test.YtgbfaompondolaaGreatDoorPk1
import Derived.Test.YtgbfaompondolaaGreatDoorPk13
import Derived.Test.YtgbfaompondolaaGreatDoorPk11
import Derived.Test.YtgbfaompondolaaGreatDoorShelf
import Derived.Lib.Builder
import Derived.Lib.AppendStr
import Derived.Shelf.Strings.Builder1
set_option maxHeartbeats 4000000
set_option maxRecDepth 100000
namespace Go.Proofs.YtgbfaompondolaaGreatDoor
open Go.RowKit
attribute [local go_sem] zal.cell
theorem zil (x y:zbR) (p_:Prop) (hp_:Hid (p_↔x=y)) (us vs:List Value) (W:World) (ha:Hid (zab W (fun _=>True) us x.cells)) (hb:Hid (zab W (fun _=>True) vs y.cells)) (hl:zdE x) (hm:zdE y):
 Calls Tryz.prog 13 #[.agg us.toArray,.agg vs.toArray] W fun e w'=>zau p_ W.heap.size W e w':=by
 obtain⟨x0,x1,x2,x3,x4,x5,x6,x7⟩:=x
 obtain⟨y0,y1,y2,y3,y4,y5,y6,y7⟩:=y
 have hd:=ha.out
 have he:=hb.out
 obtain⟨u0,u1,u2,u3,u4,u5,u6,u7,rfl,h0,h1,h2,h3,h4,h5,h6,h7⟩:=dc8 hd
 obtain⟨v0,v1,v2,v3,v4,v5,v6,v7,rfl,i0,i1,i2,i3,i4,i5,i6,i7⟩:=dc8 he
 have HU0:=zaa h0
 have HV0:=zaa i0
 obtain⟨A0,p0,rfl, -⟩:=h0.slice
 obtain⟨B0,r0,rfl, -⟩:=i0.slice
 simp only[List.length_map] at HU0 HV0 ⊢
 have HU1:=zaa h1
 have HV1:=zaa i1
 obtain⟨A1,p1,rfl, -⟩:=h1.slice
 obtain⟨B1,r1,rfl, -⟩:=i1.slice
 simp only[List.length_map] at HU1 HV1 ⊢
 have HU2:=zaa h2
 have HV2:=zaa i2
 obtain⟨A2,p2,rfl, -⟩:=h2.slice
 obtain⟨B2,r2,rfl, -⟩:=i2.slice
 simp only[List.length_map] at HU2 HV2 ⊢
 have HU3:=zaa h3
 have HV3:=zaa i3
 obtain⟨A3,p3,rfl, -⟩:=h3.slice
 obtain⟨B3,r3,rfl, -⟩:=i3.slice
 simp only[List.length_map] at HU3 HV3 ⊢
 have HU4:=zaa h4
 have HV4:=zaa i4
 obtain⟨A4,p4,rfl, -⟩:=h4.slice
 obtain⟨B4,r4,rfl, -⟩:=i4.slice
 simp only[List.length_map] at HU4 HV4 ⊢
 have HU5:=zaa h5
 have HV5:=zaa i5
 obtain⟨A5,p5,rfl, -⟩:=h5.slice
 obtain⟨B5,r5,rfl, -⟩:=i5.slice
 simp only[List.length_map] at HU5 HV5 ⊢
 have HU6:=zaa h6
 have HV6:=zaa i6
 obtain⟨A6,p6,rfl, -⟩:=h6.slice
 obtain⟨B6,r6,rfl, -⟩:=i6.slice
 simp only[List.length_map] at HU6 HV6 ⊢
 have HU7:=zaa h7
 have HV7:=zaa i7
 obtain⟨A7,p7,rfl, -⟩:=h7.slice
 obtain⟨B7,r7,rfl, -⟩:=i7.slice
 simp only[List.length_map] at HU7 HV7 ⊢
 clear ha hb hd he h0 i0 h1 i1 h2 i2 h3 i3 h4 i4 h5 i5 h6 i6 h7 i7
 go_enter Tryz.func13,Tryz.ntmps13
 go_wp2_with fail
 have hb0:=zcN (sOb W.heap.size [.slice A0 x0.length p0,.slice A1 x1.length p1,.slice A2 x2.length p2,.slice A3 x3.length p3,.slice A4 x4.length p4,.slice A5 x5.length p5,.slice A6 x6.length p6,.slice A7 x7.length p7] [.slice B0 y0.length r0,.slice B1 y1.length r1,.slice B2 y2.length r2,.slice B3 y3.length r3,.slice B4 y4.length r4,.slice B5 y5.length r5,.slice B6 y6.length r6,.slice B7 y7.length r7]) W
 have HX:=zaa (zc2 (sOb W.heap.size [.slice A0 x0.length p0,.slice A1 x1.length p1,.slice A2 x2.length p2,.slice A3 x3.length p3,.slice A4 x4.length p4,.slice A5 x5.length p5,.slice A6 x6.length p6,.slice A7 x7.length p7] [.slice B0 y0.length r0,.slice B1 y1.length r1,.slice B2 y2.length r2,.slice B3 y3.length r3,.slice B4 y4.length r4,.slice B5 y5.length r5,.slice B6 y6.length r6,.slice B7 y7.length r7]) W 0 _ rfl)
 have HY:=zaa (zc2 (sOb W.heap.size [.slice A0 x0.length p0,.slice A1 x1.length p1,.slice A2 x2.length p2,.slice A3 x3.length p3,.slice A4 x4.length p4,.slice A5 x5.length p5,.slice A6 x6.length p6,.slice A7 x7.length p7] [.slice B0 y0.length r0,.slice B1 y1.length r1,.slice B2 y2.length r2,.slice B3 y3.length r3,.slice B4 y4.length r4,.slice B5 y5.length r5,.slice B6 y6.length r6,.slice B7 y7.length r7]) W 1 _ rfl)
 have HQ:=zaa (zc2 (sOb W.heap.size [.slice A0 x0.length p0,.slice A1 x1.length p1,.slice A2 x2.length p2,.slice A3 x3.length p3,.slice A4 x4.length p4,.slice A5 x5.length p5,.slice A6 x6.length p6,.slice A7 x7.length p7] [.slice B0 y0.length r0,.slice B1 y1.length r1,.slice B2 y2.length r2,.slice B3 y3.length r3,.slice B4 y4.length r4,.slice B5 y5.length r5,.slice B6 y6.length r6,.slice B7 y7.length r7]) W 2 _ rfl)
 have HR:=zaa (zc2 (sOb W.heap.size [.slice A0 x0.length p0,.slice A1 x1.length p1,.slice A2 x2.length p2,.slice A3 x3.length p3,.slice A4 x4.length p4,.slice A5 x5.length p5,.slice A6 x6.length p6,.slice A7 x7.length p7] [.slice B0 y0.length r0,.slice B1 y1.length r1,.slice B2 y2.length r2,.slice B3 y3.length r3,.slice B4 y4.length r4,.slice B5 y5.length r5,.slice B6 y6.length r6,.slice B7 y7.length r7]) W 3 _ rfl)
 change Calls _ _ _ (zd3 W (sOb W.heap.size [.slice A0 x0.length p0,.slice A1 x1.length p1,.slice A2 x2.length p2,.slice A3 x3.length p3,.slice A4 x4.length p4,.slice A5 x5.length p5,.slice A6 x6.length p6,.slice A7 x7.length p7] [.slice B0 y0.length r0,.slice B1 y1.length r1,.slice B2 y2.length r2,.slice B3 y3.length r3,.slice B4 y4.length r4,.slice B5 y5.length r5,.slice B6 y6.length r6,.slice B7 y7.length r7])) _
 generalize zd3 W (sOb W.heap.size [.slice A0 x0.length p0,.slice A1 x1.length p1,.slice A2 x2.length p2,.slice A3 x3.length p3,.slice A4 x4.length p4,.slice A5 x5.length p5,.slice A6 x6.length p6,.slice A7 x7.length p7] [.slice B0 y0.length r0,.slice B1 y1.length r1,.slice B2 y2.length r2,.slice B3 y3.length r3,.slice B4 y4.length r4,.slice B5 y5.length r5,.slice B6 y6.length r6,.slice B7 y7.length r7])=w0 at *
 have HB:=zaa hb0
 clear hb0
 have HC:=zaa (zmU (W.heap.size+3) (W.heap.size+2) _ _ x0 y0 w0 (zaa (HU0.out.later HB.out)) (zaa (HV0.out.later HB.out)) hl.nm hm.nm hl.m hm.m (by rw[cell_of_row _ _ 0 _ _ _ HR.out];rfl) (by rw[cell_of_row _ _ 0 _ _ _ HQ.out];rfl))
 refine HC.out.mono ?_
 rintro e w1 ⟨z,rfl,hz,hb⟩
 have HBn:=zaa (btZ HB.out hb)
 have HXn:=zaa (bkZ hb HX.out)
 have HYn:=zaa (bkZ hb HY.out)
 clear HB HX HY hb HC
 have HB:=HBn
 have HX:=HXn
 have HY:=HYn
 clear HBn HXn HYn
 have HZ:=zaa hz
 clear hz
 cases z with
 |false=>as_aux_lemma=>
  have HN2:=zaa (show¬(x0=y0) from fun h=>by cases HZ.out.2 h)
  clear HZ
  go_wp2_with fail
  go_ret
  exact zau.mk false rfl ⟨(fun h=>by cases h),fun h=>absurd (congrArg zbR.modules (hp_.out.1 h)) HN2.out⟩ HB.out
 |true=>
  have e_:=HZ.out.1 rfl
  clear HZ
  subst e_
  have a0:=cell_of_row _ _ 0 _ _ _ HX.out
  have b0:=cell_of_row _ _ 0 _ _ _ HY.out
  have a1:=cell_of_row _ _ 1 _ _ _ HX.out
  have b1:=cell_of_row _ _ 1 _ _ _ HY.out
  have a2:=cell_of_row _ _ 2 _ _ _ HX.out
  have b2:=cell_of_row _ _ 2 _ _ _ HY.out
  have a3:=cell_of_row _ _ 3 _ _ _ HX.out
  have b3:=cell_of_row _ _ 3 _ _ _ HY.out
  have a4:=cell_of_row _ _ 4 _ _ _ HX.out
  have b4:=cell_of_row _ _ 4 _ _ _ HY.out
  have a5:=cell_of_row _ _ 5 _ _ _ HX.out
  have b5:=cell_of_row _ _ 5 _ _ _ HY.out
  have a6:=cell_of_row _ _ 6 _ _ _ HX.out
  have b6:=cell_of_row _ _ 6 _ _ _ HY.out
  have a7:=cell_of_row _ _ 7 _ _ _ HX.out
  have b7:=cell_of_row _ _ 7 _ _ _ HY.out
  simp only[Nat.add_zero] at a0 a1 a2 a3 a4 a5 a6 a7
  go_wp2_with fail
  clear a0 b0 a1 b1 a2 b2 a3 b3 a4 b4 a5 b5 a6 b6 a7 b7
  have HC:=zaa (zj7 _ _ x1 y1 w1 (zaa (HU1.out.later HB.out)) (zaa (HV1.out.later HB.out)) hl.nc hm.nc hl.c hm.c)
  refine HC.out.mono ?_
  rintro e w2 ⟨z,rfl,hz,hb⟩
  have HBn:=zaa (btZ HB.out hb)
  have HXn:=zaa (bkZ hb HX.out)
  have HYn:=zaa (bkZ hb HY.out)
  clear HB HX HY hb HC
  have HB:=HBn
  have HX:=HXn
  have HY:=HYn
  clear HBn HXn HYn
  have HZ:=zaa hz
  clear hz
  cases z with
  |false=>as_aux_lemma=>
   have HN2:=zaa (show¬(x1=y1) from fun h=>by cases HZ.out.2 h)
   clear HZ
   go_wp2_with fail
   go_ret
   exact zau.mk false rfl ⟨(fun h=>by cases h),fun h=>absurd (congrArg zbR.channels (hp_.out.1 h)) HN2.out⟩ HB.out
  |true=>
   have e_:=HZ.out.1 rfl
   clear HZ
   subst e_
   have a0:=cell_of_row _ _ 0 _ _ _ HX.out
   have b0:=cell_of_row _ _ 0 _ _ _ HY.out
   have a1:=cell_of_row _ _ 1 _ _ _ HX.out
   have b1:=cell_of_row _ _ 1 _ _ _ HY.out
   have a2:=cell_of_row _ _ 2 _ _ _ HX.out
   have b2:=cell_of_row _ _ 2 _ _ _ HY.out
   have a3:=cell_of_row _ _ 3 _ _ _ HX.out
   have b3:=cell_of_row _ _ 3 _ _ _ HY.out
   have a4:=cell_of_row _ _ 4 _ _ _ HX.out
   have b4:=cell_of_row _ _ 4 _ _ _ HY.out
   have a5:=cell_of_row _ _ 5 _ _ _ HX.out
   have b5:=cell_of_row _ _ 5 _ _ _ HY.out
   have a6:=cell_of_row _ _ 6 _ _ _ HX.out
   have b6:=cell_of_row _ _ 6 _ _ _ HY.out
   have a7:=cell_of_row _ _ 7 _ _ _ HX.out
   have b7:=cell_of_row _ _ 7 _ _ _ HY.out
   simp only[Nat.add_zero] at a0 a1 a2 a3 a4 a5 a6 a7
   go_wp2_with fail
   clear a0 b0 a1 b1 a2 b2 a3 b3 a4 b4 a5 b5 a6 b6 a7 b7
   have HC:=zaa (zoc _ _ x2 y2 w2 (zaa (HU2.out.later HB.out)) (zaa (HV2.out.later HB.out)) hl.ns hm.ns)
   refine HC.out.mono ?_
   rintro e w3 ⟨z,rfl,hz,hb⟩
   have HBn:=zaa (btZ HB.out hb)
   have HXn:=zaa (bkZ hb HX.out)
   have HYn:=zaa (bkZ hb HY.out)
   clear HB HX HY hb HC
   have HB:=HBn
   have HX:=HXn
   have HY:=HYn
   clear HBn HXn HYn
   have HZ:=zaa hz
   clear hz
   cases z with
   |false=>as_aux_lemma=>
    have HN2:=zaa (show¬(x2=y2) from fun h=>by cases HZ.out.2 h)
    clear HZ
    go_wp2_with fail
    go_ret
    exact zau.mk false rfl ⟨(fun h=>by cases h),fun h=>absurd (congrArg zbR.switches (hp_.out.1 h)) HN2.out⟩ HB.out
   |true=>
    have e_:=HZ.out.1 rfl
    clear HZ
    subst e_
    have a0:=cell_of_row _ _ 0 _ _ _ HX.out
    have b0:=cell_of_row _ _ 0 _ _ _ HY.out
    have a1:=cell_of_row _ _ 1 _ _ _ HX.out
    have b1:=cell_of_row _ _ 1 _ _ _ HY.out
    have a2:=cell_of_row _ _ 2 _ _ _ HX.out
    have b2:=cell_of_row _ _ 2 _ _ _ HY.out
    have a3:=cell_of_row _ _ 3 _ _ _ HX.out
    have b3:=cell_of_row _ _ 3 _ _ _ HY.out
    have a4:=cell_of_row _ _ 4 _ _ _ HX.out
    have b4:=cell_of_row _ _ 4 _ _ _ HY.out
    have a5:=cell_of_row _ _ 5 _ _ _ HX.out
    have b5:=cell_of_row _ _ 5 _ _ _ HY.out
    have a6:=cell_of_row _ _ 6 _ _ _ HX.out
    have b6:=cell_of_row _ _ 6 _ _ _ HY.out
    have a7:=cell_of_row _ _ 7 _ _ _ HX.out
    have b7:=cell_of_row _ _ 7 _ _ _ HY.out
    simp only[Nat.add_zero] at a0 a1 a2 a3 a4 a5 a6 a7
    go_wp2_with fail
    clear a0 b0 a1 b1 a2 b2 a3 b3 a4 b4 a5 b5 a6 b6 a7 b7
    have HC:=zaa (zkK _ _ x3 y3 w3 (zaa (HU3.out.later HB.out)) (zaa (HV3.out.later HB.out)) hl.nl hm.nl)
    refine HC.out.mono ?_
    rintro e w4 ⟨z,rfl,hz,hb⟩
    have HBn:=zaa (btZ HB.out hb)
    have HXn:=zaa (bkZ hb HX.out)
    have HYn:=zaa (bkZ hb HY.out)
    clear HB HX HY hb HC
    have HB:=HBn
    have HX:=HXn
    have HY:=HYn
    clear HBn HXn HYn
    have HZ:=zaa hz
    clear hz
    cases z with
    |false=>as_aux_lemma=>
     have HN2:=zaa (show¬(x3=y3) from fun h=>by cases HZ.out.2 h)
     clear HZ
     go_wp2_with fail
     go_ret
     exact zau.mk false rfl ⟨(fun h=>by cases h),fun h=>absurd (congrArg zbR.links (hp_.out.1 h)) HN2.out⟩ HB.out
    |true=>
     have e_:=HZ.out.1 rfl
     clear HZ
     subst e_
     have a0:=cell_of_row _ _ 0 _ _ _ HX.out
     have b0:=cell_of_row _ _ 0 _ _ _ HY.out
     have a1:=cell_of_row _ _ 1 _ _ _ HX.out
     have b1:=cell_of_row _ _ 1 _ _ _ HY.out
     have a2:=cell_of_row _ _ 2 _ _ _ HX.out
     have b2:=cell_of_row _ _ 2 _ _ _ HY.out
     have a3:=cell_of_row _ _ 3 _ _ _ HX.out
     have b3:=cell_of_row _ _ 3 _ _ _ HY.out
     have a4:=cell_of_row _ _ 4 _ _ _ HX.out
     have b4:=cell_of_row _ _ 4 _ _ _ HY.out
     have a5:=cell_of_row _ _ 5 _ _ _ HX.out
     have b5:=cell_of_row _ _ 5 _ _ _ HY.out
     have a6:=cell_of_row _ _ 6 _ _ _ HX.out
     have b6:=cell_of_row _ _ 6 _ _ _ HY.out
     have a7:=cell_of_row _ _ 7 _ _ _ HX.out
     have b7:=cell_of_row _ _ 7 _ _ _ HY.out
     simp only[Nat.add_zero] at a0 a1 a2 a3 a4 a5 a6 a7
     go_wp2_with fail
     clear a0 b0 a1 b1 a2 b2 a3 b3 a4 b4 a5 b5 a6 b6 a7 b7
     have HC:=zaa (znF _ _ x4 y4 w4 (zaa (HU4.out.later HB.out)) (zaa (HV4.out.later HB.out)) hl.nv hm.nv hl.v hm.v)
     refine HC.out.mono ?_
     rintro e w5 ⟨z,rfl,hz,hb⟩
     have HBn:=zaa (btZ HB.out hb)
     have HXn:=zaa (bkZ hb HX.out)
     have HYn:=zaa (bkZ hb HY.out)
     clear HB HX HY hb HC
     have HB:=HBn
     have HX:=HXn
     have HY:=HYn
     clear HBn HXn HYn
     have HZ:=zaa hz
     clear hz
     cases z with
     |false=>as_aux_lemma=>
      have HN2:=zaa (show¬(x4=y4) from fun h=>by cases HZ.out.2 h)
      clear HZ
      go_wp2_with fail
      go_ret
      exact zau.mk false rfl ⟨(fun h=>by cases h),fun h=>absurd (congrArg zbR.vls (hp_.out.1 h)) HN2.out⟩ HB.out
     |true=>
      have e_:=HZ.out.1 rfl
      clear HZ
      subst e_
      have a0:=cell_of_row _ _ 0 _ _ _ HX.out
      have b0:=cell_of_row _ _ 0 _ _ _ HY.out
      have a1:=cell_of_row _ _ 1 _ _ _ HX.out
      have b1:=cell_of_row _ _ 1 _ _ _ HY.out
      have a2:=cell_of_row _ _ 2 _ _ _ HX.out
      have b2:=cell_of_row _ _ 2 _ _ _ HY.out
      have a3:=cell_of_row _ _ 3 _ _ _ HX.out
      have b3:=cell_of_row _ _ 3 _ _ _ HY.out
      have a4:=cell_of_row _ _ 4 _ _ _ HX.out
      have b4:=cell_of_row _ _ 4 _ _ _ HY.out
      have a5:=cell_of_row _ _ 5 _ _ _ HX.out
      have b5:=cell_of_row _ _ 5 _ _ _ HY.out
      have a6:=cell_of_row _ _ 6 _ _ _ HX.out
      have b6:=cell_of_row _ _ 6 _ _ _ HY.out
      have a7:=cell_of_row _ _ 7 _ _ _ HX.out
      have b7:=cell_of_row _ _ 7 _ _ _ HY.out
      simp only[Nat.add_zero] at a0 a1 a2 a3 a4 a5 a6 a7
      go_wp2_with fail
      clear a0 b0 a1 b1 a2 b2 a3 b3 a4 b4 a5 b5 a6 b6 a7 b7
      have HC:=zaa (zid _ _ x5 y5 w5 (zaa (HU5.out.later HB.out)) (zaa (HV5.out.later HB.out)) hl.nh hm.nh)
      refine HC.out.mono ?_
      rintro e w6 ⟨z,rfl,hz,hb⟩
      have HBn:=zaa (btZ HB.out hb)
      have HXn:=zaa (bkZ hb HX.out)
      have HYn:=zaa (bkZ hb HY.out)
      clear HB HX HY hb HC
      have HB:=HBn
      have HX:=HXn
      have HY:=HYn
      clear HBn HXn HYn
      have HZ:=zaa hz
      clear hz
      cases z with
      |false=>as_aux_lemma=>
       have HN2:=zaa (show¬(x5=y5) from fun h=>by cases HZ.out.2 h)
       clear HZ
       go_wp2_with fail
       go_ret
       exact zau.mk false rfl ⟨(fun h=>by cases h),fun h=>absurd (congrArg zbR.health (hp_.out.1 h)) HN2.out⟩ HB.out
      |true=>
       have e_:=HZ.out.1 rfl
       clear HZ
       subst e_
       have a0:=cell_of_row _ _ 0 _ _ _ HX.out
       have b0:=cell_of_row _ _ 0 _ _ _ HY.out
       have a1:=cell_of_row _ _ 1 _ _ _ HX.out
       have b1:=cell_of_row _ _ 1 _ _ _ HY.out
       have a2:=cell_of_row _ _ 2 _ _ _ HX.out
       have b2:=cell_of_row _ _ 2 _ _ _ HY.out
       have a3:=cell_of_row _ _ 3 _ _ _ HX.out
       have b3:=cell_of_row _ _ 3 _ _ _ HY.out
       have a4:=cell_of_row _ _ 4 _ _ _ HX.out
       have b4:=cell_of_row _ _ 4 _ _ _ HY.out
       have a5:=cell_of_row _ _ 5 _ _ _ HX.out
       have b5:=cell_of_row _ _ 5 _ _ _ HY.out
       have a6:=cell_of_row _ _ 6 _ _ _ HX.out
       have b6:=cell_of_row _ _ 6 _ _ _ HY.out
       have a7:=cell_of_row _ _ 7 _ _ _ HX.out
       have b7:=cell_of_row _ _ 7 _ _ _ HY.out
       simp only[Nat.add_zero] at a0 a1 a2 a3 a4 a5 a6 a7
       go_wp2_with fail
       clear a0 b0 a1 b1 a2 b2 a3 b3 a4 b4 a5 b5 a6 b6 a7 b7
       have HC:=zaa (zjy _ _ x6 y6 w6 (zaa (HU6.out.later HB.out)) (zaa (HV6.out.later HB.out)) hl.nk hm.nk hl.k hm.k)
       refine HC.out.mono ?_
       rintro e w7 ⟨z,rfl,hz,hb⟩
       have HBn:=zaa (btZ HB.out hb)
       have HXn:=zaa (bkZ hb HX.out)
       have HYn:=zaa (bkZ hb HY.out)
       clear HB HX HY hb HC
       have HB:=HBn
       have HX:=HXn
       have HY:=HYn
       clear HBn HXn HYn
       have HZ:=zaa hz
       clear hz
       cases z with
       |false=>as_aux_lemma=>
        have HN2:=zaa (show¬(x6=y6) from fun h=>by cases HZ.out.2 h)
        clear HZ
        go_wp2_with fail
        go_ret
        exact zau.mk false rfl ⟨(fun h=>by cases h),fun h=>absurd (congrArg zbR.causes (hp_.out.1 h)) HN2.out⟩ HB.out
       |true=>
        have e_:=HZ.out.1 rfl
        clear HZ
        subst e_
        have a0:=cell_of_row _ _ 0 _ _ _ HX.out
        have b0:=cell_of_row _ _ 0 _ _ _ HY.out
        have a1:=cell_of_row _ _ 1 _ _ _ HX.out
        have b1:=cell_of_row _ _ 1 _ _ _ HY.out
        have a2:=cell_of_row _ _ 2 _ _ _ HX.out
        have b2:=cell_of_row _ _ 2 _ _ _ HY.out
        have a3:=cell_of_row _ _ 3 _ _ _ HX.out
        have b3:=cell_of_row _ _ 3 _ _ _ HY.out
        have a4:=cell_of_row _ _ 4 _ _ _ HX.out
        have b4:=cell_of_row _ _ 4 _ _ _ HY.out
        have a5:=cell_of_row _ _ 5 _ _ _ HX.out
        have b5:=cell_of_row _ _ 5 _ _ _ HY.out
        have a6:=cell_of_row _ _ 6 _ _ _ HX.out
        have b6:=cell_of_row _ _ 6 _ _ _ HY.out
        have a7:=cell_of_row _ _ 7 _ _ _ HX.out
        have b7:=cell_of_row _ _ 7 _ _ _ HY.out
        simp only[Nat.add_zero] at a0 a1 a2 a3 a4 a5 a6 a7
        go_wp2_with fail
        clear a0 b0 a1 b1 a2 b2 a3 b3 a4 b4 a5 b5 a6 b6 a7 b7
        have HC:=zaa (zmO _ _ x7 y7 w7 (zaa (HU7.out.later HB.out)) (zaa (HV7.out.later HB.out)) hl.nr hm.nr)
        refine HC.out.mono ?_
        rintro e w8 ⟨z,rfl,hz,hb⟩
        have HBn:=zaa (btZ HB.out hb)
        have HXn:=zaa (bkZ hb HX.out)
        have HYn:=zaa (bkZ hb HY.out)
        clear HB HX HY hb HC
        have HB:=HBn
        have HX:=HXn
        have HY:=HYn
        clear HBn HXn HYn
        have HZ:=zaa hz
        clear hz
        cases z with
        |false=>as_aux_lemma=>
         have HN2:=zaa (show¬(x7=y7) from fun h=>by cases HZ.out.2 h)
         clear HZ
         go_wp2_with fail
         go_ret
         exact zau.mk false rfl ⟨(fun h=>by cases h),fun h=>absurd (congrArg zbR.versions (hp_.out.1 h)) HN2.out⟩ HB.out
        |true=>
         have e_:=HZ.out.1 rfl
         clear HZ
         subst e_
         go_wp2_with fail
         go_ret
         exact zau.mk true rfl ⟨fun _=>hp_.out.2 (by first|rfl|trivial),fun _=>rfl⟩ HB.out
end Go.Proofs.YtgbfaompondolaaGreatDoor
namespace Go.Proofs.YtgbfaompondolaaGreatDoor
open Go.RowKit
attribute [local go_sem] zal.cell
theorem zhy:(Tryz.prog.info? 121).map (·.size)=some 2:=by kernel_rfl
theorem zku:liesAt Tryz.prog Tryz.prog.depth 125 (10/Tryz.prog.cellsOf 125) 0 121 1=true:=by kernel_rfl
theorem zhI (b:Nat) (w:World) (h0:w.cell? ⟨b,0,none⟩=some (.pointer (some ⟨b,0,none⟩))):
 Calls Tryz.prog 216 #[.pointer (some ⟨b,0,none⟩)] w fun e w'=>e= .returned (.tuple #[])∧w'=w:=by
 obtain⟨j,hj,_⟩:=Option.map_eq_some_iff.1 zhy
 go_enter Tryz.func216,Tryz.ntmps216
 go_wp2_with fail
 rw[Lib.run_neq_ptr_same w _ Tryz.underlying118 hj]
 go_wp2_with fail
 go_end0
 exact⟨rfl,rfl⟩
theorem zgw (b:Nat) (w:World) (h0:w.cell? ⟨b,0,none⟩=some (.pointer none)) (hsh:w.shape? b=some (125,10)) (hfz:w.frozen? ⟨b,0,none⟩=false):
 Calls Tryz.prog 216 #[.pointer (some ⟨b,0,none⟩)] w fun e w'=>e= .returned (.tuple #[])∧w'=w.setCell ⟨b,0,none⟩ (.pointer (some ⟨b,0,none⟩)):=by
 obtain⟨j,hj,hjs⟩:=Option.map_eq_some_iff.1 zhy
 go_enter Tryz.func216,Tryz.ntmps216
 go_wp2_with fail
 rw[Lib.run_to_unsafe w ⟨b,0,none⟩ Tryz.underlying118 Tryz.underlying248 hj (by rw[hjs];decide) hsh (Nat.zero_lt_succ 9)]
 simp only[Result.andThen]
 rw[Oper.upon_value]
 go_wp2_with fail
 rw[run_callFunc_extern Tryz.func257 (by kernel_rfl) (by kernel_rfl) (by kernel_rfl) (e:=Extern.AbiNoEscape.same) (by kernel_rfl)]
 rw[Lib.run_noEscape]
 simp only[Result.andThen]
 rw[Oper.upon_value]
 go_wp2_with fail
 rw[Lib.run_from_unsafe w ⟨b,0,none⟩ Tryz.underlying248 Tryz.underlying118 hj hsh zku]
 simp only[Result.andThen]
 rw[Oper.upon_value]
 go_wp2_with fail
 go_end0
 exact⟨rfl,rfl⟩
structure C8 where
 c0:Value
 c1:Value
 c2:Value
 c3:Value
 c4:Value
 c5:Value
 c6:Value
 c7:Value
def C8.row (k:C8) (p v:Value):Array Value:= #[p,v,k.c0,k.c1,k.c2,k.c3,k.c4,k.c5,k.c6,k.c7]
def PrU (B b:Nat) (k:C8) (p:Value) (L:List UInt8) (w:World):Prop:=B≤b∧ ∃v,w.heap[b]? =some (.cells (k.row p v) 125 (0,0))∧w.ownsRow B 5 1 v L.length (Lib.byteCells L)
def zbZ (B b:Nat) (k:C8) (L:List UInt8) (w:World):Prop:=PrU B b k (.pointer none) L w∨PrU B b k (.pointer (some ⟨b,0,none⟩)) L w
theorem PrU.lt {B b:Nat} {k:C8} {p:Value} {L:List UInt8} {w:World} (h:PrU B b k p L w):b<w.heap.size:=by
 obtain⟨_,v,hb,_⟩:=h
 exact(zaJ hb)
theorem PrU.put {B b:Nat} {k:C8} {p v v':Value} {L:List UInt8} {w:World} (hB:B≤b) (hb:w.heap[b]? =some (.cells (k.row p v) 125 (0,0))) (hown:w.ownsRow B 5 1 v' L.length (Lib.byteCells L)):PrU B b k p L (w.setCell ⟨b,1,none⟩ v'):=by
 have hne:=Lib.ownBlock_ne hown hb (by decide)
 refine⟨hB,v',?_,?_⟩
 ·simp[World.setCell,Array.getElem?_modify,hb,C8.row]
 ·exact hown.kept (row:=some b) ⟨rfl,rfl,rfl,by simp[World.setCell],fun k _ hk=>Below.heap_setCell _ _ _ _ (fun e=>hk (by simp[e]))⟩ (Or.inr hne)
theorem PrU.used {B b:Nat} {k:C8} {p:Value} {L:List UInt8} {w:World} (h:PrU B b k p L w) (q:Value):PrU B b k q L (w.setCell ⟨b,0,none⟩ q):=by
 obtain⟨hB,v,hb,hown⟩:=h
 have hne:=Lib.ownBlock_ne hown hb (by decide)
 refine⟨hB,v,?_,?_⟩
 ·simp[World.setCell,Array.getElem?_modify,hb,C8.row]
 ·exact hown.kept (row:=some b) ⟨rfl,rfl,rfl,by simp[World.setCell],fun k _ hk=>Below.heap_setCell _ _ _ _ (fun e=>hk (by simp[e]))⟩ (Or.inr hne)
def Oth (w:World) (g:Nat):Prop:= ∃cs T fr,w.heap[g]? =some (.cells cs T fr)∧T≠5
structure PrK (b:Nat) (w w':World):Prop where
 size:w.heap.size≤w'.heap.size
 block: ∀g,g≠b→Oth w g→w'.heap[g]? =w.heap[g]?
theorem PrK.refl (b:Nat) (w:World):PrK b w w:=⟨Nat.le_refl _,fun _ _ _=>rfl⟩
theorem PrK.trans {b:Nat} {w w' w'':World} (h:PrK b w w') (k:PrK b w' w''):PrK b w w'':=
 ⟨Nat.le_trans h.size k.size,fun g hg ho=>(k.block g hg (by obtain⟨cs,T,fr,h1,h2⟩:=ho;exact⟨cs,T,fr,(h.block g hg ⟨cs,T,fr,h1,h2⟩).trans h1,h2⟩)).trans (h.block g hg ho)⟩
theorem PrK.set (b j:Nat) (w:World) (x:Value):PrK b w (w.setCell ⟨b,j,none⟩ x):=
 ⟨by simp[World.setCell],fun g hg _=>Below.heap_setCell _ _ _ _ hg⟩
theorem PrK.grown {b B n:Nat} {w w':World} {v:Value} {xs:List Value} (hg:w.grownBy w' v.ownBlock) (ho:w.ownsRow B 5 1 v n xs):PrK b w w':=
 ⟨hg.size,fun g _ ⟨_,_,_,h1,h2⟩=>hg.block g (zaJ h1) (fun e=>Lib.ownBlock_ne ho h1 h2 e.symm)⟩
theorem PrK.alloc (b:Nat) (w:World) (o:Obj):PrK b w (w.alloc o):=
 ⟨by simp,fun g _ ⟨_,_,_,h1,_⟩=>Lib.alloc_old w o g (zaJ h1)⟩
theorem zhz (B b:Nat) (k:C8) (L:List UInt8) (w:World) (h:zbZ B b k L w):
 Calls Tryz.prog 216 #[.pointer (some ⟨b,0,none⟩)] w fun e w'=>e= .returned (.tuple #[])∧PrU B b k (.pointer (some ⟨b,0,none⟩)) L w'∧Below B w w'∧PrK b w w':=by
 rcases h with h|h
 ·obtain⟨hB,v,hb,hown⟩:=id h
  refine(zgw b w (by rw[Lib.cell_of_heap hb];rfl) (by simp[World.shape?,hb,C8.row]) (Lib.frozen_of_heap hb 0)).mono ?_
  rintro e w' ⟨rfl,rfl⟩
  exact⟨rfl,h.used _,(Below.refl B w).setCell (p:=⟨b,0,none⟩) hB _,.set _ _ _ _⟩
 ·obtain⟨hB,v,hb,hown⟩:=id h
  refine(zhI b w (by rw[Lib.cell_of_heap hb];rfl)).mono ?_
  rintro e w' ⟨rfl,rfl⟩
  exact⟨rfl,h,Below.refl B _,.refl _ _⟩
theorem ziu:(Tryz.prog.info? 5).map (fun i=>(i.zero,i.size,i.bytes))=some (some (.int .u8 0),1,1):=by kernel_rfl
theorem zfm (B b:Nat) (k:C8) (L:List UInt8) (s:ByteArray) (w:World) (h:Hid (zbZ B b k L w)) (hlen:L.length+s.size≤140737488355328) (hBw:B≤w.heap.size):
 Calls Tryz.prog 152 #[.pointer (some ⟨b,0,none⟩),.string s] w fun e w'=>e= .returned (.tuple #[.int .i64 s.size,.nilIface])∧zbZ B b k (L++s.data.toList) w'∧Below B w w'∧PrK b w w':=by
 obtain⟨i0,hi,hz0,hz1,hz2⟩:=info_parts ziu
 have HC:=zaa (zhz B b k L w h.out)
 go_enter Tryz.func152,Tryz.ntmps152
 go_wp2_with fail
 refine HC.out.mono ?_
 rintro e w1 ⟨rfl,h1,hb1,hk1⟩
 obtain⟨hB,v,hbk,hown⟩:=id h1
 have hlt:=h1.lt
 have HB:=zaa hb1
 have HQ:=zaa hk1
 have HK:=zaa hbk
 have HO:=zaa hown
 have c1:w1.cell? ⟨b,1,none⟩=some v:=by rw[Lib.cell_of_heap hbk];rfl
 clear h1 hb1 hk1 hbk hown HC h
 go_wp2_with(at_builtin;apply Hid.out)
 refine zaa ?_
 have hl:(Lib.byteCells L).length=L.length:=by simp[Lib.byteCells]
 refine Lib.wpList_append_own_string _ rfl _ _ 119 9 rfl B 5 i0 Tryz.underlying119 Tryz.underlying9 hi hz0 hz1 hz2 _ _ _ rfl HO.out s rfl ?c3 ?c4 ?c5 ?_
 case c3=>unfold maxLen;omega
 case c4=>omega
 case c5=>have:=HB.out.size;omega
 intro v' w2 hown' hgrow _
 obtain⟨ao,n',cap,rfl⟩: ∃ao n' cap,v'= .slice ao n' cap:=by
  rcases hown'.2 with⟨hv,_⟩|⟨g,cap,cur,hv,_⟩
  ·exact⟨_,_,_,hv⟩
  ·exact⟨_,_,_,hv⟩
 have hne:=Lib.ownBlock_ne HO.out HK.out (by decide)
 have hb2:=(hgrow.block b hlt (fun e=>hne e.symm)).trans HK.out
 have d1:w2.cell? ⟨b,1,none⟩=some v:=by rw[Lib.cell_of_heap hb2];rfl
 have f1:w2.frozen? ⟨b,1,none⟩=false:=Lib.frozen_of_heap hb2 1
 have HB2:=zaa ((HB.out.grown hgrow (by have:=HB.out.size;omega) (fun k hk=>(HO.out.lt k hk).1)).setCell (p:=⟨b,1,none⟩) hB (.slice ao n' cap))
 have HQ2:=zaa ((HQ.out.trans (.grown hgrow HO.out)).trans (.set b 1 _ (.slice ao n' cap)))
 have HP:=zaa (PrU.put (v':= .slice ao n' cap) (L:=L++s.data.toList) hB hb2 (by
  rw[Lib.strCells_eq] at hown'
  have e1:Lib.byteCells (L++s.data.toList)=Lib.byteCells L++Lib.byteCells s.data.toList:=by simp[Lib.byteCells]
  have e2:(L++s.data.toList).length=L.length+s.size:=by rw[List.length_append,Array.length_toList];rfl
  rw[e1,e2]
  exact hown'))
 clear c1 hown' hgrow hb2 HB HK HO HQ
 go_wp2_with fail
 go_ret2
 exact⟨rfl,.inr HP.out,HB2.out,HQ2.out⟩
theorem zjc (B b:Nat) (k:C8) (L:List UInt8) (c:UInt8) (w:World) (h:Hid (zbZ B b k L w)) (hlen:L.length+1≤140737488355328) (hBw:B≤w.heap.size):
 Calls Tryz.prog 252 #[.pointer (some ⟨b,0,none⟩),.int .u8 (c.toNat:Int)] w fun e w'=>e= .returned .nilIface∧zbZ B b k (L++[c]) w'∧Below B w w'∧PrK b w w':=by
 obtain⟨i0,hi,hz0,hz1,hz2⟩:=info_parts ziu
 have HC:=zaa (zhz B b k L w h.out)
 go_enter Tryz.func252,Tryz.ntmps252
 go_wp2_with fail
 refine HC.out.mono ?_
 rintro e w1 ⟨rfl,h1,hb1,hk1⟩
 obtain⟨hB,v,hbk,hown⟩:=id h1
 have hlt:=h1.lt
 have HB:=zaa hb1
 have HQ:=zaa hk1
 have HK:=zaa hbk
 have HO:=zaa hown
 have c1:w1.cell? ⟨b,1,none⟩=some v:=by rw[Lib.cell_of_heap hbk];rfl
 clear h1 hb1 hk1 hbk hown HC h
 go_wp2_with(at_builtin;apply Hid.out)
 refine zaa ?_
 have hl:(Lib.byteCells L).length=L.length:=by simp[Lib.byteCells]
 refine wpList_append_own _ rfl _ _ 119 rfl B 5 i0 (.int .u8 0) 1 1 Tryz.underlying119 hi hz0 hz1 hz2 rfl (by decide) _ _ _ rfl (HO.out.alloc _) ⟨w1.heap.size,0,none⟩ 1 1 [.int .u8 (c.toNat:Int)] rfl rfl ?c1 ?c2 ?c3 ?c4 ?c5 ?_
 case c1=>
  intro j u hj
  exact World.news_of_block (heap_alloc_new w1 _) j u hj
 case c2=>intro u hu;simp at hu;subst hu;rfl
 case c3=>unfold maxLen;omega
 case c4=>omega
 case c5=>have:=HB.out.size;simp;omega
 intro v' w2 hown' hgrow _
 obtain⟨ao,n',cap,rfl⟩: ∃ao n' cap,v'= .slice ao n' cap:=by
  rcases hown'.2 with⟨hv,_⟩|⟨g,cap,cur,hv,_⟩
  ·exact⟨_,_,_,hv⟩
  ·exact⟨_,_,_,hv⟩
 have hne:=Lib.ownBlock_ne HO.out HK.out (by decide)
 have hb2:=(hgrow.block b (by simp;omega) (fun e=>hne e.symm)).trans ((Lib.alloc_old w1 _ b hlt).trans HK.out)
 have d1:w2.cell? ⟨b,1,none⟩=some v:=by rw[Lib.cell_of_heap hb2];rfl
 have f1:w2.frozen? ⟨b,1,none⟩=false:=Lib.frozen_of_heap hb2 1
 have HB2:=zaa (((HB.out.alloc (by have:=HB.out.size;omega) (.cells #[.int .u8 (c.toNat:Int)] 5)).grown hgrow (by have:=HB.out.size;simp;omega) (fun k hk=>(HO.out.lt k hk).1)).setCell (p:=⟨b,1,none⟩) hB (.slice ao n' cap))
 have HQ2:=zaa (((HQ.out.trans (.alloc b _ (.cells #[.int .u8 (c.toNat:Int)] 5))).trans (.grown hgrow (HO.out.alloc _))).trans (.set b 1 _ (.slice ao n' cap)))
 have HP:=zaa (PrU.put (v':= .slice ao n' cap) (L:=L++[c]) hB hb2 (by
  have e1:Lib.byteCells (L++[c])=Lib.byteCells L++[.int .u8 (c.toNat:Int)]:=by simp[Lib.byteCells]
  rw[e1,List.length_append]
  exact hown'))
 clear c1 hown' hgrow hb2 HB HK HO HQ
 go_wp2_with fail
 go_ret
 exact⟨rfl,.inr HP.out,HB2.out,HQ2.out⟩
end Go.Proofs.YtgbfaompondolaaGreatDoor
namespace Go.Proofs.YtgbfaompondolaaGreatDoor
open Go.RowKit
attribute [local go_sem] zal.cell
theorem zkj:Tryz.prog.cellsOf 5=1:=by kernel_rfl
theorem ze7 (B b:Nat) (k:C8) (p:Value) (l:List UInt8) (w:World) (h:Hid (PrU B b k p l w)) (h0:l≠[]):
 Calls Tryz.prog 80 #[.pointer (some ⟨b,0,none⟩)] w fun e w'=>e= .returned (.string ⟨l.toArray⟩)∧Below B w w':=by
 obtain⟨hB,v,hbk,hown⟩:=h.out
 have hl0:l.length≠0:=by simpa using h0
 obtain⟨g,cap,cur,rfl,hbg,hg,hnc,hcm,hcs,htake⟩: ∃g cap cur,v= .slice (some ⟨g,0,none⟩) l.length cap∧B≤g∧w.heap[g]? =some (.cells cur 5 (0,0))∧l.length≤cap∧cap≤maxLen∧cur.size=cap*1∧cur.toList.take (l.length*1)=Lib.byteCells l:=by
  rcases hown.2 with⟨_,hz⟩|⟨g,cap,cur,hv,r⟩
  ·exact absurd hz hl0
  ·exact⟨g,cap,cur,hv,r⟩
 have c1:w.drew.cell? ⟨b,1,none⟩=some (.slice (some ⟨g,0,none⟩) l.length cap):=by
  have:w.drew.heap[b]? =some (.cells (k.row p (.slice (some ⟨g,0,none⟩) l.length cap)) 125 (0,0)):=hbk
  rw[Lib.cell_of_heap this];rfl
 have hSD:(Builtin.unsafeSliceData_ #[119] 177 #[.slice (some ⟨g,0,none⟩) l.length cap]).run Tryz.prog w.drew= .ok (.pointer (some ⟨g,0,none⟩)) w.drew:=
  Lib.run_unsafeSliceData_row _ _ _ _ _ _ (by omega)
 have hUS:(Builtin.unsafeString_ #[177,3] 9 #[.pointer (some ⟨g,0,none⟩),.int .i64 l.length]).run Tryz.prog w.drew= .ok (.string ⟨l.toArray⟩) (w.drew.freeze ⟨g,0,none⟩ l.length):=by
  refine Lib.run_unsafeString_row w.drew 177 3 9 5 Tryz.underlying177 zkj g cur.size (by have hg':w.drew.heap[g]? =some (.cells cur 5 (0,0)):=hg;simp[World.shape?,hg']) l h0 (by omega) (by unfold maxLen at hcm;omega) ?_
  intro j x hx
  exact hown.cells (g:=g) rfl j (.int .u8 x.toNat) (by simp[Lib.byteCells,hx])
 clear hown hbk hg htake h
 have mixed:Tryz.prog.follows Departure.mixedOrders=true:=by kernel_rfl
 go_enter Tryz.func80,Tryz.ntmps80
 go_wp2_with fail
 go_region_o
 all_goals(go_wp2_with fail;go_ret;exact⟨rfl,Lib.below_freeze (Below.drew (Below.refl B w)) (p:=⟨g,0,none⟩) hbg _⟩)
theorem zfs (B b:Nat) (k:C8) (p:Value) (w:World) (hbk:w.heap[b]? =some (.cells (k.row p (.slice none 0 0)) 125 (0,0))):
 Calls Tryz.prog 80 #[.pointer (some ⟨b,0,none⟩)] w fun e w'=>e= .returned (.string ⟨#[]⟩)∧Below B w w':=by
 have hUS: ∀(W:World) (q:Option Addr),(Builtin.unsafeString_ #[177,3] 9 #[.pointer q,.int .i64 0]).run Tryz.prog W= .ok (.string .empty) W:=fun W q=>Lib.run_unsafeString_none W _ _ _ q
 have c1:w.drew.cell? ⟨b,1,none⟩=some (.slice none 0 0):=by
  have:w.drew.heap[b]? =some (.cells (k.row p (.slice none 0 0)) 125 (0,0)):=hbk
  rw[Lib.cell_of_heap this];rfl
 have hSD:(Builtin.unsafeSliceData_ #[119] 177 #[.slice none 0 0]).run Tryz.prog w.drew= .ok (.pointer none) w.drew:=rfl
 have mixed:Tryz.prog.follows Departure.mixedOrders=true:=by kernel_rfl
 go_enter Tryz.func80,Tryz.ntmps80
 go_wp2_with fail
 go_region_o
 all_goals(go_wp2_with fail;go_ret;exact⟨rfl,Below.drew (Below.refl B w)⟩)
theorem zfc (B b g cap:Nat) (k:C8) (p:Value) (w:World) (hc0:cap≠0) (hbk:w.heap[b]? =some (.cells (k.row p (.slice (some ⟨g,0,none⟩) 0 cap)) 125 (0,0))):
 Calls Tryz.prog 80 #[.pointer (some ⟨b,0,none⟩)] w fun e w'=>e= .returned (.string ⟨#[]⟩)∧Below B w w':=by
 have hUS: ∀(W:World) (q:Option Addr),(Builtin.unsafeString_ #[177,3] 9 #[.pointer q,.int .i64 0]).run Tryz.prog W= .ok (.string .empty) W:=fun W q=>Lib.run_unsafeString_none W _ _ _ q
 have c1:w.drew.cell? ⟨b,1,none⟩=some (.slice (some ⟨g,0,none⟩) 0 cap):=by
  have:w.drew.heap[b]? =some (.cells (k.row p (.slice (some ⟨g,0,none⟩) 0 cap)) 125 (0,0)):=hbk
  rw[Lib.cell_of_heap this];rfl
 have hSD:(Builtin.unsafeSliceData_ #[119] 177 #[.slice (some ⟨g,0,none⟩) 0 cap]).run Tryz.prog w.drew= .ok (.pointer (some ⟨g,0,none⟩)) w.drew:=
  Lib.run_unsafeSliceData_row _ _ _ _ _ _ hc0
 clear hc0
 have mixed:Tryz.prog.follows Departure.mixedOrders=true:=by kernel_rfl
 go_enter Tryz.func80,Tryz.ntmps80
 go_wp2_with fail
 go_region_o
 all_goals(go_wp2_with fail;go_ret;exact⟨rfl,Below.drew (Below.refl B w)⟩)
theorem zey (B b g:Nat) (k:C8) (p:Value) (w:World) (cur:Array Value) (hBw:B≤w.heap.size) (hbk:w.heap[b]? =some (.cells (k.row p (.slice (some ⟨g,0,none⟩) 0 0)) 125 (0,0))) (hg:w.heap[g]? =some (.cells cur 5 (0,0))):
 Calls Tryz.prog 80 #[.pointer (some ⟨b,0,none⟩)] w fun e w'=>e= .returned (.string ⟨#[]⟩)∧Below B w w':=by
 have hUS: ∀(W:World) (q:Option Addr),(Builtin.unsafeString_ #[177,3] 9 #[.pointer q,.int .i64 0]).run Tryz.prog W= .ok (.string .empty) W:=fun W q=>Lib.run_unsafeString_none W _ _ _ q
 have c1:w.drew.cell? ⟨b,1,none⟩=some (.slice (some ⟨g,0,none⟩) 0 0):=by
  have:w.drew.heap[b]? =some (.cells (k.row p (.slice (some ⟨g,0,none⟩) 0 0)) 125 (0,0)):=hbk
  rw[Lib.cell_of_heap this];rfl
 have hlt:b<w.heap.size:=(zaJ hbk)
 have hSD:(Builtin.unsafeSliceData_ #[119] 177 #[.slice (some ⟨g,0,none⟩) 0 0]).run Tryz.prog w.drew= .ok (.pointer (some ⟨w.drew.heap.size,0,none⟩)) (w.drew.alloc (.view ⟨g,0,none⟩ 5)):=
  Lib.run_unsafeSliceData_zero w.drew _ _ 5 Tryz.underlying177 ⟨g,0,none⟩ 0 (5,cur.size) (by have hg':w.drew.heap[g]? =some (.cells cur 5 (0,0)):=hg;simp[World.shape?,hg'])
 have c2:(w.drew.alloc (.view ⟨g,0,none⟩ 5)).cell? ⟨b,1,none⟩=some (.slice (some ⟨g,0,none⟩) 0 0):=by
  have:(w.drew.alloc (.view ⟨g,0,none⟩ 5)).heap[b]? =_:=(Lib.alloc_old w.drew _ b hlt).trans hbk
  rw[Lib.cell_of_heap this];rfl
 have c3:(w.alloc (.view ⟨g,0,none⟩ 5)).drew.cell? ⟨b,1,none⟩=some (.slice (some ⟨g,0,none⟩) 0 0):=c2
 have c0:w.cell? ⟨b,1,none⟩=some (.slice (some ⟨g,0,none⟩) 0 0):=c1
 have mixed:Tryz.prog.follows Departure.mixedOrders=true:=by kernel_rfl
 go_enter Tryz.func80,Tryz.ntmps80
 go_wp2_with fail
 go_region_o
 all_goals(go_wp2_with fail;go_ret;exact⟨rfl,(Below.drew (Below.refl B w)).alloc hBw _⟩)
theorem ziA (B b:Nat) (k:C8) (l:List UInt8) (w:World) (h:zbZ B b k l w) (hBw:B≤w.heap.size):
 Calls Tryz.prog 80 #[.pointer (some ⟨b,0,none⟩)] w fun e w'=>e= .returned (.string ⟨l.toArray⟩)∧Below B w w':=by
 obtain⟨p,hp⟩: ∃p,PrU B b k p l w:=by
  rcases h with h|h
  ·exact⟨_,h⟩
  ·exact⟨_,h⟩
 cases l with
 |cons x r=>exact ze7 B b k p (x::r) w (zaa hp) (by simp)
 |nil=>
  obtain⟨hB,v,hbk,hown⟩:=hp
  rcases hown.2 with⟨rfl,_⟩|⟨g,cap,cur,rfl,hbg,hg,_,_,_,_⟩
  ·exact zfs B b k p w hbk
  ·by_cases hc0:cap=0
   ·subst hc0
    exact zey B b g k p w cur hBw hbk hg
   ·exact zfc B b g cap k p w hc0 hbk
end Go.Proofs.YtgbfaompondolaaGreatDoor
namespace Go.Proofs.YtgbfaompondolaaGreatDoor
open Go.RowKit
attribute [local go_sem] zal.cell
def ze2 (x:zb2):List UInt8:=x.m++[46]++x.p++[46]++x.o
theorem zfv (x:zb2) (us:List Value) (W:World) (l0:x.m.length≤1000000) (l1:x.p.length≤1000000) (l2:x.o.length≤1000000) (hd:Hid (zab W (fun _=>True) us x.cells)):
 Calls Tryz.prog 134 #[.agg us.toArray] W fun e w'=>e= .returned (.string ⟨(ze2 x).toArray⟩)∧Below W.heap.size W w':=by
 have hd:=hd.out
 obtain⟨u0,u1,u2,rfl,h0,h1,h2⟩:=dc3 hd
 obtain rfl:=h0.leaf_eq
 obtain rfl:=h1.leaf_eq
 obtain rfl:=h2.leaf_eq
 clear hd h0 h1 h2
 simp only[zaF]
 have HB:=zaa ((Below.refl W.heap.size W).alloc (Nat.le_refl _) (.cells #[.string ⟨x.m.toArray⟩,.string ⟨x.p.toArray⟩,.string ⟨x.o.toArray⟩] 55))
 have HT:(⟨x.m.toArray⟩++⟨#[46]⟩++⟨x.p.toArray⟩++⟨#[46]⟩++⟨x.o.toArray⟩:ByteArray)=⟨(ze2 x).toArray⟩:=by
  apply ByteArray.ext
  simp[ze2,ByteArray.data_append]
 have k1: ¬9223372036854775807<x.m.length+1:=by omega
 have k2: ¬9223372036854775807<x.m.length+1+x.p.length:=by omega
 have k3: ¬9223372036854775807<x.m.length+1+x.p.length+1:=by omega
 have k4: ¬9223372036854775807<x.m.length+1+x.p.length+1+x.o.length:=by omega
 go_enter Tryz.func134,Tryz.ntmps134
 go_wp2_with fail
 go_ret
 exact⟨by rw[←HT];rfl,HB.out⟩
def zkd (n:Int):List UInt8:=if n=0 then[97] else[98]
theorem zha (n:Int) (W:World) (h:n/2=0):
 Calls Tryz.prog 136 #[.int .i64 n] W fun e w'=>e= .returned (.string ⟨(zkd n).toArray⟩)∧w'=W:=by
 rcases(by omega:n=0∨n=1) with rfl|rfl
 ·go_enter Tryz.func136,Tryz.ntmps136
  go_wp2_with fail
  go_ret
  exact⟨rfl,rfl⟩
 ·go_enter Tryz.func136,Tryz.ntmps136
  go_wp2_with fail
  go_ret
  exact⟨rfl,rfl⟩
def zdC (s:ByteArray):Value:=if 65536<s.size then .tuple #[.string ⟨#[]⟩,.int .i64 3] else .tuple #[.string s,.int .i64 0]
theorem zhA (s:ByteArray) (W:World) (hs:s.size≤140737488355328):
 Calls Tryz.prog 79 #[.string s] W fun e w'=>e= .returned (zdC s)∧w'=W:=by
 by_cases h:65536<s.size
 ·have h1:(65536:Int)<(s.size:Int):=by omega
  have e:zdC s= .tuple #[.string ⟨#[]⟩,.int .i64 3]:=if_pos h
  go_enter Tryz.func79,Tryz.ntmps79
  go_wp2_with fail
  go_ret2
  exact⟨by first|rfl|(rw[e];rfl),rfl⟩
 ·have h1: ¬(65536:Int)<(s.size:Int):=by omega
  have e:zdC s= .tuple #[.string s,.int .i64 0]:=if_neg h
  go_enter Tryz.func79,Tryz.ntmps79
  go_wp2_with fail
  go_ret2
  exact⟨by first|rfl|(rw[e];rfl),rfl⟩
end Go.Proofs.YtgbfaompondolaaGreatDoor
namespace Go.Proofs.YtgbfaompondolaaGreatDoor
open Go.RowKit
attribute [local go_sem] zal.cell
inductive Arg where
 |s (l:List UInt8)
 |n (x:Int)
def Arg.val:Arg→Value
 | .s l=> .iface 9 (.string ⟨l.toArray⟩)
 | .n x=> .iface 3 (.int .i64 x)
def Arg.txt:Arg→List UInt8
 | .s l=>l
 | .n x=>Lib.itoa x
def Arg.ok:Arg→Prop
 | .s _=>True
 | .n x=> -9223372036854775808≤x∧x≤9223372036854775807
def zbI (l:List Arg):List (List Dat):=l.map fun a=>[Dat.leaf a.val]
def zcm:List Arg→List UInt8
 |[]=>[]
 |a::l=>a.txt++(l.map fun b=>32::b.txt).flatten
theorem zih {l:List Arg} {k:Nat} {x:Arg} (h:l[k]? =some x):zcm (l.take (k+1))=zcm (l.take k)++(if k=0 then[] else[32])++x.txt:=by
 cases l with
 |nil=>simp at h
 |cons a l=>
  cases k with
  |zero=>
   simp only[List.getElem?_cons_zero,Option.some.injEq] at h
   subst h
   simp[zcm]
  |succ k=>
   simp only[List.getElem?_cons_succ] at h
   have e:l.take (k+1)=l.take k++[x]:=by rw[List.take_add_one,h];rfl
   simp[zcm,e]
theorem zje {l:List Arg} {k:Nat}:(zcm (l.take k)).length≤(zcm l).length:=by
 cases l with
 |nil=>simp
 |cons a l=>
  cases k with
  |zero=>simp[zcm]
  |succ k=>
   simp only[List.take_succ_cons,zcm,List.length_append]
   have e:(l.map fun b=>(32:UInt8)::b.txt).flatten=((l.take k).map fun b=>(32:UInt8)::b.txt).flatten++((l.drop k).map fun b=>(32:UInt8)::b.txt).flatten:=by
    rw[←List.flatten_append,←List.map_append,List.take_append_drop]
   rw[e,List.length_append]
   omega
theorem zi0 {w:World} {G:Nat→Prop} {v:Value} {l:List Arg} (h:DAt w G v (.row 1 (zbI l))): ∃A c,v= .slice A l.length c∧ ∀k x,l[k]? =some x→ ∃g off,A=some ⟨g,off,none⟩∧G g∧g<w.heap.size∧w.cell? ⟨g,off+k,none⟩=some x.val:=by
 generalize hd:Dat.row 1 (zbI l)=d at h
 cases h with
 |leaf v=>cases hd
 |nil A' c size=>
  injection hd with _ h1
  have:l=[]:=by cases l with
   |nil=>rfl
   |cons a l=>simp[zbI] at h1
  subst this
  exact⟨A',c,rfl,fun k x h=>by simp at h⟩
 |row g off c size m es val hn hG hb hc hdd=>
  injection hd with h0 h1
  subst h0 h1
  have hl:l.length=m:=by rw[←hn];simp[zbI]
  subst hl
  refine⟨_,c,rfl,fun k x hx=>⟨g,off,rfl,hG,hb,?_⟩⟩
  have he:(zbI l)[k]? =some [Dat.leaf x.val]:=by unfold zbI;rw[List.getElem?_map,hx];rfl
  have h5:=hc k 0 _ _ he rfl
  have h6:=(hdd k 0 _ _ he rfl).leaf_eq
  rw[h6] at h5
  rw[Nat.mul_one,Nat.add_zero] at h5
  exact h5
theorem PrU.later {B b:Nat} {k:C8} {p:Value} {L:List UInt8} {w w':World} (h:PrU B b k p L w) (hb:Below w.heap.size w w'):PrU B b k p L w':=by
 obtain⟨hB,v,h1,ho⟩:=h
 exact⟨hB,v,(hb.block b (zaJ h1)).trans h1,zaO ho (fun g e _=>hb.block g (zav ho e).2)⟩
theorem zbZ.later {B b:Nat} {k:C8} {L:List UInt8} {w w':World} (h:zbZ B b k L w) (hb:Below w.heap.size w w'):zbZ B b k L w':=h.elim (fun h=> .inl (h.later hb)) (fun h=> .inr (h.later hb))
theorem PrK.later {b:Nat} {w w':World} (hb:Below w.heap.size w w'):PrK b w w':=⟨hb.size,fun g _ ⟨_,_,_,h1,_⟩=>hb.block g (zaJ h1)⟩
@[local go_sem] theorem ta_ss (s:ByteArray) (w:World):(Instr.typeAssert (.iface 9 (.string s)) 20 9 true).run Tryz.prog w= .ok (.tuple #[.string s,.bool true]) w:=by kernel_rfl
@[local go_sem] theorem ta_is (n:Int) (w:World):(Instr.typeAssert (.iface 3 (.int .i64 n)) 20 9 true).run Tryz.prog w= .ok (.tuple #[.string ⟨#[]⟩,.bool false]) w:=by kernel_rfl
@[local go_sem] theorem ta_ii (n:Int) (w:World):(Instr.typeAssert (.iface 3 (.int .i64 n)) 20 3 true).run Tryz.prog w= .ok (.tuple #[.int .i64 n,.bool true]) w:=by kernel_rfl
theorem zl3 (B b:Nat) (k8:C8) (L:List UInt8) (v:Value) (l:List Arg) (W:World) (h:Hid (zbZ B b k8 L W)) (hv:Hid (DAt W (fun g=>g≠b∧Oth W g) v (.row 1 (zbI l)))) (hok:Hid (∀a∈l,a.ok)) (hl:l.length≤1000) (hlen:L.length+(zcm l).length≤1000000000000) (hBw:B≤W.heap.size) (hGB:8≤B) (hE:Hid (Env W)):
 Calls Tryz.prog 207 #[.pointer (some ⟨b,0,none⟩),v] W fun e w'=>e= .returned (.tuple #[])∧zbZ B b k8 (L++zcm l) w'∧Below B W w'∧PrK b W w':=by
 obtain⟨A,c,rfl,hA⟩:=zi0 hv.out
 have HA:=zaa hA
 clear hA hv
 go_enter Tryz.func207,Tryz.ntmps207
 go_wp2_with fail
 go_loopw [10] (fun v4 wr=> ∃k:Nat,k≤l.length∧v4= .int .i64 k∧zbZ B b k8 (L++zcm (l.take k)) wr∧Below B W wr∧PrK b W wr) (fun v4 _=>l.length-(intOf v4).toNat)
 case atStart=>exact⟨0,by omega,rfl,by rw[List.take_zero,zcm,List.append_nil];exact h.out,Below.refl _ _,.refl _ _⟩
 case round=>
  obtain⟨k,hk,rfl,hp,hbr,hkr⟩:=hrel
  have HP:=zaa hp
  have HBR:=zaa hbr
  have HKR:=zaa hkr
  clear hp hbr hkr h
  by_cases hlt:k<l.length
  rotate_left
  ·obtain rfl:k=l.length:=by omega
   rw[List.take_length] at HP
   clear hlt
   go_wp2_with fail
   go_end0
   exact⟨rfl,HP.out,HBR.out,HKR.out⟩
  obtain⟨x,hx⟩:=za9 hlt
  obtain⟨g,off,rfl,hG,hg,hc⟩:=HA.out k x hx
  have c0:wr.cell? ⟨g,off+k,none⟩=some x.val:=(World.cell?_of_block (HKR.out.block g hG.1 hG.2)).trans hc
  have k0:=kbZ k l.length
  have HX:=zaa hx
  have HS:=zaa (zih hx)
  have hle:=zje (l:=l) (k:=k)
  have hle1:=zje (l:=l) (k:=k+1)
  rw[HS.out,List.length_append,List.length_append] at hle1
  clear hx hc
  cases x with
  |s t=>
   change wr.cell? ⟨g,off+k,none⟩=some (.iface 9 (.string ⟨t.toArray⟩)) at c0
   have hts:(Arg.s t).txt=t:=rfl
   rw[hts] at HS hle1
   by_cases hk0:k=0
   ·subst hk0
    simp only[Nat.add_zero] at c0
    have e1:L++zcm (l.take 1)=L++zcm (l.take 0)++t:=by rw[show(1:Nat)=0+1 from rfl,HS.out];simp
    go_wp2_with fail
    have HC:=zaa (zfm B b k8 _ ⟨t.toArray⟩ wr HP (by rw[List.length_append];show _+t.length≤_;omega) (Nat.le_trans hBw HBR.out.size))
    refine HC.out.mono ?_
    rintro e w2 ⟨rfl,h1,h2,h3⟩
    have HP2:=zaa h1
    have HB2:=zaa (HBR.out.trans h2)
    have HK2:=zaa (HKR.out.trans h3)
    clear h1 h2 h3 HC
    go_wp2_with fail
    go_roundw
    case rel=>exact⟨1,by omega,by go_num,by rw[e1];exact HP2.out,HB2.out,HK2.out⟩
    case measure=>simp[intOf];omega
   ·have k1:(0:Int)<(k:Int):=by omega
    have e1:L++zcm (l.take (k+1))=L++zcm (l.take k)++[32]++t:=by rw[HS.out,if_neg hk0];simp
    rw[if_neg hk0] at hle1
    go_wp2_with fail
    have HC:=zaa (zjc B b k8 _ 32 wr HP (by rw[List.length_append];omega) (Nat.le_trans hBw HBR.out.size))
    refine HC.out.mono ?_
    rintro e w1 ⟨rfl,h1,h2,h3⟩
    have HP1:=zaa h1
    have HB1:=zaa (HBR.out.trans h2)
    have HK1:=zaa (HKR.out.trans h3)
    clear h1 h2 h3 HC
    go_wp2_with fail
    have HC:=zaa (zfm B b k8 _ ⟨t.toArray⟩ w1 HP1 (by rw[List.length_append,List.length_append];show _+_+t.length≤_;simp at hle1 ⊢;omega) (Nat.le_trans hBw HB1.out.size))
    refine HC.out.mono ?_
    rintro e w2 ⟨rfl,h1,h2,h3⟩
    have HP2:=zaa h1
    have HB2:=zaa (HB1.out.trans h2)
    have HK2:=zaa (HK1.out.trans h3)
    clear h1 h2 h3 HC
    go_wp2_with fail
    go_roundw
    case rel=>exact⟨k+1,by omega,by go_num,by rw[e1];exact HP2.out,HB2.out,HK2.out⟩
    case measure=>simp[intOf];omega
  |n z=>
   change wr.cell? ⟨g,off+k,none⟩=some (.iface 3 (.int .i64 z)) at c0
   have hts:(Arg.n z).txt=Lib.itoa z:=rfl
   rw[hts] at HS hle1
   have hok1: -9223372036854775808≤z∧z≤9223372036854775807:=hok.out _ (List.mem_of_getElem? HX.out)
   by_cases hk0:k=0
   ·subst hk0
    simp only[Nat.add_zero] at c0
    have e1:L++zcm (l.take 1)=L++zcm (l.take 0)++Lib.itoa z:=by rw[show(1:Nat)=0+1 from rfl,HS.out];simp
    go_wp2_with fail
    have HPd:=zaa (show zbZ B b k8 _ wr.drew from HP.out)
    have HBd:=zaa HBR.out.drew
    have HKd:=zaa (show PrK b W wr.drew from⟨HKR.out.size,HKR.out.block⟩)
    refine zak (S:=fun _=>True) 5 (by kernel_rfl) (by kernel_rfl) trivial (fun hHeld=> ?_)
    clear c0
    generalize wr.drew=U at *
    refine tq 0 33 rfl hHeld ?_
    (try simp only[pu])
    refine tq 1 34 rfl hHeld ?_
    (try simp only[pu])
    refine tq 2 35 rfl hHeld ?_
    (try simp only[pu])
    refine tq 3 36 rfl hHeld ?_
    (try simp only[pu])
    refine zac (rs:=[4]) (by kernel_rfl) (by simp) (by rfl) (zaz.cons rfl (fun K hK=> ?_) zaz.nil)
    go_simp
    have HI:=zaa (zdy z U (hE.out.keptB HBd.out hGB) hok1.1 hok1.2)
    refine HI.out.mono ?_
    rintro e w5 ⟨rfl,h1⟩
    have HP5:=zaa (HPd.out.later h1)
    have HB5:=zaa (HBd.out.trans (h1.mono (Nat.le_trans hBw HBd.out.size)))
    have HK5:=zaa (HKd.out.trans (.later h1))
    clear h1 HI
    go_wp2_with fail
    refine hK.out _ _ trivial (fun hHeld=> ?_)
    clear hK K
    (try simp only[pu])
    refine zai (by kernel_rfl) ?_
    simp only[List.drop_succ_cons,List.drop_zero]
    go_wp2_with fail
    have HC:=zaa (zfm B b k8 _ ⟨(Lib.itoa z).toArray⟩ w5 HP5 (by simp only[List.length_append];show _+(Lib.itoa z).length≤_;simp at hle1 ⊢;omega) (Nat.le_trans hBw HB5.out.size))
    refine HC.out.mono ?_
    rintro e w6 ⟨rfl,h1,h2,h3⟩
    have HP6:=zaa h1
    have HB6:=zaa (HB5.out.trans h2)
    have HK6:=zaa (HK5.out.trans h3)
    clear h1 h2 h3 HC
    go_wp2_with fail
    go_roundw
    case rel=>exact⟨1,by omega,by go_num,by rw[e1];exact HP6.out,HB6.out,HK6.out⟩
    case measure=>simp[intOf];omega
   ·have k1:(0:Int)<(k:Int):=by omega
    have e1:L++zcm (l.take (k+1))=L++zcm (l.take k)++[32]++Lib.itoa z:=by rw[HS.out,if_neg hk0];simp
    rw[if_neg hk0] at hle1
    go_wp2_with fail
    have HC:=zaa (zjc B b k8 _ 32 wr HP (by rw[List.length_append];omega) (Nat.le_trans hBw HBR.out.size))
    refine HC.out.mono ?_
    rintro e w1 ⟨rfl,h1,h2,h3⟩
    have HP1:=zaa h1
    have HB1:=zaa (HBR.out.trans h2)
    have HK1:=zaa (HKR.out.trans h3)
    clear h1 h2 h3 HC
    go_wp2_with fail
    have HPd:=zaa (show zbZ B b k8 _ w1.drew from HP1.out)
    have HBd:=zaa HB1.out.drew
    have HKd:=zaa (show PrK b W w1.drew from⟨HK1.out.size,HK1.out.block⟩)
    refine zak (S:=fun _=>True) 5 (by kernel_rfl) (by kernel_rfl) trivial (fun hHeld=> ?_)
    clear c0
    generalize w1.drew=U at *
    refine tq 0 33 rfl hHeld ?_
    (try simp only[pu])
    refine tq 1 34 rfl hHeld ?_
    (try simp only[pu])
    refine tq 2 35 rfl hHeld ?_
    (try simp only[pu])
    refine tq 3 36 rfl hHeld ?_
    (try simp only[pu])
    refine zac (rs:=[4]) (by kernel_rfl) (by simp) (by rfl) (zaz.cons rfl (fun K hK=> ?_) zaz.nil)
    go_simp
    have HI:=zaa (zdy z U (hE.out.keptB HBd.out hGB) hok1.1 hok1.2)
    refine HI.out.mono ?_
    rintro e w5 ⟨rfl,h1⟩
    have HP5:=zaa (HPd.out.later h1)
    have HB5:=zaa (HBd.out.trans (h1.mono (Nat.le_trans hBw HBd.out.size)))
    have HK5:=zaa (HKd.out.trans (.later h1))
    clear h1 HI
    go_wp2_with fail
    refine hK.out _ _ trivial (fun hHeld=> ?_)
    clear hK K
    (try simp only[pu])
    refine zai (by kernel_rfl) ?_
    simp only[List.drop_succ_cons,List.drop_zero]
    go_wp2_with fail
    have HC:=zaa (zfm B b k8 _ ⟨(Lib.itoa z).toArray⟩ w5 HP5 (by simp only[List.length_append];show _+(Lib.itoa z).length≤_;simp at hle1 ⊢;omega) (Nat.le_trans hBw HB5.out.size))
    refine HC.out.mono ?_
    rintro e w6 ⟨rfl,h1,h2,h3⟩
    have HP6:=zaa h1
    have HB6:=zaa (HB5.out.trans h2)
    have HK6:=zaa (HK5.out.trans h3)
    clear h1 h2 h3 HC
    go_wp2_with fail
    go_roundw
    case rel=>exact⟨k+1,by omega,by go_num,by rw[e1];exact HP6.out,HB6.out,HK6.out⟩
    case measure=>simp[intOf];omega
end Go.Proofs.YtgbfaompondolaaGreatDoor
