/- Merged texts of the walks and of the plain laws on which the statement leans.-/
import Derived.Test.YtgbfaompondolaaGreatDoorPk1
import Derived.Test.YtgbfaompondolaaGreatDoorPk30
import Derived.Test.YtgbfaompondolaaGreatDoorPk23
import Derived.Test.YtgbfaompondolaaGreatDoorPk31
set_option maxHeartbeats 4000000
set_option maxRecDepth 100000
namespace Go.Proofs.YtgbfaompondolaaGreatDoor
open Go.RowKit
attribute [local go_sem] zal.cell
structure zoR (x:zbR):Prop where
 m:x.modules.length≤1000000
 mm: ∀y∈x.modules,y.parts.length≤1000000∧ ∀z∈y.parts,zeT z
 c:x.channels.length≤1000000
 cc: ∀y∈x.channels,y.to.length≤1000000
 s:x.switches.length≤1000000
 l:x.links.length≤1000000
 v:x.vls.length≤1000000
 vv: ∀y∈x.vls,y.to.length≤1000000
 h:x.health.length≤1000000
 k:x.causes.length≤1000000
 kk: ∀y∈x.causes,y.needs.length≤1000000∧y.but.length≤1000000
 r:x.versions.length≤1000000
def zeM:Elt zbR:=fun w G r x=> ∃u0 u1 u2 u3 u4 u5 u6 u7,r=[u0,u1,u2,u3,u4,u5,u6,u7]∧LL 4 (zar zdG) zeV w G u0 x.modules∧LL 4 (zar zcT) zdv w G u1 x.channels∧LL 4 (zar zew) (EF zdD) w G u2 x.switches∧LL 4 (zar zcq) (EF zbO) w G u3 x.links∧LL 7 (zar zfe) zjh w G u4 x.vls∧LL 5 (zar zby) (EF zba) w G u5 x.health∧LL 3 (zar zcg) zcG w G u6 x.causes∧LL 4 (zar zde) (EF zcw) w G u7 x.versions
theorem zcH:zcc zeM 8 zbR.cells where
 keep:=fun _ _ _ _ _ hz hk ⟨u0,u1,u2,u3,u4,u5,u6,u7,e,h0,h1,h2,h3,h4,h5,h6,h7⟩=>⟨u0,u1,u2,u3,u4,u5,u6,u7,e,h0.keep za6 hz hk,h1.keep zaQ hz hk,h2.keep zcW hz hk,h3.keep zbx hz hk,h4.keep zcb hz hk,h5.keep zbc hz hk,h6.keep zaW hz hk,h7.keep zdt hz hk⟩
 mono:=fun _ _ _ _ _ hg ⟨u0,u1,u2,u3,u4,u5,u6,u7,e,h0,h1,h2,h3,h4,h5,h6,h7⟩=>⟨u0,u1,u2,u3,u4,u5,u6,u7,e,h0.mono za6 hg,h1.mono zaQ hg,h2.mono zcW hg,h3.mono zbx hg,h4.mono zcb hg,h5.mono zbc hg,h6.mono zaW hg,h7.mono zdt hg⟩
 wide:=fun _ _ _ _ ⟨_,_,_,_,_,_,_,_,e,_⟩=>by rw[e];rfl
 dat:=fun _ _ _ _ ⟨_,_,_,_,_,_,_,_,e,h0,h1,h2,h3,h4,h5,h6,h7⟩=>by rw[e];exact zab.cons (h0.dat za6) (zab.cons (h1.dat zaQ) (zab.cons (h2.dat zcW) (zab.cons (h3.dat zbx) (zab.cons (h4.dat zcb) (zab.cons (h5.dat zbc) (zab.cons (h6.dat zaW) (zab.cons (h7.dat zdt) (zab.nil))))))))
 one:=fun _ _ _ _ ⟨_,_,_,_,_,_,_,_,e,h0,h1,h2,h3,h4,h5,h6,h7⟩=>by
  have k:=And.intro h0.one (And.intro h1.one (And.intro h2.one (And.intro h3.one (And.intro h4.one (And.intro h5.one (And.intro h6.one h7.one))))))
  rw[e]
  intro v hv
  simp only[List.mem_cons,List.not_mem_nil,or_false] at hv
  rcases hv with rfl|rfl|rfl|rfl|rfl|rfl|rfl|rfl
  all_goals first|rfl|exact k.1|exact k.2.1|exact k.2.2.1|exact k.2.2.2.1|exact k.2.2.2.2.1|exact k.2.2.2.2.2.1|exact k.2.2.2.2.2.2.1|exact k.2.2.2.2.2.2.2
theorem zfW (x:zbR) (us:List Value) (W:World) (hd:Hid (zab W (fun _=>True) us x.cells)) (hl:zoR x):
 Calls Tryz.prog 12 #[.agg us.toArray] W fun e w'=>zdz zeM W x e w':=by
 have hd:=hd.out
 obtain⟨u0,u1,u2,u3,u4,u5,u6,u7,rfl,h0,h1,h2,h3,h4,h5,h6,h7⟩:=dc8 hd
 have HU0:=zaa h0
 obtain⟨A0,p0,rfl, -⟩:=h0.slice
 simp only[List.length_map] at HU0 ⊢
 have HU1:=zaa h1
 obtain⟨A1,p1,rfl, -⟩:=h1.slice
 simp only[List.length_map] at HU1 ⊢
 have HU2:=zaa h2
 obtain⟨A2,p2,rfl, -⟩:=h2.slice
 simp only[List.length_map] at HU2 ⊢
 have HU3:=zaa h3
 obtain⟨A3,p3,rfl, -⟩:=h3.slice
 simp only[List.length_map] at HU3 ⊢
 have HU4:=zaa h4
 obtain⟨A4,p4,rfl, -⟩:=h4.slice
 simp only[List.length_map] at HU4 ⊢
 have HU5:=zaa h5
 obtain⟨A5,p5,rfl, -⟩:=h5.slice
 simp only[List.length_map] at HU5 ⊢
 have HU6:=zaa h6
 obtain⟨A6,p6,rfl, -⟩:=h6.slice
 simp only[List.length_map] at HU6 ⊢
 have HU7:=zaa h7
 obtain⟨A7,p7,rfl, -⟩:=h7.slice
 simp only[List.length_map] at HU7 ⊢
 clear hd h0 h1 h2 h3 h4 h5 h6 h7
 have HT:=zaa (zbp W (.cells #[.slice A0 x.modules.length p0,.slice A1 x.channels.length p1,.slice A2 x.switches.length p2,.slice A3 x.links.length p3,.slice A4 x.vls.length p4,.slice A5 x.health.length p5,.slice A6 x.causes.length p6,.slice A7 x.versions.length p7] 31) (.cells #[.slice none 0 0,.slice none 0 0,.slice none 0 0,.slice none 0 0,.slice none 0 0,.slice none 0 0,.slice none 0 0,.slice none 0 0] 31))
 have hzz:(W.alloc (.cells #[.slice A0 x.modules.length p0,.slice A1 x.channels.length p1,.slice A2 x.switches.length p2,.slice A3 x.links.length p3,.slice A4 x.vls.length p4,.slice A5 x.health.length p5,.slice A6 x.causes.length p6,.slice A7 x.versions.length p7] 31)).heap.size=W.heap.size+1:=by simp
 go_enter Tryz.func12,Tryz.ntmps12
 go_wp2_with fail
 (try rw[hzz])
 clear hzz
 generalize(W.alloc _).alloc _=w0 at *
 have hs0:=(zaJ HT.out.y)
 refine(zkn _ x.modules w0 (zaa (HU0.out.later HT.out.b)) hl.m hl.mm).mono ?_
 rintro e w1 ⟨u0,rfl,hu,hb⟩
 have HT:=zaa (HT.out.step hb)
 have HL0:=zaa (hu.mono za6 (H:=fun b=>W.heap.size+2≤b) (fun b hb _=>by have h2:w0.heap.size≤b:=hb;omega))
 have hs0:=(zaJ HT.out.y)
 obtain⟨g0,c0,heq0⟩: ∃g c,u0= .slice (some ⟨g,0,none⟩) x.modules.length c:=by obtain⟨g,c,rows,e, -⟩:=hu;exact⟨g,c,e⟩
 subst heq0
 clear hb hu
 obtain⟨a0,a1,a2,a3,a4,a5,a6,a7⟩:=zaI HT.out.x
 have fz:=frozen_of_row _ _ 0 _ _ HT.out.x
 have hlx:=(zaJ HT.out.x)
 go_upto_region 2 with fail
 clear fz hlx a0 a1 a2 a3 a4 a5 a6 a7
 have HT:Hid (Two W W.heap.size (.cells #[.slice (some ⟨g0,0,none⟩) x.modules.length c0,.slice A1 x.channels.length p1,.slice A2 x.switches.length p2,.slice A3 x.links.length p3,.slice A4 x.vls.length p4,.slice A5 x.health.length p5,.slice A6 x.causes.length p6,.slice A7 x.versions.length p7] 31) (W.heap.size+1) (.cells #[.slice none 0 0,.slice none 0 0,.slice none 0 0,.slice none 0 0,.slice none 0 0,.slice none 0 0,.slice none 0 0,.slice none 0 0] 31) (w1.setCell ⟨W.heap.size,0,none⟩ (.slice (some ⟨g0,0,none⟩) x.modules.length c0))):=zaa (HT.out.put (j:=0) (by omega) (Nat.le_refl _) _)
 have HL0:=zaa (HL0.out.keep za6 (w':=w1.setCell ⟨W.heap.size,0,none⟩ (.slice (some ⟨g0,0,none⟩) x.modules.length c0)) (by simp[World.setCell]) (fun b hb _=>Below.heap_setCell _ _ _ _ (by show b≠W.heap.size;have h2:W.heap.size+2≤b:=hb;omega)))
 clear hs0
 generalize w1.setCell ⟨W.heap.size,0,none⟩ (.slice (some ⟨g0,0,none⟩) x.modules.length c0)=w2 at *
 have hs0:=(zaJ HT.out.y)
 obtain⟨a0,a1,a2,a3,a4,a5,a6,a7⟩:=zaI HT.out.x
 go_wp2_with fail
 clear a0 a1 a2 a3 a4 a5 a6 a7
 refine(ziH _ x.channels w2 (zaa (HU1.out.later HT.out.b)) hl.c hl.cc).mono ?_
 rintro e w3 ⟨u1,rfl,hu,hb⟩
 have HT:=zaa (HT.out.step hb)
 have HL1:=zaa (hu.mono zaQ (H:=fun b=>W.heap.size+2≤b) (fun b hb _=>by have h2:w2.heap.size≤b:=hb;omega))
 have hs0:=(zaJ HT.out.y)
 obtain⟨g1,c1,heq1⟩: ∃g c,u1= .slice (some ⟨g,0,none⟩) x.channels.length c:=by obtain⟨g,c,rows,e, -⟩:=hu;exact⟨g,c,e⟩
 subst heq1
 have HL0:=zaa (HL0.out.below za6 hb)
 clear hb hu
 obtain⟨a0,a1,a2,a3,a4,a5,a6,a7⟩:=zaI HT.out.x
 have fz:=frozen_of_row _ _ 1 _ _ HT.out.x
 have hlx:=(zaJ HT.out.x)
 go_upto_region 3 with fail
 clear fz hlx a0 a1 a2 a3 a4 a5 a6 a7
 have HT:Hid (Two W W.heap.size (.cells #[.slice (some ⟨g0,0,none⟩) x.modules.length c0,.slice (some ⟨g1,0,none⟩) x.channels.length c1,.slice A2 x.switches.length p2,.slice A3 x.links.length p3,.slice A4 x.vls.length p4,.slice A5 x.health.length p5,.slice A6 x.causes.length p6,.slice A7 x.versions.length p7] 31) (W.heap.size+1) (.cells #[.slice none 0 0,.slice none 0 0,.slice none 0 0,.slice none 0 0,.slice none 0 0,.slice none 0 0,.slice none 0 0,.slice none 0 0] 31) (w3.setCell ⟨W.heap.size,1,none⟩ (.slice (some ⟨g1,0,none⟩) x.channels.length c1))):=zaa (HT.out.put (j:=1) (by omega) (Nat.le_refl _) _)
 have HL0:=zaa (HL0.out.keep za6 (w':=w3.setCell ⟨W.heap.size,1,none⟩ (.slice (some ⟨g1,0,none⟩) x.channels.length c1)) (by simp[World.setCell]) (fun b hb _=>Below.heap_setCell _ _ _ _ (by show b≠W.heap.size;have h2:W.heap.size+2≤b:=hb;omega)))
 have HL1:=zaa (HL1.out.keep zaQ (w':=w3.setCell ⟨W.heap.size,1,none⟩ (.slice (some ⟨g1,0,none⟩) x.channels.length c1)) (by simp[World.setCell]) (fun b hb _=>Below.heap_setCell _ _ _ _ (by show b≠W.heap.size;have h2:W.heap.size+2≤b:=hb;omega)))
 clear hs0
 generalize w3.setCell ⟨W.heap.size,1,none⟩ (.slice (some ⟨g1,0,none⟩) x.channels.length c1)=w4 at *
 have hs0:=(zaJ HT.out.y)
 obtain⟨a0,a1,a2,a3,a4,a5,a6,a7⟩:=zaI HT.out.x
 go_wp2_with fail
 clear a0 a1 a2 a3 a4 a5 a6 a7
 refine(zlL _ x.switches w4 (zaa (HU2.out.later HT.out.b)) hl.s).mono ?_
 rintro e w5 ⟨u2,rfl,hu,hb⟩
 have HT:=zaa (HT.out.step hb)
 have HL2:=zaa (hu.mono zcW (H:=fun b=>W.heap.size+2≤b) (fun b hb _=>by have h2:w4.heap.size≤b:=hb;omega))
 have hs0:=(zaJ HT.out.y)
 obtain⟨g2,c2,heq2⟩: ∃g c,u2= .slice (some ⟨g,0,none⟩) x.switches.length c:=by obtain⟨g,c,rows,e, -⟩:=hu;exact⟨g,c,e⟩
 subst heq2
 have HL0:=zaa (HL0.out.below za6 hb)
 have HL1:=zaa (HL1.out.below zaQ hb)
 clear hb hu
 obtain⟨a0,a1,a2,a3,a4,a5,a6,a7⟩:=zaI HT.out.x
 have fz:=frozen_of_row _ _ 2 _ _ HT.out.x
 have hlx:=(zaJ HT.out.x)
 go_upto_region 4 with fail
 clear fz hlx a0 a1 a2 a3 a4 a5 a6 a7
 have HT:Hid (Two W W.heap.size (.cells #[.slice (some ⟨g0,0,none⟩) x.modules.length c0,.slice (some ⟨g1,0,none⟩) x.channels.length c1,.slice (some ⟨g2,0,none⟩) x.switches.length c2,.slice A3 x.links.length p3,.slice A4 x.vls.length p4,.slice A5 x.health.length p5,.slice A6 x.causes.length p6,.slice A7 x.versions.length p7] 31) (W.heap.size+1) (.cells #[.slice none 0 0,.slice none 0 0,.slice none 0 0,.slice none 0 0,.slice none 0 0,.slice none 0 0,.slice none 0 0,.slice none 0 0] 31) (w5.setCell ⟨W.heap.size,2,none⟩ (.slice (some ⟨g2,0,none⟩) x.switches.length c2))):=zaa (HT.out.put (j:=2) (by omega) (Nat.le_refl _) _)
 have HL0:=zaa (HL0.out.keep za6 (w':=w5.setCell ⟨W.heap.size,2,none⟩ (.slice (some ⟨g2,0,none⟩) x.switches.length c2)) (by simp[World.setCell]) (fun b hb _=>Below.heap_setCell _ _ _ _ (by show b≠W.heap.size;have h2:W.heap.size+2≤b:=hb;omega)))
 have HL1:=zaa (HL1.out.keep zaQ (w':=w5.setCell ⟨W.heap.size,2,none⟩ (.slice (some ⟨g2,0,none⟩) x.switches.length c2)) (by simp[World.setCell]) (fun b hb _=>Below.heap_setCell _ _ _ _ (by show b≠W.heap.size;have h2:W.heap.size+2≤b:=hb;omega)))
 have HL2:=zaa (HL2.out.keep zcW (w':=w5.setCell ⟨W.heap.size,2,none⟩ (.slice (some ⟨g2,0,none⟩) x.switches.length c2)) (by simp[World.setCell]) (fun b hb _=>Below.heap_setCell _ _ _ _ (by show b≠W.heap.size;have h2:W.heap.size+2≤b:=hb;omega)))
 clear hs0
 generalize w5.setCell ⟨W.heap.size,2,none⟩ (.slice (some ⟨g2,0,none⟩) x.switches.length c2)=w6 at *
 have hs0:=(zaJ HT.out.y)
 obtain⟨a0,a1,a2,a3,a4,a5,a6,a7⟩:=zaI HT.out.x
 go_wp2_with fail
 clear a0 a1 a2 a3 a4 a5 a6 a7
 refine(ziS _ x.links w6 (zaa (HU3.out.later HT.out.b)) hl.l).mono ?_
 rintro e w7 ⟨u3,rfl,hu,hb⟩
 have HT:=zaa (HT.out.step hb)
 have HL3:=zaa (hu.mono zbx (H:=fun b=>W.heap.size+2≤b) (fun b hb _=>by have h2:w6.heap.size≤b:=hb;omega))
 have hs0:=(zaJ HT.out.y)
 obtain⟨g3,c3,heq3⟩: ∃g c,u3= .slice (some ⟨g,0,none⟩) x.links.length c:=by obtain⟨g,c,rows,e, -⟩:=hu;exact⟨g,c,e⟩
 subst heq3
 have HL0:=zaa (HL0.out.below za6 hb)
 have HL1:=zaa (HL1.out.below zaQ hb)
 have HL2:=zaa (HL2.out.below zcW hb)
 clear hb hu
 obtain⟨a0,a1,a2,a3,a4,a5,a6,a7⟩:=zaI HT.out.x
 have fz:=frozen_of_row _ _ 3 _ _ HT.out.x
 have hlx:=(zaJ HT.out.x)
 go_upto_region 5 with fail
 clear fz hlx a0 a1 a2 a3 a4 a5 a6 a7
 have HT:Hid (Two W W.heap.size (.cells #[.slice (some ⟨g0,0,none⟩) x.modules.length c0,.slice (some ⟨g1,0,none⟩) x.channels.length c1,.slice (some ⟨g2,0,none⟩) x.switches.length c2,.slice (some ⟨g3,0,none⟩) x.links.length c3,.slice A4 x.vls.length p4,.slice A5 x.health.length p5,.slice A6 x.causes.length p6,.slice A7 x.versions.length p7] 31) (W.heap.size+1) (.cells #[.slice none 0 0,.slice none 0 0,.slice none 0 0,.slice none 0 0,.slice none 0 0,.slice none 0 0,.slice none 0 0,.slice none 0 0] 31) (w7.setCell ⟨W.heap.size,3,none⟩ (.slice (some ⟨g3,0,none⟩) x.links.length c3))):=zaa (HT.out.put (j:=3) (by omega) (Nat.le_refl _) _)
 have HL0:=zaa (HL0.out.keep za6 (w':=w7.setCell ⟨W.heap.size,3,none⟩ (.slice (some ⟨g3,0,none⟩) x.links.length c3)) (by simp[World.setCell]) (fun b hb _=>Below.heap_setCell _ _ _ _ (by show b≠W.heap.size;have h2:W.heap.size+2≤b:=hb;omega)))
 have HL1:=zaa (HL1.out.keep zaQ (w':=w7.setCell ⟨W.heap.size,3,none⟩ (.slice (some ⟨g3,0,none⟩) x.links.length c3)) (by simp[World.setCell]) (fun b hb _=>Below.heap_setCell _ _ _ _ (by show b≠W.heap.size;have h2:W.heap.size+2≤b:=hb;omega)))
 have HL2:=zaa (HL2.out.keep zcW (w':=w7.setCell ⟨W.heap.size,3,none⟩ (.slice (some ⟨g3,0,none⟩) x.links.length c3)) (by simp[World.setCell]) (fun b hb _=>Below.heap_setCell _ _ _ _ (by show b≠W.heap.size;have h2:W.heap.size+2≤b:=hb;omega)))
 have HL3:=zaa (HL3.out.keep zbx (w':=w7.setCell ⟨W.heap.size,3,none⟩ (.slice (some ⟨g3,0,none⟩) x.links.length c3)) (by simp[World.setCell]) (fun b hb _=>Below.heap_setCell _ _ _ _ (by show b≠W.heap.size;have h2:W.heap.size+2≤b:=hb;omega)))
 clear hs0
 generalize w7.setCell ⟨W.heap.size,3,none⟩ (.slice (some ⟨g3,0,none⟩) x.links.length c3)=w8 at *
 have hs0:=(zaJ HT.out.y)
 obtain⟨a0,a1,a2,a3,a4,a5,a6,a7⟩:=zaI HT.out.x
 go_wp2_with fail
 clear a0 a1 a2 a3 a4 a5 a6 a7
 refine(zmC _ x.vls w8 (zaa (HU4.out.later HT.out.b)) hl.v hl.vv).mono ?_
 rintro e w9 ⟨u4,rfl,hu,hb⟩
 have HT:=zaa (HT.out.step hb)
 have HL4:=zaa (hu.mono zcb (H:=fun b=>W.heap.size+2≤b) (fun b hb _=>by have h2:w8.heap.size≤b:=hb;omega))
 have hs0:=(zaJ HT.out.y)
 obtain⟨g4,c4,heq4⟩: ∃g c,u4= .slice (some ⟨g,0,none⟩) x.vls.length c:=by obtain⟨g,c,rows,e, -⟩:=hu;exact⟨g,c,e⟩
 subst heq4
 have HL0:=zaa (HL0.out.below za6 hb)
 have HL1:=zaa (HL1.out.below zaQ hb)
 have HL2:=zaa (HL2.out.below zcW hb)
 have HL3:=zaa (HL3.out.below zbx hb)
 clear hb hu
 obtain⟨a0,a1,a2,a3,a4,a5,a6,a7⟩:=zaI HT.out.x
 have fz:=frozen_of_row _ _ 4 _ _ HT.out.x
 have hlx:=(zaJ HT.out.x)
 go_upto_region 6 with fail
 clear fz hlx a0 a1 a2 a3 a4 a5 a6 a7
 have HT:Hid (Two W W.heap.size (.cells #[.slice (some ⟨g0,0,none⟩) x.modules.length c0,.slice (some ⟨g1,0,none⟩) x.channels.length c1,.slice (some ⟨g2,0,none⟩) x.switches.length c2,.slice (some ⟨g3,0,none⟩) x.links.length c3,.slice (some ⟨g4,0,none⟩) x.vls.length c4,.slice A5 x.health.length p5,.slice A6 x.causes.length p6,.slice A7 x.versions.length p7] 31) (W.heap.size+1) (.cells #[.slice none 0 0,.slice none 0 0,.slice none 0 0,.slice none 0 0,.slice none 0 0,.slice none 0 0,.slice none 0 0,.slice none 0 0] 31) (w9.setCell ⟨W.heap.size,4,none⟩ (.slice (some ⟨g4,0,none⟩) x.vls.length c4))):=zaa (HT.out.put (j:=4) (by omega) (Nat.le_refl _) _)
 have HL0:=zaa (HL0.out.keep za6 (w':=w9.setCell ⟨W.heap.size,4,none⟩ (.slice (some ⟨g4,0,none⟩) x.vls.length c4)) (by simp[World.setCell]) (fun b hb _=>Below.heap_setCell _ _ _ _ (by show b≠W.heap.size;have h2:W.heap.size+2≤b:=hb;omega)))
 have HL1:=zaa (HL1.out.keep zaQ (w':=w9.setCell ⟨W.heap.size,4,none⟩ (.slice (some ⟨g4,0,none⟩) x.vls.length c4)) (by simp[World.setCell]) (fun b hb _=>Below.heap_setCell _ _ _ _ (by show b≠W.heap.size;have h2:W.heap.size+2≤b:=hb;omega)))
 have HL2:=zaa (HL2.out.keep zcW (w':=w9.setCell ⟨W.heap.size,4,none⟩ (.slice (some ⟨g4,0,none⟩) x.vls.length c4)) (by simp[World.setCell]) (fun b hb _=>Below.heap_setCell _ _ _ _ (by show b≠W.heap.size;have h2:W.heap.size+2≤b:=hb;omega)))
 have HL3:=zaa (HL3.out.keep zbx (w':=w9.setCell ⟨W.heap.size,4,none⟩ (.slice (some ⟨g4,0,none⟩) x.vls.length c4)) (by simp[World.setCell]) (fun b hb _=>Below.heap_setCell _ _ _ _ (by show b≠W.heap.size;have h2:W.heap.size+2≤b:=hb;omega)))
 have HL4:=zaa (HL4.out.keep zcb (w':=w9.setCell ⟨W.heap.size,4,none⟩ (.slice (some ⟨g4,0,none⟩) x.vls.length c4)) (by simp[World.setCell]) (fun b hb _=>Below.heap_setCell _ _ _ _ (by show b≠W.heap.size;have h2:W.heap.size+2≤b:=hb;omega)))
 clear hs0
 generalize w9.setCell ⟨W.heap.size,4,none⟩ (.slice (some ⟨g4,0,none⟩) x.vls.length c4)=w10 at *
 have hs0:=(zaJ HT.out.y)
 obtain⟨a0,a1,a2,a3,a4,a5,a6,a7⟩:=zaI HT.out.x
 go_wp2_with fail
 clear a0 a1 a2 a3 a4 a5 a6 a7
 refine(zgF _ x.health w10 (zaa (HU5.out.later HT.out.b)) hl.h).mono ?_
 rintro e w11 ⟨u5,rfl,hu,hb⟩
 have HT:=zaa (HT.out.step hb)
 have HL5:=zaa (hu.mono zbc (H:=fun b=>W.heap.size+2≤b) (fun b hb _=>by have h2:w10.heap.size≤b:=hb;omega))
 have hs0:=(zaJ HT.out.y)
 obtain⟨g5,c5,heq5⟩: ∃g c,u5= .slice (some ⟨g,0,none⟩) x.health.length c:=by obtain⟨g,c,rows,e, -⟩:=hu;exact⟨g,c,e⟩
 subst heq5
 have HL0:=zaa (HL0.out.below za6 hb)
 have HL1:=zaa (HL1.out.below zaQ hb)
 have HL2:=zaa (HL2.out.below zcW hb)
 have HL3:=zaa (HL3.out.below zbx hb)
 have HL4:=zaa (HL4.out.below zcb hb)
 clear hb hu
 obtain⟨a0,a1,a2,a3,a4,a5,a6,a7⟩:=zaI HT.out.x
 have fz:=frozen_of_row _ _ 5 _ _ HT.out.x
 have hlx:=(zaJ HT.out.x)
 go_upto_region 7 with fail
 clear fz hlx a0 a1 a2 a3 a4 a5 a6 a7
 have HT:Hid (Two W W.heap.size (.cells #[.slice (some ⟨g0,0,none⟩) x.modules.length c0,.slice (some ⟨g1,0,none⟩) x.channels.length c1,.slice (some ⟨g2,0,none⟩) x.switches.length c2,.slice (some ⟨g3,0,none⟩) x.links.length c3,.slice (some ⟨g4,0,none⟩) x.vls.length c4,.slice (some ⟨g5,0,none⟩) x.health.length c5,.slice A6 x.causes.length p6,.slice A7 x.versions.length p7] 31) (W.heap.size+1) (.cells #[.slice none 0 0,.slice none 0 0,.slice none 0 0,.slice none 0 0,.slice none 0 0,.slice none 0 0,.slice none 0 0,.slice none 0 0] 31) (w11.setCell ⟨W.heap.size,5,none⟩ (.slice (some ⟨g5,0,none⟩) x.health.length c5))):=zaa (HT.out.put (j:=5) (by omega) (Nat.le_refl _) _)
 have HL0:=zaa (HL0.out.keep za6 (w':=w11.setCell ⟨W.heap.size,5,none⟩ (.slice (some ⟨g5,0,none⟩) x.health.length c5)) (by simp[World.setCell]) (fun b hb _=>Below.heap_setCell _ _ _ _ (by show b≠W.heap.size;have h2:W.heap.size+2≤b:=hb;omega)))
 have HL1:=zaa (HL1.out.keep zaQ (w':=w11.setCell ⟨W.heap.size,5,none⟩ (.slice (some ⟨g5,0,none⟩) x.health.length c5)) (by simp[World.setCell]) (fun b hb _=>Below.heap_setCell _ _ _ _ (by show b≠W.heap.size;have h2:W.heap.size+2≤b:=hb;omega)))
 have HL2:=zaa (HL2.out.keep zcW (w':=w11.setCell ⟨W.heap.size,5,none⟩ (.slice (some ⟨g5,0,none⟩) x.health.length c5)) (by simp[World.setCell]) (fun b hb _=>Below.heap_setCell _ _ _ _ (by show b≠W.heap.size;have h2:W.heap.size+2≤b:=hb;omega)))
 have HL3:=zaa (HL3.out.keep zbx (w':=w11.setCell ⟨W.heap.size,5,none⟩ (.slice (some ⟨g5,0,none⟩) x.health.length c5)) (by simp[World.setCell]) (fun b hb _=>Below.heap_setCell _ _ _ _ (by show b≠W.heap.size;have h2:W.heap.size+2≤b:=hb;omega)))
 have HL4:=zaa (HL4.out.keep zcb (w':=w11.setCell ⟨W.heap.size,5,none⟩ (.slice (some ⟨g5,0,none⟩) x.health.length c5)) (by simp[World.setCell]) (fun b hb _=>Below.heap_setCell _ _ _ _ (by show b≠W.heap.size;have h2:W.heap.size+2≤b:=hb;omega)))
 have HL5:=zaa (HL5.out.keep zbc (w':=w11.setCell ⟨W.heap.size,5,none⟩ (.slice (some ⟨g5,0,none⟩) x.health.length c5)) (by simp[World.setCell]) (fun b hb _=>Below.heap_setCell _ _ _ _ (by show b≠W.heap.size;have h2:W.heap.size+2≤b:=hb;omega)))
 clear hs0
 generalize w11.setCell ⟨W.heap.size,5,none⟩ (.slice (some ⟨g5,0,none⟩) x.health.length c5)=w12 at *
 have hs0:=(zaJ HT.out.y)
 obtain⟨a0,a1,a2,a3,a4,a5,a6,a7⟩:=zaI HT.out.x
 go_wp2_with fail
 clear a0 a1 a2 a3 a4 a5 a6 a7
 refine(zhO _ x.causes w12 (zaa (HU6.out.later HT.out.b)) hl.k hl.kk).mono ?_
 rintro e w13 ⟨u6,rfl,hu,hb⟩
 have HT:=zaa (HT.out.step hb)
 have HL6:=zaa (hu.mono zaW (H:=fun b=>W.heap.size+2≤b) (fun b hb _=>by have h2:w12.heap.size≤b:=hb;omega))
 have hs0:=(zaJ HT.out.y)
 obtain⟨g6,c6,heq6⟩: ∃g c,u6= .slice (some ⟨g,0,none⟩) x.causes.length c:=by obtain⟨g,c,rows,e, -⟩:=hu;exact⟨g,c,e⟩
 subst heq6
 have HL0:=zaa (HL0.out.below za6 hb)
 have HL1:=zaa (HL1.out.below zaQ hb)
 have HL2:=zaa (HL2.out.below zcW hb)
 have HL3:=zaa (HL3.out.below zbx hb)
 have HL4:=zaa (HL4.out.below zcb hb)
 have HL5:=zaa (HL5.out.below zbc hb)
 clear hb hu
 obtain⟨a0,a1,a2,a3,a4,a5,a6,a7⟩:=zaI HT.out.x
 have fz:=frozen_of_row _ _ 6 _ _ HT.out.x
 have hlx:=(zaJ HT.out.x)
 go_upto_region 8 with fail
 clear fz hlx a0 a1 a2 a3 a4 a5 a6 a7
 have HT:Hid (Two W W.heap.size (.cells #[.slice (some ⟨g0,0,none⟩) x.modules.length c0,.slice (some ⟨g1,0,none⟩) x.channels.length c1,.slice (some ⟨g2,0,none⟩) x.switches.length c2,.slice (some ⟨g3,0,none⟩) x.links.length c3,.slice (some ⟨g4,0,none⟩) x.vls.length c4,.slice (some ⟨g5,0,none⟩) x.health.length c5,.slice (some ⟨g6,0,none⟩) x.causes.length c6,.slice A7 x.versions.length p7] 31) (W.heap.size+1) (.cells #[.slice none 0 0,.slice none 0 0,.slice none 0 0,.slice none 0 0,.slice none 0 0,.slice none 0 0,.slice none 0 0,.slice none 0 0] 31) (w13.setCell ⟨W.heap.size,6,none⟩ (.slice (some ⟨g6,0,none⟩) x.causes.length c6))):=zaa (HT.out.put (j:=6) (by omega) (Nat.le_refl _) _)
 have HL0:=zaa (HL0.out.keep za6 (w':=w13.setCell ⟨W.heap.size,6,none⟩ (.slice (some ⟨g6,0,none⟩) x.causes.length c6)) (by simp[World.setCell]) (fun b hb _=>Below.heap_setCell _ _ _ _ (by show b≠W.heap.size;have h2:W.heap.size+2≤b:=hb;omega)))
 have HL1:=zaa (HL1.out.keep zaQ (w':=w13.setCell ⟨W.heap.size,6,none⟩ (.slice (some ⟨g6,0,none⟩) x.causes.length c6)) (by simp[World.setCell]) (fun b hb _=>Below.heap_setCell _ _ _ _ (by show b≠W.heap.size;have h2:W.heap.size+2≤b:=hb;omega)))
 have HL2:=zaa (HL2.out.keep zcW (w':=w13.setCell ⟨W.heap.size,6,none⟩ (.slice (some ⟨g6,0,none⟩) x.causes.length c6)) (by simp[World.setCell]) (fun b hb _=>Below.heap_setCell _ _ _ _ (by show b≠W.heap.size;have h2:W.heap.size+2≤b:=hb;omega)))
 have HL3:=zaa (HL3.out.keep zbx (w':=w13.setCell ⟨W.heap.size,6,none⟩ (.slice (some ⟨g6,0,none⟩) x.causes.length c6)) (by simp[World.setCell]) (fun b hb _=>Below.heap_setCell _ _ _ _ (by show b≠W.heap.size;have h2:W.heap.size+2≤b:=hb;omega)))
 have HL4:=zaa (HL4.out.keep zcb (w':=w13.setCell ⟨W.heap.size,6,none⟩ (.slice (some ⟨g6,0,none⟩) x.causes.length c6)) (by simp[World.setCell]) (fun b hb _=>Below.heap_setCell _ _ _ _ (by show b≠W.heap.size;have h2:W.heap.size+2≤b:=hb;omega)))
 have HL5:=zaa (HL5.out.keep zbc (w':=w13.setCell ⟨W.heap.size,6,none⟩ (.slice (some ⟨g6,0,none⟩) x.causes.length c6)) (by simp[World.setCell]) (fun b hb _=>Below.heap_setCell _ _ _ _ (by show b≠W.heap.size;have h2:W.heap.size+2≤b:=hb;omega)))
 have HL6:=zaa (HL6.out.keep zaW (w':=w13.setCell ⟨W.heap.size,6,none⟩ (.slice (some ⟨g6,0,none⟩) x.causes.length c6)) (by simp[World.setCell]) (fun b hb _=>Below.heap_setCell _ _ _ _ (by show b≠W.heap.size;have h2:W.heap.size+2≤b:=hb;omega)))
 clear hs0
 generalize w13.setCell ⟨W.heap.size,6,none⟩ (.slice (some ⟨g6,0,none⟩) x.causes.length c6)=w14 at *
 have hs0:=(zaJ HT.out.y)
 obtain⟨a0,a1,a2,a3,a4,a5,a6,a7⟩:=zaI HT.out.x
 go_wp2_with fail
 clear a0 a1 a2 a3 a4 a5 a6 a7
 refine(zkq _ x.versions w14 (zaa (HU7.out.later HT.out.b)) hl.r).mono ?_
 rintro e w15 ⟨u7,rfl,hu,hb⟩
 have HT:=zaa (HT.out.step hb)
 have HL7:=zaa (hu.mono zdt (H:=fun b=>W.heap.size+2≤b) (fun b hb _=>by have h2:w14.heap.size≤b:=hb;omega))
 have hs0:=(zaJ HT.out.y)
 obtain⟨g7,c7,heq7⟩: ∃g c,u7= .slice (some ⟨g,0,none⟩) x.versions.length c:=by obtain⟨g,c,rows,e, -⟩:=hu;exact⟨g,c,e⟩
 subst heq7
 have HL0:=zaa (HL0.out.below za6 hb)
 have HL1:=zaa (HL1.out.below zaQ hb)
 have HL2:=zaa (HL2.out.below zcW hb)
 have HL3:=zaa (HL3.out.below zbx hb)
 have HL4:=zaa (HL4.out.below zcb hb)
 have HL5:=zaa (HL5.out.below zbc hb)
 have HL6:=zaa (HL6.out.below zaW hb)
 clear hb hu
 obtain⟨a0,a1,a2,a3,a4,a5,a6,a7⟩:=zaI HT.out.x
 have fz:=frozen_of_row _ _ 7 _ _ HT.out.x
 have hlx:=(zaJ HT.out.x)
 go_upto_region 9 with fail
 clear fz hlx a0 a1 a2 a3 a4 a5 a6 a7
 have HT:Hid (Two W W.heap.size (.cells #[.slice (some ⟨g0,0,none⟩) x.modules.length c0,.slice (some ⟨g1,0,none⟩) x.channels.length c1,.slice (some ⟨g2,0,none⟩) x.switches.length c2,.slice (some ⟨g3,0,none⟩) x.links.length c3,.slice (some ⟨g4,0,none⟩) x.vls.length c4,.slice (some ⟨g5,0,none⟩) x.health.length c5,.slice (some ⟨g6,0,none⟩) x.causes.length c6,.slice (some ⟨g7,0,none⟩) x.versions.length c7] 31) (W.heap.size+1) (.cells #[.slice none 0 0,.slice none 0 0,.slice none 0 0,.slice none 0 0,.slice none 0 0,.slice none 0 0,.slice none 0 0,.slice none 0 0] 31) (w15.setCell ⟨W.heap.size,7,none⟩ (.slice (some ⟨g7,0,none⟩) x.versions.length c7))):=zaa (HT.out.put (j:=7) (by omega) (Nat.le_refl _) _)
 have HL0:=zaa (HL0.out.keep za6 (w':=w15.setCell ⟨W.heap.size,7,none⟩ (.slice (some ⟨g7,0,none⟩) x.versions.length c7)) (by simp[World.setCell]) (fun b hb _=>Below.heap_setCell _ _ _ _ (by show b≠W.heap.size;have h2:W.heap.size+2≤b:=hb;omega)))
 have HL1:=zaa (HL1.out.keep zaQ (w':=w15.setCell ⟨W.heap.size,7,none⟩ (.slice (some ⟨g7,0,none⟩) x.versions.length c7)) (by simp[World.setCell]) (fun b hb _=>Below.heap_setCell _ _ _ _ (by show b≠W.heap.size;have h2:W.heap.size+2≤b:=hb;omega)))
 have HL2:=zaa (HL2.out.keep zcW (w':=w15.setCell ⟨W.heap.size,7,none⟩ (.slice (some ⟨g7,0,none⟩) x.versions.length c7)) (by simp[World.setCell]) (fun b hb _=>Below.heap_setCell _ _ _ _ (by show b≠W.heap.size;have h2:W.heap.size+2≤b:=hb;omega)))
 have HL3:=zaa (HL3.out.keep zbx (w':=w15.setCell ⟨W.heap.size,7,none⟩ (.slice (some ⟨g7,0,none⟩) x.versions.length c7)) (by simp[World.setCell]) (fun b hb _=>Below.heap_setCell _ _ _ _ (by show b≠W.heap.size;have h2:W.heap.size+2≤b:=hb;omega)))
 have HL4:=zaa (HL4.out.keep zcb (w':=w15.setCell ⟨W.heap.size,7,none⟩ (.slice (some ⟨g7,0,none⟩) x.versions.length c7)) (by simp[World.setCell]) (fun b hb _=>Below.heap_setCell _ _ _ _ (by show b≠W.heap.size;have h2:W.heap.size+2≤b:=hb;omega)))
 have HL5:=zaa (HL5.out.keep zbc (w':=w15.setCell ⟨W.heap.size,7,none⟩ (.slice (some ⟨g7,0,none⟩) x.versions.length c7)) (by simp[World.setCell]) (fun b hb _=>Below.heap_setCell _ _ _ _ (by show b≠W.heap.size;have h2:W.heap.size+2≤b:=hb;omega)))
 have HL6:=zaa (HL6.out.keep zaW (w':=w15.setCell ⟨W.heap.size,7,none⟩ (.slice (some ⟨g7,0,none⟩) x.versions.length c7)) (by simp[World.setCell]) (fun b hb _=>Below.heap_setCell _ _ _ _ (by show b≠W.heap.size;have h2:W.heap.size+2≤b:=hb;omega)))
 have HL7:=zaa (HL7.out.keep zdt (w':=w15.setCell ⟨W.heap.size,7,none⟩ (.slice (some ⟨g7,0,none⟩) x.versions.length c7)) (by simp[World.setCell]) (fun b hb _=>Below.heap_setCell _ _ _ _ (by show b≠W.heap.size;have h2:W.heap.size+2≤b:=hb;omega)))
 clear hs0
 generalize w15.setCell ⟨W.heap.size,7,none⟩ (.slice (some ⟨g7,0,none⟩) x.versions.length c7)=w16 at *
 have hs0:=(zaJ HT.out.y)
 obtain⟨a0,a1,a2,a3,a4,a5,a6,a7⟩:=zaI HT.out.x
 obtain⟨b0,b1,b2,b3,b4,b5,b6,b7⟩:=zaI HT.out.y
 have f0:=frozen_of_row _ _ 0 _ _ HT.out.y
 have f1:=frozen_of_row _ _ 1 _ _ HT.out.y
 have f2:=frozen_of_row _ _ 2 _ _ HT.out.y
 have f3:=frozen_of_row _ _ 3 _ _ HT.out.y
 have f4:=frozen_of_row _ _ 4 _ _ HT.out.y
 have f5:=frozen_of_row _ _ 5 _ _ HT.out.y
 have f6:=frozen_of_row _ _ 6 _ _ HT.out.y
 have f7:=frozen_of_row _ _ 7 _ _ HT.out.y
 have hlx:=(zaJ HT.out.x)
 go_wp2_with fail
 refine bodyPost_ret (v:= .agg #[.slice (some ⟨g0,0,none⟩) x.modules.length c0,.slice (some ⟨g1,0,none⟩) x.channels.length c1,.slice (some ⟨g2,0,none⟩) x.switches.length c2,.slice (some ⟨g3,0,none⟩) x.links.length c3,.slice (some ⟨g4,0,none⟩) x.vls.length c4,.slice (some ⟨g5,0,none⟩) x.health.length c5,.slice (some ⟨g6,0,none⟩) x.causes.length c6,.slice (some ⟨g7,0,none⟩) x.versions.length c7]) (by simp[results,Tryz.results12,go_sem,b0,b1,b2,b3,b4,b5,b6,b7]) rfl ?_
 refine zdz.mk [.slice (some ⟨g0,0,none⟩) x.modules.length c0,.slice (some ⟨g1,0,none⟩) x.channels.length c1,.slice (some ⟨g2,0,none⟩) x.switches.length c2,.slice (some ⟨g3,0,none⟩) x.links.length c3,.slice (some ⟨g4,0,none⟩) x.vls.length c4,.slice (some ⟨g5,0,none⟩) x.health.length c5,.slice (some ⟨g6,0,none⟩) x.causes.length c6,.slice (some ⟨g7,0,none⟩) x.versions.length c7] rfl ⟨_,_,_,_,_,_,_,_,rfl,?_,?_,?_,?_,?_,?_,?_,?_⟩ ?_
 ·refine((HL0.out.keep za6 (by simp[World.setCell]) (fun b hb _=> ?_)).mono za6 (fun b hb _=>by have h2:W.heap.size+2≤b:=hb;omega))
  have h2:W.heap.size+2≤b:=hb
  iterate 8 (refine(Below.heap_setCell _ _ _ _ (by show b≠W.heap.size+1;omega)).trans ?_)
  rfl
 ·refine((HL1.out.keep zaQ (by simp[World.setCell]) (fun b hb _=> ?_)).mono zaQ (fun b hb _=>by have h2:W.heap.size+2≤b:=hb;omega))
  have h2:W.heap.size+2≤b:=hb
  iterate 8 (refine(Below.heap_setCell _ _ _ _ (by show b≠W.heap.size+1;omega)).trans ?_)
  rfl
 ·refine((HL2.out.keep zcW (by simp[World.setCell]) (fun b hb _=> ?_)).mono zcW (fun b hb _=>by have h2:W.heap.size+2≤b:=hb;omega))
  have h2:W.heap.size+2≤b:=hb
  iterate 8 (refine(Below.heap_setCell _ _ _ _ (by show b≠W.heap.size+1;omega)).trans ?_)
  rfl
 ·refine((HL3.out.keep zbx (by simp[World.setCell]) (fun b hb _=> ?_)).mono zbx (fun b hb _=>by have h2:W.heap.size+2≤b:=hb;omega))
  have h2:W.heap.size+2≤b:=hb
  iterate 8 (refine(Below.heap_setCell _ _ _ _ (by show b≠W.heap.size+1;omega)).trans ?_)
  rfl
 ·refine((HL4.out.keep zcb (by simp[World.setCell]) (fun b hb _=> ?_)).mono zcb (fun b hb _=>by have h2:W.heap.size+2≤b:=hb;omega))
  have h2:W.heap.size+2≤b:=hb
  iterate 8 (refine(Below.heap_setCell _ _ _ _ (by show b≠W.heap.size+1;omega)).trans ?_)
  rfl
 ·refine((HL5.out.keep zbc (by simp[World.setCell]) (fun b hb _=> ?_)).mono zbc (fun b hb _=>by have h2:W.heap.size+2≤b:=hb;omega))
  have h2:W.heap.size+2≤b:=hb
  iterate 8 (refine(Below.heap_setCell _ _ _ _ (by show b≠W.heap.size+1;omega)).trans ?_)
  rfl
 ·refine((HL6.out.keep zaW (by simp[World.setCell]) (fun b hb _=> ?_)).mono zaW (fun b hb _=>by have h2:W.heap.size+2≤b:=hb;omega))
  have h2:W.heap.size+2≤b:=hb
  iterate 8 (refine(Below.heap_setCell _ _ _ _ (by show b≠W.heap.size+1;omega)).trans ?_)
  rfl
 ·refine((HL7.out.keep zdt (by simp[World.setCell]) (fun b hb _=> ?_)).mono zdt (fun b hb _=>by have h2:W.heap.size+2≤b:=hb;omega))
  have h2:W.heap.size+2≤b:=hb
  iterate 8 (refine(Below.heap_setCell _ _ _ _ (by show b≠W.heap.size+1;omega)).trans ?_)
  rfl
 ·exact((((((((HT.out.b.setCell (p:=⟨W.heap.size+1,0,none⟩) (by show W.heap.size≤W.heap.size+1;omega) _).setCell (p:=⟨W.heap.size+1,1,none⟩) (by show W.heap.size≤W.heap.size+1;omega) _).setCell (p:=⟨W.heap.size+1,2,none⟩) (by show W.heap.size≤W.heap.size+1;omega) _).setCell (p:=⟨W.heap.size+1,3,none⟩) (by show W.heap.size≤W.heap.size+1;omega) _).setCell (p:=⟨W.heap.size+1,4,none⟩) (by show W.heap.size≤W.heap.size+1;omega) _).setCell (p:=⟨W.heap.size+1,5,none⟩) (by show W.heap.size≤W.heap.size+1;omega) _).setCell (p:=⟨W.heap.size+1,6,none⟩) (by show W.heap.size≤W.heap.size+1;omega) _).setCell (p:=⟨W.heap.size+1,7,none⟩) (by show W.heap.size≤W.heap.size+1;omega) _)
end Go.Proofs.YtgbfaompondolaaGreatDoor
namespace Go.Proofs.YtgbfaompondolaaGreatDoor
open Go.RowKit
attribute [local go_sem] zal.cell
theorem zlz (x y:zbR) (p_:Prop) (hp_:Hid (p_↔x=y)) (us vs:List Value) (W:World) (ha:Hid (zab W (fun _=>True) us x.cells)) (hb:Hid (zab W (fun _=>True) vs y.cells)) (hl:zdE x):
 Calls Tryz.prog 14 #[.agg us.toArray,.agg vs.toArray] W fun e w'=>zau p_ W.heap.size W e w':=by
 obtain⟨x0,x1,x2,x3,x4,x5,x6,x7⟩:=x
 obtain⟨y0,y1,y2,y3,y4,y5,y6,y7⟩:=y
 have hd:=ha.out
 have he:=hb.out
 obtain⟨u0,u1,u2,u3,u4,u5,u6,u7,rfl,h0,h1,h2,h3,h4,h5,h6,h7⟩:=dc8 hd
 obtain⟨v0,v1,v2,v3,v4,v5,v6,v7,rfl,i0,i1,i2,i3,i4,i5,i6,i7⟩:=dc8 he
 have HU0:=zaa h0
 have HV0:=zaa i0
 obtain⟨A0,p0,rfl, -⟩:=h0.slice
 obtain⟨B0,r0,rfl, -⟩:=i0.slice
 simp only[List.length_map] at HU0 HV0 ⊢
 have HU1:=zaa h1
 have HV1:=zaa i1
 obtain⟨A1,p1,rfl, -⟩:=h1.slice
 obtain⟨B1,r1,rfl, -⟩:=i1.slice
 simp only[List.length_map] at HU1 HV1 ⊢
 have HU2:=zaa h2
 have HV2:=zaa i2
 obtain⟨A2,p2,rfl, -⟩:=h2.slice
 obtain⟨B2,r2,rfl, -⟩:=i2.slice
 simp only[List.length_map] at HU2 HV2 ⊢
 have HU3:=zaa h3
 have HV3:=zaa i3
 obtain⟨A3,p3,rfl, -⟩:=h3.slice
 obtain⟨B3,r3,rfl, -⟩:=i3.slice
 simp only[List.length_map] at HU3 HV3 ⊢
 have HU4:=zaa h4
 have HV4:=zaa i4
 obtain⟨A4,p4,rfl, -⟩:=h4.slice
 obtain⟨B4,r4,rfl, -⟩:=i4.slice
 simp only[List.length_map] at HU4 HV4 ⊢
 have HU5:=zaa h5
 have HV5:=zaa i5
 obtain⟨A5,p5,rfl, -⟩:=h5.slice
 obtain⟨B5,r5,rfl, -⟩:=i5.slice
 simp only[List.length_map] at HU5 HV5 ⊢
 have HU6:=zaa h6
 have HV6:=zaa i6
 obtain⟨A6,p6,rfl, -⟩:=h6.slice
 obtain⟨B6,r6,rfl, -⟩:=i6.slice
 simp only[List.length_map] at HU6 HV6 ⊢
 have HU7:=zaa h7
 have HV7:=zaa i7
 obtain⟨A7,p7,rfl, -⟩:=h7.slice
 obtain⟨B7,r7,rfl, -⟩:=i7.slice
 simp only[List.length_map] at HU7 HV7 ⊢
 clear ha hb hd he h0 i0 h1 i1 h2 i2 h3 i3 h4 i4 h5 i5 h6 i6 h7 i7
 have HT:=zaa (zbp W (.cells #[.slice A0 x0.length p0,.slice A1 x1.length p1,.slice A2 x2.length p2,.slice A3 x3.length p3,.slice A4 x4.length p4,.slice A5 x5.length p5,.slice A6 x6.length p6,.slice A7 x7.length p7] 31) (.cells #[.slice B0 y0.length r0,.slice B1 y1.length r1,.slice B2 y2.length r2,.slice B3 y3.length r3,.slice B4 y4.length r4,.slice B5 y5.length r5,.slice B6 y6.length r6,.slice B7 y7.length r7] 31))
 have hzz:(W.alloc (.cells #[.slice A0 x0.length p0,.slice A1 x1.length p1,.slice A2 x2.length p2,.slice A3 x3.length p3,.slice A4 x4.length p4,.slice A5 x5.length p5,.slice A6 x6.length p6,.slice A7 x7.length p7] 31)).heap.size=W.heap.size+1:=by simp
 go_enter Tryz.func14,Tryz.ntmps14
 go_wp2_with fail
 (try rw[hzz])
 clear hzz
 generalize(W.alloc _).alloc _=w0 at *
 obtain⟨a0,a1,a2,a3,a4,a5,a6,a7⟩:=zaI HT.out.x
 obtain⟨b0,b1,b2,b3,b4,b5,b6,b7⟩:=zaI HT.out.y
 go_wp2_with fail
 clear a0 b0 a1 b1 a2 b2 a3 b3 a4 b4 a5 b5 a6 b6 a7 b7
 refine(zl1 _ _ x0 y0 w0 (zaa (HU0.out.later HT.out.b)) (zaa (HV0.out.later HT.out.b)) hl.nm hl.m).mono ?_
 rintro e w1 ⟨z,rfl,hz,hb⟩
 have HT:=zaa (HT.out.step hb)
 have HZ:=zaa hz
 clear hb hz
 cases z with
 |false=>as_aux_lemma=>
  have HN:=zaa (show¬p_ from fun h=>absurd (congrArg zbR.modules (hp_.out.1 h)) (fun h=>by cases HZ.out.2 h))
  clear HZ hp_
  go_wp2_with fail
  go_ret
  exact zau.mk false rfl ⟨(fun h=>by cases h),fun h=>absurd h HN.out⟩ HT.out.b
 |true=>
  have e_:=HZ.out.1 rfl
  clear HZ
  subst e_
  obtain⟨a0,a1,a2,a3,a4,a5,a6,a7⟩:=zaI HT.out.x
  obtain⟨b0,b1,b2,b3,b4,b5,b6,b7⟩:=zaI HT.out.y
  go_wp2_with fail
  clear a0 b0 a1 b1 a2 b2 a3 b3 a4 b4 a5 b5 a6 b6 a7 b7
  refine(zks _ _ x1 y1 w1 (zaa (HU1.out.later HT.out.b)) (zaa (HV1.out.later HT.out.b)) hl.nc hl.c).mono ?_
  rintro e w2 ⟨z,rfl,hz,hb⟩
  have HT:=zaa (HT.out.step hb)
  have HZ:=zaa hz
  clear hb hz
  cases z with
  |false=>as_aux_lemma=>
   have HN:=zaa (show¬p_ from fun h=>absurd (congrArg zbR.channels (hp_.out.1 h)) (fun h=>by cases HZ.out.2 h))
   clear HZ hp_
   go_wp2_with fail
   go_ret
   exact zau.mk false rfl ⟨(fun h=>by cases h),fun h=>absurd h HN.out⟩ HT.out.b
  |true=>
   have e_:=HZ.out.1 rfl
   clear HZ
   subst e_
   obtain⟨a0,a1,a2,a3,a4,a5,a6,a7⟩:=zaI HT.out.x
   obtain⟨b0,b1,b2,b3,b4,b5,b6,b7⟩:=zaI HT.out.y
   go_wp2_with fail
   clear a0 b0 a1 b1 a2 b2 a3 b3 a4 b4 a5 b5 a6 b6 a7 b7
   refine(zod _ _ x2 y2 w2 (zaa (HU2.out.later HT.out.b)) (zaa (HV2.out.later HT.out.b)) hl.ns).mono ?_
   rintro e w3 ⟨z,rfl,hz,hb⟩
   have HT:=zaa (HT.out.step hb)
   have HZ:=zaa hz
   clear hb hz
   cases z with
   |false=>as_aux_lemma=>
    have HN:=zaa (show¬p_ from fun h=>absurd (congrArg zbR.switches (hp_.out.1 h)) (fun h=>by cases HZ.out.2 h))
    clear HZ hp_
    go_wp2_with fail
    go_ret
    exact zau.mk false rfl ⟨(fun h=>by cases h),fun h=>absurd h HN.out⟩ HT.out.b
   |true=>
    have e_:=HZ.out.1 rfl
    clear HZ
    subst e_
    obtain⟨a0,a1,a2,a3,a4,a5,a6,a7⟩:=zaI HT.out.x
    obtain⟨b0,b1,b2,b3,b4,b5,b6,b7⟩:=zaI HT.out.y
    go_wp2_with fail
    clear a0 b0 a1 b1 a2 b2 a3 b3 a4 b4 a5 b5 a6 b6 a7 b7
    refine(zkJ _ _ x3 y3 w3 (zaa (HU3.out.later HT.out.b)) (zaa (HV3.out.later HT.out.b)) hl.nl).mono ?_
    rintro e w4 ⟨z,rfl,hz,hb⟩
    have HT:=zaa (HT.out.step hb)
    have HZ:=zaa hz
    clear hb hz
    cases z with
    |false=>as_aux_lemma=>
     have HN:=zaa (show¬p_ from fun h=>absurd (congrArg zbR.links (hp_.out.1 h)) (fun h=>by cases HZ.out.2 h))
     clear HZ hp_
     go_wp2_with fail
     go_ret
     exact zau.mk false rfl ⟨(fun h=>by cases h),fun h=>absurd h HN.out⟩ HT.out.b
    |true=>
     have e_:=HZ.out.1 rfl
     clear HZ
     subst e_
     obtain⟨a0,a1,a2,a3,a4,a5,a6,a7⟩:=zaI HT.out.x
     obtain⟨b0,b1,b2,b3,b4,b5,b6,b7⟩:=zaI HT.out.y
     go_wp2_with fail
     clear a0 b0 a1 b1 a2 b2 a3 b3 a4 b4 a5 b5 a6 b6 a7 b7
     refine(zob _ _ x4 y4 w4 (zaa (HU4.out.later HT.out.b)) (zaa (HV4.out.later HT.out.b)) hl.nv hl.v).mono ?_
     rintro e w5 ⟨z,rfl,hz,hb⟩
     have HT:=zaa (HT.out.step hb)
     have HZ:=zaa hz
     clear hb hz
     cases z with
     |false=>as_aux_lemma=>
      have HN:=zaa (show¬p_ from fun h=>absurd (congrArg zbR.vls (hp_.out.1 h)) (fun h=>by cases HZ.out.2 h))
      clear HZ hp_
      go_wp2_with fail
      go_ret
      exact zau.mk false rfl ⟨(fun h=>by cases h),fun h=>absurd h HN.out⟩ HT.out.b
     |true=>
      have e_:=HZ.out.1 rfl
      clear HZ
      subst e_
      obtain⟨a0,a1,a2,a3,a4,a5,a6,a7⟩:=zaI HT.out.x
      obtain⟨b0,b1,b2,b3,b4,b5,b6,b7⟩:=zaI HT.out.y
      go_wp2_with fail
      clear a0 b0 a1 b1 a2 b2 a3 b3 a4 b4 a5 b5 a6 b6 a7 b7
      refine(zie _ _ x5 y5 w5 (zaa (HU5.out.later HT.out.b)) (zaa (HV5.out.later HT.out.b)) hl.nh).mono ?_
      rintro e w6 ⟨z,rfl,hz,hb⟩
      have HT:=zaa (HT.out.step hb)
      have HZ:=zaa hz
      clear hb hz
      cases z with
      |false=>as_aux_lemma=>
       have HN:=zaa (show¬p_ from fun h=>absurd (congrArg zbR.health (hp_.out.1 h)) (fun h=>by cases HZ.out.2 h))
       clear HZ hp_
       go_wp2_with fail
       go_ret
       exact zau.mk false rfl ⟨(fun h=>by cases h),fun h=>absurd h HN.out⟩ HT.out.b
      |true=>
       have e_:=HZ.out.1 rfl
       clear HZ
       subst e_
       obtain⟨a0,a1,a2,a3,a4,a5,a6,a7⟩:=zaI HT.out.x
       obtain⟨b0,b1,b2,b3,b4,b5,b6,b7⟩:=zaI HT.out.y
       go_wp2_with fail
       clear a0 b0 a1 b1 a2 b2 a3 b3 a4 b4 a5 b5 a6 b6 a7 b7
       refine(zjC _ _ x6 y6 w6 (zaa (HU6.out.later HT.out.b)) (zaa (HV6.out.later HT.out.b)) hl.nk hl.k).mono ?_
       rintro e w7 ⟨z,rfl,hz,hb⟩
       have HT:=zaa (HT.out.step hb)
       have HZ:=zaa hz
       clear hb hz
       cases z with
       |false=>as_aux_lemma=>
        have HN:=zaa (show¬p_ from fun h=>absurd (congrArg zbR.causes (hp_.out.1 h)) (fun h=>by cases HZ.out.2 h))
        clear HZ hp_
        go_wp2_with fail
        go_ret
        exact zau.mk false rfl ⟨(fun h=>by cases h),fun h=>absurd h HN.out⟩ HT.out.b
       |true=>
        have e_:=HZ.out.1 rfl
        clear HZ
        subst e_
        obtain⟨a0,a1,a2,a3,a4,a5,a6,a7⟩:=zaI HT.out.x
        obtain⟨b0,b1,b2,b3,b4,b5,b6,b7⟩:=zaI HT.out.y
        go_wp2_with fail
        clear a0 b0 a1 b1 a2 b2 a3 b3 a4 b4 a5 b5 a6 b6 a7 b7
        refine(zmT _ _ x7 y7 w7 (zaa (HU7.out.later HT.out.b)) (zaa (HV7.out.later HT.out.b)) hl.nr).mono ?_
        rintro e w8 ⟨z,rfl,hz,hb⟩
        have HT:=zaa (HT.out.step hb)
        have HZ:=zaa hz
        clear hb hz
        cases z with
        |false=>as_aux_lemma=>
         have HN:=zaa (show¬p_ from fun h=>absurd (congrArg zbR.versions (hp_.out.1 h)) (fun h=>by cases HZ.out.2 h))
         clear HZ hp_
         go_wp2_with fail
         go_ret
         exact zau.mk false rfl ⟨(fun h=>by cases h),fun h=>absurd h HN.out⟩ HT.out.b
        |true=>
         have e_:=HZ.out.1 rfl
         clear HZ
         subst e_
         go_wp2_with fail
         go_ret
         exact zau.mk true rfl ⟨fun _=>hp_.out.2 (by first|rfl|trivial),fun _=>rfl⟩ HT.out.b
end Go.Proofs.YtgbfaompondolaaGreatDoor
namespace Go.Proofs.YtgbfaompondolaaGreatDoor
open Go.RowKit
attribute [local go_sem] zal.cell
theorem zf9 (x:zbR) (G:Nat→Prop) (us vs:List Value) (W:World) (ha:Hid (zeM W G us x)) (hb:Hid (zab W (fun _=>True) vs x.cells)) (hf:zdE x) (hl:zoR x):
 Calls Tryz.prog 15 #[.agg us.toArray,.agg vs.toArray] W fun e w'=>e= .returned (.bool true)∧Below W.heap.size W w':=by
 have HS:=zaa (fun w (hw:Below W.heap.size W w)=>(zlz x x True (zaa ⟨fun _=>rfl,fun _=>trivial⟩) us vs w (zaa (zab.below (zcH.dat _ _ _ _ ha.out) hw)) (zaa (zab.below hb.out hw)) hf).mono (fun _ _ h=>zau.yes trivial h))
 obtain⟨u0,u1,u2,u3,u4,u5,u6,u7,rfl,hu0,hu1,hu2,hu3,hu4,hu5,hu6,hu7⟩:=ha.out
 have HU0:=zaa hu0
 obtain⟨g0,c0,heq0⟩: ∃g c,u0= .slice (some ⟨g,0,none⟩) x.modules.length c:=by obtain⟨g,c,rows,e, -⟩:=hu0;exact⟨g,c,e⟩
 subst heq0
 clear hu0
 have HU1:=zaa hu1
 obtain⟨g1,c1,heq1⟩: ∃g c,u1= .slice (some ⟨g,0,none⟩) x.channels.length c:=by obtain⟨g,c,rows,e, -⟩:=hu1;exact⟨g,c,e⟩
 subst heq1
 clear hu1
 have HU2:=zaa hu2
 obtain⟨g2,c2,heq2⟩: ∃g c,u2= .slice (some ⟨g,0,none⟩) x.switches.length c:=by obtain⟨g,c,rows,e, -⟩:=hu2;exact⟨g,c,e⟩
 subst heq2
 clear hu2
 have HU3:=zaa hu3
 obtain⟨g3,c3,heq3⟩: ∃g c,u3= .slice (some ⟨g,0,none⟩) x.links.length c:=by obtain⟨g,c,rows,e, -⟩:=hu3;exact⟨g,c,e⟩
 subst heq3
 clear hu3
 have HU4:=zaa hu4
 obtain⟨g4,c4,heq4⟩: ∃g c,u4= .slice (some ⟨g,0,none⟩) x.vls.length c:=by obtain⟨g,c,rows,e, -⟩:=hu4;exact⟨g,c,e⟩
 subst heq4
 clear hu4
 have HU5:=zaa hu5
 obtain⟨g5,c5,heq5⟩: ∃g c,u5= .slice (some ⟨g,0,none⟩) x.health.length c:=by obtain⟨g,c,rows,e, -⟩:=hu5;exact⟨g,c,e⟩
 subst heq5
 clear hu5
 have HU6:=zaa hu6
 obtain⟨g6,c6,heq6⟩: ∃g c,u6= .slice (some ⟨g,0,none⟩) x.causes.length c:=by obtain⟨g,c,rows,e, -⟩:=hu6;exact⟨g,c,e⟩
 subst heq6
 clear hu6
 have HU7:=zaa hu7
 obtain⟨g7,c7,heq7⟩: ∃g c,u7= .slice (some ⟨g,0,none⟩) x.versions.length c:=by obtain⟨g,c,rows,e, -⟩:=hu7;exact⟨g,c,e⟩
 subst heq7
 clear hu7
 have hd:=hb.out
 obtain⟨v0,v1,v2,v3,v4,v5,v6,v7,rfl,h0,h1,h2,h3,h4,h5,h6,h7⟩:=dc8 hd
 have HV0:=zaa h0
 obtain⟨A0,p0,rfl, -⟩:=h0.slice
 simp only[List.length_map] at HV0 HS ⊢
 have HV1:=zaa h1
 obtain⟨A1,p1,rfl, -⟩:=h1.slice
 simp only[List.length_map] at HV1 HS ⊢
 have HV2:=zaa h2
 obtain⟨A2,p2,rfl, -⟩:=h2.slice
 simp only[List.length_map] at HV2 HS ⊢
 have HV3:=zaa h3
 obtain⟨A3,p3,rfl, -⟩:=h3.slice
 simp only[List.length_map] at HV3 HS ⊢
 have HV4:=zaa h4
 obtain⟨A4,p4,rfl, -⟩:=h4.slice
 simp only[List.length_map] at HV4 HS ⊢
 have HV5:=zaa h5
 obtain⟨A5,p5,rfl, -⟩:=h5.slice
 simp only[List.length_map] at HV5 HS ⊢
 have HV6:=zaa h6
 obtain⟨A6,p6,rfl, -⟩:=h6.slice
 simp only[List.length_map] at HV6 HS ⊢
 have HV7:=zaa h7
 obtain⟨A7,p7,rfl, -⟩:=h7.slice
 simp only[List.length_map] at HV7 HS ⊢
 clear ha hb hd h0 h1 h2 h3 h4 h5 h6 h7
 have HT:=zaa (zbp W (.cells #[.slice (some ⟨g0,0,none⟩) x.modules.length c0,.slice (some ⟨g1,0,none⟩) x.channels.length c1,.slice (some ⟨g2,0,none⟩) x.switches.length c2,.slice (some ⟨g3,0,none⟩) x.links.length c3,.slice (some ⟨g4,0,none⟩) x.vls.length c4,.slice (some ⟨g5,0,none⟩) x.health.length c5,.slice (some ⟨g6,0,none⟩) x.causes.length c6,.slice (some ⟨g7,0,none⟩) x.versions.length c7] 31) (.cells #[.slice A0 x.modules.length p0,.slice A1 x.channels.length p1,.slice A2 x.switches.length p2,.slice A3 x.links.length p3,.slice A4 x.vls.length p4,.slice A5 x.health.length p5,.slice A6 x.causes.length p6,.slice A7 x.versions.length p7] 31))
 have hzz:(W.alloc (.cells #[.slice (some ⟨g0,0,none⟩) x.modules.length c0,.slice (some ⟨g1,0,none⟩) x.channels.length c1,.slice (some ⟨g2,0,none⟩) x.switches.length c2,.slice (some ⟨g3,0,none⟩) x.links.length c3,.slice (some ⟨g4,0,none⟩) x.vls.length c4,.slice (some ⟨g5,0,none⟩) x.health.length c5,.slice (some ⟨g6,0,none⟩) x.causes.length c6,.slice (some ⟨g7,0,none⟩) x.versions.length c7] 31)).heap.size=W.heap.size+1:=by simp
 go_enter Tryz.func15,Tryz.ntmps15
 go_wp2_with fail
 (try rw[hzz])
 clear hzz
 generalize(W.alloc _).alloc _=w0 at *
 obtain⟨a0,a1,a2,a3,a4,a5,a6,a7⟩:=zaI HT.out.x
 obtain⟨b0,b1,b2,b3,b4,b5,b6,b7⟩:=zaI HT.out.y
 go_wp2_with fail
 clear a0 b0 a1 b1 a2 b2 a3 b3 a4 b4 a5 b5 a6 b6 a7 b7
 refine(HS.out w0 HT.out.b).mono ?_
 rintro e w1 ⟨rfl,hb⟩
 have HT:=zaa (HT.out.step hb)
 clear hb HS
 obtain⟨a0,a1,a2,a3,a4,a5,a6,a7⟩:=zaI HT.out.x
 obtain⟨b0,b1,b2,b3,b4,b5,b6,b7⟩:=zaI HT.out.y
 go_wp2_with fail
 clear a0 b0 a1 b1 a2 b2 a3 b3 a4 b4 a5 b5 a6 b6 a7 b7
 refine(zli _ G g0 c0 x.modules w1 (zaa (HV0.out.later HT.out.b)) (hl.m) hf.m (hl.mm) (zaa (HU0.out.below za6 HT.out.b))).mono ?_
 rintro e w2 ⟨rfl,hb⟩
 have HT:=zaa (HT.out.step hb)
 clear hb
 obtain⟨a0,a1,a2,a3,a4,a5,a6,a7⟩:=zaI HT.out.x
 obtain⟨b0,b1,b2,b3,b4,b5,b6,b7⟩:=zaI HT.out.y
 go_wp2_with fail
 clear a0 b0 a1 b1 a2 b2 a3 b3 a4 b4 a5 b5 a6 b6 a7 b7
 refine(ziC _ G g1 c1 x.channels w2 (zaa (HV1.out.later HT.out.b)) (hl.c) hf.c (hl.cc) (zaa (HU1.out.below zaQ HT.out.b))).mono ?_
 rintro e w3 ⟨rfl,hb⟩
 have HT:=zaa (HT.out.step hb)
 clear hb
 obtain⟨a0,a1,a2,a3,a4,a5,a6,a7⟩:=zaI HT.out.x
 obtain⟨b0,b1,b2,b3,b4,b5,b6,b7⟩:=zaI HT.out.y
 go_wp2_with fail
 clear a0 b0 a1 b1 a2 b2 a3 b3 a4 b4 a5 b5 a6 b6 a7 b7
 refine(zmd _ G g2 c2 x.switches w3 (zaa (HV2.out.later HT.out.b)) (hl.s) (zaa (HU2.out.below zcW HT.out.b))).mono ?_
 rintro e w4 ⟨rfl,hb⟩
 have HT:=zaa (HT.out.step hb)
 clear hb
 obtain⟨a0,a1,a2,a3,a4,a5,a6,a7⟩:=zaI HT.out.x
 obtain⟨b0,b1,b2,b3,b4,b5,b6,b7⟩:=zaI HT.out.y
 go_wp2_with fail
 clear a0 b0 a1 b1 a2 b2 a3 b3 a4 b4 a5 b5 a6 b6 a7 b7
 refine(ziM _ G g3 c3 x.links w4 (zaa (HV3.out.later HT.out.b)) (hl.l) (zaa (HU3.out.below zbx HT.out.b))).mono ?_
 rintro e w5 ⟨rfl,hb⟩
 have HT:=zaa (HT.out.step hb)
 clear hb
 obtain⟨a0,a1,a2,a3,a4,a5,a6,a7⟩:=zaI HT.out.x
 obtain⟨b0,b1,b2,b3,b4,b5,b6,b7⟩:=zaI HT.out.y
 go_wp2_with fail
 clear a0 b0 a1 b1 a2 b2 a3 b3 a4 b4 a5 b5 a6 b6 a7 b7
 refine(zlH _ G g4 c4 x.vls w5 (zaa (HV4.out.later HT.out.b)) (hl.v) hf.v (hl.vv) (zaa (HU4.out.below zcb HT.out.b))).mono ?_
 rintro e w6 ⟨rfl,hb⟩
 have HT:=zaa (HT.out.step hb)
 clear hb
 obtain⟨a0,a1,a2,a3,a4,a5,a6,a7⟩:=zaI HT.out.x
 obtain⟨b0,b1,b2,b3,b4,b5,b6,b7⟩:=zaI HT.out.y
 go_wp2_with fail
 clear a0 b0 a1 b1 a2 b2 a3 b3 a4 b4 a5 b5 a6 b6 a7 b7
 refine(zgJ _ G g5 c5 x.health w6 (zaa (HV5.out.later HT.out.b)) (hl.h) (zaa (HU5.out.below zbc HT.out.b))).mono ?_
 rintro e w7 ⟨rfl,hb⟩
 have HT:=zaa (HT.out.step hb)
 clear hb
 obtain⟨a0,a1,a2,a3,a4,a5,a6,a7⟩:=zaI HT.out.x
 obtain⟨b0,b1,b2,b3,b4,b5,b6,b7⟩:=zaI HT.out.y
 go_wp2_with fail
 clear a0 b0 a1 b1 a2 b2 a3 b3 a4 b4 a5 b5 a6 b6 a7 b7
 refine(zhX _ G g6 c6 x.causes w7 (zaa (HV6.out.later HT.out.b)) (hl.k) hf.k (hl.kk) (zaa (HU6.out.below zaW HT.out.b))).mono ?_
 rintro e w8 ⟨rfl,hb⟩
 have HT:=zaa (HT.out.step hb)
 clear hb
 obtain⟨a0,a1,a2,a3,a4,a5,a6,a7⟩:=zaI HT.out.x
 obtain⟨b0,b1,b2,b3,b4,b5,b6,b7⟩:=zaI HT.out.y
 go_wp2_with fail
 clear a0 b0 a1 b1 a2 b2 a3 b3 a4 b4 a5 b5 a6 b6 a7 b7
 refine(zkX _ G g7 c7 x.versions w8 (zaa (HV7.out.later HT.out.b)) (hl.r) (zaa (HU7.out.below zdt HT.out.b))).mono ?_
 rintro e w9 ⟨rfl,hb⟩
 have HT:=zaa (HT.out.step hb)
 clear hb
 go_wp2_with fail
 go_ret
 exact⟨rfl,HT.out.b⟩
end Go.Proofs.YtgbfaompondolaaGreatDoor
