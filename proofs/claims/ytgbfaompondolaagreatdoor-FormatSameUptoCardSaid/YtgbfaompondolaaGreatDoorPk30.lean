/- Merged texts of the walks and of the plain laws on which the statement leans.-/
import Derived.Test.YtgbfaompondolaaGreatDoorPk1
import Derived.Test.YtgbfaompondolaaGreatDoorPk29
set_option maxHeartbeats 4000000
set_option maxRecDepth 100000
namespace Go.Proofs.YtgbfaompondolaaGreatDoor
open Go.RowKit
attribute [local go_sem] zal.cell
def zdm:Elt zaM:=fun w G r x=> ∃u4 u7 u8 u9,r=[zaF x.name,.int .i64 x.period,.int .i64 x.length,.int .i64 x.mem,u4,.int .i64 x.events,.int .i64 x.boards,u7,u8,u9]∧LL 1 (zar zc0) (EF zcj) w G u4 x.semas∧LL 1 (zar zc0) (EF zcj) w G u7 x.bufs∧LL 6 (zar zcp) (EF zbP) w G u8 x.ports∧LL 5 (zar zcR) zdo w G u9 x.procs
theorem zbk:zcc zdm 10 zaM.cells where
 keep:=fun _ _ _ _ _ hz hk ⟨u4,u7,u8,u9,e,h4,h7,h8,h9⟩=>⟨u4,u7,u8,u9,e,h4.keep zbi hz hk,h7.keep zbi hz hk,h8.keep zce hz hk,h9.keep zbl hz hk⟩
 mono:=fun _ _ _ _ _ hg ⟨u4,u7,u8,u9,e,h4,h7,h8,h9⟩=>⟨u4,u7,u8,u9,e,h4.mono zbi hg,h7.mono zbi hg,h8.mono zce hg,h9.mono zbl hg⟩
 wide:=fun _ _ _ _ ⟨_,_,_,_,e,_⟩=>by rw[e];rfl
 dat:=fun _ _ _ _ ⟨_,_,_,_,e,h4,h7,h8,h9⟩=>by rw[e];exact zab.cons (.leaf _) (zab.cons (.leaf _) (zab.cons (.leaf _) (zab.cons (.leaf _) (zab.cons (h4.dat zbi) (zab.cons (.leaf _) (zab.cons (.leaf _) (zab.cons (h7.dat zbi) (zab.cons (h8.dat zce) (zab.cons (h9.dat zbl) (zab.nil))))))))))
 one:=fun _ _ _ _ ⟨_,_,_,_,e,h4,h7,h8,h9⟩=>by
  have k:=And.intro h4.one (And.intro h7.one (And.intro h8.one h9.one))
  rw[e]
  intro v hv
  simp only[List.mem_cons,List.not_mem_nil,or_false] at hv
  rcases hv with rfl|rfl|rfl|rfl|rfl|rfl|rfl|rfl|rfl|rfl
  all_goals first|rfl|exact k.1|exact k.2.1|exact k.2.2.1|exact k.2.2.2
theorem zh2 (x:zaM) (us:List Value) (W:World) (hd:Hid (zab W (fun _=>True) us x.cells)) (hl:zeT x):
 Calls Tryz.prog 243 #[.agg us.toArray] W fun e w'=>zdz zdm W x e w':=by
 have hd:=hd.out
 obtain⟨u0,u1,u2,u3,u4,u5,u6,u7,u8,u9,rfl,h0,h1,h2,h3,h4,h5,h6,h7,h8,h9⟩:=zlF hd
 obtain rfl:=h0.leaf_eq
 obtain rfl:=h1.leaf_eq
 obtain rfl:=h2.leaf_eq
 obtain rfl:=h3.leaf_eq
 have HU4:=zaa h4
 obtain⟨A4,p4,rfl, -⟩:=h4.slice
 rw[show(zah x.semas).length=x.semas.length by simp[zah]] at HU4 ⊢
 obtain rfl:=h5.leaf_eq
 obtain rfl:=h6.leaf_eq
 have HU7:=zaa h7
 obtain⟨A7,p7,rfl, -⟩:=h7.slice
 rw[show(zah x.bufs).length=x.bufs.length by simp[zah]] at HU7 ⊢
 have HU8:=zaa h8
 obtain⟨A8,p8,rfl, -⟩:=h8.slice
 simp only[List.length_map] at HU8 ⊢
 have HU9:=zaa h9
 obtain⟨A9,p9,rfl, -⟩:=h9.slice
 simp only[List.length_map] at HU9 ⊢
 clear hd h0 h1 h2 h3 h4 h5 h6 h7 h8 h9
 simp only[zaF]
 have HT:=zaa (zbp W (.cells #[.string ⟨x.name.toArray⟩,.int .i64 x.period,.int .i64 x.length,.int .i64 x.mem,.slice A4 x.semas.length p4,.int .i64 x.events,.int .i64 x.boards,.slice A7 x.bufs.length p7,.slice A8 x.ports.length p8,.slice A9 x.procs.length p9] 49) (.cells #[.string ⟨#[]⟩,.int .i64 0,.int .i64 0,.int .i64 0,.slice none 0 0,.int .i64 0,.int .i64 0,.slice none 0 0,.slice none 0 0,.slice none 0 0] 49))
 have hzz:(W.alloc (.cells #[.string ⟨x.name.toArray⟩,.int .i64 x.period,.int .i64 x.length,.int .i64 x.mem,.slice A4 x.semas.length p4,.int .i64 x.events,.int .i64 x.boards,.slice A7 x.bufs.length p7,.slice A8 x.ports.length p8,.slice A9 x.procs.length p9] 49)).heap.size=W.heap.size+1:=by simp
 go_enter Tryz.func243,Tryz.ntmps243
 go_wp2_with fail
 (try rw[hzz])
 clear hzz
 generalize(W.alloc _).alloc _=w0 at *
 have hs0:=(zaJ HT.out.y)
 refine(zg0 _ x.semas w0 (zaa (HU4.out.later HT.out.b)) hl.1).mono ?_
 rintro e w1 ⟨u4,rfl,hu,hb⟩
 have HT:=zaa (HT.out.step hb)
 have HL4:=zaa (hu.mono zbi (H:=fun b=>W.heap.size+2≤b) (fun b hb _=>by have h2:w0.heap.size≤b:=hb;omega))
 have hs0:=(zaJ HT.out.y)
 obtain⟨g4,c4,heq4⟩: ∃g c,u4= .slice (some ⟨g,0,none⟩) x.semas.length c:=by obtain⟨g,c,rows,e, -⟩:=hu;exact⟨g,c,e⟩
 subst heq4
 clear hb hu
 obtain⟨a0,a1,a2,a3,a4,a5,a6,a7,a8,a9⟩:=zaX HT.out.x
 have fz:=frozen_of_row _ _ 4 _ _ HT.out.x
 have hlx:=(zaJ HT.out.x)
 go_upto_region 2 with fail
 clear fz hlx a0 a1 a2 a3 a4 a5 a6 a7 a8 a9
 have HT:Hid (Two W W.heap.size (.cells #[.string ⟨x.name.toArray⟩,.int .i64 x.period,.int .i64 x.length,.int .i64 x.mem,.slice (some ⟨g4,0,none⟩) x.semas.length c4,.int .i64 x.events,.int .i64 x.boards,.slice A7 x.bufs.length p7,.slice A8 x.ports.length p8,.slice A9 x.procs.length p9] 49) (W.heap.size+1) (.cells #[.string ⟨#[]⟩,.int .i64 0,.int .i64 0,.int .i64 0,.slice none 0 0,.int .i64 0,.int .i64 0,.slice none 0 0,.slice none 0 0,.slice none 0 0] 49) (w1.setCell ⟨W.heap.size,4,none⟩ (.slice (some ⟨g4,0,none⟩) x.semas.length c4))):=zaa (HT.out.put (j:=4) (by omega) (Nat.le_refl _) _)
 have HL4:=zaa (HL4.out.keep zbi (w':=w1.setCell ⟨W.heap.size,4,none⟩ (.slice (some ⟨g4,0,none⟩) x.semas.length c4)) (by simp[World.setCell]) (fun b hb _=>Below.heap_setCell _ _ _ _ (by show b≠W.heap.size;have h2:W.heap.size+2≤b:=hb;omega)))
 clear hs0
 generalize w1.setCell ⟨W.heap.size,4,none⟩ (.slice (some ⟨g4,0,none⟩) x.semas.length c4)=w2 at *
 have hs0:=(zaJ HT.out.y)
 obtain⟨a0,a1,a2,a3,a4,a5,a6,a7,a8,a9⟩:=zaX HT.out.x
 go_wp2_with fail
 clear a0 a1 a2 a3 a4 a5 a6 a7 a8 a9
 refine(zg0 _ x.bufs w2 (zaa (HU7.out.later HT.out.b)) hl.2.1).mono ?_
 rintro e w3 ⟨u7,rfl,hu,hb⟩
 have HT:=zaa (HT.out.step hb)
 have HL7:=zaa (hu.mono zbi (H:=fun b=>W.heap.size+2≤b) (fun b hb _=>by have h2:w2.heap.size≤b:=hb;omega))
 have hs0:=(zaJ HT.out.y)
 obtain⟨g7,c7,heq7⟩: ∃g c,u7= .slice (some ⟨g,0,none⟩) x.bufs.length c:=by obtain⟨g,c,rows,e, -⟩:=hu;exact⟨g,c,e⟩
 subst heq7
 have HL4:=zaa (HL4.out.below zbi hb)
 clear hb hu
 obtain⟨a0,a1,a2,a3,a4,a5,a6,a7,a8,a9⟩:=zaX HT.out.x
 have fz:=frozen_of_row _ _ 7 _ _ HT.out.x
 have hlx:=(zaJ HT.out.x)
 go_upto_region 3 with fail
 clear fz hlx a0 a1 a2 a3 a4 a5 a6 a7 a8 a9
 have HT:Hid (Two W W.heap.size (.cells #[.string ⟨x.name.toArray⟩,.int .i64 x.period,.int .i64 x.length,.int .i64 x.mem,.slice (some ⟨g4,0,none⟩) x.semas.length c4,.int .i64 x.events,.int .i64 x.boards,.slice (some ⟨g7,0,none⟩) x.bufs.length c7,.slice A8 x.ports.length p8,.slice A9 x.procs.length p9] 49) (W.heap.size+1) (.cells #[.string ⟨#[]⟩,.int .i64 0,.int .i64 0,.int .i64 0,.slice none 0 0,.int .i64 0,.int .i64 0,.slice none 0 0,.slice none 0 0,.slice none 0 0] 49) (w3.setCell ⟨W.heap.size,7,none⟩ (.slice (some ⟨g7,0,none⟩) x.bufs.length c7))):=zaa (HT.out.put (j:=7) (by omega) (Nat.le_refl _) _)
 have HL4:=zaa (HL4.out.keep zbi (w':=w3.setCell ⟨W.heap.size,7,none⟩ (.slice (some ⟨g7,0,none⟩) x.bufs.length c7)) (by simp[World.setCell]) (fun b hb _=>Below.heap_setCell _ _ _ _ (by show b≠W.heap.size;have h2:W.heap.size+2≤b:=hb;omega)))
 have HL7:=zaa (HL7.out.keep zbi (w':=w3.setCell ⟨W.heap.size,7,none⟩ (.slice (some ⟨g7,0,none⟩) x.bufs.length c7)) (by simp[World.setCell]) (fun b hb _=>Below.heap_setCell _ _ _ _ (by show b≠W.heap.size;have h2:W.heap.size+2≤b:=hb;omega)))
 clear hs0
 generalize w3.setCell ⟨W.heap.size,7,none⟩ (.slice (some ⟨g7,0,none⟩) x.bufs.length c7)=w4 at *
 have hs0:=(zaJ HT.out.y)
 obtain⟨a0,a1,a2,a3,a4,a5,a6,a7,a8,a9⟩:=zaX HT.out.x
 go_wp2_with fail
 clear a0 a1 a2 a3 a4 a5 a6 a7 a8 a9
 refine(ziy _ x.ports w4 (zaa (HU8.out.later HT.out.b)) hl.2.2.1).mono ?_
 rintro e w5 ⟨u8,rfl,hu,hb⟩
 have HT:=zaa (HT.out.step hb)
 have HL8:=zaa (hu.mono zce (H:=fun b=>W.heap.size+2≤b) (fun b hb _=>by have h2:w4.heap.size≤b:=hb;omega))
 have hs0:=(zaJ HT.out.y)
 obtain⟨g8,c8,heq8⟩: ∃g c,u8= .slice (some ⟨g,0,none⟩) x.ports.length c:=by obtain⟨g,c,rows,e, -⟩:=hu;exact⟨g,c,e⟩
 subst heq8
 have HL4:=zaa (HL4.out.below zbi hb)
 have HL7:=zaa (HL7.out.below zbi hb)
 clear hb hu
 obtain⟨a0,a1,a2,a3,a4,a5,a6,a7,a8,a9⟩:=zaX HT.out.x
 have fz:=frozen_of_row _ _ 8 _ _ HT.out.x
 have hlx:=(zaJ HT.out.x)
 go_upto_region 4 with fail
 clear fz hlx a0 a1 a2 a3 a4 a5 a6 a7 a8 a9
 have HT:Hid (Two W W.heap.size (.cells #[.string ⟨x.name.toArray⟩,.int .i64 x.period,.int .i64 x.length,.int .i64 x.mem,.slice (some ⟨g4,0,none⟩) x.semas.length c4,.int .i64 x.events,.int .i64 x.boards,.slice (some ⟨g7,0,none⟩) x.bufs.length c7,.slice (some ⟨g8,0,none⟩) x.ports.length c8,.slice A9 x.procs.length p9] 49) (W.heap.size+1) (.cells #[.string ⟨#[]⟩,.int .i64 0,.int .i64 0,.int .i64 0,.slice none 0 0,.int .i64 0,.int .i64 0,.slice none 0 0,.slice none 0 0,.slice none 0 0] 49) (w5.setCell ⟨W.heap.size,8,none⟩ (.slice (some ⟨g8,0,none⟩) x.ports.length c8))):=zaa (HT.out.put (j:=8) (by omega) (Nat.le_refl _) _)
 have HL4:=zaa (HL4.out.keep zbi (w':=w5.setCell ⟨W.heap.size,8,none⟩ (.slice (some ⟨g8,0,none⟩) x.ports.length c8)) (by simp[World.setCell]) (fun b hb _=>Below.heap_setCell _ _ _ _ (by show b≠W.heap.size;have h2:W.heap.size+2≤b:=hb;omega)))
 have HL7:=zaa (HL7.out.keep zbi (w':=w5.setCell ⟨W.heap.size,8,none⟩ (.slice (some ⟨g8,0,none⟩) x.ports.length c8)) (by simp[World.setCell]) (fun b hb _=>Below.heap_setCell _ _ _ _ (by show b≠W.heap.size;have h2:W.heap.size+2≤b:=hb;omega)))
 have HL8:=zaa (HL8.out.keep zce (w':=w5.setCell ⟨W.heap.size,8,none⟩ (.slice (some ⟨g8,0,none⟩) x.ports.length c8)) (by simp[World.setCell]) (fun b hb _=>Below.heap_setCell _ _ _ _ (by show b≠W.heap.size;have h2:W.heap.size+2≤b:=hb;omega)))
 clear hs0
 generalize w5.setCell ⟨W.heap.size,8,none⟩ (.slice (some ⟨g8,0,none⟩) x.ports.length c8)=w6 at *
 have hs0:=(zaJ HT.out.y)
 obtain⟨a0,a1,a2,a3,a4,a5,a6,a7,a8,a9⟩:=zaX HT.out.x
 go_wp2_with fail
 clear a0 a1 a2 a3 a4 a5 a6 a7 a8 a9
 refine(ziN _ x.procs w6 (zaa (HU9.out.later HT.out.b)) hl.2.2.2.1 hl.2.2.2.2).mono ?_
 rintro e w7 ⟨u9,rfl,hu,hb⟩
 have HT:=zaa (HT.out.step hb)
 have HL9:=zaa (hu.mono zbl (H:=fun b=>W.heap.size+2≤b) (fun b hb _=>by have h2:w6.heap.size≤b:=hb;omega))
 have hs0:=(zaJ HT.out.y)
 obtain⟨g9,c9,heq9⟩: ∃g c,u9= .slice (some ⟨g,0,none⟩) x.procs.length c:=by obtain⟨g,c,rows,e, -⟩:=hu;exact⟨g,c,e⟩
 subst heq9
 have HL4:=zaa (HL4.out.below zbi hb)
 have HL7:=zaa (HL7.out.below zbi hb)
 have HL8:=zaa (HL8.out.below zce hb)
 clear hb hu
 obtain⟨a0,a1,a2,a3,a4,a5,a6,a7,a8,a9⟩:=zaX HT.out.x
 have fz:=frozen_of_row _ _ 9 _ _ HT.out.x
 have hlx:=(zaJ HT.out.x)
 go_upto_region 5 with fail
 clear fz hlx a0 a1 a2 a3 a4 a5 a6 a7 a8 a9
 have HT:Hid (Two W W.heap.size (.cells #[.string ⟨x.name.toArray⟩,.int .i64 x.period,.int .i64 x.length,.int .i64 x.mem,.slice (some ⟨g4,0,none⟩) x.semas.length c4,.int .i64 x.events,.int .i64 x.boards,.slice (some ⟨g7,0,none⟩) x.bufs.length c7,.slice (some ⟨g8,0,none⟩) x.ports.length c8,.slice (some ⟨g9,0,none⟩) x.procs.length c9] 49) (W.heap.size+1) (.cells #[.string ⟨#[]⟩,.int .i64 0,.int .i64 0,.int .i64 0,.slice none 0 0,.int .i64 0,.int .i64 0,.slice none 0 0,.slice none 0 0,.slice none 0 0] 49) (w7.setCell ⟨W.heap.size,9,none⟩ (.slice (some ⟨g9,0,none⟩) x.procs.length c9))):=zaa (HT.out.put (j:=9) (by omega) (Nat.le_refl _) _)
 have HL4:=zaa (HL4.out.keep zbi (w':=w7.setCell ⟨W.heap.size,9,none⟩ (.slice (some ⟨g9,0,none⟩) x.procs.length c9)) (by simp[World.setCell]) (fun b hb _=>Below.heap_setCell _ _ _ _ (by show b≠W.heap.size;have h2:W.heap.size+2≤b:=hb;omega)))
 have HL7:=zaa (HL7.out.keep zbi (w':=w7.setCell ⟨W.heap.size,9,none⟩ (.slice (some ⟨g9,0,none⟩) x.procs.length c9)) (by simp[World.setCell]) (fun b hb _=>Below.heap_setCell _ _ _ _ (by show b≠W.heap.size;have h2:W.heap.size+2≤b:=hb;omega)))
 have HL8:=zaa (HL8.out.keep zce (w':=w7.setCell ⟨W.heap.size,9,none⟩ (.slice (some ⟨g9,0,none⟩) x.procs.length c9)) (by simp[World.setCell]) (fun b hb _=>Below.heap_setCell _ _ _ _ (by show b≠W.heap.size;have h2:W.heap.size+2≤b:=hb;omega)))
 have HL9:=zaa (HL9.out.keep zbl (w':=w7.setCell ⟨W.heap.size,9,none⟩ (.slice (some ⟨g9,0,none⟩) x.procs.length c9)) (by simp[World.setCell]) (fun b hb _=>Below.heap_setCell _ _ _ _ (by show b≠W.heap.size;have h2:W.heap.size+2≤b:=hb;omega)))
 clear hs0
 generalize w7.setCell ⟨W.heap.size,9,none⟩ (.slice (some ⟨g9,0,none⟩) x.procs.length c9)=w8 at *
 have hs0:=(zaJ HT.out.y)
 obtain⟨a0,a1,a2,a3,a4,a5,a6,a7,a8,a9⟩:=zaX HT.out.x
 obtain⟨b0,b1,b2,b3,b4,b5,b6,b7,b8,b9⟩:=zaX HT.out.y
 have f0:=frozen_of_row _ _ 0 _ _ HT.out.y
 have f1:=frozen_of_row _ _ 1 _ _ HT.out.y
 have f2:=frozen_of_row _ _ 2 _ _ HT.out.y
 have f3:=frozen_of_row _ _ 3 _ _ HT.out.y
 have f4:=frozen_of_row _ _ 4 _ _ HT.out.y
 have f5:=frozen_of_row _ _ 5 _ _ HT.out.y
 have f6:=frozen_of_row _ _ 6 _ _ HT.out.y
 have f7:=frozen_of_row _ _ 7 _ _ HT.out.y
 have f8:=frozen_of_row _ _ 8 _ _ HT.out.y
 have f9:=frozen_of_row _ _ 9 _ _ HT.out.y
 have hlx:=(zaJ HT.out.x)
 go_wp2_with fail
 refine bodyPost_ret (v:= .agg #[.string ⟨x.name.toArray⟩,.int .i64 x.period,.int .i64 x.length,.int .i64 x.mem,.slice (some ⟨g4,0,none⟩) x.semas.length c4,.int .i64 x.events,.int .i64 x.boards,.slice (some ⟨g7,0,none⟩) x.bufs.length c7,.slice (some ⟨g8,0,none⟩) x.ports.length c8,.slice (some ⟨g9,0,none⟩) x.procs.length c9]) (by simp[results,Tryz.results243,go_sem,b0,b1,b2,b3,b4,b5,b6,b7,b8,b9]) rfl ?_
 refine zdz.mk [.string ⟨x.name.toArray⟩,.int .i64 x.period,.int .i64 x.length,.int .i64 x.mem,.slice (some ⟨g4,0,none⟩) x.semas.length c4,.int .i64 x.events,.int .i64 x.boards,.slice (some ⟨g7,0,none⟩) x.bufs.length c7,.slice (some ⟨g8,0,none⟩) x.ports.length c8,.slice (some ⟨g9,0,none⟩) x.procs.length c9] rfl ⟨_,_,_,_,rfl,?_,?_,?_,?_⟩ ?_
 ·refine((HL4.out.keep zbi (by simp[World.setCell]) (fun b hb _=> ?_)).mono zbi (fun b hb _=>by have h2:W.heap.size+2≤b:=hb;omega))
  have h2:W.heap.size+2≤b:=hb
  iterate 10 (refine(Below.heap_setCell _ _ _ _ (by show b≠W.heap.size+1;omega)).trans ?_)
  rfl
 ·refine((HL7.out.keep zbi (by simp[World.setCell]) (fun b hb _=> ?_)).mono zbi (fun b hb _=>by have h2:W.heap.size+2≤b:=hb;omega))
  have h2:W.heap.size+2≤b:=hb
  iterate 10 (refine(Below.heap_setCell _ _ _ _ (by show b≠W.heap.size+1;omega)).trans ?_)
  rfl
 ·refine((HL8.out.keep zce (by simp[World.setCell]) (fun b hb _=> ?_)).mono zce (fun b hb _=>by have h2:W.heap.size+2≤b:=hb;omega))
  have h2:W.heap.size+2≤b:=hb
  iterate 10 (refine(Below.heap_setCell _ _ _ _ (by show b≠W.heap.size+1;omega)).trans ?_)
  rfl
 ·refine((HL9.out.keep zbl (by simp[World.setCell]) (fun b hb _=> ?_)).mono zbl (fun b hb _=>by have h2:W.heap.size+2≤b:=hb;omega))
  have h2:W.heap.size+2≤b:=hb
  iterate 10 (refine(Below.heap_setCell _ _ _ _ (by show b≠W.heap.size+1;omega)).trans ?_)
  rfl
 ·exact((((((((((HT.out.b.setCell (p:=⟨W.heap.size+1,0,none⟩) (by show W.heap.size≤W.heap.size+1;omega) _).setCell (p:=⟨W.heap.size+1,1,none⟩) (by show W.heap.size≤W.heap.size+1;omega) _).setCell (p:=⟨W.heap.size+1,2,none⟩) (by show W.heap.size≤W.heap.size+1;omega) _).setCell (p:=⟨W.heap.size+1,3,none⟩) (by show W.heap.size≤W.heap.size+1;omega) _).setCell (p:=⟨W.heap.size+1,4,none⟩) (by show W.heap.size≤W.heap.size+1;omega) _).setCell (p:=⟨W.heap.size+1,5,none⟩) (by show W.heap.size≤W.heap.size+1;omega) _).setCell (p:=⟨W.heap.size+1,6,none⟩) (by show W.heap.size≤W.heap.size+1;omega) _).setCell (p:=⟨W.heap.size+1,7,none⟩) (by show W.heap.size≤W.heap.size+1;omega) _).setCell (p:=⟨W.heap.size+1,8,none⟩) (by show W.heap.size≤W.heap.size+1;omega) _).setCell (p:=⟨W.heap.size+1,9,none⟩) (by show W.heap.size≤W.heap.size+1;omega) _)
theorem zgR:(Tryz.prog.info? 49).map (fun i=>(i.zero,i.size,i.bytes))=some (some (.agg #[.string ⟨#[]⟩,.int .i64 0,.int .i64 0,.int .i64 0,.slice none 0 0,.int .i64 0,.int .i64 0,.slice none 0 0,.slice none 0 0,.slice none 0 0]),10,152):=by kernel_rfl
def zcV (i:Nat):List Value:=[.string ⟨#[]⟩,.int .i64 (mkI 1 (i:Int)),.int .i64 0,.int .i64 0,.slice none 0 0,.int .i64 0,.int .i64 0,.slice none 0 0,.slice none 0 0,.slice none 0 0]
theorem zmu (n:Nat) (h:n≤1000000) (W:World):(Instr.makeSlice 42 (.int .i64 0) (.int .i64 ((n:Int)+12))).run Tryz.prog W= .ok (.slice (some ⟨W.heap.size,0,none⟩) 0 (n+12)) (W.alloc (.cells (madeCells (Value.cells (.agg #[.string ⟨#[]⟩,.int .i64 0,.int .i64 0,.int .i64 0,.slice none 0 0,.int .i64 0,.int .i64 0,.slice none 0 0,.slice none 0 0,.slice none 0 0])) ((n+12)*10)) 49)):=by
 obtain⟨i0,hi,hz0,hz1,hz2⟩:=info_parts zgR
 have:=run_make (P:=Tryz.prog) W 42 49 i0 (.agg #[.string ⟨#[]⟩,.int .i64 0,.int .i64 0,.int .i64 0,.slice none 0 0,.int .i64 0,.int .i64 0,.slice none 0 0,.slice none 0 0,.slice none 0 0]) Tryz.underlying42 hi hz0 .i64 .i64 0 ((n:Int)+12) (by omega) (by omega) (by rw[hz2];omega) (by omega)
 rw[hz1,show((n:Int)+12).toNat=n+12 by omega] at this
 exact this
theorem zix (v:Value) (l:List zaM) (w:World) (hv:Hid (DAt w (fun _=>True) v (.row 10 (l.map zaM.cells)))) (hn:l.length≤1000000) (hl: ∀x∈l,zeT x):
 Calls Tryz.prog 193 #[v] w fun e w'=>zbL 10 (zar zcV) zdm w l e w':=by
 obtain⟨i0,hi0,hz0,hz1,hz2⟩:=info_parts zgR
 obtain⟨A,q,rfl,hA⟩:=hv.out.slice
 have HA:=zaa hA
 rw[List.length_map] at hv ⊢
 have hmk:=fun W=>zmu l.length hn W
 have HOW0:Hid ((w.alloc (.cells (madeCells #[.string ⟨#[]⟩,.int .i64 0,.int .i64 0,.int .i64 0,.slice none 0 0,.int .i64 0,.int .i64 0,.slice none 0 0,.slice none 0 0,.slice none 0 0] ((l.length+12)*10)) 49)).ownsRow w.heap.size 49 10 (.slice (some ⟨w.heap.size,0,none⟩) 0 (l.length+12)) 0 []):=zaa (World.ownsRow_made (base:=w.heap.size) (e:=49) (size:=10) w (madeCells #[.string ⟨#[]⟩,.int .i64 0,.int .i64 0,.int .i64 0,.slice none 0 0,.int .i64 0,.int .i64 0,.slice none 0 0,.slice none 0 0,.slice none 0 0] ((l.length+12)*10)) (l.length+12) (Nat.le_refl _) (by unfold maxLen;omega) (by simp[madeCells]))
 have HB0:=zaa ((Below.refl w.heap.size w).alloc (Nat.le_refl _) (.cells (madeCells #[.string ⟨#[]⟩,.int .i64 0,.int .i64 0,.int .i64 0,.slice none 0 0,.int .i64 0,.int .i64 0,.slice none 0 0,.slice none 0 0,.slice none 0 0] ((l.length+12)*10)) 49))
 clear hA hv
 go_enter Tryz.func193,Tryz.ntmps193
 go_wp2_with fail
 generalize w.alloc (.cells (madeCells #[.string ⟨#[]⟩,.int .i64 0,.int .i64 0,.int .i64 0,.slice none 0 0,.int .i64 0,.int .i64 0,.slice none 0 0,.slice none 0 0,.slice none 0 0] ((l.length+12)*10)) 49)=w0 at *
 clear hmk
 have HLB0:Hid (LB zdm w0 w.heap.size 49 10 (.slice (some ⟨w.heap.size,0,none⟩) 0 (l.length+12)) l []):=zaa ⟨HOW0.out,fun i r x hr _=>by simp at hr⟩
 clear HOW0
 go_loopw [3,4] (fun v3 v4 wr=> ∃(k:Nat) (rs:List (List Value)),k≤l.length∧v4= .int .i64 k∧rs.length=k∧LB zdm wr w.heap.size 49 10 v3 l rs∧Below w.heap.size w wr) (fun _ v4 _=>l.length-(intOf v4).toNat)
 case atStart=>exact⟨0,[],by omega,rfl,rfl,HLB0.out,HB0.out⟩
 case round=>
  obtain⟨k,rs,hk,rfl,hrl,hlb,hbr⟩:=hrel
  have HLB:=zaa hlb
  have HBR:=zaa hbr
  have HRL:=zaa hrl
  clear hlb hbr hrl HLB0 HB0
  by_cases hlt:k<l.length
  ·skip
   obtain⟨x,hx⟩:=za9 hlt
   have hlx:=hl x (List.mem_of_getElem? hx)
   obtain⟨bA,oA,rfl,hbA,hcaA⟩:=HA.out.at_ hx
   have a0:=zan HBR.out hbA (oA+k*10) (hcaA 0 _ rfl).leafc
   have a1:=zan HBR.out hbA (oA+k*10+1) (hcaA 1 _ rfl).leafc
   have a2:=zan HBR.out hbA (oA+k*10+2) (hcaA 2 _ rfl).leafc
   have a3:=zan HBR.out hbA (oA+k*10+3) (hcaA 3 _ rfl).leafc
   obtain⟨uA4,cA4,gA4⟩:=hcaA 4 _ rfl
   have a4:=zat HBR.out hbA cA4
   have HU4:=zaa gA4
   obtain⟨A4,p4,rfl, -⟩:=gA4.slice
   clear cA4 gA4
   rw[show(zah x.semas).length=x.semas.length by simp[zah]] at HU4 a4
   have a5:=zan HBR.out hbA (oA+k*10+5) (hcaA 5 _ rfl).leafc
   have a6:=zan HBR.out hbA (oA+k*10+6) (hcaA 6 _ rfl).leafc
   obtain⟨uA7,cA7,gA7⟩:=hcaA 7 _ rfl
   have a7:=zat HBR.out hbA cA7
   have HU7:=zaa gA7
   obtain⟨A7,p7,rfl, -⟩:=gA7.slice
   clear cA7 gA7
   rw[show(zah x.bufs).length=x.bufs.length by simp[zah]] at HU7 a7
   obtain⟨uA8,cA8,gA8⟩:=hcaA 8 _ rfl
   have a8:=zat HBR.out hbA cA8
   have HU8:=zaa gA8
   obtain⟨A8,p8,rfl, -⟩:=gA8.slice
   clear cA8 gA8
   simp only[List.length_map] at HU8 a8
   obtain⟨uA9,cA9,gA9⟩:=hcaA 9 _ rfl
   have a9:=zat HBR.out hbA cA9
   have HU9:=zaa gA9
   obtain⟨A9,p9,rfl, -⟩:=gA9.slice
   clear cA9 gA9
   simp only[List.length_map] at HU9 a9
   clear hcaA
   simp only[zaF] at a0
   have k0:=kbZ k l.length
   have HX:=zaa hx
   have HC:=zaa (zh2 x [.string ⟨x.name.toArray⟩,.int .i64 x.period,.int .i64 x.length,.int .i64 x.mem,.slice A4 x.semas.length p4,.int .i64 x.events,.int .i64 x.boards,.slice A7 x.bufs.length p7,.slice A8 x.ports.length p8,.slice A9 x.procs.length p9] wr (zaa (zab.cons (.leaf _) (zab.cons (.leaf _) (zab.cons (.leaf _) (zab.cons (.leaf _) (zab.cons (HU4.out.later HBR.out) (zab.cons (.leaf _) (zab.cons (.leaf _) (zab.cons (HU7.out.later HBR.out) (zab.cons (HU8.out.later HBR.out) (zab.cons (HU9.out.later HBR.out) (zab.nil)))))))))))) hlx)
   clear hx hlx
   go_wp2_with fail
   refine HC.out.mono ?_
   rintro e w1 ⟨r,rfl,hE,hb⟩
   have HE:=zaa hE
   obtain⟨u4,u7,u8,u9,rfl,hu4,hu7,hu8,hu9⟩:=hE
   obtain⟨g4,c4,heq4⟩: ∃g c,u4= .slice (some ⟨g,0,none⟩) x.semas.length c:=by obtain⟨g,c,rows,e, -⟩:=hu4;exact⟨g,c,e⟩
   subst heq4
   clear hu4
   obtain⟨g7,c7,heq7⟩: ∃g c,u7= .slice (some ⟨g,0,none⟩) x.bufs.length c:=by obtain⟨g,c,rows,e, -⟩:=hu7;exact⟨g,c,e⟩
   subst heq7
   clear hu7
   obtain⟨g8,c8,heq8⟩: ∃g c,u8= .slice (some ⟨g,0,none⟩) x.ports.length c:=by obtain⟨g,c,rows,e, -⟩:=hu8;exact⟨g,c,e⟩
   subst heq8
   clear hu8
   obtain⟨g9,c9,heq9⟩: ∃g c,u9= .slice (some ⟨g,0,none⟩) x.procs.length c:=by obtain⟨g,c,rows,e, -⟩:=hu9;exact⟨g,c,e⟩
   subst heq9
   clear hu9
   simp only[zaF] at HE ⊢
   have HB3:=zaa (btZ HBR.out hb)
   have HLB1:=zaa ((HLB.out.below zbk hb).below zbk (((Below.refl w1.heap.size w1).alloc (Nat.le_refl _) (.cells #[.string ⟨x.name.toArray⟩,.int .i64 x.period,.int .i64 x.length,.int .i64 x.mem,.slice (some ⟨g4,0,none⟩) x.semas.length c4,.int .i64 x.events,.int .i64 x.boards,.slice (some ⟨g7,0,none⟩) x.bufs.length c7,.slice (some ⟨g8,0,none⟩) x.ports.length c8,.slice (some ⟨g9,0,none⟩) x.procs.length c9] 49)).trans (((Below.refl (w1.alloc (.cells #[.string ⟨x.name.toArray⟩,.int .i64 x.period,.int .i64 x.length,.int .i64 x.mem,.slice (some ⟨g4,0,none⟩) x.semas.length c4,.int .i64 x.events,.int .i64 x.boards,.slice (some ⟨g7,0,none⟩) x.bufs.length c7,.slice (some ⟨g8,0,none⟩) x.ports.length c8,.slice (some ⟨g9,0,none⟩) x.procs.length c9] 49)).heap.size (w1.alloc (.cells #[.string ⟨x.name.toArray⟩,.int .i64 x.period,.int .i64 x.length,.int .i64 x.mem,.slice (some ⟨g4,0,none⟩) x.semas.length c4,.int .i64 x.events,.int .i64 x.boards,.slice (some ⟨g7,0,none⟩) x.bufs.length c7,.slice (some ⟨g8,0,none⟩) x.ports.length c8,.slice (some ⟨g9,0,none⟩) x.procs.length c9] 49))).alloc (Nat.le_refl _) (.cells #[.string ⟨x.name.toArray⟩,.int .i64 x.period,.int .i64 x.length,.int .i64 x.mem,.slice (some ⟨g4,0,none⟩) x.semas.length c4,.int .i64 x.events,.int .i64 x.boards,.slice (some ⟨g7,0,none⟩) x.bufs.length c7,.slice (some ⟨g8,0,none⟩) x.ports.length c8,.slice (some ⟨g9,0,none⟩) x.procs.length c9] 49)).mono (by simp))))
   have HE1:=zaa (zbk.keep _ _ _ _ _ (by simp<;>omega) (fun b _ hl=>(Below.heap_alloc _ _ _ (by simp<;>omega)).trans (Below.heap_alloc _ _ _ hl)) (zbk.mono _ _ (fun b=>w.heap.size≤b∧_≠some b) _ _ (fun b hb2 _=>⟨Nat.le_trans HBR.out.size hb2,fun e=>by have h1:=(zav HLB.out.own e).2;have h2:wr.heap.size≤b:=hb2;omega⟩) HE.out):zdm ((w1.alloc (.cells #[.string ⟨x.name.toArray⟩,.int .i64 x.period,.int .i64 x.length,.int .i64 x.mem,.slice (some ⟨g4,0,none⟩) x.semas.length c4,.int .i64 x.events,.int .i64 x.boards,.slice (some ⟨g7,0,none⟩) x.bufs.length c7,.slice (some ⟨g8,0,none⟩) x.ports.length c8,.slice (some ⟨g9,0,none⟩) x.procs.length c9] 49)).alloc (.cells #[.string ⟨x.name.toArray⟩,.int .i64 x.period,.int .i64 x.length,.int .i64 x.mem,.slice (some ⟨g4,0,none⟩) x.semas.length c4,.int .i64 x.events,.int .i64 x.boards,.slice (some ⟨g7,0,none⟩) x.bufs.length c7,.slice (some ⟨g8,0,none⟩) x.ports.length c8,.slice (some ⟨g9,0,none⟩) x.procs.length c9] 49)) _ _ _)
   have hz1':=HB3.out.size
   clear hb HC HE HLB
   go_wp2_with(first
    |(at_builtin;refine wpList_append_lies _ rfl _ _ 42 rfl w.heap.size 49 i0 _ 10 152 Tryz.underlying42 hi0 hz0 hz1 hz2 rfl (by decide) _ _ _ rfl HLB1.out.own ⟨w1.heap.size+1,0,none⟩ 1 1 [.string ⟨x.name.toArray⟩,.int .i64 x.period,.int .i64 x.length,.int .i64 x.mem,.slice (some ⟨g4,0,none⟩) x.semas.length c4,.int .i64 x.events,.int .i64 x.boards,.slice (some ⟨g7,0,none⟩) x.bufs.length c7,.slice (some ⟨g8,0,none⟩) x.ports.length c8,.slice (some ⟨g9,0,none⟩) x.procs.length c9] rfl rfl (zaU (by simp)) (by simp[Value.oneCell']) (by decide) (by have:=HRL.out;unfold maxLen;omega) (by have:=HRL.out;omega) (by simp;omega) _ rfl ?_;intro g cap w5 hown' hgrow hat _))
   have HB5:=zaa (HB3.out.trans (Below.grown (((Below.refl _ w1).alloc hz1' _).alloc (by simp;omega) _) hgrow (by simp;omega) (fun g hg=>(zav HLB1.out.own hg).1)))
   have HLB5:=zaa (HLB1.out.push zbk hown' (by omega) hgrow hat (fun y hy=>by rw[HRL.out,HX.out] at hy;obtain rfl:=Option.some.inj hy;exact HE1.out))
   clear hown' hgrow hat HLB1 HE1
   go_wp2_with fail
   go_roundw
   case rel=>exact⟨k+1,_,by omega,by go_num,by simp[HRL.out],HLB5.out,HB5.out⟩
   case measure=>simp[intOf];omega
  ·obtain rfl:k=l.length:=by omega
   have HLB0:=HLB
   have HB0:=HBR
   clear HLB HBR HA hlt hk
   go_wp2_with fail
   go_loopw [3,6] (fun v3 v6 wr=> ∃k:Nat,k≤12∧v6= .int .i64 k∧LB zdm wr w.heap.size 49 10 v3 l (rs++(List.range k).map zcV)∧Below w.heap.size w wr) (fun _ v6 _=>12-(intOf v6).toNat)
   case atStart=>exact⟨0,by omega,rfl,by simpa using HLB0.out,HB0.out⟩
   case round=>
    obtain⟨k,hk,rfl,hlb,hbr⟩:=hrel
    have HLB:=zaa hlb
    have HBR:=zaa hbr
    clear hlb hbr HLB0 HB0
    by_cases hlt:k<12
    ·have HM:=zaa (zls k wr hlt)
     generalize hm:mkI 1 (k:Int)=m at HM
     have hm2:=zaa hm
     clear hm
     go_wp2_with fail
     refine HM.out.mono ?_
     rintro e w3 ⟨rfl,hb3⟩
     have HB3:=zaa (btZ HBR.out hb3)
     have hz3:=HB3.out.size
     have HLB3:=zaa ((HLB.out.below zbk hb3).below zbk ((Below.refl w3.heap.size w3).alloc (Nat.le_refl _) (.cells #[.string ⟨#[]⟩,.int .i64 (m),.int .i64 0,.int .i64 0,.slice none 0 0,.int .i64 0,.int .i64 0,.slice none 0 0,.slice none 0 0,.slice none 0 0] 49)))
     clear hb3 HM HLB
     go_wp2_with(first
      |(at_builtin;refine wpList_append_lies _ rfl _ _ 42 rfl w.heap.size 49 i0 _ 10 152 Tryz.underlying42 hi0 hz0 hz1 hz2 rfl (by decide) _ _ _ rfl HLB3.out.own ⟨w3.heap.size,0,none⟩ 1 1 [.string ⟨#[]⟩,.int .i64 (m),.int .i64 0,.int .i64 0,.slice none 0 0,.int .i64 0,.int .i64 0,.slice none 0 0,.slice none 0 0,.slice none 0 0] rfl rfl (zaU (by simp)) (by simp[Value.oneCell']) (by decide) (by have:=HRL.out;simp only[List.length_append,List.length_map,List.length_range];unfold maxLen;omega) (by have:=HRL.out;simp only[List.length_append,List.length_map,List.length_range];omega) (by simp;exact Nat.le_succ_of_le hz3) _ rfl ?_;intro g cap w5 hown' hgrow hat _))
     have HB5:=zaa (HB3.out.trans (Below.grown ((Below.refl _ w3).alloc hz3 _) hgrow (by simp;exact Nat.le_succ_of_le hz3) (fun g hg=>(zav HLB3.out.own hg).1)))
     have HLB5:=zaa (show LB zdm w5 w.heap.size 49 10 _ l (rs++(List.range (k+1)).map zcV) by
      rw[List.range_succ,List.map_append,←List.append_assoc,List.map_singleton,show zcV k=[.string ⟨#[]⟩,.int .i64 (m),.int .i64 0,.int .i64 0,.slice none 0 0,.int .i64 0,.int .i64 0,.slice none 0 0,.slice none 0 0,.slice none 0 0] from by unfold zcV;rw[hm2.out]]
      exact HLB3.out.push zbk hown' rfl hgrow hat (fun y hy=>absurd hy (by rw[List.getElem?_eq_none (by have:=HRL.out;simp only[List.length_append,List.length_map,List.length_range];omega)];exact nofun)))
     clear hown' hgrow hat HLB3
     go_wp2_with fail
     go_roundw
     case rel=>exact⟨k+1,by omega,by go_num,by have h:=HLB5.out;simp only[List.length_append,List.length_map,List.length_range] at h;exact h,HB5.out⟩
     case measure=>simp[intOf];omega
    ·obtain rfl:k=12:=by omega
     obtain⟨g,c,hvv,hc1,hc2,hLL⟩:=LB.lent (ms:=zar zcV) zbk HLB.out HRL.out (by simp[zar])
     have HL:=zaa hLL
     subst hvv
     unfold maxLen at hc2
     clear hLL HLB
     go_wp2_with fail
     go_ret
     exact zbL.mk _ rfl HL.out HBR.out
def zeV:Elt zcl:=fun w G r x=> ∃u3,r=[zaF x.name,.int .i64 x.mem,.int .i64 x.frame,u3]∧LL 10 (zar zcV) zdm w G u3 x.parts
theorem za6:zcc zeV 4 zcl.cells where
 keep:=fun _ _ _ _ _ hz hk ⟨u3,e,h3⟩=>⟨u3,e,h3.keep zbk hz hk⟩
 mono:=fun _ _ _ _ _ hg ⟨u3,e,h3⟩=>⟨u3,e,h3.mono zbk hg⟩
 wide:=fun _ _ _ _ ⟨_,e,_⟩=>by rw[e];rfl
 dat:=fun _ _ _ _ ⟨_,e,h3⟩=>by rw[e];exact zab.cons (.leaf _) (zab.cons (.leaf _) (zab.cons (.leaf _) (zab.cons (h3.dat zbk) (zab.nil))))
 one:=fun _ _ _ _ ⟨_,e,h3⟩=>by
  have k:=h3.one
  rw[e]
  intro v hv
  simp only[List.mem_cons,List.not_mem_nil,or_false] at hv
  rcases hv with rfl|rfl|rfl|rfl
  all_goals first|rfl|exact k
theorem zjx (x:zcl) (us:List Value) (W:World) (hd:Hid (zab W (fun _=>True) us x.cells)) (hl:x.parts.length≤1000000∧ ∀y∈x.parts,zeT y):
 Calls Tryz.prog 112 #[.agg us.toArray] W fun e w'=>zdz zeV W x e w':=by
 have hd:=hd.out
 obtain⟨u0,u1,u2,u3,rfl,h0,h1,h2,h3⟩:=dc4 hd
 obtain rfl:=h0.leaf_eq
 obtain rfl:=h1.leaf_eq
 obtain rfl:=h2.leaf_eq
 have HU3:=zaa h3
 obtain⟨A3,p3,rfl, -⟩:=h3.slice
 simp only[List.length_map] at HU3 ⊢
 clear hd h0 h1 h2 h3
 simp only[zaF]
 have HT:=zaa (zbp W (.cells #[.string ⟨x.name.toArray⟩,.int .i64 x.mem,.int .i64 x.frame,.slice A3 x.parts.length p3] 44) (.cells #[.string ⟨#[]⟩,.int .i64 0,.int .i64 0,.slice none 0 0] 44))
 have hzz:(W.alloc (.cells #[.string ⟨x.name.toArray⟩,.int .i64 x.mem,.int .i64 x.frame,.slice A3 x.parts.length p3] 44)).heap.size=W.heap.size+1:=by simp
 go_enter Tryz.func112,Tryz.ntmps112
 go_wp2_with fail
 (try rw[hzz])
 clear hzz
 generalize(W.alloc _).alloc _=w0 at *
 have hs0:=(zaJ HT.out.y)
 refine(zix _ x.parts w0 (zaa (HU3.out.later HT.out.b)) hl.1 hl.2).mono ?_
 rintro e w1 ⟨u3,rfl,hu,hb⟩
 have HT:=zaa (HT.out.step hb)
 have HL3:=zaa (hu.mono zbk (H:=fun b=>W.heap.size+2≤b) (fun b hb _=>by have h2:w0.heap.size≤b:=hb;omega))
 have hs0:=(zaJ HT.out.y)
 obtain⟨g3,c3,heq3⟩: ∃g c,u3= .slice (some ⟨g,0,none⟩) x.parts.length c:=by obtain⟨g,c,rows,e, -⟩:=hu;exact⟨g,c,e⟩
 subst heq3
 clear hb hu
 obtain⟨a0,a1,a2,a3⟩:=zcO HT.out.x
 have fz:=frozen_of_row _ _ 3 _ _ HT.out.x
 have hlx:=(zaJ HT.out.x)
 go_upto_region 2 with fail
 clear fz hlx a0 a1 a2 a3
 have HT:Hid (Two W W.heap.size (.cells #[.string ⟨x.name.toArray⟩,.int .i64 x.mem,.int .i64 x.frame,.slice (some ⟨g3,0,none⟩) x.parts.length c3] 44) (W.heap.size+1) (.cells #[.string ⟨#[]⟩,.int .i64 0,.int .i64 0,.slice none 0 0] 44) (w1.setCell ⟨W.heap.size,3,none⟩ (.slice (some ⟨g3,0,none⟩) x.parts.length c3))):=zaa (HT.out.put (j:=3) (by omega) (Nat.le_refl _) _)
 have HL3:=zaa (HL3.out.keep zbk (w':=w1.setCell ⟨W.heap.size,3,none⟩ (.slice (some ⟨g3,0,none⟩) x.parts.length c3)) (by simp[World.setCell]) (fun b hb _=>Below.heap_setCell _ _ _ _ (by show b≠W.heap.size;have h2:W.heap.size+2≤b:=hb;omega)))
 clear hs0
 generalize w1.setCell ⟨W.heap.size,3,none⟩ (.slice (some ⟨g3,0,none⟩) x.parts.length c3)=w2 at *
 have hs0:=(zaJ HT.out.y)
 obtain⟨a0,a1,a2,a3⟩:=zcO HT.out.x
 obtain⟨b0,b1,b2,b3⟩:=zcO HT.out.y
 have f0:=frozen_of_row _ _ 0 _ _ HT.out.y
 have f1:=frozen_of_row _ _ 1 _ _ HT.out.y
 have f2:=frozen_of_row _ _ 2 _ _ HT.out.y
 have f3:=frozen_of_row _ _ 3 _ _ HT.out.y
 have hlx:=(zaJ HT.out.x)
 go_wp2_with fail
 refine bodyPost_ret (v:= .agg #[.string ⟨x.name.toArray⟩,.int .i64 x.mem,.int .i64 x.frame,.slice (some ⟨g3,0,none⟩) x.parts.length c3]) (by simp[results,Tryz.results112,go_sem,b0,b1,b2,b3]) rfl ?_
 refine zdz.mk [.string ⟨x.name.toArray⟩,.int .i64 x.mem,.int .i64 x.frame,.slice (some ⟨g3,0,none⟩) x.parts.length c3] rfl ⟨_,rfl,?_⟩ ?_
 ·refine((HL3.out.keep zbk (by simp[World.setCell]) (fun b hb _=> ?_)).mono zbk (fun b hb _=>by have h2:W.heap.size+2≤b:=hb;omega))
  have h2:W.heap.size+2≤b:=hb
  iterate 4 (refine(Below.heap_setCell _ _ _ _ (by show b≠W.heap.size+1;omega)).trans ?_)
  rfl
 ·exact((((HT.out.b.setCell (p:=⟨W.heap.size+1,0,none⟩) (by show W.heap.size≤W.heap.size+1;omega) _).setCell (p:=⟨W.heap.size+1,1,none⟩) (by show W.heap.size≤W.heap.size+1;omega) _).setCell (p:=⟨W.heap.size+1,2,none⟩) (by show W.heap.size≤W.heap.size+1;omega) _).setCell (p:=⟨W.heap.size+1,3,none⟩) (by show W.heap.size≤W.heap.size+1;omega) _)
theorem zjt:(Tryz.prog.info? 44).map (fun i=>(i.zero,i.size,i.bytes))=some (some (.agg #[.string ⟨#[]⟩,.int .i64 0,.int .i64 0,.slice none 0 0]),4,56):=by kernel_rfl
def zdG (i:Nat):List Value:=[.string ⟨#[]⟩,.int .i64 (mkI 1 (i:Int)),.int .i64 0,.slice none 0 0]
theorem zn5 (n:Nat) (h:n≤1000000) (W:World):(Instr.makeSlice 22 (.int .i64 0) (.int .i64 ((n:Int)+12))).run Tryz.prog W= .ok (.slice (some ⟨W.heap.size,0,none⟩) 0 (n+12)) (W.alloc (.cells (madeCells (Value.cells (.agg #[.string ⟨#[]⟩,.int .i64 0,.int .i64 0,.slice none 0 0])) ((n+12)*4)) 44)):=by
 obtain⟨i0,hi,hz0,hz1,hz2⟩:=info_parts zjt
 have:=run_make (P:=Tryz.prog) W 22 44 i0 (.agg #[.string ⟨#[]⟩,.int .i64 0,.int .i64 0,.slice none 0 0]) Tryz.underlying22 hi hz0 .i64 .i64 0 ((n:Int)+12) (by omega) (by omega) (by rw[hz2];omega) (by omega)
 rw[hz1,show((n:Int)+12).toNat=n+12 by omega] at this
 exact this
theorem zkn (v:Value) (l:List zcl) (w:World) (hv:Hid (DAt w (fun _=>True) v (.row 4 (l.map zcl.cells)))) (hn:l.length≤1000000) (hl: ∀x∈l,x.parts.length≤1000000∧ ∀y∈x.parts,zeT y):
 Calls Tryz.prog 25 #[v] w fun e w'=>zbL 4 (zar zdG) zeV w l e w':=by
 obtain⟨i0,hi0,hz0,hz1,hz2⟩:=info_parts zjt
 obtain⟨A,q,rfl,hA⟩:=hv.out.slice
 have HA:=zaa hA
 rw[List.length_map] at hv ⊢
 have hmk:=fun W=>zn5 l.length hn W
 have HOW0:Hid ((w.alloc (.cells (madeCells #[.string ⟨#[]⟩,.int .i64 0,.int .i64 0,.slice none 0 0] ((l.length+12)*4)) 44)).ownsRow w.heap.size 44 4 (.slice (some ⟨w.heap.size,0,none⟩) 0 (l.length+12)) 0 []):=zaa (World.ownsRow_made (base:=w.heap.size) (e:=44) (size:=4) w (madeCells #[.string ⟨#[]⟩,.int .i64 0,.int .i64 0,.slice none 0 0] ((l.length+12)*4)) (l.length+12) (Nat.le_refl _) (by unfold maxLen;omega) (by simp[madeCells]))
 have HB0:=zaa ((Below.refl w.heap.size w).alloc (Nat.le_refl _) (.cells (madeCells #[.string ⟨#[]⟩,.int .i64 0,.int .i64 0,.slice none 0 0] ((l.length+12)*4)) 44))
 clear hA hv
 go_enter Tryz.func25,Tryz.ntmps25
 go_wp2_with fail
 generalize w.alloc (.cells (madeCells #[.string ⟨#[]⟩,.int .i64 0,.int .i64 0,.slice none 0 0] ((l.length+12)*4)) 44)=w0 at *
 clear hmk
 have HLB0:Hid (LB zeV w0 w.heap.size 44 4 (.slice (some ⟨w.heap.size,0,none⟩) 0 (l.length+12)) l []):=zaa ⟨HOW0.out,fun i r x hr _=>by simp at hr⟩
 clear HOW0
 go_loopw [3,4] (fun v3 v4 wr=> ∃(k:Nat) (rs:List (List Value)),k≤l.length∧v4= .int .i64 k∧rs.length=k∧LB zeV wr w.heap.size 44 4 v3 l rs∧Below w.heap.size w wr) (fun _ v4 _=>l.length-(intOf v4).toNat)
 case atStart=>exact⟨0,[],by omega,rfl,rfl,HLB0.out,HB0.out⟩
 case round=>
  obtain⟨k,rs,hk,rfl,hrl,hlb,hbr⟩:=hrel
  have HLB:=zaa hlb
  have HBR:=zaa hbr
  have HRL:=zaa hrl
  clear hlb hbr hrl HLB0 HB0
  by_cases hlt:k<l.length
  ·skip
   obtain⟨x,hx⟩:=za9 hlt
   have hlx:=hl x (List.mem_of_getElem? hx)
   obtain⟨bA,oA,rfl,hbA,hcaA⟩:=HA.out.at_ hx
   have a0:=zan HBR.out hbA (oA+k*4) (hcaA 0 _ rfl).leafc
   have a1:=zan HBR.out hbA (oA+k*4+1) (hcaA 1 _ rfl).leafc
   have a2:=zan HBR.out hbA (oA+k*4+2) (hcaA 2 _ rfl).leafc
   obtain⟨uA3,cA3,gA3⟩:=hcaA 3 _ rfl
   have a3:=zat HBR.out hbA cA3
   have HU3:=zaa gA3
   obtain⟨A3,p3,rfl, -⟩:=gA3.slice
   clear cA3 gA3
   simp only[List.length_map] at HU3 a3
   clear hcaA
   simp only[zaF] at a0
   have k0:=kbZ k l.length
   have HX:=zaa hx
   have HC:=zaa (zjx x [.string ⟨x.name.toArray⟩,.int .i64 x.mem,.int .i64 x.frame,.slice A3 x.parts.length p3] wr (zaa (zab.cons (.leaf _) (zab.cons (.leaf _) (zab.cons (.leaf _) (zab.cons (HU3.out.later HBR.out) (zab.nil)))))) hlx)
   clear hx hlx
   go_wp2_with fail
   refine HC.out.mono ?_
   rintro e w1 ⟨r,rfl,hE,hb⟩
   have HE:=zaa hE
   obtain⟨u3,rfl,hu3⟩:=hE
   obtain⟨g3,c3,heq3⟩: ∃g c,u3= .slice (some ⟨g,0,none⟩) x.parts.length c:=by obtain⟨g,c,rows,e, -⟩:=hu3;exact⟨g,c,e⟩
   subst heq3
   clear hu3
   simp only[zaF] at HE ⊢
   have HB3:=zaa (btZ HBR.out hb)
   have HLB1:=zaa ((HLB.out.below za6 hb).below za6 (((Below.refl w1.heap.size w1).alloc (Nat.le_refl _) (.cells #[.string ⟨x.name.toArray⟩,.int .i64 x.mem,.int .i64 x.frame,.slice (some ⟨g3,0,none⟩) x.parts.length c3] 44)).trans (((Below.refl (w1.alloc (.cells #[.string ⟨x.name.toArray⟩,.int .i64 x.mem,.int .i64 x.frame,.slice (some ⟨g3,0,none⟩) x.parts.length c3] 44)).heap.size (w1.alloc (.cells #[.string ⟨x.name.toArray⟩,.int .i64 x.mem,.int .i64 x.frame,.slice (some ⟨g3,0,none⟩) x.parts.length c3] 44))).alloc (Nat.le_refl _) (.cells #[.string ⟨x.name.toArray⟩,.int .i64 x.mem,.int .i64 x.frame,.slice (some ⟨g3,0,none⟩) x.parts.length c3] 44)).mono (by simp))))
   have HE1:=zaa (za6.keep _ _ _ _ _ (by simp<;>omega) (fun b _ hl=>(Below.heap_alloc _ _ _ (by simp<;>omega)).trans (Below.heap_alloc _ _ _ hl)) (za6.mono _ _ (fun b=>w.heap.size≤b∧_≠some b) _ _ (fun b hb2 _=>⟨Nat.le_trans HBR.out.size hb2,fun e=>by have h1:=(zav HLB.out.own e).2;have h2:wr.heap.size≤b:=hb2;omega⟩) HE.out):zeV ((w1.alloc (.cells #[.string ⟨x.name.toArray⟩,.int .i64 x.mem,.int .i64 x.frame,.slice (some ⟨g3,0,none⟩) x.parts.length c3] 44)).alloc (.cells #[.string ⟨x.name.toArray⟩,.int .i64 x.mem,.int .i64 x.frame,.slice (some ⟨g3,0,none⟩) x.parts.length c3] 44)) _ _ _)
   have hz1':=HB3.out.size
   clear hb HC HE HLB
   go_wp2_with(first
    |(at_builtin;refine wpList_append_lies _ rfl _ _ 22 rfl w.heap.size 44 i0 _ 4 56 Tryz.underlying22 hi0 hz0 hz1 hz2 rfl (by decide) _ _ _ rfl HLB1.out.own ⟨w1.heap.size+1,0,none⟩ 1 1 [.string ⟨x.name.toArray⟩,.int .i64 x.mem,.int .i64 x.frame,.slice (some ⟨g3,0,none⟩) x.parts.length c3] rfl rfl (zaU (by simp)) (by simp[Value.oneCell']) (by decide) (by have:=HRL.out;unfold maxLen;omega) (by have:=HRL.out;omega) (by simp;omega) _ rfl ?_;intro g cap w5 hown' hgrow hat _))
   have HB5:=zaa (HB3.out.trans (Below.grown (((Below.refl _ w1).alloc hz1' _).alloc (by simp;omega) _) hgrow (by simp;omega) (fun g hg=>(zav HLB1.out.own hg).1)))
   have HLB5:=zaa (HLB1.out.push za6 hown' (by omega) hgrow hat (fun y hy=>by rw[HRL.out,HX.out] at hy;obtain rfl:=Option.some.inj hy;exact HE1.out))
   clear hown' hgrow hat HLB1 HE1
   go_wp2_with fail
   go_roundw
   case rel=>exact⟨k+1,_,by omega,by go_num,by simp[HRL.out],HLB5.out,HB5.out⟩
   case measure=>simp[intOf];omega
  ·obtain rfl:k=l.length:=by omega
   have HLB0:=HLB
   have HB0:=HBR
   clear HLB HBR HA hlt hk
   go_wp2_with fail
   go_loopw [3,6] (fun v3 v6 wr=> ∃k:Nat,k≤12∧v6= .int .i64 k∧LB zeV wr w.heap.size 44 4 v3 l (rs++(List.range k).map zdG)∧Below w.heap.size w wr) (fun _ v6 _=>12-(intOf v6).toNat)
   case atStart=>exact⟨0,by omega,rfl,by simpa using HLB0.out,HB0.out⟩
   case round=>
    obtain⟨k,hk,rfl,hlb,hbr⟩:=hrel
    have HLB:=zaa hlb
    have HBR:=zaa hbr
    clear hlb hbr HLB0 HB0
    by_cases hlt:k<12
    ·have HM:=zaa (znR k wr hlt)
     generalize hm:mkI 1 (k:Int)=m at HM
     have hm2:=zaa hm
     clear hm
     go_wp2_with fail
     refine HM.out.mono ?_
     rintro e w3 ⟨rfl,hb3⟩
     have HB3:=zaa (btZ HBR.out hb3)
     have hz3:=HB3.out.size
     have HLB3:=zaa ((HLB.out.below za6 hb3).below za6 ((Below.refl w3.heap.size w3).alloc (Nat.le_refl _) (.cells #[.string ⟨#[]⟩,.int .i64 (m),.int .i64 0,.slice none 0 0] 44)))
     clear hb3 HM HLB
     go_wp2_with(first
      |(at_builtin;refine wpList_append_lies _ rfl _ _ 22 rfl w.heap.size 44 i0 _ 4 56 Tryz.underlying22 hi0 hz0 hz1 hz2 rfl (by decide) _ _ _ rfl HLB3.out.own ⟨w3.heap.size,0,none⟩ 1 1 [.string ⟨#[]⟩,.int .i64 (m),.int .i64 0,.slice none 0 0] rfl rfl (zaU (by simp)) (by simp[Value.oneCell']) (by decide) (by have:=HRL.out;simp only[List.length_append,List.length_map,List.length_range];unfold maxLen;omega) (by have:=HRL.out;simp only[List.length_append,List.length_map,List.length_range];omega) (by simp;exact Nat.le_succ_of_le hz3) _ rfl ?_;intro g cap w5 hown' hgrow hat _))
     have HB5:=zaa (HB3.out.trans (Below.grown ((Below.refl _ w3).alloc hz3 _) hgrow (by simp;exact Nat.le_succ_of_le hz3) (fun g hg=>(zav HLB3.out.own hg).1)))
     have HLB5:=zaa (show LB zeV w5 w.heap.size 44 4 _ l (rs++(List.range (k+1)).map zdG) by
      rw[List.range_succ,List.map_append,←List.append_assoc,List.map_singleton,show zdG k=[.string ⟨#[]⟩,.int .i64 (m),.int .i64 0,.slice none 0 0] from by unfold zdG;rw[hm2.out]]
      exact HLB3.out.push za6 hown' rfl hgrow hat (fun y hy=>absurd hy (by rw[List.getElem?_eq_none (by have:=HRL.out;simp only[List.length_append,List.length_map,List.length_range];omega)];exact nofun)))
     clear hown' hgrow hat HLB3
     go_wp2_with fail
     go_roundw
     case rel=>exact⟨k+1,by omega,by go_num,by have h:=HLB5.out;simp only[List.length_append,List.length_map,List.length_range] at h;exact h,HB5.out⟩
     case measure=>simp[intOf];omega
    ·obtain rfl:k=12:=by omega
     obtain⟨g,c,hvv,hc1,hc2,hLL⟩:=LB.lent (ms:=zar zdG) za6 HLB.out HRL.out (by simp[zar])
     have HL:=zaa hLL
     subst hvv
     unfold maxLen at hc2
     clear hLL HLB
     go_wp2_with fail
     go_ret
     exact zbL.mk _ rfl HL.out HBR.out
end Go.Proofs.YtgbfaompondolaaGreatDoor
