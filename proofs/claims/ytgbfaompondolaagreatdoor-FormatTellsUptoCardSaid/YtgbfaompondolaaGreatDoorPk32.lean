/- Merged texts of the walks and of the plain laws on which the statement leans.-/
import Derived.Test.YtgbfaompondolaaGreatDoorPk1
import Derived.Test.YtgbfaompondolaaGreatDoorPk31
set_option maxHeartbeats 4000000
set_option maxRecDepth 100000
namespace Go.Proofs.YtgbfaompondolaaGreatDoor
open Go.Proofs.Tryz
open Go.RowKit
attribute [local go_sem] zaj.cell
theorem LL.dat {α:Type} {size:Nat} {ms:List (List Value)} {E:Elt α} {cells:α→List Dat} (hE:zcm E size cells) {w:World} {G:Nat→Prop} {v:Value} {l:List α} (h:LL size ms E w G v l):DAt w (fun _=>True) v (.row size (l.map cells)):=by
 have h':=h;obtain⟨g,c,rows,rfl,h1,h2,h3,h4,h5,h6,h7⟩:=h;have key: ∀i j e d,(l.map cells)[i]? =some e→e[j]? =some d→ ∃u,w.cell? ⟨g,i*size+j,none⟩=some u∧DAt w (fun _=>True) u d:=by
  intro i j e d he hd;rw[List.getElem?_map] at he;obtain⟨x,hx,rfl⟩:=Option.map_eq_some_iff.1 he;obtain⟨r,hr,hc⟩:=LL.at_ hE h' hx;have hdc:=hE.dat _ _ _ _ hr;have hj:j<r.length:=by rw[hdc.1];exact(List.getElem?_eq_some_iff.1 hd).1
  exact⟨r[j],hc j _ (List.getElem?_eq_getElem hj),hdc.2 j _ _ (List.getElem?_eq_getElem hj) hd⟩
 refine .row g 0 c size l.length _ (fun i j=>(w.cell? ⟨g,i*size+j,none⟩).getD (.bool false)) (by simp) trivial h4 (fun i j e d he hd=> ?_) (fun i j e d he hd=> ?_) (by omega)
 ·obtain⟨u,hu, -⟩:=key i j e d he hd
  rw[Nat.zero_add,hu]
  rfl
 ·obtain⟨u,hu,hdu⟩:=key i j e d he hd
  rw[hu];exact hdu
theorem LL.one {α:Type} {size:Nat} {ms:List (List Value)} {E:Elt α} {w:World} {G:Nat→Prop} {v:Value} {l:List α} (h:LL size ms E w G v l):v.oneCell'=true:=by
 obtain⟨g,c,rows,rfl, -⟩:=h
 rfl
def zd0 {α:Type} (E:Elt α) (W:World) (x:α) (e:Ending) (w':World):Prop:= ∃r:List Value,e= .returned (.agg r.toArray)∧E w' (fun b=>W.heap.size≤b) r x∧Below W.heap.size W w'
theorem zd0.mk {α:Type} {E:Elt α} {W:World} {x:α} {e:Ending} {w':World} (r:List Value) (he:e= .returned (.agg r.toArray)) (h:E w' (fun b=>W.heap.size≤b) r x) (hb:Below W.heap.size W w'):zd0 E W x e w':=⟨r,he,h,hb⟩
theorem Two.put {W0:World} {b1 b2 j:Nat} {cs:Array Value} {t:TypeId} {o2:Obj} {w:World} (h:Two W0 b1 (.cells cs t (0,0)) b2 o2 w) (hne:b2≠b1) (hb:W0.heap.size≤b1) (v:Value):Two W0 b1 (.cells (cs.setIfInBounds j v) t (0,0)) b2 o2 (w.setCell ⟨b1,j,none⟩ v) where
 x:=heap_setCell_same _ _ j _ _ _ h.x
 y:=(Below.heap_setCell _ _ _ _ (by exact hne)).trans h.y
 b:=h.b.setCell (p:=⟨b1,j,none⟩) hb v
def zfd (x:zaQ):Prop:=x.semas.length≤1000000∧x.bufs.length≤1000000∧x.ports.length≤1000000∧x.procs.length≤1000000∧ ∀y∈x.procs,y.code.length≤1000000
def zdL:Elt za0:=fun w G r x=> ∃u4,r=[zav x.name,.int .i64 x.prio,.int .i64 x.period,.int .i64 x.limit,u4]∧LL 4 (zar zdD) (EF zcC) w G u4 x.code
theorem zbq:zcm zdL 5 za0.cells where
 keep:=fun _ _ _ _ _ hz hk ⟨u4,e,h4⟩=>⟨u4,e,h4.keep zdT hz hk⟩
 mono:=fun _ _ _ _ _ hg ⟨u4,e,h4⟩=>⟨u4,e,h4.mono zdT hg⟩
 wide:=fun _ _ _ _ ⟨_,e,_⟩=>by rw[e];rfl
 dat:=fun _ _ _ _ ⟨_,e,h4⟩=>by rw[e];exact zab.cons (.leaf _) (zab.cons (.leaf _) (zab.cons (.leaf _) (zab.cons (.leaf _) (zab.cons (h4.dat zdT) (zab.nil)))))
 one:=fun _ _ _ _ ⟨_,e,h4⟩=>by
  have k:=h4.one;rw[e];intro v hv;simp only[List.mem_cons,List.not_mem_nil,or_false] at hv;rcases hv with rfl|rfl|rfl|rfl|rfl
  all_goals first|rfl|exact k
theorem zix (x:za0) (us:List Value) (W:World) (hd:Hid (zab W (fun _=>True) us x.cells)) (hl:x.code.length≤1000000):
 Calls prog 304 #[.agg us.toArray] W fun e w'=>zd0 zdL W x e w':=by
 have hd:=hd.out;obtain⟨u0,u1,u2,u3,u4,rfl,h0,h1,h2,h3,h4⟩:=dc5 hd;obtain rfl:=h0.leaf_eq;obtain rfl:=h1.leaf_eq;obtain rfl:=h2.leaf_eq;obtain rfl:=h3.leaf_eq;have HU4:=zaa h4;obtain⟨A4,p4,rfl, -⟩:=h4.slice;simp only[List.length_map] at HU4 ⊢;clear hd h0 h1 h2 h3 h4;simp only[zav];have HT:=zaa (zbY W (.cells #[.string ⟨x.name.toArray⟩,.int .i64 x.prio,.int .i64 x.period,.int .i64 x.limit,.slice A4 x.code.length p4] 53) (.cells #[.string ⟨#[]⟩,.int .i64 0,.int .i64 0,.int .i64 0,.slice none 0 0] 53));have hzz:(W.alloc (.cells #[.string ⟨x.name.toArray⟩,.int .i64 x.prio,.int .i64 x.period,.int .i64 x.limit,.slice A4 x.code.length p4] 53)).heap.size=W.heap.size+1:=by simp
 go_enter func304,ntmps304
 go_wp2_with fail
 (try rw[hzz])
 clear hzz;generalize(W.alloc _).alloc _=w0 at *;have hs0:=(zau HT.out.y);refine(zkR _ x.code w0 (zaa (HU4.out.later HT.out.b)) hl).mono ?_;rintro e w1 ⟨u4,rfl,hu,hb⟩;have HT:=zaa (HT.out.step hb);have HL4:=zaa (hu.mono zdT (H:=fun b=>W.heap.size+2≤b) (fun b hb _=>by have h2:w0.heap.size≤b:=hb;omega));have hs0:=(zau HT.out.y);obtain⟨g4,c4,heq4⟩: ∃g c,u4= .slice (some ⟨g,0,none⟩) x.code.length c:=by obtain⟨g,c,rows,e, -⟩:=hu;exact⟨g,c,e⟩
 subst heq4;clear hb hu;obtain⟨a0,a1,a2,a3,a4⟩:=zet HT.out.x;have fz:=frozen_of_row _ _ 4 _ _ HT.out.x;have hlx:=(zau HT.out.x);go_upto_region 2 with fail
 clear fz hlx a0 a1 a2 a3 a4;have HT:Hid (Two W W.heap.size (.cells #[.string ⟨x.name.toArray⟩,.int .i64 x.prio,.int .i64 x.period,.int .i64 x.limit,.slice (some ⟨g4,0,none⟩) x.code.length c4] 53) (W.heap.size+1) (.cells #[.string ⟨#[]⟩,.int .i64 0,.int .i64 0,.int .i64 0,.slice none 0 0] 53) (w1.setCell ⟨W.heap.size,4,none⟩ (.slice (some ⟨g4,0,none⟩) x.code.length c4))):=zaa (HT.out.put (j:=4) (by omega) (Nat.le_refl _) _);have HL4:=zaa (HL4.out.keep zdT (w':=w1.setCell ⟨W.heap.size,4,none⟩ (.slice (some ⟨g4,0,none⟩) x.code.length c4)) (by simp[World.setCell]) (fun b hb _=>Below.heap_setCell _ _ _ _ (by show b≠W.heap.size;have h2:W.heap.size+2≤b:=hb;omega)));clear hs0;generalize w1.setCell ⟨W.heap.size,4,none⟩ (.slice (some ⟨g4,0,none⟩) x.code.length c4)=w2 at *;have hs0:=(zau HT.out.y);obtain⟨a0,a1,a2,a3,a4⟩:=zet HT.out.x;obtain⟨b0,b1,b2,b3,b4⟩:=zet HT.out.y;have f0:=frozen_of_row _ _ 0 _ _ HT.out.y;have f1:=frozen_of_row _ _ 1 _ _ HT.out.y;have f2:=frozen_of_row _ _ 2 _ _ HT.out.y;have f3:=frozen_of_row _ _ 3 _ _ HT.out.y;have f4:=frozen_of_row _ _ 4 _ _ HT.out.y;have hlx:=(zau HT.out.x);go_wp2_with fail;refine bodyPost_ret (v:= .agg #[.string ⟨x.name.toArray⟩,.int .i64 x.prio,.int .i64 x.period,.int .i64 x.limit,.slice (some ⟨g4,0,none⟩) x.code.length c4]) (by simp[results,Tryz.results304,go_sem,b0,b1,b2,b3,b4]) rfl ?_;refine zd0.mk [.string ⟨x.name.toArray⟩,.int .i64 x.prio,.int .i64 x.period,.int .i64 x.limit,.slice (some ⟨g4,0,none⟩) x.code.length c4] rfl ⟨_,rfl,?_⟩ ?_
 ·refine((HL4.out.keep zdT (by simp[World.setCell]) (fun b hb _=> ?_)).mono zdT (fun b hb _=>by have h2:W.heap.size+2≤b:=hb;omega))
  have h2:W.heap.size+2≤b:=hb
  iterate 5 (refine(Below.heap_setCell _ _ _ _ (by show b≠W.heap.size+1;omega)).trans ?_)
  rfl
 ·exact(((((HT.out.b.setCell (p:=⟨W.heap.size+1,0,none⟩) (by show W.heap.size≤W.heap.size+1;omega) _).setCell (p:=⟨W.heap.size+1,1,none⟩) (by show W.heap.size≤W.heap.size+1;omega) _).setCell (p:=⟨W.heap.size+1,2,none⟩) (by show W.heap.size≤W.heap.size+1;omega) _).setCell (p:=⟨W.heap.size+1,3,none⟩) (by show W.heap.size≤W.heap.size+1;omega) _).setCell (p:=⟨W.heap.size+1,4,none⟩) (by show W.heap.size≤W.heap.size+1;omega) _)
def zdJ:Elt zbi:=fun w G r x=> ∃u3,r=[zav x.from_.m,zav x.from_.p,zav x.from_.o,u3]∧LL 3 (zar zdm) (EF zcr) w G u3 x.to
theorem zaO:zcm zdJ 4 zbi.cells where
 keep:=fun _ _ _ _ _ hz hk ⟨u3,e,h3⟩=>⟨u3,e,h3.keep zcd hz hk⟩
 mono:=fun _ _ _ _ _ hg ⟨u3,e,h3⟩=>⟨u3,e,h3.mono zcd hg⟩
 wide:=fun _ _ _ _ ⟨_,e,_⟩=>by rw[e];rfl
 dat:=fun _ _ _ _ ⟨_,e,h3⟩=>by rw[e];exact zab.cons (.leaf _) (zab.cons (.leaf _) (zab.cons (.leaf _) (zab.cons (h3.dat zcd) (zab.nil))))
 one:=fun _ _ _ _ ⟨_,e,h3⟩=>by
  have k:=h3.one;rw[e];intro v hv;simp only[List.mem_cons,List.not_mem_nil,or_false] at hv;rcases hv with rfl|rfl|rfl|rfl
  all_goals first|rfl|exact k
theorem zit (x:zbi) (us:List Value) (W:World) (hd:Hid (zab W (fun _=>True) us x.cells)) (hl:x.to.length≤1000000):
 Calls prog 114 #[.agg us.toArray] W fun e w'=>zd0 zdJ W x e w':=by
 have hd:=hd.out;obtain⟨u0,u1,u2,u3,rfl,h0,h1,h2,h3⟩:=dc4 hd;obtain rfl:=h0.leaf_eq;obtain rfl:=h1.leaf_eq;obtain rfl:=h2.leaf_eq;have HU3:=zaa h3;obtain⟨A3,p3,rfl, -⟩:=h3.slice;simp only[List.length_map] at HU3 ⊢;clear hd h0 h1 h2 h3;simp only[zav];have HT:=zaa (zbY W (.cells #[.string ⟨x.from_.m.toArray⟩,.string ⟨x.from_.p.toArray⟩,.string ⟨x.from_.o.toArray⟩,.slice A3 x.to.length p3] 58) (.cells #[.string ⟨#[]⟩,.string ⟨#[]⟩,.string ⟨#[]⟩,.slice none 0 0] 58));have hzz:(W.alloc (.cells #[.string ⟨x.from_.m.toArray⟩,.string ⟨x.from_.p.toArray⟩,.string ⟨x.from_.o.toArray⟩,.slice A3 x.to.length p3] 58)).heap.size=W.heap.size+1:=by simp
 go_enter func114,ntmps114
 go_wp2_with fail
 (try rw[hzz])
 clear hzz;generalize(W.alloc _).alloc _=w0 at *;have hs0:=(zau HT.out.y);refine(zhy _ x.to w0 (zaa (HU3.out.later HT.out.b)) hl).mono ?_;rintro e w1 ⟨u3,rfl,hu,hb⟩;have HT:=zaa (HT.out.step hb);have HL3:=zaa (hu.mono zcd (H:=fun b=>W.heap.size+2≤b) (fun b hb _=>by have h2:w0.heap.size≤b:=hb;omega));have hs0:=(zau HT.out.y);obtain⟨g3,c3,heq3⟩: ∃g c,u3= .slice (some ⟨g,0,none⟩) x.to.length c:=by obtain⟨g,c,rows,e, -⟩:=hu;exact⟨g,c,e⟩
 subst heq3;clear hb hu;obtain⟨a0,a1,a2,a3⟩:=zci HT.out.x;have fz:=frozen_of_row _ _ 3 _ _ HT.out.x;have hlx:=(zau HT.out.x);go_upto_region 2 with fail
 clear fz hlx a0 a1 a2 a3;have HT:Hid (Two W W.heap.size (.cells #[.string ⟨x.from_.m.toArray⟩,.string ⟨x.from_.p.toArray⟩,.string ⟨x.from_.o.toArray⟩,.slice (some ⟨g3,0,none⟩) x.to.length c3] 58) (W.heap.size+1) (.cells #[.string ⟨#[]⟩,.string ⟨#[]⟩,.string ⟨#[]⟩,.slice none 0 0] 58) (w1.setCell ⟨W.heap.size,3,none⟩ (.slice (some ⟨g3,0,none⟩) x.to.length c3))):=zaa (HT.out.put (j:=3) (by omega) (Nat.le_refl _) _);have HL3:=zaa (HL3.out.keep zcd (w':=w1.setCell ⟨W.heap.size,3,none⟩ (.slice (some ⟨g3,0,none⟩) x.to.length c3)) (by simp[World.setCell]) (fun b hb _=>Below.heap_setCell _ _ _ _ (by show b≠W.heap.size;have h2:W.heap.size+2≤b:=hb;omega)));clear hs0;generalize w1.setCell ⟨W.heap.size,3,none⟩ (.slice (some ⟨g3,0,none⟩) x.to.length c3)=w2 at *;have hs0:=(zau HT.out.y);obtain⟨a0,a1,a2,a3⟩:=zci HT.out.x;obtain⟨b0,b1,b2,b3⟩:=zci HT.out.y;have f0:=frozen_of_row _ _ 0 _ _ HT.out.y;have f1:=frozen_of_row _ _ 1 _ _ HT.out.y;have f2:=frozen_of_row _ _ 2 _ _ HT.out.y;have f3:=frozen_of_row _ _ 3 _ _ HT.out.y;have hlx:=(zau HT.out.x);go_wp2_with fail;refine bodyPost_ret (v:= .agg #[.string ⟨x.from_.m.toArray⟩,.string ⟨x.from_.p.toArray⟩,.string ⟨x.from_.o.toArray⟩,.slice (some ⟨g3,0,none⟩) x.to.length c3]) (by simp[results,Tryz.results114,go_sem,b0,b1,b2,b3]) rfl ?_;refine zd0.mk [.string ⟨x.from_.m.toArray⟩,.string ⟨x.from_.p.toArray⟩,.string ⟨x.from_.o.toArray⟩,.slice (some ⟨g3,0,none⟩) x.to.length c3] rfl ⟨_,rfl,?_⟩ ?_
 ·refine((HL3.out.keep zcd (by simp[World.setCell]) (fun b hb _=> ?_)).mono zcd (fun b hb _=>by have h2:W.heap.size+2≤b:=hb;omega))
  have h2:W.heap.size+2≤b:=hb
  iterate 4 (refine(Below.heap_setCell _ _ _ _ (by show b≠W.heap.size+1;omega)).trans ?_)
  rfl
 ·exact((((HT.out.b.setCell (p:=⟨W.heap.size+1,0,none⟩) (by show W.heap.size≤W.heap.size+1;omega) _).setCell (p:=⟨W.heap.size+1,1,none⟩) (by show W.heap.size≤W.heap.size+1;omega) _).setCell (p:=⟨W.heap.size+1,2,none⟩) (by show W.heap.size≤W.heap.size+1;omega) _).setCell (p:=⟨W.heap.size+1,3,none⟩) (by show W.heap.size≤W.heap.size+1;omega) _)
def zjy:Elt VlD:=fun w G r x=> ∃u6,r=[zav x.name,zav x.from_.m,zav x.from_.p,zav x.from_.o,.int .i64 x.bag,.int .i64 x.max,u6]∧LL 3 (zar zdm) (EF zcr) w G u6 x.to
theorem zck:zcm zjy 7 VlD.cells where
 keep:=fun _ _ _ _ _ hz hk ⟨u6,e,h6⟩=>⟨u6,e,h6.keep zcd hz hk⟩
 mono:=fun _ _ _ _ _ hg ⟨u6,e,h6⟩=>⟨u6,e,h6.mono zcd hg⟩
 wide:=fun _ _ _ _ ⟨_,e,_⟩=>by rw[e];rfl
 dat:=fun _ _ _ _ ⟨_,e,h6⟩=>by rw[e];exact zab.cons (.leaf _) (zab.cons (.leaf _) (zab.cons (.leaf _) (zab.cons (.leaf _) (zab.cons (.leaf _) (zab.cons (.leaf _) (zab.cons (h6.dat zcd) (zab.nil)))))))
 one:=fun _ _ _ _ ⟨_,e,h6⟩=>by
  have k:=h6.one;rw[e];intro v hv;simp only[List.mem_cons,List.not_mem_nil,or_false] at hv;rcases hv with rfl|rfl|rfl|rfl|rfl|rfl|rfl
  all_goals first|rfl|exact k
theorem zlV (x:VlD) (us:List Value) (W:World) (hd:Hid (zab W (fun _=>True) us x.cells)) (hl:x.to.length≤1000000):
 Calls prog 118 #[.agg us.toArray] W fun e w'=>zd0 zjy W x e w':=by
 have hd:=hd.out;obtain⟨u0,u1,u2,u3,u4,u5,u6,rfl,h0,h1,h2,h3,h4,h5,h6⟩:=dc7 hd;obtain rfl:=h0.leaf_eq;obtain rfl:=h1.leaf_eq;obtain rfl:=h2.leaf_eq;obtain rfl:=h3.leaf_eq;obtain rfl:=h4.leaf_eq;obtain rfl:=h5.leaf_eq;have HU6:=zaa h6;obtain⟨A6,p6,rfl, -⟩:=h6.slice;simp only[List.length_map] at HU6 ⊢;clear hd h0 h1 h2 h3 h4 h5 h6;simp only[zav];have HT:=zaa (zbY W (.cells #[.string ⟨x.name.toArray⟩,.string ⟨x.from_.m.toArray⟩,.string ⟨x.from_.p.toArray⟩,.string ⟨x.from_.o.toArray⟩,.int .i64 x.bag,.int .i64 x.max,.slice A6 x.to.length p6] 61) (.cells #[.string ⟨#[]⟩,.string ⟨#[]⟩,.string ⟨#[]⟩,.string ⟨#[]⟩,.int .i64 0,.int .i64 0,.slice none 0 0] 61));have hzz:(W.alloc (.cells #[.string ⟨x.name.toArray⟩,.string ⟨x.from_.m.toArray⟩,.string ⟨x.from_.p.toArray⟩,.string ⟨x.from_.o.toArray⟩,.int .i64 x.bag,.int .i64 x.max,.slice A6 x.to.length p6] 61)).heap.size=W.heap.size+1:=by simp
 go_enter func118,ntmps118
 go_wp2_with fail
 (try rw[hzz])
 clear hzz;generalize(W.alloc _).alloc _=w0 at *;have hs0:=(zau HT.out.y);refine(zhy _ x.to w0 (zaa (HU6.out.later HT.out.b)) hl).mono ?_;rintro e w1 ⟨u6,rfl,hu,hb⟩;have HT:=zaa (HT.out.step hb);have HL6:=zaa (hu.mono zcd (H:=fun b=>W.heap.size+2≤b) (fun b hb _=>by have h2:w0.heap.size≤b:=hb;omega));have hs0:=(zau HT.out.y);obtain⟨g6,c6,heq6⟩: ∃g c,u6= .slice (some ⟨g,0,none⟩) x.to.length c:=by obtain⟨g,c,rows,e, -⟩:=hu;exact⟨g,c,e⟩
 subst heq6;clear hb hu;obtain⟨a0,a1,a2,a3,a4,a5,a6⟩:=zej HT.out.x;have fz:=frozen_of_row _ _ 6 _ _ HT.out.x;have hlx:=(zau HT.out.x);go_upto_region 2 with fail
 clear fz hlx a0 a1 a2 a3 a4 a5 a6;have HT:Hid (Two W W.heap.size (.cells #[.string ⟨x.name.toArray⟩,.string ⟨x.from_.m.toArray⟩,.string ⟨x.from_.p.toArray⟩,.string ⟨x.from_.o.toArray⟩,.int .i64 x.bag,.int .i64 x.max,.slice (some ⟨g6,0,none⟩) x.to.length c6] 61) (W.heap.size+1) (.cells #[.string ⟨#[]⟩,.string ⟨#[]⟩,.string ⟨#[]⟩,.string ⟨#[]⟩,.int .i64 0,.int .i64 0,.slice none 0 0] 61) (w1.setCell ⟨W.heap.size,6,none⟩ (.slice (some ⟨g6,0,none⟩) x.to.length c6))):=zaa (HT.out.put (j:=6) (by omega) (Nat.le_refl _) _);have HL6:=zaa (HL6.out.keep zcd (w':=w1.setCell ⟨W.heap.size,6,none⟩ (.slice (some ⟨g6,0,none⟩) x.to.length c6)) (by simp[World.setCell]) (fun b hb _=>Below.heap_setCell _ _ _ _ (by show b≠W.heap.size;have h2:W.heap.size+2≤b:=hb;omega)));clear hs0;generalize w1.setCell ⟨W.heap.size,6,none⟩ (.slice (some ⟨g6,0,none⟩) x.to.length c6)=w2 at *;have hs0:=(zau HT.out.y);obtain⟨a0,a1,a2,a3,a4,a5,a6⟩:=zej HT.out.x;obtain⟨b0,b1,b2,b3,b4,b5,b6⟩:=zej HT.out.y;have f0:=frozen_of_row _ _ 0 _ _ HT.out.y;have f1:=frozen_of_row _ _ 1 _ _ HT.out.y;have f2:=frozen_of_row _ _ 2 _ _ HT.out.y;have f3:=frozen_of_row _ _ 3 _ _ HT.out.y;have f4:=frozen_of_row _ _ 4 _ _ HT.out.y;have f5:=frozen_of_row _ _ 5 _ _ HT.out.y;have f6:=frozen_of_row _ _ 6 _ _ HT.out.y;have hlx:=(zau HT.out.x);go_wp2_with fail;refine bodyPost_ret (v:= .agg #[.string ⟨x.name.toArray⟩,.string ⟨x.from_.m.toArray⟩,.string ⟨x.from_.p.toArray⟩,.string ⟨x.from_.o.toArray⟩,.int .i64 x.bag,.int .i64 x.max,.slice (some ⟨g6,0,none⟩) x.to.length c6]) (by simp[results,Tryz.results118,go_sem,b0,b1,b2,b3,b4,b5,b6]) rfl ?_;refine zd0.mk [.string ⟨x.name.toArray⟩,.string ⟨x.from_.m.toArray⟩,.string ⟨x.from_.p.toArray⟩,.string ⟨x.from_.o.toArray⟩,.int .i64 x.bag,.int .i64 x.max,.slice (some ⟨g6,0,none⟩) x.to.length c6] rfl ⟨_,rfl,?_⟩ ?_
 ·refine((HL6.out.keep zcd (by simp[World.setCell]) (fun b hb _=> ?_)).mono zcd (fun b hb _=>by have h2:W.heap.size+2≤b:=hb;omega))
  have h2:W.heap.size+2≤b:=hb
  iterate 7 (refine(Below.heap_setCell _ _ _ _ (by show b≠W.heap.size+1;omega)).trans ?_)
  rfl
 ·exact(((((((HT.out.b.setCell (p:=⟨W.heap.size+1,0,none⟩) (by show W.heap.size≤W.heap.size+1;omega) _).setCell (p:=⟨W.heap.size+1,1,none⟩) (by show W.heap.size≤W.heap.size+1;omega) _).setCell (p:=⟨W.heap.size+1,2,none⟩) (by show W.heap.size≤W.heap.size+1;omega) _).setCell (p:=⟨W.heap.size+1,3,none⟩) (by show W.heap.size≤W.heap.size+1;omega) _).setCell (p:=⟨W.heap.size+1,4,none⟩) (by show W.heap.size≤W.heap.size+1;omega) _).setCell (p:=⟨W.heap.size+1,5,none⟩) (by show W.heap.size≤W.heap.size+1;omega) _).setCell (p:=⟨W.heap.size+1,6,none⟩) (by show W.heap.size≤W.heap.size+1;omega) _)
def zcR:Elt zaF:=fun w G r x=> ∃u1 u2,r=[zav x.unit,u1,u2]∧LL 2 (zar zdx) (EF zcG) w G u1 x.needs∧LL 1 (zar zdA) (EF zcH) w G u2 x.but
theorem zaV:zcm zcR 3 zaF.cells where
 keep:=fun _ _ _ _ _ hz hk ⟨u1,u2,e,h1,h2⟩=>⟨u1,u2,e,h1.keep zdh hz hk,h2.keep zdS hz hk⟩
 mono:=fun _ _ _ _ _ hg ⟨u1,u2,e,h1,h2⟩=>⟨u1,u2,e,h1.mono zdh hg,h2.mono zdS hg⟩
 wide:=fun _ _ _ _ ⟨_,_,e,_⟩=>by rw[e];rfl
 dat:=fun _ _ _ _ ⟨_,_,e,h1,h2⟩=>by rw[e];exact zab.cons (.leaf _) (zab.cons (h1.dat zdh) (zab.cons (h2.dat zdS) (zab.nil)))
 one:=fun _ _ _ _ ⟨_,_,e,h1,h2⟩=>by
  have k:=And.intro h1.one h2.one;rw[e];intro v hv;simp only[List.mem_cons,List.not_mem_nil,or_false] at hv;rcases hv with rfl|rfl|rfl
  all_goals first|rfl|exact k.1|exact k.2
theorem zgX (x:zaF) (us:List Value) (W:World) (hd:Hid (zab W (fun _=>True) us x.cells)) (hl:x.needs.length≤1000000∧x.but.length≤1000000):
 Calls prog 121 #[.agg us.toArray] W fun e w'=>zd0 zcR W x e w':=by
 have hd:=hd.out;obtain⟨u0,u1,u2,rfl,h0,h1,h2⟩:=dc3 hd;obtain rfl:=h0.leaf_eq;have HU1:=zaa h1;obtain⟨A1,p1,rfl, -⟩:=h1.slice;simp only[List.length_map] at HU1 ⊢;have HU2:=zaa h2;obtain⟨A2,p2,rfl, -⟩:=h2.slice;rw[show(zao x.but).length=x.but.length by simp[zao]] at HU2 ⊢;clear hd h0 h1 h2;simp only[zav];have HT:=zaa (zbY W (.cells #[.string ⟨x.unit.toArray⟩,.slice A1 x.needs.length p1,.slice A2 x.but.length p2] 65) (.cells #[.string ⟨#[]⟩,.slice none 0 0,.slice none 0 0] 65));have hzz:(W.alloc (.cells #[.string ⟨x.unit.toArray⟩,.slice A1 x.needs.length p1,.slice A2 x.but.length p2] 65)).heap.size=W.heap.size+1:=by simp
 go_enter func121,ntmps121
 go_wp2_with fail
 (try rw[hzz])
 clear hzz;generalize(W.alloc _).alloc _=w0 at *;have hs0:=(zau HT.out.y);refine(zme _ x.needs w0 (zaa (HU1.out.later HT.out.b)) hl.1).mono ?_;rintro e w1 ⟨u1,rfl,hu,hb⟩;have HT:=zaa (HT.out.step hb);have HL1:=zaa (hu.mono zdh (H:=fun b=>W.heap.size+2≤b) (fun b hb _=>by have h2:w0.heap.size≤b:=hb;omega));have hs0:=(zau HT.out.y);obtain⟨g1,c1,heq1⟩: ∃g c,u1= .slice (some ⟨g,0,none⟩) x.needs.length c:=by obtain⟨g,c,rows,e, -⟩:=hu;exact⟨g,c,e⟩
 subst heq1;clear hb hu;obtain⟨a0,a1,a2⟩:=zcW HT.out.x;have fz:=frozen_of_row _ _ 1 _ _ HT.out.x;have hlx:=(zau HT.out.x);go_upto_region 2 with fail
 clear fz hlx a0 a1 a2;have HT:Hid (Two W W.heap.size (.cells #[.string ⟨x.unit.toArray⟩,.slice (some ⟨g1,0,none⟩) x.needs.length c1,.slice A2 x.but.length p2] 65) (W.heap.size+1) (.cells #[.string ⟨#[]⟩,.slice none 0 0,.slice none 0 0] 65) (w1.setCell ⟨W.heap.size,1,none⟩ (.slice (some ⟨g1,0,none⟩) x.needs.length c1))):=zaa (HT.out.put (j:=1) (by omega) (Nat.le_refl _) _);have HL1:=zaa (HL1.out.keep zdh (w':=w1.setCell ⟨W.heap.size,1,none⟩ (.slice (some ⟨g1,0,none⟩) x.needs.length c1)) (by simp[World.setCell]) (fun b hb _=>Below.heap_setCell _ _ _ _ (by show b≠W.heap.size;have h2:W.heap.size+2≤b:=hb;omega)));clear hs0;generalize w1.setCell ⟨W.heap.size,1,none⟩ (.slice (some ⟨g1,0,none⟩) x.needs.length c1)=w2 at *;have hs0:=(zau HT.out.y);obtain⟨a0,a1,a2⟩:=zcW HT.out.x;go_wp2_with fail;clear a0 a1 a2;refine(zlF _ x.but w2 (zaa (HU2.out.later HT.out.b)) hl.2).mono ?_;rintro e w3 ⟨u2,rfl,hu,hb⟩;have HT:=zaa (HT.out.step hb);have HL2:=zaa (hu.mono zdS (H:=fun b=>W.heap.size+2≤b) (fun b hb _=>by have h2:w2.heap.size≤b:=hb;omega));have hs0:=(zau HT.out.y);obtain⟨g2,c2,heq2⟩: ∃g c,u2= .slice (some ⟨g,0,none⟩) x.but.length c:=by obtain⟨g,c,rows,e, -⟩:=hu;exact⟨g,c,e⟩
 subst heq2;have HL1:=zaa (HL1.out.below zdh hb);clear hb hu;obtain⟨a0,a1,a2⟩:=zcW HT.out.x;have fz:=frozen_of_row _ _ 2 _ _ HT.out.x;have hlx:=(zau HT.out.x);go_upto_region 3 with fail
 clear fz hlx a0 a1 a2;have HT:Hid (Two W W.heap.size (.cells #[.string ⟨x.unit.toArray⟩,.slice (some ⟨g1,0,none⟩) x.needs.length c1,.slice (some ⟨g2,0,none⟩) x.but.length c2] 65) (W.heap.size+1) (.cells #[.string ⟨#[]⟩,.slice none 0 0,.slice none 0 0] 65) (w3.setCell ⟨W.heap.size,2,none⟩ (.slice (some ⟨g2,0,none⟩) x.but.length c2))):=zaa (HT.out.put (j:=2) (by omega) (Nat.le_refl _) _);have HL1:=zaa (HL1.out.keep zdh (w':=w3.setCell ⟨W.heap.size,2,none⟩ (.slice (some ⟨g2,0,none⟩) x.but.length c2)) (by simp[World.setCell]) (fun b hb _=>Below.heap_setCell _ _ _ _ (by show b≠W.heap.size;have h2:W.heap.size+2≤b:=hb;omega)));have HL2:=zaa (HL2.out.keep zdS (w':=w3.setCell ⟨W.heap.size,2,none⟩ (.slice (some ⟨g2,0,none⟩) x.but.length c2)) (by simp[World.setCell]) (fun b hb _=>Below.heap_setCell _ _ _ _ (by show b≠W.heap.size;have h2:W.heap.size+2≤b:=hb;omega)));clear hs0;generalize w3.setCell ⟨W.heap.size,2,none⟩ (.slice (some ⟨g2,0,none⟩) x.but.length c2)=w4 at *;have hs0:=(zau HT.out.y);obtain⟨a0,a1,a2⟩:=zcW HT.out.x;obtain⟨b0,b1,b2⟩:=zcW HT.out.y;have f0:=frozen_of_row _ _ 0 _ _ HT.out.y;have f1:=frozen_of_row _ _ 1 _ _ HT.out.y;have f2:=frozen_of_row _ _ 2 _ _ HT.out.y;have hlx:=(zau HT.out.x);go_wp2_with fail;refine bodyPost_ret (v:= .agg #[.string ⟨x.unit.toArray⟩,.slice (some ⟨g1,0,none⟩) x.needs.length c1,.slice (some ⟨g2,0,none⟩) x.but.length c2]) (by simp[results,Tryz.results121,go_sem,b0,b1,b2]) rfl ?_;refine zd0.mk [.string ⟨x.unit.toArray⟩,.slice (some ⟨g1,0,none⟩) x.needs.length c1,.slice (some ⟨g2,0,none⟩) x.but.length c2] rfl ⟨_,_,rfl,?_,?_⟩ ?_
 ·refine((HL1.out.keep zdh (by simp[World.setCell]) (fun b hb _=> ?_)).mono zdh (fun b hb _=>by have h2:W.heap.size+2≤b:=hb;omega))
  have h2:W.heap.size+2≤b:=hb
  iterate 3 (refine(Below.heap_setCell _ _ _ _ (by show b≠W.heap.size+1;omega)).trans ?_)
  rfl
 ·refine((HL2.out.keep zdS (by simp[World.setCell]) (fun b hb _=> ?_)).mono zdS (fun b hb _=>by have h2:W.heap.size+2≤b:=hb;omega))
  have h2:W.heap.size+2≤b:=hb
  iterate 3 (refine(Below.heap_setCell _ _ _ _ (by show b≠W.heap.size+1;omega)).trans ?_)
  rfl
 ·exact(((HT.out.b.setCell (p:=⟨W.heap.size+1,0,none⟩) (by show W.heap.size≤W.heap.size+1;omega) _).setCell (p:=⟨W.heap.size+1,1,none⟩) (by show W.heap.size≤W.heap.size+1;omega) _).setCell (p:=⟨W.heap.size+1,2,none⟩) (by show W.heap.size≤W.heap.size+1;omega) _)
end Go.Proofs.YtgbfaompondolaaGreatDoor
