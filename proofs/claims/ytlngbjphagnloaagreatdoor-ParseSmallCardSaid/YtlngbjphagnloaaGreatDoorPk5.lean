/- Merged texts of the walks and of the plain laws on which the statement leans.-/
import Derived.Test.YtlngbjphagnloaaGreatDoorPk3
import Derived.StillTailTactics
import Derived.Test.YtlngbjphagnloaaGreatDoorPk1
import Derived.RangeFuncNested
import Derived.RangeFuncLeaves
import Derived.RangeFuncBound
import Derived.RangeFuncCalls
import Derived.Shelf.Abstract
import Derived.Shelf.RegionOpen
import Derived.OwnWalkIn
import Derived.TacticsInMore
import Derived.LoopNIn
import Derived.LoopIn
import Derived.Sort.QuietIn
set_option maxHeartbeats 2000000
set_option maxRecDepth 100000
namespace Go.Proofs.YtlngbjphagnloaaGreatDoor
open Tryz
open Go.RowKit
attribute [local go_sem] zax.cell
def zkn:UInt8→Bool:=zgw ⟨#[123,125,59,44,46,58]⟩
theorem znO (b:UInt8):zkI b=za2 b:=rfl
theorem znq (b:UInt8):zfW 48 57 b=zaJ b:=rfl
theorem zfn (b:UInt8):zkn b=zeI b:=by
 show[123,125,59,44,46,58].contains b=zeI b
 simp only[zeI,List.contains_cons,List.contains_nil,Bool.or_false,Bool.or_assoc]
structure Sc (sb:Nat) (src:ByteArray) (F:Nat→Prop) (g1 g2 g3:Nat) (c1 c2 c3:Array Value) (w:World):Prop where
 s0:w.cell? ⟨sb,0,none⟩=some (.string src)
 s3:w.cell? ⟨sb,3,none⟩=some (.func (.func g1) #[] c1)
 s4:w.cell? ⟨sb,4,none⟩=some (.func (.func g2) #[] c2)
 s5:w.cell? ⟨sb,5,none⟩=some (.func (.func g3) #[] c3)
 i1:IsT F w g1 c1 zkI
 i2:IsT F w g2 c2 (zfW 48 57)
 i3:IsT F w g3 c3 zkn
 far: ∀k,F k→k≠sb
theorem Sc.atJ {sb j:Nat} {src:ByteArray} {F:Nat→Prop} {g1 g2 g3:Nat} {c1 c2 c3:Array Value} {w w':World} (h:Sc sb src F g1 g2 g3 c1 c2 c3 w) (k:AtJ sb j w w'):Sc sb src F g1 g2 g3 c1 c2 c3 w':=
 ⟨(k.rest 0 (by decide)).trans h.s0,(k.rest 3 (by decide)).trans h.s3,(k.rest 4 (by decide)).trans h.s4,(k.rest 5 (by decide)).trans h.s5,h.i1.atJ h.far k,h.i2.atJ h.far k,h.i3.atJ h.far k,h.far⟩
def kindOf (b:UInt8):Nat:=if za2 b then 1 else if zaJ b then 2 else 3
theorem AtJ.set {sb i:Nat} {W w:World} (h:AtJ sb i W w) (_hsb:sb<W.heap.size) (j:Nat):AtJ sb j W (w.setCell ⟨sb,1,none⟩ (.int .i64 (j:Int))):=by
 refine⟨h.kept.setCell (p:=⟨sb,1,none⟩) (Or.inl rfl) _,World.cell?_setCell_same w _ _ h.here,fun o ho=> ?_,by rw[World.frozen?_setCell];exact h.free,fun o=>by rw[World.frozen?_setCell];exact h.hold o⟩;rw[World.cell?_setCell_other w _ _ _ (fun e=>ho (by injection e with _ e2 _;exact e2.symm))];exact h.rest o ho
def emptyS:ByteArray:=⟨#[]⟩
structure NxR (sb p j:Nat) (src:ByteArray) (W:World) (κ:Nat) (w:World):Prop where
 atJ:AtJ sb p W w
 t0:w.heap[W.heap.size]? =some (.cells #[.int .u8 0,.string ⟨#[]⟩,.int .i64 0] 43 (0,0))
 t1:w.heap[W.heap.size+1]? =some (.cells #[.int .u8 (κ:Int),.string ⟨#[]⟩,.int .i64 (j:Int)] 43 (0,0))
theorem zjM {w w':World} {x:Nat} {o:Obj} (h:w.heap[x]? =some o) (hb:Below w.heap.size w w'):w'.heap[x]? =some o:=(hb.block _ (zal h)).trans h
theorem NxR.below {sb p j:Nat} {src:ByteArray} {W:World} {κ:Nat} {w w':World} (h:NxR sb p j src W κ w) (hsb:sb<W.heap.size) (hb:Below w.heap.size w w'):NxR sb p j src W κ w':=
 ⟨h.atJ.below hsb hb,zjM h.t0 hb,zjM h.t1 hb⟩
theorem AtJ.new {sb j:Nat} {W w:World} (h:AtJ sb j W w) (hsb:sb<W.heap.size) {p:Addr} (hp:W.heap.size≤p.block) (u:Value):AtJ sb j W (w.setCell p u):=by
 refine⟨h.kept.setCell (.inr hp) u,?_,fun o ho=> ?_,?_,fun o=>by rw[World.frozen?_setCell];exact h.hold o⟩
 ·rw[World.cell?_setCell_other w _ _ _ (fun e=>by have:=congrArg Addr.block e;simp at this;omega)];exact h.here
 ·rw[World.cell?_setCell_other w _ _ _ (fun e=>by have:=congrArg Addr.block e;simp at this;omega)];exact h.rest o ho
 ·rw[World.frozen?_setCell];exact h.free
theorem NxR.next {sb p j:Nat} {src:ByteArray} {W:World} {κ:Nat} {w:World} (h:NxR sb p j src W κ w) (hsb:sb<W.heap.size):NxR sb p j src W (κ+1) (w.setCell ⟨W.heap.size+1,0,none⟩ (.int .u8 ((κ:Int)+1))):=by
 refine⟨h.atJ.new hsb (by simp) _,?_,?_⟩
 ·exact(Below.heap_setCell _ _ _ _ (by simp)).trans h.t0
 ·exact heap_setCell_same w (W.heap.size+1) 0 _ _ _ h.t1
theorem NxR.set {sb p j:Nat} {src:ByteArray} {W:World} {κ:Nat} {w:World} (h:NxR sb p j src W κ w) (hsb:sb<W.heap.size) (i:Nat):NxR sb i j src W κ (w.setCell ⟨sb,1,none⟩ (.int .i64 (i:Int))):=
 ⟨h.atJ.set hsb i,(Below.heap_setCell _ _ _ _ (by show W.heap.size≠sb;omega)).trans h.t0,(Below.heap_setCell _ _ _ _ (by show W.heap.size+1≠sb;omega)).trans h.t1⟩
theorem NxR.to {sb p q j:Nat} {src:ByteArray} {W:World} {κ:Nat} {w w':World} (h:NxR sb p j src W κ w) (hsb:sb<W.heap.size) (k:AtJ sb q w w'):NxR sb q j src W κ w':=by
 have s0:=(zal h.t0);have s1:=(zal h.t1);exact⟨h.atJ.trans k,(k.kept.block _ s0 (by omega)).trans h.t0,(k.kept.block _ s1 (by omega)).trans h.t1⟩
theorem zaF {w:World} {x:Nat} {a b c:Value} {t:TypeId} (h:w.heap[x]? =some (.cells #[a,b,c] t (0,0))):w.cell? ⟨x,0,none⟩=some a∧w.cell? ⟨x,1,none⟩=some b∧w.cell? ⟨x,2,none⟩=some c∧
 w.frozen? ⟨x,0,none⟩=false∧w.frozen? ⟨x,1,none⟩=false∧w.frozen? ⟨x,2,none⟩=false∧x<w.heap.size:=by
 have c0:=cell_of_row w x 0 _ _ _ h;have c1:=cell_of_row w x 1 _ _ _ h;have c2:=cell_of_row w x 2 _ _ _ h;simp only[List.getElem?_toArray,List.getElem?_cons_zero,List.getElem?_cons_succ] at c0 c1 c2;exact⟨c0,c1,c2,frozen_of_row w x 0 _ _ h,frozen_of_row w x 1 _ _ h,frozen_of_row w x 2 _ _ h,(zal h)⟩
def kOf (x:Nat) (w:World):Nat:=(intOf ((w.cell? ⟨x,0,none⟩).getD (.int .u8 0))).toNat
theorem NxR.kOf {sb p j:Nat} {src:ByteArray} {W:World} {κ:Nat} {w:World} (h:NxR sb p j src W κ w):kOf (W.heap.size+1) w=κ:=by
 unfold Go.Proofs.YtlngbjphagnloaaGreatDoor.kOf;rw[(zaF h.t1).1];simp[intOf]
theorem zfo (src:ByteArray) (j:Nat) (hj:j<src.size):za9 ((zan src).drop j)=za9 (src[j]::(zan src).drop (j+1)):=by rw[zaO src j hj]
theorem zkN (src:ByteArray) (j:Nat) (hj:j<src.size) (h1:za2 src[j]=false) (h2:zaJ src[j]=false) (h3:zkn src[j]=false):za9 ((zan src).drop j)=(3,0,70):=by
 rw[zfo src j hj];unfold za9;rw[zfn] at h3;simp[h1,h2,h3]
theorem ziU (src:ByteArray) (j:Nat) (hj:j<src.size) (h1:za2 src[j]=false) (h2:zaJ src[j]=false) (h3:zkn src[j]=true):za9 ((zan src).drop j)=(3,1,0):=by
 rw[zfo src j hj];unfold za9;rw[zfn] at h3;simp[h1,h2,h3]
theorem ziD (src:ByteArray) (j:Nat):za7 zaP src (j+1)=j+1+zcX ((zan src).drop (j+1)):=rfl
theorem zgH (src:ByteArray) (j:Nat) (hj:j<src.size) (h1:za2 src[j]=true):za9 ((zan src).drop j)=(1,za7 zaP src (j+1)-j,if 24<za7 zaP src (j+1)-j then 71 else 0):=by
 rw[zfo src j hj,ziD,show j+1+zcX ((zan src).drop (j+1))-j=1+zcX ((zan src).drop (j+1)) from by omega];unfold za9;simp only[h1,if_true]
 split<;>rfl
theorem zlU (src:ByteArray) (j:Nat) (hj:j<src.size) (h1:za2 src[j]=false) (h2:zaJ src[j]=true):za9 ((zan src).drop j)=(2,za7 zaP src (j+1)-j,if zd6 (src[j]::((zan src).drop (j+1)).take (zcX ((zan src).drop (j+1)))) then 0 else 72):=by
 rw[zfo src j hj,ziD,show j+1+zcX ((zan src).drop (j+1))-j=1+zcX ((zan src).drop (j+1)) from by omega];unfold za9;simp only[h1,h2,if_true];simp only[Bool.false_eq_true,if_false]
 split<;>rfl
theorem zhb (g1 g2 n:Nat) (k1 k2 k5:Array Value):zhS [⟨g1,k1,zkI⟩,⟨g2,k2,zfW 48 57⟩,⟨n,k5,zgw ⟨#[95]⟩⟩]=zaP:=by
 funext b
 have h:zgw ⟨#[95]⟩ b=(b==95):=by
  show[95].contains b=(b==95)
  simp only[List.contains_cons,List.contains_nil,Bool.or_false]
 simp only[zhS,List.any_cons,List.any_nil,Bool.or_false,znO,znq,h,zaP,Bool.or_assoc]
theorem IsT.grow {F G:Nat→Prop} {w w':World} {f:Nat} {caps:Array Value} {p:UInt8→Bool} (h:IsT F w f caps p) (hb:Below w.heap.size w w') (hG: ∀k,F k→G k) (hlt: ∀k,G k→k<w'.heap.size):IsT G w' f caps p:=(h.below hb).wide hG hlt
theorem zds {F:Nat→Prop} {wy w1:World} {g1 g2 a5:Nat} {k1 k2 k5:Array Value} (H1:IsT F wy g1 k1 zkI) (H2:IsT F wy g2 k2 (zfW 48 57)) (hb:Below wy.heap.size wy w1) (H5:IsT (fun k=>k=wy.heap.size) w1 a5 k5 (zgw ⟨#[95]⟩)) (o:Obj):
 (∀t∈([⟨g1,k1,zkI⟩,⟨g2,k2,zfW 48 57⟩,⟨a5,k5,zgw ⟨#[95]⟩⟩]:List TB),IsT (fun k=>F k∨k=wy.heap.size) (w1.alloc o) t.f t.caps t.p)∧(∀k,(F k∨k=wy.heap.size)→k<(w1.alloc o).heap.size):=by
 have hb2:Below w1.heap.size w1 (w1.alloc o):=(Below.refl _ _).alloc (Nat.le_refl _) _;have hG: ∀k,(F k∨k=wy.heap.size)→k<(w1.alloc o).heap.size:=by
  intro k hk;have:=hb.size;rcases hk with hk|rfl
  ·have:=H1.inn k hk;simp;omega
  ·have:=H5.inn _ rfl;simp;omega
 refine⟨fun t ht=> ?_,hG⟩;simp only[List.mem_cons,List.not_mem_nil,or_false] at ht;rcases ht with rfl|rfl|rfl
 ·exact(H1.below hb).grow hb2 (fun k h=> .inl h) hG
 ·exact(H2.below hb).grow hb2 (fun k h=> .inl h) hG
 ·exact H5.grow hb2 (fun k h=> .inr h) hG
theorem far3 {F:Nat→Prop} {sb x y z:Nat} (hF: ∀k,F k→k≠sb) (h1:sb<x) (h2:sb<y) (h3:sb<z) (k:Nat) (hk:(F k∨k=x)∨k=y∨k=z):k≠sb:=by
 rcases hk with(hk|rfl)|rfl|rfl
 ·exact hF k hk
 all_goals omega
theorem zmY (sb j:Nat) (src:ByteArray) (F:Nat→Prop) (g1 g2 g3:Nat) (k1 k2 k3:Array Value) (W:World) (h4:6≤sb) (hS:Hid (Sc sb src F g1 g2 g3 k1 k2 k3 W)) (hj:j<src.size) (hs:src.size≤1099511627776)
 (c1:Hid (W.cell? ⟨sb,1,none⟩=some (.int .i64 (j:Int)))) (cf:Hid (W.frozen? ⟨sb,1,none⟩=false)) (hE:Hid (Env W)) (kd ln er:Nat) (htok:Hid (za9 ((zan src).drop j)=(kd,ln,er))):
 Calls prog 75 #[.pointer (some ⟨sb,0,none⟩)] W fun e W'=>e= .returned (.tuple #[.agg #[.int .u8 (kd:Int),.string (src.extract j (j+ln)),.int .i64 (j:Int)],.int .i64 (er:Int)])∧AtJ sb (j+ln) W W':=by
 have hsb:sb<W.heap.size:=World.block_lt_of_cell? W ⟨sb,1,none⟩ c1.out;have HJ0:=zaa (AtJ.start c1.out cf.out);have HA:=zaa (fun s w=>zfJ s w);have d1:=c1.out
 go_enter func75,ntmps75
 go_wp2_with fail;clear d1;have HN0:Hid (NxR sb j j src W 1 ((W.alloc (.cells #[.int .u8 0,.string ⟨#[]⟩,.int .i64 0] 43)).alloc (.cells #[.int .u8 1,.string ⟨#[]⟩,.int .i64 (j:Int)] 43))):=by
  refine zaa ⟨HJ0.out.below hsb (((Below.refl _ _).alloc (Nat.le_refl _) _).alloc (by simp) _),(Below.heap_alloc _ _ _ (by simp)).trans (heap_alloc_new W _),?_⟩;have:=heap_alloc_new (W.alloc (.cells #[.int .u8 0,.string ⟨#[]⟩,.int .i64 0] 43)) (.cells #[.int .u8 1,.string ⟨#[]⟩,.int .i64 (j:Int)] 43);rw[World.size_alloc] at this;exact this
 go_loopw [] (fun wr=> ∃κ:Nat,(κ=1∨(κ=2∧za2 src[j]=false)∨(κ=3∧za2 src[j]=false∧zaJ src[j]=false))∧NxR sb j j src W κ wr) (fun wr=>3-kOf (W.heap.size+1) wr)
 case atStart=>exact⟨1,.inl rfl,HN0.out⟩
 case round=>
  obtain⟨κ,hκ,hR⟩:=hrel;have HR:=zaa hR;have HS:=zaa (hS.out.atJ hR.atJ);have d0:=HS.out.s0;have d1:=hR.atJ.here;have hwr:sb<wr.heap.size:=World.block_lt_of_cell? wr ⟨sb,1,none⟩ d1;obtain⟨x0, -, -, -, -, -,hx1⟩:=zaF hR.t1;clear hR HN0;rcases hκ with rfl|⟨rfl,hl⟩|⟨rfl,hl,hd⟩
  ·have d3:=HS.out.s3
   cases hl:za2 src[j]
   ·have HL:=zaa hl
    have HC:=zaa (fun s:zax wr=>ze6 sb _ j _ _ F src s.w ((s.below.cell (p:=⟨sb,0,none⟩) hwr).trans d0) ((s.below.cell (p:=⟨sb,1,none⟩) hwr).trans d1) hj hs (zaa (HS.out.i1.below s.below)) false hl);go_wp2_with fail;refine zaq (by kernel_rfl) (by kernel_rfl) ?_
    repeat(go_big_quiet_step (exact zax.call (HC.out _)))
    refine wpQuiet_nil ?_;intro _ hw';obtain⟨nq,hw''⟩:=hw';subst hw'';have HX:=zaa (HR.out.below hsb nq.below);generalize nq.w=wx at *;clear HC d0 d1 d3 x0;obtain⟨x0,x1,x2,y0,y1,y2,xl⟩:=zaF HX.out.t1;obtain⟨z0,z1,z2,r0,r1,r2,zl⟩:=zaF HX.out.t0;clear hl;go_wp2_with fail;have HK:=zaa (HX.out.next hsb);have HM:=zaa (show 3-kOf (W.heap.size+1) (wx.setCell ⟨W.heap.size+1,0,none⟩ (.int .u8 (((1:Nat):Int)+1)))<3-kOf (W.heap.size+1) wr by rw[HK.out.kOf,HR.out.kOf];omega);go_roundw
    case rel=>exact⟨2,.inr (.inl ⟨rfl,by first|trivial|exact HL.out⟩),HK.out⟩
    case measure=>exact HM.out
   ·
    have HC:=zaa (fun s:zax wr=>ze6 sb _ j _ _ F src s.w ((s.below.cell (p:=⟨sb,0,none⟩) hwr).trans d0) ((s.below.cell (p:=⟨sb,1,none⟩) hwr).trans d1) hj hs (zaa (HS.out.i1.below s.below)) true hl);go_wp2_with fail;refine zaq (by kernel_rfl) (by kernel_rfl) ?_
    repeat(go_big_quiet_step (exact zax.call (HC.out _)))
    refine wpQuiet_nil ?_;intro _ hw';obtain⟨nq,hw''⟩:=hw';subst hw'';have HX:=zaa (HR.out.below hsb nq.below);generalize nq.w=wx at *;clear HC d0 d1 d3 x0;obtain⟨x0,x1,x2,y0,y1,y2,xl⟩:=zaF HX.out.t1;obtain⟨z0,z1,z2,r0,r1,r2,zl⟩:=zaF HX.out.t0;have HL:=zaa hl;clear hl;have d1:=HX.out.atJ.here;have f1:=HX.out.atJ.free;have hxs:=HX.out.atJ.kept.size;go_wp2_with fail;have HY:=zaa (HX.out.set hsb (j+1));have e1:((j+1:Nat):Int)=(j:Int)+1:=by omega
    rw[e1] at HY;clear e1;generalize wx.setCell ⟨sb,1,none⟩ (.int .i64 ((j:Int)+1))=wy at *;clear x0 x1 x2 y0 y1 y2 xl z0 z1 z2 r0 r1 r2 zl d1 f1;have HSY:=zaa (hS.out.atJ HY.out.atJ);have q3:=HSY.out.s3;have q4:=HSY.out.s4;have hys:W.heap.size≤wy.heap.size:=HY.out.atJ.kept.size;have hsy:sb<wy.heap.size:=by omega
    go_region_held3 (fun w'=>w'.cell? ⟨sb,3,none⟩=some (.func (.func g1) #[] k1)∧w'.cell? ⟨sb,4,none⟩=some (.func (.func g2) #[] k2)) (go_keep)
     (first
       |(go_at_call 72;refine(HA.out _ _).mono ?_;rintro e w1 ⟨k5,rfl,hT1,hb1⟩;have hb1':Below wy.heap.size wy w1:=((Below.refl _ _).drew).trans hb1;have p3:=(hb1'.cell (p:=⟨sb,3,none⟩) hsy).trans q3;have p4:=(hb1'.cell (p:=⟨sb,4,none⟩) hsy).trans q4;have h1y:=hb1'.size;have h1z:sb<w1.heap.size:=(by omega);have HT1:Hid (IsT (fun k=>k=wy.heap.size) w1 108 k5 (zgw ⟨#[95]⟩)):=zaa hT1;have HB1:=zaa hb1';clear hT1 hb1 hb1')
       |(go_at_call 70;refine(zeD w1.heap.size [⟨g1,k1,zkI⟩,⟨g2,k2,zfW 48 57⟩,⟨108,k5,zgw ⟨#[95]⟩⟩] (fun k=>F k∨k=wy.heap.size) _ (by simp) (zaa (heap_alloc_new w1 _)) (zaa (zds HSY.out.i1 HSY.out.i2 HB1.out HT1.out _).1) (zds HSY.out.i1 HSY.out.i2 HB1.out HT1.out _).2).mono ?_;rintro e w2 ⟨k6,rfl,hT2,hb2⟩;have hb2':Below w1.heap.size w1 w2:=((Below.refl _ _).alloc (Nat.le_refl _) _).trans (hb2.mono (by simp));have p5:=(hb2'.cell (p:=⟨sb,3,none⟩) h1z).trans p3;have p6:=(hb2'.cell (p:=⟨sb,4,none⟩) h1z).trans p4;rw[zhb] at hT2;have HT2:=zaa hT2;have HF2:=zaa (fun k (hk:(F k∨k=wy.heap.size)∨k=w1.heap.size∨k=(w1.alloc (Obj.cells #[.func (.func g1) #[] k1,.func (.func g2) #[] k2,.func (.func 108) #[] k5] 102)).heap.size)=>far3 HSY.out.far hsy h1z (by simp;omega) k hk);have HY2:=zaa ((HY.out.below hsb HB1.out).below hsb hb2');clear hT2 hb2 hb2')
       |(go_at_call 110;refine(zdH sb _ (j+1) _ zaP _ src w2 (zaa ((HY2.out.atJ.rest 0 (by decide)).trans hS.out.s0)) (zaa HY2.out.atJ.here) (zaa HY2.out.atJ.free) hj hs HT2 HF2).mono ?_;rintro e w3 ⟨rfl,hJ3⟩;have p7:=(hJ3.rest 3 (by decide)).trans p5;have p8:=(hJ3.rest 4 (by decide)).trans p6;have HY3:=zaa (HY2.out.to hsb hJ3);clear hJ3))
    clear p3 p4 p5 p6 p7 p8 q3 q4 h1y h1z HT1 HT2 HB1 HF2 HY2;have hq0:=(zcF zaP src (j+1) hj).1;have hq1:=(zcF zaP src (j+1) hj).2;generalize hq:za7 zaP src (j+1)=q at *;have HQ:=zaa hq;clear hq;generalize w3=v3 at *;have HE3:Hid (Env v3):=zaa (hE.out.keptB (HY3.out.atJ.kept.below (B:=sb) (Nat.le_of_lt hsb) (fun i hi e=>by omega)) h4);obtain⟨x0,x1,x2,y0,y1,y2,xl⟩:=zaF HY3.out.t1;obtain⟨z0,z1,z2,r0,r1,r2,zl⟩:=zaF HY3.out.t0;have d0:=(HY3.out.atJ.rest 0 (by decide)).trans hS.out.s0;have d1:=HY3.out.atJ.here;have i0:(0:Int)≤(j:Int):=by omega
    have i1:(j:Int)≤(q:Int):=by omega
    have i2:(q:Int)≤(src.size:Int):=by omega
    go_wp2_with fail
    go_still_tail 14,(by kernel_rfl)
    generalize htx:src.extract j q=tx at *;have hsz:tx.size=q-j:=by rw[←htx,ByteArray.size_extract];omega
    have HTX:=zaa htx;have HSZ:=zaa hsz;clear htx d0 d1 x0 x2 y0 y2 z0 z1 z2;have HJ4:=zaa (HY3.out.atJ.below hsb ((Below.refl _ _).drew));obtain⟨x0,x1,x2,y0,y1,y2,xl⟩:=zaF HY3.out.t1;obtain⟨z0,z1,z2,r0,r1,r2,zl⟩:=zaF HY3.out.t0
    change wpList _ _ _ _ _ v3.drew
    by_cases hlen:24<tx.size
    ·have ht:=htok.out.symm.trans (zgH src j hj HL.out)
     rw[HQ.out,if_pos (by rw[←HSZ.out];exact hlen)] at ht;have HTK:=zaa ht;clear ht;go_wp2_with fail;refine bodyPost_ret (v:= .tuple #[.agg #[.int .u8 1,.string tx,.int .i64 (j:Int)],.int .i64 71]) (by simp[results,Tryz.results75,go_sem,z0,z1,z2]) rfl ?_;have ht:=HTK.out;simp only[Prod.mk.injEq] at ht;obtain⟨rfl,rfl,rfl⟩:=ht;rw[show j+(q-j)=q from by omega];refine⟨by rw[HTX.out];rfl,?_⟩;exact(((HJ4.out.new hsb (by simp) _).new hsb (by simp) _).new hsb (by simp) _).new hsb (by simp) _
    ·have ht:=htok.out.symm.trans (zgH src j hj HL.out)
     rw[HQ.out,if_neg (by rw[←HSZ.out];exact hlen)] at ht;have HTK:=zaa ht;clear ht;go_wp2_with fail;refine bodyPost_ret (v:= .tuple #[.agg #[.int .u8 1,.string tx,.int .i64 (j:Int)],.int .i64 0]) (by simp[results,Tryz.results75,go_sem,z0,z1,z2]) rfl ?_;have ht:=HTK.out;simp only[Prod.mk.injEq] at ht;obtain⟨rfl,rfl,rfl⟩:=ht;rw[show j+(q-j)=q from by omega];refine⟨by rw[HTX.out];rfl,?_⟩;exact(((HJ4.out.new hsb (by simp) _).new hsb (by simp) _).new hsb (by simp) _).new hsb (by simp) _
  ·have d3:=HS.out.s4
   cases hd:zaJ src[j]
   ·have HL:=zaa hl
    have HD:=zaa hd;have HC:=zaa (fun s:zax wr=>ze6 sb _ j _ _ F src s.w ((s.below.cell (p:=⟨sb,0,none⟩) hwr).trans d0) ((s.below.cell (p:=⟨sb,1,none⟩) hwr).trans d1) hj hs (zaa (HS.out.i2.below s.below)) false hd);go_wp2_with fail;refine zaq (by kernel_rfl) (by kernel_rfl) ?_
    repeat(go_big_quiet_step (exact zax.call (HC.out _)))
    refine wpQuiet_nil ?_;intro _ hw';obtain⟨nq,hw''⟩:=hw';subst hw'';have HX:=zaa (HR.out.below hsb nq.below);generalize nq.w=wx at *;clear HC d0 d1 d3 x0;obtain⟨x0,x1,x2,y0,y1,y2,xl⟩:=zaF HX.out.t1;obtain⟨z0,z1,z2,r0,r1,r2,zl⟩:=zaF HX.out.t0;clear hl hd;go_wp2_with fail;have HK:=zaa (HX.out.next hsb);have HM:=zaa (show 3-kOf (W.heap.size+1) (wx.setCell ⟨W.heap.size+1,0,none⟩ (.int .u8 (((2:Nat):Int)+1)))<3-kOf (W.heap.size+1) wr by rw[HK.out.kOf,HR.out.kOf];omega);go_roundw
    case rel=>exact⟨3,.inr (.inr ⟨rfl,by first|trivial|exact HL.out,by first|trivial|exact HD.out⟩),HK.out⟩
    case measure=>exact HM.out
   ·
    have HC:=zaa (fun s:zax wr=>ze6 sb _ j _ _ F src s.w ((s.below.cell (p:=⟨sb,0,none⟩) hwr).trans d0) ((s.below.cell (p:=⟨sb,1,none⟩) hwr).trans d1) hj hs (zaa (HS.out.i2.below s.below)) true hd);go_wp2_with fail;refine zaq (by kernel_rfl) (by kernel_rfl) ?_
    repeat(go_big_quiet_step (exact zax.call (HC.out _)))
    refine wpQuiet_nil ?_;intro _ hw';obtain⟨nq,hw''⟩:=hw';subst hw'';have HX:=zaa (HR.out.below hsb nq.below);generalize nq.w=wx at *;clear HC d0 d1 d3 x0;obtain⟨x0,x1,x2,y0,y1,y2,xl⟩:=zaF HX.out.t1;obtain⟨z0,z1,z2,r0,r1,r2,zl⟩:=zaF HX.out.t0;have HL:=zaa hl;have HD:=zaa hd;clear hl hd;have d1:=HX.out.atJ.here;have f1:=HX.out.atJ.free;have hxs:=HX.out.atJ.kept.size;go_wp2_with fail;have HY:=zaa (HX.out.set hsb (j+1));have e1:((j+1:Nat):Int)=(j:Int)+1:=by omega
    rw[e1] at HY;clear e1;generalize wx.setCell ⟨sb,1,none⟩ (.int .i64 ((j:Int)+1))=wy at *;clear x0 x1 x2 y0 y1 y2 xl z0 z1 z2 r0 r1 r2 zl d1 f1;have HSY:=zaa (hS.out.atJ HY.out.atJ);have q3:=HSY.out.s3;have q4:=HSY.out.s4;have hys:W.heap.size≤wy.heap.size:=HY.out.atJ.kept.size;have hsy:sb<wy.heap.size:=by omega
    go_region_held3 (fun w'=>w'.cell? ⟨sb,3,none⟩=some (.func (.func g1) #[] k1)∧w'.cell? ⟨sb,4,none⟩=some (.func (.func g2) #[] k2)) (go_keep)
     (first
       |(go_at_call 72;refine(HA.out _ _).mono ?_;rintro e w1 ⟨k5,rfl,hT1,hb1⟩;have hb1':Below wy.heap.size wy w1:=((Below.refl _ _).drew).trans hb1;have p3:=(hb1'.cell (p:=⟨sb,3,none⟩) hsy).trans q3;have p4:=(hb1'.cell (p:=⟨sb,4,none⟩) hsy).trans q4;have h1y:=hb1'.size;have h1z:sb<w1.heap.size:=(by omega);have HT1:Hid (IsT (fun k=>k=wy.heap.size) w1 108 k5 (zgw ⟨#[95]⟩)):=zaa hT1;have HB1:=zaa hb1';clear hT1 hb1 hb1')
       |(go_at_call 70;refine(zeD w1.heap.size [⟨g1,k1,zkI⟩,⟨g2,k2,zfW 48 57⟩,⟨108,k5,zgw ⟨#[95]⟩⟩] (fun k=>F k∨k=wy.heap.size) _ (by simp) (zaa (heap_alloc_new w1 _)) (zaa (zds HSY.out.i1 HSY.out.i2 HB1.out HT1.out _).1) (zds HSY.out.i1 HSY.out.i2 HB1.out HT1.out _).2).mono ?_;rintro e w2 ⟨k6,rfl,hT2,hb2⟩;have hb2':Below w1.heap.size w1 w2:=((Below.refl _ _).alloc (Nat.le_refl _) _).trans (hb2.mono (by simp));have p5:=(hb2'.cell (p:=⟨sb,3,none⟩) h1z).trans p3;have p6:=(hb2'.cell (p:=⟨sb,4,none⟩) h1z).trans p4;rw[zhb] at hT2;have HT2:=zaa hT2;have HF2:=zaa (fun k (hk:(F k∨k=wy.heap.size)∨k=w1.heap.size∨k=(w1.alloc (Obj.cells #[.func (.func g1) #[] k1,.func (.func g2) #[] k2,.func (.func 108) #[] k5] 102)).heap.size)=>far3 HSY.out.far hsy h1z (by simp;omega) k hk);have HY2:=zaa ((HY.out.below hsb HB1.out).below hsb hb2');clear hT2 hb2 hb2')
       |(go_at_call 110;refine(zdH sb _ (j+1) _ zaP _ src w2 (zaa ((HY2.out.atJ.rest 0 (by decide)).trans hS.out.s0)) (zaa HY2.out.atJ.here) (zaa HY2.out.atJ.free) hj hs HT2 HF2).mono ?_;rintro e w3 ⟨rfl,hJ3⟩;have p7:=(hJ3.rest 3 (by decide)).trans p5;have p8:=(hJ3.rest 4 (by decide)).trans p6;have HY3:=zaa (HY2.out.to hsb hJ3);clear hJ3))
    clear p3 p4 p5 p6 p7 p8 q3 q4 h1y h1z HT1 HT2 HB1 HF2 HY2;have hq0:=(zcF zaP src (j+1) hj).1;have hq1:=(zcF zaP src (j+1) hj).2;generalize hq:za7 zaP src (j+1)=q at *;have HQ:=zaa hq;clear hq;generalize w3=v3 at *;have HE3:Hid (Env v3):=zaa (hE.out.keptB (HY3.out.atJ.kept.below (B:=sb) (Nat.le_of_lt hsb) (fun i hi e=>by omega)) h4);obtain⟨x0,x1,x2,y0,y1,y2,xl⟩:=zaF HY3.out.t1;obtain⟨z0,z1,z2,r0,r1,r2,zl⟩:=zaF HY3.out.t0;have d0:=(HY3.out.atJ.rest 0 (by decide)).trans hS.out.s0;have d1:=HY3.out.atJ.here;have i0:(0:Int)≤(j:Int):=by omega
    have i1:(j:Int)≤(q:Int):=by omega
    have i2:(q:Int)≤(src.size:Int):=by omega
    go_wp2_with fail
    go_still_tail 14,(by kernel_rfl)
    generalize htx:src.extract j q=tx at *;have hsz:tx.size=q-j:=by rw[←htx,ByteArray.size_extract];omega
    have HTX:=zaa htx;have HSZ:=zaa hsz;clear htx d0 d1 x0 x2 y0 y2 z0 z1 z2;have HJ4:=zaa (HY3.out.atJ.below hsb ((Below.refl _ _).drew));obtain⟨x0,x1,x2,y0,y1,y2,xl⟩:=zaF HY3.out.t1;obtain⟨z0,z1,z2,r0,r1,r2,zl⟩:=zaF HY3.out.t0
    change wpList _ _ _ _ _ v3.drew
    have ht:=htok.out.symm.trans (zlU src j hj HL.out HD.out);rw[HQ.out] at ht;have hbytes:tx.data.toList=src[j]::((zan src).drop (j+1)).take (zcX ((zan src).drop (j+1))):=by
     have hrun:=ziD src j;rw[HQ.out] at hrun;rw[←HTX.out,Lib.extract_data,show q-j=1+zcX ((zan src).drop (j+1)) from by omega];have:=zaO src j hj;unfold zan at this ⊢;rw[this,Nat.add_comm 1,List.take_succ_cons]
    rw[←hbytes] at ht;have hdig:Hid (∃b r,tx.data.toList=b::r∧zaJ b=true):=zaa ⟨_,_,hbytes,HD.out⟩;have hnc:zkK tx.data.toList=zd6 tx.data.toList:=by rw[hbytes];exact znI _ _ HD.out
    have hE4: ∀w',zam (fun k=>k=W.heap.size+1) v3 w'→Env w':=fun w' hk=>HE3.out.keptB (hk.below (B:=W.heap.size) (by omega) (fun i hi e=>by omega)) (by omega)
    have HN:=zaa (fun w' (hk:zam (fun k=>k=W.heap.size+1) v3 w')=>zjx tx w' (by rw[HSZ.out];omega) (zaa (hE4 w' hk)) hdig);rw[hnc] at HN;generalize zd6 tx.data.toList=nb at *;have HTK:=zaa ht;clear ht hbytes hnc hE4
    cases nb
    ·go_wp2_with fail
     refine(HN.out _ ((zam.refl (fun k=>k=W.heap.size+1) v3).drew.setCell (p:=⟨W.heap.size+1,1,none⟩) (Or.inl rfl) _)).mono ?_;rintro e w5 ⟨rfl,hb5⟩;have HT:=zaa (zjM (heap_setCell_same v3.drew (W.heap.size+1) 1 _ _ (.string tx) HY3.out.t1) hb5);have HR0:=zaa (zjM ((Below.heap_setCell v3.drew _ (.string tx) _ (by simp)).trans HY3.out.t0) hb5);have HJ5:=zaa ((HJ4.out.new hsb (p:=⟨W.heap.size+1,1,none⟩) (by simp) (.string tx)).below hsb hb5);clear hb5 x0 x1 x2 y0 y1 y2 xl z0 z1 z2 r0 r1 r2 zl;obtain⟨x0,x1,x2,y0,y1,y2,xl⟩:=zaF HT.out;obtain⟨z0,z1,z2,r0,r1,r2,zl⟩:=zaF HR0.out;go_wp2_with fail;refine bodyPost_ret (v:= .tuple #[.agg #[.int .u8 2,.string tx,.int .i64 (j:Int)],.int .i64 72]) (by simp[results,Tryz.results75,go_sem,z0,z1,z2]) rfl ?_;have ht:=HTK.out;simp only[Prod.mk.injEq] at ht;obtain⟨rfl,rfl,rfl⟩:=ht;rw[show j+(q-j)=q from by omega];refine⟨by rw[HTX.out];rfl,?_⟩;exact((HJ5.out.new hsb (by simp) _).new hsb (by simp) _).new hsb (by simp) _
    ·go_wp2_with fail
     refine(HN.out _ ((zam.refl (fun k=>k=W.heap.size+1) v3).drew.setCell (p:=⟨W.heap.size+1,1,none⟩) (Or.inl rfl) _)).mono ?_;rintro e w5 ⟨rfl,hb5⟩;have HT:=zaa (zjM (heap_setCell_same v3.drew (W.heap.size+1) 1 _ _ (.string tx) HY3.out.t1) hb5);have HR0:=zaa (zjM ((Below.heap_setCell v3.drew _ (.string tx) _ (by simp)).trans HY3.out.t0) hb5);have HJ5:=zaa ((HJ4.out.new hsb (p:=⟨W.heap.size+1,1,none⟩) (by simp) (.string tx)).below hsb hb5);clear hb5 x0 x1 x2 y0 y1 y2 xl z0 z1 z2 r0 r1 r2 zl;obtain⟨x0,x1,x2,y0,y1,y2,xl⟩:=zaF HT.out;obtain⟨z0,z1,z2,r0,r1,r2,zl⟩:=zaF HR0.out;go_wp2_with fail;refine bodyPost_ret (v:= .tuple #[.agg #[.int .u8 2,.string tx,.int .i64 (j:Int)],.int .i64 0]) (by simp[results,Tryz.results75,go_sem,z0,z1,z2]) rfl ?_;have ht:=HTK.out;simp only[Prod.mk.injEq] at ht;obtain⟨rfl,rfl,rfl⟩:=ht;rw[show j+(q-j)=q from by omega];refine⟨by rw[HTX.out];rfl,?_⟩;exact((HJ5.out.new hsb (by simp) _).new hsb (by simp) _).new hsb (by simp) _
  ·have d3:=HS.out.s5
   have HL:=zaa hl;have HD:=zaa hd
   cases hg:zkn src[j]
   ·
    have HC:=zaa (fun s:zax wr=>ze6 sb _ j _ _ F src s.w ((s.below.cell (p:=⟨sb,0,none⟩) hwr).trans d0) ((s.below.cell (p:=⟨sb,1,none⟩) hwr).trans d1) hj hs (zaa (HS.out.i3.below s.below)) false hg);go_wp2_with fail;refine zaq (by kernel_rfl) (by kernel_rfl) ?_
    repeat(go_big_quiet_step (exact zax.call (HC.out _)))
    refine wpQuiet_nil ?_;intro _ hw';obtain⟨nq,hw''⟩:=hw';subst hw'';have HX:=zaa (HR.out.below hsb nq.below);generalize nq.w=wx at *;clear HC d0 d1 d3 x0;obtain⟨x0,x1,x2,y0,y1,y2,xl⟩:=zaF HX.out.t1;obtain⟨z0,z1,z2,r0,r1,r2,zl⟩:=zaF HX.out.t0;have HG:=zaa hg;clear hl hd hg;go_wp2_with fail;refine bodyPost_ret (v:= .tuple #[.agg #[.int .u8 3,.string ⟨#[]⟩,.int .i64 (j:Int)],.int .i64 70]) (by simp[results,Tryz.results75,go_sem,z0,z1,z2]) rfl ?_;have ht:=htok.out.symm.trans (zkN src j hj HL.out HD.out HG.out);simp only[Prod.mk.injEq] at ht;obtain⟨rfl,rfl,rfl⟩:=ht;have he:src.extract j (j+0)=⟨#[]⟩:=by apply ByteArray.ext;simp
    refine⟨by rw[he];rfl,?_⟩;exact((HX.out.atJ.new hsb (by simp) _).new hsb (by simp) _).new hsb (by simp) _
   ·
    have HC:=zaa (fun s:zax wr=>ze6 sb _ j _ _ F src s.w ((s.below.cell (p:=⟨sb,0,none⟩) hwr).trans d0) ((s.below.cell (p:=⟨sb,1,none⟩) hwr).trans d1) hj hs (zaa (HS.out.i3.below s.below)) true hg);go_wp2_with fail;refine zaq (by kernel_rfl) (by kernel_rfl) ?_
    repeat(go_big_quiet_step (exact zax.call (HC.out _)))
    refine wpQuiet_nil ?_;intro _ hw';obtain⟨nq,hw''⟩:=hw';subst hw'';have HX:=zaa (HR.out.below hsb nq.below);generalize nq.w=wx at *;clear HC d0 d1 d3 x0;obtain⟨x0,x1,x2,y0,y1,y2,xl⟩:=zaF HX.out.t1;obtain⟨z0,z1,z2,r0,r1,r2,zl⟩:=zaF HX.out.t0;have HG:=zaa hg;clear hl hd hg;have d1:=HX.out.atJ.here;have f1:=HX.out.atJ.free;have hxs:=HX.out.atJ.kept.size;go_wp2_with fail;have HY:=zaa (HX.out.set hsb (j+1));have e1:((j+1:Nat):Int)=(j:Int)+1:=by omega
    rw[e1] at HY;clear e1;generalize wx.setCell ⟨sb,1,none⟩ (.int .i64 ((j:Int)+1))=v3 at *;clear x0 x1 x2 y0 y1 y2 xl z0 z1 z2 r0 r1 r2 zl d1 f1;have e1:((j+1:Nat):Int)=(j:Int)+1:=by omega
    obtain⟨x0,x1,x2,y0,y1,y2,xl⟩:=zaF HY.out.t1;obtain⟨z0,z1,z2,r0,r1,r2,zl⟩:=zaF HY.out.t0;have d0:=(HY.out.atJ.rest 0 (by decide)).trans hS.out.s0;have d1:=HY.out.atJ.here;rw[e1] at d1;have i0:(0:Int)≤(j:Int):=by omega
    have i1:(j:Int)≤(j:Int)+1:=by omega
    have i2:(j:Int)+1≤(src.size:Int):=by omega
    have i3:((j:Int)+1).toNat=j+1:=by omega
    clear e1;go_wp2_with fail
    go_still_tail 14,(by kernel_rfl)
    generalize htx:src.extract j (j+1)=tx at *;have HTX:=zaa htx;clear htx d0 d1 x0 x2 y0 y2 z0 z1 z2 i3;have HJ4:=zaa (HY.out.atJ.below hsb ((Below.refl _ _).drew));obtain⟨x0,x1,x2,y0,y1,y2,xl⟩:=zaF HY.out.t1;obtain⟨z0,z1,z2,r0,r1,r2,zl⟩:=zaF HY.out.t0;have HTK:=zaa (htok.out.symm.trans (ziU src j hj HL.out HD.out HG.out))
    change wpList _ _ _ _ _ v3.drew
    go_wp2_with fail;refine bodyPost_ret (v:= .tuple #[.agg #[.int .u8 3,.string tx,.int .i64 (j:Int)],.int .i64 0]) (by simp[results,Tryz.results75,go_sem,z0,z1,z2]) rfl ?_;have ht:=HTK.out;simp only[Prod.mk.injEq] at ht;obtain⟨rfl,rfl,rfl⟩:=ht;refine⟨by rw[HTX.out];rfl,?_⟩;exact(((HJ4.out.new hsb (by simp) _).new hsb (by simp) _).new hsb (by simp) _).new hsb (by simp) _
def SeqW {α:Type} (n:Nat) (P:Program) (g:Nat) (lb:Array Value) (encs:α→Array Value) (T Kp:World→World→Prop) (S Sp:List α→Prop) (N:Nat) (w:World):Prop:=
 ∀(l:Nat) (J Jx:List α→World→Prop) (W:World),Below w.heap.size w W→(∀s A B,J s A→T A B→J s B)→
  (∀pre x W1,J pre W1→pre.length<N→Sp (pre++[x])→YieldAt Fence.wide (n-1) P l (encs x) W1 fun e W'=>
    (e= .returned (.bool true)∧J (pre++[x]) W'∧Kp W1 W')∨(e= .returned (.bool false)∧Jx (pre++[x]) W'))→
  J [] W→CallsIn Fence.wide n P g (#[.func (.yield l) #[] #[]]++lb) W fun e W'=>(∃v,e= .returned v)∧((∃xs,S xs∧J xs W')∨(∃pre,Sp pre∧Jx pre W'))
theorem zf4 {α:Type} {P:Program} {n:Nat} {g:Operand} {ps:Array Tmp} {assign body:Code} {Q:Exit→Act→World→Prop} {a:Act} {w:World}
 (h1:1≤n) {gf:Nat} {lb:Array Value} (hg:a.eval g= .func (.func gf) #[] lb) (eg: ∀args w,(callFunc gf args).run P w= .ok (.enter gf args) w)
 {encs:α→Array Value} {T Kp:World→World→Prop} {S Sp:List α→Prop} {N:Nat} {w0:World} (hseq:SeqW (n-1) P gf lb encs T Kp S Sp N w0)
 (hKt: ∀{A B C:World},Kp A B→Kp B C→Kp A C) (hKb: ∀(W:World) (l:Nat) (o o':Obj),w.heap.size≤l→W.heap[l]? =some o→o.isCells=false→o.isWalk=false→Kp W (W.putObj l o'))
 (hTk: ∀A B k o,T A B→w.heap.size≤k→A.heap[k]? =some o→B.heap[k]? =some o) (hb0:Below w0.heap.size w0 w) (hps: ∀x,(encs x).size=ps.size)
 (I:List α→World→Prop) (Ix:Code→List α→World→Prop) (hI:OwnFrom w.heap.size I) (hIT: ∀s A B,I s A→T A B→I s B) (hIx: ∀c,OwnFrom w.heap.size (Ix c)) (h0:I [] w)
 (Ax:α→Act→World→Prop) (hAx: ∀x a',OwnFrom w.heap.size (fun(_:Unit) W=>Ax x a' W))
 (hassign: ∀(l:Nat) (pre:List α) (x:α) (W:World) (K:Act→World→Prop),Sp (pre++[x])→I pre W→(∀a' W',KeepsFrom w.heap.size W W'→Kp W W'→I pre W'→Ax x a' W'→K a' W')→
   assign.wpIn (Fence.wide.inRound l) (n-1-1) P (Exit.then K (fun _ _ _=>False)) {tmps:=(ps.zip (encs x)).foldl (fun t (p,v)=>t.setIfInBounds p v) a.tmps,defers:=[]} W)
 (hbody: ∀(l:Nat) (pre:List α) (x:α) (a':Act) (W:World),Sp (pre++[x])→I pre W→Ax x a' W→pre.length<N→body.wpIn (Fence.wide.inRound l) (n-1-1) P (ownPostG w.heap.size Kp I Ix (pre++[x]) W) a' W)
 (hdone: ∀(D:Nat) (xs:List α) (W:World),w.heap.size≤D→S xs→I xs W→W.heap[D]? =some (.deferred (some []))→Q .normal {a with defers:={target:= .collected D,args:= #[]}::a.defers} W)
 (hstop: ∀(D:Nat) (c:Code) (pre:List α) (W:World),w.heap.size≤D→Sp pre→Ix c pre W→W.heap[D]? =some (.deferred (some []))→c.wpIn Fence.wide n P Q {a with defers:={target:= .collected D,args:= #[]}::a.defers} W):
 (Code.rangeFunc g ps assign body).wpIn Fence.wide n P Q a w:=by
 refine wpIn_rangeFunc fun fn hfn=> ?_
 obtain⟨rec,hrec⟩: ∃rec:LoopState→Option Code→Loop,rec=fun st pe=>{state:=st,pending:=pe,fn,tmps:=a.tmps,params:=ps,assign,body,defers:=w.heap.size}:=⟨_,rfl⟩
 obtain⟨V,hV⟩: ∃V,(w.alloc (.deferred (some []))).alloc (.loop (rec .ready none))=V:=⟨_,rfl⟩;have lies: ∀W:World,KeepsFrom w.heap.size V W→W.heap[w.heap.size+1]? =some (.loop (rec .ready none))∧W.heap[w.heap.size]? =some (.deferred (some [])):=by
  have e1:V.heap[w.heap.size+1]? =some (.loop (rec .ready none)):=by
   rw[←hV];have:=World.alloc_heap_new (w.alloc (.deferred (some []))) (.loop (rec .ready none));rwa[World.size_alloc] at this
  have e2:V.heap[w.heap.size]? =some (.deferred (some [])):=by
   rw[←hV];exact(Below.heap_alloc _ _ _ (by simp)).trans (World.alloc_heap_new w _)
  exact fun W h=>⟨h.same _ _ (by omega) e1 rfl,h.same _ _ (Nat.le_refl _) e2 rfl⟩
 have start:=lies V (KeepsFrom.refl _ _);have hIV:I [] V:=by rw[←hV];exact hI.alloc _ (hI.alloc _ h0)
 have hbV:Below w0.heap.size w0 V:=by rw[←hV];exact hb0.trans ((((Below.refl _ w).alloc (Nat.le_refl _) _).alloc (by simp) _).mono hb0.size)
 refine⟨w.heap.size+1,[{target:= .collected w.heap.size,args:= #[]}],V,{target:= .fn (.func gf) lb,args:= #[.func (.yield (w.heap.size+1)) #[] #[]]},V,gf,#[.func (.yield (w.heap.size+1)) #[] #[]]++lb,V,
  ?_,?_,fun f' _=>trivial,?_,fun _=>h1,?_⟩
 ·rw[←hV,hrec];exact run_enterLoop_outer _ _ _ _ _
 ·simp only[resolve,hg]
  simp[go_sem]
 ·simp[invoke,go_sem,eg]
 refine(hseq (w.heap.size+1)
  (fun pre W=>I pre W∧W.heap[w.heap.size+1]? =some (.loop (rec .ready none))∧W.heap[w.heap.size]? =some (.deferred (some [])))
  (fun pre W=> ∃c,Ix c pre W∧W.heap[w.heap.size+1]? =some (.loop (rec .done (some c)))∧W.heap[w.heap.size]? =some (.deferred (some [])))
  V hbV (fun s A B hs ht=>⟨hIT s A B hs.1 ht,hTk A B _ _ ht (by omega) hs.2.1,hTk A B _ _ ht (Nat.le_refl _) hs.2.2⟩) ?round ⟨hIV,start⟩).mono ?behind
 case behind=>
  rintro e W2 ⟨⟨v,rfl⟩,⟨xs,hS,hi,hl,hk⟩|⟨pre,hSp,c,hi,hl,hk⟩⟩
  ·refine⟨none,_,by have:=run_endLoop (P:=P) hl (by rw[hrec];simp);rw[hrec] at this;exact this,?_⟩
   exact hdone _ xs _ (Nat.le_refl _) hS (hI.putObj _ hi (by omega) hl rfl) ((World.putObj_heap_other (by omega)).trans hk)
  ·refine⟨some c,_,by have:=run_endLoop (P:=P) hl (by rw[hrec];simp);rw[hrec] at this;exact this,?_⟩
   exact hstop _ c pre _ (Nat.le_refl _) hSp ((hIx c).putObj _ hi (by omega) hl rfl) ((World.putObj_heap_other (by omega)).trans hk)
 case round=>
  rintro pre x W ⟨hi,hl,hk⟩ hlen hSx;have hy:=run_yield (P:=P) (args:=encs x) hl (by rw[hrec];exact hps x);rw[hrec] at hy;refine⟨fn,_,assign,body,hy,roundIn_of_wpIn hfn (hassign _ pre x W _ hSx hi fun a' W1 hf1 hp1 hi1 hx1=> ?_)⟩;have l1:=hf1.same _ _ (by omega) hl rfl;have k1:=hf1.same _ _ (Nat.le_refl _) hk rfl;refine⟨_,run_beginRound l1 (by rw[hrec]),?_⟩;have l2:(W1.putObj (w.heap.size+1) (.loop {rec .ready none with state:= .busy})).heap[w.heap.size+1]? =some (.loop {rec .ready none with state:= .busy}):=World.putObj_heap_same (zal l1);have k2:(W1.putObj (w.heap.size+1) (.loop {rec .ready none with state:= .busy})).heap[w.heap.size]? =some (.deferred (some [])):=(World.putObj_heap_other (by omega)).trans k1;have p2:Kp W1 (W1.putObj (w.heap.size+1) (.loop {rec .ready none with state:= .busy})):=hKb _ _ _ _ (by omega) l1 rfl rfl;have done: ∀(jump:Option Code) (W3:World),KeepsFrom w.heap.size (W1.putObj (w.heap.size+1) (.loop {rec .ready none with state:= .busy})) W3→
   (Instr.endRound (w.heap.size+1) jump).run P W3= .ok (.bool jump.isNone) (W3.putObj (w.heap.size+1) (.loop (rec (if jump.isNone then .ready else .done) jump)))∧
   W3.heap[w.heap.size+1]? =some (.loop {rec .ready none with state:= .busy})∧
   (W3.putObj (w.heap.size+1) (.loop (rec (if jump.isNone then .ready else .done) jump))).heap[w.heap.size+1]? =some (.loop (rec (if jump.isNone then .ready else .done) jump))∧
   (W3.putObj (w.heap.size+1) (.loop (rec (if jump.isNone then .ready else .done) jump))).heap[w.heap.size]? =some (.deferred (some [])):=fun jump W3 hk3=>by
   have l3:=hk3.same _ _ (by omega) l2 rfl;have r3:=run_endRound (P:=P) jump l3;rw[hrec] at r3 l3 ⊢;exact⟨r3,l3,World.putObj_heap_same (zal l3),(World.putObj_heap_other (by omega)).trans (hk3.same _ _ (Nat.le_refl _) k2 rfl)⟩
  refine wpIn_mono (hbody _ pre x a' _ hSx (hI.putObj _ hi1 (by omega) l1 rfl) ((hAx x a').putObj (s:=()) _ hx1 (by omega) l1 rfl) hlen) fun e a3 W3 hp=> ?_
  cases e with
  |normal=>
   obtain⟨hk3,hp3,hi3⟩:=hp;obtain⟨r3,l3,l4,k4⟩:=done none W3 hk3;exact⟨_,_,r3,.inl ⟨rfl,⟨hI.putObj _ hi3 (by omega) l3 rfl,l4,k4⟩,hKt hp1 (hKt (hKt p2 hp3) (hKb _ _ _ _ (by omega) l3 rfl rfl))⟩⟩
  |ret=>
   obtain⟨hk3,hi3⟩:=hp;obtain⟨r3,l3,l4,k4⟩:=done (some .ret) W3 hk3;exact⟨_,_,r3,.inr ⟨rfl,.ret,(hIx _).putObj _ hi3 (by omega) l3 rfl,l4,k4⟩⟩
  |exit id=>
   obtain⟨hk3,hi3⟩:=hp;obtain⟨r3,l3,l4,k4⟩:=done (some (.exit id)) W3 hk3;exact⟨_,_,r3,.inr ⟨rfl,(.exit id),(hIx _).putObj _ hi3 (by omega) l3 rfl,l4,k4⟩⟩
  |goto t=>
   obtain⟨hk3,hi3⟩:=hp;obtain⟨r3,l3,l4,k4⟩:=done (some (.goto t)) W3 hk3;exact⟨_,_,r3,.inr ⟨rfl,(.goto t),(hIx _).putObj _ hi3 (by omega) l3 rfl,l4,k4⟩⟩
  |panic ch=>exact hp.elim
  |outgrown=>exact hp.elim
open Go.RowKit Go.Shelf
attribute [local go_sem] Oper.semAt_some
theorem zja: ∀(n p:Nat) (l:List UInt8),l.length≤n→(zeW p l).length≤l.length
 |n,p,l,hn=>by
  rw[zeE];have hd:(l.drop (zaC false l)).length≤l.length:=by rw[List.length_drop];omega
  cases h:l.drop (zaC false l) with
  |nil=>simp
  |cons b r=>
   rw[h] at hd;simp only[List.length_cons] at hd ⊢;by_cases h0:(za9 (b::r)).2.2=0
   ·have hp:=zcr b r h0
    have hl:((b::r).drop (za9 (b::r)).2.1).length<l.length:=by rw[List.length_drop,List.length_cons];omega
    have hl2:((b::r).drop (za9 (b::r)).2.1).length≤r.length:=by rw[List.length_drop,List.length_cons];omega
    cases n with
    |zero=>omega
    |succ n=>
     have ih:=zja n (p+zaC false l+(za9 (b::r)).2.1) ((b::r).drop (za9 (b::r)).2.1) (by omega);rw[if_pos h0]
     omega
   ·rw[if_neg h0]
    simp;omega
def Tok.val (t:Tok):Value:= .agg #[.int .u8 (t.kind:Int),.string ⟨t.text.toArray⟩,.int .i64 (t.at_:Int)]
abbrev zoX (x:Tok×Nat):Array Value:= #[x.1.val,.int .i64 (x.2:Int)]
def KpL (lb n₀:Nat) (A B:World):Prop:=zam (fun k=>k=lb∨n₀≤k) A B
structure ItS (sb xb lb n₀:Nat) (src:ByteArray) (F:Nat→Prop) (g1 g2 g3:Nat) (k1 k2 k3:Array Value) (j:Nat) (w:World):Prop where
 sc:Sc sb src F g1 g2 g3 k1 k2 k3 w
 here:w.cell? ⟨sb,1,none⟩=some (.int .i64 (j:Int))
 free:w.frozen? ⟨sb,1,none⟩=false
 box:w.heap[xb]? =some (.cells #[.pointer (some ⟨sb,0,none⟩)] 99 (0,0))
 env:Env w
 big:n₀≤w.heap.size
 xs:xb≠sb
 s4:6≤sb
 sn:sb<n₀∧sb≠lb
 xn:xb<n₀∧xb≠lb
 l4:6≤lb
 n4:6≤n₀
 fn: ∀k,F k→k<n₀∧k≠lb
section
variable {sb xb lb n₀ j:Nat} {src:ByteArray} {F:Nat→Prop} {g1 g2 g3:Nat} {k1 k2 k3:Array Value} {w w':World}
theorem ItS.atJ {i:Nat} (h:ItS sb xb lb n₀ src F g1 g2 g3 k1 k2 k3 j w) (k:AtJ sb i w w'):ItS sb xb lb n₀ src F g1 g2 g3 k1 k2 k3 i w':=
 have hx:=(zal h.box);have hs:sb≤w.heap.size:=Nat.le_trans (Nat.le_of_lt h.sn.1) h.big
 ⟨h.sc.atJ k,k.here,k.free,(k.kept.block xb hx h.xs).trans h.box,h.env.keptB (k.kept.below (B:=sb) hs (fun i hi e=>by omega)) h.s4,Nat.le_trans h.big k.kept.size,h.xs,h.s4,h.sn,h.xn,h.l4,h.n4,h.fn⟩
theorem ItS.start (h:ItS sb xb lb n₀ src F g1 g2 g3 k1 k2 k3 j w):AtJ sb j w w:=AtJ.start h.here h.free
theorem ItS.below (h:ItS sb xb lb n₀ src F g1 g2 g3 k1 k2 k3 j w) (k:Below w.heap.size w w'):ItS sb xb lb n₀ src F g1 g2 g3 k1 k2 k3 j w':=
 h.atJ (h.start.below (Nat.lt_of_lt_of_le h.sn.1 h.big) k)
theorem ItS.kp (h:ItS sb xb lb n₀ src F g1 g2 g3 k1 k2 k3 j w) (k:KpL lb n₀ w w'):ItS sb xb lb n₀ src F g1 g2 g3 k1 k2 k3 j w':=by
 have hb: ∀i,i<n₀→i≠lb→w'.heap[i]? =w.heap[i]? :=fun i h1 h2=>k.block i (Nat.lt_of_lt_of_le h1 h.big) (by rintro(e|e)<;>omega)
 have hc: ∀o,w'.cell? ⟨sb,o,none⟩=w.cell? ⟨sb,o,none⟩:=fun o=>World.cell?_of_block (w:=w) (hb sb h.sn.1 h.sn.2)
 have hi: ∀{f:Nat} {c:Array Value} {p:UInt8→Bool},IsT F w f c p→IsT F w' f c p:=fun ht=>ht.keep k.size (fun i hf=>hb i (h.fn i hf).1 (h.fn i hf).2)
 refine⟨⟨(hc 0).trans h.sc.s0,(hc 3).trans h.sc.s3,(hc 4).trans h.sc.s4,(hc 5).trans h.sc.s5,hi h.sc.i1,hi h.sc.i2,hi h.sc.i3,h.sc.far⟩,(hc 1).trans h.here,(World.frozen?_of_block (w:=w) (a:=⟨sb,1,none⟩) (hb sb h.sn.1 h.sn.2)).trans h.free,(hb xb h.xn.1 h.xn.2).trans h.box,?_,Nat.le_trans h.big k.size,h.xs,h.s4,h.sn,h.xn,h.l4,h.n4,h.fn⟩;exact h.env.keptB (zam.below k (B:=6) (Nat.le_trans h.n4 h.big) (fun i hi=>by have:=h.l4;have:=h.n4;omega)) (Nat.le_refl _)
end
theorem zfa (src:ByteArray) (j ln:Nat):src.extract j (j+ln)=⟨(((zan src).drop j).take ln).toArray⟩:=by
 apply ByteArray.ext;apply Array.ext';have:=Lib.extract_data src j (j+ln);rw[this,show j+ln-j=ln from by omega]
 rfl
theorem zl8 (src:ByteArray) (j kd ln er:Nat) (hj:j<src.size) (h0:zaC false ((zan src).drop j)=0) (ht:za9 ((zan src).drop j)=(kd,ln,er)):
 zeW j ((zan src).drop j)=(⟨kd,((zan src).drop j).take ln,j⟩,er)::(if er=0 then zeW (za8 src (j+ln)) ((zan src).drop (za8 src (j+ln))) else[]):=by
 rw[zeE,h0,List.drop_zero,zaO src j hj];rw[zaO src j hj] at ht;simp only[ht];have e1:(src[j]::(zan src).drop (j+1)).drop ln=(zan src).drop (j+ln):=by rw[←zaO src j hj,List.drop_drop]
 rw[e1,zgY (j+0+ln)];unfold za8;rw[List.drop_drop]
 rfl
theorem zfE (src:ByteArray) (j:Nat):zaC false ((zan src).drop (za8 src j))=0:=by
 unfold za8;rw[←List.drop_drop];exact zcn false _
theorem zhh (src:ByteArray) (j:Nat) (hj:j≤src.size):j≤za8 src j∧za8 src j≤src.size:=by
 unfold za8;have h:=zdN false ((zan src).drop j);have hl:(zan src).length=src.size:=by simp[zan]
 rw[List.length_drop,hl] at h
 omega
def AtE (src:ByteArray) (pre:List (Tok×Nat)) (j:Nat):Prop:=j≤src.size∧zaC false ((zan src).drop j)=0∧zeW 0 (zan src)=pre++zeW j ((zan src).drop j)
theorem AtE.start (src:ByteArray):AtE src [] (za8 src 0):=
 ⟨(zhh src 0 (Nat.zero_le _)).2,zfE src 0,by
   have:=zgY 0 (zan src);unfold za8
   simpa using this⟩
theorem AtE.step {src:ByteArray} {pre:List (Tok×Nat)} {j kd ln er:Nat} (h:AtE src pre j) (hj:j<src.size) (ht:za9 ((zan src).drop j)=(kd,ln,er)):
 (zeW 0 (zan src)=pre++[(⟨kd,((zan src).drop j).take ln,j⟩,er)]++(if er=0 then zeW (za8 src (j+ln)) ((zan src).drop (za8 src (j+ln))) else[]))∧
 (er=0→AtE src (pre++[(⟨kd,((zan src).drop j).take ln,j⟩,er)]) (za8 src (j+ln))∧j<za8 src (j+ln))∧j+ln≤src.size:=by
 have e:=h.2.2;rw[zl8 src j kd ln er hj h.2.1 ht] at e;have hl:(zan src).length=src.size:=by simp[zan]
 have hle:j+ln≤src.size:=by
  have:=zia src[j] ((zan src).drop (j+1));rw[←zaO src j hj,ht] at this;simp only[List.length_drop] at this
  omega
 refine⟨by rw[e];simp,fun h0=> ?_,hle⟩;have hp:1≤ln:=by
  have:=zcr src[j] ((zan src).drop (j+1));rw[←zaO src j hj,ht] at this;exact this h0
 have hs:=zhh src (j+ln) hle;exact⟨⟨hs.2,zfE src _,by rw[e,if_pos h0];simp⟩,by omega⟩
theorem AtE.full {src:ByteArray} {pre:List (Tok×Nat)} {j:Nat} (h:AtE src pre j) (hj:src.size≤j):pre=zeW 0 (zan src):=by
 have hl:(zan src).length=src.size:=by simp[zan]
 rw[h.2.2,List.drop_eq_nil_of_le (by omega),zeE];simp
theorem AtE.len {src:ByteArray} {pre:List (Tok×Nat)} {j:Nat} (h:AtE src pre j) (hj:j<src.size):pre.length<src.size:=by
 have hl:(zan src).length=src.size:=by simp[zan]
 have h1:=zja _ 0 (zan src) (Nat.le_refl _);obtain⟨⟨kd,ln,er⟩,ht⟩: ∃t,za9 ((zan src).drop j)=t:=⟨_,rfl⟩;rw[(h.step hj ht).1] at h1;simp at h1
 omega
end Go.Proofs.YtlngbjphagnloaaGreatDoor
