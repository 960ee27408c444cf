/- Merged texts of the walks and of the plain laws on which the statement leans.-/
import Derived.Test.YtgbfaompondolaaGreatDoorPk1
import Derived.Test.YtgbfaompondolaaGreatDoorPk14
import Derived.Lib.Repeat
import Derived.Lib.Join
import Derived.Lib.ItoaLen
import Derived.Test.YtgbfaompondolaaGreatDoorPk8
import Derived.Test.YtgbfaompondolaaGreatDoorPk11
set_option maxHeartbeats 4000000
set_option maxRecDepth 100000
namespace Go.Proofs.YtgbfaompondolaaGreatDoor
def za4 {α:Type} (f:α→List UInt8) (l:List α):List UInt8:=(l.map f).flatten
theorem zaE {α:Type} {f:α→List UInt8} {l:List α} {k:Nat} {x:α} (h:l[k]? =some x):za4 f (l.take (k+1))=za4 f (l.take k)++f x:=by
 unfold za4
 rw[List.take_add_one,h]
 simp
theorem zbh {α:Type} {f:α→List UInt8} {l:List α}:za4 f (l.take 0)=[]:=by simp[za4]
theorem ziz {α:Type} {f:α→List UInt8} {l:List α} {k:Nat}:(za4 f (l.take k)).length≤(za4 f l).length:=by
 have e:za4 f l=za4 f (l.take k)++za4 f (l.drop k):=by
  unfold za4
  rw[←List.flatten_append,←List.map_append,List.take_append_drop]
 rw[e,List.length_append]
 omega
theorem zaV {α:Type} {f:α→List UInt8} {l:List α} {k:Nat} {x:α} (h:l[k]? =some x):(za4 f (l.take k)).length+(f x).length≤(za4 f l).length:=by
 have:=ziz (f:=f) (l:=l) (k:=k+1)
 rw[zaE h,List.length_append] at this
 exact this
def lnT (t:Nat) (en:List UInt8) (l:List Arg):List UInt8:=Lib.repeatL [9] t++zcm l++(en++[10])
def ze5:List UInt8:=[44,32]
def zdB (l:List Int):List UInt8:=Lib.join (l.map Lib.itoa) ze5
def zdR (l:List zb2):List UInt8:=Lib.join (l.map ze2) ze5
def zgG (x:zck):List UInt8:=x.unit++[58]++Lib.itoa x.code
def zd4 (l:List zck):List UInt8:=Lib.join (l.map zgG) ze5
def zcz (x:zbU):List Int:=[x.a,x.b,x.c].take (zaj zaR x.op).length
def zex (x:zbU):List UInt8:=zaj zaD x.op++za4 (fun n=>32::Lib.itoa n) (zcz x)++[59]
def zes (x:zbd):List UInt8:=lnT 0 [59] [.s [99,104,97,110,110,101,108],.s (ze2 x.from_),.s [116,111],.s (zdR x.to)]
def swT (x:SwD):List UInt8:=lnT 0 [59] [.s [115,119,105,116,99,104],.s x.name,.s [110,101,116],.s (zkd x.net),.s [100,101,108,97,121],.n x.delay,.s [115,116,111,114,101],.n x.store]
def zeH (x:zbw):List UInt8:=lnT 0 [59] [.s [108,105,110,107],.s x.a,.s x.b,.s [110,101,116],.s (zkd x.net),.s [115,108,111,119],.n x.slow]
def vlT (x:VlD):List UInt8:=lnT 0 [59] [.s [118,108],.s x.name,.s [102,114,111,109],.s (ze2 x.from_),.s [98,97,103],.n x.bag,.s [109,97,120],.n x.max,.s [116,111],.s (zdR x.to)]
def zgD (x:zaH):List Arg:=[.s [111,110],.s (zaj zax x.fault)]++(if x.module=[] then[] else[.s [109,111,100,117,108,101],.s x.module])++(if x.part=[] then[] else[.s [112,97,114,116],.s x.part])++[.s [108,101,118,101,108],.s (zaj zas x.level),.s [100,111],.s (zaj zap x.do_)]
def zbD (x:zaH):List UInt8:=lnT 0 [59] (zgD x)
def zem (x:zaN):List Arg:=[.s [99,97,117,115,101],.s x.unit,.s [110,101,101,100,115],.s (zd4 x.needs)]++(if x.but=[] then[] else[.s [117,110,108,101,115,115],.s (Lib.join x.but ze5)])
def zcr (x:zaN):List UInt8:=lnT 0 [59] (zem x)
def ziF (x:zc7):List UInt8:=lnT 0 [59] [.s [119,111,114,107,115],.s x.a,.n x.va,.s [119,105,116,104],.s x.b,.n x.vb]
def zgx (x:zaT):List UInt8:=if x.out then[111,117,116] else[105,110]
def zdO (x:zaT):List UInt8:=if x.kind=1 then lnT 2 [59] [.s (zgx x),.s x.name,.s [115,97,109,112,108,105,110,103,32,115,105,122,101],.n x.size,.s [114,101,102,114,101,115,104],.n x.refresh] else lnT 2 [59] [.s (zgx x),.s x.name,.s [113,117,101,117,105,110,103,32,115,105,122,101],.n x.size,.s [100,101,112,116,104],.n x.depth]
def zgr (x:zaY):List UInt8:=lnT 2 [32,123] [.s [112,114,111,99],.s x.name,.s [112,114,105,111],.n x.prio,.s [112,101,114,105,111,100],.n x.period,.s [108,105,109,105,116],.n x.limit]
def zf2 (x:zbU):List UInt8:=lnT 3 [] [.s (zex x)]
def zec (x:zaY):List UInt8:=zgr x++za4 zf2 x.code++lnT 2 [125] []
def zdl (x:zaM):List UInt8:=lnT 1 [32,123] [.s [112,97,114,116],.s x.name,.s [112,101,114,105,111,100],.n x.period,.s [108,101,110,103,116,104],.n x.length,.s [109,101,109],.n x.mem]
def zcv (x:zaM):List UInt8:=if x.semas=[] then[] else lnT 2 [59] [.s [115,101,109,97,115],.s (zdB x.semas)]
def zbX (x:zaM):List UInt8:=if 0<x.events then lnT 2 [59] [.s [101,118,101,110,116,115],.n x.events] else[]
def zb5 (x:zaM):List UInt8:=if 0<x.boards then lnT 2 [59] [.s [98,111,97,114,100,115],.n x.boards] else[]
def zeh (x:zaM):List UInt8:=if x.bufs=[] then[] else lnT 2 [59] [.s [98,117,102,115],.s (zdB x.bufs)]
def zd1 (x:zaM):List UInt8:=zdl x++zcv x++zbX x++zb5 x++zeh x++za4 zdO x.ports++za4 zec x.procs++lnT 1 [125] []
def zld (x:zcl):List UInt8:=lnT 0 [32,123] [.s [109,111,100,117,108,101],.s x.name,.s [109,101,109],.n x.mem,.s [102,114,97,109,101],.n x.frame]
def zgm (x:zcl):List UInt8:=zld x++za4 zd1 x.parts++lnT 0 [125] []
def zhQ (x:zbR):List UInt8:=za4 zgm x.modules++za4 zes x.channels++za4 swT x.switches++za4 zeH x.links++za4 vlT x.vls++za4 zbD x.health++za4 zcr x.causes++za4 ziF x.versions
theorem zeS (l:List (List UInt8)):l.length≤(Lib.join l ze5).length+1:=by
 cases l with
 |nil=>simp
 |cons a l=>
  rw[Lib.join_length]
  simp[ze5]
  omega
theorem zkw {l:List (List UInt8)} {x:List UInt8} (h:x∈l):x.length≤Lib.lens l:=by
 induction l with
 |nil=>simp at h
 |cons a l ih=>
  simp only[Lib.lens,List.map_cons,List.sum_cons] at ih ⊢
  rcases List.mem_cons.1 h with rfl|h
  ·omega
  ·have:=ih h
   omega
theorem zfD {l:List (List UInt8)} {x:List UInt8} (h:x∈l):x.length≤(Lib.join l ze5).length:=by
 cases l with
 |nil=>simp at h
 |cons a l=>
  rw[Lib.join_length]
  have:=zkw h
  omega
end Go.Proofs.YtgbfaompondolaaGreatDoor
namespace Go.Proofs.YtgbfaompondolaaGreatDoor
open Go.RowKit
attribute [local go_sem] zal.cell
def zhF (w:World) (G:Nat→Prop) (A:Option Addr) (size:Nat) (es:List (List Dat)):Prop:=
 es=[]∨ ∃b off,A=some ⟨b,off,none⟩∧G b∧b<w.heap.size∧ ∀(i j:Nat) e d,es[i]? =some e→e[j]? =some d→ ∃u,w.cell? ⟨b,off+i*size+j,none⟩=some u∧DAt w G u d
theorem DAt.sliceG {w:World} {G:Nat→Prop} {v:Value} {size:Nat} {es:List (List Dat)} (h:DAt w G v (.row size es)): ∃A c,v= .slice A es.length c∧zhF w G A size es:=by
 generalize hd:Dat.row size es=d at h
 cases h with
 |leaf v=>cases hd
 |nil A c size'=>
  injection hd with h1 h2
  subst h2
  exact⟨A,c,rfl,.inl rfl⟩
 |row b off c size' n es' val hn hG hb hc hdd=>
  injection hd with h1 h2
  subst h1 h2
  exact⟨_,c,by rw[hn],.inr ⟨b,off,rfl,hG,hb,fun i j e d he hd=>⟨_,hc i j e d he hd,hdd i j e d he hd⟩⟩⟩
theorem DAt.cap {w:World} {G:Nat→Prop} {A:Option Addr} {n c size:Nat} {es:List (List Dat)} (h:DAt w G (.slice A n c) (.row size es)):n≤c:=by
 generalize hd:Dat.row size es=d at h
 generalize hv:Value.slice A n c=v at h
 cases h with
 |leaf v=>cases hd
 |nil A' c' size'=>
  injection hv with _ h2 _
  omega
 |row b off c' size' n' es' val hn hG hb hc hdd hcap=>
  injection hv with _ h2 h3
  omega
theorem zhF.at_ {α:Type} {w:World} {G:Nat→Prop} {A:Option Addr} {size k:Nat} {l:List α} {cells:α→List Dat} {x:α} (h:zhF w G A size (l.map cells)) (hx:l[k]? =some x):
 ∃b off,A=some ⟨b,off,none⟩∧G b∧b<w.heap.size∧ ∀(j:Nat) d,(cells x)[j]? =some d→ ∃u,w.cell? ⟨b,off+k*size+j,none⟩=some u∧DAt w G u d:=by
 rcases h with h|⟨b,off,h1,hG,h2,h3⟩
 ·rw[List.map_eq_nil_iff] at h
  subst h
  simp at hx
 ·exact⟨b,off,h1,hG,h2,fun j d hd=>h3 k j (cells x) d (by rw[List.getElem?_map,hx];rfl) hd⟩
theorem zhF.keep {w w':World} {B:Nat} {A:Option Addr} {size:Nat} {es:List (List Dat)} (h:zhF w (fun g=>g<B) A size es) (hb:Below B w w'):zhF w' (fun g=>g<B) A size es:=by
 rcases h with h|⟨b,off,h1,hG,h2,h3⟩
 ·exact .inl h
 ·refine .inr ⟨b,off,h1,hG,Nat.lt_of_lt_of_le h2 hb.size,fun i j e d he hd=> ?_⟩
  obtain⟨u,hu,hdu⟩:=h3 i j e d he hd
  exact⟨u,(World.cell?_of_block (hb.block b hG)).trans hu,hdu.keep hb.size (fun g hg _=>hb.block g hg)⟩
theorem DAt.lateG {w w':World} {B:Nat} {v:Value} {d:Dat} (h:DAt w (fun g=>g<B) v d) (hb:Below B w w'):DAt w' (fun g=>g<B) v d:=h.keep hb.size (fun g hg _=>hb.block g hg)
theorem leafG {w:World} {G:Nat→Prop} {p:Addr} {v:Value} (h: ∃u,w.cell? p=some u∧DAt w G u (.leaf v)):w.cell? p=some v:=by
 obtain⟨u,h1,h2⟩:=h
 rw[h1,h2.leaf_eq]
theorem zj5 {b:Nat} {w w':World} {v:Value} {d:Dat} (h:DAt w (fun g=>g≠b∧Oth w g) v d) (k:PrK b w w'):DAt w' (fun g=>g≠b∧Oth w' g) v d:=by
 refine(h.keep k.size (fun g hg _=>k.block g hg.1 hg.2)).mono (fun g hg _=>⟨hg.1,?_⟩)
 obtain⟨cs,T,fr,h1,h2⟩:=hg.2
 exact⟨cs,T,fr,(k.block g hg.1 hg.2).trans h1,h2⟩
theorem zbK (w:World) (l:List Arg) {b:Nat} (hb:b<w.heap.size):DAt (w.alloc (.cells (l.map Arg.val).toArray 20)) (fun g=>g≠b∧Oth (w.alloc (.cells (l.map Arg.val).toArray 20)) g) (.slice (some ⟨w.heap.size,0,none⟩) l.length l.length) (.row 1 (zbI l)):=by
 refine DAt.block (heap_alloc_new w _) (by simp[zbI]) (fun e he=> ?_) ?_ ⟨by omega,_,_,_,heap_alloc_new w _,by decide⟩
 ·unfold zbI at he
  obtain⟨s,_,rfl⟩:=List.mem_map.1 he
  rfl
 ·have hf:(zbI l).flatten=(l.map Arg.val).map Dat.leaf:=zeC Arg.val l
  rw[hf]
  exact zcB _
theorem zbs (B b:Nat) (k8:C8) (L:List UInt8) (t:Nat) (en:List UInt8) (v:Value) (l:List Arg) (W:World) (h:Hid (zbZ B b k8 L W)) (hv:Hid (DAt W (fun g=>g≠b∧Oth W g) v (.row 1 (zbI l)))) (hok:Hid (∀a∈l,a.ok)) (hl:l.length≤1000) (ht:t≤1000) (hen:en.length≤1000) (hlen:L.length+(zcm l).length≤100000000000) (hBw:B≤W.heap.size) (hGB:8≤B) (hE:Hid (Env W)):
 Calls Tryz.prog 132 #[.pointer (some ⟨b,0,none⟩),.int .i64 t,.string ⟨en.toArray⟩,v] W fun e w'=>e= .returned (.tuple #[])∧zbZ B b k8 (L++lnT t en l) w'∧Below B W w'∧PrK b W w':=by
 have k1: ¬9223372036854775807<en.length+1:=by omega
 have hrl:=Lib.repeatL_length [9] t
 simp only[List.length_cons,List.length_nil] at hrl
 have HR:=zaa (fun V=>Tryz.strings_Repeat ⟨#[9]⟩ t V (by omega) (by show 1*t≤_;omega))
 go_enter Tryz.func132,Tryz.ntmps132
 go_wp2_with fail
 refine zak (S:=fun w'=>Below W.heap.size W w') 5 (by kernel_rfl) (by kernel_rfl) (Below.refl _ _).drew (fun hHeld=> ?_)
 generalize W.drew=U at *
 refine tq 0 8 rfl hHeld ?_
 (try simp only[pu])
 refine tq 1 9 rfl hHeld ?_
 (try simp only[pu])
 refine tq 2 10 rfl hHeld ?_
 (try simp only[pu])
 refine tq 3 11 rfl hHeld ?_
 (try simp only[pu])
 refine zac (rs:=[4]) (by kernel_rfl) (by simp) (by rfl) (zaz.cons rfl (fun K hK=> ?_) zaz.nil)
 go_simp
 refine(HR.out U).mono ?_
 rintro e w1 ⟨rfl,h1⟩
 have hS:=hHeld.trans (h1.mono hHeld.size)
 have HP1:=zaa (h.out.later hS)
 have HB1:=zaa (hS.mono hBw)
 have HK1:=zaa (PrK.later (b:=b) hS)
 clear h1 HR hHeld
 go_wp2_with fail
 refine hK.out _ _ hS (fun hHeld=> ?_)
 clear hK K hS hHeld
 (try simp only[pu])
 refine zai (by kernel_rfl) ?_
 simp only[List.drop_succ_cons,List.drop_zero]
 go_wp2_with fail
 have HC:=zaa (zfm B b k8 _ ⟨(Lib.repeatL [9] t).toArray⟩ w1 HP1 (by show _+(Lib.repeatL [9] t).length≤_;omega) (Nat.le_trans hBw HB1.out.size))
 refine HC.out.mono ?_
 rintro e w2 ⟨rfl,h1,h2,h3⟩
 have HP2:=zaa h1
 have HB2:=zaa (HB1.out.trans h2)
 have HK2:=zaa (HK1.out.trans h3)
 clear h1 h2 h3 HC
 go_wp2_with fail
 have HC:=zaa (zl3 B b k8 _ v l w2 HP2 (zaa (zj5 hv.out HK2.out)) hok hl (by rw[List.length_append];show _+(Lib.repeatL [9] t).length+_≤_;omega) (Nat.le_trans hBw HB2.out.size) hGB (zaa (hE.out.keptB HB2.out hGB)))
 refine HC.out.mono ?_
 rintro e w3 ⟨rfl,h1,h2,h3⟩
 have HP3:=zaa h1
 have HB3:=zaa (HB2.out.trans h2)
 have HK3:=zaa (HK2.out.trans h3)
 clear h1 h2 h3 HC
 go_wp2_with fail
 have HT:(⟨en.toArray⟩++⟨#[10]⟩:ByteArray)=⟨(en++[10]).toArray⟩:=by
  apply ByteArray.ext
  simp[ByteArray.data_append]
 rw[HT]
 have HC:=zaa (zfm B b k8 _ ⟨(en++[10]).toArray⟩ w3 HP3 (by simp only[List.length_append];show _+(Lib.repeatL [9] t).length+_+(en++[10]).length≤_;simp;omega) (Nat.le_trans hBw HB3.out.size))
 refine HC.out.mono ?_
 rintro e w4 ⟨rfl,h1,h2,h3⟩
 have HP4:=zaa h1
 have HB4:=zaa (HB3.out.trans h2)
 have HK4:=zaa (HK3.out.trans h3)
 clear h1 h2 h3 HC
 go_wp2_with fail
 go_end0
 refine⟨rfl,?_,HB4.out,HK4.out⟩
 have:=HP4.out
 simpa only[lnT,List.append_assoc] using this
end Go.Proofs.YtgbfaompondolaaGreatDoor
namespace Go.Proofs.YtgbfaompondolaaGreatDoor
open Go.RowKit
attribute [local go_sem] zal.cell
theorem zdX {α:Type} {f:α→List UInt8} {l:List α} {k:Nat} {x:α} (h:l[k]? =some x):zgV ((l.take (k+1)).map f)=zgV ((l.take k).map f)++[.string ⟨(f x).toArray⟩]:=by
 rw[List.take_add_one,h]
 simp[zgV]
theorem zdT {w:World} {v:Value} {l:List (List UInt8)} (sep:List UInt8) (h:DAt w (fun _=>True) v (.row 1 (zao l))) (hn:l.length≤140737488355328) (hlen:(Lib.join l sep).length≤140737488355328):
 Calls Tryz.prog 84 #[v,.string ⟨sep.toArray⟩] w fun e w'=>e= .returned (.string ⟨(Lib.join l sep).toArray⟩)∧Below w.heap.size w w':=by
 obtain⟨A,c,rfl,hr⟩:=h.slice
 have hcap:=h.cap
 rw[show(zao l).length=l.length by simp[zao]] at hcap ⊢
 rcases hr with hr|⟨b,off,rfl,hb,hc⟩
 ·have:l=[]:=by simpa [zao] using hr
  subst this
  exact(Tryz.strings_Join_none A c ⟨sep.toArray⟩ w).mono fun e w' ⟨he,hw⟩=>⟨he,hw ▸ Below.refl _ _⟩
 ·have e1:(l.map fun s=>(⟨s.toArray⟩:ByteArray)).map (·.data.toList)=l:=by simp[Function.comp_def]
  have:=Tryz.strings_Join b off c (l.map fun s=>(⟨s.toArray⟩:ByteArray)) ⟨sep.toArray⟩ w (fun j x hx=>by
   rw[List.getElem?_map] at hx
   obtain⟨s,hs,rfl⟩:=Option.map_eq_some_iff.1 hx
   obtain⟨u,h1,h2⟩:=hc j 0 [lS s] (lS s) (by unfold zao;rw[List.getElem?_map,hs];rfl) rfl
   rw[Nat.mul_one,Nat.add_zero] at h1
   rw[h1,h2.leaf_eq]
   rfl) hb (by simpa using hn) (by simpa using hcap) (by rw[e1];exact hlen)
  rw[e1,List.length_map] at this
  exact this
theorem zeL {x:zb2} (h:(ze2 x).length≤1000000):x.m.length≤1000000∧x.p.length≤1000000∧x.o.length≤1000000:=by
 simp[ze2] at h
 omega
theorem zln (x:zck) (W:World) (hl:(zgG x).length≤1000000) (hn: -9223372036854775808≤x.code∧x.code≤9223372036854775807) (_hGB:8≤W.heap.size) (hE:Hid (Env W)):
 Calls Tryz.prog 141 #[.agg #[.string ⟨x.unit.toArray⟩,.int .i64 x.code]] W fun e w'=>e= .returned (.string ⟨(zgG x).toArray⟩)∧Below W.heap.size W w':=by
 have HB:=zaa ((Below.refl W.heap.size W).alloc (Nat.le_refl _) (.cells #[.string ⟨x.unit.toArray⟩,.int .i64 x.code] 67))
 have HXb:=zaa (heap_alloc_new W (.cells #[.string ⟨x.unit.toArray⟩,.int .i64 x.code] 67))
 have hxl:W.heap.size<(W.alloc (.cells #[.string ⟨x.unit.toArray⟩,.int .i64 x.code] 67)).heap.size:=by simp
 have HT:(⟨x.unit.toArray⟩++⟨#[58]⟩++⟨(Lib.itoa x.code).toArray⟩:ByteArray)=⟨(zgG x).toArray⟩:=by
  apply ByteArray.ext
  simp[zgG,ByteArray.data_append]
 have hl2:x.unit.length+1+(Lib.itoa x.code).length≤1000000:=by simp[zgG] at hl;omega
 have k1: ¬9223372036854775807<x.unit.length+1:=by omega
 have k2: ¬9223372036854775807<x.unit.length+1+(Lib.itoa x.code).length:=by omega
 go_enter Tryz.func141,Tryz.ntmps141
 go_wp2_with fail
 generalize W.alloc _=w0 at *
 have x0:=cell_of_row _ _ 0 _ _ _ HXb.out
 have x1:=cell_of_row _ _ 1 _ _ _ HXb.out
 refine zak (S:=fun w'=>Below w0.heap.size w0 w') 6 (by kernel_rfl) (by kernel_rfl) (Below.refl _ _).drew (fun hHeld=> ?_)
 generalize w0.drew=U at *
 refine tq 0 3 rfl hHeld ?_
 (try simp only[pu])
 refine zad (i:=1) (oi:=⟨some 4,_,_,_,_,_⟩) (v:= ?_) rfl (by kernel_rfl) (fun _ _ _ h=>h) (Or.inl ⟨by rfl,?_⟩) hHeld ?_
 rotate_left
 ·intro v hS
  have e0:=(hS.cell (p:=⟨W.heap.size,0,none⟩) hxl).trans x0
  go_simp
  with_reducible rfl
 (try simp only[pu])
 refine tq 2 5 rfl hHeld ?_
 (try simp only[pu])
 refine tq 3 6 rfl hHeld ?_
 (try simp only[pu])
 refine zad (i:=4) (oi:=⟨some 7,_,_,_,_,_⟩) (v:= ?_) rfl (by kernel_rfl) (fun _ _ _ h=>h) (Or.inl ⟨by rfl,?_⟩) hHeld ?_
 rotate_left
 ·intro v hS
  have e0:=(hS.cell (p:=⟨W.heap.size,1,none⟩) hxl).trans x1
  go_simp
  with_reducible rfl
 (try simp only[pu])
 refine zac (rs:=[5]) (by kernel_rfl) (by simp) (by rfl) (zaz.cons rfl (fun K hK=> ?_) zaz.nil)
 go_simp
 have HI:=zaa (zdy x.code U (hE.out.kept (btZ HB.out hHeld)) hn.1 hn.2)
 refine HI.out.mono ?_
 rintro e w2 ⟨rfl,hb⟩
 have hS:=hHeld.trans (hb.mono hHeld.size)
 have HB2:=zaa (btZ HB.out hS)
 clear hb HI hHeld
 go_wp2_with fail
 refine hK.out _ _ hS (fun hHeld=> ?_)
 clear hK K hS hHeld
 (try simp only[pu])
 refine zai (by kernel_rfl) ?_
 simp only[List.drop_succ_cons,List.drop_zero]
 go_wp2_with fail
 go_ret
 exact⟨by rw[←HT];rfl,HB2.out⟩
theorem zfM (v:Value) (l:List zb2) (W:World) (hv:Hid (DAt W (fun _=>True) v (.row 3 (l.map zb2.cells)))) (hlen:(zdR l).length≤1000000):
 Calls Tryz.prog 135 #[v,.func (.func 134) #[] #[]] W fun e w'=>e= .returned (.string ⟨(zdR l).toArray⟩)∧Below W.heap.size W w':=by
 obtain⟨i0,hi0,hz0,hz1,hz2⟩:=info_parts zci
 have hnl:l.length≤1000001:=by
  have:=zeS (l.map ze2)
  rw[List.length_map] at this
  have h2:Lib.join (l.map ze2) ze5=zdR l:=rfl
  rw[h2] at this
  omega
 obtain⟨A,c,rfl,hA⟩:=hv.out.slice
 have HA:=zaa hA
 clear hA hv
 rw[List.length_map]
 go_enter Tryz.func135,Tryz.ntmps135
 go_wp2_with fail
 go_loopw [5,10] (fun v5 v10 wr=> ∃k:Nat,k≤l.length∧v10= .int .i64 k∧wr.ownsRow W.heap.size 9 1 v5 k (zgV ((l.take k).map ze2))∧Below W.heap.size W wr) (fun _ v10 _=>l.length-(intOf v10).toNat)
 case atStart=>exact⟨0,by omega,rfl,World.ownsRow_nil _ _ _ _,Below.refl _ _⟩
 case round=>
  obtain⟨k,hk,rfl,ho,hbr⟩:=hrel
  have HO:=zaa ho
  have HBR:=zaa hbr
  clear ho hbr
  by_cases hlt:k<l.length
  rotate_left
  ·obtain rfl:k=l.length:=by omega
   rw[List.take_length] at HO
   have HJ:=zaa (zdT ze5 (zeG HO.out) (by rw[List.length_map];omega) (by show(zdR l).length≤_;omega))
   clear hlt
   go_wp2_with fail
   refine HJ.out.mono ?_
   rintro e w2 ⟨rfl,hb⟩
   have HB2:=zaa (btZ HBR.out hb)
   clear hb HJ
   go_wp2_with fail
   go_ret
   exact⟨rfl,HB2.out⟩
  obtain⟨x,hx⟩:=za9 hlt
  obtain⟨b,off,rfl,hb,hca⟩:=HA.out.at_ hx
  obtain⟨u0,c0,g0⟩:=hca 0 _ rfl
  obtain⟨u1,c1,g1⟩:=hca 1 _ rfl
  obtain⟨u2,c2,g2⟩:=hca 2 _ rfl
  clear hca
  obtain rfl:=g0.leaf_eq
  obtain rfl:=g1.leaf_eq
  obtain rfl:=g2.leaf_eq
  have c0:=zbH HBR.out hb c0
  have c1:=zat HBR.out hb c1
  have c2:=zat HBR.out hb c2
  simp only[zaF] at c0 c1 c2
  have k0:=kbZ k l.length
  have HX:=zaa hx
  have HS:=zaa (zdX (f:=ze2) hx)
  have hlx:(ze2 x).length≤1000000:=Nat.le_trans (zfD (List.mem_map.2 ⟨x,List.mem_of_getElem? hx,rfl⟩)) hlen
  clear hx
  have HBA:=zaa (HBR.out.alloc HBR.out.size (.cells #[.string ⟨x.m.toArray⟩,.string ⟨x.p.toArray⟩,.string ⟨x.o.toArray⟩] 55))
  have HBX:=zaa ((Below.refl wr.heap.size wr).alloc (Nat.le_refl _) (.cells #[.string ⟨x.m.toArray⟩,.string ⟨x.p.toArray⟩,.string ⟨x.o.toArray⟩] 55))
  have r0:=zeL (x:=x) hlx
  go_wp2_with fail
  have HC:=zaa (zfv x [.string ⟨x.m.toArray⟩,.string ⟨x.p.toArray⟩,.string ⟨x.o.toArray⟩] (wr.alloc (.cells #[.string ⟨x.m.toArray⟩,.string ⟨x.p.toArray⟩,.string ⟨x.o.toArray⟩] 55)) r0.1 r0.2.1 r0.2.2 (zaa (zab.cons (.leaf _) (zab.cons (.leaf _) (zab.cons (.leaf _) zab.nil)))))
  refine HC.out.mono ?_
  rintro e w3 ⟨rfl,hb3⟩
  have HB3:=zaa (btZ HBA.out hb3)
  have HO3:=zaa (zaO HO.out (fun g hg hbg=>((btZ HBX.out hb3).block g (zav HO.out hg).2)))
  have hz3:=HB3.out.size
  clear hb3 HC
  go_wp2_with(first
   |(at_builtin;refine wpList_append_own _ rfl _ _ 63 rfl W.heap.size 9 i0 (.string ⟨#[]⟩) 1 16 Tryz.underlying63 hi0 hz0 hz1 hz2 rfl (by decide) _ _ _ rfl (HO3.out.alloc _) ⟨w3.heap.size,0,none⟩ 1 1 [.string ⟨(ze2 x).toArray⟩] rfl rfl (zaU (by simp)) (by simp[Value.oneCell']) (by unfold maxLen;omega) (by omega) (by simp;exact Nat.le_succ_of_le hz3) ?_;intro v' w5 hown' hgrow _))
  have HB5:=zaa (HB3.out.trans (Below.grown ((Below.refl _ w3).alloc hz3 _) hgrow (by simp;exact Nat.le_succ_of_le hz3) (fun g hg=>(zav HO3.out hg).1)))
  have HO5:=zaa hown'
  clear hown' hgrow
  go_wp2_with fail
  go_roundw
  case rel=>exact⟨k+1,by omega,by go_num,by rw[HS.out];exact HO5.out,HB5.out⟩
  case measure=>simp[intOf];omega
theorem zjl (v:Value) (l:List zck) (W:World) (hv:Hid (DAt W (fun _=>True) v (.row 2 (l.map zck.cells)))) (hlen:(zd4 l).length≤1000000) (hF:Hid (l.all zjO=true)) (hGB:8≤W.heap.size) (hE:Hid (Env W)):
 Calls Tryz.prog 140 #[v,.func (.func 141) #[] #[]] W fun e w'=>e= .returned (.string ⟨(zd4 l).toArray⟩)∧Below W.heap.size W w':=by
 obtain⟨i0,hi0,hz0,hz1,hz2⟩:=info_parts zci
 have hnl:l.length≤1000001:=by
  have:=zeS (l.map zgG)
  rw[List.length_map] at this
  have h2:Lib.join (l.map zgG) ze5=zd4 l:=rfl
  rw[h2] at this
  omega
 obtain⟨A,c,rfl,hA⟩:=hv.out.slice
 have HA:=zaa hA
 clear hA hv
 rw[List.length_map]
 go_enter Tryz.func140,Tryz.ntmps140
 go_wp2_with fail
 go_loopw [5,10] (fun v5 v10 wr=> ∃k:Nat,k≤l.length∧v10= .int .i64 k∧wr.ownsRow W.heap.size 9 1 v5 k (zgV ((l.take k).map zgG))∧Below W.heap.size W wr) (fun _ v10 _=>l.length-(intOf v10).toNat)
 case atStart=>exact⟨0,by omega,rfl,World.ownsRow_nil _ _ _ _,Below.refl _ _⟩
 case round=>
  obtain⟨k,hk,rfl,ho,hbr⟩:=hrel
  have HO:=zaa ho
  have HBR:=zaa hbr
  clear ho hbr
  by_cases hlt:k<l.length
  rotate_left
  ·obtain rfl:k=l.length:=by omega
   rw[List.take_length] at HO
   have HJ:=zaa (zdT ze5 (zeG HO.out) (by rw[List.length_map];omega) (by show(zd4 l).length≤_;omega))
   clear hlt
   go_wp2_with fail
   refine HJ.out.mono ?_
   rintro e w2 ⟨rfl,hb⟩
   have HB2:=zaa (btZ HBR.out hb)
   clear hb HJ
   go_wp2_with fail
   go_ret
   exact⟨rfl,HB2.out⟩
  obtain⟨x,hx⟩:=za9 hlt
  obtain⟨b,off,rfl,hb,hca⟩:=HA.out.at_ hx
  obtain⟨u0,c0,g0⟩:=hca 0 _ rfl
  obtain⟨u1,c1,g1⟩:=hca 1 _ rfl
  clear hca
  obtain rfl:=g0.leaf_eq
  obtain rfl:=g1.leaf_eq
  have c0:=zbH HBR.out hb c0
  have c1:=zat HBR.out hb c1
  simp only[zaF] at c0 c1
  have k0:=kbZ k l.length
  have HX:=zaa hx
  have HS:=zaa (zdX (f:=zgG) hx)
  have hlx:(zgG x).length≤1000000:=Nat.le_trans (zfD (List.mem_map.2 ⟨x,List.mem_of_getElem? hx,rfl⟩)) hlen
  clear hx
  have HBA:=zaa (HBR.out.alloc HBR.out.size (.cells #[.string ⟨x.unit.toArray⟩,.int .i64 x.code] 67))
  have HBX:=zaa ((Below.refl wr.heap.size wr).alloc (Nat.le_refl _) (.cells #[.string ⟨x.unit.toArray⟩,.int .i64 x.code] 67))
  have hnx: -9223372036854775808≤x.code∧x.code≤9223372036854775807:=by
   have:=List.all_eq_true.1 hF.out x (List.mem_of_getElem? HX.out)
   simp[zjO,zbQ] at this
   omega
  go_wp2_with fail
  have HC:=zaa (zln x (wr.alloc (.cells #[.string ⟨x.unit.toArray⟩,.int .i64 x.code] 67)) hlx hnx (Nat.le_trans hGB HBA.out.size) (zaa (hE.out.kept HBA.out)))
  refine HC.out.mono ?_
  rintro e w3 ⟨rfl,hb3⟩
  have HB3:=zaa (btZ HBA.out hb3)
  have HO3:=zaa (zaO HO.out (fun g hg hbg=>((btZ HBX.out hb3).block g (zav HO.out hg).2)))
  have hz3:=HB3.out.size
  clear hb3 HC
  go_wp2_with(first
   |(at_builtin;refine wpList_append_own _ rfl _ _ 63 rfl W.heap.size 9 i0 (.string ⟨#[]⟩) 1 16 Tryz.underlying63 hi0 hz0 hz1 hz2 rfl (by decide) _ _ _ rfl (HO3.out.alloc _) ⟨w3.heap.size,0,none⟩ 1 1 [.string ⟨(zgG x).toArray⟩] rfl rfl (zaU (by simp)) (by simp[Value.oneCell']) (by unfold maxLen;omega) (by omega) (by simp;exact Nat.le_succ_of_le hz3) ?_;intro v' w5 hown' hgrow _))
  have HB5:=zaa (HB3.out.trans (Below.grown ((Below.refl _ w3).alloc hz3 _) hgrow (by simp;exact Nat.le_succ_of_le hz3) (fun g hg=>(zav HO3.out hg).1)))
  have HO5:=zaa hown'
  clear hown' hgrow
  go_wp2_with fail
  go_roundw
  case rel=>exact⟨k+1,by omega,by go_num,by rw[HS.out];exact HO5.out,HB5.out⟩
  case measure=>simp[intOf];omega
theorem zfU (v:Value) (l:List Int) (W:World) (hv:Hid (DAt W (fun _=>True) v (.row 1 (zah l)))) (hlen:(zdB l).length≤1000000) (hF:Hid (l.all zbQ=true)) (_hGB:8≤W.heap.size) (hE:Hid (Env W)):
 Calls Tryz.prog 208 #[v,.func (.func 142) #[] #[]] W fun e w'=>e= .returned (.string ⟨(zdB l).toArray⟩)∧Below W.heap.size W w':=by
 obtain⟨i0,hi0,hz0,hz1,hz2⟩:=info_parts zci
 have hnl:l.length≤1000001:=by
  have:=zeS (l.map Lib.itoa)
  rw[List.length_map] at this
  have h2:Lib.join (l.map Lib.itoa) ze5=zdB l:=rfl
  rw[h2] at this
  omega
 obtain⟨A,c,rfl,hA⟩:=hv.out.slice
 have HA:=zaa hA
 clear hA hv
 rw[show(zah l).length=l.length by simp[zah]]
 go_enter Tryz.func208,Tryz.ntmps208
 go_wp2_with fail
 go_loopw [5,10] (fun v5 v10 wr=> ∃k:Nat,k≤l.length∧v10= .int .i64 k∧wr.ownsRow W.heap.size 9 1 v5 k (zgV ((l.take k).map Lib.itoa))∧Below W.heap.size W wr) (fun _ v10 _=>l.length-(intOf v10).toNat)
 case atStart=>exact⟨0,by omega,rfl,World.ownsRow_nil _ _ _ _,Below.refl _ _⟩
 case round=>
  obtain⟨k,hk,rfl,ho,hbr⟩:=hrel
  have HO:=zaa ho
  have HBR:=zaa hbr
  clear ho hbr
  by_cases hlt:k<l.length
  rotate_left
  ·obtain rfl:k=l.length:=by omega
   rw[List.take_length] at HO
   have HJ:=zaa (zdT ze5 (zeG HO.out) (by rw[List.length_map];omega) (by show(zdB l).length≤_;omega))
   clear hlt
   go_wp2_with fail
   refine HJ.out.mono ?_
   rintro e w2 ⟨rfl,hb⟩
   have HB2:=zaa (btZ HBR.out hb)
   clear hb HJ
   go_wp2_with fail
   go_ret
   exact⟨rfl,HB2.out⟩
  obtain⟨x,hx⟩:=za9 hlt
  obtain⟨b,off,rfl,hb,hca⟩:=HA.out.at_ (cells:=fun n:Int=>[lI n]) hx
  obtain⟨u0,c0,g0⟩:=hca 0 _ rfl
  clear hca
  obtain rfl:=g0.leaf_eq
  rw[Nat.mul_one,Nat.add_zero] at c0
  have c0:=zan HBR.out hb (off+k) c0
  have k0:=kbZ k l.length
  have HX:=zaa hx
  have HS:=zaa (zdX (f:=Lib.itoa) hx)
  have hlx:(Lib.itoa x).length≤1000000:=Nat.le_trans (zfD (List.mem_map.2 ⟨x,List.mem_of_getElem? hx,rfl⟩)) hlen
  clear hx
  have HBA:=HBR
  have HBX:=zaa (Below.refl wr.heap.size wr)
  have hnx: -9223372036854775808≤x∧x≤9223372036854775807:=by
   have:=List.all_eq_true.1 hF.out x (List.mem_of_getElem? HX.out)
   simp[zbQ] at this
   omega
  go_wp2_with fail
  have HC:=zaa (zdy x wr (zaa (hE.out.kept HBR.out)).out hnx.1 hnx.2)
  refine HC.out.mono ?_
  rintro e w3 ⟨rfl,hb3⟩
  have HB3:=zaa (btZ HBA.out hb3)
  have HO3:=zaa (zaO HO.out (fun g hg hbg=>((btZ HBX.out hb3).block g (zav HO.out hg).2)))
  have hz3:=HB3.out.size
  clear hb3 HC
  go_wp2_with(first
   |(at_builtin;refine wpList_append_own _ rfl _ _ 63 rfl W.heap.size 9 i0 (.string ⟨#[]⟩) 1 16 Tryz.underlying63 hi0 hz0 hz1 hz2 rfl (by decide) _ _ _ rfl (HO3.out.alloc _) ⟨w3.heap.size,0,none⟩ 1 1 [.string ⟨(Lib.itoa x).toArray⟩] rfl rfl (zaU (by simp)) (by simp[Value.oneCell']) (by unfold maxLen;omega) (by omega) (by simp;exact Nat.le_succ_of_le hz3) ?_;intro v' w5 hown' hgrow _))
  have HB5:=zaa (HB3.out.trans (Below.grown ((Below.refl _ w3).alloc hz3 _) hgrow (by simp;exact Nat.le_succ_of_le hz3) (fun g hg=>(zav HO3.out hg).1)))
  have HO5:=zaa hown'
  clear hown' hgrow
  go_wp2_with fail
  go_roundw
  case rel=>exact⟨k+1,by omega,by go_num,by rw[HS.out];exact HO5.out,HB5.out⟩
  case measure=>simp[intOf];omega
end Go.Proofs.YtgbfaompondolaaGreatDoor
namespace Go.Proofs.YtgbfaompondolaaGreatDoor
theorem zmL: ∀(k u:Nat),u<10 ^ (k+1)→Lib.nDigits u≤k+1
 |0,u,h=>by
  rw[Lib.nDigits_small (by simpa using h)]
  omega
 |k+1,u,h=>by
  by_cases h1:u<10
  ·rw[Lib.nDigits_small h1]
   omega
  ·rw[Lib.nDigits_big h1]
   have:=zmL k (u/10) (by rw[Nat.pow_succ] at h;omega)
   omega
theorem zb1 {n:Int} (h:zbQ n=true):(Lib.itoa n).length≤10:=by
 simp[zbQ] at h
 obtain⟨u,rfl⟩: ∃u:Nat,n=u:=⟨n.toNat,by omega⟩
 rw[Lib.itoa_nonneg,Lib.decDigits_length]
 exact zmL 9 u (by omega)
theorem zeY {k:Nat} {l:List (List UInt8)} (h:(l.all fun s=>decide (s.length≤k))=true) (n:Nat):(zaj l n).length≤k:=by
 unfold zaj
 split
 ·simp
 ·rw[List.getD_eq_getElem?_getD]
  cases e:l[n-1]? with
  |none=>simp
  |some s=>simpa using List.all_eq_true.1 h s (List.mem_of_getElem? e)
theorem zaC (t:Nat) (en:List UInt8) (l:List Arg):(lnT t en l).length=t+(zcm l).length+(en.length+1):=by
 simp[lnT,Lib.repeatL_length]
 omega
theorem zee {α:Type} (f:α→List UInt8) (c n:α→Nat) (K:Nat) (l:List α) (h: ∀x∈l,(f x).length≤c x+K*n x):(za4 f l).length≤(l.map c).sum+K*(l.map n).sum:=by
 induction l with
 |nil=>simp[za4]
 |cons a l ih=>
  have h1:=h a (by simp)
  have h2:=ih (fun x hx=>h x (by simp[hx]))
  simp only[za4,List.map_cons,List.flatten_cons,List.length_append,List.sum_cons,Nat.mul_add] at h2 ⊢
  omega
theorem zlr {α:Type} (f:α→List UInt8) (c:α→Nat) (k:Nat) (l:List α) (h: ∀x∈l,(f x).length≤c x+k):Lib.lens (l.map f)≤(l.map c).sum+k*l.length:=by
 induction l with
 |nil=>simp[Lib.lens]
 |cons a l ih=>
  have h1:=h a (by simp)
  have h2:=ih (fun x hx=>h x (by simp[hx]))
  simp only[Lib.lens,List.map_cons,List.sum_cons,List.length_cons,Nat.mul_add,Nat.mul_one] at h2 ⊢
  omega
theorem zgT {α:Type} (f:α→List UInt8) (c:α→Nat) (k:Nat) (l:List α) (h: ∀x∈l,(f x).length≤c x+k):(Lib.join (l.map f) ze5).length≤(l.map c).sum+k*l.length+2*l.length:=by
 have h1:=zlr f c k l h
 cases l with
 |nil=>simp[Lib.join_nil]
 |cons a l=>
  rw[List.map_cons,Lib.join_length,List.length_map]
  rw[List.map_cons] at h1
  have h3:ze5.length=2:=rfl
  rw[h3]
  simp only[List.length_cons] at h1 ⊢
  omega
theorem zbj {α:Type} (k:Nat) (l:List α):(l.map fun _=>k).sum=k*l.length:=by
 induction l with
 |nil=>simp
 |cons a l ih=>
  simp only[List.map_cons,List.sum_cons,List.length_cons,Nat.mul_add,Nat.mul_one] at ih ⊢
  omega
def zdK (x:zb2):Nat:=x.m.length+x.p.length+x.o.length
def zdV (l:List zb2):Nat:=(l.map zdK).sum
theorem zfH (x:zb2):(ze2 x).length=zdK x+2:=by
 simp[ze2,zdK]
 omega
theorem zfT (l:List zb2):(zdR l).length≤zdV l+2*l.length+2*l.length:=zgT ze2 zdK 2 l (fun x _=>by rw[zfH];omega)
theorem zfV {l:List Int} (h:l.all zbQ=true):(zdB l).length≤12*l.length:=by
 have:=zgT Lib.itoa (fun _=>0) 10 l (fun x hx=>by have:=zb1 (List.all_eq_true.1 h x hx);omega)
 rw[zbj] at this
 unfold zdB
 omega
def zdZ {α:Type} (f:α→List UInt8) (l:List α):Nat:=(l.map fun x=>(f x).length).sum
def zcE (x:zaY):Nat:=2+x.code.length
def zcA (x:zaM):Nat:=2+x.semas.length+x.bufs.length+2*x.ports.length+(x.procs.map zcE).sum
def zdn (x:zaM):Nat:=x.name.length+zdZ zaT.name x.ports+zdZ zaY.name x.procs
def ze6 (x:zcl):Nat:=1+(x.parts.map zcA).sum
def zgq (x:zcl):Nat:=x.name.length+(x.parts.map zdn).sum
def zcQ (x:zbd):Nat:=2+2*x.to.length
def zdL (x:zbd):Nat:=zdK x.from_+zdV x.to
def vlN (x:VlD):Nat:=3+2*x.to.length
def vlC (x:VlD):Nat:=x.name.length+(zdK x.from_+zdV x.to)
def zbS (x:zaN):Nat:=1+2*x.needs.length+x.but.length
def zcF (x:zaN):Nat:=x.unit.length+zdZ zck.unit x.needs+zdZ id x.but
def zdM (x:zbw):Nat:=x.a.length+x.b.length
def zbY (x:zaH):Nat:=x.module.length+x.part.length
def zgI (x:zc7):Nat:=x.a.length+x.b.length
def zeu (x:zbR):Nat:=x.links.length*3+x.switches.length*2+x.versions.length*3+x.health.length*3+(x.modules.map ze6).sum+(x.channels.map zcQ).sum+(x.vls.map vlN).sum+(x.causes.map zbS).sum
def zeJ (x:zbR):Nat:=(x.modules.map zgq).sum+(x.channels.map zdL).sum+(x.vls.map vlC).sum+(x.causes.map zcF).sum+zdZ SwD.name x.switches+(x.links.map zdM).sum+(x.health.map zbY).sum+(x.versions.map zgI).sum
theorem zg9 (n:Int):(zkd n).length=1:=by
 unfold zkd
 split<;>rfl
theorem zmD {x:SwD} (h:swF x=true):(swT x).length≤x.name.length+160*2:=by
 simp[swF] at h
 have h1:=zb1 h.2.2.1
 have h2:=zb1 h.2.2.2
 have h3:=zg9 x.net
 rw[swT,zaC]
 simp[zcm,Arg.txt]
 omega
theorem zik {x:zbw} (h:zeA x=true):(zeH x).length≤zdM x+160*3:=by
 simp[zeA] at h
 have h1:=zb1 h.2.2
 have h3:=zg9 x.net
 rw[zeH,zaC]
 simp[zcm,Arg.txt,zdM]
 omega
theorem zkQ {x:zc7} (h:zij x=true):(ziF x).length≤zgI x+160*3:=by
 simp[zij] at h
 have h1:=zb1 h.2.1
 have h2:=zb1 h.2.2
 rw[ziF,zaC]
 simp[zcm,Arg.txt,zgI]
 omega
theorem ziY {x:zbd}:(zes x).length≤zdL x+160*zcQ x:=by
 have h1:=zfH x.from_
 have h2:=zfT x.to
 rw[zes,zaC]
 simp[zcm,Arg.txt,zdL,zcQ]
 omega
theorem zme {x:VlD} (h:vlF x=true):(vlT x).length≤vlC x+160*vlN x:=by
 simp[vlF] at h
 have h1:=zfH x.from_
 have h2:=zfT x.to
 have h3:=zb1 h.2.2.1
 have h4:=zb1 h.2.2.2
 rw[vlT,zaC]
 simp[zcm,Arg.txt,vlC,vlN]
 omega
theorem zgB {x:zaH}:(zbD x).length≤zbY x+160*3:=by
 have h1:=zeY (k:=8) (l:=zax) (by decide) x.fault
 have h2:=zeY (k:=8) (l:=zas) (by decide) x.level
 have h3:=zeY (k:=8) (l:=zap) (by decide) x.do_
 rw[zbD,zaC]
 unfold zgD zbY
 split<;>split<;>simp[zcm,Arg.txt]<;>omega
theorem zhP {x:zaN} (h:zdH x=true):(zcr x).length≤zcF x+160*zbS x:=by
 simp only[zdH,Bool.and_eq_true,List.all_eq_true] at h
 have h1:(zd4 x.needs).length≤zdZ zck.unit x.needs+11*x.needs.length+2*x.needs.length:=zgT zgG (fun r=>r.unit.length) 11 x.needs (fun r hr=>by
  have h4:=h.2.2 r hr
  simp[zjO] at h4
  have:=zb1 h4.2
  simp[zgG]
  omega)
 have h2:(Lib.join x.but ze5).length≤zdZ id x.but+0*x.but.length+2*x.but.length:=by
  have:=zgT id (fun r:List UInt8=>r.length) 0 x.but (fun r _=>by simp)
  rw[List.map_id] at this
  exact this
 rw[zcr,zaC]
 unfold zem zcF zbS
 split<;>simp[zcm,Arg.txt]<;>omega
theorem ziZ {x:zaT} (h:zez x=true):(zdO x).length≤x.name.length+160*2:=by
 simp[zez] at h
 have h1:=zb1 h.2.2.1
 have h2:=zb1 h.2.2.2.1
 have h3:=zb1 h.2.2.2.2
 have h4:(zgx x).length≤3:=by unfold zgx;split<;>decide
 unfold zdO
 split<;>rw[zaC]<;>simp[zcm,Arg.txt]<;>omega
theorem zeF {x:zbU} (h:zed x=true):(zex x).length≤50:=by
 simp only[zed,Bool.and_eq_true] at h
 have h1:=zeY (k:=6) (l:=zaD) (by decide) x.op
 have h2:=zee (fun n:Int=>32::Lib.itoa n) (fun _=>0) (fun _=>1) 11 (zcz x) (fun n hn=>by
  have:=zb1 (List.all_eq_true.1 h.2.1 n hn)
  simp
  omega)
 rw[zbj,zbj] at h2
 have h3:(zcz x).length≤3:=by
  unfold zcz
  rw[List.length_take]
  simp
  omega
 simp[zex]
 omega
theorem ziX {x:zbU} (h:zed x=true):(zf2 x).length≤0+160*1:=by
 have h1:=zeF h
 rw[zf2,zaC]
 simp[zcm,Arg.txt]
 omega
theorem zi2 {x:zaY} (h:zff x=true):(zec x).length≤x.name.length+160*zcE x:=by
 simp only[zff,Bool.and_eq_true,List.all_eq_true] at h
 have h1:=zb1 (h.2.1 x.prio (by simp))
 have h2:=zb1 (h.2.1 x.period (by simp))
 have h3:=zb1 (h.2.1 x.limit (by simp))
 have h4:=zee zf2 (fun _=>0) (fun _=>1) 160 x.code (fun z hz=>ziX (h.2.2 z hz))
 rw[zbj,zbj] at h4
 rw[zec,zgr,List.length_append,List.length_append,zaC,zaC]
 simp[zcm,Arg.txt,zcE]
 omega
theorem zjf {x:zaM} (h:zdY x=true):(zd1 x).length≤zdn x+160*zcA x:=by
 simp only[zdY,Bool.and_eq_true] at h
 obtain⟨-,hn,hs,hb,hp,hq⟩:=h
 simp only[List.all_eq_true] at hn hp hq
 have h1:=zb1 (hn x.period (by simp))
 have h2:=zb1 (hn x.length (by simp))
 have h3:=zb1 (hn x.mem (by simp))
 have h4:=zb1 (hn x.events (by simp))
 have h5:=zb1 (hn x.boards (by simp))
 have h6:=zfV hs
 have h7:=zfV hb
 have h8:=zee zdO (fun y=>y.name.length) (fun _=>2) 160 x.ports (fun z hz=>ziZ (hp z hz))
 have h9:=zee zec (fun y=>y.name.length) zcE 160 x.procs (fun z hz=>zi2 (hq z hz))
 rw[zbj] at h8
 have a1:(zcv x).length≤20+12*x.semas.length:=by
  unfold zcv
  split
  ·simp
  ·rw[zaC];simp[zcm,Arg.txt];omega
 have a2:(zeh x).length≤20+12*x.bufs.length:=by
  unfold zeh
  split
  ·simp
  ·rw[zaC];simp[zcm,Arg.txt];omega
 have a3:(zbX x).length≤30:=by
  unfold zbX
  split
  ·rw[zaC];simp[zcm,Arg.txt];omega
  ·simp
 have a4:(zb5 x).length≤30:=by
  unfold zb5
  split
  ·rw[zaC];simp[zcm,Arg.txt];omega
  ·simp
 have a5:(zdl x).length≤80+x.name.length:=by
  rw[zdl,zaC];simp[zcm,Arg.txt];omega
 have a6:(lnT 1 [125] []).length=3:=by rw[zaC];rfl
 unfold zd1 zdn zcA zdZ
 simp only[List.length_append]
 omega
theorem zj1 {x:zcl} (h:zig x=true):(zgm x).length≤zgq x+160*ze6 x:=by
 simp only[zig,Bool.and_eq_true,List.all_eq_true] at h
 obtain⟨-,hn,hp⟩:=h
 have h1:=zb1 (hn x.mem (by simp))
 have h2:=zb1 (hn x.frame (by simp))
 have h3:=zee zd1 zdn zcA 160 x.parts (fun z hz=>zjf (hp z hz))
 have a5:(zld x).length≤60+x.name.length:=by
  rw[zld,zaC];simp[zcm,Arg.txt];omega
 have a6:(lnT 0 [125] []).length=2:=by rw[zaC];rfl
 unfold zgm zgq ze6
 simp only[List.length_append]
 omega
theorem zkG {x:zbR} (h:zfG x=true):(zhQ x).length≤zeJ x+160*zeu x:=by
 simp only[zfG,Bool.and_eq_true,List.all_eq_true] at h
 obtain⟨h1,h2,h3,h4,h5,h6,h7,h8⟩:=h
 have k1:=zee zgm zgq ze6 160 x.modules (fun z hz=>zj1 (h1 z hz))
 have k2:=zee zes zdL zcQ 160 x.channels (fun z hz=>ziY)
 have k3:=zee swT (fun y=>y.name.length) (fun _=>2) 160 x.switches (fun z hz=>zmD (h3 z hz))
 have k4:=zee zeH zdM (fun _=>3) 160 x.links (fun z hz=>zik (h4 z hz))
 have k5:=zee vlT vlC vlN 160 x.vls (fun z hz=>zme (h5 z hz))
 have k6:=zee zbD zbY (fun _=>3) 160 x.health (fun z hz=>zgB)
 have k7:=zee zcr zcF zbS 160 x.causes (fun z hz=>zhP (h7 z hz))
 have k8:=zee ziF zgI (fun _=>3) 160 x.versions (fun z hz=>zkQ (h8 z hz))
 rw[zbj] at k3 k4 k6 k8
 unfold zhQ zeJ zeu zdZ
 simp only[List.length_append]
 omega
theorem znI {x:zbR} (h:zfG x=true) (hs:zeu x+zeJ x/8≤400):(zhQ x).length≤65536:=by
 have:=zkG h
 omega
end Go.Proofs.YtgbfaompondolaaGreatDoor
namespace Go.Proofs.YtgbfaompondolaaGreatDoor
open Go.RowKit
attribute [local go_sem] zal.cell
def opT (n:Int):List UInt8:=32::Lib.itoa n
theorem zfJ (x:zbU):zex x=zaj zaD x.op++za4 opT (zcz x)++[59]:=rfl
theorem zg2 (x:zbU) (hop:x.op≤255) (W:World) (hF:zed x=true) (hE:Hid (Env W)) (hP:Hid (zcL W)):
 Calls Tryz.prog 83 #[.agg #[.int .u8 (x.op:Int),.int .i64 x.a,.int .i64 x.b,.int .i64 x.c]] W fun e w'=>e= .returned (.string ⟨(zex x).toArray⟩)∧Below W.heap.size W w':=by
 have hnum: ∀z∈zcz x,zbQ z=true:=by
  simp only[zed,Bool.and_eq_true] at hF
  exact List.all_eq_true.1 hF.2.1
 have HN:=zaa hnum
 have h3:=zdj x.op hop
 have hol:(zaj zaR x.op).length=(zcz x).length:=by
  unfold zcz
  rw[List.length_take]
  simp
  omega
 have hil:=zeF hF
 rw[zfJ,List.length_append,List.length_append] at hil
 simp only[List.length_cons,List.length_nil] at hil
 rw[hol] at h3
 clear hnum hF
 have HW:=zaa (fun V h=>zgj x.op V h hop)
 have HOP:=zaa (fun V h=>zeo x hop V h)
 rw[hol] at HOP
 clear hol
 have hget: ∀(k:Nat) z,(zcz x)[k]? =some z→(#[Value.int .i64 x.a,.int .i64 x.b,.int .i64 x.c])[k]? =some (.int .i64 z):=by
  intro k z h
  unfold zcz at h
  rw[List.getElem?_take] at h
  split at h
  ·match k,h with
   |0,h=>simpa using h
   |1,h=>simpa using h
   |2,h=>simpa using h
   |k+3,h=>simp at h
  ·cases h
 have HG:=zaa hget
 clear hget
 have HB:=zaa ((Below.refl W.heap.size W).alloc (Nat.le_refl _) (.cells #[.int .u8 (x.op:Int),.int .i64 x.a,.int .i64 x.b,.int .i64 x.c] 78))
 have HX:=zaa (heap_alloc_new W (.cells #[.int .u8 (x.op:Int),.int .i64 x.a,.int .i64 x.b,.int .i64 x.c] 78))
 go_enter Tryz.func83,Tryz.ntmps83
 go_wp2_with fail
 generalize W.alloc _=w0 at *
 refine(HW.out w0 (zaa (hP.out.below HB.out))).mono ?_
 rintro e w1 ⟨rfl,hb⟩
 have HB1:=zaa (btZ HB.out hb)
 have HX1:=zaa (bkZ hb HX.out)
 clear hb HX HB HW
 have c0:=cell_of_row _ _ 0 _ _ _ HX1.out
 have c1:=cell_of_row _ _ 1 _ _ _ HX1.out
 have c2:=cell_of_row _ _ 2 _ _ _ HX1.out
 have c3:=cell_of_row _ _ 3 _ _ _ HX1.out
 go_wp2_with fail
 clear c0 c1 c2 c3
 refine(HOP.out w1 (zaa (hP.out.below HB1.out))).mono ?_
 rintro e w2 ⟨ob,rfl,ho,hb⟩
 have HB2:=zaa (btZ HB1.out hb)
 have HO:=zaa ho
 have hob:=(zaJ ho)
 clear ho hb HOP HX1
 go_wp2_with fail
 go_loopw [3,12] (fun v3 v12 wr=> ∃(k:Nat) (S:ByteArray),k≤(zcz x).length∧v12= .int .i64 k∧v3= .string S∧S.data.toList=zaj zaD x.op++za4 opT ((zcz x).take k)∧Below W.heap.size W wr∧wr.heap[ob]? =w2.heap[ob]?) (fun _ v12 _=>(zcz x).length-(intOf v12).toNat)
 case atStart=>exact⟨0,_,by omega,rfl,rfl,by rw[zbh,List.append_nil],HB2.out,rfl⟩
 case round=>
  obtain⟨k,S,hk,rfl,rfl,hS,hbr,hor⟩:=hrel
  have HS:=zaa hS
  have HBR:=zaa hbr
  have HOR:=zaa hor
  have hsz:S.size≤60:=by
   have e:S.size=S.data.toList.length:=by simp
   have:=ziz (f:=opT) (l:=zcz x) (k:=k)
   rw[e,hS,List.length_append]
   omega
  clear hS hbr hor
  by_cases hlt:k<(zcz x).length
  rotate_left
  ·obtain rfl:k=(zcz x).length:=by omega
   rw[List.take_length] at HS
   have k1: ¬9223372036854775807<S.size+1:=by omega
   have HT:(S++⟨#[59]⟩:ByteArray)=⟨(zex x).toArray⟩:=by
    apply ByteArray.ext
    rw[ByteArray.data_append]
    apply Array.toList_inj.1
    rw[Array.toList_append,HS.out]
    simp[zfJ]
   clear hlt
   go_wp2_with fail
   go_ret
   exact⟨by first|rfl|(rw[←HT];rfl),HBR.out⟩
  obtain⟨z,hz⟩: ∃z,(zcz x)[k]? =some z:=⟨_,List.getElem?_eq_getElem hlt⟩
  have cz:wr.cell? ⟨ob,k,none⟩=some (.int .i64 z):=by
   rw[cell_of_row _ _ k _ _ _ (HOR.out.trans HO.out)]
   exact HG.out k z hz
  have hd:=zb1 (HN.out z (List.mem_of_getElem? hz))
  have hnz:=HN.out z (List.mem_of_getElem? hz)
  simp only[zbQ,Bool.and_eq_true,decide_eq_true_eq] at hnz
  have k0:(0:Int)≤(k:Int)∧(k:Int)<(((zcz x).length:Nat):Int):=by omega
  have k1: ¬9223372036854775807<1+(Lib.itoa z).length:=by omega
  have k2: ¬9223372036854775807<S.size+(1+(Lib.itoa z).length):=by omega
  have HZ:=zaa (zaE (f:=opT) hz)
  have HI:=zaa (zdy z wr (hE.out.kept HBR.out) (by omega) (by omega))
  clear hz hd hnz
  go_wp2_with fail
  refine HI.out.mono ?_
  rintro e w3 ⟨rfl,hb⟩
  have HB3:=zaa (btZ HBR.out hb)
  have HO3:=zaa ((hb.block ob (by have:=(zaJ (HOR.out.trans HO.out));exact this)).trans HOR.out)
  have HT:(S++(⟨#[32]⟩++⟨(Lib.itoa z).toArray⟩):ByteArray).data.toList=zaj zaD x.op++za4 opT ((zcz x).take (k+1)):=by
   rw[ByteArray.data_append,Array.toList_append,HS.out,HZ.out]
   simp[opT,ByteArray.data_append]
  have HTT:=zaa HT
  clear hb HI cz HT
  go_wp2_with fail
  go_roundw
  case rel=>exact⟨k+1,_,by omega,by go_num,rfl,HTT.out,HB3.out,HO3.out⟩
  case measure=>simp[intOf];omega
end Go.Proofs.YtgbfaompondolaaGreatDoor
namespace Go.Proofs.YtgbfaompondolaaGreatDoor
open Go.RowKit
attribute [local go_sem] zal.cell
def zdI (l:List zbU):List UInt8:=Lib.join (l.map zex) [32]
noncomputable def codeE (l:List zbU):Value:=if l.all zed=true then zdC ⟨(zdI l).toArray⟩ else .tuple #[.string ⟨#[]⟩,.int .i64 2]
theorem zhV {l:List zbU} (h:l.all zed=true):(zdI l).length≤51*l.length:=by
 have h1:=zlr zex (fun _=>0) 50 l (fun x hx=>by have:=zeF (List.all_eq_true.1 h x hx);omega)
 rw[zbj] at h1
 unfold zdI
 cases l with
 |nil=>simp[Lib.join_nil]
 |cons a l=>
  rw[List.map_cons] at h1 ⊢
  rw[Lib.join_length,List.length_map]
  simp only[List.length_cons,List.length_nil] at h1 ⊢
  omega
theorem zgv (v:Value) (l:List zbU) (W:World) (hv:Hid (DAt W (fun _=>True) v (.row 4 (l.map zbU.cells)))) (hop: ∀x∈l,x.op≤255) (hn:l.length≤1000000) (hE:Hid (Env W)) (hP:Hid (zcL W)):
 Calls Tryz.prog 18 #[v] W fun e w'=>e= .returned (codeE l)∧Below W.heap.size W w':=by
 obtain⟨i0,hi0,hz0,hz1,hz2⟩:=info_parts zci
 have HAL:=zaa (zjo v l zed W hv (by omega) (zaa (fun x hx us w' hb hd=>zm8 x (hop x hx) us w' (zaa (hP.out.below hb)) (zaa hd))))
 obtain⟨A,c,rfl,hA⟩:=hv.out.slice
 have HA:=zaa hA
 clear hA hv
 rw[List.length_map] at HAL ⊢
 go_enter Tryz.func18,Tryz.ntmps18
 go_wp2_with fail
 cases hz:l.all zed with
 |false=>
  have HX:=zaa (show codeE l= .tuple #[.string ⟨#[]⟩,.int .i64 2] by unfold codeE;rw[hz];rfl)
  rw[hz] at HAL
  clear hz
  refine HAL.out.mono ?_
  rintro e w1 ⟨rfl,hb⟩
  have HB1:=zaa hb
  clear hb HAL
  go_wp2_with fail
  go_ret2
  exact⟨by rw[HX.out];rfl,HB1.out⟩
 |true=>
  have HX:=zaa (show codeE l=zdC ⟨(zdI l).toArray⟩ by unfold codeE;rw[hz];rfl)
  have HF:=zaa hz
  have HLN:=zaa (zhV hz)
  rw[hz] at HAL
  clear hz
  refine HAL.out.mono ?_
  rintro e w1 ⟨rfl,hb⟩
  have HB1:=zaa hb
  clear hb HAL
  go_wp2_with fail
  go_loopw [4,12] (fun v4 v12 wr=> ∃k:Nat,k≤l.length∧v12= .int .i64 k∧wr.ownsRow W.heap.size 9 1 v4 k (zgV ((l.take k).map zex))∧Below W.heap.size W wr) (fun _ v12 _=>l.length-(intOf v12).toNat)
  case atStart=>exact⟨0,by omega,rfl,World.ownsRow_nil _ _ _ _,HB1.out⟩
  case round=>
   obtain⟨k,hk,rfl,ho,hbr⟩:=hrel
   have HO:=zaa ho
   have HBR:=zaa hbr
   clear ho hbr
   by_cases hlt:k<l.length
   rotate_left
   ·obtain rfl:k=l.length:=by omega
    rw[List.take_length] at HO
    have hL:=HLN.out
    have HJ:=zaa (zdT [32] (zeG HO.out) (by rw[List.length_map];omega) (by show(zdI l).length≤_;omega))
    clear hlt
    go_wp2_with fail
    refine HJ.out.mono ?_
    rintro e w2 ⟨rfl,hb⟩
    have HB2:=zaa (btZ HBR.out hb)
    clear hb HJ
    go_wp2_with fail
    refine(zhA ⟨(zdI l).toArray⟩ w2 (by show(zdI l).length≤_;omega)).mono ?_
    rintro e w5 ⟨rfl,rfl⟩
    rcases(by unfold zdC;split<;>exact⟨_,_,rfl⟩: ∃p q,zdC ⟨(zdI l).toArray⟩= .tuple #[p,q]) with⟨p,q,hpq⟩
    have HE:=zaa (HX.out.trans hpq)
    rw[hpq]
    clear hpq
    go_wp2_with fail
    go_ret2
    exact⟨by rw[HE.out];rfl,HB2.out⟩
   obtain⟨x,hx⟩:=za9 hlt
   obtain⟨b,off,rfl,hb,hca⟩:=HA.out.at_ hx
   obtain⟨u0,c0,g0⟩:=hca 0 _ rfl
   obtain⟨u1,c1,g1⟩:=hca 1 _ rfl
   obtain⟨u2,c2,g2⟩:=hca 2 _ rfl
   obtain⟨u3,c3,g3⟩:=hca 3 _ rfl
   clear hca
   obtain rfl:=g0.leaf_eq
   obtain rfl:=g1.leaf_eq
   obtain rfl:=g2.leaf_eq
   obtain rfl:=g3.leaf_eq
   have c0:=zbH HBR.out hb c0
   have c1:=zat HBR.out hb c1
   have c2:=zat HBR.out hb c2
   have c3:=zat HBR.out hb c3
   have k0:=kbZ k l.length
   have hmem:=List.mem_of_getElem? hx
   have hFx:=List.all_eq_true.1 HF.out x hmem
   have HS:=zaa (zdX (f:=zex) hx)
   have HBA:=zaa (HBR.out.alloc HBR.out.size (.cells #[.int .u8 (x.op:Int),.int .i64 x.a,.int .i64 x.b,.int .i64 x.c] 78))
   have HBX:=zaa ((Below.refl wr.heap.size wr).alloc (Nat.le_refl _) (.cells #[.int .u8 (x.op:Int),.int .i64 x.a,.int .i64 x.b,.int .i64 x.c] 78))
   have HC:=zaa (zg2 x (hop x hmem) (wr.alloc (.cells #[.int .u8 (x.op:Int),.int .i64 x.a,.int .i64 x.b,.int .i64 x.c] 78)) hFx (zaa (hE.out.kept HBA.out)) (zaa (hP.out.below HBA.out)))
   clear hx hmem hFx
   go_wp2_with fail
   refine HC.out.mono ?_
   rintro e w3 ⟨rfl,hb3⟩
   have HB3:=zaa (btZ HBA.out hb3)
   have HO3:=zaa (zaO HO.out (fun g hg hbg=>((btZ HBX.out hb3).block g (zav HO.out hg).2)))
   have hz3:=HB3.out.size
   clear hb3 HC
   go_wp2_with(first
    |(at_builtin;refine wpList_append_own _ rfl _ _ 63 rfl W.heap.size 9 i0 (.string ⟨#[]⟩) 1 16 Tryz.underlying63 hi0 hz0 hz1 hz2 rfl (by decide) _ _ _ rfl (HO3.out.alloc _) ⟨w3.heap.size,0,none⟩ 1 1 [.string ⟨(zex x).toArray⟩] rfl rfl (zaU (by simp)) (by simp[Value.oneCell']) (by unfold maxLen;omega) (by omega) (by simp;exact Nat.le_succ_of_le hz3) ?_;intro v' w5 hown' hgrow _))
   have HB5:=zaa (HB3.out.trans (Below.grown ((Below.refl _ w3).alloc hz3 _) hgrow (by simp;exact Nat.le_succ_of_le hz3) (fun g hg=>(zav HO3.out hg).1)))
   have HO5:=zaa hown'
   clear hown' hgrow
   go_wp2_with fail
   go_roundw
   case rel=>exact⟨k+1,by omega,by go_num,by rw[HS.out];exact HO5.out,HB5.out⟩
   case measure=>simp[intOf];omega
end Go.Proofs.YtgbfaompondolaaGreatDoor
