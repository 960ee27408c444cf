/- Merged texts of the walks and of the plain laws on which the statement leans.-/
import Derived.Test.YtgbfaompondolaaGreatDoorPk1
import Derived.Test.YtgbfaompondolaaGreatDoorPk24
import Derived.Laws.MakeOwn
import Derived.Test.YtgbfaompondolaaGreatDoorPk23
import Derived.Laws.BytesArg
set_option maxHeartbeats 4000000
set_option maxRecDepth 100000
namespace Go.Proofs.YtgbfaompondolaaGreatDoor
open Go.RowKit
attribute [local go_sem] zal.cell
def mkI (k i:Int):Int:=1000003*(k+7)+i
theorem zbM (k i:Int) (w:World) (k0:0≤k) (k1:k≤1000) (i0:0≤i) (i1:i≤281474976710656):Calls Tryz.prog 190 #[.int .i64 k,.int .i64 i] w fun e w'=>e= .returned (.int .i64 (mkI k i))∧w=w':=by
 have HM:Hid (mkI k i=1000003*(k+7)+i):=rfl
 go_enter Tryz.func190,Tryz.ntmps190
 go_wp2_with fail
 go_ret
 exact⟨by rw[HM.out];rfl,rfl⟩
def insM (i:Int):zbU:=⟨0,mkI 1 i,0,0⟩
def insVs (x:zbU):List Value:=[.int .u8 (x.op:Int),.int .i64 x.a,.int .i64 x.b,.int .i64 x.c]
theorem zlG (i:Int) (w:World) (i0:0≤i) (i1:i≤281474976710656):Calls Tryz.prog 109 #[.int .i64 1,.int .i64 i] w fun e w'=>e= .returned (.agg #[.int .u8 0,.int .i64 (mkI 1 i),.int .i64 0,.int .i64 0])∧Below w.heap.size w w':=by
 have HM:=zaa (fun w=>zbM 1 i w (by omega) (by omega) i0 i1)
 generalize mkI 1 i=m at *
 have HB:=zaa ((Below.refl w.heap.size w).alloc (Nat.le_refl _) (.cells #[.int .u8 0,.int .i64 0,.int .i64 0,.int .i64 0] 78))
 have HX:=zaa (heap_alloc_new w (.cells #[.int .u8 0,.int .i64 0,.int .i64 0,.int .i64 0] 78))
 go_enter Tryz.func109,Tryz.ntmps109
 go_wp2_with fail
 generalize w.alloc _=w0 at *
 refine(HM.out w0).mono ?_
 rintro e w' ⟨rfl,rfl⟩
 have hlt:=(zaJ HX.out)
 have c0:=cell_of_row _ _ 0 _ _ _ HX.out
 have c1:=cell_of_row _ _ 1 _ _ _ HX.out
 have c2:=cell_of_row _ _ 2 _ _ _ HX.out
 have c3:=cell_of_row _ _ 3 _ _ _ HX.out
 have f0:=frozen_of_row _ _ 0 _ _ HX.out
 have f1:=frozen_of_row _ _ 1 _ _ HX.out
 have f2:=frozen_of_row _ _ 2 _ _ HX.out
 have f3:=frozen_of_row _ _ 3 _ _ HX.out
 go_wp2_with fail
 refine bodyPost_ret (v:= .agg #[.int .u8 0,.int .i64 m,.int .i64 0,.int .i64 0]) (by simp[results,Tryz.results109,go_sem,c0,c1,c2,c3]) rfl ⟨rfl,?_⟩
 exact(((HB.out.setCell (p:=⟨w.heap.size,0,none⟩) (Nat.le_refl _) _).setCell (p:=⟨w.heap.size,1,none⟩) (Nat.le_refl _) _).setCell (p:=⟨w.heap.size,2,none⟩) (Nat.le_refl _) _).setCell (p:=⟨w.heap.size,3,none⟩) (Nat.le_refl _) _
end Go.Proofs.YtgbfaompondolaaGreatDoor
namespace Go.Proofs.YtgbfaompondolaaGreatDoor
open Go.RowKit
attribute [local go_sem] zal.cell
section
variable {α:Type}
theorem zfB {β:Type} (size:Nat): ∀(rows:List (List β)),(∀r∈rows,r.length=size)→rows.flatten.length=rows.length*size
 |[],_=>by simp
 |a::rows,h=>by
  rw[List.flatten_cons,List.length_append,h a List.mem_cons_self,zfB size rows (fun r hr=>h r (List.mem_cons_of_mem _ hr)),List.length_cons,Nat.add_mul]
  omega
abbrev Elt (α:Type):=World→(Nat→Prop)→List Value→α→Prop
structure zcc (E:Elt α) (size:Nat) (cells:α→List Dat):Prop where
 keep: ∀(w w':World) (G:Nat→Prop) r x,w.heap.size≤w'.heap.size→(∀b,G b→b<w.heap.size→w'.heap[b]? =w.heap[b]?)→E w G r x→E w' G r x
 mono: ∀(w:World) (G H:Nat→Prop) r x,(∀b,G b→b<w.heap.size→H b)→E w G r x→E w H r x
 wide: ∀(w:World) (G:Nat→Prop) r x,E w G r x→r.length=size
 dat: ∀(w:World) (G:Nat→Prop) r x,E w G r x→zab w (fun _=>True) r (cells x)
 one: ∀(w:World) (G:Nat→Prop) r x,E w G r x→ ∀u∈r,u.oneCell'=true
def LL (_size:Nat) (ms:List (List Value)) (E:Elt α) (w:World) (G:Nat→Prop) (v:Value) (l:List α):Prop:=
 ∃g c rows,v= .slice (some ⟨g,0,none⟩) l.length c∧l.length+12≤c∧c≤maxLen∧G g∧g<w.heap.size∧rows.length=l.length∧
  (∀(i:Nat) r x,rows[i]? =some r→l[i]? =some x→E w G r x)∧ ∀(j:Nat) u,(rows++ms).flatten[j]? =some u→w.cell? ⟨g,j,none⟩=some u
theorem LL.keep {size:Nat} {ms:List (List Value)} {E:Elt α} {cells:α→List Dat} (hE:zcc E size cells) {w w':World} {G:Nat→Prop} {v:Value} {l:List α} (h:LL size ms E w G v l) (hz:w.heap.size≤w'.heap.size)
 (hk: ∀b,G b→b<w.heap.size→w'.heap[b]? =w.heap[b]?):LL size ms E w' G v l:=by
 obtain⟨g,c,rows,e,h1,h2,h3,h4,h5,h6,h7⟩:=h
 refine⟨g,c,rows,e,h1,h2,h3,Nat.lt_of_lt_of_le h4 hz,h5,fun i r x hr hx=>hE.keep _ _ _ _ _ hz hk (h6 i r x hr hx),fun j u hu=> ?_⟩
 rw[World.cell?_of_block (a:=⟨g,j,none⟩) (hk g h3 h4)]
 exact h7 j u hu
theorem LL.below {size:Nat} {ms:List (List Value)} {E:Elt α} {cells:α→List Dat} (hE:zcc E size cells) {w w':World} {G:Nat→Prop} {v:Value} {l:List α} (h:LL size ms E w G v l) (hb:Below w.heap.size w w'):LL size ms E w' G v l:=
 h.keep hE hb.size (fun b _ hl=>hb.block b hl)
theorem LL.mono {size:Nat} {ms:List (List Value)} {E:Elt α} {cells:α→List Dat} (hE:zcc E size cells) {w:World} {G H:Nat→Prop} {v:Value} {l:List α} (h:LL size ms E w G v l) (hg: ∀b,G b→b<w.heap.size→H b):LL size ms E w H v l:=by
 obtain⟨g,c,rows,e,h1,h2,h3,h4,h5,h6,h7⟩:=h
 exact⟨g,c,rows,e,h1,h2,hg g h3 h4,h4,h5,fun i r x hr hx=>hE.mono _ _ _ _ _ hg (h6 i r x hr hx),h7⟩
theorem LL.at_ {size:Nat} {ms:List (List Value)} {E:Elt α} {cells:α→List Dat} (hE:zcc E size cells) {w:World} {G:Nat→Prop} {g n c:Nat} {l:List α} (h:LL size ms E w G (.slice (some ⟨g,0,none⟩) n c) l) {i:Nat} {x:α} (hx:l[i]? =some x):
 ∃r,E w G r x∧ ∀(j:Nat) u,r[j]? =some u→w.cell? ⟨g,i*size+j,none⟩=some u:=by
 obtain⟨g',c',rows,e,h1,h2,h3,h4,h5,h6,h7⟩:=h
 injection e with e1 e2 e3
 injection e1 with e1
 injection e1 with e1
 subst e1
 have hi:i<rows.length:=by rw[h5];exact(List.getElem?_eq_some_iff.1 hx).1
 have hr:rows[i]? =some rows[i]:=List.getElem?_eq_getElem hi
 refine⟨rows[i],h6 i _ x hr hx,fun j u hu=>h7 _ u ?_⟩
 have hj:j<size:=by rw[←hE.wide _ _ _ _ (h6 i _ x hr hx)];exact(List.getElem?_eq_some_iff.1 hu).1
 rw[List.flatten_append,List.getElem?_append_left]
 ·rw[zei rows (fun r hr=> ?_) i j _ hr hj,hu]
  obtain⟨k,hk,rfl⟩:=List.getElem_of_mem hr
  exact hE.wide _ _ _ _ (h6 k _ _ (List.getElem?_eq_getElem hk) (List.getElem?_eq_getElem (by omega)))
 ·have hf:rows.flatten.length=rows.length*size:=zfB _ _ (fun r hr=>by
   obtain⟨k,hk,rfl⟩:=List.getElem_of_mem hr
   exact hE.wide _ _ _ _ (h6 k _ _ (List.getElem?_eq_getElem hk) (List.getElem?_eq_getElem (by omega))))
  rw[hf]
  have:(i+1)*size≤rows.length*size:=Nat.mul_le_mul_right _ hi
  rw[Nat.add_mul] at this
  omega
structure LB (E:Elt α) (w:World) (B:Nat) (ty:TypeId) (size:Nat) (v:Value) (l:List α) (rows:List (List Value)):Prop where
 own:w.ownsRow B ty size v rows.length rows.flatten
 each: ∀(i:Nat) r x,rows[i]? =some r→l[i]? =some x→E w (fun b=>B≤b∧v.ownBlock≠some b) r x
theorem LB.below {E:Elt α} {cells:α→List Dat} {size:Nat} (hE:zcc E size cells) {w w':World} {B:Nat} {ty:TypeId} {v:Value} {l:List α} {rows:List (List Value)} (h:LB E w B ty size v l rows) (hb:Below w.heap.size w w'):LB E w' B ty size v l rows where
 own:=zaO h.own (fun g hg _=>hb.block g (zav h.own hg).2)
 each:=fun i r x hr hx=>hE.keep _ _ _ _ _ hb.size (fun b _ hl=>hb.block b hl) (h.each i r x hr hx)
theorem LB.push {E:Elt α} {cells:α→List Dat} {size:Nat} (hE:zcc E size cells) {w w':World} {B g cap n:Nat} {ty:TypeId} {v:Value} {l:List α} {rows:List (List Value)} {r:List Value} (h:LB E w B ty size v l rows)
 (hown:w'.ownsRow B ty size (.slice (some ⟨g,0,none⟩) n cap) n (rows.flatten++r)) (hn:n=rows.length+1) (hg:w.grownBy w' v.ownBlock) (hat:v.ownBlock=some g∨g=w.heap.size)
 (hr: ∀x,l[rows.length]? =some x→E w (fun b=>B≤b∧v.ownBlock≠some b) r x):LB E w' B ty size (.slice (some ⟨g,0,none⟩) n cap) l (rows++[r]) where
 own:=by
  rw[List.length_append,List.flatten_append]
  subst hn
  simpa using hown
 each:=fun i q x hq hx=>by
  have hG: ∀b,(B≤b∧v.ownBlock≠some b)→b<w.heap.size→(B≤b∧(Value.slice (some ⟨g,0,none⟩) n cap).ownBlock≠some b):=fun b hb hl=>⟨hb.1,fun e=>by
   have e2:g=b:=by injection e
   rcases hat with h1|h1
   ·exact hb.2 (by rw[h1,e2])
   ·omega⟩
  have hK:E w (fun b=>B≤b∧v.ownBlock≠some b) q x:=by
   by_cases hi:i<rows.length
   ·rw[List.getElem?_append_left hi] at hq
    exact h.each i q x hq hx
   ·rw[List.getElem?_append_right (by omega)] at hq
    have hi0:i-rows.length=0:=by
     have:=(List.getElem?_eq_some_iff.1 hq).1
     simp at this
     omega
    rw[hi0] at hq
    injection hq with hq
    subst hq
    have hi1:i=rows.length:=by omega
    subst hi1
    exact hr x hx
  have h2:E w' (fun b=>(B≤b∧v.ownBlock≠some b)∧b<w.heap.size) q x:=hE.keep _ _ _ _ _ hg.size (fun b hb hl=>hg.block b hl (fun e=>hb.1.2 e.symm)) (hE.mono _ _ _ _ _ (fun b hb hl=>⟨hb,hl⟩) hK)
  exact hE.mono _ _ _ _ _ (fun b hb _=>hG b hb.1 hb.2) h2
theorem LB.lent {E:Elt α} {cells:α→List Dat} {size:Nat} (hE:zcc E size cells) {w:World} {B:Nat} {ty:TypeId} {v:Value} {l:List α} {ls ms:List (List Value)} (h:LB E w B ty size v l (ls++ms)) (hl:ls.length=l.length) (hm:ms.length=12):
 ∃g c,v= .slice (some ⟨g,0,none⟩) (l.length+12) c∧l.length+12≤c∧c≤maxLen∧LL size ms E w (fun b=>B≤b) (.slice (some ⟨g,0,none⟩) l.length c) l:=by
 have hlen:(ls++ms).length=l.length+12:=by rw[List.length_append,hl,hm]
 have ho:=h.own
 rcases ho.2 with⟨-,h0⟩|⟨g,c,cur,hvv,hbg,hh,hc1,hc2, -⟩
 ·omega
 rw[hlen] at hvv hc1 ho
 refine⟨g,c,hvv,hc1,hc2,g,c,ls,rfl,hc1,hc2,hbg,(zaJ hh),hl,fun i r x hr hx=> ?_,fun j u hu=> ?_⟩
 ·refine hE.mono _ _ _ _ _ (fun b hb _=>hb.1) (h.each i r x ?_ hx)
  rw[List.getElem?_append_left (List.getElem?_eq_some_iff.1 hr).1]
  exact hr
 ·subst hvv
  have hj:j<(ls++ms).flatten.length:=(List.getElem?_eq_some_iff.1 hu).1
  rw[ho.cellAt j (by rw[←ho.1];exact hj)]
  exact hu
end
end Go.Proofs.YtgbfaompondolaaGreatDoor
namespace Go.Proofs.YtgbfaompondolaaGreatDoor
open Go.RowKit
attribute [local go_sem] zal.cell
def mkS (i:Nat):ByteArray:=⟨#[35,1,0,0,47,UInt8.ofNat i,0,0]⟩
def mkZ (i:Nat):List Int:=[35,1,0,0,47,(i:Int),0,0]
theorem zj3 (w:World) (i:Nat) (hi:i<12) (O:Obj) (hO:O= .cells #[.int .u8 35,.int .u8 1,.int .u8 0,.int .u8 0,.int .u8 47,.int .u8 (i:Int),.int .u8 0,.int .u8 0] 5):(convert 119 9 (.slice (some ⟨w.heap.size,0,none⟩) 8 8)).run Tryz.prog (w.alloc O)= .ok (.string (mkS i)) (w.alloc O):=by
 subst hO
 have h:=run_convert_bytes_arg (P:=Tryz.prog) (w.alloc (.cells #[.int .u8 35,.int .u8 1,.int .u8 0,.int .u8 0,.int .u8 47,.int .u8 (i:Int),.int .u8 0,.int .u8 0] 5)) 119 5 Tryz.underlying119 Tryz.underlying5 w.heap.size 0 8 8 (mkZ i) rfl (fun j hj=>by
  rw[cell_of_row _ _ _ _ _ _ (heap_alloc_new w _)]
  rcases(by omega:j=0∨j=1∨j=2∨j=3∨j=4∨j=5∨j=6∨j=7) with rfl|rfl|rfl|rfl|rfl|rfl|rfl|rfl<;>rfl) 9 Tryz.underlying9
 have e:strOfNums (mkZ i)=mkS i:=by
  rcases(by omega:i=0∨i=1∨i=2∨i=3∨i=4∨i=5∨i=6∨i=7∨i=8∨i=9∨i=10∨i=11) with rfl|rfl|rfl|rfl|rfl|rfl|rfl|rfl|rfl|rfl|rfl|rfl<;>rfl
 rw[←e]
 exact h
theorem zb0 (i:Nat) (w:World) (h:i<12):Calls Tryz.prog 195 #[.int .i64 1,.int .i64 i] w fun e w'=>e= .returned (.string (mkS i))∧Below w.heap.size w w':=by
 have hmb:=zj3 w i h
 rcases(by omega:i=0∨i=1∨i=2∨i=3∨i=4∨i=5∨i=6∨i=7∨i=8∨i=9∨i=10∨i=11) with rfl|rfl|rfl|rfl|rfl|rfl|rfl|rfl|rfl|rfl|rfl|rfl
 all_goals
  have hmb:=hmb _ rfl
  go_enter Tryz.func195,Tryz.ntmps195
  go_wp2_with fail
  go_ret
  exact⟨rfl,(Below.refl _ _).alloc (Nat.le_refl _) _⟩
theorem znj (i:Nat) (w:World) (h:i<12):Calls Tryz.prog 109 #[.int .i64 1,.int .i64 i] w fun e w'=>e= .returned (.agg #[.int .u8 0,.int .i64 (mkI 1 i),.int .i64 0,.int .i64 0])∧Below w.heap.size w w':=by
 have HM:=zaa (fun w=>zbM 1 i w (by omega) (by omega) (by omega) (by omega))
 generalize mkI 1 i=m at *
 have HB:=zaa ((Below.refl w.heap.size w).alloc (Nat.le_refl _) (.cells #[.int .u8 0,.int .i64 0,.int .i64 0,.int .i64 0] 78))
 have HX:=zaa (heap_alloc_new w (.cells #[.int .u8 0,.int .i64 0,.int .i64 0,.int .i64 0] 78))
 go_enter Tryz.func109,Tryz.ntmps109
 go_wp2_with fail
 generalize w.alloc _=w0 at *
 refine(HM.out w0).mono ?_
 rintro e w' ⟨rfl,rfl⟩
 have hlt:=(zaJ HX.out)
 have c0:=cell_of_row _ _ 0 _ _ _ HX.out
 have f0:=frozen_of_row _ _ 0 _ _ HX.out
 have c1:=cell_of_row _ _ 1 _ _ _ HX.out
 have f1:=frozen_of_row _ _ 1 _ _ HX.out
 have c2:=cell_of_row _ _ 2 _ _ _ HX.out
 have f2:=frozen_of_row _ _ 2 _ _ HX.out
 have c3:=cell_of_row _ _ 3 _ _ _ HX.out
 have f3:=frozen_of_row _ _ 3 _ _ HX.out
 go_wp2_with fail
 refine bodyPost_ret (v:= .agg #[.int .u8 0,.int .i64 m,.int .i64 0,.int .i64 0]) (by simp[results,Tryz.results109,go_sem,c0,c1,c2,c3]) rfl ⟨rfl,?_⟩
 exact((((HB.out.setCell (p:=⟨w.heap.size,0,none⟩) (Nat.le_refl _) _).setCell (p:=⟨w.heap.size,1,none⟩) (Nat.le_refl _) _).setCell (p:=⟨w.heap.size,2,none⟩) (Nat.le_refl _) _).setCell (p:=⟨w.heap.size,3,none⟩) (Nat.le_refl _) _)
theorem znq (i:Nat) (w:World) (h:i<12):Calls Tryz.prog 246 #[.int .i64 1,.int .i64 i] w fun e w'=>e= .returned (.agg #[.string ⟨#[]⟩,.int .i64 (mkI 1 i)])∧Below w.heap.size w w':=by
 have HM:=zaa (fun w=>zbM 1 i w (by omega) (by omega) (by omega) (by omega))
 generalize mkI 1 i=m at *
 have HB:=zaa ((Below.refl w.heap.size w).alloc (Nat.le_refl _) (.cells #[.string ⟨#[]⟩,.int .i64 0] 67))
 have HX:=zaa (heap_alloc_new w (.cells #[.string ⟨#[]⟩,.int .i64 0] 67))
 go_enter Tryz.func246,Tryz.ntmps246
 go_wp2_with fail
 generalize w.alloc _=w0 at *
 refine(HM.out w0).mono ?_
 rintro e w' ⟨rfl,rfl⟩
 have hlt:=(zaJ HX.out)
 have c0:=cell_of_row _ _ 0 _ _ _ HX.out
 have f0:=frozen_of_row _ _ 0 _ _ HX.out
 have c1:=cell_of_row _ _ 1 _ _ _ HX.out
 have f1:=frozen_of_row _ _ 1 _ _ HX.out
 go_wp2_with fail
 refine bodyPost_ret (v:= .agg #[.string ⟨#[]⟩,.int .i64 m]) (by simp[results,Tryz.results246,go_sem,c0,c1]) rfl ⟨rfl,?_⟩
 exact((HB.out.setCell (p:=⟨w.heap.size,0,none⟩) (Nat.le_refl _) _).setCell (p:=⟨w.heap.size,1,none⟩) (Nat.le_refl _) _)
theorem znA (i:Nat) (w:World) (h:i<12):Calls Tryz.prog 245 #[.int .i64 1,.int .i64 i] w fun e w'=>e= .returned (.agg #[.string ⟨#[]⟩,.string ⟨#[]⟩,.string (mkS i)])∧Below w.heap.size w w':=by
 have HM:=zaa (fun w=>zb0 i w h)
 generalize mkS i=m at *
 have HB:=zaa ((Below.refl w.heap.size w).alloc (Nat.le_refl _) (.cells #[.string ⟨#[]⟩,.string ⟨#[]⟩,.string ⟨#[]⟩] 55))
 have HX:=zaa (heap_alloc_new w (.cells #[.string ⟨#[]⟩,.string ⟨#[]⟩,.string ⟨#[]⟩] 55))
 go_enter Tryz.func245,Tryz.ntmps245
 go_wp2_with fail
 generalize w.alloc _=w0 at *
 refine(HM.out w0).mono ?_
 rintro e w1 ⟨rfl,hb⟩
 have HX:=zaa (bkZ hb HX.out)
 have HB:=zaa (btZ HB.out hb)
 clear hb
 have hlt:=(zaJ HX.out)
 have c0:=cell_of_row _ _ 0 _ _ _ HX.out
 have f0:=frozen_of_row _ _ 0 _ _ HX.out
 have c1:=cell_of_row _ _ 1 _ _ _ HX.out
 have f1:=frozen_of_row _ _ 1 _ _ HX.out
 have c2:=cell_of_row _ _ 2 _ _ _ HX.out
 have f2:=frozen_of_row _ _ 2 _ _ HX.out
 go_wp2_with fail
 refine bodyPost_ret (v:= .agg #[.string ⟨#[]⟩,.string ⟨#[]⟩,.string m]) (by simp[results,Tryz.results245,go_sem,c0,c1,c2]) rfl ⟨rfl,?_⟩
 exact(((HB.out.setCell (p:=⟨w.heap.size,0,none⟩) (Nat.le_refl _) _).setCell (p:=⟨w.heap.size,1,none⟩) (Nat.le_refl _) _).setCell (p:=⟨w.heap.size,2,none⟩) (Nat.le_refl _) _)
theorem zlw (i:Nat) (w:World) (h:i<12):Calls Tryz.prog 303 #[.int .i64 1,.int .i64 i] w fun e w'=>e= .returned (.agg #[.string ⟨#[]⟩,.int .u8 0,.bool false,.int .i64 (mkI 1 i),.int .i64 0,.int .i64 0])∧Below w.heap.size w w':=by
 have HM:=zaa (fun w=>zbM 1 i w (by omega) (by omega) (by omega) (by omega))
 generalize mkI 1 i=m at *
 have HB:=zaa ((Below.refl w.heap.size w).alloc (Nat.le_refl _) (.cells #[.string ⟨#[]⟩,.int .u8 0,.bool false,.int .i64 0,.int .i64 0,.int .i64 0] 51))
 have HX:=zaa (heap_alloc_new w (.cells #[.string ⟨#[]⟩,.int .u8 0,.bool false,.int .i64 0,.int .i64 0,.int .i64 0] 51))
 go_enter Tryz.func303,Tryz.ntmps303
 go_wp2_with fail
 generalize w.alloc _=w0 at *
 refine(HM.out w0).mono ?_
 rintro e w' ⟨rfl,rfl⟩
 have hlt:=(zaJ HX.out)
 have c0:=cell_of_row _ _ 0 _ _ _ HX.out
 have f0:=frozen_of_row _ _ 0 _ _ HX.out
 have c1:=cell_of_row _ _ 1 _ _ _ HX.out
 have f1:=frozen_of_row _ _ 1 _ _ HX.out
 have c2:=cell_of_row _ _ 2 _ _ _ HX.out
 have f2:=frozen_of_row _ _ 2 _ _ HX.out
 have c3:=cell_of_row _ _ 3 _ _ _ HX.out
 have f3:=frozen_of_row _ _ 3 _ _ HX.out
 have c4:=cell_of_row _ _ 4 _ _ _ HX.out
 have f4:=frozen_of_row _ _ 4 _ _ HX.out
 have c5:=cell_of_row _ _ 5 _ _ _ HX.out
 have f5:=frozen_of_row _ _ 5 _ _ HX.out
 go_wp2_with fail
 refine bodyPost_ret (v:= .agg #[.string ⟨#[]⟩,.int .u8 0,.bool false,.int .i64 m,.int .i64 0,.int .i64 0]) (by simp[results,Tryz.results303,go_sem,c0,c1,c2,c3,c4,c5]) rfl ⟨rfl,?_⟩
 exact((((((HB.out.setCell (p:=⟨w.heap.size,0,none⟩) (Nat.le_refl _) _).setCell (p:=⟨w.heap.size,1,none⟩) (Nat.le_refl _) _).setCell (p:=⟨w.heap.size,2,none⟩) (Nat.le_refl _) _).setCell (p:=⟨w.heap.size,3,none⟩) (Nat.le_refl _) _).setCell (p:=⟨w.heap.size,4,none⟩) (Nat.le_refl _) _).setCell (p:=⟨w.heap.size,5,none⟩) (Nat.le_refl _) _)
theorem m_sw (i:Nat) (w:World) (h:i<12):Calls Tryz.prog 116 #[.int .i64 1,.int .i64 i] w fun e w'=>e= .returned (.agg #[.string ⟨#[]⟩,.int .i64 0,.int .i64 (mkI 1 i),.int .i64 0])∧Below w.heap.size w w':=by
 have HM:=zaa (fun w=>zbM 1 i w (by omega) (by omega) (by omega) (by omega))
 generalize mkI 1 i=m at *
 have HB:=zaa ((Below.refl w.heap.size w).alloc (Nat.le_refl _) (.cells #[.string ⟨#[]⟩,.int .i64 0,.int .i64 0,.int .i64 0] 69))
 have HX:=zaa (heap_alloc_new w (.cells #[.string ⟨#[]⟩,.int .i64 0,.int .i64 0,.int .i64 0] 69))
 go_enter Tryz.func116,Tryz.ntmps116
 go_wp2_with fail
 generalize w.alloc _=w0 at *
 refine(HM.out w0).mono ?_
 rintro e w' ⟨rfl,rfl⟩
 have hlt:=(zaJ HX.out)
 have c0:=cell_of_row _ _ 0 _ _ _ HX.out
 have f0:=frozen_of_row _ _ 0 _ _ HX.out
 have c1:=cell_of_row _ _ 1 _ _ _ HX.out
 have f1:=frozen_of_row _ _ 1 _ _ HX.out
 have c2:=cell_of_row _ _ 2 _ _ _ HX.out
 have f2:=frozen_of_row _ _ 2 _ _ HX.out
 have c3:=cell_of_row _ _ 3 _ _ _ HX.out
 have f3:=frozen_of_row _ _ 3 _ _ HX.out
 go_wp2_with fail
 refine bodyPost_ret (v:= .agg #[.string ⟨#[]⟩,.int .i64 0,.int .i64 m,.int .i64 0]) (by simp[results,Tryz.results116,go_sem,c0,c1,c2,c3]) rfl ⟨rfl,?_⟩
 exact((((HB.out.setCell (p:=⟨w.heap.size,0,none⟩) (Nat.le_refl _) _).setCell (p:=⟨w.heap.size,1,none⟩) (Nat.le_refl _) _).setCell (p:=⟨w.heap.size,2,none⟩) (Nat.le_refl _) _).setCell (p:=⟨w.heap.size,3,none⟩) (Nat.le_refl _) _)
theorem zlB (i:Nat) (w:World) (h:i<12):Calls Tryz.prog 117 #[.int .i64 1,.int .i64 i] w fun e w'=>e= .returned (.agg #[.string ⟨#[]⟩,.string ⟨#[]⟩,.int .i64 0,.int .i64 (mkI 1 i)])∧Below w.heap.size w w':=by
 have HM:=zaa (fun w=>zbM 1 i w (by omega) (by omega) (by omega) (by omega))
 generalize mkI 1 i=m at *
 have HB:=zaa ((Below.refl w.heap.size w).alloc (Nat.le_refl _) (.cells #[.string ⟨#[]⟩,.string ⟨#[]⟩,.int .i64 0,.int .i64 0] 71))
 have HX:=zaa (heap_alloc_new w (.cells #[.string ⟨#[]⟩,.string ⟨#[]⟩,.int .i64 0,.int .i64 0] 71))
 go_enter Tryz.func117,Tryz.ntmps117
 go_wp2_with fail
 generalize w.alloc _=w0 at *
 refine(HM.out w0).mono ?_
 rintro e w' ⟨rfl,rfl⟩
 have hlt:=(zaJ HX.out)
 have c0:=cell_of_row _ _ 0 _ _ _ HX.out
 have f0:=frozen_of_row _ _ 0 _ _ HX.out
 have c1:=cell_of_row _ _ 1 _ _ _ HX.out
 have f1:=frozen_of_row _ _ 1 _ _ HX.out
 have c2:=cell_of_row _ _ 2 _ _ _ HX.out
 have f2:=frozen_of_row _ _ 2 _ _ HX.out
 have c3:=cell_of_row _ _ 3 _ _ _ HX.out
 have f3:=frozen_of_row _ _ 3 _ _ HX.out
 go_wp2_with fail
 refine bodyPost_ret (v:= .agg #[.string ⟨#[]⟩,.string ⟨#[]⟩,.int .i64 0,.int .i64 m]) (by simp[results,Tryz.results117,go_sem,c0,c1,c2,c3]) rfl ⟨rfl,?_⟩
 exact((((HB.out.setCell (p:=⟨w.heap.size,0,none⟩) (Nat.le_refl _) _).setCell (p:=⟨w.heap.size,1,none⟩) (Nat.le_refl _) _).setCell (p:=⟨w.heap.size,2,none⟩) (Nat.le_refl _) _).setCell (p:=⟨w.heap.size,3,none⟩) (Nat.le_refl _) _)
theorem zhq (i:Nat) (w:World) (h:i<12):Calls Tryz.prog 120 #[.int .i64 1,.int .i64 i] w fun e w'=>e= .returned (.agg #[.string ⟨#[]⟩,.string (mkS i),.int .u8 0,.int .u8 0,.int .u8 0])∧Below w.heap.size w w':=by
 have HM:=zaa (fun w=>zb0 i w h)
 generalize mkS i=m at *
 have HB:=zaa ((Below.refl w.heap.size w).alloc (Nat.le_refl _) (.cells #[.string ⟨#[]⟩,.string ⟨#[]⟩,.int .u8 0,.int .u8 0,.int .u8 0] 73))
 have HX:=zaa (heap_alloc_new w (.cells #[.string ⟨#[]⟩,.string ⟨#[]⟩,.int .u8 0,.int .u8 0,.int .u8 0] 73))
 go_enter Tryz.func120,Tryz.ntmps120
 go_wp2_with fail
 generalize w.alloc _=w0 at *
 refine(HM.out w0).mono ?_
 rintro e w1 ⟨rfl,hb⟩
 have HX:=zaa (bkZ hb HX.out)
 have HB:=zaa (btZ HB.out hb)
 clear hb
 have hlt:=(zaJ HX.out)
 have c0:=cell_of_row _ _ 0 _ _ _ HX.out
 have f0:=frozen_of_row _ _ 0 _ _ HX.out
 have c1:=cell_of_row _ _ 1 _ _ _ HX.out
 have f1:=frozen_of_row _ _ 1 _ _ HX.out
 have c2:=cell_of_row _ _ 2 _ _ _ HX.out
 have f2:=frozen_of_row _ _ 2 _ _ HX.out
 have c3:=cell_of_row _ _ 3 _ _ _ HX.out
 have f3:=frozen_of_row _ _ 3 _ _ HX.out
 have c4:=cell_of_row _ _ 4 _ _ _ HX.out
 have f4:=frozen_of_row _ _ 4 _ _ HX.out
 go_wp2_with fail
 refine bodyPost_ret (v:= .agg #[.string ⟨#[]⟩,.string m,.int .u8 0,.int .u8 0,.int .u8 0]) (by simp[results,Tryz.results120,go_sem,c0,c1,c2,c3,c4]) rfl ⟨rfl,?_⟩
 exact(((((HB.out.setCell (p:=⟨w.heap.size,0,none⟩) (Nat.le_refl _) _).setCell (p:=⟨w.heap.size,1,none⟩) (Nat.le_refl _) _).setCell (p:=⟨w.heap.size,2,none⟩) (Nat.le_refl _) _).setCell (p:=⟨w.heap.size,3,none⟩) (Nat.le_refl _) _).setCell (p:=⟨w.heap.size,4,none⟩) (Nat.le_refl _) _)
theorem zn2 (i:Nat) (w:World) (h:i<12):Calls Tryz.prog 123 #[.int .i64 1,.int .i64 i] w fun e w'=>e= .returned (.agg #[.string ⟨#[]⟩,.int .i64 (mkI 1 i),.string ⟨#[]⟩,.int .i64 0])∧Below w.heap.size w w':=by
 have HM:=zaa (fun w=>zbM 1 i w (by omega) (by omega) (by omega) (by omega))
 generalize mkI 1 i=m at *
 have HB:=zaa ((Below.refl w.heap.size w).alloc (Nat.le_refl _) (.cells #[.string ⟨#[]⟩,.int .i64 0,.string ⟨#[]⟩,.int .i64 0] 75))
 have HX:=zaa (heap_alloc_new w (.cells #[.string ⟨#[]⟩,.int .i64 0,.string ⟨#[]⟩,.int .i64 0] 75))
 go_enter Tryz.func123,Tryz.ntmps123
 go_wp2_with fail
 generalize w.alloc _=w0 at *
 refine(HM.out w0).mono ?_
 rintro e w' ⟨rfl,rfl⟩
 have hlt:=(zaJ HX.out)
 have c0:=cell_of_row _ _ 0 _ _ _ HX.out
 have f0:=frozen_of_row _ _ 0 _ _ HX.out
 have c1:=cell_of_row _ _ 1 _ _ _ HX.out
 have f1:=frozen_of_row _ _ 1 _ _ HX.out
 have c2:=cell_of_row _ _ 2 _ _ _ HX.out
 have f2:=frozen_of_row _ _ 2 _ _ HX.out
 have c3:=cell_of_row _ _ 3 _ _ _ HX.out
 have f3:=frozen_of_row _ _ 3 _ _ HX.out
 go_wp2_with fail
 refine bodyPost_ret (v:= .agg #[.string ⟨#[]⟩,.int .i64 m,.string ⟨#[]⟩,.int .i64 0]) (by simp[results,Tryz.results123,go_sem,c0,c1,c2,c3]) rfl ⟨rfl,?_⟩
 exact((((HB.out.setCell (p:=⟨w.heap.size,0,none⟩) (Nat.le_refl _) _).setCell (p:=⟨w.heap.size,1,none⟩) (Nat.le_refl _) _).setCell (p:=⟨w.heap.size,2,none⟩) (Nat.le_refl _) _).setCell (p:=⟨w.heap.size,3,none⟩) (Nat.le_refl _) _)
theorem zlv (i:Nat) (w:World) (h:i<12):Calls Tryz.prog 305 #[.int .i64 1,.int .i64 i] w fun e w'=>e= .returned (.agg #[.string ⟨#[]⟩,.int .i64 (mkI 1 i),.int .i64 0,.int .i64 0,.slice none 0 0])∧Below w.heap.size w w':=by
 have HM:=zaa (fun w=>zbM 1 i w (by omega) (by omega) (by omega) (by omega))
 generalize mkI 1 i=m at *
 have HB:=zaa ((Below.refl w.heap.size w).alloc (Nat.le_refl _) (.cells #[.string ⟨#[]⟩,.int .i64 0,.int .i64 0,.int .i64 0,.slice none 0 0] 53))
 have HX:=zaa (heap_alloc_new w (.cells #[.string ⟨#[]⟩,.int .i64 0,.int .i64 0,.int .i64 0,.slice none 0 0] 53))
 go_enter Tryz.func305,Tryz.ntmps305
 go_wp2_with fail
 generalize w.alloc _=w0 at *
 refine(HM.out w0).mono ?_
 rintro e w' ⟨rfl,rfl⟩
 have hlt:=(zaJ HX.out)
 have c0:=cell_of_row _ _ 0 _ _ _ HX.out
 have f0:=frozen_of_row _ _ 0 _ _ HX.out
 have c1:=cell_of_row _ _ 1 _ _ _ HX.out
 have f1:=frozen_of_row _ _ 1 _ _ HX.out
 have c2:=cell_of_row _ _ 2 _ _ _ HX.out
 have f2:=frozen_of_row _ _ 2 _ _ HX.out
 have c3:=cell_of_row _ _ 3 _ _ _ HX.out
 have f3:=frozen_of_row _ _ 3 _ _ HX.out
 have c4:=cell_of_row _ _ 4 _ _ _ HX.out
 have f4:=frozen_of_row _ _ 4 _ _ HX.out
 go_wp2_with fail
 refine bodyPost_ret (v:= .agg #[.string ⟨#[]⟩,.int .i64 m,.int .i64 0,.int .i64 0,.slice none 0 0]) (by simp[results,Tryz.results305,go_sem,c0,c1,c2,c3,c4]) rfl ⟨rfl,?_⟩
 exact(((((HB.out.setCell (p:=⟨w.heap.size,0,none⟩) (Nat.le_refl _) _).setCell (p:=⟨w.heap.size,1,none⟩) (Nat.le_refl _) _).setCell (p:=⟨w.heap.size,2,none⟩) (Nat.le_refl _) _).setCell (p:=⟨w.heap.size,3,none⟩) (Nat.le_refl _) _).setCell (p:=⟨w.heap.size,4,none⟩) (Nat.le_refl _) _)
theorem zls (i:Nat) (w:World) (h:i<12):Calls Tryz.prog 244 #[.int .i64 1,.int .i64 i] w fun e w'=>e= .returned (.agg #[.string ⟨#[]⟩,.int .i64 (mkI 1 i),.int .i64 0,.int .i64 0,.slice none 0 0,.int .i64 0,.int .i64 0,.slice none 0 0,.slice none 0 0,.slice none 0 0])∧Below w.heap.size w w':=by
 have HM:=zaa (fun w=>zbM 1 i w (by omega) (by omega) (by omega) (by omega))
 generalize mkI 1 i=m at *
 have HB:=zaa ((Below.refl w.heap.size w).alloc (Nat.le_refl _) (.cells #[.string ⟨#[]⟩,.int .i64 0,.int .i64 0,.int .i64 0,.slice none 0 0,.int .i64 0,.int .i64 0,.slice none 0 0,.slice none 0 0,.slice none 0 0] 49))
 have HX:=zaa (heap_alloc_new w (.cells #[.string ⟨#[]⟩,.int .i64 0,.int .i64 0,.int .i64 0,.slice none 0 0,.int .i64 0,.int .i64 0,.slice none 0 0,.slice none 0 0,.slice none 0 0] 49))
 go_enter Tryz.func244,Tryz.ntmps244
 go_wp2_with fail
 generalize w.alloc _=w0 at *
 refine(HM.out w0).mono ?_
 rintro e w' ⟨rfl,rfl⟩
 have hlt:=(zaJ HX.out)
 have c0:=cell_of_row _ _ 0 _ _ _ HX.out
 have f0:=frozen_of_row _ _ 0 _ _ HX.out
 have c1:=cell_of_row _ _ 1 _ _ _ HX.out
 have f1:=frozen_of_row _ _ 1 _ _ HX.out
 have c2:=cell_of_row _ _ 2 _ _ _ HX.out
 have f2:=frozen_of_row _ _ 2 _ _ HX.out
 have c3:=cell_of_row _ _ 3 _ _ _ HX.out
 have f3:=frozen_of_row _ _ 3 _ _ HX.out
 have c4:=cell_of_row _ _ 4 _ _ _ HX.out
 have f4:=frozen_of_row _ _ 4 _ _ HX.out
 have c5:=cell_of_row _ _ 5 _ _ _ HX.out
 have f5:=frozen_of_row _ _ 5 _ _ HX.out
 have c6:=cell_of_row _ _ 6 _ _ _ HX.out
 have f6:=frozen_of_row _ _ 6 _ _ HX.out
 have c7:=cell_of_row _ _ 7 _ _ _ HX.out
 have f7:=frozen_of_row _ _ 7 _ _ HX.out
 have c8:=cell_of_row _ _ 8 _ _ _ HX.out
 have f8:=frozen_of_row _ _ 8 _ _ HX.out
 have c9:=cell_of_row _ _ 9 _ _ _ HX.out
 have f9:=frozen_of_row _ _ 9 _ _ HX.out
 go_wp2_with fail
 refine bodyPost_ret (v:= .agg #[.string ⟨#[]⟩,.int .i64 m,.int .i64 0,.int .i64 0,.slice none 0 0,.int .i64 0,.int .i64 0,.slice none 0 0,.slice none 0 0,.slice none 0 0]) (by simp[results,Tryz.results244,go_sem,c0,c1,c2,c3,c4,c5,c6,c7,c8,c9]) rfl ⟨rfl,?_⟩
 exact((((((((((HB.out.setCell (p:=⟨w.heap.size,0,none⟩) (Nat.le_refl _) _).setCell (p:=⟨w.heap.size,1,none⟩) (Nat.le_refl _) _).setCell (p:=⟨w.heap.size,2,none⟩) (Nat.le_refl _) _).setCell (p:=⟨w.heap.size,3,none⟩) (Nat.le_refl _) _).setCell (p:=⟨w.heap.size,4,none⟩) (Nat.le_refl _) _).setCell (p:=⟨w.heap.size,5,none⟩) (Nat.le_refl _) _).setCell (p:=⟨w.heap.size,6,none⟩) (Nat.le_refl _) _).setCell (p:=⟨w.heap.size,7,none⟩) (Nat.le_refl _) _).setCell (p:=⟨w.heap.size,8,none⟩) (Nat.le_refl _) _).setCell (p:=⟨w.heap.size,9,none⟩) (Nat.le_refl _) _)
theorem znR (i:Nat) (w:World) (h:i<12):Calls Tryz.prog 113 #[.int .i64 1,.int .i64 i] w fun e w'=>e= .returned (.agg #[.string ⟨#[]⟩,.int .i64 (mkI 1 i),.int .i64 0,.slice none 0 0])∧Below w.heap.size w w':=by
 have HM:=zaa (fun w=>zbM 1 i w (by omega) (by omega) (by omega) (by omega))
 generalize mkI 1 i=m at *
 have HB:=zaa ((Below.refl w.heap.size w).alloc (Nat.le_refl _) (.cells #[.string ⟨#[]⟩,.int .i64 0,.int .i64 0,.slice none 0 0] 44))
 have HX:=zaa (heap_alloc_new w (.cells #[.string ⟨#[]⟩,.int .i64 0,.int .i64 0,.slice none 0 0] 44))
 go_enter Tryz.func113,Tryz.ntmps113
 go_wp2_with fail
 generalize w.alloc _=w0 at *
 refine(HM.out w0).mono ?_
 rintro e w' ⟨rfl,rfl⟩
 have hlt:=(zaJ HX.out)
 have c0:=cell_of_row _ _ 0 _ _ _ HX.out
 have f0:=frozen_of_row _ _ 0 _ _ HX.out
 have c1:=cell_of_row _ _ 1 _ _ _ HX.out
 have f1:=frozen_of_row _ _ 1 _ _ HX.out
 have c2:=cell_of_row _ _ 2 _ _ _ HX.out
 have f2:=frozen_of_row _ _ 2 _ _ HX.out
 have c3:=cell_of_row _ _ 3 _ _ _ HX.out
 have f3:=frozen_of_row _ _ 3 _ _ HX.out
 go_wp2_with fail
 refine bodyPost_ret (v:= .agg #[.string ⟨#[]⟩,.int .i64 m,.int .i64 0,.slice none 0 0]) (by simp[results,Tryz.results113,go_sem,c0,c1,c2,c3]) rfl ⟨rfl,?_⟩
 exact((((HB.out.setCell (p:=⟨w.heap.size,0,none⟩) (Nat.le_refl _) _).setCell (p:=⟨w.heap.size,1,none⟩) (Nat.le_refl _) _).setCell (p:=⟨w.heap.size,2,none⟩) (Nat.le_refl _) _).setCell (p:=⟨w.heap.size,3,none⟩) (Nat.le_refl _) _)
theorem zlp (i:Nat) (w:World) (h:i<12):Calls Tryz.prog 115 #[.int .i64 1,.int .i64 i] w fun e w'=>e= .returned (.agg #[.string ⟨#[]⟩,.string ⟨#[]⟩,.string (mkS i),.slice none 0 0])∧Below w.heap.size w w':=by
 have HM:=zaa (fun w=>zb0 i w h)
 generalize mkS i=m at *
 have HB:=zaa ((Below.refl w.heap.size w).alloc (Nat.le_refl _) (.cells #[.string ⟨#[]⟩,.string ⟨#[]⟩,.string ⟨#[]⟩,.slice none 0 0] 58))
 have HX:=zaa (heap_alloc_new w (.cells #[.string ⟨#[]⟩,.string ⟨#[]⟩,.string ⟨#[]⟩,.slice none 0 0] 58))
 go_enter Tryz.func115,Tryz.ntmps115
 go_wp2_with fail
 generalize w.alloc _=w0 at *
 refine(HM.out w0).mono ?_
 rintro e w1 ⟨rfl,hb⟩
 have HX:=zaa (bkZ hb HX.out)
 have HB:=zaa (btZ HB.out hb)
 clear hb
 have hlt:=(zaJ HX.out)
 have c0:=cell_of_row _ _ 0 _ _ _ HX.out
 have f0:=frozen_of_row _ _ 0 _ _ HX.out
 have c1:=cell_of_row _ _ 1 _ _ _ HX.out
 have f1:=frozen_of_row _ _ 1 _ _ HX.out
 have c2:=cell_of_row _ _ 2 _ _ _ HX.out
 have f2:=frozen_of_row _ _ 2 _ _ HX.out
 have c3:=cell_of_row _ _ 3 _ _ _ HX.out
 have f3:=frozen_of_row _ _ 3 _ _ HX.out
 go_wp2_with fail
 refine bodyPost_ret (v:= .agg #[.string ⟨#[]⟩,.string ⟨#[]⟩,.string m,.slice none 0 0]) (by simp[results,Tryz.results115,go_sem,c0,c1,c2,c3]) rfl ⟨rfl,?_⟩
 exact((((HB.out.setCell (p:=⟨w.heap.size,0,none⟩) (Nat.le_refl _) _).setCell (p:=⟨w.heap.size,1,none⟩) (Nat.le_refl _) _).setCell (p:=⟨w.heap.size,2,none⟩) (Nat.le_refl _) _).setCell (p:=⟨w.heap.size,3,none⟩) (Nat.le_refl _) _)
theorem m_vl (i:Nat) (w:World) (h:i<12):Calls Tryz.prog 119 #[.int .i64 1,.int .i64 i] w fun e w'=>e= .returned (.agg #[.string ⟨#[]⟩,.string ⟨#[]⟩,.string ⟨#[]⟩,.string ⟨#[]⟩,.int .i64 (mkI 1 i),.int .i64 0,.slice none 0 0])∧Below w.heap.size w w':=by
 have HM:=zaa (fun w=>zbM 1 i w (by omega) (by omega) (by omega) (by omega))
 generalize mkI 1 i=m at *
 have HB:=zaa ((Below.refl w.heap.size w).alloc (Nat.le_refl _) (.cells #[.string ⟨#[]⟩,.string ⟨#[]⟩,.string ⟨#[]⟩,.string ⟨#[]⟩,.int .i64 0,.int .i64 0,.slice none 0 0] 61))
 have HX:=zaa (heap_alloc_new w (.cells #[.string ⟨#[]⟩,.string ⟨#[]⟩,.string ⟨#[]⟩,.string ⟨#[]⟩,.int .i64 0,.int .i64 0,.slice none 0 0] 61))
 go_enter Tryz.func119,Tryz.ntmps119
 go_wp2_with fail
 generalize w.alloc _=w0 at *
 refine(HM.out w0).mono ?_
 rintro e w' ⟨rfl,rfl⟩
 have hlt:=(zaJ HX.out)
 have c0:=cell_of_row _ _ 0 _ _ _ HX.out
 have f0:=frozen_of_row _ _ 0 _ _ HX.out
 have c1:=cell_of_row _ _ 1 _ _ _ HX.out
 have f1:=frozen_of_row _ _ 1 _ _ HX.out
 have c2:=cell_of_row _ _ 2 _ _ _ HX.out
 have f2:=frozen_of_row _ _ 2 _ _ HX.out
 have c3:=cell_of_row _ _ 3 _ _ _ HX.out
 have f3:=frozen_of_row _ _ 3 _ _ HX.out
 have c4:=cell_of_row _ _ 4 _ _ _ HX.out
 have f4:=frozen_of_row _ _ 4 _ _ HX.out
 have c5:=cell_of_row _ _ 5 _ _ _ HX.out
 have f5:=frozen_of_row _ _ 5 _ _ HX.out
 have c6:=cell_of_row _ _ 6 _ _ _ HX.out
 have f6:=frozen_of_row _ _ 6 _ _ HX.out
 go_wp2_with fail
 refine bodyPost_ret (v:= .agg #[.string ⟨#[]⟩,.string ⟨#[]⟩,.string ⟨#[]⟩,.string ⟨#[]⟩,.int .i64 m,.int .i64 0,.slice none 0 0]) (by simp[results,Tryz.results119,go_sem,c0,c1,c2,c3,c4,c5,c6]) rfl ⟨rfl,?_⟩
 exact(((((((HB.out.setCell (p:=⟨w.heap.size,0,none⟩) (Nat.le_refl _) _).setCell (p:=⟨w.heap.size,1,none⟩) (Nat.le_refl _) _).setCell (p:=⟨w.heap.size,2,none⟩) (Nat.le_refl _) _).setCell (p:=⟨w.heap.size,3,none⟩) (Nat.le_refl _) _).setCell (p:=⟨w.heap.size,4,none⟩) (Nat.le_refl _) _).setCell (p:=⟨w.heap.size,5,none⟩) (Nat.le_refl _) _).setCell (p:=⟨w.heap.size,6,none⟩) (Nat.le_refl _) _)
theorem ziE (i:Nat) (w:World) (h:i<12):Calls Tryz.prog 122 #[.int .i64 1,.int .i64 i] w fun e w'=>e= .returned (.agg #[.string (mkS i),.slice none 0 0,.slice none 0 0])∧Below w.heap.size w w':=by
 have HM:=zaa (fun w=>zb0 i w h)
 generalize mkS i=m at *
 have HB:=zaa ((Below.refl w.heap.size w).alloc (Nat.le_refl _) (.cells #[.string ⟨#[]⟩,.slice none 0 0,.slice none 0 0] 65))
 have HX:=zaa (heap_alloc_new w (.cells #[.string ⟨#[]⟩,.slice none 0 0,.slice none 0 0] 65))
 go_enter Tryz.func122,Tryz.ntmps122
 go_wp2_with fail
 generalize w.alloc _=w0 at *
 refine(HM.out w0).mono ?_
 rintro e w1 ⟨rfl,hb⟩
 have HX:=zaa (bkZ hb HX.out)
 have HB:=zaa (btZ HB.out hb)
 clear hb
 have hlt:=(zaJ HX.out)
 have c0:=cell_of_row _ _ 0 _ _ _ HX.out
 have f0:=frozen_of_row _ _ 0 _ _ HX.out
 have c1:=cell_of_row _ _ 1 _ _ _ HX.out
 have f1:=frozen_of_row _ _ 1 _ _ HX.out
 have c2:=cell_of_row _ _ 2 _ _ _ HX.out
 have f2:=frozen_of_row _ _ 2 _ _ HX.out
 go_wp2_with fail
 refine bodyPost_ret (v:= .agg #[.string m,.slice none 0 0,.slice none 0 0]) (by simp[results,Tryz.results122,go_sem,c0,c1,c2]) rfl ⟨rfl,?_⟩
 exact(((HB.out.setCell (p:=⟨w.heap.size,0,none⟩) (Nat.le_refl _) _).setCell (p:=⟨w.heap.size,1,none⟩) (Nat.le_refl _) _).setCell (p:=⟨w.heap.size,2,none⟩) (Nat.le_refl _) _)
end Go.Proofs.YtgbfaompondolaaGreatDoor
