/- Merged texts of the walks and of the plain laws on which the statement leans.-/
import Derived.Test.YtgbfaompondolaaGreatDoorPk1
import Derived.Test.YtgbfaompondolaaGreatDoorPk25
import Derived.Laws.MakeOwn
set_option maxHeartbeats 4000000
set_option maxRecDepth 100000
namespace Go.Proofs.YtgbfaompondolaaGreatDoor
open Go.RowKit
attribute [local go_sem] zal.cell
def EF {α:Type} (vs:α→List Value):Elt α:=fun _ _ r x=>r=vs x
theorem zhN {w:World} {G:Nat→Prop} (l:List Value):zab w G l (l.map Dat.leaf):=⟨by simp,fun j u d hu hd=>by
 rw[List.getElem?_map,hu] at hd
 injection hd with hd
 subst hd
 exact .leaf u⟩
theorem zfb {α:Type} {vs:α→List Value} {cells:α→List Dat} {size:Nat} (hc: ∀x,cells x=(vs x).map Dat.leaf) (hs: ∀x,(vs x).length=size) (h1: ∀x,∀u∈vs x,u.oneCell'=true):zcc (EF vs) size cells where
 keep:=fun _ _ _ _ _ _ _ h=>h
 mono:=fun _ _ _ _ _ _ h=>h
 wide:=fun w G r x h=>by rw[show r=vs x from h];exact hs x
 dat:=fun w G r x h=>by rw[show r=vs x from h,hc];exact zhN _
 one:=fun w G r x h=>by rw[show r=vs x from h];exact h1 x
theorem zcU {β:Type} (a:List (List β)) (f:Nat→List β) (k:Nat):(a++(List.range (k+1)).map f).flatten=(a++(List.range k).map f).flatten++f k:=by
 rw[List.range_succ,List.map_append,←List.append_assoc,List.flatten_append]
 simp
theorem zbz {α:Type} {w:World} {A:Option Addr} {n q size:Nat} {vs:α→List Value} {cells:α→List Dat} {l:List α} (hc: ∀x,cells x=(vs x).map Dat.leaf) (hs: ∀x,(vs x).length=size) (hz:0<size)
 (h:DAt w (fun _=>True) (.slice A n q) (.row size (l.map cells))):zbr w w.heap.size size A n (l.map vs).flatten:=by
 generalize hd:Dat.row size (l.map cells)=d at h
 generalize hv:Value.slice A n q=v at h
 have hfl:(l.map vs).flatten.length=l.length*size:=by
  rw[zfB size _ (fun r hr=>by obtain⟨x,_,rfl⟩:=List.mem_map.1 hr;exact hs x),List.length_map]
 cases h with
 |leaf v=>cases hd
 |nil A' c size=>
  injection hd with _ h1
  injection hv with _ h2
  subst h2
  have:l=[]:=by simpa using h1
  subst this
  exact⟨by simp,fun h=>absurd h (by omega)⟩
 |row b off c size m es val hn hG hb hc' hdd=>
  injection hd with h0 h1
  injection hv with h2 h3 h4
  subst h0 h1 h2 h3 h4
  have hl:l.length=n:=by rw[←hn];simp
  refine⟨by rw[hfl,hl],fun _=>⟨_,rfl,hb,fun j u hu=> ?_⟩⟩
  have hj:j<l.length*size:=by rw[←hfl];exact(List.getElem?_eq_some_iff.1 hu).1
  have hi:j/size<l.length:=Nat.div_lt_of_lt_mul (by rw[Nat.mul_comm];exact hj)
  have hm:j % size<size:=Nat.mod_lt _ hz
  have hx:l[j/size]? =some l[j/size]:=List.getElem?_eq_getElem hi
  have hr:=zei (size:=size) (l.map vs) (fun e he=>by obtain⟨x,_,rfl⟩:=List.mem_map.1 he;exact hs x) (j/size) (j % size) (vs l[j/size]) (by rw[List.getElem?_map,hx];rfl) hm
  rw[Nat.div_add_mod' j size,hu] at hr
  have he:(l.map cells)[j/size]? =some (cells l[j/size]):=by rw[List.getElem?_map,hx];rfl
  have hd:(cells l[j/size])[j % size]? =some (.leaf u):=by rw[hc,List.getElem?_map,←hr];rfl
  have h5:=hc' _ _ _ _ he hd
  have h6:=(hdd _ _ _ _ he hd).leaf_eq
  rw[h6,Nat.add_assoc,Nat.div_add_mod' j size] at h5
  refine Eq.trans ?_ h5
  congr 1
  unfold Addr.add
  split
  ·rename_i h;rw[h];rfl
  ·simp
def zbL {α:Type} (size:Nat) (ms:List (List Value)) (E:Elt α) (W:World) (l:List α) (e:Ending) (w':World):Prop:= ∃u,e= .returned u∧LL size ms E w' (fun b=>W.heap.size≤b) u l∧Below W.heap.size W w'
theorem zbL.mk {α:Type} {size:Nat} {ms:List (List Value)} {E:Elt α} {W:World} {l:List α} {e:Ending} {w':World} (u:Value) (he:e= .returned u) (h:LL size ms E w' (fun b=>W.heap.size≤b) u l) (hb:Below W.heap.size W w'):zbL size ms E W l e w':=⟨u,he,h,hb⟩
def zar (f:Nat→List Value):List (List Value):=(List.range 12).map f
theorem ziP:(Tryz.prog.info? 3).map (fun i=>(i.zero,i.size,i.bytes))=some (some (.int .i64 0),1,8):=by kernel_rfl
def zc0 (i:Nat):List Value:=[.int .i64 (mkI 1 (i:Int))]
theorem znc (n:Nat) (h:n≤1000000) (W:World):(Instr.makeSlice 45 (.int .i64 0) (.int .i64 ((n:Int)+12))).run Tryz.prog W= .ok (.slice (some ⟨W.heap.size,0,none⟩) 0 (n+12)) (W.alloc (.cells (madeCells #[.int .i64 0] (n+12)) 3)):=by
 obtain⟨i0,hi,hz0,hz1,hz2⟩:=info_parts ziP
 have:=run_make (P:=Tryz.prog) W 45 3 i0 (.int .i64 0) Tryz.underlying45 hi hz0 .i64 .i64 0 ((n:Int)+12) (by omega) (by omega) (by rw[hz2];omega) (by omega)
 rw[hz1,Nat.mul_one,show((n:Int)+12).toNat=n+12 by omega] at this
 exact this
def zcj (x:Int):List Value:=[.int .i64 x]
theorem zjj: ∀x,∀u∈zcj x,u.oneCell'=true:=fun x u hu=>by
 simp only[zcj,List.mem_singleton] at hu
 subst hu
 rfl
theorem zbi:zcc (EF zcj) 1 (fun n:Int=>[lI n]):=zfb (fun _=>rfl) (fun _=>rfl) zjj
theorem zg0 (v:Value) (l:List Int) (w:World) (hv:Hid (DAt w (fun _=>True) v (.row 1 (zah l)))) (hn:l.length≤1000000):
 Calls Tryz.prog 275 #[v] w fun e w'=>zbL 1 (zar zc0) (EF zcj) w l e w':=by
 obtain⟨i0,hi0,hz0,hz1,hz2⟩:=info_parts ziP
 obtain⟨A,q,rfl, -⟩:=hv.out.slice
 rw[show(zah l).length=l.length by simp[zah]] at hv ⊢
 have hmk:=fun W=>znc l.length hn W
 have HOW0:=zaa (World.ownsRow_made (base:=w.heap.size) (e:=3) (size:=1) w (madeCells #[.int .i64 0] (l.length+12)) (l.length+12) (Nat.le_refl _) (by unfold maxLen;omega) (by simp[madeCells]))
 have HRD:=zaa (zbz (vs:=zcj) (cells:=(fun n:Int=>[lI n])) (fun _=>rfl) (fun _=>rfl) (by decide) (hv.out.later ((Below.refl w.heap.size w).alloc (Nat.le_refl _) (.cells (madeCells #[.int .i64 0] (l.length+12)) 3))))
 have HON:Hid (∀u∈(l.map zcj).flatten,u.oneCell'=true):=zaa (fun u hu=>by
  obtain⟨e,he,hu⟩:=List.mem_flatten.1 hu
  obtain⟨x,_,rfl⟩:=List.mem_map.1 he
  exact zjj x u hu)
 go_enter Tryz.func275,Tryz.ntmps275
 go_wp2_with(at_builtin;apply Hid.out)
 refine zaa ?_
 refine zay _ rfl _ _ 45 rfl w.heap.size 3 i0 _ 1 8 Tryz.underlying45 hi0 hz0 hz1 hz2 rfl (by decide) _ 0 [] rfl HOW0.out _ A l.length q (l.map zcj).flatten rfl HRD.out HON.out (by unfold maxLen;omega) (by omega) (by simp) ?_
 intro v1 w1 hown1 hg1 _
 have hb1:Below w.heap.size w w1:=((Below.refl _ _).alloc (Nat.le_refl _) _).grown hg1 (by simp) (fun r hr=>(HOW0.out.lt r hr).1)
 have HO1:=zaa (show w1.ownsRow w.heap.size 3 1 v1 (l.length+0) ((l.map zcj++(List.range 0).map zc0).flatten) by simpa using hown1)
 have HB1:=zaa hb1
 clear hown1 hb1 hg1 hmk HOW0 HRD hv HON
 go_wp2_with fail
 go_loopw [3,4] (fun v3 v4 wr=> ∃k:Nat,k≤12∧v4= .int .i64 k∧wr.ownsRow w.heap.size 3 1 v3 (l.length+k) ((l.map zcj++(List.range k).map zc0).flatten)∧Below w.heap.size w wr) (fun _ v4 _=>12-(intOf v4).toNat)
 case atStart=>exact⟨0,by omega,rfl,HO1.out,HB1.out⟩
 case round=>
  obtain⟨k,hk,rfl,hown,hbr⟩:=hrel
  have HOW:=zaa hown
  have HBR:=zaa hbr
  clear hown hbr HO1 HB1
  by_cases hlt:k<12
  ·have HM:=zaa (zbM 1 k wr (by omega) (by omega) (by omega) (by omega))
   generalize hm:mkI 1 (k:Int)=m at HM
   have hm2:=zaa hm
   clear hm
   go_wp2_with fail
   refine HM.out.mono ?_
   rintro e w3 ⟨rfl,rfl⟩
   have HB3:=zaa HBR.out
   have HO3:=zaa HOW.out
   have hz3:=HB3.out.size
   clear HM
   go_wp2_with(first
    |(at_builtin;refine wpList_append_own _ rfl _ _ 45 rfl w.heap.size 3 i0 _ 1 8 Tryz.underlying45 hi0 hz0 hz1 hz2 rfl (by decide) _ _ _ rfl (HO3.out.alloc _) ⟨wr.heap.size,0,none⟩ 1 1 [.int .i64 (m)] rfl rfl (zaU (by simp)) (by simp[Value.oneCell']) (by unfold maxLen;omega) (by omega) (by simp;exact Nat.le_succ_of_le hz3) ?_;intro v' w5 hown' hgrow _))
   have HB5:=zaa (HB3.out.trans (Below.grown ((Below.refl _ wr).alloc hz3 _) hgrow (by simp;exact Nat.le_succ_of_le hz3) (fun g hg=>(zav HO3.out hg).1)))
   have HO5:=zaa (show w5.ownsRow w.heap.size 3 1 v' (l.length+(k+1)) ((l.map zcj++(List.range (k+1)).map zc0).flatten) by
    rw[zcU,show zc0 k=[.int .i64 (m)] from by unfold zc0;rw[hm2.out]]
    exact hown')
   clear hown' hgrow
   go_wp2_with fail
   go_roundw
   case rel=>exact⟨k+1,by omega,by go_num,HO5.out,HB5.out⟩
   case measure=>simp[intOf];omega
  ·obtain rfl:k=12:=by omega
   have HLB:LB (EF zcj) wr w.heap.size 3 1 _ l (l.map zcj++zar zc0):=⟨by
    have e:(l.map zcj++zar zc0).length=l.length+12:=by simp[zar]
    rw[e]
    exact HOW.out,fun i r x hr hx=>by
    rw[List.getElem?_append_left (by rw[List.length_map];exact(List.getElem?_eq_some_iff.1 hx).1),List.getElem?_map,hx] at hr
    exact(Option.some.inj hr).symm⟩
   obtain⟨g,c,hvv,hc1,hc2,hLL⟩:=HLB.lent zbi (by simp) (by simp[zar])
   have HL:=zaa hLL
   subst hvv
   unfold maxLen at hc2
   clear HLB hLL HOW
   go_wp2_with fail
   go_ret
   exact zbL.mk _ rfl HL.out HBR.out
theorem zjE:(Tryz.prog.info? 9).map (fun i=>(i.zero,i.size,i.bytes))=some (some (.string ⟨#[]⟩),1,16):=by kernel_rfl
def zdb (i:Nat):List Value:=[.string (mkS i)]
theorem znr (n:Nat) (h:n≤1000000) (W:World):(Instr.makeSlice 63 (.int .i64 0) (.int .i64 ((n:Int)+12))).run Tryz.prog W= .ok (.slice (some ⟨W.heap.size,0,none⟩) 0 (n+12)) (W.alloc (.cells (madeCells #[.string ⟨#[]⟩] (n+12)) 9)):=by
 obtain⟨i0,hi,hz0,hz1,hz2⟩:=info_parts zjE
 have:=run_make (P:=Tryz.prog) W 63 9 i0 (.string ⟨#[]⟩) Tryz.underlying63 hi hz0 .i64 .i64 0 ((n:Int)+12) (by omega) (by omega) (by rw[hz2];omega) (by omega)
 rw[hz1,Nat.mul_one,show((n:Int)+12).toNat=n+12 by omega] at this
 exact this
def zcs (x:List UInt8):List Value:=[zaF x]
theorem zjG: ∀x,∀u∈zcs x,u.oneCell'=true:=fun x u hu=>by
 simp only[zcs,List.mem_singleton] at hu
 subst hu
 rfl
theorem zdk:zcc (EF zcs) 1 (fun s:List UInt8=>[lS s]):=zfb (fun _=>rfl) (fun _=>rfl) zjG
theorem zlj (v:Value) (l:List (List UInt8)) (w:World) (hv:Hid (DAt w (fun _=>True) v (.row 1 (zao l)))) (hn:l.length≤1000000):
 Calls Tryz.prog 197 #[v] w fun e w'=>zbL 1 (zar zdb) (EF zcs) w l e w':=by
 obtain⟨i0,hi0,hz0,hz1,hz2⟩:=info_parts zjE
 obtain⟨A,q,rfl, -⟩:=hv.out.slice
 rw[show(zao l).length=l.length by simp[zao]] at hv ⊢
 have hmk:=fun W=>znr l.length hn W
 have HOW0:=zaa (World.ownsRow_made (base:=w.heap.size) (e:=9) (size:=1) w (madeCells #[.string ⟨#[]⟩] (l.length+12)) (l.length+12) (Nat.le_refl _) (by unfold maxLen;omega) (by simp[madeCells]))
 have HRD:=zaa (zbz (vs:=zcs) (cells:=(fun s:List UInt8=>[lS s])) (fun _=>rfl) (fun _=>rfl) (by decide) (hv.out.later ((Below.refl w.heap.size w).alloc (Nat.le_refl _) (.cells (madeCells #[.string ⟨#[]⟩] (l.length+12)) 9))))
 have HON:Hid (∀u∈(l.map zcs).flatten,u.oneCell'=true):=zaa (fun u hu=>by
  obtain⟨e,he,hu⟩:=List.mem_flatten.1 hu
  obtain⟨x,_,rfl⟩:=List.mem_map.1 he
  exact zjG x u hu)
 go_enter Tryz.func197,Tryz.ntmps197
 go_wp2_with(at_builtin;apply Hid.out)
 refine zaa ?_
 refine zay _ rfl _ _ 63 rfl w.heap.size 9 i0 _ 1 16 Tryz.underlying63 hi0 hz0 hz1 hz2 rfl (by decide) _ 0 [] rfl HOW0.out _ A l.length q (l.map zcs).flatten rfl HRD.out HON.out (by unfold maxLen;omega) (by omega) (by simp) ?_
 intro v1 w1 hown1 hg1 _
 have hb1:Below w.heap.size w w1:=((Below.refl _ _).alloc (Nat.le_refl _) _).grown hg1 (by simp) (fun r hr=>(HOW0.out.lt r hr).1)
 have HO1:=zaa (show w1.ownsRow w.heap.size 9 1 v1 (l.length+0) ((l.map zcs++(List.range 0).map zdb).flatten) by simpa using hown1)
 have HB1:=zaa hb1
 clear hown1 hb1 hg1 hmk HOW0 HRD hv HON
 go_wp2_with fail
 go_loopw [3,4] (fun v3 v4 wr=> ∃k:Nat,k≤12∧v4= .int .i64 k∧wr.ownsRow w.heap.size 9 1 v3 (l.length+k) ((l.map zcs++(List.range k).map zdb).flatten)∧Below w.heap.size w wr) (fun _ v4 _=>12-(intOf v4).toNat)
 case atStart=>exact⟨0,by omega,rfl,HO1.out,HB1.out⟩
 case round=>
  obtain⟨k,hk,rfl,hown,hbr⟩:=hrel
  have HOW:=zaa hown
  have HBR:=zaa hbr
  clear hown hbr HO1 HB1
  by_cases hlt:k<12
  ·have HM:=zaa (zb0 k wr hlt)
   generalize hm:mkS k=m at HM
   have hm2:=zaa hm
   clear hm
   go_wp2_with fail
   refine HM.out.mono ?_
   rintro e w3 ⟨rfl,hb3⟩
   have HB3:=zaa (btZ HBR.out hb3)
   have HO3:=zaa (zaO HOW.out (fun g hg _=>hb3.block g (zav HOW.out hg).2))
   have hz3:=HB3.out.size
   clear hb3 HM
   go_wp2_with(first
    |(at_builtin;refine wpList_append_own _ rfl _ _ 63 rfl w.heap.size 9 i0 _ 1 16 Tryz.underlying63 hi0 hz0 hz1 hz2 rfl (by decide) _ _ _ rfl (HO3.out.alloc _) ⟨w3.heap.size,0,none⟩ 1 1 [.string (m)] rfl rfl (zaU (by simp)) (by simp[Value.oneCell']) (by unfold maxLen;omega) (by omega) (by simp;exact Nat.le_succ_of_le hz3) ?_;intro v' w5 hown' hgrow _))
   have HB5:=zaa (HB3.out.trans (Below.grown ((Below.refl _ w3).alloc hz3 _) hgrow (by simp;exact Nat.le_succ_of_le hz3) (fun g hg=>(zav HO3.out hg).1)))
   have HO5:=zaa (show w5.ownsRow w.heap.size 9 1 v' (l.length+(k+1)) ((l.map zcs++(List.range (k+1)).map zdb).flatten) by
    rw[zcU,show zdb k=[.string (m)] from by unfold zdb;rw[hm2.out]]
    exact hown')
   clear hown' hgrow
   go_wp2_with fail
   go_roundw
   case rel=>exact⟨k+1,by omega,by go_num,HO5.out,HB5.out⟩
   case measure=>simp[intOf];omega
  ·obtain rfl:k=12:=by omega
   have HLB:LB (EF zcs) wr w.heap.size 9 1 _ l (l.map zcs++zar zdb):=⟨by
    have e:(l.map zcs++zar zdb).length=l.length+12:=by simp[zar]
    rw[e]
    exact HOW.out,fun i r x hr hx=>by
    rw[List.getElem?_append_left (by rw[List.length_map];exact(List.getElem?_eq_some_iff.1 hx).1),List.getElem?_map,hx] at hr
    exact(Option.some.inj hr).symm⟩
   obtain⟨g,c,hvv,hc1,hc2,hLL⟩:=HLB.lent zdk (by simp) (by simp[zar])
   have HL:=zaa hLL
   subst hvv
   unfold maxLen at hc2
   clear HLB hLL HOW
   go_wp2_with fail
   go_ret
   exact zbL.mk _ rfl HL.out HBR.out
theorem zjM:(Tryz.prog.info? 78).map (fun i=>(i.zero,i.size,i.bytes))=some (some (.agg #[.int .u8 0,.int .i64 0,.int .i64 0,.int .i64 0]),4,32):=by kernel_rfl
def zdd (i:Nat):List Value:=[.int .u8 0,.int .i64 (mkI 1 (i:Int)),.int .i64 0,.int .i64 0]
theorem znS (n:Nat) (h:n≤1000000) (W:World):(Instr.makeSlice 35 (.int .i64 0) (.int .i64 ((n:Int)+12))).run Tryz.prog W= .ok (.slice (some ⟨W.heap.size,0,none⟩) 0 (n+12)) (W.alloc (.cells (madeCells (Value.cells (.agg #[.int .u8 0,.int .i64 0,.int .i64 0,.int .i64 0])) ((n+12)*4)) 78)):=by
 obtain⟨i0,hi,hz0,hz1,hz2⟩:=info_parts zjM
 have:=run_make (P:=Tryz.prog) W 35 78 i0 (.agg #[.int .u8 0,.int .i64 0,.int .i64 0,.int .i64 0]) Tryz.underlying35 hi hz0 .i64 .i64 0 ((n:Int)+12) (by omega) (by omega) (by rw[hz2];omega) (by omega)
 rw[hz1,show((n:Int)+12).toNat=n+12 by omega] at this
 exact this
def zct (x:zbU):List Value:=[.int .u8 (x.op:Int),.int .i64 x.a,.int .i64 x.b,.int .i64 x.c]
theorem zi7: ∀x,∀u∈zct x,u.oneCell'=true:=fun x u hu=>by
 simp only[zct,List.mem_cons,List.not_mem_nil,or_false] at hu
 rcases hu with rfl|rfl|rfl|rfl<;>rfl
theorem zds:zcc (EF zct) 4 zbU.cells:=zfb (fun _=>rfl) (fun _=>rfl) zi7
theorem zkP (v:Value) (l:List zbU) (w:World) (hv:Hid (DAt w (fun _=>True) v (.row 4 (l.map zbU.cells)))) (hn:l.length≤1000000):
 Calls Tryz.prog 22 #[v] w fun e w'=>zbL 4 (zar zdd) (EF zct) w l e w':=by
 obtain⟨i0,hi0,hz0,hz1,hz2⟩:=info_parts zjM
 obtain⟨A,q,rfl, -⟩:=hv.out.slice
 rw[List.length_map] at hv ⊢
 have hmk:=fun W=>znS l.length hn W
 have HOW0:=zaa (World.ownsRow_made (base:=w.heap.size) (e:=78) (size:=4) w (madeCells (Value.cells (.agg #[.int .u8 0,.int .i64 0,.int .i64 0,.int .i64 0])) ((l.length+12)*4)) (l.length+12) (Nat.le_refl _) (by unfold maxLen;omega) (by simp[madeCells]))
 have HRD:=zaa (zbz (vs:=zct) (cells:=zbU.cells) (fun _=>rfl) (fun _=>rfl) (by decide) (hv.out.later ((Below.refl w.heap.size w).alloc (Nat.le_refl _) (.cells (madeCells (Value.cells (.agg #[.int .u8 0,.int .i64 0,.int .i64 0,.int .i64 0])) ((l.length+12)*4)) 78))))
 have HON:Hid (∀u∈(l.map zct).flatten,u.oneCell'=true):=zaa (fun u hu=>by
  obtain⟨e,he,hu⟩:=List.mem_flatten.1 hu
  obtain⟨x,_,rfl⟩:=List.mem_map.1 he
  exact zi7 x u hu)
 go_enter Tryz.func22,Tryz.ntmps22
 go_wp2_with(at_builtin;apply Hid.out)
 refine zaa ?_
 refine zay _ rfl _ _ 35 rfl w.heap.size 78 i0 _ 4 32 Tryz.underlying35 hi0 hz0 hz1 hz2 rfl (by decide) _ 0 [] rfl HOW0.out _ A l.length q (l.map zct).flatten rfl HRD.out HON.out (by unfold maxLen;omega) (by omega) (by simp) ?_
 intro v1 w1 hown1 hg1 _
 have hb1:Below w.heap.size w w1:=((Below.refl _ _).alloc (Nat.le_refl _) _).grown hg1 (by simp) (fun r hr=>(HOW0.out.lt r hr).1)
 have HO1:=zaa (show w1.ownsRow w.heap.size 78 4 v1 (l.length+0) ((l.map zct++(List.range 0).map zdd).flatten) by simpa using hown1)
 have HB1:=zaa hb1
 clear hown1 hb1 hg1 hmk HOW0 HRD hv HON
 go_wp2_with fail
 go_loopw [3,4] (fun v3 v4 wr=> ∃k:Nat,k≤12∧v4= .int .i64 k∧wr.ownsRow w.heap.size 78 4 v3 (l.length+k) ((l.map zct++(List.range k).map zdd).flatten)∧Below w.heap.size w wr) (fun _ v4 _=>12-(intOf v4).toNat)
 case atStart=>exact⟨0,by omega,rfl,HO1.out,HB1.out⟩
 case round=>
  obtain⟨k,hk,rfl,hown,hbr⟩:=hrel
  have HOW:=zaa hown
  have HBR:=zaa hbr
  clear hown hbr HO1 HB1
  by_cases hlt:k<12
  ·have HM:=zaa (znj k wr hlt)
   generalize hm:mkI 1 (k:Int)=m at HM
   have hm2:=zaa hm
   clear hm
   go_wp2_with fail
   refine HM.out.mono ?_
   rintro e w3 ⟨rfl,hb3⟩
   have HB3:=zaa (btZ HBR.out hb3)
   have HO3:=zaa (zaO HOW.out (fun g hg _=>hb3.block g (zav HOW.out hg).2))
   have hz3:=HB3.out.size
   clear hb3 HM
   go_wp2_with(first
    |(at_builtin;refine wpList_append_own _ rfl _ _ 35 rfl w.heap.size 78 i0 _ 4 32 Tryz.underlying35 hi0 hz0 hz1 hz2 rfl (by decide) _ _ _ rfl (HO3.out.alloc _) ⟨w3.heap.size,0,none⟩ 1 1 [.int .u8 0,.int .i64 (m),.int .i64 0,.int .i64 0] rfl rfl (zaU (by simp)) (by simp[Value.oneCell']) (by unfold maxLen;omega) (by omega) (by simp;exact Nat.le_succ_of_le hz3) ?_;intro v' w5 hown' hgrow _))
   have HB5:=zaa (HB3.out.trans (Below.grown ((Below.refl _ w3).alloc hz3 _) hgrow (by simp;exact Nat.le_succ_of_le hz3) (fun g hg=>(zav HO3.out hg).1)))
   have HO5:=zaa (show w5.ownsRow w.heap.size 78 4 v' (l.length+(k+1)) ((l.map zct++(List.range (k+1)).map zdd).flatten) by
    rw[zcU,show zdd k=[.int .u8 0,.int .i64 (m),.int .i64 0,.int .i64 0] from by unfold zdd;rw[hm2.out]]
    exact hown')
   clear hown' hgrow
   go_wp2_with fail
   go_roundw
   case rel=>exact⟨k+1,by omega,by go_num,HO5.out,HB5.out⟩
   case measure=>simp[intOf];omega
  ·obtain rfl:k=12:=by omega
   have HLB:LB (EF zct) wr w.heap.size 78 4 _ l (l.map zct++zar zdd):=⟨by
    have e:(l.map zct++zar zdd).length=l.length+12:=by simp[zar]
    rw[e]
    exact HOW.out,fun i r x hr hx=>by
    rw[List.getElem?_append_left (by rw[List.length_map];exact(List.getElem?_eq_some_iff.1 hx).1),List.getElem?_map,hx] at hr
    exact(Option.some.inj hr).symm⟩
   obtain⟨g,c,hvv,hc1,hc2,hLL⟩:=HLB.lent zds (by simp) (by simp[zar])
   have HL:=zaa hLL
   subst hvv
   unfold maxLen at hc2
   clear HLB hLL HOW
   go_wp2_with fail
   go_ret
   exact zbL.mk _ rfl HL.out HBR.out
theorem zjJ:(Tryz.prog.info? 67).map (fun i=>(i.zero,i.size,i.bytes))=some (some (.agg #[.string ⟨#[]⟩,.int .i64 0]),2,24):=by kernel_rfl
def zdc (i:Nat):List Value:=[.string ⟨#[]⟩,.int .i64 (mkI 1 (i:Int))]
theorem znY (n:Nat) (h:n≤1000000) (W:World):(Instr.makeSlice 62 (.int .i64 0) (.int .i64 ((n:Int)+12))).run Tryz.prog W= .ok (.slice (some ⟨W.heap.size,0,none⟩) 0 (n+12)) (W.alloc (.cells (madeCells (Value.cells (.agg #[.string ⟨#[]⟩,.int .i64 0])) ((n+12)*2)) 67)):=by
 obtain⟨i0,hi,hz0,hz1,hz2⟩:=info_parts zjJ
 have:=run_make (P:=Tryz.prog) W 62 67 i0 (.agg #[.string ⟨#[]⟩,.int .i64 0]) Tryz.underlying62 hi hz0 .i64 .i64 0 ((n:Int)+12) (by omega) (by omega) (by rw[hz2];omega) (by omega)
 rw[hz1,show((n:Int)+12).toNat=n+12 by omega] at this
 exact this
def zcu (x:zck):List Value:=[zaF x.unit,.int .i64 x.code]
theorem zjD: ∀x,∀u∈zcu x,u.oneCell'=true:=fun x u hu=>by
 simp only[zcu,List.mem_cons,List.not_mem_nil,or_false] at hu
 rcases hu with rfl|rfl<;>rfl
theorem zcY:zcc (EF zcu) 2 zck.cells:=zfb (fun _=>rfl) (fun _=>rfl) zjD
theorem zk3 (v:Value) (l:List zck) (w:World) (hv:Hid (DAt w (fun _=>True) v (.row 2 (l.map zck.cells)))) (hn:l.length≤1000000):
 Calls Tryz.prog 196 #[v] w fun e w'=>zbL 2 (zar zdc) (EF zcu) w l e w':=by
 obtain⟨i0,hi0,hz0,hz1,hz2⟩:=info_parts zjJ
 obtain⟨A,q,rfl, -⟩:=hv.out.slice
 rw[List.length_map] at hv ⊢
 have hmk:=fun W=>znY l.length hn W
 have HOW0:=zaa (World.ownsRow_made (base:=w.heap.size) (e:=67) (size:=2) w (madeCells (Value.cells (.agg #[.string ⟨#[]⟩,.int .i64 0])) ((l.length+12)*2)) (l.length+12) (Nat.le_refl _) (by unfold maxLen;omega) (by simp[madeCells]))
 have HRD:=zaa (zbz (vs:=zcu) (cells:=zck.cells) (fun _=>rfl) (fun _=>rfl) (by decide) (hv.out.later ((Below.refl w.heap.size w).alloc (Nat.le_refl _) (.cells (madeCells (Value.cells (.agg #[.string ⟨#[]⟩,.int .i64 0])) ((l.length+12)*2)) 67))))
 have HON:Hid (∀u∈(l.map zcu).flatten,u.oneCell'=true):=zaa (fun u hu=>by
  obtain⟨e,he,hu⟩:=List.mem_flatten.1 hu
  obtain⟨x,_,rfl⟩:=List.mem_map.1 he
  exact zjD x u hu)
 go_enter Tryz.func196,Tryz.ntmps196
 go_wp2_with(at_builtin;apply Hid.out)
 refine zaa ?_
 refine zay _ rfl _ _ 62 rfl w.heap.size 67 i0 _ 2 24 Tryz.underlying62 hi0 hz0 hz1 hz2 rfl (by decide) _ 0 [] rfl HOW0.out _ A l.length q (l.map zcu).flatten rfl HRD.out HON.out (by unfold maxLen;omega) (by omega) (by simp) ?_
 intro v1 w1 hown1 hg1 _
 have hb1:Below w.heap.size w w1:=((Below.refl _ _).alloc (Nat.le_refl _) _).grown hg1 (by simp) (fun r hr=>(HOW0.out.lt r hr).1)
 have HO1:=zaa (show w1.ownsRow w.heap.size 67 2 v1 (l.length+0) ((l.map zcu++(List.range 0).map zdc).flatten) by simpa using hown1)
 have HB1:=zaa hb1
 clear hown1 hb1 hg1 hmk HOW0 HRD hv HON
 go_wp2_with fail
 go_loopw [3,4] (fun v3 v4 wr=> ∃k:Nat,k≤12∧v4= .int .i64 k∧wr.ownsRow w.heap.size 67 2 v3 (l.length+k) ((l.map zcu++(List.range k).map zdc).flatten)∧Below w.heap.size w wr) (fun _ v4 _=>12-(intOf v4).toNat)
 case atStart=>exact⟨0,by omega,rfl,HO1.out,HB1.out⟩
 case round=>
  obtain⟨k,hk,rfl,hown,hbr⟩:=hrel
  have HOW:=zaa hown
  have HBR:=zaa hbr
  clear hown hbr HO1 HB1
  by_cases hlt:k<12
  ·have HM:=zaa (znq k wr hlt)
   generalize hm:mkI 1 (k:Int)=m at HM
   have hm2:=zaa hm
   clear hm
   go_wp2_with fail
   refine HM.out.mono ?_
   rintro e w3 ⟨rfl,hb3⟩
   have HB3:=zaa (btZ HBR.out hb3)
   have HO3:=zaa (zaO HOW.out (fun g hg _=>hb3.block g (zav HOW.out hg).2))
   have hz3:=HB3.out.size
   clear hb3 HM
   go_wp2_with(first
    |(at_builtin;refine wpList_append_own _ rfl _ _ 62 rfl w.heap.size 67 i0 _ 2 24 Tryz.underlying62 hi0 hz0 hz1 hz2 rfl (by decide) _ _ _ rfl (HO3.out.alloc _) ⟨w3.heap.size,0,none⟩ 1 1 [.string ⟨#[]⟩,.int .i64 (m)] rfl rfl (zaU (by simp)) (by simp[Value.oneCell']) (by unfold maxLen;omega) (by omega) (by simp;exact Nat.le_succ_of_le hz3) ?_;intro v' w5 hown' hgrow _))
   have HB5:=zaa (HB3.out.trans (Below.grown ((Below.refl _ w3).alloc hz3 _) hgrow (by simp;exact Nat.le_succ_of_le hz3) (fun g hg=>(zav HO3.out hg).1)))
   have HO5:=zaa (show w5.ownsRow w.heap.size 67 2 v' (l.length+(k+1)) ((l.map zcu++(List.range (k+1)).map zdc).flatten) by
    rw[zcU,show zdc k=[.string ⟨#[]⟩,.int .i64 (m)] from by unfold zdc;rw[hm2.out]]
    exact hown')
   clear hown' hgrow
   go_wp2_with fail
   go_roundw
   case rel=>exact⟨k+1,by omega,by go_num,HO5.out,HB5.out⟩
   case measure=>simp[intOf];omega
  ·obtain rfl:k=12:=by omega
   have HLB:LB (EF zcu) wr w.heap.size 67 2 _ l (l.map zcu++zar zdc):=⟨by
    have e:(l.map zcu++zar zdc).length=l.length+12:=by simp[zar]
    rw[e]
    exact HOW.out,fun i r x hr hx=>by
    rw[List.getElem?_append_left (by rw[List.length_map];exact(List.getElem?_eq_some_iff.1 hx).1),List.getElem?_map,hx] at hr
    exact(Option.some.inj hr).symm⟩
   obtain⟨g,c,hvv,hc1,hc2,hLL⟩:=HLB.lent zcY (by simp) (by simp[zar])
   have HL:=zaa hLL
   subst hvv
   unfold maxLen at hc2
   clear HLB hLL HOW
   go_wp2_with fail
   go_ret
   exact zbL.mk _ rfl HL.out HBR.out
theorem zjz:(Tryz.prog.info? 55).map (fun i=>(i.zero,i.size,i.bytes))=some (some (.agg #[.string ⟨#[]⟩,.string ⟨#[]⟩,.string ⟨#[]⟩]),3,48):=by kernel_rfl
def zcX (i:Nat):List Value:=[.string ⟨#[]⟩,.string ⟨#[]⟩,.string (mkS i)]
theorem zns (n:Nat) (h:n≤1000000) (W:World):(Instr.makeSlice 56 (.int .i64 0) (.int .i64 ((n:Int)+12))).run Tryz.prog W= .ok (.slice (some ⟨W.heap.size,0,none⟩) 0 (n+12)) (W.alloc (.cells (madeCells (Value.cells (.agg #[.string ⟨#[]⟩,.string ⟨#[]⟩,.string ⟨#[]⟩])) ((n+12)*3)) 55)):=by
 obtain⟨i0,hi,hz0,hz1,hz2⟩:=info_parts zjz
 have:=run_make (P:=Tryz.prog) W 56 55 i0 (.agg #[.string ⟨#[]⟩,.string ⟨#[]⟩,.string ⟨#[]⟩]) Tryz.underlying56 hi hz0 .i64 .i64 0 ((n:Int)+12) (by omega) (by omega) (by rw[hz2];omega) (by omega)
 rw[hz1,show((n:Int)+12).toNat=n+12 by omega] at this
 exact this
def zch (x:zb2):List Value:=[zaF x.m,zaF x.p,zaF x.o]
theorem ziw: ∀x,∀u∈zch x,u.oneCell'=true:=fun x u hu=>by
 simp only[zch,List.mem_cons,List.not_mem_nil,or_false] at hu
 rcases hu with rfl|rfl|rfl<;>rfl
theorem zb7:zcc (EF zch) 3 zb2.cells:=zfb (fun _=>rfl) (fun _=>rfl) ziw
theorem zhh (v:Value) (l:List zb2) (w:World) (hv:Hid (DAt w (fun _=>True) v (.row 3 (l.map zb2.cells)))) (hn:l.length≤1000000):
 Calls Tryz.prog 194 #[v] w fun e w'=>zbL 3 (zar zcX) (EF zch) w l e w':=by
 obtain⟨i0,hi0,hz0,hz1,hz2⟩:=info_parts zjz
 obtain⟨A,q,rfl, -⟩:=hv.out.slice
 rw[List.length_map] at hv ⊢
 have hmk:=fun W=>zns l.length hn W
 have HOW0:=zaa (World.ownsRow_made (base:=w.heap.size) (e:=55) (size:=3) w (madeCells (Value.cells (.agg #[.string ⟨#[]⟩,.string ⟨#[]⟩,.string ⟨#[]⟩])) ((l.length+12)*3)) (l.length+12) (Nat.le_refl _) (by unfold maxLen;omega) (by simp[madeCells]))
 have HRD:=zaa (zbz (vs:=zch) (cells:=zb2.cells) (fun _=>rfl) (fun _=>rfl) (by decide) (hv.out.later ((Below.refl w.heap.size w).alloc (Nat.le_refl _) (.cells (madeCells (Value.cells (.agg #[.string ⟨#[]⟩,.string ⟨#[]⟩,.string ⟨#[]⟩])) ((l.length+12)*3)) 55))))
 have HON:Hid (∀u∈(l.map zch).flatten,u.oneCell'=true):=zaa (fun u hu=>by
  obtain⟨e,he,hu⟩:=List.mem_flatten.1 hu
  obtain⟨x,_,rfl⟩:=List.mem_map.1 he
  exact ziw x u hu)
 go_enter Tryz.func194,Tryz.ntmps194
 go_wp2_with(at_builtin;apply Hid.out)
 refine zaa ?_
 refine zay _ rfl _ _ 56 rfl w.heap.size 55 i0 _ 3 48 Tryz.underlying56 hi0 hz0 hz1 hz2 rfl (by decide) _ 0 [] rfl HOW0.out _ A l.length q (l.map zch).flatten rfl HRD.out HON.out (by unfold maxLen;omega) (by omega) (by simp) ?_
 intro v1 w1 hown1 hg1 _
 have hb1:Below w.heap.size w w1:=((Below.refl _ _).alloc (Nat.le_refl _) _).grown hg1 (by simp) (fun r hr=>(HOW0.out.lt r hr).1)
 have HO1:=zaa (show w1.ownsRow w.heap.size 55 3 v1 (l.length+0) ((l.map zch++(List.range 0).map zcX).flatten) by simpa using hown1)
 have HB1:=zaa hb1
 clear hown1 hb1 hg1 hmk HOW0 HRD hv HON
 go_wp2_with fail
 go_loopw [3,4] (fun v3 v4 wr=> ∃k:Nat,k≤12∧v4= .int .i64 k∧wr.ownsRow w.heap.size 55 3 v3 (l.length+k) ((l.map zch++(List.range k).map zcX).flatten)∧Below w.heap.size w wr) (fun _ v4 _=>12-(intOf v4).toNat)
 case atStart=>exact⟨0,by omega,rfl,HO1.out,HB1.out⟩
 case round=>
  obtain⟨k,hk,rfl,hown,hbr⟩:=hrel
  have HOW:=zaa hown
  have HBR:=zaa hbr
  clear hown hbr HO1 HB1
  by_cases hlt:k<12
  ·have HM:=zaa (znA k wr hlt)
   generalize hm:mkS k=m at HM
   have hm2:=zaa hm
   clear hm
   go_wp2_with fail
   refine HM.out.mono ?_
   rintro e w3 ⟨rfl,hb3⟩
   have HB3:=zaa (btZ HBR.out hb3)
   have HO3:=zaa (zaO HOW.out (fun g hg _=>hb3.block g (zav HOW.out hg).2))
   have hz3:=HB3.out.size
   clear hb3 HM
   go_wp2_with(first
    |(at_builtin;refine wpList_append_own _ rfl _ _ 56 rfl w.heap.size 55 i0 _ 3 48 Tryz.underlying56 hi0 hz0 hz1 hz2 rfl (by decide) _ _ _ rfl (HO3.out.alloc _) ⟨w3.heap.size,0,none⟩ 1 1 [.string ⟨#[]⟩,.string ⟨#[]⟩,.string (m)] rfl rfl (zaU (by simp)) (by simp[Value.oneCell']) (by unfold maxLen;omega) (by omega) (by simp;exact Nat.le_succ_of_le hz3) ?_;intro v' w5 hown' hgrow _))
   have HB5:=zaa (HB3.out.trans (Below.grown ((Below.refl _ w3).alloc hz3 _) hgrow (by simp;exact Nat.le_succ_of_le hz3) (fun g hg=>(zav HO3.out hg).1)))
   have HO5:=zaa (show w5.ownsRow w.heap.size 55 3 v' (l.length+(k+1)) ((l.map zch++(List.range (k+1)).map zcX).flatten) by
    rw[zcU,show zcX k=[.string ⟨#[]⟩,.string ⟨#[]⟩,.string (m)] from by unfold zcX;rw[hm2.out]]
    exact hown')
   clear hown' hgrow
   go_wp2_with fail
   go_roundw
   case rel=>exact⟨k+1,by omega,by go_num,HO5.out,HB5.out⟩
   case measure=>simp[intOf];omega
  ·obtain rfl:k=12:=by omega
   have HLB:LB (EF zch) wr w.heap.size 55 3 _ l (l.map zch++zar zcX):=⟨by
    have e:(l.map zch++zar zcX).length=l.length+12:=by simp[zar]
    rw[e]
    exact HOW.out,fun i r x hr hx=>by
    rw[List.getElem?_append_left (by rw[List.length_map];exact(List.getElem?_eq_some_iff.1 hx).1),List.getElem?_map,hx] at hr
    exact(Option.some.inj hr).symm⟩
   obtain⟨g,c,hvv,hc1,hc2,hLL⟩:=HLB.lent zb7 (by simp) (by simp[zar])
   have HL:=zaa hLL
   subst hvv
   unfold maxLen at hc2
   clear HLB hLL HOW
   go_wp2_with fail
   go_ret
   exact zbL.mk _ rfl HL.out HBR.out
theorem zg4:(Tryz.prog.info? 51).map (fun i=>(i.zero,i.size,i.bytes))=some (some (.agg #[.string ⟨#[]⟩,.int .u8 0,.bool false,.int .i64 0,.int .i64 0,.int .i64 0]),6,48):=by kernel_rfl
def zcp (i:Nat):List Value:=[.string ⟨#[]⟩,.int .u8 0,.bool false,.int .i64 (mkI 1 (i:Int)),.int .i64 0,.int .i64 0]
theorem zmx (n:Nat) (h:n≤1000000) (W:World):(Instr.makeSlice 46 (.int .i64 0) (.int .i64 ((n:Int)+12))).run Tryz.prog W= .ok (.slice (some ⟨W.heap.size,0,none⟩) 0 (n+12)) (W.alloc (.cells (madeCells (Value.cells (.agg #[.string ⟨#[]⟩,.int .u8 0,.bool false,.int .i64 0,.int .i64 0,.int .i64 0])) ((n+12)*6)) 51)):=by
 obtain⟨i0,hi,hz0,hz1,hz2⟩:=info_parts zg4
 have:=run_make (P:=Tryz.prog) W 46 51 i0 (.agg #[.string ⟨#[]⟩,.int .u8 0,.bool false,.int .i64 0,.int .i64 0,.int .i64 0]) Tryz.underlying46 hi hz0 .i64 .i64 0 ((n:Int)+12) (by omega) (by omega) (by rw[hz2];omega) (by omega)
 rw[hz1,show((n:Int)+12).toNat=n+12 by omega] at this
 exact this
def zbP (x:zaT):List Value:=[zaF x.name,.int .u8 (x.kind:Int),.bool x.out,.int .i64 x.size,.int .i64 x.depth,.int .i64 x.refresh]
theorem zgX: ∀x,∀u∈zbP x,u.oneCell'=true:=fun x u hu=>by
 simp only[zbP,List.mem_cons,List.not_mem_nil,or_false] at hu
 rcases hu with rfl|rfl|rfl|rfl|rfl|rfl<;>rfl
theorem zce:zcc (EF zbP) 6 zaT.cells:=zfb (fun _=>rfl) (fun _=>rfl) zgX
theorem ziy (v:Value) (l:List zaT) (w:World) (hv:Hid (DAt w (fun _=>True) v (.row 6 (l.map zaT.cells)))) (hn:l.length≤1000000):
 Calls Tryz.prog 276 #[v] w fun e w'=>zbL 6 (zar zcp) (EF zbP) w l e w':=by
 obtain⟨i0,hi0,hz0,hz1,hz2⟩:=info_parts zg4
 obtain⟨A,q,rfl, -⟩:=hv.out.slice
 rw[List.length_map] at hv ⊢
 have hmk:=fun W=>zmx l.length hn W
 have HOW0:=zaa (World.ownsRow_made (base:=w.heap.size) (e:=51) (size:=6) w (madeCells (Value.cells (.agg #[.string ⟨#[]⟩,.int .u8 0,.bool false,.int .i64 0,.int .i64 0,.int .i64 0])) ((l.length+12)*6)) (l.length+12) (Nat.le_refl _) (by unfold maxLen;omega) (by simp[madeCells]))
 have HRD:=zaa (zbz (vs:=zbP) (cells:=zaT.cells) (fun _=>rfl) (fun _=>rfl) (by decide) (hv.out.later ((Below.refl w.heap.size w).alloc (Nat.le_refl _) (.cells (madeCells (Value.cells (.agg #[.string ⟨#[]⟩,.int .u8 0,.bool false,.int .i64 0,.int .i64 0,.int .i64 0])) ((l.length+12)*6)) 51))))
 have HON:Hid (∀u∈(l.map zbP).flatten,u.oneCell'=true):=zaa (fun u hu=>by
  obtain⟨e,he,hu⟩:=List.mem_flatten.1 hu
  obtain⟨x,_,rfl⟩:=List.mem_map.1 he
  exact zgX x u hu)
 go_enter Tryz.func276,Tryz.ntmps276
 go_wp2_with(at_builtin;apply Hid.out)
 refine zaa ?_
 refine zay _ rfl _ _ 46 rfl w.heap.size 51 i0 _ 6 48 Tryz.underlying46 hi0 hz0 hz1 hz2 rfl (by decide) _ 0 [] rfl HOW0.out _ A l.length q (l.map zbP).flatten rfl HRD.out HON.out (by unfold maxLen;omega) (by omega) (by simp) ?_
 intro v1 w1 hown1 hg1 _
 have hb1:Below w.heap.size w w1:=((Below.refl _ _).alloc (Nat.le_refl _) _).grown hg1 (by simp) (fun r hr=>(HOW0.out.lt r hr).1)
 have HO1:=zaa (show w1.ownsRow w.heap.size 51 6 v1 (l.length+0) ((l.map zbP++(List.range 0).map zcp).flatten) by simpa using hown1)
 have HB1:=zaa hb1
 clear hown1 hb1 hg1 hmk HOW0 HRD hv HON
 go_wp2_with fail
 go_loopw [3,4] (fun v3 v4 wr=> ∃k:Nat,k≤12∧v4= .int .i64 k∧wr.ownsRow w.heap.size 51 6 v3 (l.length+k) ((l.map zbP++(List.range k).map zcp).flatten)∧Below w.heap.size w wr) (fun _ v4 _=>12-(intOf v4).toNat)
 case atStart=>exact⟨0,by omega,rfl,HO1.out,HB1.out⟩
 case round=>
  obtain⟨k,hk,rfl,hown,hbr⟩:=hrel
  have HOW:=zaa hown
  have HBR:=zaa hbr
  clear hown hbr HO1 HB1
  by_cases hlt:k<12
  ·have HM:=zaa (zlw k wr hlt)
   generalize hm:mkI 1 (k:Int)=m at HM
   have hm2:=zaa hm
   clear hm
   go_wp2_with fail
   refine HM.out.mono ?_
   rintro e w3 ⟨rfl,hb3⟩
   have HB3:=zaa (btZ HBR.out hb3)
   have HO3:=zaa (zaO HOW.out (fun g hg _=>hb3.block g (zav HOW.out hg).2))
   have hz3:=HB3.out.size
   clear hb3 HM
   go_wp2_with(first
    |(at_builtin;refine wpList_append_own _ rfl _ _ 46 rfl w.heap.size 51 i0 _ 6 48 Tryz.underlying46 hi0 hz0 hz1 hz2 rfl (by decide) _ _ _ rfl (HO3.out.alloc _) ⟨w3.heap.size,0,none⟩ 1 1 [.string ⟨#[]⟩,.int .u8 0,.bool false,.int .i64 (m),.int .i64 0,.int .i64 0] rfl rfl (zaU (by simp)) (by simp[Value.oneCell']) (by unfold maxLen;omega) (by omega) (by simp;exact Nat.le_succ_of_le hz3) ?_;intro v' w5 hown' hgrow _))
   have HB5:=zaa (HB3.out.trans (Below.grown ((Below.refl _ w3).alloc hz3 _) hgrow (by simp;exact Nat.le_succ_of_le hz3) (fun g hg=>(zav HO3.out hg).1)))
   have HO5:=zaa (show w5.ownsRow w.heap.size 51 6 v' (l.length+(k+1)) ((l.map zbP++(List.range (k+1)).map zcp).flatten) by
    rw[zcU,show zcp k=[.string ⟨#[]⟩,.int .u8 0,.bool false,.int .i64 (m),.int .i64 0,.int .i64 0] from by unfold zcp;rw[hm2.out]]
    exact hown')
   clear hown' hgrow
   go_wp2_with fail
   go_roundw
   case rel=>exact⟨k+1,by omega,by go_num,HO5.out,HB5.out⟩
   case measure=>simp[intOf];omega
  ·obtain rfl:k=12:=by omega
   have HLB:LB (EF zbP) wr w.heap.size 51 6 _ l (l.map zbP++zar zcp):=⟨by
    have e:(l.map zbP++zar zcp).length=l.length+12:=by simp[zar]
    rw[e]
    exact HOW.out,fun i r x hr hx=>by
    rw[List.getElem?_append_left (by rw[List.length_map];exact(List.getElem?_eq_some_iff.1 hx).1),List.getElem?_map,hx] at hr
    exact(Option.some.inj hr).symm⟩
   obtain⟨g,c,hvv,hc1,hc2,hLL⟩:=HLB.lent zce (by simp) (by simp[zar])
   have HL:=zaa hLL
   subst hvv
   unfold maxLen at hc2
   clear HLB hLL HOW
   go_wp2_with fail
   go_ret
   exact zbL.mk _ rfl HL.out HBR.out
theorem zlt:(Tryz.prog.info? 69).map (fun i=>(i.zero,i.size,i.bytes))=some (some (.agg #[.string ⟨#[]⟩,.int .i64 0,.int .i64 0,.int .i64 0]),4,40):=by kernel_rfl
def zew (i:Nat):List Value:=[.string ⟨#[]⟩,.int .i64 0,.int .i64 (mkI 1 (i:Int)),.int .i64 0]
theorem zoM (n:Nat) (h:n≤1000000) (W:World):(Instr.makeSlice 24 (.int .i64 0) (.int .i64 ((n:Int)+12))).run Tryz.prog W= .ok (.slice (some ⟨W.heap.size,0,none⟩) 0 (n+12)) (W.alloc (.cells (madeCells (Value.cells (.agg #[.string ⟨#[]⟩,.int .i64 0,.int .i64 0,.int .i64 0])) ((n+12)*4)) 69)):=by
 obtain⟨i0,hi,hz0,hz1,hz2⟩:=info_parts zlt
 have:=run_make (P:=Tryz.prog) W 24 69 i0 (.agg #[.string ⟨#[]⟩,.int .i64 0,.int .i64 0,.int .i64 0]) Tryz.underlying24 hi hz0 .i64 .i64 0 ((n:Int)+12) (by omega) (by omega) (by rw[hz2];omega) (by omega)
 rw[hz1,show((n:Int)+12).toNat=n+12 by omega] at this
 exact this
def zdD (x:SwD):List Value:=[zaF x.name,.int .i64 x.net,.int .i64 x.delay,.int .i64 x.store]
theorem zlu: ∀x,∀u∈zdD x,u.oneCell'=true:=fun x u hu=>by
 simp only[zdD,List.mem_cons,List.not_mem_nil,or_false] at hu
 rcases hu with rfl|rfl|rfl|rfl<;>rfl
theorem zcW:zcc (EF zdD) 4 SwD.cells:=zfb (fun _=>rfl) (fun _=>rfl) zlu
theorem zlL (v:Value) (l:List SwD) (w:World) (hv:Hid (DAt w (fun _=>True) v (.row 4 (l.map SwD.cells)))) (hn:l.length≤1000000):
 Calls Tryz.prog 27 #[v] w fun e w'=>zbL 4 (zar zew) (EF zdD) w l e w':=by
 obtain⟨i0,hi0,hz0,hz1,hz2⟩:=info_parts zlt
 obtain⟨A,q,rfl, -⟩:=hv.out.slice
 rw[List.length_map] at hv ⊢
 have hmk:=fun W=>zoM l.length hn W
 have HOW0:=zaa (World.ownsRow_made (base:=w.heap.size) (e:=69) (size:=4) w (madeCells (Value.cells (.agg #[.string ⟨#[]⟩,.int .i64 0,.int .i64 0,.int .i64 0])) ((l.length+12)*4)) (l.length+12) (Nat.le_refl _) (by unfold maxLen;omega) (by simp[madeCells]))
 have HRD:=zaa (zbz (vs:=zdD) (cells:=SwD.cells) (fun _=>rfl) (fun _=>rfl) (by decide) (hv.out.later ((Below.refl w.heap.size w).alloc (Nat.le_refl _) (.cells (madeCells (Value.cells (.agg #[.string ⟨#[]⟩,.int .i64 0,.int .i64 0,.int .i64 0])) ((l.length+12)*4)) 69))))
 have HON:Hid (∀u∈(l.map zdD).flatten,u.oneCell'=true):=zaa (fun u hu=>by
  obtain⟨e,he,hu⟩:=List.mem_flatten.1 hu
  obtain⟨x,_,rfl⟩:=List.mem_map.1 he
  exact zlu x u hu)
 go_enter Tryz.func27,Tryz.ntmps27
 go_wp2_with(at_builtin;apply Hid.out)
 refine zaa ?_
 refine zay _ rfl _ _ 24 rfl w.heap.size 69 i0 _ 4 40 Tryz.underlying24 hi0 hz0 hz1 hz2 rfl (by decide) _ 0 [] rfl HOW0.out _ A l.length q (l.map zdD).flatten rfl HRD.out HON.out (by unfold maxLen;omega) (by omega) (by simp) ?_
 intro v1 w1 hown1 hg1 _
 have hb1:Below w.heap.size w w1:=((Below.refl _ _).alloc (Nat.le_refl _) _).grown hg1 (by simp) (fun r hr=>(HOW0.out.lt r hr).1)
 have HO1:=zaa (show w1.ownsRow w.heap.size 69 4 v1 (l.length+0) ((l.map zdD++(List.range 0).map zew).flatten) by simpa using hown1)
 have HB1:=zaa hb1
 clear hown1 hb1 hg1 hmk HOW0 HRD hv HON
 go_wp2_with fail
 go_loopw [3,4] (fun v3 v4 wr=> ∃k:Nat,k≤12∧v4= .int .i64 k∧wr.ownsRow w.heap.size 69 4 v3 (l.length+k) ((l.map zdD++(List.range k).map zew).flatten)∧Below w.heap.size w wr) (fun _ v4 _=>12-(intOf v4).toNat)
 case atStart=>exact⟨0,by omega,rfl,HO1.out,HB1.out⟩
 case round=>
  obtain⟨k,hk,rfl,hown,hbr⟩:=hrel
  have HOW:=zaa hown
  have HBR:=zaa hbr
  clear hown hbr HO1 HB1
  by_cases hlt:k<12
  ·have HM:=zaa (m_sw k wr hlt)
   generalize hm:mkI 1 (k:Int)=m at HM
   have hm2:=zaa hm
   clear hm
   go_wp2_with fail
   refine HM.out.mono ?_
   rintro e w3 ⟨rfl,hb3⟩
   have HB3:=zaa (btZ HBR.out hb3)
   have HO3:=zaa (zaO HOW.out (fun g hg _=>hb3.block g (zav HOW.out hg).2))
   have hz3:=HB3.out.size
   clear hb3 HM
   go_wp2_with(first
    |(at_builtin;refine wpList_append_own _ rfl _ _ 24 rfl w.heap.size 69 i0 _ 4 40 Tryz.underlying24 hi0 hz0 hz1 hz2 rfl (by decide) _ _ _ rfl (HO3.out.alloc _) ⟨w3.heap.size,0,none⟩ 1 1 [.string ⟨#[]⟩,.int .i64 0,.int .i64 (m),.int .i64 0] rfl rfl (zaU (by simp)) (by simp[Value.oneCell']) (by unfold maxLen;omega) (by omega) (by simp;exact Nat.le_succ_of_le hz3) ?_;intro v' w5 hown' hgrow _))
   have HB5:=zaa (HB3.out.trans (Below.grown ((Below.refl _ w3).alloc hz3 _) hgrow (by simp;exact Nat.le_succ_of_le hz3) (fun g hg=>(zav HO3.out hg).1)))
   have HO5:=zaa (show w5.ownsRow w.heap.size 69 4 v' (l.length+(k+1)) ((l.map zdD++(List.range (k+1)).map zew).flatten) by
    rw[zcU,show zew k=[.string ⟨#[]⟩,.int .i64 0,.int .i64 (m),.int .i64 0] from by unfold zew;rw[hm2.out]]
    exact hown')
   clear hown' hgrow
   go_wp2_with fail
   go_roundw
   case rel=>exact⟨k+1,by omega,by go_num,HO5.out,HB5.out⟩
   case measure=>simp[intOf];omega
  ·obtain rfl:k=12:=by omega
   have HLB:LB (EF zdD) wr w.heap.size 69 4 _ l (l.map zdD++zar zew):=⟨by
    have e:(l.map zdD++zar zew).length=l.length+12:=by simp[zar]
    rw[e]
    exact HOW.out,fun i r x hr hx=>by
    rw[List.getElem?_append_left (by rw[List.length_map];exact(List.getElem?_eq_some_iff.1 hx).1),List.getElem?_map,hx] at hr
    exact(Option.some.inj hr).symm⟩
   obtain⟨g,c,hvv,hc1,hc2,hLL⟩:=HLB.lent zcW (by simp) (by simp[zar])
   have HL:=zaa hLL
   subst hvv
   unfold maxLen at hc2
   clear HLB hLL HOW
   go_wp2_with fail
   go_ret
   exact zbL.mk _ rfl HL.out HBR.out
theorem zgZ:(Tryz.prog.info? 71).map (fun i=>(i.zero,i.size,i.bytes))=some (some (.agg #[.string ⟨#[]⟩,.string ⟨#[]⟩,.int .i64 0,.int .i64 0]),4,48):=by kernel_rfl
def zcq (i:Nat):List Value:=[.string ⟨#[]⟩,.string ⟨#[]⟩,.int .i64 0,.int .i64 (mkI 1 (i:Int))]
theorem zmE (n:Nat) (h:n≤1000000) (W:World):(Instr.makeSlice 25 (.int .i64 0) (.int .i64 ((n:Int)+12))).run Tryz.prog W= .ok (.slice (some ⟨W.heap.size,0,none⟩) 0 (n+12)) (W.alloc (.cells (madeCells (Value.cells (.agg #[.string ⟨#[]⟩,.string ⟨#[]⟩,.int .i64 0,.int .i64 0])) ((n+12)*4)) 71)):=by
 obtain⟨i0,hi,hz0,hz1,hz2⟩:=info_parts zgZ
 have:=run_make (P:=Tryz.prog) W 25 71 i0 (.agg #[.string ⟨#[]⟩,.string ⟨#[]⟩,.int .i64 0,.int .i64 0]) Tryz.underlying25 hi hz0 .i64 .i64 0 ((n:Int)+12) (by omega) (by omega) (by rw[hz2];omega) (by omega)
 rw[hz1,show((n:Int)+12).toNat=n+12 by omega] at this
 exact this
def zbO (x:zbw):List Value:=[zaF x.a,zaF x.b,.int .i64 x.net,.int .i64 x.slow]
theorem zhg: ∀x,∀u∈zbO x,u.oneCell'=true:=fun x u hu=>by
 simp only[zbO,List.mem_cons,List.not_mem_nil,or_false] at hu
 rcases hu with rfl|rfl|rfl|rfl<;>rfl
theorem zbx:zcc (EF zbO) 4 zbw.cells:=zfb (fun _=>rfl) (fun _=>rfl) zhg
theorem ziS (v:Value) (l:List zbw) (w:World) (hv:Hid (DAt w (fun _=>True) v (.row 4 (l.map zbw.cells)))) (hn:l.length≤1000000):
 Calls Tryz.prog 28 #[v] w fun e w'=>zbL 4 (zar zcq) (EF zbO) w l e w':=by
 obtain⟨i0,hi0,hz0,hz1,hz2⟩:=info_parts zgZ
 obtain⟨A,q,rfl, -⟩:=hv.out.slice
 rw[List.length_map] at hv ⊢
 have hmk:=fun W=>zmE l.length hn W
 have HOW0:=zaa (World.ownsRow_made (base:=w.heap.size) (e:=71) (size:=4) w (madeCells (Value.cells (.agg #[.string ⟨#[]⟩,.string ⟨#[]⟩,.int .i64 0,.int .i64 0])) ((l.length+12)*4)) (l.length+12) (Nat.le_refl _) (by unfold maxLen;omega) (by simp[madeCells]))
 have HRD:=zaa (zbz (vs:=zbO) (cells:=zbw.cells) (fun _=>rfl) (fun _=>rfl) (by decide) (hv.out.later ((Below.refl w.heap.size w).alloc (Nat.le_refl _) (.cells (madeCells (Value.cells (.agg #[.string ⟨#[]⟩,.string ⟨#[]⟩,.int .i64 0,.int .i64 0])) ((l.length+12)*4)) 71))))
 have HON:Hid (∀u∈(l.map zbO).flatten,u.oneCell'=true):=zaa (fun u hu=>by
  obtain⟨e,he,hu⟩:=List.mem_flatten.1 hu
  obtain⟨x,_,rfl⟩:=List.mem_map.1 he
  exact zhg x u hu)
 go_enter Tryz.func28,Tryz.ntmps28
 go_wp2_with(at_builtin;apply Hid.out)
 refine zaa ?_
 refine zay _ rfl _ _ 25 rfl w.heap.size 71 i0 _ 4 48 Tryz.underlying25 hi0 hz0 hz1 hz2 rfl (by decide) _ 0 [] rfl HOW0.out _ A l.length q (l.map zbO).flatten rfl HRD.out HON.out (by unfold maxLen;omega) (by omega) (by simp) ?_
 intro v1 w1 hown1 hg1 _
 have hb1:Below w.heap.size w w1:=((Below.refl _ _).alloc (Nat.le_refl _) _).grown hg1 (by simp) (fun r hr=>(HOW0.out.lt r hr).1)
 have HO1:=zaa (show w1.ownsRow w.heap.size 71 4 v1 (l.length+0) ((l.map zbO++(List.range 0).map zcq).flatten) by simpa using hown1)
 have HB1:=zaa hb1
 clear hown1 hb1 hg1 hmk HOW0 HRD hv HON
 go_wp2_with fail
 go_loopw [3,4] (fun v3 v4 wr=> ∃k:Nat,k≤12∧v4= .int .i64 k∧wr.ownsRow w.heap.size 71 4 v3 (l.length+k) ((l.map zbO++(List.range k).map zcq).flatten)∧Below w.heap.size w wr) (fun _ v4 _=>12-(intOf v4).toNat)
 case atStart=>exact⟨0,by omega,rfl,HO1.out,HB1.out⟩
 case round=>
  obtain⟨k,hk,rfl,hown,hbr⟩:=hrel
  have HOW:=zaa hown
  have HBR:=zaa hbr
  clear hown hbr HO1 HB1
  by_cases hlt:k<12
  ·have HM:=zaa (zlB k wr hlt)
   generalize hm:mkI 1 (k:Int)=m at HM
   have hm2:=zaa hm
   clear hm
   go_wp2_with fail
   refine HM.out.mono ?_
   rintro e w3 ⟨rfl,hb3⟩
   have HB3:=zaa (btZ HBR.out hb3)
   have HO3:=zaa (zaO HOW.out (fun g hg _=>hb3.block g (zav HOW.out hg).2))
   have hz3:=HB3.out.size
   clear hb3 HM
   go_wp2_with(first
    |(at_builtin;refine wpList_append_own _ rfl _ _ 25 rfl w.heap.size 71 i0 _ 4 48 Tryz.underlying25 hi0 hz0 hz1 hz2 rfl (by decide) _ _ _ rfl (HO3.out.alloc _) ⟨w3.heap.size,0,none⟩ 1 1 [.string ⟨#[]⟩,.string ⟨#[]⟩,.int .i64 0,.int .i64 (m)] rfl rfl (zaU (by simp)) (by simp[Value.oneCell']) (by unfold maxLen;omega) (by omega) (by simp;exact Nat.le_succ_of_le hz3) ?_;intro v' w5 hown' hgrow _))
   have HB5:=zaa (HB3.out.trans (Below.grown ((Below.refl _ w3).alloc hz3 _) hgrow (by simp;exact Nat.le_succ_of_le hz3) (fun g hg=>(zav HO3.out hg).1)))
   have HO5:=zaa (show w5.ownsRow w.heap.size 71 4 v' (l.length+(k+1)) ((l.map zbO++(List.range (k+1)).map zcq).flatten) by
    rw[zcU,show zcq k=[.string ⟨#[]⟩,.string ⟨#[]⟩,.int .i64 0,.int .i64 (m)] from by unfold zcq;rw[hm2.out]]
    exact hown')
   clear hown' hgrow
   go_wp2_with fail
   go_roundw
   case rel=>exact⟨k+1,by omega,by go_num,HO5.out,HB5.out⟩
   case measure=>simp[intOf];omega
  ·obtain rfl:k=12:=by omega
   have HLB:LB (EF zbO) wr w.heap.size 71 4 _ l (l.map zbO++zar zcq):=⟨by
    have e:(l.map zbO++zar zcq).length=l.length+12:=by simp[zar]
    rw[e]
    exact HOW.out,fun i r x hr hx=>by
    rw[List.getElem?_append_left (by rw[List.length_map];exact(List.getElem?_eq_some_iff.1 hx).1),List.getElem?_map,hx] at hr
    exact(Option.some.inj hr).symm⟩
   obtain⟨g,c,hvv,hc1,hc2,hLL⟩:=HLB.lent zbx (by simp) (by simp[zar])
   have HL:=zaa hLL
   subst hvv
   unfold maxLen at hc2
   clear HLB hLL HOW
   go_wp2_with fail
   go_ret
   exact zbL.mk _ rfl HL.out HBR.out
theorem zfl:(Tryz.prog.info? 73).map (fun i=>(i.zero,i.size,i.bytes))=some (some (.agg #[.string ⟨#[]⟩,.string ⟨#[]⟩,.int .u8 0,.int .u8 0,.int .u8 0]),5,40):=by kernel_rfl
def zby (i:Nat):List Value:=[.string ⟨#[]⟩,.string (mkS i),.int .u8 0,.int .u8 0,.int .u8 0]
theorem zji (n:Nat) (h:n≤1000000) (W:World):(Instr.makeSlice 27 (.int .i64 0) (.int .i64 ((n:Int)+12))).run Tryz.prog W= .ok (.slice (some ⟨W.heap.size,0,none⟩) 0 (n+12)) (W.alloc (.cells (madeCells (Value.cells (.agg #[.string ⟨#[]⟩,.string ⟨#[]⟩,.int .u8 0,.int .u8 0,.int .u8 0])) ((n+12)*5)) 73)):=by
 obtain⟨i0,hi,hz0,hz1,hz2⟩:=info_parts zfl
 have:=run_make (P:=Tryz.prog) W 27 73 i0 (.agg #[.string ⟨#[]⟩,.string ⟨#[]⟩,.int .u8 0,.int .u8 0,.int .u8 0]) Tryz.underlying27 hi hz0 .i64 .i64 0 ((n:Int)+12) (by omega) (by omega) (by rw[hz2];omega) (by omega)
 rw[hz1,show((n:Int)+12).toNat=n+12 by omega] at this
 exact this
def zba (x:zaH):List Value:=[zaF x.module,zaF x.part,.int .u8 (x.fault:Int),.int .u8 (x.level:Int),.int .u8 (x.do_:Int)]
theorem zfp: ∀x,∀u∈zba x,u.oneCell'=true:=fun x u hu=>by
 simp only[zba,List.mem_cons,List.not_mem_nil,or_false] at hu
 rcases hu with rfl|rfl|rfl|rfl|rfl<;>rfl
theorem zbc:zcc (EF zba) 5 zaH.cells:=zfb (fun _=>rfl) (fun _=>rfl) zfp
theorem zgF (v:Value) (l:List zaH) (w:World) (hv:Hid (DAt w (fun _=>True) v (.row 5 (l.map zaH.cells)))) (hn:l.length≤1000000):
 Calls Tryz.prog 30 #[v] w fun e w'=>zbL 5 (zar zby) (EF zba) w l e w':=by
 obtain⟨i0,hi0,hz0,hz1,hz2⟩:=info_parts zfl
 obtain⟨A,q,rfl, -⟩:=hv.out.slice
 rw[List.length_map] at hv ⊢
 have hmk:=fun W=>zji l.length hn W
 have HOW0:=zaa (World.ownsRow_made (base:=w.heap.size) (e:=73) (size:=5) w (madeCells (Value.cells (.agg #[.string ⟨#[]⟩,.string ⟨#[]⟩,.int .u8 0,.int .u8 0,.int .u8 0])) ((l.length+12)*5)) (l.length+12) (Nat.le_refl _) (by unfold maxLen;omega) (by simp[madeCells]))
 have HRD:=zaa (zbz (vs:=zba) (cells:=zaH.cells) (fun _=>rfl) (fun _=>rfl) (by decide) (hv.out.later ((Below.refl w.heap.size w).alloc (Nat.le_refl _) (.cells (madeCells (Value.cells (.agg #[.string ⟨#[]⟩,.string ⟨#[]⟩,.int .u8 0,.int .u8 0,.int .u8 0])) ((l.length+12)*5)) 73))))
 have HON:Hid (∀u∈(l.map zba).flatten,u.oneCell'=true):=zaa (fun u hu=>by
  obtain⟨e,he,hu⟩:=List.mem_flatten.1 hu
  obtain⟨x,_,rfl⟩:=List.mem_map.1 he
  exact zfp x u hu)
 go_enter Tryz.func30,Tryz.ntmps30
 go_wp2_with(at_builtin;apply Hid.out)
 refine zaa ?_
 refine zay _ rfl _ _ 27 rfl w.heap.size 73 i0 _ 5 40 Tryz.underlying27 hi0 hz0 hz1 hz2 rfl (by decide) _ 0 [] rfl HOW0.out _ A l.length q (l.map zba).flatten rfl HRD.out HON.out (by unfold maxLen;omega) (by omega) (by simp) ?_
 intro v1 w1 hown1 hg1 _
 have hb1:Below w.heap.size w w1:=((Below.refl _ _).alloc (Nat.le_refl _) _).grown hg1 (by simp) (fun r hr=>(HOW0.out.lt r hr).1)
 have HO1:=zaa (show w1.ownsRow w.heap.size 73 5 v1 (l.length+0) ((l.map zba++(List.range 0).map zby).flatten) by simpa using hown1)
 have HB1:=zaa hb1
 clear hown1 hb1 hg1 hmk HOW0 HRD hv HON
 go_wp2_with fail
 go_loopw [3,4] (fun v3 v4 wr=> ∃k:Nat,k≤12∧v4= .int .i64 k∧wr.ownsRow w.heap.size 73 5 v3 (l.length+k) ((l.map zba++(List.range k).map zby).flatten)∧Below w.heap.size w wr) (fun _ v4 _=>12-(intOf v4).toNat)
 case atStart=>exact⟨0,by omega,rfl,HO1.out,HB1.out⟩
 case round=>
  obtain⟨k,hk,rfl,hown,hbr⟩:=hrel
  have HOW:=zaa hown
  have HBR:=zaa hbr
  clear hown hbr HO1 HB1
  by_cases hlt:k<12
  ·have HM:=zaa (zhq k wr hlt)
   generalize hm:mkS k=m at HM
   have hm2:=zaa hm
   clear hm
   go_wp2_with fail
   refine HM.out.mono ?_
   rintro e w3 ⟨rfl,hb3⟩
   have HB3:=zaa (btZ HBR.out hb3)
   have HO3:=zaa (zaO HOW.out (fun g hg _=>hb3.block g (zav HOW.out hg).2))
   have hz3:=HB3.out.size
   clear hb3 HM
   go_wp2_with(first
    |(at_builtin;refine wpList_append_own _ rfl _ _ 27 rfl w.heap.size 73 i0 _ 5 40 Tryz.underlying27 hi0 hz0 hz1 hz2 rfl (by decide) _ _ _ rfl (HO3.out.alloc _) ⟨w3.heap.size,0,none⟩ 1 1 [.string ⟨#[]⟩,.string (m),.int .u8 0,.int .u8 0,.int .u8 0] rfl rfl (zaU (by simp)) (by simp[Value.oneCell']) (by unfold maxLen;omega) (by omega) (by simp;exact Nat.le_succ_of_le hz3) ?_;intro v' w5 hown' hgrow _))
   have HB5:=zaa (HB3.out.trans (Below.grown ((Below.refl _ w3).alloc hz3 _) hgrow (by simp;exact Nat.le_succ_of_le hz3) (fun g hg=>(zav HO3.out hg).1)))
   have HO5:=zaa (show w5.ownsRow w.heap.size 73 5 v' (l.length+(k+1)) ((l.map zba++(List.range (k+1)).map zby).flatten) by
    rw[zcU,show zby k=[.string ⟨#[]⟩,.string (m),.int .u8 0,.int .u8 0,.int .u8 0] from by unfold zby;rw[hm2.out]]
    exact hown')
   clear hown' hgrow
   go_wp2_with fail
   go_roundw
   case rel=>exact⟨k+1,by omega,by go_num,HO5.out,HB5.out⟩
   case measure=>simp[intOf];omega
  ·obtain rfl:k=12:=by omega
   have HLB:LB (EF zba) wr w.heap.size 73 5 _ l (l.map zba++zar zby):=⟨by
    have e:(l.map zba++zar zby).length=l.length+12:=by simp[zar]
    rw[e]
    exact HOW.out,fun i r x hr hx=>by
    rw[List.getElem?_append_left (by rw[List.length_map];exact(List.getElem?_eq_some_iff.1 hx).1),List.getElem?_map,hx] at hr
    exact(Option.some.inj hr).symm⟩
   obtain⟨g,c,hvv,hc1,hc2,hLL⟩:=HLB.lent zbc (by simp) (by simp[zar])
   have HL:=zaa hLL
   subst hvv
   unfold maxLen at hc2
   clear HLB hLL HOW
   go_wp2_with fail
   go_ret
   exact zbL.mk _ rfl HL.out HBR.out
theorem zjL:(Tryz.prog.info? 75).map (fun i=>(i.zero,i.size,i.bytes))=some (some (.agg #[.string ⟨#[]⟩,.int .i64 0,.string ⟨#[]⟩,.int .i64 0]),4,48):=by kernel_rfl
def zde (i:Nat):List Value:=[.string ⟨#[]⟩,.int .i64 (mkI 1 (i:Int)),.string ⟨#[]⟩,.int .i64 0]
theorem zn6 (n:Nat) (h:n≤1000000) (W:World):(Instr.makeSlice 29 (.int .i64 0) (.int .i64 ((n:Int)+12))).run Tryz.prog W= .ok (.slice (some ⟨W.heap.size,0,none⟩) 0 (n+12)) (W.alloc (.cells (madeCells (Value.cells (.agg #[.string ⟨#[]⟩,.int .i64 0,.string ⟨#[]⟩,.int .i64 0])) ((n+12)*4)) 75)):=by
 obtain⟨i0,hi,hz0,hz1,hz2⟩:=info_parts zjL
 have:=run_make (P:=Tryz.prog) W 29 75 i0 (.agg #[.string ⟨#[]⟩,.int .i64 0,.string ⟨#[]⟩,.int .i64 0]) Tryz.underlying29 hi hz0 .i64 .i64 0 ((n:Int)+12) (by omega) (by omega) (by rw[hz2];omega) (by omega)
 rw[hz1,show((n:Int)+12).toNat=n+12 by omega] at this
 exact this
def zcw (x:zc7):List Value:=[zaF x.a,.int .i64 x.va,zaF x.b,.int .i64 x.vb]
theorem zjm: ∀x,∀u∈zcw x,u.oneCell'=true:=fun x u hu=>by
 simp only[zcw,List.mem_cons,List.not_mem_nil,or_false] at hu
 rcases hu with rfl|rfl|rfl|rfl<;>rfl
theorem zdt:zcc (EF zcw) 4 zc7.cells:=zfb (fun _=>rfl) (fun _=>rfl) zjm
theorem zkq (v:Value) (l:List zc7) (w:World) (hv:Hid (DAt w (fun _=>True) v (.row 4 (l.map zc7.cells)))) (hn:l.length≤1000000):
 Calls Tryz.prog 32 #[v] w fun e w'=>zbL 4 (zar zde) (EF zcw) w l e w':=by
 obtain⟨i0,hi0,hz0,hz1,hz2⟩:=info_parts zjL
 obtain⟨A,q,rfl, -⟩:=hv.out.slice
 rw[List.length_map] at hv ⊢
 have hmk:=fun W=>zn6 l.length hn W
 have HOW0:=zaa (World.ownsRow_made (base:=w.heap.size) (e:=75) (size:=4) w (madeCells (Value.cells (.agg #[.string ⟨#[]⟩,.int .i64 0,.string ⟨#[]⟩,.int .i64 0])) ((l.length+12)*4)) (l.length+12) (Nat.le_refl _) (by unfold maxLen;omega) (by simp[madeCells]))
 have HRD:=zaa (zbz (vs:=zcw) (cells:=zc7.cells) (fun _=>rfl) (fun _=>rfl) (by decide) (hv.out.later ((Below.refl w.heap.size w).alloc (Nat.le_refl _) (.cells (madeCells (Value.cells (.agg #[.string ⟨#[]⟩,.int .i64 0,.string ⟨#[]⟩,.int .i64 0])) ((l.length+12)*4)) 75))))
 have HON:Hid (∀u∈(l.map zcw).flatten,u.oneCell'=true):=zaa (fun u hu=>by
  obtain⟨e,he,hu⟩:=List.mem_flatten.1 hu
  obtain⟨x,_,rfl⟩:=List.mem_map.1 he
  exact zjm x u hu)
 go_enter Tryz.func32,Tryz.ntmps32
 go_wp2_with(at_builtin;apply Hid.out)
 refine zaa ?_
 refine zay _ rfl _ _ 29 rfl w.heap.size 75 i0 _ 4 48 Tryz.underlying29 hi0 hz0 hz1 hz2 rfl (by decide) _ 0 [] rfl HOW0.out _ A l.length q (l.map zcw).flatten rfl HRD.out HON.out (by unfold maxLen;omega) (by omega) (by simp) ?_
 intro v1 w1 hown1 hg1 _
 have hb1:Below w.heap.size w w1:=((Below.refl _ _).alloc (Nat.le_refl _) _).grown hg1 (by simp) (fun r hr=>(HOW0.out.lt r hr).1)
 have HO1:=zaa (show w1.ownsRow w.heap.size 75 4 v1 (l.length+0) ((l.map zcw++(List.range 0).map zde).flatten) by simpa using hown1)
 have HB1:=zaa hb1
 clear hown1 hb1 hg1 hmk HOW0 HRD hv HON
 go_wp2_with fail
 go_loopw [3,4] (fun v3 v4 wr=> ∃k:Nat,k≤12∧v4= .int .i64 k∧wr.ownsRow w.heap.size 75 4 v3 (l.length+k) ((l.map zcw++(List.range k).map zde).flatten)∧Below w.heap.size w wr) (fun _ v4 _=>12-(intOf v4).toNat)
 case atStart=>exact⟨0,by omega,rfl,HO1.out,HB1.out⟩
 case round=>
  obtain⟨k,hk,rfl,hown,hbr⟩:=hrel
  have HOW:=zaa hown
  have HBR:=zaa hbr
  clear hown hbr HO1 HB1
  by_cases hlt:k<12
  ·have HM:=zaa (zn2 k wr hlt)
   generalize hm:mkI 1 (k:Int)=m at HM
   have hm2:=zaa hm
   clear hm
   go_wp2_with fail
   refine HM.out.mono ?_
   rintro e w3 ⟨rfl,hb3⟩
   have HB3:=zaa (btZ HBR.out hb3)
   have HO3:=zaa (zaO HOW.out (fun g hg _=>hb3.block g (zav HOW.out hg).2))
   have hz3:=HB3.out.size
   clear hb3 HM
   go_wp2_with(first
    |(at_builtin;refine wpList_append_own _ rfl _ _ 29 rfl w.heap.size 75 i0 _ 4 48 Tryz.underlying29 hi0 hz0 hz1 hz2 rfl (by decide) _ _ _ rfl (HO3.out.alloc _) ⟨w3.heap.size,0,none⟩ 1 1 [.string ⟨#[]⟩,.int .i64 (m),.string ⟨#[]⟩,.int .i64 0] rfl rfl (zaU (by simp)) (by simp[Value.oneCell']) (by unfold maxLen;omega) (by omega) (by simp;exact Nat.le_succ_of_le hz3) ?_;intro v' w5 hown' hgrow _))
   have HB5:=zaa (HB3.out.trans (Below.grown ((Below.refl _ w3).alloc hz3 _) hgrow (by simp;exact Nat.le_succ_of_le hz3) (fun g hg=>(zav HO3.out hg).1)))
   have HO5:=zaa (show w5.ownsRow w.heap.size 75 4 v' (l.length+(k+1)) ((l.map zcw++(List.range (k+1)).map zde).flatten) by
    rw[zcU,show zde k=[.string ⟨#[]⟩,.int .i64 (m),.string ⟨#[]⟩,.int .i64 0] from by unfold zde;rw[hm2.out]]
    exact hown')
   clear hown' hgrow
   go_wp2_with fail
   go_roundw
   case rel=>exact⟨k+1,by omega,by go_num,HO5.out,HB5.out⟩
   case measure=>simp[intOf];omega
  ·obtain rfl:k=12:=by omega
   have HLB:LB (EF zcw) wr w.heap.size 75 4 _ l (l.map zcw++zar zde):=⟨by
    have e:(l.map zcw++zar zde).length=l.length+12:=by simp[zar]
    rw[e]
    exact HOW.out,fun i r x hr hx=>by
    rw[List.getElem?_append_left (by rw[List.length_map];exact(List.getElem?_eq_some_iff.1 hx).1),List.getElem?_map,hx] at hr
    exact(Option.some.inj hr).symm⟩
   obtain⟨g,c,hvv,hc1,hc2,hLL⟩:=HLB.lent zdt (by simp) (by simp[zar])
   have HL:=zaa hLL
   subst hvv
   unfold maxLen at hc2
   clear HLB hLL HOW
   go_wp2_with fail
   go_ret
   exact zbL.mk _ rfl HL.out HBR.out
end Go.Proofs.YtgbfaompondolaaGreatDoor
