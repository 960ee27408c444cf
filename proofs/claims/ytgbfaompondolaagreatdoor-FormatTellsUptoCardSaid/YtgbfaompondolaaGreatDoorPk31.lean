/- Merged texts of the walks and of the plain laws on which the statement leans.-/
import Derived.Test.YtgbfaompondolaaGreatDoorPk1
import Derived.Test.YtgbfaompondolaaGreatDoorPk30
import Derived.Laws.MakeOwn
set_option maxHeartbeats 4000000
set_option maxRecDepth 100000
namespace Go.Proofs.YtgbfaompondolaaGreatDoor
open Go.Proofs.Tryz
open Go.RowKit
attribute [local go_sem] zaj.cell
def EF {α:Type} (vs:α→List Value):Elt α:=fun _ _ r x=>r=vs x
theorem zin {w:World} {G:Nat→Prop} (l:List Value):zab w G l (l.map Dat.leaf):=⟨by simp,fun j u d hu hd=>by
 rw[List.getElem?_map,hu] at hd;injection hd with hd
 subst hd;exact .leaf u⟩
theorem zfw {α:Type} {vs:α→List Value} {cells:α→List Dat} {size:Nat} (hc: ∀x,cells x=(vs x).map Dat.leaf) (hs: ∀x,(vs x).length=size) (h1: ∀x,∀u∈vs x,u.oneCell'=true):zcm (EF vs) size cells where
 keep:=fun _ _ _ _ _ _ _ h=>h
 mono:=fun _ _ _ _ _ _ h=>h
 wide:=fun w G r x h=>by rw[show r=vs x from h];exact hs x
 dat:=fun w G r x h=>by rw[show r=vs x from h,hc];exact zin _
 one:=fun w G r x h=>by rw[show r=vs x from h];exact h1 x
theorem zc7 {β:Type} (a:List (List β)) (f:Nat→List β) (k:Nat):(a++(List.range (k+1)).map f).flatten=(a++(List.range k).map f).flatten++f k:=by
 rw[List.range_succ,List.map_append,←List.append_assoc,List.flatten_append];simp
theorem zbC {α:Type} {w:World} {A:Option Addr} {n q size:Nat} {vs:α→List Value} {cells:α→List Dat} {l:List α} (hc: ∀x,cells x=(vs x).map Dat.leaf) (hs: ∀x,(vs x).length=size) (hz:0<size)
 (h:DAt w (fun _=>True) (.slice A n q) (.row size (l.map cells))):zbv w w.heap.size size A n (l.map vs).flatten:=by
 generalize hd:Dat.row size (l.map cells)=d at h;generalize hv:Value.slice A n q=v at h;have hfl:(l.map vs).flatten.length=l.length*size:=by
  rw[zfH size _ (fun r hr=>by obtain⟨x,_,rfl⟩:=List.mem_map.1 hr;exact hs x),List.length_map]
 cases h with
 |leaf v=>cases hd
 |nil A' c size=>
  injection hd with _ h1
  injection hv with _ h2
  subst h2;have:l=[]:=by simpa using h1
  subst this;exact⟨by simp,fun h=>absurd h (by omega)⟩
 |row b off c size m es val hn hG hb hc' hdd=>
  injection hd with h0 h1
  injection hv with h2 h3 h4
  subst h0 h1 h2 h3 h4;have hl:l.length=n:=by rw[←hn];simp
  refine⟨by rw[hfl,hl],fun _=>⟨_,rfl,hb,fun j u hu=> ?_⟩⟩;have hj:j<l.length*size:=by rw[←hfl];exact(List.getElem?_eq_some_iff.1 hu).1
  have hi:j/size<l.length:=Nat.div_lt_of_lt_mul (by rw[Nat.mul_comm];exact hj);have hm:j % size<size:=Nat.mod_lt _ hz;have hx:l[j/size]? =some l[j/size]:=List.getElem?_eq_getElem hi;have hr:=zeH (size:=size) (l.map vs) (fun e he=>by obtain⟨x,_,rfl⟩:=List.mem_map.1 he;exact hs x) (j/size) (j % size) (vs l[j/size]) (by rw[List.getElem?_map,hx];rfl) hm;rw[Nat.div_add_mod' j size,hu] at hr;have he:(l.map cells)[j/size]? =some (cells l[j/size]):=by rw[List.getElem?_map,hx];rfl
  have hd:(cells l[j/size])[j % size]? =some (.leaf u):=by rw[hc,List.getElem?_map,←hr];rfl
  have h5:=hc' _ _ _ _ he hd;have h6:=(hdd _ _ _ _ he hd).leaf_eq;rw[h6,Nat.add_assoc,Nat.div_add_mod' j size] at h5;refine Eq.trans ?_ h5
  congr 1
  unfold Addr.add
  split
  ·rename_i h;rw[h];rfl
  ·simp
def zbS {α:Type} (size:Nat) (ms:List (List Value)) (E:Elt α) (W:World) (l:List α) (e:Ending) (w':World):Prop:= ∃u,e= .returned u∧LL size ms E w' (fun b=>W.heap.size≤b) u l∧Below W.heap.size W w'
theorem zbS.mk {α:Type} {size:Nat} {ms:List (List Value)} {E:Elt α} {W:World} {l:List α} {e:Ending} {w':World} (u:Value) (he:e= .returned u) (h:LL size ms E w' (fun b=>W.heap.size≤b) u l) (hb:Below W.heap.size W w'):zbS size ms E W l e w':=⟨u,he,h,hb⟩
def zar (f:Nat→List Value):List (List Value):=(List.range 12).map f
theorem zkl:(prog.info? 3).map (fun i=>(i.zero,i.size,i.bytes))=some (some (.int .i64 0),1,8):=by kernel_rfl
def zde (i:Nat):List Value:=[.int .i64 (mkI 1 (i:Int))]
theorem zoB (n:Nat) (h:n≤1000000) (W:World):(Instr.makeSlice 45 (.int .i64 0) (.int .i64 ((n:Int)+12))).run prog W= .ok (.slice (some ⟨W.heap.size,0,none⟩) 0 (n+12)) (W.alloc (.cells (madeCells #[.int .i64 0] (n+12)) 3)):=by
 obtain⟨i0,hi,hz0,hz1,hz2⟩:=info_parts zkl;have:=run_make (P:=prog) W 45 3 i0 (.int .i64 0) underlying45 hi hz0 .i64 .i64 0 ((n:Int)+12) (by omega) (by omega) (by rw[hz2];omega) (by omega);rw[hz1,Nat.mul_one,show((n:Int)+12).toNat=n+12 by omega] at this;exact this
def zct (x:Int):List Value:=[.int .i64 x]
theorem zkh: ∀x,∀u∈zct x,u.oneCell'=true:=fun x u hu=>by
 simp only[zct,List.mem_singleton] at hu;subst hu
 rfl
theorem zbm:zcm (EF zct) 1 (fun n:Int=>[lI n]):=zfw (fun _=>rfl) (fun _=>rfl) zkh
theorem zhO (v:Value) (l:List Int) (w:World) (hv:Hid (DAt w (fun _=>True) v (.row 1 (zah l)))) (hn:l.length≤1000000):
 Calls prog 275 #[v] w fun e w'=>zbS 1 (zar zde) (EF zct) w l e w':=by
 obtain⟨i0,hi0,hz0,hz1,hz2⟩:=info_parts zkl;obtain⟨A,q,rfl, -⟩:=hv.out.slice;rw[show(zah l).length=l.length by simp[zah]] at hv ⊢;have hmk:=fun W=>zoB l.length hn W
 have HOW0:=zaa (World.ownsRow_made (base:=w.heap.size) (e:=3) (size:=1) w (madeCells #[.int .i64 0] (l.length+12)) (l.length+12) (Nat.le_refl _) (by unfold maxLen;omega) (by simp[madeCells]));have HRD:=zaa (zbC (vs:=zct) (cells:=(fun n:Int=>[lI n])) (fun _=>rfl) (fun _=>rfl) (by decide) (hv.out.later ((Below.refl w.heap.size w).alloc (Nat.le_refl _) (.cells (madeCells #[.int .i64 0] (l.length+12)) 3))));have HON:Hid (∀u∈(l.map zct).flatten,u.oneCell'=true):=zaa (fun u hu=>by
  obtain⟨e,he,hu⟩:=List.mem_flatten.1 hu;obtain⟨x,_,rfl⟩:=List.mem_map.1 he;exact zkh x u hu)
 go_enter func275,ntmps275
 go_wp2_with(at_builtin;apply Hid.out)
 refine zaa ?_;refine zaw _ rfl _ _ 45 rfl w.heap.size 3 i0 _ 1 8 underlying45 hi0 hz0 hz1 hz2 rfl (by decide) _ 0 [] rfl HOW0.out _ A l.length q (l.map zct).flatten rfl HRD.out HON.out (by unfold maxLen;omega) (by omega) (by simp) ?_;intro v1 w1 hown1 hg1 _;have hb1:Below w.heap.size w w1:=((Below.refl _ _).alloc (Nat.le_refl _) _).grown hg1 (by simp) (fun r hr=>(HOW0.out.lt r hr).1);have HO1:=zaa (show w1.ownsRow w.heap.size 3 1 v1 (l.length+0) ((l.map zct++(List.range 0).map zde).flatten) by simpa using hown1);have HB1:=zaa hb1;clear hown1 hb1 hg1 hmk HOW0 HRD hv HON;go_wp2_with fail
 go_loopw [3,4] (fun v3 v4 wr=> ∃k:Nat,k≤12∧v4= .int .i64 k∧wr.ownsRow w.heap.size 3 1 v3 (l.length+k) ((l.map zct++(List.range k).map zde).flatten)∧Below w.heap.size w wr) (fun _ v4 _=>12-(intOf v4).toNat)
 case atStart=>exact⟨0,by omega,rfl,HO1.out,HB1.out⟩
 case round=>
  obtain⟨k,hk,rfl,hown,hbr⟩:=hrel;have HOW:=zaa hown;have HBR:=zaa hbr;clear hown hbr HO1 HB1;by_cases hlt:k<12
  ·have HM:=zaa (zbO 1 k wr (by omega) (by omega) (by omega) (by omega))
   generalize hm:mkI 1 (k:Int)=m at HM;have hm2:=zaa hm;clear hm;go_wp2_with fail;refine HM.out.mono ?_;rintro e w3 ⟨rfl,rfl⟩;have HB3:=zaa HBR.out;have HO3:=zaa HOW.out;have hz3:=HB3.out.size;clear HM;go_wp2_with(first
    |(at_builtin;refine wpList_append_own _ rfl _ _ 45 rfl w.heap.size 3 i0 _ 1 8 underlying45 hi0 hz0 hz1 hz2 rfl (by decide) _ _ _ rfl (HO3.out.alloc _) ⟨wr.heap.size,0,none⟩ 1 1 [.int .i64 (m)] rfl rfl (zaS (by simp)) (by simp[Value.oneCell']) (by unfold maxLen;omega) (by omega) (by simp;exact Nat.le_succ_of_le hz3) ?_;intro v' w5 hown' hgrow _))
   have HB5:=zaa (HB3.out.trans (Below.grown ((Below.refl _ wr).alloc hz3 _) hgrow (by simp;exact Nat.le_succ_of_le hz3) (fun g hg=>(zas HO3.out hg).1)));have HO5:=zaa (show w5.ownsRow w.heap.size 3 1 v' (l.length+(k+1)) ((l.map zct++(List.range (k+1)).map zde).flatten) by
    rw[zc7,show zde k=[.int .i64 (m)] from by unfold zde;rw[hm2.out]];exact hown')
   clear hown' hgrow;go_wp2_with fail;go_roundw
   case rel=>exact⟨k+1,by omega,by go_num,HO5.out,HB5.out⟩
   case measure=>simp[intOf];omega
  ·obtain rfl:k=12:=by omega
   have HLB:LB (EF zct) wr w.heap.size 3 1 _ l (l.map zct++zar zde):=⟨by
    have e:(l.map zct++zar zde).length=l.length+12:=by simp[zar]
    rw[e];exact HOW.out,fun i r x hr hx=>by
    rw[List.getElem?_append_left (by rw[List.length_map];exact(List.getElem?_eq_some_iff.1 hx).1),List.getElem?_map,hx] at hr;exact(Option.some.inj hr).symm⟩
   obtain⟨g,c,hvv,hc1,hc2,hLL⟩:=HLB.lent zbm (by simp) (by simp[zar]);have HL:=zaa hLL;subst hvv;unfold maxLen at hc2;clear HLB hLL HOW;go_wp2_with fail;go_ret;exact zbS.mk _ rfl HL.out HBR.out
theorem zjE:(prog.info? 9).map (fun i=>(i.zero,i.size,i.bytes))=some (some (.string ⟨#[]⟩),1,16):=by kernel_rfl
def zdA (i:Nat):List Value:=[.string (mkS i)]
theorem zoI (n:Nat) (h:n≤1000000) (W:World):(Instr.makeSlice 63 (.int .i64 0) (.int .i64 ((n:Int)+12))).run prog W= .ok (.slice (some ⟨W.heap.size,0,none⟩) 0 (n+12)) (W.alloc (.cells (madeCells #[.string ⟨#[]⟩] (n+12)) 9)):=by
 obtain⟨i0,hi,hz0,hz1,hz2⟩:=info_parts zjE;have:=run_make (P:=prog) W 63 9 i0 (.string ⟨#[]⟩) underlying63 hi hz0 .i64 .i64 0 ((n:Int)+12) (by omega) (by omega) (by rw[hz2];omega) (by omega);rw[hz1,Nat.mul_one,show((n:Int)+12).toNat=n+12 by omega] at this;exact this
def zcH (x:List UInt8):List Value:=[zav x]
theorem zjD: ∀x,∀u∈zcH x,u.oneCell'=true:=fun x u hu=>by
 simp only[zcH,List.mem_singleton] at hu;subst hu
 rfl
theorem zdS:zcm (EF zcH) 1 (fun s:List UInt8=>[lS s]):=zfw (fun _=>rfl) (fun _=>rfl) zjD
theorem zlF (v:Value) (l:List (List UInt8)) (w:World) (hv:Hid (DAt w (fun _=>True) v (.row 1 (zao l)))) (hn:l.length≤1000000):
 Calls prog 197 #[v] w fun e w'=>zbS 1 (zar zdA) (EF zcH) w l e w':=by
 obtain⟨i0,hi0,hz0,hz1,hz2⟩:=info_parts zjE;obtain⟨A,q,rfl, -⟩:=hv.out.slice;rw[show(zao l).length=l.length by simp[zao]] at hv ⊢;have hmk:=fun W=>zoI l.length hn W
 have HOW0:=zaa (World.ownsRow_made (base:=w.heap.size) (e:=9) (size:=1) w (madeCells #[.string ⟨#[]⟩] (l.length+12)) (l.length+12) (Nat.le_refl _) (by unfold maxLen;omega) (by simp[madeCells]));have HRD:=zaa (zbC (vs:=zcH) (cells:=(fun s:List UInt8=>[lS s])) (fun _=>rfl) (fun _=>rfl) (by decide) (hv.out.later ((Below.refl w.heap.size w).alloc (Nat.le_refl _) (.cells (madeCells #[.string ⟨#[]⟩] (l.length+12)) 9))));have HON:Hid (∀u∈(l.map zcH).flatten,u.oneCell'=true):=zaa (fun u hu=>by
  obtain⟨e,he,hu⟩:=List.mem_flatten.1 hu;obtain⟨x,_,rfl⟩:=List.mem_map.1 he;exact zjD x u hu)
 go_enter func197,ntmps197
 go_wp2_with(at_builtin;apply Hid.out)
 refine zaa ?_;refine zaw _ rfl _ _ 63 rfl w.heap.size 9 i0 _ 1 16 underlying63 hi0 hz0 hz1 hz2 rfl (by decide) _ 0 [] rfl HOW0.out _ A l.length q (l.map zcH).flatten rfl HRD.out HON.out (by unfold maxLen;omega) (by omega) (by simp) ?_;intro v1 w1 hown1 hg1 _;have hb1:Below w.heap.size w w1:=((Below.refl _ _).alloc (Nat.le_refl _) _).grown hg1 (by simp) (fun r hr=>(HOW0.out.lt r hr).1);have HO1:=zaa (show w1.ownsRow w.heap.size 9 1 v1 (l.length+0) ((l.map zcH++(List.range 0).map zdA).flatten) by simpa using hown1);have HB1:=zaa hb1;clear hown1 hb1 hg1 hmk HOW0 HRD hv HON;go_wp2_with fail
 go_loopw [3,4] (fun v3 v4 wr=> ∃k:Nat,k≤12∧v4= .int .i64 k∧wr.ownsRow w.heap.size 9 1 v3 (l.length+k) ((l.map zcH++(List.range k).map zdA).flatten)∧Below w.heap.size w wr) (fun _ v4 _=>12-(intOf v4).toNat)
 case atStart=>exact⟨0,by omega,rfl,HO1.out,HB1.out⟩
 case round=>
  obtain⟨k,hk,rfl,hown,hbr⟩:=hrel;have HOW:=zaa hown;have HBR:=zaa hbr;clear hown hbr HO1 HB1;by_cases hlt:k<12
  ·have HM:=zaa (zb8 k wr hlt)
   generalize hm:mkS k=m at HM;have hm2:=zaa hm;clear hm;go_wp2_with fail;refine HM.out.mono ?_;rintro e w3 ⟨rfl,hb3⟩;have HB3:=zaa (btZ HBR.out hb3);have HO3:=zaa (zaJ HOW.out (fun g hg _=>hb3.block g (zas HOW.out hg).2));have hz3:=HB3.out.size;clear hb3 HM;go_wp2_with(first
    |(at_builtin;refine wpList_append_own _ rfl _ _ 63 rfl w.heap.size 9 i0 _ 1 16 underlying63 hi0 hz0 hz1 hz2 rfl (by decide) _ _ _ rfl (HO3.out.alloc _) ⟨w3.heap.size,0,none⟩ 1 1 [.string (m)] rfl rfl (zaS (by simp)) (by simp[Value.oneCell']) (by unfold maxLen;omega) (by omega) (by simp;exact Nat.le_succ_of_le hz3) ?_;intro v' w5 hown' hgrow _))
   have HB5:=zaa (HB3.out.trans (Below.grown ((Below.refl _ w3).alloc hz3 _) hgrow (by simp;exact Nat.le_succ_of_le hz3) (fun g hg=>(zas HO3.out hg).1)));have HO5:=zaa (show w5.ownsRow w.heap.size 9 1 v' (l.length+(k+1)) ((l.map zcH++(List.range (k+1)).map zdA).flatten) by
    rw[zc7,show zdA k=[.string (m)] from by unfold zdA;rw[hm2.out]];exact hown')
   clear hown' hgrow;go_wp2_with fail;go_roundw
   case rel=>exact⟨k+1,by omega,by go_num,HO5.out,HB5.out⟩
   case measure=>simp[intOf];omega
  ·obtain rfl:k=12:=by omega
   have HLB:LB (EF zcH) wr w.heap.size 9 1 _ l (l.map zcH++zar zdA):=⟨by
    have e:(l.map zcH++zar zdA).length=l.length+12:=by simp[zar]
    rw[e];exact HOW.out,fun i r x hr hx=>by
    rw[List.getElem?_append_left (by rw[List.length_map];exact(List.getElem?_eq_some_iff.1 hx).1),List.getElem?_map,hx] at hr;exact(Option.some.inj hr).symm⟩
   obtain⟨g,c,hvv,hc1,hc2,hLL⟩:=HLB.lent zdS (by simp) (by simp[zar]);have HL:=zaa hLL;subst hvv;unfold maxLen at hc2;clear HLB hLL HOW;go_wp2_with fail;go_ret;exact zbS.mk _ rfl HL.out HBR.out
theorem zji:(prog.info? 78).map (fun i=>(i.zero,i.size,i.bytes))=some (some (.agg #[.int .u8 0,.int .i64 0,.int .i64 0,.int .i64 0]),4,32):=by kernel_rfl
def zdD (i:Nat):List Value:=[.int .u8 0,.int .i64 (mkI 1 (i:Int)),.int .i64 0,.int .i64 0]
theorem znS (n:Nat) (h:n≤1000000) (W:World):(Instr.makeSlice 35 (.int .i64 0) (.int .i64 ((n:Int)+12))).run prog W= .ok (.slice (some ⟨W.heap.size,0,none⟩) 0 (n+12)) (W.alloc (.cells (madeCells (Value.cells (.agg #[.int .u8 0,.int .i64 0,.int .i64 0,.int .i64 0])) ((n+12)*4)) 78)):=by
 obtain⟨i0,hi,hz0,hz1,hz2⟩:=info_parts zji;have:=run_make (P:=prog) W 35 78 i0 (.agg #[.int .u8 0,.int .i64 0,.int .i64 0,.int .i64 0]) underlying35 hi hz0 .i64 .i64 0 ((n:Int)+12) (by omega) (by omega) (by rw[hz2];omega) (by omega);rw[hz1,show((n:Int)+12).toNat=n+12 by omega] at this;exact this
def zcC (x:zb3):List Value:=[.int .u8 (x.op:Int),.int .i64 x.a,.int .i64 x.b,.int .i64 x.c]
theorem zkw: ∀x,∀u∈zcC x,u.oneCell'=true:=fun x u hu=>by
 simp only[zcC,List.mem_cons,List.not_mem_nil,or_false] at hu;rcases hu with rfl|rfl|rfl|rfl<;>rfl
theorem zdT:zcm (EF zcC) 4 zb3.cells:=zfw (fun _=>rfl) (fun _=>rfl) zkw
theorem zkR (v:Value) (l:List zb3) (w:World) (hv:Hid (DAt w (fun _=>True) v (.row 4 (l.map zb3.cells)))) (hn:l.length≤1000000):
 Calls prog 22 #[v] w fun e w'=>zbS 4 (zar zdD) (EF zcC) w l e w':=by
 obtain⟨i0,hi0,hz0,hz1,hz2⟩:=info_parts zji;obtain⟨A,q,rfl, -⟩:=hv.out.slice;rw[List.length_map] at hv ⊢;have hmk:=fun W=>znS l.length hn W
 have HOW0:=zaa (World.ownsRow_made (base:=w.heap.size) (e:=78) (size:=4) w (madeCells (Value.cells (.agg #[.int .u8 0,.int .i64 0,.int .i64 0,.int .i64 0])) ((l.length+12)*4)) (l.length+12) (Nat.le_refl _) (by unfold maxLen;omega) (by simp[madeCells]));have HRD:=zaa (zbC (vs:=zcC) (cells:=zb3.cells) (fun _=>rfl) (fun _=>rfl) (by decide) (hv.out.later ((Below.refl w.heap.size w).alloc (Nat.le_refl _) (.cells (madeCells (Value.cells (.agg #[.int .u8 0,.int .i64 0,.int .i64 0,.int .i64 0])) ((l.length+12)*4)) 78))));have HON:Hid (∀u∈(l.map zcC).flatten,u.oneCell'=true):=zaa (fun u hu=>by
  obtain⟨e,he,hu⟩:=List.mem_flatten.1 hu;obtain⟨x,_,rfl⟩:=List.mem_map.1 he;exact zkw x u hu)
 go_enter func22,ntmps22
 go_wp2_with(at_builtin;apply Hid.out)
 refine zaa ?_;refine zaw _ rfl _ _ 35 rfl w.heap.size 78 i0 _ 4 32 underlying35 hi0 hz0 hz1 hz2 rfl (by decide) _ 0 [] rfl HOW0.out _ A l.length q (l.map zcC).flatten rfl HRD.out HON.out (by unfold maxLen;omega) (by omega) (by simp) ?_;intro v1 w1 hown1 hg1 _;have hb1:Below w.heap.size w w1:=((Below.refl _ _).alloc (Nat.le_refl _) _).grown hg1 (by simp) (fun r hr=>(HOW0.out.lt r hr).1);have HO1:=zaa (show w1.ownsRow w.heap.size 78 4 v1 (l.length+0) ((l.map zcC++(List.range 0).map zdD).flatten) by simpa using hown1);have HB1:=zaa hb1;clear hown1 hb1 hg1 hmk HOW0 HRD hv HON;go_wp2_with fail
 go_loopw [3,4] (fun v3 v4 wr=> ∃k:Nat,k≤12∧v4= .int .i64 k∧wr.ownsRow w.heap.size 78 4 v3 (l.length+k) ((l.map zcC++(List.range k).map zdD).flatten)∧Below w.heap.size w wr) (fun _ v4 _=>12-(intOf v4).toNat)
 case atStart=>exact⟨0,by omega,rfl,HO1.out,HB1.out⟩
 case round=>
  obtain⟨k,hk,rfl,hown,hbr⟩:=hrel;have HOW:=zaa hown;have HBR:=zaa hbr;clear hown hbr HO1 HB1;by_cases hlt:k<12
  ·have HM:=zaa (zob k wr hlt)
   generalize hm:mkI 1 (k:Int)=m at HM;have hm2:=zaa hm;clear hm;go_wp2_with fail;refine HM.out.mono ?_;rintro e w3 ⟨rfl,hb3⟩;have HB3:=zaa (btZ HBR.out hb3);have HO3:=zaa (zaJ HOW.out (fun g hg _=>hb3.block g (zas HOW.out hg).2));have hz3:=HB3.out.size;clear hb3 HM;go_wp2_with(first
    |(at_builtin;refine wpList_append_own _ rfl _ _ 35 rfl w.heap.size 78 i0 _ 4 32 underlying35 hi0 hz0 hz1 hz2 rfl (by decide) _ _ _ rfl (HO3.out.alloc _) ⟨w3.heap.size,0,none⟩ 1 1 [.int .u8 0,.int .i64 (m),.int .i64 0,.int .i64 0] rfl rfl (zaS (by simp)) (by simp[Value.oneCell']) (by unfold maxLen;omega) (by omega) (by simp;exact Nat.le_succ_of_le hz3) ?_;intro v' w5 hown' hgrow _))
   have HB5:=zaa (HB3.out.trans (Below.grown ((Below.refl _ w3).alloc hz3 _) hgrow (by simp;exact Nat.le_succ_of_le hz3) (fun g hg=>(zas HO3.out hg).1)));have HO5:=zaa (show w5.ownsRow w.heap.size 78 4 v' (l.length+(k+1)) ((l.map zcC++(List.range (k+1)).map zdD).flatten) by
    rw[zc7,show zdD k=[.int .u8 0,.int .i64 (m),.int .i64 0,.int .i64 0] from by unfold zdD;rw[hm2.out]];exact hown')
   clear hown' hgrow;go_wp2_with fail;go_roundw
   case rel=>exact⟨k+1,by omega,by go_num,HO5.out,HB5.out⟩
   case measure=>simp[intOf];omega
  ·obtain rfl:k=12:=by omega
   have HLB:LB (EF zcC) wr w.heap.size 78 4 _ l (l.map zcC++zar zdD):=⟨by
    have e:(l.map zcC++zar zdD).length=l.length+12:=by simp[zar]
    rw[e];exact HOW.out,fun i r x hr hx=>by
    rw[List.getElem?_append_left (by rw[List.length_map];exact(List.getElem?_eq_some_iff.1 hx).1),List.getElem?_map,hx] at hr;exact(Option.some.inj hr).symm⟩
   obtain⟨g,c,hvv,hc1,hc2,hLL⟩:=HLB.lent zdT (by simp) (by simp[zar]);have HL:=zaa hLL;subst hvv;unfold maxLen at hc2;clear HLB hLL HOW;go_wp2_with fail;go_ret;exact zbS.mk _ rfl HL.out HBR.out
theorem zjU:(prog.info? 67).map (fun i=>(i.zero,i.size,i.bytes))=some (some (.agg #[.string ⟨#[]⟩,.int .i64 0]),2,24):=by kernel_rfl
def zdx (i:Nat):List Value:=[.string ⟨#[]⟩,.int .i64 (mkI 1 (i:Int))]
theorem znV (n:Nat) (h:n≤1000000) (W:World):(Instr.makeSlice 62 (.int .i64 0) (.int .i64 ((n:Int)+12))).run prog W= .ok (.slice (some ⟨W.heap.size,0,none⟩) 0 (n+12)) (W.alloc (.cells (madeCells (Value.cells (.agg #[.string ⟨#[]⟩,.int .i64 0])) ((n+12)*2)) 67)):=by
 obtain⟨i0,hi,hz0,hz1,hz2⟩:=info_parts zjU;have:=run_make (P:=prog) W 62 67 i0 (.agg #[.string ⟨#[]⟩,.int .i64 0]) underlying62 hi hz0 .i64 .i64 0 ((n:Int)+12) (by omega) (by omega) (by rw[hz2];omega) (by omega);rw[hz1,show((n:Int)+12).toNat=n+12 by omega] at this;exact this
def zcG (x:zcu):List Value:=[zav x.unit,.int .i64 x.code]
theorem zko: ∀x,∀u∈zcG x,u.oneCell'=true:=fun x u hu=>by
 simp only[zcG,List.mem_cons,List.not_mem_nil,or_false] at hu;rcases hu with rfl|rfl<;>rfl
theorem zdh:zcm (EF zcG) 2 zcu.cells:=zfw (fun _=>rfl) (fun _=>rfl) zko
theorem zme (v:Value) (l:List zcu) (w:World) (hv:Hid (DAt w (fun _=>True) v (.row 2 (l.map zcu.cells)))) (hn:l.length≤1000000):
 Calls prog 196 #[v] w fun e w'=>zbS 2 (zar zdx) (EF zcG) w l e w':=by
 obtain⟨i0,hi0,hz0,hz1,hz2⟩:=info_parts zjU;obtain⟨A,q,rfl, -⟩:=hv.out.slice;rw[List.length_map] at hv ⊢;have hmk:=fun W=>znV l.length hn W
 have HOW0:=zaa (World.ownsRow_made (base:=w.heap.size) (e:=67) (size:=2) w (madeCells (Value.cells (.agg #[.string ⟨#[]⟩,.int .i64 0])) ((l.length+12)*2)) (l.length+12) (Nat.le_refl _) (by unfold maxLen;omega) (by simp[madeCells]));have HRD:=zaa (zbC (vs:=zcG) (cells:=zcu.cells) (fun _=>rfl) (fun _=>rfl) (by decide) (hv.out.later ((Below.refl w.heap.size w).alloc (Nat.le_refl _) (.cells (madeCells (Value.cells (.agg #[.string ⟨#[]⟩,.int .i64 0])) ((l.length+12)*2)) 67))));have HON:Hid (∀u∈(l.map zcG).flatten,u.oneCell'=true):=zaa (fun u hu=>by
  obtain⟨e,he,hu⟩:=List.mem_flatten.1 hu;obtain⟨x,_,rfl⟩:=List.mem_map.1 he;exact zko x u hu)
 go_enter func196,ntmps196
 go_wp2_with(at_builtin;apply Hid.out)
 refine zaa ?_;refine zaw _ rfl _ _ 62 rfl w.heap.size 67 i0 _ 2 24 underlying62 hi0 hz0 hz1 hz2 rfl (by decide) _ 0 [] rfl HOW0.out _ A l.length q (l.map zcG).flatten rfl HRD.out HON.out (by unfold maxLen;omega) (by omega) (by simp) ?_;intro v1 w1 hown1 hg1 _;have hb1:Below w.heap.size w w1:=((Below.refl _ _).alloc (Nat.le_refl _) _).grown hg1 (by simp) (fun r hr=>(HOW0.out.lt r hr).1);have HO1:=zaa (show w1.ownsRow w.heap.size 67 2 v1 (l.length+0) ((l.map zcG++(List.range 0).map zdx).flatten) by simpa using hown1);have HB1:=zaa hb1;clear hown1 hb1 hg1 hmk HOW0 HRD hv HON;go_wp2_with fail
 go_loopw [3,4] (fun v3 v4 wr=> ∃k:Nat,k≤12∧v4= .int .i64 k∧wr.ownsRow w.heap.size 67 2 v3 (l.length+k) ((l.map zcG++(List.range k).map zdx).flatten)∧Below w.heap.size w wr) (fun _ v4 _=>12-(intOf v4).toNat)
 case atStart=>exact⟨0,by omega,rfl,HO1.out,HB1.out⟩
 case round=>
  obtain⟨k,hk,rfl,hown,hbr⟩:=hrel;have HOW:=zaa hown;have HBR:=zaa hbr;clear hown hbr HO1 HB1;by_cases hlt:k<12
  ·have HM:=zaa (znR k wr hlt)
   generalize hm:mkI 1 (k:Int)=m at HM;have hm2:=zaa hm;clear hm;go_wp2_with fail;refine HM.out.mono ?_;rintro e w3 ⟨rfl,hb3⟩;have HB3:=zaa (btZ HBR.out hb3);have HO3:=zaa (zaJ HOW.out (fun g hg _=>hb3.block g (zas HOW.out hg).2));have hz3:=HB3.out.size;clear hb3 HM;go_wp2_with(first
    |(at_builtin;refine wpList_append_own _ rfl _ _ 62 rfl w.heap.size 67 i0 _ 2 24 underlying62 hi0 hz0 hz1 hz2 rfl (by decide) _ _ _ rfl (HO3.out.alloc _) ⟨w3.heap.size,0,none⟩ 1 1 [.string ⟨#[]⟩,.int .i64 (m)] rfl rfl (zaS (by simp)) (by simp[Value.oneCell']) (by unfold maxLen;omega) (by omega) (by simp;exact Nat.le_succ_of_le hz3) ?_;intro v' w5 hown' hgrow _))
   have HB5:=zaa (HB3.out.trans (Below.grown ((Below.refl _ w3).alloc hz3 _) hgrow (by simp;exact Nat.le_succ_of_le hz3) (fun g hg=>(zas HO3.out hg).1)));have HO5:=zaa (show w5.ownsRow w.heap.size 67 2 v' (l.length+(k+1)) ((l.map zcG++(List.range (k+1)).map zdx).flatten) by
    rw[zc7,show zdx k=[.string ⟨#[]⟩,.int .i64 (m)] from by unfold zdx;rw[hm2.out]];exact hown')
   clear hown' hgrow;go_wp2_with fail;go_roundw
   case rel=>exact⟨k+1,by omega,by go_num,HO5.out,HB5.out⟩
   case measure=>simp[intOf];omega
  ·obtain rfl:k=12:=by omega
   have HLB:LB (EF zcG) wr w.heap.size 67 2 _ l (l.map zcG++zar zdx):=⟨by
    have e:(l.map zcG++zar zdx).length=l.length+12:=by simp[zar]
    rw[e];exact HOW.out,fun i r x hr hx=>by
    rw[List.getElem?_append_left (by rw[List.length_map];exact(List.getElem?_eq_some_iff.1 hx).1),List.getElem?_map,hx] at hr;exact(Option.some.inj hr).symm⟩
   obtain⟨g,c,hvv,hc1,hc2,hLL⟩:=HLB.lent zdh (by simp) (by simp[zar]);have HL:=zaa hLL;subst hvv;unfold maxLen at hc2;clear HLB hLL HOW;go_wp2_with fail;go_ret;exact zbS.mk _ rfl HL.out HBR.out
theorem zkd:(prog.info? 55).map (fun i=>(i.zero,i.size,i.bytes))=some (some (.agg #[.string ⟨#[]⟩,.string ⟨#[]⟩,.string ⟨#[]⟩]),3,48):=by kernel_rfl
def zdm (i:Nat):List Value:=[.string ⟨#[]⟩,.string ⟨#[]⟩,.string (mkS i)]
theorem zoa (n:Nat) (h:n≤1000000) (W:World):(Instr.makeSlice 56 (.int .i64 0) (.int .i64 ((n:Int)+12))).run prog W= .ok (.slice (some ⟨W.heap.size,0,none⟩) 0 (n+12)) (W.alloc (.cells (madeCells (Value.cells (.agg #[.string ⟨#[]⟩,.string ⟨#[]⟩,.string ⟨#[]⟩])) ((n+12)*3)) 55)):=by
 obtain⟨i0,hi,hz0,hz1,hz2⟩:=info_parts zkd;have:=run_make (P:=prog) W 56 55 i0 (.agg #[.string ⟨#[]⟩,.string ⟨#[]⟩,.string ⟨#[]⟩]) underlying56 hi hz0 .i64 .i64 0 ((n:Int)+12) (by omega) (by omega) (by rw[hz2];omega) (by omega);rw[hz1,show((n:Int)+12).toNat=n+12 by omega] at this;exact this
def zcr (x:zb7):List Value:=[zav x.m,zav x.p,zav x.o]
theorem zjA: ∀x,∀u∈zcr x,u.oneCell'=true:=fun x u hu=>by
 simp only[zcr,List.mem_cons,List.not_mem_nil,or_false] at hu;rcases hu with rfl|rfl|rfl<;>rfl
theorem zcd:zcm (EF zcr) 3 zb7.cells:=zfw (fun _=>rfl) (fun _=>rfl) zjA
theorem zhy (v:Value) (l:List zb7) (w:World) (hv:Hid (DAt w (fun _=>True) v (.row 3 (l.map zb7.cells)))) (hn:l.length≤1000000):
 Calls prog 194 #[v] w fun e w'=>zbS 3 (zar zdm) (EF zcr) w l e w':=by
 obtain⟨i0,hi0,hz0,hz1,hz2⟩:=info_parts zkd;obtain⟨A,q,rfl, -⟩:=hv.out.slice;rw[List.length_map] at hv ⊢;have hmk:=fun W=>zoa l.length hn W
 have HOW0:=zaa (World.ownsRow_made (base:=w.heap.size) (e:=55) (size:=3) w (madeCells (Value.cells (.agg #[.string ⟨#[]⟩,.string ⟨#[]⟩,.string ⟨#[]⟩])) ((l.length+12)*3)) (l.length+12) (Nat.le_refl _) (by unfold maxLen;omega) (by simp[madeCells]));have HRD:=zaa (zbC (vs:=zcr) (cells:=zb7.cells) (fun _=>rfl) (fun _=>rfl) (by decide) (hv.out.later ((Below.refl w.heap.size w).alloc (Nat.le_refl _) (.cells (madeCells (Value.cells (.agg #[.string ⟨#[]⟩,.string ⟨#[]⟩,.string ⟨#[]⟩])) ((l.length+12)*3)) 55))));have HON:Hid (∀u∈(l.map zcr).flatten,u.oneCell'=true):=zaa (fun u hu=>by
  obtain⟨e,he,hu⟩:=List.mem_flatten.1 hu;obtain⟨x,_,rfl⟩:=List.mem_map.1 he;exact zjA x u hu)
 go_enter func194,ntmps194
 go_wp2_with(at_builtin;apply Hid.out)
 refine zaa ?_;refine zaw _ rfl _ _ 56 rfl w.heap.size 55 i0 _ 3 48 underlying56 hi0 hz0 hz1 hz2 rfl (by decide) _ 0 [] rfl HOW0.out _ A l.length q (l.map zcr).flatten rfl HRD.out HON.out (by unfold maxLen;omega) (by omega) (by simp) ?_;intro v1 w1 hown1 hg1 _;have hb1:Below w.heap.size w w1:=((Below.refl _ _).alloc (Nat.le_refl _) _).grown hg1 (by simp) (fun r hr=>(HOW0.out.lt r hr).1);have HO1:=zaa (show w1.ownsRow w.heap.size 55 3 v1 (l.length+0) ((l.map zcr++(List.range 0).map zdm).flatten) by simpa using hown1);have HB1:=zaa hb1;clear hown1 hb1 hg1 hmk HOW0 HRD hv HON;go_wp2_with fail
 go_loopw [3,4] (fun v3 v4 wr=> ∃k:Nat,k≤12∧v4= .int .i64 k∧wr.ownsRow w.heap.size 55 3 v3 (l.length+k) ((l.map zcr++(List.range k).map zdm).flatten)∧Below w.heap.size w wr) (fun _ v4 _=>12-(intOf v4).toNat)
 case atStart=>exact⟨0,by omega,rfl,HO1.out,HB1.out⟩
 case round=>
  obtain⟨k,hk,rfl,hown,hbr⟩:=hrel;have HOW:=zaa hown;have HBR:=zaa hbr;clear hown hbr HO1 HB1;by_cases hlt:k<12
  ·have HM:=zaa (zn4 k wr hlt)
   generalize hm:mkS k=m at HM;have hm2:=zaa hm;clear hm;go_wp2_with fail;refine HM.out.mono ?_;rintro e w3 ⟨rfl,hb3⟩;have HB3:=zaa (btZ HBR.out hb3);have HO3:=zaa (zaJ HOW.out (fun g hg _=>hb3.block g (zas HOW.out hg).2));have hz3:=HB3.out.size;clear hb3 HM;go_wp2_with(first
    |(at_builtin;refine wpList_append_own _ rfl _ _ 56 rfl w.heap.size 55 i0 _ 3 48 underlying56 hi0 hz0 hz1 hz2 rfl (by decide) _ _ _ rfl (HO3.out.alloc _) ⟨w3.heap.size,0,none⟩ 1 1 [.string ⟨#[]⟩,.string ⟨#[]⟩,.string (m)] rfl rfl (zaS (by simp)) (by simp[Value.oneCell']) (by unfold maxLen;omega) (by omega) (by simp;exact Nat.le_succ_of_le hz3) ?_;intro v' w5 hown' hgrow _))
   have HB5:=zaa (HB3.out.trans (Below.grown ((Below.refl _ w3).alloc hz3 _) hgrow (by simp;exact Nat.le_succ_of_le hz3) (fun g hg=>(zas HO3.out hg).1)));have HO5:=zaa (show w5.ownsRow w.heap.size 55 3 v' (l.length+(k+1)) ((l.map zcr++(List.range (k+1)).map zdm).flatten) by
    rw[zc7,show zdm k=[.string ⟨#[]⟩,.string ⟨#[]⟩,.string (m)] from by unfold zdm;rw[hm2.out]];exact hown')
   clear hown' hgrow;go_wp2_with fail;go_roundw
   case rel=>exact⟨k+1,by omega,by go_num,HO5.out,HB5.out⟩
   case measure=>simp[intOf];omega
  ·obtain rfl:k=12:=by omega
   have HLB:LB (EF zcr) wr w.heap.size 55 3 _ l (l.map zcr++zar zdm):=⟨by
    have e:(l.map zcr++zar zdm).length=l.length+12:=by simp[zar]
    rw[e];exact HOW.out,fun i r x hr hx=>by
    rw[List.getElem?_append_left (by rw[List.length_map];exact(List.getElem?_eq_some_iff.1 hx).1),List.getElem?_map,hx] at hr;exact(Option.some.inj hr).symm⟩
   obtain⟨g,c,hvv,hc1,hc2,hLL⟩:=HLB.lent zcd (by simp) (by simp[zar]);have HL:=zaa hLL;subst hvv;unfold maxLen at hc2;clear HLB hLL HOW;go_wp2_with fail;go_ret;exact zbS.mk _ rfl HL.out HBR.out
theorem zh5:(prog.info? 51).map (fun i=>(i.zero,i.size,i.bytes))=some (some (.agg #[.string ⟨#[]⟩,.int .u8 0,.bool false,.int .i64 0,.int .i64 0,.int .i64 0]),6,48):=by kernel_rfl
def zcz (i:Nat):List Value:=[.string ⟨#[]⟩,.int .u8 0,.bool false,.int .i64 (mkI 1 (i:Int)),.int .i64 0,.int .i64 0]
theorem zmw (n:Nat) (h:n≤1000000) (W:World):(Instr.makeSlice 46 (.int .i64 0) (.int .i64 ((n:Int)+12))).run prog W= .ok (.slice (some ⟨W.heap.size,0,none⟩) 0 (n+12)) (W.alloc (.cells (madeCells (Value.cells (.agg #[.string ⟨#[]⟩,.int .u8 0,.bool false,.int .i64 0,.int .i64 0,.int .i64 0])) ((n+12)*6)) 51)):=by
 obtain⟨i0,hi,hz0,hz1,hz2⟩:=info_parts zh5;have:=run_make (P:=prog) W 46 51 i0 (.agg #[.string ⟨#[]⟩,.int .u8 0,.bool false,.int .i64 0,.int .i64 0,.int .i64 0]) underlying46 hi hz0 .i64 .i64 0 ((n:Int)+12) (by omega) (by omega) (by rw[hz2];omega) (by omega);rw[hz1,show((n:Int)+12).toNat=n+12 by omega] at this;exact this
def zbT (x:zaT):List Value:=[zav x.name,.int .u8 (x.kind:Int),.bool x.out,.int .i64 x.size,.int .i64 x.depth,.int .i64 x.refresh]
theorem zhJ: ∀x,∀u∈zbT x,u.oneCell'=true:=fun x u hu=>by
 simp only[zbT,List.mem_cons,List.not_mem_nil,or_false] at hu;rcases hu with rfl|rfl|rfl|rfl|rfl|rfl<;>rfl
theorem zcj:zcm (EF zbT) 6 zaT.cells:=zfw (fun _=>rfl) (fun _=>rfl) zhJ
theorem zjw (v:Value) (l:List zaT) (w:World) (hv:Hid (DAt w (fun _=>True) v (.row 6 (l.map zaT.cells)))) (hn:l.length≤1000000):
 Calls prog 276 #[v] w fun e w'=>zbS 6 (zar zcz) (EF zbT) w l e w':=by
 obtain⟨i0,hi0,hz0,hz1,hz2⟩:=info_parts zh5;obtain⟨A,q,rfl, -⟩:=hv.out.slice;rw[List.length_map] at hv ⊢;have hmk:=fun W=>zmw l.length hn W
 have HOW0:=zaa (World.ownsRow_made (base:=w.heap.size) (e:=51) (size:=6) w (madeCells (Value.cells (.agg #[.string ⟨#[]⟩,.int .u8 0,.bool false,.int .i64 0,.int .i64 0,.int .i64 0])) ((l.length+12)*6)) (l.length+12) (Nat.le_refl _) (by unfold maxLen;omega) (by simp[madeCells]));have HRD:=zaa (zbC (vs:=zbT) (cells:=zaT.cells) (fun _=>rfl) (fun _=>rfl) (by decide) (hv.out.later ((Below.refl w.heap.size w).alloc (Nat.le_refl _) (.cells (madeCells (Value.cells (.agg #[.string ⟨#[]⟩,.int .u8 0,.bool false,.int .i64 0,.int .i64 0,.int .i64 0])) ((l.length+12)*6)) 51))));have HON:Hid (∀u∈(l.map zbT).flatten,u.oneCell'=true):=zaa (fun u hu=>by
  obtain⟨e,he,hu⟩:=List.mem_flatten.1 hu;obtain⟨x,_,rfl⟩:=List.mem_map.1 he;exact zhJ x u hu)
 go_enter func276,ntmps276
 go_wp2_with(at_builtin;apply Hid.out)
 refine zaa ?_;refine zaw _ rfl _ _ 46 rfl w.heap.size 51 i0 _ 6 48 underlying46 hi0 hz0 hz1 hz2 rfl (by decide) _ 0 [] rfl HOW0.out _ A l.length q (l.map zbT).flatten rfl HRD.out HON.out (by unfold maxLen;omega) (by omega) (by simp) ?_;intro v1 w1 hown1 hg1 _;have hb1:Below w.heap.size w w1:=((Below.refl _ _).alloc (Nat.le_refl _) _).grown hg1 (by simp) (fun r hr=>(HOW0.out.lt r hr).1);have HO1:=zaa (show w1.ownsRow w.heap.size 51 6 v1 (l.length+0) ((l.map zbT++(List.range 0).map zcz).flatten) by simpa using hown1);have HB1:=zaa hb1;clear hown1 hb1 hg1 hmk HOW0 HRD hv HON;go_wp2_with fail
 go_loopw [3,4] (fun v3 v4 wr=> ∃k:Nat,k≤12∧v4= .int .i64 k∧wr.ownsRow w.heap.size 51 6 v3 (l.length+k) ((l.map zbT++(List.range k).map zcz).flatten)∧Below w.heap.size w wr) (fun _ v4 _=>12-(intOf v4).toNat)
 case atStart=>exact⟨0,by omega,rfl,HO1.out,HB1.out⟩
 case round=>
  obtain⟨k,hk,rfl,hown,hbr⟩:=hrel;have HOW:=zaa hown;have HBR:=zaa hbr;clear hown hbr HO1 HB1;by_cases hlt:k<12
  ·have HM:=zaa (zml k wr hlt)
   generalize hm:mkI 1 (k:Int)=m at HM;have hm2:=zaa hm;clear hm;go_wp2_with fail;refine HM.out.mono ?_;rintro e w3 ⟨rfl,hb3⟩;have HB3:=zaa (btZ HBR.out hb3);have HO3:=zaa (zaJ HOW.out (fun g hg _=>hb3.block g (zas HOW.out hg).2));have hz3:=HB3.out.size;clear hb3 HM;go_wp2_with(first
    |(at_builtin;refine wpList_append_own _ rfl _ _ 46 rfl w.heap.size 51 i0 _ 6 48 underlying46 hi0 hz0 hz1 hz2 rfl (by decide) _ _ _ rfl (HO3.out.alloc _) ⟨w3.heap.size,0,none⟩ 1 1 [.string ⟨#[]⟩,.int .u8 0,.bool false,.int .i64 (m),.int .i64 0,.int .i64 0] rfl rfl (zaS (by simp)) (by simp[Value.oneCell']) (by unfold maxLen;omega) (by omega) (by simp;exact Nat.le_succ_of_le hz3) ?_;intro v' w5 hown' hgrow _))
   have HB5:=zaa (HB3.out.trans (Below.grown ((Below.refl _ w3).alloc hz3 _) hgrow (by simp;exact Nat.le_succ_of_le hz3) (fun g hg=>(zas HO3.out hg).1)));have HO5:=zaa (show w5.ownsRow w.heap.size 51 6 v' (l.length+(k+1)) ((l.map zbT++(List.range (k+1)).map zcz).flatten) by
    rw[zc7,show zcz k=[.string ⟨#[]⟩,.int .u8 0,.bool false,.int .i64 (m),.int .i64 0,.int .i64 0] from by unfold zcz;rw[hm2.out]];exact hown')
   clear hown' hgrow;go_wp2_with fail;go_roundw
   case rel=>exact⟨k+1,by omega,by go_num,HO5.out,HB5.out⟩
   case measure=>simp[intOf];omega
  ·obtain rfl:k=12:=by omega
   have HLB:LB (EF zbT) wr w.heap.size 51 6 _ l (l.map zbT++zar zcz):=⟨by
    have e:(l.map zbT++zar zcz).length=l.length+12:=by simp[zar]
    rw[e];exact HOW.out,fun i r x hr hx=>by
    rw[List.getElem?_append_left (by rw[List.length_map];exact(List.getElem?_eq_some_iff.1 hx).1),List.getElem?_map,hx] at hr;exact(Option.some.inj hr).symm⟩
   obtain⟨g,c,hvv,hc1,hc2,hLL⟩:=HLB.lent zcj (by simp) (by simp[zar]);have HL:=zaa hLL;subst hvv;unfold maxLen at hc2;clear HLB hLL HOW;go_wp2_with fail;go_ret;exact zbS.mk _ rfl HL.out HBR.out
theorem zmt:(prog.info? 69).map (fun i=>(i.zero,i.size,i.bytes))=some (some (.agg #[.string ⟨#[]⟩,.int .i64 0,.int .i64 0,.int .i64 0]),4,40):=by kernel_rfl
def zeU (i:Nat):List Value:=[.string ⟨#[]⟩,.int .i64 0,.int .i64 (mkI 1 (i:Int)),.int .i64 0]
theorem zpe (n:Nat) (h:n≤1000000) (W:World):(Instr.makeSlice 24 (.int .i64 0) (.int .i64 ((n:Int)+12))).run prog W= .ok (.slice (some ⟨W.heap.size,0,none⟩) 0 (n+12)) (W.alloc (.cells (madeCells (Value.cells (.agg #[.string ⟨#[]⟩,.int .i64 0,.int .i64 0,.int .i64 0])) ((n+12)*4)) 69)):=by
 obtain⟨i0,hi,hz0,hz1,hz2⟩:=info_parts zmt;have:=run_make (P:=prog) W 24 69 i0 (.agg #[.string ⟨#[]⟩,.int .i64 0,.int .i64 0,.int .i64 0]) underlying24 hi hz0 .i64 .i64 0 ((n:Int)+12) (by omega) (by omega) (by rw[hz2];omega) (by omega);rw[hz1,show((n:Int)+12).toNat=n+12 by omega] at this;exact this
def zd1 (x:SwD):List Value:=[zav x.name,.int .i64 x.net,.int .i64 x.delay,.int .i64 x.store]
theorem zmk: ∀x,∀u∈zd1 x,u.oneCell'=true:=fun x u hu=>by
 simp only[zd1,List.mem_cons,List.not_mem_nil,or_false] at hu;rcases hu with rfl|rfl|rfl|rfl<;>rfl
theorem zda:zcm (EF zd1) 4 SwD.cells:=zfw (fun _=>rfl) (fun _=>rfl) zmk
theorem zmV (v:Value) (l:List SwD) (w:World) (hv:Hid (DAt w (fun _=>True) v (.row 4 (l.map SwD.cells)))) (hn:l.length≤1000000):
 Calls prog 27 #[v] w fun e w'=>zbS 4 (zar zeU) (EF zd1) w l e w':=by
 obtain⟨i0,hi0,hz0,hz1,hz2⟩:=info_parts zmt;obtain⟨A,q,rfl, -⟩:=hv.out.slice;rw[List.length_map] at hv ⊢;have hmk:=fun W=>zpe l.length hn W
 have HOW0:=zaa (World.ownsRow_made (base:=w.heap.size) (e:=69) (size:=4) w (madeCells (Value.cells (.agg #[.string ⟨#[]⟩,.int .i64 0,.int .i64 0,.int .i64 0])) ((l.length+12)*4)) (l.length+12) (Nat.le_refl _) (by unfold maxLen;omega) (by simp[madeCells]));have HRD:=zaa (zbC (vs:=zd1) (cells:=SwD.cells) (fun _=>rfl) (fun _=>rfl) (by decide) (hv.out.later ((Below.refl w.heap.size w).alloc (Nat.le_refl _) (.cells (madeCells (Value.cells (.agg #[.string ⟨#[]⟩,.int .i64 0,.int .i64 0,.int .i64 0])) ((l.length+12)*4)) 69))));have HON:Hid (∀u∈(l.map zd1).flatten,u.oneCell'=true):=zaa (fun u hu=>by
  obtain⟨e,he,hu⟩:=List.mem_flatten.1 hu;obtain⟨x,_,rfl⟩:=List.mem_map.1 he;exact zmk x u hu)
 go_enter func27,ntmps27
 go_wp2_with(at_builtin;apply Hid.out)
 refine zaa ?_;refine zaw _ rfl _ _ 24 rfl w.heap.size 69 i0 _ 4 40 underlying24 hi0 hz0 hz1 hz2 rfl (by decide) _ 0 [] rfl HOW0.out _ A l.length q (l.map zd1).flatten rfl HRD.out HON.out (by unfold maxLen;omega) (by omega) (by simp) ?_;intro v1 w1 hown1 hg1 _;have hb1:Below w.heap.size w w1:=((Below.refl _ _).alloc (Nat.le_refl _) _).grown hg1 (by simp) (fun r hr=>(HOW0.out.lt r hr).1);have HO1:=zaa (show w1.ownsRow w.heap.size 69 4 v1 (l.length+0) ((l.map zd1++(List.range 0).map zeU).flatten) by simpa using hown1);have HB1:=zaa hb1;clear hown1 hb1 hg1 hmk HOW0 HRD hv HON;go_wp2_with fail
 go_loopw [3,4] (fun v3 v4 wr=> ∃k:Nat,k≤12∧v4= .int .i64 k∧wr.ownsRow w.heap.size 69 4 v3 (l.length+k) ((l.map zd1++(List.range k).map zeU).flatten)∧Below w.heap.size w wr) (fun _ v4 _=>12-(intOf v4).toNat)
 case atStart=>exact⟨0,by omega,rfl,HO1.out,HB1.out⟩
 case round=>
  obtain⟨k,hk,rfl,hown,hbr⟩:=hrel;have HOW:=zaa hown;have HBR:=zaa hbr;clear hown hbr HO1 HB1;by_cases hlt:k<12
  ·have HM:=zaa (m_sw k wr hlt)
   generalize hm:mkI 1 (k:Int)=m at HM;have hm2:=zaa hm;clear hm;go_wp2_with fail;refine HM.out.mono ?_;rintro e w3 ⟨rfl,hb3⟩;have HB3:=zaa (btZ HBR.out hb3);have HO3:=zaa (zaJ HOW.out (fun g hg _=>hb3.block g (zas HOW.out hg).2));have hz3:=HB3.out.size;clear hb3 HM;go_wp2_with(first
    |(at_builtin;refine wpList_append_own _ rfl _ _ 24 rfl w.heap.size 69 i0 _ 4 40 underlying24 hi0 hz0 hz1 hz2 rfl (by decide) _ _ _ rfl (HO3.out.alloc _) ⟨w3.heap.size,0,none⟩ 1 1 [.string ⟨#[]⟩,.int .i64 0,.int .i64 (m),.int .i64 0] rfl rfl (zaS (by simp)) (by simp[Value.oneCell']) (by unfold maxLen;omega) (by omega) (by simp;exact Nat.le_succ_of_le hz3) ?_;intro v' w5 hown' hgrow _))
   have HB5:=zaa (HB3.out.trans (Below.grown ((Below.refl _ w3).alloc hz3 _) hgrow (by simp;exact Nat.le_succ_of_le hz3) (fun g hg=>(zas HO3.out hg).1)));have HO5:=zaa (show w5.ownsRow w.heap.size 69 4 v' (l.length+(k+1)) ((l.map zd1++(List.range (k+1)).map zeU).flatten) by
    rw[zc7,show zeU k=[.string ⟨#[]⟩,.int .i64 0,.int .i64 (m),.int .i64 0] from by unfold zeU;rw[hm2.out]];exact hown')
   clear hown' hgrow;go_wp2_with fail;go_roundw
   case rel=>exact⟨k+1,by omega,by go_num,HO5.out,HB5.out⟩
   case measure=>simp[intOf];omega
  ·obtain rfl:k=12:=by omega
   have HLB:LB (EF zd1) wr w.heap.size 69 4 _ l (l.map zd1++zar zeU):=⟨by
    have e:(l.map zd1++zar zeU).length=l.length+12:=by simp[zar]
    rw[e];exact HOW.out,fun i r x hr hx=>by
    rw[List.getElem?_append_left (by rw[List.length_map];exact(List.getElem?_eq_some_iff.1 hx).1),List.getElem?_map,hx] at hr;exact(Option.some.inj hr).symm⟩
   obtain⟨g,c,hvv,hc1,hc2,hLL⟩:=HLB.lent zda (by simp) (by simp[zar]);have HL:=zaa hLL;subst hvv;unfold maxLen at hc2;clear HLB hLL HOW;go_wp2_with fail;go_ret;exact zbS.mk _ rfl HL.out HBR.out
theorem zhN:(prog.info? 71).map (fun i=>(i.zero,i.size,i.bytes))=some (some (.agg #[.string ⟨#[]⟩,.string ⟨#[]⟩,.int .i64 0,.int .i64 0]),4,48):=by kernel_rfl
def zcx (i:Nat):List Value:=[.string ⟨#[]⟩,.string ⟨#[]⟩,.int .i64 0,.int .i64 (mkI 1 (i:Int))]
theorem zmJ (n:Nat) (h:n≤1000000) (W:World):(Instr.makeSlice 25 (.int .i64 0) (.int .i64 ((n:Int)+12))).run prog W= .ok (.slice (some ⟨W.heap.size,0,none⟩) 0 (n+12)) (W.alloc (.cells (madeCells (Value.cells (.agg #[.string ⟨#[]⟩,.string ⟨#[]⟩,.int .i64 0,.int .i64 0])) ((n+12)*4)) 71)):=by
 obtain⟨i0,hi,hz0,hz1,hz2⟩:=info_parts zhN;have:=run_make (P:=prog) W 25 71 i0 (.agg #[.string ⟨#[]⟩,.string ⟨#[]⟩,.int .i64 0,.int .i64 0]) underlying25 hi hz0 .i64 .i64 0 ((n:Int)+12) (by omega) (by omega) (by rw[hz2];omega) (by omega);rw[hz1,show((n:Int)+12).toNat=n+12 by omega] at this;exact this
def zbV (x:zby):List Value:=[zav x.a,zav x.b,.int .i64 x.net,.int .i64 x.slow]
theorem zhM: ∀x,∀u∈zbV x,u.oneCell'=true:=fun x u hu=>by
 simp only[zbV,List.mem_cons,List.not_mem_nil,or_false] at hu;rcases hu with rfl|rfl|rfl|rfl<;>rfl
theorem zbz:zcm (EF zbV) 4 zby.cells:=zfw (fun _=>rfl) (fun _=>rfl) zhM
theorem zi3 (v:Value) (l:List zby) (w:World) (hv:Hid (DAt w (fun _=>True) v (.row 4 (l.map zby.cells)))) (hn:l.length≤1000000):
 Calls prog 28 #[v] w fun e w'=>zbS 4 (zar zcx) (EF zbV) w l e w':=by
 obtain⟨i0,hi0,hz0,hz1,hz2⟩:=info_parts zhN;obtain⟨A,q,rfl, -⟩:=hv.out.slice;rw[List.length_map] at hv ⊢;have hmk:=fun W=>zmJ l.length hn W
 have HOW0:=zaa (World.ownsRow_made (base:=w.heap.size) (e:=71) (size:=4) w (madeCells (Value.cells (.agg #[.string ⟨#[]⟩,.string ⟨#[]⟩,.int .i64 0,.int .i64 0])) ((l.length+12)*4)) (l.length+12) (Nat.le_refl _) (by unfold maxLen;omega) (by simp[madeCells]));have HRD:=zaa (zbC (vs:=zbV) (cells:=zby.cells) (fun _=>rfl) (fun _=>rfl) (by decide) (hv.out.later ((Below.refl w.heap.size w).alloc (Nat.le_refl _) (.cells (madeCells (Value.cells (.agg #[.string ⟨#[]⟩,.string ⟨#[]⟩,.int .i64 0,.int .i64 0])) ((l.length+12)*4)) 71))));have HON:Hid (∀u∈(l.map zbV).flatten,u.oneCell'=true):=zaa (fun u hu=>by
  obtain⟨e,he,hu⟩:=List.mem_flatten.1 hu;obtain⟨x,_,rfl⟩:=List.mem_map.1 he;exact zhM x u hu)
 go_enter func28,ntmps28
 go_wp2_with(at_builtin;apply Hid.out)
 refine zaa ?_;refine zaw _ rfl _ _ 25 rfl w.heap.size 71 i0 _ 4 48 underlying25 hi0 hz0 hz1 hz2 rfl (by decide) _ 0 [] rfl HOW0.out _ A l.length q (l.map zbV).flatten rfl HRD.out HON.out (by unfold maxLen;omega) (by omega) (by simp) ?_;intro v1 w1 hown1 hg1 _;have hb1:Below w.heap.size w w1:=((Below.refl _ _).alloc (Nat.le_refl _) _).grown hg1 (by simp) (fun r hr=>(HOW0.out.lt r hr).1);have HO1:=zaa (show w1.ownsRow w.heap.size 71 4 v1 (l.length+0) ((l.map zbV++(List.range 0).map zcx).flatten) by simpa using hown1);have HB1:=zaa hb1;clear hown1 hb1 hg1 hmk HOW0 HRD hv HON;go_wp2_with fail
 go_loopw [3,4] (fun v3 v4 wr=> ∃k:Nat,k≤12∧v4= .int .i64 k∧wr.ownsRow w.heap.size 71 4 v3 (l.length+k) ((l.map zbV++(List.range k).map zcx).flatten)∧Below w.heap.size w wr) (fun _ v4 _=>12-(intOf v4).toNat)
 case atStart=>exact⟨0,by omega,rfl,HO1.out,HB1.out⟩
 case round=>
  obtain⟨k,hk,rfl,hown,hbr⟩:=hrel;have HOW:=zaa hown;have HBR:=zaa hbr;clear hown hbr HO1 HB1;by_cases hlt:k<12
  ·have HM:=zaa (zmu k wr hlt)
   generalize hm:mkI 1 (k:Int)=m at HM;have hm2:=zaa hm;clear hm;go_wp2_with fail;refine HM.out.mono ?_;rintro e w3 ⟨rfl,hb3⟩;have HB3:=zaa (btZ HBR.out hb3);have HO3:=zaa (zaJ HOW.out (fun g hg _=>hb3.block g (zas HOW.out hg).2));have hz3:=HB3.out.size;clear hb3 HM;go_wp2_with(first
    |(at_builtin;refine wpList_append_own _ rfl _ _ 25 rfl w.heap.size 71 i0 _ 4 48 underlying25 hi0 hz0 hz1 hz2 rfl (by decide) _ _ _ rfl (HO3.out.alloc _) ⟨w3.heap.size,0,none⟩ 1 1 [.string ⟨#[]⟩,.string ⟨#[]⟩,.int .i64 0,.int .i64 (m)] rfl rfl (zaS (by simp)) (by simp[Value.oneCell']) (by unfold maxLen;omega) (by omega) (by simp;exact Nat.le_succ_of_le hz3) ?_;intro v' w5 hown' hgrow _))
   have HB5:=zaa (HB3.out.trans (Below.grown ((Below.refl _ w3).alloc hz3 _) hgrow (by simp;exact Nat.le_succ_of_le hz3) (fun g hg=>(zas HO3.out hg).1)));have HO5:=zaa (show w5.ownsRow w.heap.size 71 4 v' (l.length+(k+1)) ((l.map zbV++(List.range (k+1)).map zcx).flatten) by
    rw[zc7,show zcx k=[.string ⟨#[]⟩,.string ⟨#[]⟩,.int .i64 0,.int .i64 (m)] from by unfold zcx;rw[hm2.out]];exact hown')
   clear hown' hgrow;go_wp2_with fail;go_roundw
   case rel=>exact⟨k+1,by omega,by go_num,HO5.out,HB5.out⟩
   case measure=>simp[intOf];omega
  ·obtain rfl:k=12:=by omega
   have HLB:LB (EF zbV) wr w.heap.size 71 4 _ l (l.map zbV++zar zcx):=⟨by
    have e:(l.map zbV++zar zcx).length=l.length+12:=by simp[zar]
    rw[e];exact HOW.out,fun i r x hr hx=>by
    rw[List.getElem?_append_left (by rw[List.length_map];exact(List.getElem?_eq_some_iff.1 hx).1),List.getElem?_map,hx] at hr;exact(Option.some.inj hr).symm⟩
   obtain⟨g,c,hvv,hc1,hc2,hLL⟩:=HLB.lent zbz (by simp) (by simp[zar]);have HL:=zaa hLL;subst hvv;unfold maxLen at hc2;clear HLB hLL HOW;go_wp2_with fail;go_ret;exact zbS.mk _ rfl HL.out HBR.out
theorem zfC:(prog.info? 73).map (fun i=>(i.zero,i.size,i.bytes))=some (some (.agg #[.string ⟨#[]⟩,.string ⟨#[]⟩,.int .u8 0,.int .u8 0,.int .u8 0]),5,40):=by kernel_rfl
def zbA (i:Nat):List Value:=[.string ⟨#[]⟩,.string (mkS i),.int .u8 0,.int .u8 0,.int .u8 0]
theorem zke (n:Nat) (h:n≤1000000) (W:World):(Instr.makeSlice 27 (.int .i64 0) (.int .i64 ((n:Int)+12))).run prog W= .ok (.slice (some ⟨W.heap.size,0,none⟩) 0 (n+12)) (W.alloc (.cells (madeCells (Value.cells (.agg #[.string ⟨#[]⟩,.string ⟨#[]⟩,.int .u8 0,.int .u8 0,.int .u8 0])) ((n+12)*5)) 73)):=by
 obtain⟨i0,hi,hz0,hz1,hz2⟩:=info_parts zfC;have:=run_make (P:=prog) W 27 73 i0 (.agg #[.string ⟨#[]⟩,.string ⟨#[]⟩,.int .u8 0,.int .u8 0,.int .u8 0]) underlying27 hi hz0 .i64 .i64 0 ((n:Int)+12) (by omega) (by omega) (by rw[hz2];omega) (by omega);rw[hz1,show((n:Int)+12).toNat=n+12 by omega] at this;exact this
def za8 (x:zaB):List Value:=[zav x.module,zav x.part,.int .u8 (x.fault:Int),.int .u8 (x.level:Int),.int .u8 (x.do_:Int)]
theorem zfG: ∀x,∀u∈za8 x,u.oneCell'=true:=fun x u hu=>by
 simp only[za8,List.mem_cons,List.not_mem_nil,or_false] at hu;rcases hu with rfl|rfl|rfl|rfl|rfl<;>rfl
theorem zbf:zcm (EF za8) 5 zaB.cells:=zfw (fun _=>rfl) (fun _=>rfl) zfG
theorem zg5 (v:Value) (l:List zaB) (w:World) (hv:Hid (DAt w (fun _=>True) v (.row 5 (l.map zaB.cells)))) (hn:l.length≤1000000):
 Calls prog 30 #[v] w fun e w'=>zbS 5 (zar zbA) (EF za8) w l e w':=by
 obtain⟨i0,hi0,hz0,hz1,hz2⟩:=info_parts zfC;obtain⟨A,q,rfl, -⟩:=hv.out.slice;rw[List.length_map] at hv ⊢;have hmk:=fun W=>zke l.length hn W
 have HOW0:=zaa (World.ownsRow_made (base:=w.heap.size) (e:=73) (size:=5) w (madeCells (Value.cells (.agg #[.string ⟨#[]⟩,.string ⟨#[]⟩,.int .u8 0,.int .u8 0,.int .u8 0])) ((l.length+12)*5)) (l.length+12) (Nat.le_refl _) (by unfold maxLen;omega) (by simp[madeCells]));have HRD:=zaa (zbC (vs:=za8) (cells:=zaB.cells) (fun _=>rfl) (fun _=>rfl) (by decide) (hv.out.later ((Below.refl w.heap.size w).alloc (Nat.le_refl _) (.cells (madeCells (Value.cells (.agg #[.string ⟨#[]⟩,.string ⟨#[]⟩,.int .u8 0,.int .u8 0,.int .u8 0])) ((l.length+12)*5)) 73))));have HON:Hid (∀u∈(l.map za8).flatten,u.oneCell'=true):=zaa (fun u hu=>by
  obtain⟨e,he,hu⟩:=List.mem_flatten.1 hu;obtain⟨x,_,rfl⟩:=List.mem_map.1 he;exact zfG x u hu)
 go_enter func30,ntmps30
 go_wp2_with(at_builtin;apply Hid.out)
 refine zaa ?_;refine zaw _ rfl _ _ 27 rfl w.heap.size 73 i0 _ 5 40 underlying27 hi0 hz0 hz1 hz2 rfl (by decide) _ 0 [] rfl HOW0.out _ A l.length q (l.map za8).flatten rfl HRD.out HON.out (by unfold maxLen;omega) (by omega) (by simp) ?_;intro v1 w1 hown1 hg1 _;have hb1:Below w.heap.size w w1:=((Below.refl _ _).alloc (Nat.le_refl _) _).grown hg1 (by simp) (fun r hr=>(HOW0.out.lt r hr).1);have HO1:=zaa (show w1.ownsRow w.heap.size 73 5 v1 (l.length+0) ((l.map za8++(List.range 0).map zbA).flatten) by simpa using hown1);have HB1:=zaa hb1;clear hown1 hb1 hg1 hmk HOW0 HRD hv HON;go_wp2_with fail
 go_loopw [3,4] (fun v3 v4 wr=> ∃k:Nat,k≤12∧v4= .int .i64 k∧wr.ownsRow w.heap.size 73 5 v3 (l.length+k) ((l.map za8++(List.range k).map zbA).flatten)∧Below w.heap.size w wr) (fun _ v4 _=>12-(intOf v4).toNat)
 case atStart=>exact⟨0,by omega,rfl,HO1.out,HB1.out⟩
 case round=>
  obtain⟨k,hk,rfl,hown,hbr⟩:=hrel;have HOW:=zaa hown;have HBR:=zaa hbr;clear hown hbr HO1 HB1;by_cases hlt:k<12
  ·have HM:=zaa (zhF k wr hlt)
   generalize hm:mkS k=m at HM;have hm2:=zaa hm;clear hm;go_wp2_with fail;refine HM.out.mono ?_;rintro e w3 ⟨rfl,hb3⟩;have HB3:=zaa (btZ HBR.out hb3);have HO3:=zaa (zaJ HOW.out (fun g hg _=>hb3.block g (zas HOW.out hg).2));have hz3:=HB3.out.size;clear hb3 HM;go_wp2_with(first
    |(at_builtin;refine wpList_append_own _ rfl _ _ 27 rfl w.heap.size 73 i0 _ 5 40 underlying27 hi0 hz0 hz1 hz2 rfl (by decide) _ _ _ rfl (HO3.out.alloc _) ⟨w3.heap.size,0,none⟩ 1 1 [.string ⟨#[]⟩,.string (m),.int .u8 0,.int .u8 0,.int .u8 0] rfl rfl (zaS (by simp)) (by simp[Value.oneCell']) (by unfold maxLen;omega) (by omega) (by simp;exact Nat.le_succ_of_le hz3) ?_;intro v' w5 hown' hgrow _))
   have HB5:=zaa (HB3.out.trans (Below.grown ((Below.refl _ w3).alloc hz3 _) hgrow (by simp;exact Nat.le_succ_of_le hz3) (fun g hg=>(zas HO3.out hg).1)));have HO5:=zaa (show w5.ownsRow w.heap.size 73 5 v' (l.length+(k+1)) ((l.map za8++(List.range (k+1)).map zbA).flatten) by
    rw[zc7,show zbA k=[.string ⟨#[]⟩,.string (m),.int .u8 0,.int .u8 0,.int .u8 0] from by unfold zbA;rw[hm2.out]];exact hown')
   clear hown' hgrow;go_wp2_with fail;go_roundw
   case rel=>exact⟨k+1,by omega,by go_num,HO5.out,HB5.out⟩
   case measure=>simp[intOf];omega
  ·obtain rfl:k=12:=by omega
   have HLB:LB (EF za8) wr w.heap.size 73 5 _ l (l.map za8++zar zbA):=⟨by
    have e:(l.map za8++zar zbA).length=l.length+12:=by simp[zar]
    rw[e];exact HOW.out,fun i r x hr hx=>by
    rw[List.getElem?_append_left (by rw[List.length_map];exact(List.getElem?_eq_some_iff.1 hx).1),List.getElem?_map,hx] at hr;exact(Option.some.inj hr).symm⟩
   obtain⟨g,c,hvv,hc1,hc2,hLL⟩:=HLB.lent zbf (by simp) (by simp[zar]);have HL:=zaa hLL;subst hvv;unfold maxLen at hc2;clear HLB hLL HOW;go_wp2_with fail;go_ret;exact zbS.mk _ rfl HL.out HBR.out
theorem zjc:(prog.info? 75).map (fun i=>(i.zero,i.size,i.bytes))=some (some (.agg #[.string ⟨#[]⟩,.int .i64 0,.string ⟨#[]⟩,.int .i64 0]),4,48):=by kernel_rfl
def zdz (i:Nat):List Value:=[.string ⟨#[]⟩,.int .i64 (mkI 1 (i:Int)),.string ⟨#[]⟩,.int .i64 0]
theorem zoN (n:Nat) (h:n≤1000000) (W:World):(Instr.makeSlice 29 (.int .i64 0) (.int .i64 ((n:Int)+12))).run prog W= .ok (.slice (some ⟨W.heap.size,0,none⟩) 0 (n+12)) (W.alloc (.cells (madeCells (Value.cells (.agg #[.string ⟨#[]⟩,.int .i64 0,.string ⟨#[]⟩,.int .i64 0])) ((n+12)*4)) 75)):=by
 obtain⟨i0,hi,hz0,hz1,hz2⟩:=info_parts zjc;have:=run_make (P:=prog) W 29 75 i0 (.agg #[.string ⟨#[]⟩,.int .i64 0,.string ⟨#[]⟩,.int .i64 0]) underlying29 hi hz0 .i64 .i64 0 ((n:Int)+12) (by omega) (by omega) (by rw[hz2];omega) (by omega);rw[hz1,show((n:Int)+12).toNat=n+12 by omega] at this;exact this
def zcD (x:zdt):List Value:=[zav x.a,.int .i64 x.va,zav x.b,.int .i64 x.vb]
theorem zkH: ∀x,∀u∈zcD x,u.oneCell'=true:=fun x u hu=>by
 simp only[zcD,List.mem_cons,List.not_mem_nil,or_false] at hu;rcases hu with rfl|rfl|rfl|rfl<;>rfl
theorem zdO:zcm (EF zcD) 4 zdt.cells:=zfw (fun _=>rfl) (fun _=>rfl) zkH
theorem zk2 (v:Value) (l:List zdt) (w:World) (hv:Hid (DAt w (fun _=>True) v (.row 4 (l.map zdt.cells)))) (hn:l.length≤1000000):
 Calls prog 32 #[v] w fun e w'=>zbS 4 (zar zdz) (EF zcD) w l e w':=by
 obtain⟨i0,hi0,hz0,hz1,hz2⟩:=info_parts zjc;obtain⟨A,q,rfl, -⟩:=hv.out.slice;rw[List.length_map] at hv ⊢;have hmk:=fun W=>zoN l.length hn W
 have HOW0:=zaa (World.ownsRow_made (base:=w.heap.size) (e:=75) (size:=4) w (madeCells (Value.cells (.agg #[.string ⟨#[]⟩,.int .i64 0,.string ⟨#[]⟩,.int .i64 0])) ((l.length+12)*4)) (l.length+12) (Nat.le_refl _) (by unfold maxLen;omega) (by simp[madeCells]));have HRD:=zaa (zbC (vs:=zcD) (cells:=zdt.cells) (fun _=>rfl) (fun _=>rfl) (by decide) (hv.out.later ((Below.refl w.heap.size w).alloc (Nat.le_refl _) (.cells (madeCells (Value.cells (.agg #[.string ⟨#[]⟩,.int .i64 0,.string ⟨#[]⟩,.int .i64 0])) ((l.length+12)*4)) 75))));have HON:Hid (∀u∈(l.map zcD).flatten,u.oneCell'=true):=zaa (fun u hu=>by
  obtain⟨e,he,hu⟩:=List.mem_flatten.1 hu;obtain⟨x,_,rfl⟩:=List.mem_map.1 he;exact zkH x u hu)
 go_enter func32,ntmps32
 go_wp2_with(at_builtin;apply Hid.out)
 refine zaa ?_;refine zaw _ rfl _ _ 29 rfl w.heap.size 75 i0 _ 4 48 underlying29 hi0 hz0 hz1 hz2 rfl (by decide) _ 0 [] rfl HOW0.out _ A l.length q (l.map zcD).flatten rfl HRD.out HON.out (by unfold maxLen;omega) (by omega) (by simp) ?_;intro v1 w1 hown1 hg1 _;have hb1:Below w.heap.size w w1:=((Below.refl _ _).alloc (Nat.le_refl _) _).grown hg1 (by simp) (fun r hr=>(HOW0.out.lt r hr).1);have HO1:=zaa (show w1.ownsRow w.heap.size 75 4 v1 (l.length+0) ((l.map zcD++(List.range 0).map zdz).flatten) by simpa using hown1);have HB1:=zaa hb1;clear hown1 hb1 hg1 hmk HOW0 HRD hv HON;go_wp2_with fail
 go_loopw [3,4] (fun v3 v4 wr=> ∃k:Nat,k≤12∧v4= .int .i64 k∧wr.ownsRow w.heap.size 75 4 v3 (l.length+k) ((l.map zcD++(List.range k).map zdz).flatten)∧Below w.heap.size w wr) (fun _ v4 _=>12-(intOf v4).toNat)
 case atStart=>exact⟨0,by omega,rfl,HO1.out,HB1.out⟩
 case round=>
  obtain⟨k,hk,rfl,hown,hbr⟩:=hrel;have HOW:=zaa hown;have HBR:=zaa hbr;clear hown hbr HO1 HB1;by_cases hlt:k<12
  ·have HM:=zaa (zoU k wr hlt)
   generalize hm:mkI 1 (k:Int)=m at HM;have hm2:=zaa hm;clear hm;go_wp2_with fail;refine HM.out.mono ?_;rintro e w3 ⟨rfl,hb3⟩;have HB3:=zaa (btZ HBR.out hb3);have HO3:=zaa (zaJ HOW.out (fun g hg _=>hb3.block g (zas HOW.out hg).2));have hz3:=HB3.out.size;clear hb3 HM;go_wp2_with(first
    |(at_builtin;refine wpList_append_own _ rfl _ _ 29 rfl w.heap.size 75 i0 _ 4 48 underlying29 hi0 hz0 hz1 hz2 rfl (by decide) _ _ _ rfl (HO3.out.alloc _) ⟨w3.heap.size,0,none⟩ 1 1 [.string ⟨#[]⟩,.int .i64 (m),.string ⟨#[]⟩,.int .i64 0] rfl rfl (zaS (by simp)) (by simp[Value.oneCell']) (by unfold maxLen;omega) (by omega) (by simp;exact Nat.le_succ_of_le hz3) ?_;intro v' w5 hown' hgrow _))
   have HB5:=zaa (HB3.out.trans (Below.grown ((Below.refl _ w3).alloc hz3 _) hgrow (by simp;exact Nat.le_succ_of_le hz3) (fun g hg=>(zas HO3.out hg).1)));have HO5:=zaa (show w5.ownsRow w.heap.size 75 4 v' (l.length+(k+1)) ((l.map zcD++(List.range (k+1)).map zdz).flatten) by
    rw[zc7,show zdz k=[.string ⟨#[]⟩,.int .i64 (m),.string ⟨#[]⟩,.int .i64 0] from by unfold zdz;rw[hm2.out]];exact hown')
   clear hown' hgrow;go_wp2_with fail;go_roundw
   case rel=>exact⟨k+1,by omega,by go_num,HO5.out,HB5.out⟩
   case measure=>simp[intOf];omega
  ·obtain rfl:k=12:=by omega
   have HLB:LB (EF zcD) wr w.heap.size 75 4 _ l (l.map zcD++zar zdz):=⟨by
    have e:(l.map zcD++zar zdz).length=l.length+12:=by simp[zar]
    rw[e];exact HOW.out,fun i r x hr hx=>by
    rw[List.getElem?_append_left (by rw[List.length_map];exact(List.getElem?_eq_some_iff.1 hx).1),List.getElem?_map,hx] at hr;exact(Option.some.inj hr).symm⟩
   obtain⟨g,c,hvv,hc1,hc2,hLL⟩:=HLB.lent zdO (by simp) (by simp[zar]);have HL:=zaa hLL;subst hvv;unfold maxLen at hc2;clear HLB hLL HOW;go_wp2_with fail;go_ret;exact zbS.mk _ rfl HL.out HBR.out
end Go.Proofs.YtgbfaompondolaaGreatDoor
