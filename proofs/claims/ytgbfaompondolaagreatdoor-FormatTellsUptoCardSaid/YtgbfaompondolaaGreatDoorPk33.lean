/- Merged texts of the walks and of the plain laws on which the statement leans.-/
import Derived.Test.YtgbfaompondolaaGreatDoorPk1
import Derived.Test.YtgbfaompondolaaGreatDoorPk32
set_option maxHeartbeats 4000000
set_option maxRecDepth 100000
namespace Go.Proofs.YtgbfaompondolaaGreatDoor
open Go.Proofs.Tryz
open Go.RowKit
attribute [local go_sem] zaj.cell
theorem zbs {f:Nat→List Value} {i:Nat} (h:i<12):(zar f)[i]? =some (f i):=by
 unfold zar;rw[List.getElem?_map,List.getElem?_range h]
 rfl
theorem LL.fits {α:Type} {size:Nat} {ms:List (List Value)} {E:Elt α} {w:World} {G:Nat→Prop} {g n c:Nat} {l:List α} (h:LL size ms E w G (.slice (some ⟨g,0,none⟩) n c) l):l.length+12≤c∧c≤maxLen∧g<w.heap.size:=by
 obtain⟨g',c',rows,e,h1,h2,h3,h4,h5,h6,h7⟩:=h;injection e with e1 e2 e3
 injection e1 with e1
 injection e1 with e1
 subst e1 e3;exact⟨h1,h2,h4⟩
theorem LL.mark {α:Type} {size:Nat} {ms:List (List Value)} {E:Elt α} {cells:α→List Dat} (hE:zcm E size cells) {w:World} {G:Nat→Prop} {g n c:Nat} {l:List α} (h:LL size ms E w G (.slice (some ⟨g,0,none⟩) n c) l) {i:Nat} {m:List Value} (hm:ms[i]? =some m) (hs: ∀r∈ms,r.length=size):
 ∀(j:Nat) u,m[j]? =some u→w.cell? ⟨g,(l.length+i)*size+j,none⟩=some u:=by
 obtain⟨g',c',rows,e,h1,h2,h3,h4,h5,h6,h7⟩:=h;injection e with e1 e2 e3
 injection e1 with e1
 injection e1 with e1
 subst e1;intro j u hu;refine h7 _ u ?_;have hj:j<size:=by rw[←hs m (List.mem_of_getElem? hm)];exact(List.getElem?_eq_some_iff.1 hu).1
 have hall: ∀r∈rows++ms,r.length=size:=by
  intro r hr;rcases List.mem_append.1 hr with hr|hr
  ·obtain⟨q,hq,rfl⟩:=List.getElem_of_mem hr
   exact hE.wide _ _ _ _ (h6 q _ _ (List.getElem?_eq_getElem hq) (List.getElem?_eq_getElem (by omega)))
  ·exact hs r hr
 rw[zeH (rows++ms) hall (l.length+i) j m (by rw[List.getElem?_append_right (by omega),h5,Nat.add_sub_cancel_left];exact hm) hj,hu]
theorem zos: ∀r∈zar zde,r.length=1:=by
 intro r hr;obtain⟨i,_,rfl⟩:=List.mem_map.1 hr
 rfl
theorem zh7 (v:Value) (G:Nat→Prop) (g c:Nat) (l:List Int) (w:World) (hv:Hid (DAt w (fun _=>True) v (.row 1 (zah l)))) (hn:l.length≤1000000)
 (ho:Hid (LL 1 (zar zde) (EF zct) w G (.slice (some ⟨g,0,none⟩) l.length c) l)):
 Calls prog 281 #[.slice (some ⟨g,0,none⟩) l.length c,v] w fun e w'=>e= .returned (.bool true)∧Below w.heap.size w w':=by
 obtain⟨hc1,hc2,hgl⟩:=ho.out.fits;unfold maxLen at hc2;obtain⟨A,q,rfl,hA⟩:=hv.out.slice;have HA:=zaa hA;clear hA hv;rw[show(zah l).length=l.length by simp[zah]];have hnn:((l.length:Int) != (l.length:Int))=false:=by simp
 go_enter func281,ntmps281
 go_wp2_with fail
 go_loopw [6] (fun v6 wr=> ∃k:Nat,k≤l.length+12∧v6= .int .i64 k∧Below w.heap.size w wr) (fun v6 _=>l.length+12-(intOf v6).toNat)
 case atStart=>exact⟨0,by omega,rfl,Below.refl _ _⟩
 case round=>
  obtain⟨k,hk,rfl,hbr⟩:=hrel;have HBR:=zaa hbr;clear hbr;by_cases hlt:k<l.length
  ·obtain⟨x,hx⟩: ∃x,l[k]? =some x:=⟨_,List.getElem?_eq_getElem hlt⟩
   obtain⟨bA,oA,rfl,hbA,hcaA⟩:=HA.out.at_ (cells:=fun n:Int=>[lI n]) hx;obtain⟨r,hE,hcB⟩:=LL.at_ zbm ho.out hx;obtain rfl:r=zct x:=hE;have a0:=zad HBR.out hbA (oA+k) (by simpa using(hcaA 0 _ rfl).leafc);have b0:=zad HBR.out hgl k (by simpa using hcB 0 _ rfl);clear hcaA hcB hx;have k0:(0:Int)≤(k:Int):=by omega
   have g2:decide (l.length≤k)=false:=by simp;omega
   go_wp2_with fail;go_quiet (fail);go_wp2_with fail;go_roundw
   case rel=>exact⟨k+1,by omega,by go_num,HBR.out.trans ⟨rfl,rfl,rfl,Nat.le_refl _,fun _ _=>rfl⟩⟩
   case measure=>simp[intOf];omega
  ·by_cases hlt2:k<l.length+12
   ·have hmk:=LL.mark zbm ho.out (zbs (f:=zde) (show k-l.length<12 by omega)) zos
    rw[show l.length+(k-l.length)=k by omega] at hmk;have hi:((k-l.length:Nat):Int)=(k:Int)-l.length:=by omega
    have hgl2:g<wr.heap.size:=Nat.lt_of_lt_of_le hgl HBR.out.size;have b0:=zad HBR.out hgl k (by simpa using hmk 0 _ rfl);have HM:Hid (∀W,Calls prog 190 #[.int .i64 1,.int .i64 ((k:Int)-l.length)] W fun e w'=>e= .returned (.int .i64 (mkI 1 ((k:Int)-l.length)))∧Below W.heap.size W w'):=zaa (fun W=>(zbO 1 ((k:Int)-l.length) W (by omega) (by omega) (by omega) (by omega)).mono (by rintro e w' ⟨rfl,rfl⟩;exact⟨rfl,Below.refl _ _⟩));rw[hi] at b0;generalize mkI 1 ((k:Int)-l.length)=m at *;clear hmk hi;have k0:(0:Int)≤(k:Int):=by omega
    have g1:decide (k<l.length)=false:=by simp;omega
    have g2:decide (l.length≤k)=true:=by simp;omega
    have hin:(k:Int)<((l.length:Nat):Int)+12:=by omega
    go_wp2_with fail;refine zac (W:=wr) (by kernel_rfl) (by kernel_rfl) ?_
    repeat(go_big_quiet_step ((go_at_call 190;exact zaj.call (HM.out _))))
    refine wpQuiet_nil ?_;rintro _ ⟨s,rfl⟩;go_wp2_with fail;go_roundw
    case rel=>exact⟨k+1,by omega,by go_num,HBR.out.trans (s.below.mono HBR.out.size)⟩
    case measure=>simp[intOf];omega
   ·go_wp2_with fail
    go_ret;exact⟨rfl,HBR.out⟩
theorem zoi: ∀r∈zar zdA,r.length=1:=by
 intro r hr;obtain⟨i,_,rfl⟩:=List.mem_map.1 hr
 rfl
theorem zkJ (v:Value) (G:Nat→Prop) (g c:Nat) (l:List (List UInt8)) (w:World) (hv:Hid (DAt w (fun _=>True) v (.row 1 (zao l)))) (hn:l.length≤1000000)
 (ho:Hid (LL 1 (zar zdA) (EF zcH) w G (.slice (some ⟨g,0,none⟩) l.length c) l)):
 Calls prog 205 #[.slice (some ⟨g,0,none⟩) l.length c,v] w fun e w'=>e= .returned (.bool true)∧Below w.heap.size w w':=by
 obtain⟨hc1,hc2,hgl⟩:=ho.out.fits;unfold maxLen at hc2;obtain⟨A,q,rfl,hA⟩:=hv.out.slice;have HA:=zaa hA;clear hA hv;rw[show(zao l).length=l.length by simp[zao]];have hnn:((l.length:Int) != (l.length:Int))=false:=by simp
 go_enter func205,ntmps205
 go_wp2_with fail
 go_loopw [6] (fun v6 wr=> ∃k:Nat,k≤l.length+12∧v6= .int .i64 k∧Below w.heap.size w wr) (fun v6 _=>l.length+12-(intOf v6).toNat)
 case atStart=>exact⟨0,by omega,rfl,Below.refl _ _⟩
 case round=>
  obtain⟨k,hk,rfl,hbr⟩:=hrel;have HBR:=zaa hbr;clear hbr;by_cases hlt:k<l.length
  ·obtain⟨x,hx⟩: ∃x,l[k]? =some x:=⟨_,List.getElem?_eq_getElem hlt⟩
   obtain⟨bA,oA,rfl,hbA,hcaA⟩:=HA.out.at_ (cells:=fun s:List UInt8=>[lS s]) hx;obtain⟨r,hE,hcB⟩:=LL.at_ zdS ho.out hx;obtain rfl:r=zcH x:=hE;have a0:=zad HBR.out hbA (oA+k) (by simpa using(hcaA 0 _ rfl).leafc);have b0:=zad HBR.out hgl k (by simpa using hcB 0 _ rfl);simp only[zav] at a0 b0;clear hcaA hcB hx;have k0:(0:Int)≤(k:Int):=by omega
   have g2:decide (l.length≤k)=false:=by simp;omega
   go_wp2_with fail;go_quiet (fail);go_wp2_with fail;go_roundw
   case rel=>exact⟨k+1,by omega,by go_num,HBR.out.trans ⟨rfl,rfl,rfl,Nat.le_refl _,fun _ _=>rfl⟩⟩
   case measure=>simp[intOf];omega
  ·by_cases hlt2:k<l.length+12
   ·have hmk:=LL.mark zdS ho.out (zbs (f:=zdA) (show k-l.length<12 by omega)) zoi
    rw[show l.length+(k-l.length)=k by omega] at hmk;have hi:((k-l.length:Nat):Int)=(k:Int)-l.length:=by omega
    have hgl2:g<wr.heap.size:=Nat.lt_of_lt_of_le hgl HBR.out.size;have b0:=zad HBR.out hgl k (by simpa using hmk 0 _ rfl);have HM:=zaa (fun W=>zb8 (k-l.length) W (by omega));rw[hi] at HM;generalize mkS (k-l.length)=m at *;clear hmk hi;have k0:(0:Int)≤(k:Int):=by omega
    have g1:decide (k<l.length)=false:=by simp;omega
    have g2:decide (l.length≤k)=true:=by simp;omega
    have hin:(k:Int)<((l.length:Nat):Int)+12:=by omega
    go_wp2_with fail;refine zac (W:=wr) (by kernel_rfl) (by kernel_rfl) ?_
    repeat(go_big_quiet_step ((go_at_call 195;exact zaj.call (HM.out _))))
    refine wpQuiet_nil ?_;rintro _ ⟨s,rfl⟩;go_wp2_with fail;go_roundw
    case rel=>exact⟨k+1,by omega,by go_num,HBR.out.trans (s.below.mono HBR.out.size)⟩
    case measure=>simp[intOf];omega
   ·go_wp2_with fail
    go_ret;exact⟨rfl,HBR.out⟩
theorem zn7: ∀r∈zar zdD,r.length=4:=by
 intro r hr;obtain⟨i,_,rfl⟩:=List.mem_map.1 hr
 rfl
theorem zln (v:Value) (G:Nat→Prop) (g c:Nat) (l:List zb3) (w:World) (hv:Hid (DAt w (fun _=>True) v (.row 4 (l.map zb3.cells)))) (hn:l.length≤1000000)
 (ho:Hid (LL 4 (zar zdD) (EF zcC) w G (.slice (some ⟨g,0,none⟩) l.length c) l)):
 Calls prog 24 #[.slice (some ⟨g,0,none⟩) l.length c,v] w fun e w'=>e= .returned (.bool true)∧Below w.heap.size w w':=by
 obtain⟨hc1,hc2,hgl⟩:=ho.out.fits;unfold maxLen at hc2;obtain⟨A,q,rfl,hA⟩:=hv.out.slice;have HA:=zaa hA;clear hA hv;rw[List.length_map];have hnn:((l.length:Int) != (l.length:Int))=false:=by simp
 go_enter func24,ntmps24
 go_wp2_with fail
 go_loopw [6] (fun v6 wr=> ∃k:Nat,k≤l.length+12∧v6= .int .i64 k∧Below w.heap.size w wr) (fun v6 _=>l.length+12-(intOf v6).toNat)
 case atStart=>exact⟨0,by omega,rfl,Below.refl _ _⟩
 case round=>
  obtain⟨k,hk,rfl,hbr⟩:=hrel;have HBR:=zaa hbr;clear hbr;by_cases hlt:k<l.length
  ·obtain⟨x,hx⟩: ∃x,l[k]? =some x:=⟨_,List.getElem?_eq_getElem hlt⟩
   obtain⟨bA,oA,rfl,hbA,hcaA⟩:=HA.out.at_ hx;obtain⟨r,hE,hcB⟩:=LL.at_ zdT ho.out hx;obtain rfl:r=zcC x:=hE;have a0:=zad HBR.out hbA (oA+k*4) (hcaA 0 _ rfl).leafc;have b0:=zad HBR.out hgl (k*4) (hcB 0 _ rfl);have a1:=zad HBR.out hbA (oA+k*4+1) (hcaA 1 _ rfl).leafc;have b1:=zad HBR.out hgl (k*4+1) (hcB 1 _ rfl);have a2:=zad HBR.out hbA (oA+k*4+2) (hcaA 2 _ rfl).leafc;have b2:=zad HBR.out hgl (k*4+2) (hcB 2 _ rfl);have a3:=zad HBR.out hbA (oA+k*4+3) (hcaA 3 _ rfl).leafc;have b3:=zad HBR.out hgl (k*4+3) (hcB 3 _ rfl);clear hcaA hcB hx;have k0:(0:Int)≤(k:Int):=by omega
   have g2:decide (l.length≤k)=false:=by simp;omega
   go_wp2_with fail;go_quiet (fail);go_wp2_with fail;go_roundw
   case rel=>exact⟨k+1,by omega,by go_num,HBR.out.trans ⟨rfl,rfl,rfl,Nat.le_refl _,fun _ _=>rfl⟩⟩
   case measure=>simp[intOf];omega
  ·by_cases hlt2:k<l.length+12
   ·have hmk:=LL.mark zdT ho.out (zbs (f:=zdD) (show k-l.length<12 by omega)) zn7
    rw[show l.length+(k-l.length)=k by omega] at hmk;have hi:((k-l.length:Nat):Int)=(k:Int)-l.length:=by omega
    have hgl2:g<wr.heap.size:=Nat.lt_of_lt_of_le hgl HBR.out.size;have b0:=zad HBR.out hgl (k*4) (hmk 0 _ rfl);have b1:=zad HBR.out hgl (k*4+1) (hmk 1 _ rfl);have b2:=zad HBR.out hgl (k*4+2) (hmk 2 _ rfl);have b3:=zad HBR.out hgl (k*4+3) (hmk 3 _ rfl);have HM:=zaa (fun W=>zob (k-l.length) W (by omega));rw[hi] at HM;rw[hi] at b1;generalize mkI 1 ((k:Int)-l.length)=m at *;clear hmk hi;have k0:(0:Int)≤(k:Int):=by omega
    have g1:decide (k<l.length)=false:=by simp;omega
    have g2:decide (l.length≤k)=true:=by simp;omega
    have hin:(k:Int)<((l.length:Nat):Int)+12:=by omega
    go_wp2_with fail;refine zac (W:=wr) (by kernel_rfl) (by kernel_rfl) ?_
    repeat(go_big_quiet_step ((go_at_call 109;exact zaj.call (HM.out _))))
    refine wpQuiet_nil ?_;rintro _ ⟨s,rfl⟩;go_wp2_with fail;go_roundw
    case rel=>exact⟨k+1,by omega,by go_num,HBR.out.trans (s.below.mono HBR.out.size)⟩
    case measure=>simp[intOf];omega
   ·go_wp2_with fail
    go_ret;exact⟨rfl,HBR.out⟩
theorem zou: ∀r∈zar zdx,r.length=2:=by
 intro r hr;obtain⟨i,_,rfl⟩:=List.mem_map.1 hr
 rfl
theorem zl6 (v:Value) (G:Nat→Prop) (g c:Nat) (l:List zcu) (w:World) (hv:Hid (DAt w (fun _=>True) v (.row 2 (l.map zcu.cells)))) (hn:l.length≤1000000)
 (ho:Hid (LL 2 (zar zdx) (EF zcG) w G (.slice (some ⟨g,0,none⟩) l.length c) l)):
 Calls prog 204 #[.slice (some ⟨g,0,none⟩) l.length c,v] w fun e w'=>e= .returned (.bool true)∧Below w.heap.size w w':=by
 obtain⟨hc1,hc2,hgl⟩:=ho.out.fits;unfold maxLen at hc2;obtain⟨A,q,rfl,hA⟩:=hv.out.slice;have HA:=zaa hA;clear hA hv;rw[List.length_map];have hnn:((l.length:Int) != (l.length:Int))=false:=by simp
 go_enter func204,ntmps204
 go_wp2_with fail
 go_loopw [6] (fun v6 wr=> ∃k:Nat,k≤l.length+12∧v6= .int .i64 k∧Below w.heap.size w wr) (fun v6 _=>l.length+12-(intOf v6).toNat)
 case atStart=>exact⟨0,by omega,rfl,Below.refl _ _⟩
 case round=>
  obtain⟨k,hk,rfl,hbr⟩:=hrel;have HBR:=zaa hbr;clear hbr;by_cases hlt:k<l.length
  ·obtain⟨x,hx⟩: ∃x,l[k]? =some x:=⟨_,List.getElem?_eq_getElem hlt⟩
   obtain⟨bA,oA,rfl,hbA,hcaA⟩:=HA.out.at_ hx;obtain⟨r,hE,hcB⟩:=LL.at_ zdh ho.out hx;obtain rfl:r=zcG x:=hE;have a0:=zad HBR.out hbA (oA+k*2) (hcaA 0 _ rfl).leafc;have b0:=zad HBR.out hgl (k*2) (hcB 0 _ rfl);have a1:=zad HBR.out hbA (oA+k*2+1) (hcaA 1 _ rfl).leafc;have b1:=zad HBR.out hgl (k*2+1) (hcB 1 _ rfl);simp only[zav] at a0 b0;clear hcaA hcB hx;have k0:(0:Int)≤(k:Int):=by omega
   have g2:decide (l.length≤k)=false:=by simp;omega
   go_wp2_with fail;go_quiet (fail);go_wp2_with fail;go_roundw
   case rel=>exact⟨k+1,by omega,by go_num,HBR.out.trans ⟨rfl,rfl,rfl,Nat.le_refl _,fun _ _=>rfl⟩⟩
   case measure=>simp[intOf];omega
  ·by_cases hlt2:k<l.length+12
   ·have hmk:=LL.mark zdh ho.out (zbs (f:=zdx) (show k-l.length<12 by omega)) zou
    rw[show l.length+(k-l.length)=k by omega] at hmk;have hi:((k-l.length:Nat):Int)=(k:Int)-l.length:=by omega
    have hgl2:g<wr.heap.size:=Nat.lt_of_lt_of_le hgl HBR.out.size;have b0:=zad HBR.out hgl (k*2) (hmk 0 _ rfl);have b1:=zad HBR.out hgl (k*2+1) (hmk 1 _ rfl);have HM:=zaa (fun W=>znR (k-l.length) W (by omega));rw[hi] at HM;rw[hi] at b1;generalize mkI 1 ((k:Int)-l.length)=m at *;clear hmk hi;have k0:(0:Int)≤(k:Int):=by omega
    have g1:decide (k<l.length)=false:=by simp;omega
    have g2:decide (l.length≤k)=true:=by simp;omega
    have hin:(k:Int)<((l.length:Nat):Int)+12:=by omega
    go_wp2_with fail;refine zac (W:=wr) (by kernel_rfl) (by kernel_rfl) ?_
    repeat(go_big_quiet_step ((go_at_call 246;exact zaj.call (HM.out _))))
    refine wpQuiet_nil ?_;rintro _ ⟨s,rfl⟩;go_wp2_with fail;go_roundw
    case rel=>exact⟨k+1,by omega,by go_num,HBR.out.trans (s.below.mono HBR.out.size)⟩
    case measure=>simp[intOf];omega
   ·go_wp2_with fail
    go_ret;exact⟨rfl,HBR.out⟩
theorem zov: ∀r∈zar zdm,r.length=3:=by
 intro r hr;obtain⟨i,_,rfl⟩:=List.mem_map.1 hr
 rfl
theorem zhT (v:Value) (G:Nat→Prop) (g c:Nat) (l:List zb7) (w:World) (hv:Hid (DAt w (fun _=>True) v (.row 3 (l.map zb7.cells)))) (hn:l.length≤1000000)
 (ho:Hid (LL 3 (zar zdm) (EF zcr) w G (.slice (some ⟨g,0,none⟩) l.length c) l)):
 Calls prog 203 #[.slice (some ⟨g,0,none⟩) l.length c,v] w fun e w'=>e= .returned (.bool true)∧Below w.heap.size w w':=by
 obtain⟨hc1,hc2,hgl⟩:=ho.out.fits;unfold maxLen at hc2;obtain⟨A,q,rfl,hA⟩:=hv.out.slice;have HA:=zaa hA;clear hA hv;rw[List.length_map];have hnn:((l.length:Int) != (l.length:Int))=false:=by simp
 go_enter func203,ntmps203
 go_wp2_with fail
 go_loopw [6] (fun v6 wr=> ∃k:Nat,k≤l.length+12∧v6= .int .i64 k∧Below w.heap.size w wr) (fun v6 _=>l.length+12-(intOf v6).toNat)
 case atStart=>exact⟨0,by omega,rfl,Below.refl _ _⟩
 case round=>
  obtain⟨k,hk,rfl,hbr⟩:=hrel;have HBR:=zaa hbr;clear hbr;by_cases hlt:k<l.length
  ·obtain⟨x,hx⟩: ∃x,l[k]? =some x:=⟨_,List.getElem?_eq_getElem hlt⟩
   obtain⟨bA,oA,rfl,hbA,hcaA⟩:=HA.out.at_ hx;obtain⟨r,hE,hcB⟩:=LL.at_ zcd ho.out hx;obtain rfl:r=zcr x:=hE;have a0:=zad HBR.out hbA (oA+k*3) (hcaA 0 _ rfl).leafc;have b0:=zad HBR.out hgl (k*3) (hcB 0 _ rfl);have a1:=zad HBR.out hbA (oA+k*3+1) (hcaA 1 _ rfl).leafc;have b1:=zad HBR.out hgl (k*3+1) (hcB 1 _ rfl);have a2:=zad HBR.out hbA (oA+k*3+2) (hcaA 2 _ rfl).leafc;have b2:=zad HBR.out hgl (k*3+2) (hcB 2 _ rfl);simp only[zav] at a0 b0 a1 b1 a2 b2;clear hcaA hcB hx;have k0:(0:Int)≤(k:Int):=by omega
   have g2:decide (l.length≤k)=false:=by simp;omega
   go_wp2_with fail;go_quiet (fail);go_wp2_with fail;go_roundw
   case rel=>exact⟨k+1,by omega,by go_num,HBR.out.trans ⟨rfl,rfl,rfl,Nat.le_refl _,fun _ _=>rfl⟩⟩
   case measure=>simp[intOf];omega
  ·by_cases hlt2:k<l.length+12
   ·have hmk:=LL.mark zcd ho.out (zbs (f:=zdm) (show k-l.length<12 by omega)) zov
    rw[show l.length+(k-l.length)=k by omega] at hmk;have hi:((k-l.length:Nat):Int)=(k:Int)-l.length:=by omega
    have hgl2:g<wr.heap.size:=Nat.lt_of_lt_of_le hgl HBR.out.size;have b0:=zad HBR.out hgl (k*3) (hmk 0 _ rfl);have b1:=zad HBR.out hgl (k*3+1) (hmk 1 _ rfl);have b2:=zad HBR.out hgl (k*3+2) (hmk 2 _ rfl);have HM:=zaa (fun W=>zn4 (k-l.length) W (by omega));rw[hi] at HM;generalize mkS (k-l.length)=m at *;clear hmk hi;have k0:(0:Int)≤(k:Int):=by omega
    have g1:decide (k<l.length)=false:=by simp;omega
    have g2:decide (l.length≤k)=true:=by simp;omega
    have hin:(k:Int)<((l.length:Nat):Int)+12:=by omega
    go_wp2_with fail;refine zac (W:=wr) (by kernel_rfl) (by kernel_rfl) ?_
    repeat(go_big_quiet_step ((go_at_call 245;exact zaj.call (HM.out _))))
    refine wpQuiet_nil ?_;rintro _ ⟨s,rfl⟩;go_wp2_with fail;go_roundw
    case rel=>exact⟨k+1,by omega,by go_num,HBR.out.trans (s.below.mono HBR.out.size)⟩
    case measure=>simp[intOf];omega
   ·go_wp2_with fail
    go_ret;exact⟨rfl,HBR.out⟩
theorem zni: ∀r∈zar zcz,r.length=6:=by
 intro r hr;obtain⟨i,_,rfl⟩:=List.mem_map.1 hr
 rfl
theorem zkx (v:Value) (G:Nat→Prop) (g c:Nat) (l:List zaT) (w:World) (hv:Hid (DAt w (fun _=>True) v (.row 6 (l.map zaT.cells)))) (hn:l.length≤1000000)
 (ho:Hid (LL 6 (zar zcz) (EF zbT) w G (.slice (some ⟨g,0,none⟩) l.length c) l)):
 Calls prog 282 #[.slice (some ⟨g,0,none⟩) l.length c,v] w fun e w'=>e= .returned (.bool true)∧Below w.heap.size w w':=by
 obtain⟨hc1,hc2,hgl⟩:=ho.out.fits;unfold maxLen at hc2;obtain⟨A,q,rfl,hA⟩:=hv.out.slice;have HA:=zaa hA;clear hA hv;rw[List.length_map];have hnn:((l.length:Int) != (l.length:Int))=false:=by simp
 go_enter func282,ntmps282
 go_wp2_with fail
 go_loopw [6] (fun v6 wr=> ∃k:Nat,k≤l.length+12∧v6= .int .i64 k∧Below w.heap.size w wr) (fun v6 _=>l.length+12-(intOf v6).toNat)
 case atStart=>exact⟨0,by omega,rfl,Below.refl _ _⟩
 case round=>
  obtain⟨k,hk,rfl,hbr⟩:=hrel;have HBR:=zaa hbr;clear hbr;by_cases hlt:k<l.length
  ·obtain⟨x,hx⟩: ∃x,l[k]? =some x:=⟨_,List.getElem?_eq_getElem hlt⟩
   obtain⟨bA,oA,rfl,hbA,hcaA⟩:=HA.out.at_ hx;obtain⟨r,hE,hcB⟩:=LL.at_ zcj ho.out hx;obtain rfl:r=zbT x:=hE;have a0:=zad HBR.out hbA (oA+k*6) (hcaA 0 _ rfl).leafc;have b0:=zad HBR.out hgl (k*6) (hcB 0 _ rfl);have a1:=zad HBR.out hbA (oA+k*6+1) (hcaA 1 _ rfl).leafc;have b1:=zad HBR.out hgl (k*6+1) (hcB 1 _ rfl);have a2:=zad HBR.out hbA (oA+k*6+2) (hcaA 2 _ rfl).leafc;have b2:=zad HBR.out hgl (k*6+2) (hcB 2 _ rfl);have a3:=zad HBR.out hbA (oA+k*6+3) (hcaA 3 _ rfl).leafc;have b3:=zad HBR.out hgl (k*6+3) (hcB 3 _ rfl);have a4:=zad HBR.out hbA (oA+k*6+4) (hcaA 4 _ rfl).leafc;have b4:=zad HBR.out hgl (k*6+4) (hcB 4 _ rfl);have a5:=zad HBR.out hbA (oA+k*6+5) (hcaA 5 _ rfl).leafc;have b5:=zad HBR.out hgl (k*6+5) (hcB 5 _ rfl);simp only[zav] at a0 b0;clear hcaA hcB hx;have k0:(0:Int)≤(k:Int):=by omega
   have g2:decide (l.length≤k)=false:=by simp;omega
   go_wp2_with fail;go_quiet (fail);go_wp2_with fail;go_roundw
   case rel=>exact⟨k+1,by omega,by go_num,HBR.out.trans ⟨rfl,rfl,rfl,Nat.le_refl _,fun _ _=>rfl⟩⟩
   case measure=>simp[intOf];omega
  ·by_cases hlt2:k<l.length+12
   ·have hmk:=LL.mark zcj ho.out (zbs (f:=zcz) (show k-l.length<12 by omega)) zni
    rw[show l.length+(k-l.length)=k by omega] at hmk;have hi:((k-l.length:Nat):Int)=(k:Int)-l.length:=by omega
    have hgl2:g<wr.heap.size:=Nat.lt_of_lt_of_le hgl HBR.out.size;have b0:=zad HBR.out hgl (k*6) (hmk 0 _ rfl);have b1:=zad HBR.out hgl (k*6+1) (hmk 1 _ rfl);have b2:=zad HBR.out hgl (k*6+2) (hmk 2 _ rfl);have b3:=zad HBR.out hgl (k*6+3) (hmk 3 _ rfl);have b4:=zad HBR.out hgl (k*6+4) (hmk 4 _ rfl);have b5:=zad HBR.out hgl (k*6+5) (hmk 5 _ rfl);have HM:=zaa (fun W=>zml (k-l.length) W (by omega));rw[hi] at HM;rw[hi] at b3;generalize mkI 1 ((k:Int)-l.length)=m at *;clear hmk hi;have k0:(0:Int)≤(k:Int):=by omega
    have g1:decide (k<l.length)=false:=by simp;omega
    have g2:decide (l.length≤k)=true:=by simp;omega
    have hin:(k:Int)<((l.length:Nat):Int)+12:=by omega
    go_wp2_with fail;refine zac (W:=wr) (by kernel_rfl) (by kernel_rfl) ?_
    repeat(go_big_quiet_step ((go_at_call 303;exact zaj.call (HM.out _))))
    refine wpQuiet_nil ?_;rintro _ ⟨s,rfl⟩;go_wp2_with fail;go_roundw
    case rel=>exact⟨k+1,by omega,by go_num,HBR.out.trans (s.below.mono HBR.out.size)⟩
    case measure=>simp[intOf];omega
   ·go_wp2_with fail
    go_ret;exact⟨rfl,HBR.out⟩
theorem zo9: ∀r∈zar zeU,r.length=4:=by
 intro r hr;obtain⟨i,_,rfl⟩:=List.mem_map.1 hr
 rfl
theorem zmG (v:Value) (G:Nat→Prop) (g c:Nat) (l:List SwD) (w:World) (hv:Hid (DAt w (fun _=>True) v (.row 4 (l.map SwD.cells)))) (hn:l.length≤1000000)
 (ho:Hid (LL 4 (zar zeU) (EF zd1) w G (.slice (some ⟨g,0,none⟩) l.length c) l)):
 Calls prog 65 #[.slice (some ⟨g,0,none⟩) l.length c,v] w fun e w'=>e= .returned (.bool true)∧Below w.heap.size w w':=by
 obtain⟨hc1,hc2,hgl⟩:=ho.out.fits;unfold maxLen at hc2;obtain⟨A,q,rfl,hA⟩:=hv.out.slice;have HA:=zaa hA;clear hA hv;rw[List.length_map];have hnn:((l.length:Int) != (l.length:Int))=false:=by simp
 go_enter func65,ntmps65
 go_wp2_with fail
 go_loopw [6] (fun v6 wr=> ∃k:Nat,k≤l.length+12∧v6= .int .i64 k∧Below w.heap.size w wr) (fun v6 _=>l.length+12-(intOf v6).toNat)
 case atStart=>exact⟨0,by omega,rfl,Below.refl _ _⟩
 case round=>
  obtain⟨k,hk,rfl,hbr⟩:=hrel;have HBR:=zaa hbr;clear hbr;by_cases hlt:k<l.length
  ·obtain⟨x,hx⟩: ∃x,l[k]? =some x:=⟨_,List.getElem?_eq_getElem hlt⟩
   obtain⟨bA,oA,rfl,hbA,hcaA⟩:=HA.out.at_ hx;obtain⟨r,hE,hcB⟩:=LL.at_ zda ho.out hx;obtain rfl:r=zd1 x:=hE;have a0:=zad HBR.out hbA (oA+k*4) (hcaA 0 _ rfl).leafc;have b0:=zad HBR.out hgl (k*4) (hcB 0 _ rfl);have a1:=zad HBR.out hbA (oA+k*4+1) (hcaA 1 _ rfl).leafc;have b1:=zad HBR.out hgl (k*4+1) (hcB 1 _ rfl);have a2:=zad HBR.out hbA (oA+k*4+2) (hcaA 2 _ rfl).leafc;have b2:=zad HBR.out hgl (k*4+2) (hcB 2 _ rfl);have a3:=zad HBR.out hbA (oA+k*4+3) (hcaA 3 _ rfl).leafc;have b3:=zad HBR.out hgl (k*4+3) (hcB 3 _ rfl);simp only[zav] at a0 b0;clear hcaA hcB hx;have k0:(0:Int)≤(k:Int):=by omega
   have g2:decide (l.length≤k)=false:=by simp;omega
   go_wp2_with fail;go_quiet (fail);go_wp2_with fail;go_roundw
   case rel=>exact⟨k+1,by omega,by go_num,HBR.out.trans ⟨rfl,rfl,rfl,Nat.le_refl _,fun _ _=>rfl⟩⟩
   case measure=>simp[intOf];omega
  ·by_cases hlt2:k<l.length+12
   ·have hmk:=LL.mark zda ho.out (zbs (f:=zeU) (show k-l.length<12 by omega)) zo9
    rw[show l.length+(k-l.length)=k by omega] at hmk;have hi:((k-l.length:Nat):Int)=(k:Int)-l.length:=by omega
    have hgl2:g<wr.heap.size:=Nat.lt_of_lt_of_le hgl HBR.out.size;have b0:=zad HBR.out hgl (k*4) (hmk 0 _ rfl);have b1:=zad HBR.out hgl (k*4+1) (hmk 1 _ rfl);have b2:=zad HBR.out hgl (k*4+2) (hmk 2 _ rfl);have b3:=zad HBR.out hgl (k*4+3) (hmk 3 _ rfl);have HM:=zaa (fun W=>m_sw (k-l.length) W (by omega));rw[hi] at HM;rw[hi] at b2;generalize mkI 1 ((k:Int)-l.length)=m at *;clear hmk hi;have k0:(0:Int)≤(k:Int):=by omega
    have g1:decide (k<l.length)=false:=by simp;omega
    have g2:decide (l.length≤k)=true:=by simp;omega
    have hin:(k:Int)<((l.length:Nat):Int)+12:=by omega
    go_wp2_with fail;refine zac (W:=wr) (by kernel_rfl) (by kernel_rfl) ?_
    repeat(go_big_quiet_step ((go_at_call 116;exact zaj.call (HM.out _))))
    refine wpQuiet_nil ?_;rintro _ ⟨s,rfl⟩;go_wp2_with fail;go_roundw
    case rel=>exact⟨k+1,by omega,by go_num,HBR.out.trans (s.below.mono HBR.out.size)⟩
    case measure=>simp[intOf];omega
   ·go_wp2_with fail
    go_ret;exact⟨rfl,HBR.out⟩
theorem zmY: ∀r∈zar zcx,r.length=4:=by
 intro r hr;obtain⟨i,_,rfl⟩:=List.mem_map.1 hr
 rfl
theorem zjY (v:Value) (G:Nat→Prop) (g c:Nat) (l:List zby) (w:World) (hv:Hid (DAt w (fun _=>True) v (.row 4 (l.map zby.cells)))) (hn:l.length≤1000000)
 (ho:Hid (LL 4 (zar zcx) (EF zbV) w G (.slice (some ⟨g,0,none⟩) l.length c) l)):
 Calls prog 66 #[.slice (some ⟨g,0,none⟩) l.length c,v] w fun e w'=>e= .returned (.bool true)∧Below w.heap.size w w':=by
 obtain⟨hc1,hc2,hgl⟩:=ho.out.fits;unfold maxLen at hc2;obtain⟨A,q,rfl,hA⟩:=hv.out.slice;have HA:=zaa hA;clear hA hv;rw[List.length_map];have hnn:((l.length:Int) != (l.length:Int))=false:=by simp
 go_enter func66,ntmps66
 go_wp2_with fail
 go_loopw [6] (fun v6 wr=> ∃k:Nat,k≤l.length+12∧v6= .int .i64 k∧Below w.heap.size w wr) (fun v6 _=>l.length+12-(intOf v6).toNat)
 case atStart=>exact⟨0,by omega,rfl,Below.refl _ _⟩
 case round=>
  obtain⟨k,hk,rfl,hbr⟩:=hrel;have HBR:=zaa hbr;clear hbr;by_cases hlt:k<l.length
  ·obtain⟨x,hx⟩: ∃x,l[k]? =some x:=⟨_,List.getElem?_eq_getElem hlt⟩
   obtain⟨bA,oA,rfl,hbA,hcaA⟩:=HA.out.at_ hx;obtain⟨r,hE,hcB⟩:=LL.at_ zbz ho.out hx;obtain rfl:r=zbV x:=hE;have a0:=zad HBR.out hbA (oA+k*4) (hcaA 0 _ rfl).leafc;have b0:=zad HBR.out hgl (k*4) (hcB 0 _ rfl);have a1:=zad HBR.out hbA (oA+k*4+1) (hcaA 1 _ rfl).leafc;have b1:=zad HBR.out hgl (k*4+1) (hcB 1 _ rfl);have a2:=zad HBR.out hbA (oA+k*4+2) (hcaA 2 _ rfl).leafc;have b2:=zad HBR.out hgl (k*4+2) (hcB 2 _ rfl);have a3:=zad HBR.out hbA (oA+k*4+3) (hcaA 3 _ rfl).leafc;have b3:=zad HBR.out hgl (k*4+3) (hcB 3 _ rfl);simp only[zav] at a0 b0 a1 b1;clear hcaA hcB hx;have k0:(0:Int)≤(k:Int):=by omega
   have g2:decide (l.length≤k)=false:=by simp;omega
   go_wp2_with fail;go_quiet (fail);go_wp2_with fail;go_roundw
   case rel=>exact⟨k+1,by omega,by go_num,HBR.out.trans ⟨rfl,rfl,rfl,Nat.le_refl _,fun _ _=>rfl⟩⟩
   case measure=>simp[intOf];omega
  ·by_cases hlt2:k<l.length+12
   ·have hmk:=LL.mark zbz ho.out (zbs (f:=zcx) (show k-l.length<12 by omega)) zmY
    rw[show l.length+(k-l.length)=k by omega] at hmk;have hi:((k-l.length:Nat):Int)=(k:Int)-l.length:=by omega
    have hgl2:g<wr.heap.size:=Nat.lt_of_lt_of_le hgl HBR.out.size;have b0:=zad HBR.out hgl (k*4) (hmk 0 _ rfl);have b1:=zad HBR.out hgl (k*4+1) (hmk 1 _ rfl);have b2:=zad HBR.out hgl (k*4+2) (hmk 2 _ rfl);have b3:=zad HBR.out hgl (k*4+3) (hmk 3 _ rfl);have HM:=zaa (fun W=>zmu (k-l.length) W (by omega));rw[hi] at HM;rw[hi] at b3;generalize mkI 1 ((k:Int)-l.length)=m at *;clear hmk hi;have k0:(0:Int)≤(k:Int):=by omega
    have g1:decide (k<l.length)=false:=by simp;omega
    have g2:decide (l.length≤k)=true:=by simp;omega
    have hin:(k:Int)<((l.length:Nat):Int)+12:=by omega
    go_wp2_with fail;refine zac (W:=wr) (by kernel_rfl) (by kernel_rfl) ?_
    repeat(go_big_quiet_step ((go_at_call 117;exact zaj.call (HM.out _))))
    refine wpQuiet_nil ?_;rintro _ ⟨s,rfl⟩;go_wp2_with fail;go_roundw
    case rel=>exact⟨k+1,by omega,by go_num,HBR.out.trans (s.below.mono HBR.out.size)⟩
    case measure=>simp[intOf];omega
   ·go_wp2_with fail
    go_ret;exact⟨rfl,HBR.out⟩
theorem zkr: ∀r∈zar zbA,r.length=5:=by
 intro r hr;obtain⟨i,_,rfl⟩:=List.mem_map.1 hr
 rfl
theorem zg2 (v:Value) (G:Nat→Prop) (g c:Nat) (l:List zaB) (w:World) (hv:Hid (DAt w (fun _=>True) v (.row 5 (l.map zaB.cells)))) (hn:l.length≤1000000)
 (ho:Hid (LL 5 (zar zbA) (EF za8) w G (.slice (some ⟨g,0,none⟩) l.length c) l)):
 Calls prog 68 #[.slice (some ⟨g,0,none⟩) l.length c,v] w fun e w'=>e= .returned (.bool true)∧Below w.heap.size w w':=by
 obtain⟨hc1,hc2,hgl⟩:=ho.out.fits;unfold maxLen at hc2;obtain⟨A,q,rfl,hA⟩:=hv.out.slice;have HA:=zaa hA;clear hA hv;rw[List.length_map];have hnn:((l.length:Int) != (l.length:Int))=false:=by simp
 go_enter func68,ntmps68
 go_wp2_with fail
 go_loopw [6] (fun v6 wr=> ∃k:Nat,k≤l.length+12∧v6= .int .i64 k∧Below w.heap.size w wr) (fun v6 _=>l.length+12-(intOf v6).toNat)
 case atStart=>exact⟨0,by omega,rfl,Below.refl _ _⟩
 case round=>
  obtain⟨k,hk,rfl,hbr⟩:=hrel;have HBR:=zaa hbr;clear hbr;by_cases hlt:k<l.length
  ·obtain⟨x,hx⟩: ∃x,l[k]? =some x:=⟨_,List.getElem?_eq_getElem hlt⟩
   obtain⟨bA,oA,rfl,hbA,hcaA⟩:=HA.out.at_ hx;obtain⟨r,hE,hcB⟩:=LL.at_ zbf ho.out hx;obtain rfl:r=za8 x:=hE;have a0:=zad HBR.out hbA (oA+k*5) (hcaA 0 _ rfl).leafc;have b0:=zad HBR.out hgl (k*5) (hcB 0 _ rfl);have a1:=zad HBR.out hbA (oA+k*5+1) (hcaA 1 _ rfl).leafc;have b1:=zad HBR.out hgl (k*5+1) (hcB 1 _ rfl);have a2:=zad HBR.out hbA (oA+k*5+2) (hcaA 2 _ rfl).leafc;have b2:=zad HBR.out hgl (k*5+2) (hcB 2 _ rfl);have a3:=zad HBR.out hbA (oA+k*5+3) (hcaA 3 _ rfl).leafc;have b3:=zad HBR.out hgl (k*5+3) (hcB 3 _ rfl);have a4:=zad HBR.out hbA (oA+k*5+4) (hcaA 4 _ rfl).leafc;have b4:=zad HBR.out hgl (k*5+4) (hcB 4 _ rfl);simp only[zav] at a0 b0 a1 b1;clear hcaA hcB hx;have k0:(0:Int)≤(k:Int):=by omega
   have g2:decide (l.length≤k)=false:=by simp;omega
   go_wp2_with fail;go_quiet (fail);go_wp2_with fail;go_roundw
   case rel=>exact⟨k+1,by omega,by go_num,HBR.out.trans ⟨rfl,rfl,rfl,Nat.le_refl _,fun _ _=>rfl⟩⟩
   case measure=>simp[intOf];omega
  ·by_cases hlt2:k<l.length+12
   ·have hmk:=LL.mark zbf ho.out (zbs (f:=zbA) (show k-l.length<12 by omega)) zkr
    rw[show l.length+(k-l.length)=k by omega] at hmk;have hi:((k-l.length:Nat):Int)=(k:Int)-l.length:=by omega
    have hgl2:g<wr.heap.size:=Nat.lt_of_lt_of_le hgl HBR.out.size;have b0:=zad HBR.out hgl (k*5) (hmk 0 _ rfl);have b1:=zad HBR.out hgl (k*5+1) (hmk 1 _ rfl);have b2:=zad HBR.out hgl (k*5+2) (hmk 2 _ rfl);have b3:=zad HBR.out hgl (k*5+3) (hmk 3 _ rfl);have b4:=zad HBR.out hgl (k*5+4) (hmk 4 _ rfl);have HM:=zaa (fun W=>zhF (k-l.length) W (by omega));rw[hi] at HM;generalize mkS (k-l.length)=m at *;clear hmk hi;have k0:(0:Int)≤(k:Int):=by omega
    have g1:decide (k<l.length)=false:=by simp;omega
    have g2:decide (l.length≤k)=true:=by simp;omega
    have hin:(k:Int)<((l.length:Nat):Int)+12:=by omega
    go_wp2_with fail;refine zac (W:=wr) (by kernel_rfl) (by kernel_rfl) ?_
    repeat(go_big_quiet_step ((go_at_call 120;exact zaj.call (HM.out _))))
    refine wpQuiet_nil ?_;rintro _ ⟨s,rfl⟩;go_wp2_with fail;go_roundw
    case rel=>exact⟨k+1,by omega,by go_num,HBR.out.trans (s.below.mono HBR.out.size)⟩
    case measure=>simp[intOf];omega
   ·go_wp2_with fail
    go_ret;exact⟨rfl,HBR.out⟩
theorem znT: ∀r∈zar zdz,r.length=4:=by
 intro r hr;obtain⟨i,_,rfl⟩:=List.mem_map.1 hr
 rfl
theorem zk6 (v:Value) (G:Nat→Prop) (g c:Nat) (l:List zdt) (w:World) (hv:Hid (DAt w (fun _=>True) v (.row 4 (l.map zdt.cells)))) (hn:l.length≤1000000)
 (ho:Hid (LL 4 (zar zdz) (EF zcD) w G (.slice (some ⟨g,0,none⟩) l.length c) l)):
 Calls prog 70 #[.slice (some ⟨g,0,none⟩) l.length c,v] w fun e w'=>e= .returned (.bool true)∧Below w.heap.size w w':=by
 obtain⟨hc1,hc2,hgl⟩:=ho.out.fits;unfold maxLen at hc2;obtain⟨A,q,rfl,hA⟩:=hv.out.slice;have HA:=zaa hA;clear hA hv;rw[List.length_map];have hnn:((l.length:Int) != (l.length:Int))=false:=by simp
 go_enter func70,ntmps70
 go_wp2_with fail
 go_loopw [6] (fun v6 wr=> ∃k:Nat,k≤l.length+12∧v6= .int .i64 k∧Below w.heap.size w wr) (fun v6 _=>l.length+12-(intOf v6).toNat)
 case atStart=>exact⟨0,by omega,rfl,Below.refl _ _⟩
 case round=>
  obtain⟨k,hk,rfl,hbr⟩:=hrel;have HBR:=zaa hbr;clear hbr;by_cases hlt:k<l.length
  ·obtain⟨x,hx⟩: ∃x,l[k]? =some x:=⟨_,List.getElem?_eq_getElem hlt⟩
   obtain⟨bA,oA,rfl,hbA,hcaA⟩:=HA.out.at_ hx;obtain⟨r,hE,hcB⟩:=LL.at_ zdO ho.out hx;obtain rfl:r=zcD x:=hE;have a0:=zad HBR.out hbA (oA+k*4) (hcaA 0 _ rfl).leafc;have b0:=zad HBR.out hgl (k*4) (hcB 0 _ rfl);have a1:=zad HBR.out hbA (oA+k*4+1) (hcaA 1 _ rfl).leafc;have b1:=zad HBR.out hgl (k*4+1) (hcB 1 _ rfl);have a2:=zad HBR.out hbA (oA+k*4+2) (hcaA 2 _ rfl).leafc;have b2:=zad HBR.out hgl (k*4+2) (hcB 2 _ rfl);have a3:=zad HBR.out hbA (oA+k*4+3) (hcaA 3 _ rfl).leafc;have b3:=zad HBR.out hgl (k*4+3) (hcB 3 _ rfl);simp only[zav] at a0 b0 a2 b2;clear hcaA hcB hx;have k0:(0:Int)≤(k:Int):=by omega
   have g2:decide (l.length≤k)=false:=by simp;omega
   go_wp2_with fail;go_quiet (fail);go_wp2_with fail;go_roundw
   case rel=>exact⟨k+1,by omega,by go_num,HBR.out.trans ⟨rfl,rfl,rfl,Nat.le_refl _,fun _ _=>rfl⟩⟩
   case measure=>simp[intOf];omega
  ·by_cases hlt2:k<l.length+12
   ·have hmk:=LL.mark zdO ho.out (zbs (f:=zdz) (show k-l.length<12 by omega)) znT
    rw[show l.length+(k-l.length)=k by omega] at hmk;have hi:((k-l.length:Nat):Int)=(k:Int)-l.length:=by omega
    have hgl2:g<wr.heap.size:=Nat.lt_of_lt_of_le hgl HBR.out.size;have b0:=zad HBR.out hgl (k*4) (hmk 0 _ rfl);have b1:=zad HBR.out hgl (k*4+1) (hmk 1 _ rfl);have b2:=zad HBR.out hgl (k*4+2) (hmk 2 _ rfl);have b3:=zad HBR.out hgl (k*4+3) (hmk 3 _ rfl);have HM:=zaa (fun W=>zoU (k-l.length) W (by omega));rw[hi] at HM;rw[hi] at b1;generalize mkI 1 ((k:Int)-l.length)=m at *;clear hmk hi;have k0:(0:Int)≤(k:Int):=by omega
    have g1:decide (k<l.length)=false:=by simp;omega
    have g2:decide (l.length≤k)=true:=by simp;omega
    have hin:(k:Int)<((l.length:Nat):Int)+12:=by omega
    go_wp2_with fail;refine zac (W:=wr) (by kernel_rfl) (by kernel_rfl) ?_
    repeat(go_big_quiet_step ((go_at_call 123;exact zaj.call (HM.out _))))
    refine wpQuiet_nil ?_;rintro _ ⟨s,rfl⟩;go_wp2_with fail;go_roundw
    case rel=>exact⟨k+1,by omega,by go_num,HBR.out.trans (s.below.mono HBR.out.size)⟩
    case measure=>simp[intOf];omega
   ·go_wp2_with fail
    go_ret;exact⟨rfl,HBR.out⟩
end Go.Proofs.YtgbfaompondolaaGreatDoor
