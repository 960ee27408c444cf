/- Merged texts of the walks and of the plain laws on which the statement leans.-/
import Derived.Test.YtgbfaompondolaaGreatDoorPk1
import Derived.Test.YtgbfaompondolaaGreatDoorPk27
set_option maxHeartbeats 4000000
set_option maxRecDepth 100000
namespace Go.Proofs.YtgbfaompondolaaGreatDoor
open Go.RowKit
attribute [local go_sem] zal.cell
theorem zbo {f:Nat→List Value} {i:Nat} (h:i<12):(zar f)[i]? =some (f i):=by
 unfold zar
 rw[List.getElem?_map,List.getElem?_range h]
 rfl
theorem LL.fits {α:Type} {size:Nat} {ms:List (List Value)} {E:Elt α} {w:World} {G:Nat→Prop} {g n c:Nat} {l:List α} (h:LL size ms E w G (.slice (some ⟨g,0,none⟩) n c) l):l.length+12≤c∧c≤maxLen∧g<w.heap.size:=by
 obtain⟨g',c',rows,e,h1,h2,h3,h4,h5,h6,h7⟩:=h
 injection e with e1 e2 e3
 injection e1 with e1
 injection e1 with e1
 subst e1 e3
 exact⟨h1,h2,h4⟩
theorem LL.mark {α:Type} {size:Nat} {ms:List (List Value)} {E:Elt α} {cells:α→List Dat} (hE:zcc E size cells) {w:World} {G:Nat→Prop} {g n c:Nat} {l:List α} (h:LL size ms E w G (.slice (some ⟨g,0,none⟩) n c) l) {i:Nat} {m:List Value} (hm:ms[i]? =some m) (hs: ∀r∈ms,r.length=size):
 ∀(j:Nat) u,m[j]? =some u→w.cell? ⟨g,(l.length+i)*size+j,none⟩=some u:=by
 obtain⟨g',c',rows,e,h1,h2,h3,h4,h5,h6,h7⟩:=h
 injection e with e1 e2 e3
 injection e1 with e1
 injection e1 with e1
 subst e1
 intro j u hu
 refine h7 _ u ?_
 have hj:j<size:=by rw[←hs m (List.mem_of_getElem? hm)];exact(List.getElem?_eq_some_iff.1 hu).1
 have hall: ∀r∈rows++ms,r.length=size:=by
  intro r hr
  rcases List.mem_append.1 hr with hr|hr
  ·obtain⟨q,hq,rfl⟩:=List.getElem_of_mem hr
   exact hE.wide _ _ _ _ (h6 q _ _ (List.getElem?_eq_getElem hq) (List.getElem?_eq_getElem (by omega)))
  ·exact hs r hr
 rw[zei (rows++ms) hall (l.length+i) j m (by rw[List.getElem?_append_right (by omega),h5,Nat.add_sub_cancel_left];exact hm) hj,hu]
theorem zoa: ∀r∈zar zc0,r.length=1:=by
 intro r hr
 obtain⟨i,_,rfl⟩:=List.mem_map.1 hr
 rfl
theorem zg1 (v:Value) (G:Nat→Prop) (g c:Nat) (l:List Int) (w:World) (hv:Hid (DAt w (fun _=>True) v (.row 1 (zah l)))) (hn:l.length≤1000000)
 (ho:Hid (LL 1 (zar zc0) (EF zcj) w G (.slice (some ⟨g,0,none⟩) l.length c) l)):
 Calls Tryz.prog 281 #[.slice (some ⟨g,0,none⟩) l.length c,v] w fun e w'=>e= .returned (.bool true)∧Below w.heap.size w w':=by
 obtain⟨hc1,hc2,hgl⟩:=ho.out.fits
 unfold maxLen at hc2
 obtain⟨A,q,rfl,hA⟩:=hv.out.slice
 have HA:=zaa hA
 clear hA hv
 rw[show(zah l).length=l.length by simp[zah]]
 have hnn:((l.length:Int) != (l.length:Int))=false:=by simp
 go_enter Tryz.func281,Tryz.ntmps281
 go_wp2_with fail
 go_loopw [6] (fun v6 wr=> ∃k:Nat,k≤l.length+12∧v6= .int .i64 k∧Below w.heap.size w wr) (fun v6 _=>l.length+12-(intOf v6).toNat)
 case atStart=>exact⟨0,by omega,rfl,Below.refl _ _⟩
 case round=>
  obtain⟨k,hk,rfl,hbr⟩:=hrel
  have HBR:=zaa hbr
  clear hbr
  by_cases hlt:k<l.length
  ·obtain⟨x,hx⟩: ∃x,l[k]? =some x:=⟨_,List.getElem?_eq_getElem hlt⟩
   obtain⟨bA,oA,rfl,hbA,hcaA⟩:=HA.out.at_ (cells:=fun n:Int=>[lI n]) hx
   obtain⟨r,hE,hcB⟩:=LL.at_ zbi ho.out hx
   obtain rfl:r=zcj x:=hE
   have a0:=zan HBR.out hbA (oA+k) (by simpa using(hcaA 0 _ rfl).leafc)
   have b0:=zan HBR.out hgl k (by simpa using hcB 0 _ rfl)
   clear hcaA hcB hx
   have k0:(0:Int)≤(k:Int):=by omega
   have g2:decide (l.length≤k)=false:=by simp;omega
   go_wp2_with fail
   go_quiet (fail)
   go_wp2_with fail
   go_roundw
   case rel=>exact⟨k+1,by omega,by go_num,HBR.out.trans ⟨rfl,rfl,rfl,Nat.le_refl _,fun _ _=>rfl⟩⟩
   case measure=>simp[intOf];omega
  ·by_cases hlt2:k<l.length+12
   ·have hmk:=LL.mark zbi ho.out (zbo (f:=zc0) (show k-l.length<12 by omega)) zoa
    rw[show l.length+(k-l.length)=k by omega] at hmk
    have hi:((k-l.length:Nat):Int)=(k:Int)-l.length:=by omega
    have hgl2:g<wr.heap.size:=Nat.lt_of_lt_of_le hgl HBR.out.size
    have b0:=zan HBR.out hgl k (by simpa using hmk 0 _ rfl)
    have HM:Hid (∀W,Calls Tryz.prog 190 #[.int .i64 1,.int .i64 ((k:Int)-l.length)] W fun e w'=>e= .returned (.int .i64 (mkI 1 ((k:Int)-l.length)))∧Below W.heap.size W w'):=zaa (fun W=>(zbM 1 ((k:Int)-l.length) W (by omega) (by omega) (by omega) (by omega)).mono (by rintro e w' ⟨rfl,rfl⟩;exact⟨rfl,Below.refl _ _⟩))
    rw[hi] at b0
    generalize mkI 1 ((k:Int)-l.length)=m at *
    clear hmk hi
    have k0:(0:Int)≤(k:Int):=by omega
    have g1:decide (k<l.length)=false:=by simp;omega
    have g2:decide (l.length≤k)=true:=by simp;omega
    have hin:(k:Int)<((l.length:Nat):Int)+12:=by omega
    go_wp2_with fail
    refine zaf (W:=wr) (by kernel_rfl) (by kernel_rfl) ?_
    repeat(go_big_quiet_step ((go_at_call 190;exact zal.call (HM.out _))))
    refine wpQuiet_nil ?_
    rintro _ ⟨s,rfl⟩
    go_wp2_with fail
    go_roundw
    case rel=>exact⟨k+1,by omega,by go_num,HBR.out.trans (s.below.mono HBR.out.size)⟩
    case measure=>simp[intOf];omega
   ·go_wp2_with fail
    go_ret
    exact⟨rfl,HBR.out⟩
theorem zn9: ∀r∈zar zdb,r.length=1:=by
 intro r hr
 obtain⟨i,_,rfl⟩:=List.mem_map.1 hr
 rfl
theorem zk5 (v:Value) (G:Nat→Prop) (g c:Nat) (l:List (List UInt8)) (w:World) (hv:Hid (DAt w (fun _=>True) v (.row 1 (zao l)))) (hn:l.length≤1000000)
 (ho:Hid (LL 1 (zar zdb) (EF zcs) w G (.slice (some ⟨g,0,none⟩) l.length c) l)):
 Calls Tryz.prog 205 #[.slice (some ⟨g,0,none⟩) l.length c,v] w fun e w'=>e= .returned (.bool true)∧Below w.heap.size w w':=by
 obtain⟨hc1,hc2,hgl⟩:=ho.out.fits
 unfold maxLen at hc2
 obtain⟨A,q,rfl,hA⟩:=hv.out.slice
 have HA:=zaa hA
 clear hA hv
 rw[show(zao l).length=l.length by simp[zao]]
 have hnn:((l.length:Int) != (l.length:Int))=false:=by simp
 go_enter Tryz.func205,Tryz.ntmps205
 go_wp2_with fail
 go_loopw [6] (fun v6 wr=> ∃k:Nat,k≤l.length+12∧v6= .int .i64 k∧Below w.heap.size w wr) (fun v6 _=>l.length+12-(intOf v6).toNat)
 case atStart=>exact⟨0,by omega,rfl,Below.refl _ _⟩
 case round=>
  obtain⟨k,hk,rfl,hbr⟩:=hrel
  have HBR:=zaa hbr
  clear hbr
  by_cases hlt:k<l.length
  ·obtain⟨x,hx⟩: ∃x,l[k]? =some x:=⟨_,List.getElem?_eq_getElem hlt⟩
   obtain⟨bA,oA,rfl,hbA,hcaA⟩:=HA.out.at_ (cells:=fun s:List UInt8=>[lS s]) hx
   obtain⟨r,hE,hcB⟩:=LL.at_ zdk ho.out hx
   obtain rfl:r=zcs x:=hE
   have a0:=zan HBR.out hbA (oA+k) (by simpa using(hcaA 0 _ rfl).leafc)
   have b0:=zan HBR.out hgl k (by simpa using hcB 0 _ rfl)
   simp only[zaF] at a0 b0
   clear hcaA hcB hx
   have k0:(0:Int)≤(k:Int):=by omega
   have g2:decide (l.length≤k)=false:=by simp;omega
   go_wp2_with fail
   go_quiet (fail)
   go_wp2_with fail
   go_roundw
   case rel=>exact⟨k+1,by omega,by go_num,HBR.out.trans ⟨rfl,rfl,rfl,Nat.le_refl _,fun _ _=>rfl⟩⟩
   case measure=>simp[intOf];omega
  ·by_cases hlt2:k<l.length+12
   ·have hmk:=LL.mark zdk ho.out (zbo (f:=zdb) (show k-l.length<12 by omega)) zn9
    rw[show l.length+(k-l.length)=k by omega] at hmk
    have hi:((k-l.length:Nat):Int)=(k:Int)-l.length:=by omega
    have hgl2:g<wr.heap.size:=Nat.lt_of_lt_of_le hgl HBR.out.size
    have b0:=zan HBR.out hgl k (by simpa using hmk 0 _ rfl)
    have HM:=zaa (fun W=>zb0 (k-l.length) W (by omega))
    rw[hi] at HM
    generalize mkS (k-l.length)=m at *
    clear hmk hi
    have k0:(0:Int)≤(k:Int):=by omega
    have g1:decide (k<l.length)=false:=by simp;omega
    have g2:decide (l.length≤k)=true:=by simp;omega
    have hin:(k:Int)<((l.length:Nat):Int)+12:=by omega
    go_wp2_with fail
    refine zaf (W:=wr) (by kernel_rfl) (by kernel_rfl) ?_
    repeat(go_big_quiet_step ((go_at_call 195;exact zal.call (HM.out _))))
    refine wpQuiet_nil ?_
    rintro _ ⟨s,rfl⟩
    go_wp2_with fail
    go_roundw
    case rel=>exact⟨k+1,by omega,by go_num,HBR.out.trans (s.below.mono HBR.out.size)⟩
    case measure=>simp[intOf];omega
   ·go_wp2_with fail
    go_ret
    exact⟨rfl,HBR.out⟩
theorem znG: ∀r∈zar zdd,r.length=4:=by
 intro r hr
 obtain⟨i,_,rfl⟩:=List.mem_map.1 hr
 rfl
theorem zkA (v:Value) (G:Nat→Prop) (g c:Nat) (l:List zbU) (w:World) (hv:Hid (DAt w (fun _=>True) v (.row 4 (l.map zbU.cells)))) (hn:l.length≤1000000)
 (ho:Hid (LL 4 (zar zdd) (EF zct) w G (.slice (some ⟨g,0,none⟩) l.length c) l)):
 Calls Tryz.prog 24 #[.slice (some ⟨g,0,none⟩) l.length c,v] w fun e w'=>e= .returned (.bool true)∧Below w.heap.size w w':=by
 obtain⟨hc1,hc2,hgl⟩:=ho.out.fits
 unfold maxLen at hc2
 obtain⟨A,q,rfl,hA⟩:=hv.out.slice
 have HA:=zaa hA
 clear hA hv
 rw[List.length_map]
 have hnn:((l.length:Int) != (l.length:Int))=false:=by simp
 go_enter Tryz.func24,Tryz.ntmps24
 go_wp2_with fail
 go_loopw [6] (fun v6 wr=> ∃k:Nat,k≤l.length+12∧v6= .int .i64 k∧Below w.heap.size w wr) (fun v6 _=>l.length+12-(intOf v6).toNat)
 case atStart=>exact⟨0,by omega,rfl,Below.refl _ _⟩
 case round=>
  obtain⟨k,hk,rfl,hbr⟩:=hrel
  have HBR:=zaa hbr
  clear hbr
  by_cases hlt:k<l.length
  ·obtain⟨x,hx⟩: ∃x,l[k]? =some x:=⟨_,List.getElem?_eq_getElem hlt⟩
   obtain⟨bA,oA,rfl,hbA,hcaA⟩:=HA.out.at_ hx
   obtain⟨r,hE,hcB⟩:=LL.at_ zds ho.out hx
   obtain rfl:r=zct x:=hE
   have a0:=zan HBR.out hbA (oA+k*4) (hcaA 0 _ rfl).leafc
   have b0:=zan HBR.out hgl (k*4) (hcB 0 _ rfl)
   have a1:=zan HBR.out hbA (oA+k*4+1) (hcaA 1 _ rfl).leafc
   have b1:=zan HBR.out hgl (k*4+1) (hcB 1 _ rfl)
   have a2:=zan HBR.out hbA (oA+k*4+2) (hcaA 2 _ rfl).leafc
   have b2:=zan HBR.out hgl (k*4+2) (hcB 2 _ rfl)
   have a3:=zan HBR.out hbA (oA+k*4+3) (hcaA 3 _ rfl).leafc
   have b3:=zan HBR.out hgl (k*4+3) (hcB 3 _ rfl)
   clear hcaA hcB hx
   have k0:(0:Int)≤(k:Int):=by omega
   have g2:decide (l.length≤k)=false:=by simp;omega
   go_wp2_with fail
   go_quiet (fail)
   go_wp2_with fail
   go_roundw
   case rel=>exact⟨k+1,by omega,by go_num,HBR.out.trans ⟨rfl,rfl,rfl,Nat.le_refl _,fun _ _=>rfl⟩⟩
   case measure=>simp[intOf];omega
  ·by_cases hlt2:k<l.length+12
   ·have hmk:=LL.mark zds ho.out (zbo (f:=zdd) (show k-l.length<12 by omega)) znG
    rw[show l.length+(k-l.length)=k by omega] at hmk
    have hi:((k-l.length:Nat):Int)=(k:Int)-l.length:=by omega
    have hgl2:g<wr.heap.size:=Nat.lt_of_lt_of_le hgl HBR.out.size
    have b0:=zan HBR.out hgl (k*4) (hmk 0 _ rfl)
    have b1:=zan HBR.out hgl (k*4+1) (hmk 1 _ rfl)
    have b2:=zan HBR.out hgl (k*4+2) (hmk 2 _ rfl)
    have b3:=zan HBR.out hgl (k*4+3) (hmk 3 _ rfl)
    have HM:=zaa (fun W=>znj (k-l.length) W (by omega))
    rw[hi] at HM
    rw[hi] at b1
    generalize mkI 1 ((k:Int)-l.length)=m at *
    clear hmk hi
    have k0:(0:Int)≤(k:Int):=by omega
    have g1:decide (k<l.length)=false:=by simp;omega
    have g2:decide (l.length≤k)=true:=by simp;omega
    have hin:(k:Int)<((l.length:Nat):Int)+12:=by omega
    go_wp2_with fail
    refine zaf (W:=wr) (by kernel_rfl) (by kernel_rfl) ?_
    repeat(go_big_quiet_step ((go_at_call 109;exact zal.call (HM.out _))))
    refine wpQuiet_nil ?_
    rintro _ ⟨s,rfl⟩
    go_wp2_with fail
    go_roundw
    case rel=>exact⟨k+1,by omega,by go_num,HBR.out.trans (s.below.mono HBR.out.size)⟩
    case measure=>simp[intOf];omega
   ·go_wp2_with fail
    go_ret
    exact⟨rfl,HBR.out⟩
theorem zn4: ∀r∈zar zdc,r.length=2:=by
 intro r hr
 obtain⟨i,_,rfl⟩:=List.mem_map.1 hr
 rfl
theorem zkf (v:Value) (G:Nat→Prop) (g c:Nat) (l:List zck) (w:World) (hv:Hid (DAt w (fun _=>True) v (.row 2 (l.map zck.cells)))) (hn:l.length≤1000000)
 (ho:Hid (LL 2 (zar zdc) (EF zcu) w G (.slice (some ⟨g,0,none⟩) l.length c) l)):
 Calls Tryz.prog 204 #[.slice (some ⟨g,0,none⟩) l.length c,v] w fun e w'=>e= .returned (.bool true)∧Below w.heap.size w w':=by
 obtain⟨hc1,hc2,hgl⟩:=ho.out.fits
 unfold maxLen at hc2
 obtain⟨A,q,rfl,hA⟩:=hv.out.slice
 have HA:=zaa hA
 clear hA hv
 rw[List.length_map]
 have hnn:((l.length:Int) != (l.length:Int))=false:=by simp
 go_enter Tryz.func204,Tryz.ntmps204
 go_wp2_with fail
 go_loopw [6] (fun v6 wr=> ∃k:Nat,k≤l.length+12∧v6= .int .i64 k∧Below w.heap.size w wr) (fun v6 _=>l.length+12-(intOf v6).toNat)
 case atStart=>exact⟨0,by omega,rfl,Below.refl _ _⟩
 case round=>
  obtain⟨k,hk,rfl,hbr⟩:=hrel
  have HBR:=zaa hbr
  clear hbr
  by_cases hlt:k<l.length
  ·obtain⟨x,hx⟩: ∃x,l[k]? =some x:=⟨_,List.getElem?_eq_getElem hlt⟩
   obtain⟨bA,oA,rfl,hbA,hcaA⟩:=HA.out.at_ hx
   obtain⟨r,hE,hcB⟩:=LL.at_ zcY ho.out hx
   obtain rfl:r=zcu x:=hE
   have a0:=zan HBR.out hbA (oA+k*2) (hcaA 0 _ rfl).leafc
   have b0:=zan HBR.out hgl (k*2) (hcB 0 _ rfl)
   have a1:=zan HBR.out hbA (oA+k*2+1) (hcaA 1 _ rfl).leafc
   have b1:=zan HBR.out hgl (k*2+1) (hcB 1 _ rfl)
   simp only[zaF] at a0 b0
   clear hcaA hcB hx
   have k0:(0:Int)≤(k:Int):=by omega
   have g2:decide (l.length≤k)=false:=by simp;omega
   go_wp2_with fail
   go_quiet (fail)
   go_wp2_with fail
   go_roundw
   case rel=>exact⟨k+1,by omega,by go_num,HBR.out.trans ⟨rfl,rfl,rfl,Nat.le_refl _,fun _ _=>rfl⟩⟩
   case measure=>simp[intOf];omega
  ·by_cases hlt2:k<l.length+12
   ·have hmk:=LL.mark zcY ho.out (zbo (f:=zdc) (show k-l.length<12 by omega)) zn4
    rw[show l.length+(k-l.length)=k by omega] at hmk
    have hi:((k-l.length:Nat):Int)=(k:Int)-l.length:=by omega
    have hgl2:g<wr.heap.size:=Nat.lt_of_lt_of_le hgl HBR.out.size
    have b0:=zan HBR.out hgl (k*2) (hmk 0 _ rfl)
    have b1:=zan HBR.out hgl (k*2+1) (hmk 1 _ rfl)
    have HM:=zaa (fun W=>znq (k-l.length) W (by omega))
    rw[hi] at HM
    rw[hi] at b1
    generalize mkI 1 ((k:Int)-l.length)=m at *
    clear hmk hi
    have k0:(0:Int)≤(k:Int):=by omega
    have g1:decide (k<l.length)=false:=by simp;omega
    have g2:decide (l.length≤k)=true:=by simp;omega
    have hin:(k:Int)<((l.length:Nat):Int)+12:=by omega
    go_wp2_with fail
    refine zaf (W:=wr) (by kernel_rfl) (by kernel_rfl) ?_
    repeat(go_big_quiet_step ((go_at_call 246;exact zal.call (HM.out _))))
    refine wpQuiet_nil ?_
    rintro _ ⟨s,rfl⟩
    go_wp2_with fail
    go_roundw
    case rel=>exact⟨k+1,by omega,by go_num,HBR.out.trans (s.below.mono HBR.out.size)⟩
    case measure=>simp[intOf];omega
   ·go_wp2_with fail
    go_ret
    exact⟨rfl,HBR.out⟩
theorem znm: ∀r∈zar zcX,r.length=3:=by
 intro r hr
 obtain⟨i,_,rfl⟩:=List.mem_map.1 hr
 rfl
theorem zgS (v:Value) (G:Nat→Prop) (g c:Nat) (l:List zb2) (w:World) (hv:Hid (DAt w (fun _=>True) v (.row 3 (l.map zb2.cells)))) (hn:l.length≤1000000)
 (ho:Hid (LL 3 (zar zcX) (EF zch) w G (.slice (some ⟨g,0,none⟩) l.length c) l)):
 Calls Tryz.prog 203 #[.slice (some ⟨g,0,none⟩) l.length c,v] w fun e w'=>e= .returned (.bool true)∧Below w.heap.size w w':=by
 obtain⟨hc1,hc2,hgl⟩:=ho.out.fits
 unfold maxLen at hc2
 obtain⟨A,q,rfl,hA⟩:=hv.out.slice
 have HA:=zaa hA
 clear hA hv
 rw[List.length_map]
 have hnn:((l.length:Int) != (l.length:Int))=false:=by simp
 go_enter Tryz.func203,Tryz.ntmps203
 go_wp2_with fail
 go_loopw [6] (fun v6 wr=> ∃k:Nat,k≤l.length+12∧v6= .int .i64 k∧Below w.heap.size w wr) (fun v6 _=>l.length+12-(intOf v6).toNat)
 case atStart=>exact⟨0,by omega,rfl,Below.refl _ _⟩
 case round=>
  obtain⟨k,hk,rfl,hbr⟩:=hrel
  have HBR:=zaa hbr
  clear hbr
  by_cases hlt:k<l.length
  ·obtain⟨x,hx⟩: ∃x,l[k]? =some x:=⟨_,List.getElem?_eq_getElem hlt⟩
   obtain⟨bA,oA,rfl,hbA,hcaA⟩:=HA.out.at_ hx
   obtain⟨r,hE,hcB⟩:=LL.at_ zb7 ho.out hx
   obtain rfl:r=zch x:=hE
   have a0:=zan HBR.out hbA (oA+k*3) (hcaA 0 _ rfl).leafc
   have b0:=zan HBR.out hgl (k*3) (hcB 0 _ rfl)
   have a1:=zan HBR.out hbA (oA+k*3+1) (hcaA 1 _ rfl).leafc
   have b1:=zan HBR.out hgl (k*3+1) (hcB 1 _ rfl)
   have a2:=zan HBR.out hbA (oA+k*3+2) (hcaA 2 _ rfl).leafc
   have b2:=zan HBR.out hgl (k*3+2) (hcB 2 _ rfl)
   simp only[zaF] at a0 b0 a1 b1 a2 b2
   clear hcaA hcB hx
   have k0:(0:Int)≤(k:Int):=by omega
   have g2:decide (l.length≤k)=false:=by simp;omega
   go_wp2_with fail
   go_quiet (fail)
   go_wp2_with fail
   go_roundw
   case rel=>exact⟨k+1,by omega,by go_num,HBR.out.trans ⟨rfl,rfl,rfl,Nat.le_refl _,fun _ _=>rfl⟩⟩
   case measure=>simp[intOf];omega
  ·by_cases hlt2:k<l.length+12
   ·have hmk:=LL.mark zb7 ho.out (zbo (f:=zcX) (show k-l.length<12 by omega)) znm
    rw[show l.length+(k-l.length)=k by omega] at hmk
    have hi:((k-l.length:Nat):Int)=(k:Int)-l.length:=by omega
    have hgl2:g<wr.heap.size:=Nat.lt_of_lt_of_le hgl HBR.out.size
    have b0:=zan HBR.out hgl (k*3) (hmk 0 _ rfl)
    have b1:=zan HBR.out hgl (k*3+1) (hmk 1 _ rfl)
    have b2:=zan HBR.out hgl (k*3+2) (hmk 2 _ rfl)
    have HM:=zaa (fun W=>znA (k-l.length) W (by omega))
    rw[hi] at HM
    generalize mkS (k-l.length)=m at *
    clear hmk hi
    have k0:(0:Int)≤(k:Int):=by omega
    have g1:decide (k<l.length)=false:=by simp;omega
    have g2:decide (l.length≤k)=true:=by simp;omega
    have hin:(k:Int)<((l.length:Nat):Int)+12:=by omega
    go_wp2_with fail
    refine zaf (W:=wr) (by kernel_rfl) (by kernel_rfl) ?_
    repeat(go_big_quiet_step ((go_at_call 245;exact zal.call (HM.out _))))
    refine wpQuiet_nil ?_
    rintro _ ⟨s,rfl⟩
    go_wp2_with fail
    go_roundw
    case rel=>exact⟨k+1,by omega,by go_num,HBR.out.trans (s.below.mono HBR.out.size)⟩
    case measure=>simp[intOf];omega
   ·go_wp2_with fail
    go_ret
    exact⟨rfl,HBR.out⟩
theorem zmi: ∀r∈zar zcp,r.length=6:=by
 intro r hr
 obtain⟨i,_,rfl⟩:=List.mem_map.1 hr
 rfl
theorem zit (v:Value) (G:Nat→Prop) (g c:Nat) (l:List zaT) (w:World) (hv:Hid (DAt w (fun _=>True) v (.row 6 (l.map zaT.cells)))) (hn:l.length≤1000000)
 (ho:Hid (LL 6 (zar zcp) (EF zbP) w G (.slice (some ⟨g,0,none⟩) l.length c) l)):
 Calls Tryz.prog 282 #[.slice (some ⟨g,0,none⟩) l.length c,v] w fun e w'=>e= .returned (.bool true)∧Below w.heap.size w w':=by
 obtain⟨hc1,hc2,hgl⟩:=ho.out.fits
 unfold maxLen at hc2
 obtain⟨A,q,rfl,hA⟩:=hv.out.slice
 have HA:=zaa hA
 clear hA hv
 rw[List.length_map]
 have hnn:((l.length:Int) != (l.length:Int))=false:=by simp
 go_enter Tryz.func282,Tryz.ntmps282
 go_wp2_with fail
 go_loopw [6] (fun v6 wr=> ∃k:Nat,k≤l.length+12∧v6= .int .i64 k∧Below w.heap.size w wr) (fun v6 _=>l.length+12-(intOf v6).toNat)
 case atStart=>exact⟨0,by omega,rfl,Below.refl _ _⟩
 case round=>
  obtain⟨k,hk,rfl,hbr⟩:=hrel
  have HBR:=zaa hbr
  clear hbr
  by_cases hlt:k<l.length
  ·obtain⟨x,hx⟩: ∃x,l[k]? =some x:=⟨_,List.getElem?_eq_getElem hlt⟩
   obtain⟨bA,oA,rfl,hbA,hcaA⟩:=HA.out.at_ hx
   obtain⟨r,hE,hcB⟩:=LL.at_ zce ho.out hx
   obtain rfl:r=zbP x:=hE
   have a0:=zan HBR.out hbA (oA+k*6) (hcaA 0 _ rfl).leafc
   have b0:=zan HBR.out hgl (k*6) (hcB 0 _ rfl)
   have a1:=zan HBR.out hbA (oA+k*6+1) (hcaA 1 _ rfl).leafc
   have b1:=zan HBR.out hgl (k*6+1) (hcB 1 _ rfl)
   have a2:=zan HBR.out hbA (oA+k*6+2) (hcaA 2 _ rfl).leafc
   have b2:=zan HBR.out hgl (k*6+2) (hcB 2 _ rfl)
   have a3:=zan HBR.out hbA (oA+k*6+3) (hcaA 3 _ rfl).leafc
   have b3:=zan HBR.out hgl (k*6+3) (hcB 3 _ rfl)
   have a4:=zan HBR.out hbA (oA+k*6+4) (hcaA 4 _ rfl).leafc
   have b4:=zan HBR.out hgl (k*6+4) (hcB 4 _ rfl)
   have a5:=zan HBR.out hbA (oA+k*6+5) (hcaA 5 _ rfl).leafc
   have b5:=zan HBR.out hgl (k*6+5) (hcB 5 _ rfl)
   simp only[zaF] at a0 b0
   clear hcaA hcB hx
   have k0:(0:Int)≤(k:Int):=by omega
   have g2:decide (l.length≤k)=false:=by simp;omega
   go_wp2_with fail
   go_quiet (fail)
   go_wp2_with fail
   go_roundw
   case rel=>exact⟨k+1,by omega,by go_num,HBR.out.trans ⟨rfl,rfl,rfl,Nat.le_refl _,fun _ _=>rfl⟩⟩
   case measure=>simp[intOf];omega
  ·by_cases hlt2:k<l.length+12
   ·have hmk:=LL.mark zce ho.out (zbo (f:=zcp) (show k-l.length<12 by omega)) zmi
    rw[show l.length+(k-l.length)=k by omega] at hmk
    have hi:((k-l.length:Nat):Int)=(k:Int)-l.length:=by omega
    have hgl2:g<wr.heap.size:=Nat.lt_of_lt_of_le hgl HBR.out.size
    have b0:=zan HBR.out hgl (k*6) (hmk 0 _ rfl)
    have b1:=zan HBR.out hgl (k*6+1) (hmk 1 _ rfl)
    have b2:=zan HBR.out hgl (k*6+2) (hmk 2 _ rfl)
    have b3:=zan HBR.out hgl (k*6+3) (hmk 3 _ rfl)
    have b4:=zan HBR.out hgl (k*6+4) (hmk 4 _ rfl)
    have b5:=zan HBR.out hgl (k*6+5) (hmk 5 _ rfl)
    have HM:=zaa (fun W=>zlw (k-l.length) W (by omega))
    rw[hi] at HM
    rw[hi] at b3
    generalize mkI 1 ((k:Int)-l.length)=m at *
    clear hmk hi
    have k0:(0:Int)≤(k:Int):=by omega
    have g1:decide (k<l.length)=false:=by simp;omega
    have g2:decide (l.length≤k)=true:=by simp;omega
    have hin:(k:Int)<((l.length:Nat):Int)+12:=by omega
    go_wp2_with fail
    refine zaf (W:=wr) (by kernel_rfl) (by kernel_rfl) ?_
    repeat(go_big_quiet_step ((go_at_call 303;exact zal.call (HM.out _))))
    refine wpQuiet_nil ?_
    rintro _ ⟨s,rfl⟩
    go_wp2_with fail
    go_roundw
    case rel=>exact⟨k+1,by omega,by go_num,HBR.out.trans (s.below.mono HBR.out.size)⟩
    case measure=>simp[intOf];omega
   ·go_wp2_with fail
    go_ret
    exact⟨rfl,HBR.out⟩
theorem zoB: ∀r∈zar zew,r.length=4:=by
 intro r hr
 obtain⟨i,_,rfl⟩:=List.mem_map.1 hr
 rfl
theorem zmd (v:Value) (G:Nat→Prop) (g c:Nat) (l:List SwD) (w:World) (hv:Hid (DAt w (fun _=>True) v (.row 4 (l.map SwD.cells)))) (hn:l.length≤1000000)
 (ho:Hid (LL 4 (zar zew) (EF zdD) w G (.slice (some ⟨g,0,none⟩) l.length c) l)):
 Calls Tryz.prog 65 #[.slice (some ⟨g,0,none⟩) l.length c,v] w fun e w'=>e= .returned (.bool true)∧Below w.heap.size w w':=by
 obtain⟨hc1,hc2,hgl⟩:=ho.out.fits
 unfold maxLen at hc2
 obtain⟨A,q,rfl,hA⟩:=hv.out.slice
 have HA:=zaa hA
 clear hA hv
 rw[List.length_map]
 have hnn:((l.length:Int) != (l.length:Int))=false:=by simp
 go_enter Tryz.func65,Tryz.ntmps65
 go_wp2_with fail
 go_loopw [6] (fun v6 wr=> ∃k:Nat,k≤l.length+12∧v6= .int .i64 k∧Below w.heap.size w wr) (fun v6 _=>l.length+12-(intOf v6).toNat)
 case atStart=>exact⟨0,by omega,rfl,Below.refl _ _⟩
 case round=>
  obtain⟨k,hk,rfl,hbr⟩:=hrel
  have HBR:=zaa hbr
  clear hbr
  by_cases hlt:k<l.length
  ·obtain⟨x,hx⟩: ∃x,l[k]? =some x:=⟨_,List.getElem?_eq_getElem hlt⟩
   obtain⟨bA,oA,rfl,hbA,hcaA⟩:=HA.out.at_ hx
   obtain⟨r,hE,hcB⟩:=LL.at_ zcW ho.out hx
   obtain rfl:r=zdD x:=hE
   have a0:=zan HBR.out hbA (oA+k*4) (hcaA 0 _ rfl).leafc
   have b0:=zan HBR.out hgl (k*4) (hcB 0 _ rfl)
   have a1:=zan HBR.out hbA (oA+k*4+1) (hcaA 1 _ rfl).leafc
   have b1:=zan HBR.out hgl (k*4+1) (hcB 1 _ rfl)
   have a2:=zan HBR.out hbA (oA+k*4+2) (hcaA 2 _ rfl).leafc
   have b2:=zan HBR.out hgl (k*4+2) (hcB 2 _ rfl)
   have a3:=zan HBR.out hbA (oA+k*4+3) (hcaA 3 _ rfl).leafc
   have b3:=zan HBR.out hgl (k*4+3) (hcB 3 _ rfl)
   simp only[zaF] at a0 b0
   clear hcaA hcB hx
   have k0:(0:Int)≤(k:Int):=by omega
   have g2:decide (l.length≤k)=false:=by simp;omega
   go_wp2_with fail
   go_quiet (fail)
   go_wp2_with fail
   go_roundw
   case rel=>exact⟨k+1,by omega,by go_num,HBR.out.trans ⟨rfl,rfl,rfl,Nat.le_refl _,fun _ _=>rfl⟩⟩
   case measure=>simp[intOf];omega
  ·by_cases hlt2:k<l.length+12
   ·have hmk:=LL.mark zcW ho.out (zbo (f:=zew) (show k-l.length<12 by omega)) zoB
    rw[show l.length+(k-l.length)=k by omega] at hmk
    have hi:((k-l.length:Nat):Int)=(k:Int)-l.length:=by omega
    have hgl2:g<wr.heap.size:=Nat.lt_of_lt_of_le hgl HBR.out.size
    have b0:=zan HBR.out hgl (k*4) (hmk 0 _ rfl)
    have b1:=zan HBR.out hgl (k*4+1) (hmk 1 _ rfl)
    have b2:=zan HBR.out hgl (k*4+2) (hmk 2 _ rfl)
    have b3:=zan HBR.out hgl (k*4+3) (hmk 3 _ rfl)
    have HM:=zaa (fun W=>m_sw (k-l.length) W (by omega))
    rw[hi] at HM
    rw[hi] at b2
    generalize mkI 1 ((k:Int)-l.length)=m at *
    clear hmk hi
    have k0:(0:Int)≤(k:Int):=by omega
    have g1:decide (k<l.length)=false:=by simp;omega
    have g2:decide (l.length≤k)=true:=by simp;omega
    have hin:(k:Int)<((l.length:Nat):Int)+12:=by omega
    go_wp2_with fail
    refine zaf (W:=wr) (by kernel_rfl) (by kernel_rfl) ?_
    repeat(go_big_quiet_step ((go_at_call 116;exact zal.call (HM.out _))))
    refine wpQuiet_nil ?_
    rintro _ ⟨s,rfl⟩
    go_wp2_with fail
    go_roundw
    case rel=>exact⟨k+1,by omega,by go_num,HBR.out.trans (s.below.mono HBR.out.size)⟩
    case measure=>simp[intOf];omega
   ·go_wp2_with fail
    go_ret
    exact⟨rfl,HBR.out⟩
theorem zmb: ∀r∈zar zcq,r.length=4:=by
 intro r hr
 obtain⟨i,_,rfl⟩:=List.mem_map.1 hr
 rfl
theorem ziM (v:Value) (G:Nat→Prop) (g c:Nat) (l:List zbw) (w:World) (hv:Hid (DAt w (fun _=>True) v (.row 4 (l.map zbw.cells)))) (hn:l.length≤1000000)
 (ho:Hid (LL 4 (zar zcq) (EF zbO) w G (.slice (some ⟨g,0,none⟩) l.length c) l)):
 Calls Tryz.prog 66 #[.slice (some ⟨g,0,none⟩) l.length c,v] w fun e w'=>e= .returned (.bool true)∧Below w.heap.size w w':=by
 obtain⟨hc1,hc2,hgl⟩:=ho.out.fits
 unfold maxLen at hc2
 obtain⟨A,q,rfl,hA⟩:=hv.out.slice
 have HA:=zaa hA
 clear hA hv
 rw[List.length_map]
 have hnn:((l.length:Int) != (l.length:Int))=false:=by simp
 go_enter Tryz.func66,Tryz.ntmps66
 go_wp2_with fail
 go_loopw [6] (fun v6 wr=> ∃k:Nat,k≤l.length+12∧v6= .int .i64 k∧Below w.heap.size w wr) (fun v6 _=>l.length+12-(intOf v6).toNat)
 case atStart=>exact⟨0,by omega,rfl,Below.refl _ _⟩
 case round=>
  obtain⟨k,hk,rfl,hbr⟩:=hrel
  have HBR:=zaa hbr
  clear hbr
  by_cases hlt:k<l.length
  ·obtain⟨x,hx⟩: ∃x,l[k]? =some x:=⟨_,List.getElem?_eq_getElem hlt⟩
   obtain⟨bA,oA,rfl,hbA,hcaA⟩:=HA.out.at_ hx
   obtain⟨r,hE,hcB⟩:=LL.at_ zbx ho.out hx
   obtain rfl:r=zbO x:=hE
   have a0:=zan HBR.out hbA (oA+k*4) (hcaA 0 _ rfl).leafc
   have b0:=zan HBR.out hgl (k*4) (hcB 0 _ rfl)
   have a1:=zan HBR.out hbA (oA+k*4+1) (hcaA 1 _ rfl).leafc
   have b1:=zan HBR.out hgl (k*4+1) (hcB 1 _ rfl)
   have a2:=zan HBR.out hbA (oA+k*4+2) (hcaA 2 _ rfl).leafc
   have b2:=zan HBR.out hgl (k*4+2) (hcB 2 _ rfl)
   have a3:=zan HBR.out hbA (oA+k*4+3) (hcaA 3 _ rfl).leafc
   have b3:=zan HBR.out hgl (k*4+3) (hcB 3 _ rfl)
   simp only[zaF] at a0 b0 a1 b1
   clear hcaA hcB hx
   have k0:(0:Int)≤(k:Int):=by omega
   have g2:decide (l.length≤k)=false:=by simp;omega
   go_wp2_with fail
   go_quiet (fail)
   go_wp2_with fail
   go_roundw
   case rel=>exact⟨k+1,by omega,by go_num,HBR.out.trans ⟨rfl,rfl,rfl,Nat.le_refl _,fun _ _=>rfl⟩⟩
   case measure=>simp[intOf];omega
  ·by_cases hlt2:k<l.length+12
   ·have hmk:=LL.mark zbx ho.out (zbo (f:=zcq) (show k-l.length<12 by omega)) zmb
    rw[show l.length+(k-l.length)=k by omega] at hmk
    have hi:((k-l.length:Nat):Int)=(k:Int)-l.length:=by omega
    have hgl2:g<wr.heap.size:=Nat.lt_of_lt_of_le hgl HBR.out.size
    have b0:=zan HBR.out hgl (k*4) (hmk 0 _ rfl)
    have b1:=zan HBR.out hgl (k*4+1) (hmk 1 _ rfl)
    have b2:=zan HBR.out hgl (k*4+2) (hmk 2 _ rfl)
    have b3:=zan HBR.out hgl (k*4+3) (hmk 3 _ rfl)
    have HM:=zaa (fun W=>zlB (k-l.length) W (by omega))
    rw[hi] at HM
    rw[hi] at b3
    generalize mkI 1 ((k:Int)-l.length)=m at *
    clear hmk hi
    have k0:(0:Int)≤(k:Int):=by omega
    have g1:decide (k<l.length)=false:=by simp;omega
    have g2:decide (l.length≤k)=true:=by simp;omega
    have hin:(k:Int)<((l.length:Nat):Int)+12:=by omega
    go_wp2_with fail
    refine zaf (W:=wr) (by kernel_rfl) (by kernel_rfl) ?_
    repeat(go_big_quiet_step ((go_at_call 117;exact zal.call (HM.out _))))
    refine wpQuiet_nil ?_
    rintro _ ⟨s,rfl⟩
    go_wp2_with fail
    go_roundw
    case rel=>exact⟨k+1,by omega,by go_num,HBR.out.trans (s.below.mono HBR.out.size)⟩
    case measure=>simp[intOf];omega
   ·go_wp2_with fail
    go_ret
    exact⟨rfl,HBR.out⟩
theorem ziU: ∀r∈zar zby,r.length=5:=by
 intro r hr
 obtain⟨i,_,rfl⟩:=List.mem_map.1 hr
 rfl
theorem zgJ (v:Value) (G:Nat→Prop) (g c:Nat) (l:List zaH) (w:World) (hv:Hid (DAt w (fun _=>True) v (.row 5 (l.map zaH.cells)))) (hn:l.length≤1000000)
 (ho:Hid (LL 5 (zar zby) (EF zba) w G (.slice (some ⟨g,0,none⟩) l.length c) l)):
 Calls Tryz.prog 68 #[.slice (some ⟨g,0,none⟩) l.length c,v] w fun e w'=>e= .returned (.bool true)∧Below w.heap.size w w':=by
 obtain⟨hc1,hc2,hgl⟩:=ho.out.fits
 unfold maxLen at hc2
 obtain⟨A,q,rfl,hA⟩:=hv.out.slice
 have HA:=zaa hA
 clear hA hv
 rw[List.length_map]
 have hnn:((l.length:Int) != (l.length:Int))=false:=by simp
 go_enter Tryz.func68,Tryz.ntmps68
 go_wp2_with fail
 go_loopw [6] (fun v6 wr=> ∃k:Nat,k≤l.length+12∧v6= .int .i64 k∧Below w.heap.size w wr) (fun v6 _=>l.length+12-(intOf v6).toNat)
 case atStart=>exact⟨0,by omega,rfl,Below.refl _ _⟩
 case round=>
  obtain⟨k,hk,rfl,hbr⟩:=hrel
  have HBR:=zaa hbr
  clear hbr
  by_cases hlt:k<l.length
  ·obtain⟨x,hx⟩: ∃x,l[k]? =some x:=⟨_,List.getElem?_eq_getElem hlt⟩
   obtain⟨bA,oA,rfl,hbA,hcaA⟩:=HA.out.at_ hx
   obtain⟨r,hE,hcB⟩:=LL.at_ zbc ho.out hx
   obtain rfl:r=zba x:=hE
   have a0:=zan HBR.out hbA (oA+k*5) (hcaA 0 _ rfl).leafc
   have b0:=zan HBR.out hgl (k*5) (hcB 0 _ rfl)
   have a1:=zan HBR.out hbA (oA+k*5+1) (hcaA 1 _ rfl).leafc
   have b1:=zan HBR.out hgl (k*5+1) (hcB 1 _ rfl)
   have a2:=zan HBR.out hbA (oA+k*5+2) (hcaA 2 _ rfl).leafc
   have b2:=zan HBR.out hgl (k*5+2) (hcB 2 _ rfl)
   have a3:=zan HBR.out hbA (oA+k*5+3) (hcaA 3 _ rfl).leafc
   have b3:=zan HBR.out hgl (k*5+3) (hcB 3 _ rfl)
   have a4:=zan HBR.out hbA (oA+k*5+4) (hcaA 4 _ rfl).leafc
   have b4:=zan HBR.out hgl (k*5+4) (hcB 4 _ rfl)
   simp only[zaF] at a0 b0 a1 b1
   clear hcaA hcB hx
   have k0:(0:Int)≤(k:Int):=by omega
   have g2:decide (l.length≤k)=false:=by simp;omega
   go_wp2_with fail
   go_quiet (fail)
   go_wp2_with fail
   go_roundw
   case rel=>exact⟨k+1,by omega,by go_num,HBR.out.trans ⟨rfl,rfl,rfl,Nat.le_refl _,fun _ _=>rfl⟩⟩
   case measure=>simp[intOf];omega
  ·by_cases hlt2:k<l.length+12
   ·have hmk:=LL.mark zbc ho.out (zbo (f:=zby) (show k-l.length<12 by omega)) ziU
    rw[show l.length+(k-l.length)=k by omega] at hmk
    have hi:((k-l.length:Nat):Int)=(k:Int)-l.length:=by omega
    have hgl2:g<wr.heap.size:=Nat.lt_of_lt_of_le hgl HBR.out.size
    have b0:=zan HBR.out hgl (k*5) (hmk 0 _ rfl)
    have b1:=zan HBR.out hgl (k*5+1) (hmk 1 _ rfl)
    have b2:=zan HBR.out hgl (k*5+2) (hmk 2 _ rfl)
    have b3:=zan HBR.out hgl (k*5+3) (hmk 3 _ rfl)
    have b4:=zan HBR.out hgl (k*5+4) (hmk 4 _ rfl)
    have HM:=zaa (fun W=>zhq (k-l.length) W (by omega))
    rw[hi] at HM
    generalize mkS (k-l.length)=m at *
    clear hmk hi
    have k0:(0:Int)≤(k:Int):=by omega
    have g1:decide (k<l.length)=false:=by simp;omega
    have g2:decide (l.length≤k)=true:=by simp;omega
    have hin:(k:Int)<((l.length:Nat):Int)+12:=by omega
    go_wp2_with fail
    refine zaf (W:=wr) (by kernel_rfl) (by kernel_rfl) ?_
    repeat(go_big_quiet_step ((go_at_call 120;exact zal.call (HM.out _))))
    refine wpQuiet_nil ?_
    rintro _ ⟨s,rfl⟩
    go_wp2_with fail
    go_roundw
    case rel=>exact⟨k+1,by omega,by go_num,HBR.out.trans (s.below.mono HBR.out.size)⟩
    case measure=>simp[intOf];omega
   ·go_wp2_with fail
    go_ret
    exact⟨rfl,HBR.out⟩
theorem znN: ∀r∈zar zde,r.length=4:=by
 intro r hr
 obtain⟨i,_,rfl⟩:=List.mem_map.1 hr
 rfl
theorem zkX (v:Value) (G:Nat→Prop) (g c:Nat) (l:List zc7) (w:World) (hv:Hid (DAt w (fun _=>True) v (.row 4 (l.map zc7.cells)))) (hn:l.length≤1000000)
 (ho:Hid (LL 4 (zar zde) (EF zcw) w G (.slice (some ⟨g,0,none⟩) l.length c) l)):
 Calls Tryz.prog 70 #[.slice (some ⟨g,0,none⟩) l.length c,v] w fun e w'=>e= .returned (.bool true)∧Below w.heap.size w w':=by
 obtain⟨hc1,hc2,hgl⟩:=ho.out.fits
 unfold maxLen at hc2
 obtain⟨A,q,rfl,hA⟩:=hv.out.slice
 have HA:=zaa hA
 clear hA hv
 rw[List.length_map]
 have hnn:((l.length:Int) != (l.length:Int))=false:=by simp
 go_enter Tryz.func70,Tryz.ntmps70
 go_wp2_with fail
 go_loopw [6] (fun v6 wr=> ∃k:Nat,k≤l.length+12∧v6= .int .i64 k∧Below w.heap.size w wr) (fun v6 _=>l.length+12-(intOf v6).toNat)
 case atStart=>exact⟨0,by omega,rfl,Below.refl _ _⟩
 case round=>
  obtain⟨k,hk,rfl,hbr⟩:=hrel
  have HBR:=zaa hbr
  clear hbr
  by_cases hlt:k<l.length
  ·obtain⟨x,hx⟩: ∃x,l[k]? =some x:=⟨_,List.getElem?_eq_getElem hlt⟩
   obtain⟨bA,oA,rfl,hbA,hcaA⟩:=HA.out.at_ hx
   obtain⟨r,hE,hcB⟩:=LL.at_ zdt ho.out hx
   obtain rfl:r=zcw x:=hE
   have a0:=zan HBR.out hbA (oA+k*4) (hcaA 0 _ rfl).leafc
   have b0:=zan HBR.out hgl (k*4) (hcB 0 _ rfl)
   have a1:=zan HBR.out hbA (oA+k*4+1) (hcaA 1 _ rfl).leafc
   have b1:=zan HBR.out hgl (k*4+1) (hcB 1 _ rfl)
   have a2:=zan HBR.out hbA (oA+k*4+2) (hcaA 2 _ rfl).leafc
   have b2:=zan HBR.out hgl (k*4+2) (hcB 2 _ rfl)
   have a3:=zan HBR.out hbA (oA+k*4+3) (hcaA 3 _ rfl).leafc
   have b3:=zan HBR.out hgl (k*4+3) (hcB 3 _ rfl)
   simp only[zaF] at a0 b0 a2 b2
   clear hcaA hcB hx
   have k0:(0:Int)≤(k:Int):=by omega
   have g2:decide (l.length≤k)=false:=by simp;omega
   go_wp2_with fail
   go_quiet (fail)
   go_wp2_with fail
   go_roundw
   case rel=>exact⟨k+1,by omega,by go_num,HBR.out.trans ⟨rfl,rfl,rfl,Nat.le_refl _,fun _ _=>rfl⟩⟩
   case measure=>simp[intOf];omega
  ·by_cases hlt2:k<l.length+12
   ·have hmk:=LL.mark zdt ho.out (zbo (f:=zde) (show k-l.length<12 by omega)) znN
    rw[show l.length+(k-l.length)=k by omega] at hmk
    have hi:((k-l.length:Nat):Int)=(k:Int)-l.length:=by omega
    have hgl2:g<wr.heap.size:=Nat.lt_of_lt_of_le hgl HBR.out.size
    have b0:=zan HBR.out hgl (k*4) (hmk 0 _ rfl)
    have b1:=zan HBR.out hgl (k*4+1) (hmk 1 _ rfl)
    have b2:=zan HBR.out hgl (k*4+2) (hmk 2 _ rfl)
    have b3:=zan HBR.out hgl (k*4+3) (hmk 3 _ rfl)
    have HM:=zaa (fun W=>zn2 (k-l.length) W (by omega))
    rw[hi] at HM
    rw[hi] at b1
    generalize mkI 1 ((k:Int)-l.length)=m at *
    clear hmk hi
    have k0:(0:Int)≤(k:Int):=by omega
    have g1:decide (k<l.length)=false:=by simp;omega
    have g2:decide (l.length≤k)=true:=by simp;omega
    have hin:(k:Int)<((l.length:Nat):Int)+12:=by omega
    go_wp2_with fail
    refine zaf (W:=wr) (by kernel_rfl) (by kernel_rfl) ?_
    repeat(go_big_quiet_step ((go_at_call 123;exact zal.call (HM.out _))))
    refine wpQuiet_nil ?_
    rintro _ ⟨s,rfl⟩
    go_wp2_with fail
    go_roundw
    case rel=>exact⟨k+1,by omega,by go_num,HBR.out.trans (s.below.mono HBR.out.size)⟩
    case measure=>simp[intOf];omega
   ·go_wp2_with fail
    go_ret
    exact⟨rfl,HBR.out⟩
end Go.Proofs.YtgbfaompondolaaGreatDoor
