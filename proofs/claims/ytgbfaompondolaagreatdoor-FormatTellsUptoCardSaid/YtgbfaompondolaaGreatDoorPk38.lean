/- Merged texts of the walks and of the plain laws on which the statement leans.-/
import Derived.Test.YtgbfaompondolaaGreatDoorPk1
import Derived.Test.YtgbfaompondolaaGreatDoorPk33
import Derived.Test.YtgbfaompondolaaGreatDoorPk35
import Derived.Test.YtgbfaompondolaaGreatDoorPk37
set_option maxHeartbeats 4000000
set_option maxRecDepth 100000
namespace Go.Proofs.YtgbfaompondolaaGreatDoor
open Go.Proofs.Tryz
open Go.RowKit
attribute [local go_sem] zaj.cell
theorem zie (x:za0) (G:Nat→Prop) (us vs:List Value) (W:World) (ha:Hid (zdL W G us x)) (hb:Hid (zab W (fun _=>True) vs x.cells)) (hf:zcb x) (hl:x.code.length≤1000000):
 Calls prog 307 #[.agg us.toArray,.agg vs.toArray] W fun e w'=>e= .returned (.bool true)∧Below W.heap.size W w':=by
 have HS:=zaa (fun w (hw:Below W.heap.size W w)=>zgV x us vs w (zaa (zab.below (zbq.dat _ _ _ _ ha.out) hw)) (zaa (zab.below hb.out hw)) hf);obtain⟨u4,rfl,hu4⟩:=ha.out;have HU4:=zaa hu4;obtain⟨g4,c4,heq4⟩: ∃g c,u4= .slice (some ⟨g,0,none⟩) x.code.length c:=by obtain⟨g,c,rows,e, -⟩:=hu4;exact⟨g,c,e⟩
 subst heq4;clear hu4;have hd:=hb.out;obtain⟨v0,v1,v2,v3,v4,rfl,h0,h1,h2,h3,h4⟩:=dc5 hd;obtain rfl:=h0.leaf_eq;obtain rfl:=h1.leaf_eq;obtain rfl:=h2.leaf_eq;obtain rfl:=h3.leaf_eq;have HV4:=zaa h4;obtain⟨A4,p4,rfl, -⟩:=h4.slice;simp only[List.length_map] at HV4 HS ⊢;clear ha hb hd h0 h1 h2 h3 h4;simp only[zav] at HS ⊢;have HT:=zaa (zbY W (.cells #[.string ⟨x.name.toArray⟩,.int .i64 x.prio,.int .i64 x.period,.int .i64 x.limit,.slice (some ⟨g4,0,none⟩) x.code.length c4] 53) (.cells #[.string ⟨x.name.toArray⟩,.int .i64 x.prio,.int .i64 x.period,.int .i64 x.limit,.slice A4 x.code.length p4] 53));have hzz:(W.alloc (.cells #[.string ⟨x.name.toArray⟩,.int .i64 x.prio,.int .i64 x.period,.int .i64 x.limit,.slice (some ⟨g4,0,none⟩) x.code.length c4] 53)).heap.size=W.heap.size+1:=by simp
 go_enter func307,ntmps307
 go_wp2_with fail
 (try rw[hzz])
 clear hzz;generalize(W.alloc _).alloc _=w0 at *;obtain⟨a0,a1,a2,a3,a4⟩:=zet HT.out.x;obtain⟨b0,b1,b2,b3,b4⟩:=zet HT.out.y;go_wp2_with fail;clear a0 b0 a1 b1 a2 b2 a3 b3 a4 b4;refine(HS.out w0 HT.out.b).mono ?_;rintro e w1 ⟨rfl,hb⟩;have HT:=zaa (HT.out.step hb);clear hb HS;obtain⟨a0,a1,a2,a3,a4⟩:=zet HT.out.x;obtain⟨b0,b1,b2,b3,b4⟩:=zet HT.out.y;go_wp2_with fail;clear a0 b0 a1 b1 a2 b2 a3 b3 a4 b4;refine(zln _ G g4 c4 x.code w1 (zaa (HV4.out.later HT.out.b)) (hl) (zaa (HU4.out.below zdT HT.out.b))).mono ?_;rintro e w2 ⟨rfl,hb⟩;have HT:=zaa (HT.out.step hb);clear hb;go_wp2_with fail;go_ret;exact⟨rfl,HT.out.b⟩
theorem zny: ∀r∈zar zc8,r.length=5:=by
 intro r hr;obtain⟨i,_,rfl⟩:=List.mem_map.1 hr
 rfl
theorem zj0 (v:Value) (G:Nat→Prop) (g c:Nat) (l:List za0) (w:World) (hv:Hid (DAt w (fun _=>True) v (.row 5 (l.map za0.cells)))) (hn:l.length≤1000000) (hf: ∀x∈l,zcb x) (hl: ∀x∈l,x.code.length≤1000000)
 (ho:Hid (LL 5 (zar zc8) zdL w G (.slice (some ⟨g,0,none⟩) l.length c) l)):
 Calls prog 283 #[.slice (some ⟨g,0,none⟩) l.length c,v] w fun e w'=>e= .returned (.bool true)∧Below w.heap.size w w':=by
 obtain⟨hc1,hc2,hgl⟩:=ho.out.fits;unfold maxLen at hc2;obtain⟨A,q,rfl,hA⟩:=hv.out.slice;have HA:=zaa hA;clear hA hv;rw[List.length_map];have hnn:((l.length:Int) != (l.length:Int))=false:=by simp
 go_enter func283,ntmps283
 go_wp2_with fail
 go_loopw [6] (fun v6 wr=> ∃k:Nat,k≤l.length+12∧v6= .int .i64 k∧Below w.heap.size w wr) (fun v6 _=>l.length+12-(intOf v6).toNat)
 case atStart=>exact⟨0,by omega,rfl,Below.refl _ _⟩
 case round=>
  obtain⟨k,hk,rfl,hbr⟩:=hrel;have HBR:=zaa hbr;clear hbr;by_cases hlt:k<l.length
  ·obtain⟨x,hx⟩: ∃x,l[k]? =some x:=⟨_,List.getElem?_eq_getElem hlt⟩
   obtain⟨bA,oA,rfl,hbA,hcaA⟩:=HA.out.at_ hx;obtain⟨r,hE,hcB⟩:=LL.at_ zbq ho.out hx;have hfx:=hf x (List.mem_of_getElem? hx);have hlx:=hl x (List.mem_of_getElem? hx);have HE:=zaa hE;obtain⟨u4,rfl,hu4⟩:=hE;obtain⟨g4,c4,heq4⟩: ∃g c,u4= .slice (some ⟨g,0,none⟩) x.code.length c:=by obtain⟨g,c,rows,e, -⟩:=hu4;exact⟨g,c,e⟩
   subst heq4;clear hu4;have a0:=zad HBR.out hbA (oA+k*5) (hcaA 0 _ rfl).leafc;have b0:=zad HBR.out hgl (k*5) (hcB 0 _ rfl);have a1:=zad HBR.out hbA (oA+k*5+1) (hcaA 1 _ rfl).leafc;have b1:=zad HBR.out hgl (k*5+1) (hcB 1 _ rfl);have a2:=zad HBR.out hbA (oA+k*5+2) (hcaA 2 _ rfl).leafc;have b2:=zad HBR.out hgl (k*5+2) (hcB 2 _ rfl);have a3:=zad HBR.out hbA (oA+k*5+3) (hcaA 3 _ rfl).leafc;have b3:=zad HBR.out hgl (k*5+3) (hcB 3 _ rfl);obtain⟨uA4,cA4,gA4⟩:=hcaA 4 _ rfl;have a4:=zaI HBR.out hbA cA4;have HU4:=zaa gA4;obtain⟨A4,p4,rfl, -⟩:=gA4.slice;clear cA4 gA4;simp only[List.length_map] at HU4 a4;have b4:=zad HBR.out hgl (k*5+4) (hcB 4 _ rfl);simp only[zav] at HE a0 b0;have HC:=zaa (fun s:zaj wr=>zie x G _ [.string ⟨x.name.toArray⟩,.int .i64 x.prio,.int .i64 x.period,.int .i64 x.limit,.slice A4 x.code.length p4] s.w (zaa (zbq.keep _ _ _ _ _ (HBR.out.trans (s.below.mono HBR.out.size)).size (fun b _ hl=>(HBR.out.trans (s.below.mono HBR.out.size)).block b hl) HE.out)) (zaa (zab.cons (.leaf _) (zab.cons (.leaf _) (zab.cons (.leaf _) (zab.cons (.leaf _) (zab.cons ((HU4.out.later HBR.out).later s.below) (zab.nil))))))) hfx hlx);have hBA:=Nat.lt_of_lt_of_le hbA HBR.out.size;have hgl2:g<wr.heap.size:=Nat.lt_of_lt_of_le hgl HBR.out.size;clear hcaA hcB hx hfx hlx;have k0:(0:Int)≤(k:Int):=by omega
   have g1:decide (k<l.length)=true:=by simp;omega
   have g2:decide (l.length≤k)=false:=by simp;omega
   go_wp2_with fail;refine zac (W:=wr) (by kernel_rfl) (by kernel_rfl) ?_
   repeat(go_big_quiet_step ((go_at_call 307;exact zaj.call (HC.out _))))
   refine wpQuiet_nil ?_;rintro _ ⟨s,rfl⟩;go_wp2_with fail;go_roundw
   case rel=>exact⟨k+1,by omega,by go_num,HBR.out.trans (s.below.mono HBR.out.size)⟩
   case measure=>simp[intOf];omega
  ·by_cases hlt2:k<l.length+12
   ·have hmk:=LL.mark zbq ho.out (zbs (f:=zc8) (show k-l.length<12 by omega)) zny
    rw[show l.length+(k-l.length)=k by omega] at hmk;have hi:((k-l.length:Nat):Int)=(k:Int)-l.length:=by omega
    have hgl2:g<wr.heap.size:=Nat.lt_of_lt_of_le hgl HBR.out.size;have b0:=zad HBR.out hgl (k*5) (hmk 0 _ rfl);have b1:=zad HBR.out hgl (k*5+1) (hmk 1 _ rfl);have b2:=zad HBR.out hgl (k*5+2) (hmk 2 _ rfl);have b3:=zad HBR.out hgl (k*5+3) (hmk 3 _ rfl);have b4:=zad HBR.out hgl (k*5+4) (hmk 4 _ rfl);have HM:=zaa (fun W=>zmo (k-l.length) W (by omega));rw[hi] at HM;rw[hi] at b1;generalize mkI 1 ((k:Int)-l.length)=m at *;clear hmk hi;have k0:(0:Int)≤(k:Int):=by omega
    have g1:decide (k<l.length)=false:=by simp;omega
    have g2:decide (l.length≤k)=true:=by simp;omega
    have hin:(k:Int)<((l.length:Nat):Int)+12:=by omega
    have HS:=zaa (fun s:zaj wr=>zgV ⟨[],m,0,0,[]⟩ [.string ⟨#[]⟩,.int .i64 (m),.int .i64 0,.int .i64 0,.slice none 0 0] [.string ⟨#[]⟩,.int .i64 (m),.int .i64 0,.int .i64 0,.slice none 0 0] s.w (zaa (by((repeat(refine zab.cons ?_ ?_;first|exact .leaf _|exact .nil _ _ _));exact zab.nil))) (zaa (by((repeat(refine zab.cons ?_ ?_;first|exact .leaf _|exact .nil _ _ _));exact zab.nil))) (by simp[zcb]));go_wp2_with fail;refine zac (W:=wr) (by kernel_rfl) (by kernel_rfl) ?_
    repeat(go_big_quiet_step (first|(go_at_call 305;exact zaj.call (HM.out _))|(go_at_call 306;exact zaj.call (HS.out _))))
    refine wpQuiet_nil ?_;rintro _ ⟨s,rfl⟩;go_wp2_with fail;go_roundw
    case rel=>exact⟨k+1,by omega,by go_num,HBR.out.trans (s.below.mono HBR.out.size)⟩
    case measure=>simp[intOf];omega
   ·go_wp2_with fail
    go_ret;exact⟨rfl,HBR.out⟩
theorem ziM (x:zbi) (G:Nat→Prop) (us vs:List Value) (W:World) (ha:Hid (zdJ W G us x)) (hb:Hid (zab W (fun _=>True) vs x.cells)) (hf:x.to.length≤140737488355328) (hl:x.to.length≤1000000):
 Calls prog 129 #[.agg us.toArray,.agg vs.toArray] W fun e w'=>e= .returned (.bool true)∧Below W.heap.size W w':=by
 have HS:=zaa (fun w (hw:Below W.heap.size W w)=>zg6 x us vs w (zaa (zab.below (zaO.dat _ _ _ _ ha.out) hw)) (zaa (zab.below hb.out hw)) hf);obtain⟨u3,rfl,hu3⟩:=ha.out;have HU3:=zaa hu3;obtain⟨g3,c3,heq3⟩: ∃g c,u3= .slice (some ⟨g,0,none⟩) x.to.length c:=by obtain⟨g,c,rows,e, -⟩:=hu3;exact⟨g,c,e⟩
 subst heq3;clear hu3;have hd:=hb.out;obtain⟨v0,v1,v2,v3,rfl,h0,h1,h2,h3⟩:=dc4 hd;obtain rfl:=h0.leaf_eq;obtain rfl:=h1.leaf_eq;obtain rfl:=h2.leaf_eq;have HV3:=zaa h3;obtain⟨A3,p3,rfl, -⟩:=h3.slice;simp only[List.length_map] at HV3 HS ⊢;clear ha hb hd h0 h1 h2 h3;simp only[zav] at HS ⊢;have HT:=zaa (zbY W (.cells #[.string ⟨x.from_.m.toArray⟩,.string ⟨x.from_.p.toArray⟩,.string ⟨x.from_.o.toArray⟩,.slice (some ⟨g3,0,none⟩) x.to.length c3] 58) (.cells #[.string ⟨x.from_.m.toArray⟩,.string ⟨x.from_.p.toArray⟩,.string ⟨x.from_.o.toArray⟩,.slice A3 x.to.length p3] 58));have hzz:(W.alloc (.cells #[.string ⟨x.from_.m.toArray⟩,.string ⟨x.from_.p.toArray⟩,.string ⟨x.from_.o.toArray⟩,.slice (some ⟨g3,0,none⟩) x.to.length c3] 58)).heap.size=W.heap.size+1:=by simp
 go_enter func129,ntmps129
 go_wp2_with fail
 (try rw[hzz])
 clear hzz;generalize(W.alloc _).alloc _=w0 at *;obtain⟨a0,a1,a2,a3⟩:=zci HT.out.x;obtain⟨b0,b1,b2,b3⟩:=zci HT.out.y;go_wp2_with fail;clear a0 b0 a1 b1 a2 b2 a3 b3;refine(HS.out w0 HT.out.b).mono ?_;rintro e w1 ⟨rfl,hb⟩;have HT:=zaa (HT.out.step hb);clear hb HS;obtain⟨a0,a1,a2,a3⟩:=zci HT.out.x;obtain⟨b0,b1,b2,b3⟩:=zci HT.out.y;go_wp2_with fail;clear a0 b0 a1 b1 a2 b2 a3 b3;refine(zhT _ G g3 c3 x.to w1 (zaa (HV3.out.later HT.out.b)) (hl) (zaa (HU3.out.below zcd HT.out.b))).mono ?_;rintro e w2 ⟨rfl,hb⟩;have HT:=zaa (HT.out.step hb);clear hb;go_wp2_with fail;go_ret;exact⟨rfl,HT.out.b⟩
theorem znj: ∀r∈zar zdb,r.length=4:=by
 intro r hr;obtain⟨i,_,rfl⟩:=List.mem_map.1 hr
 rfl
theorem zjp (v:Value) (G:Nat→Prop) (g c:Nat) (l:List zbi) (w:World) (hv:Hid (DAt w (fun _=>True) v (.row 4 (l.map zbi.cells)))) (hn:l.length≤1000000) (hf: ∀x∈l,x.to.length≤140737488355328) (hl: ∀x∈l,x.to.length≤1000000)
 (ho:Hid (LL 4 (zar zdb) zdJ w G (.slice (some ⟨g,0,none⟩) l.length c) l)):
 Calls prog 64 #[.slice (some ⟨g,0,none⟩) l.length c,v] w fun e w'=>e= .returned (.bool true)∧Below w.heap.size w w':=by
 obtain⟨hc1,hc2,hgl⟩:=ho.out.fits;unfold maxLen at hc2;obtain⟨A,q,rfl,hA⟩:=hv.out.slice;have HA:=zaa hA;clear hA hv;rw[List.length_map];have hnn:((l.length:Int) != (l.length:Int))=false:=by simp
 go_enter func64,ntmps64
 go_wp2_with fail
 go_loopw [6] (fun v6 wr=> ∃k:Nat,k≤l.length+12∧v6= .int .i64 k∧Below w.heap.size w wr) (fun v6 _=>l.length+12-(intOf v6).toNat)
 case atStart=>exact⟨0,by omega,rfl,Below.refl _ _⟩
 case round=>
  obtain⟨k,hk,rfl,hbr⟩:=hrel;have HBR:=zaa hbr;clear hbr;by_cases hlt:k<l.length
  ·obtain⟨x,hx⟩: ∃x,l[k]? =some x:=⟨_,List.getElem?_eq_getElem hlt⟩
   obtain⟨bA,oA,rfl,hbA,hcaA⟩:=HA.out.at_ hx;obtain⟨r,hE,hcB⟩:=LL.at_ zaO ho.out hx;have hfx:=hf x (List.mem_of_getElem? hx);have hlx:=hl x (List.mem_of_getElem? hx);have HE:=zaa hE;obtain⟨u3,rfl,hu3⟩:=hE;obtain⟨g3,c3,heq3⟩: ∃g c,u3= .slice (some ⟨g,0,none⟩) x.to.length c:=by obtain⟨g,c,rows,e, -⟩:=hu3;exact⟨g,c,e⟩
   subst heq3;clear hu3;have a0:=zad HBR.out hbA (oA+k*4) (hcaA 0 _ rfl).leafc;have b0:=zad HBR.out hgl (k*4) (hcB 0 _ rfl);have a1:=zad HBR.out hbA (oA+k*4+1) (hcaA 1 _ rfl).leafc;have b1:=zad HBR.out hgl (k*4+1) (hcB 1 _ rfl);have a2:=zad HBR.out hbA (oA+k*4+2) (hcaA 2 _ rfl).leafc;have b2:=zad HBR.out hgl (k*4+2) (hcB 2 _ rfl);obtain⟨uA3,cA3,gA3⟩:=hcaA 3 _ rfl;have a3:=zaI HBR.out hbA cA3;have HU3:=zaa gA3;obtain⟨A3,p3,rfl, -⟩:=gA3.slice;clear cA3 gA3;simp only[List.length_map] at HU3 a3;have b3:=zad HBR.out hgl (k*4+3) (hcB 3 _ rfl);simp only[zav] at HE a0 b0 a1 b1 a2 b2;have HC:=zaa (fun s:zaj wr=>ziM x G _ [.string ⟨x.from_.m.toArray⟩,.string ⟨x.from_.p.toArray⟩,.string ⟨x.from_.o.toArray⟩,.slice A3 x.to.length p3] s.w (zaa (zaO.keep _ _ _ _ _ (HBR.out.trans (s.below.mono HBR.out.size)).size (fun b _ hl=>(HBR.out.trans (s.below.mono HBR.out.size)).block b hl) HE.out)) (zaa (zab.cons (.leaf _) (zab.cons (.leaf _) (zab.cons (.leaf _) (zab.cons ((HU3.out.later HBR.out).later s.below) (zab.nil)))))) hfx hlx);have hBA:=Nat.lt_of_lt_of_le hbA HBR.out.size;have hgl2:g<wr.heap.size:=Nat.lt_of_lt_of_le hgl HBR.out.size;clear hcaA hcB hx hfx hlx;have k0:(0:Int)≤(k:Int):=by omega
   have g1:decide (k<l.length)=true:=by simp;omega
   have g2:decide (l.length≤k)=false:=by simp;omega
   go_wp2_with fail;refine zac (W:=wr) (by kernel_rfl) (by kernel_rfl) ?_
   repeat(go_big_quiet_step ((go_at_call 129;exact zaj.call (HC.out _))))
   refine wpQuiet_nil ?_;rintro _ ⟨s,rfl⟩;go_wp2_with fail;go_roundw
   case rel=>exact⟨k+1,by omega,by go_num,HBR.out.trans (s.below.mono HBR.out.size)⟩
   case measure=>simp[intOf];omega
  ·by_cases hlt2:k<l.length+12
   ·have hmk:=LL.mark zaO ho.out (zbs (f:=zdb) (show k-l.length<12 by omega)) znj
    rw[show l.length+(k-l.length)=k by omega] at hmk;have hi:((k-l.length:Nat):Int)=(k:Int)-l.length:=by omega
    have hgl2:g<wr.heap.size:=Nat.lt_of_lt_of_le hgl HBR.out.size;have b0:=zad HBR.out hgl (k*4) (hmk 0 _ rfl);have b1:=zad HBR.out hgl (k*4+1) (hmk 1 _ rfl);have b2:=zad HBR.out hgl (k*4+2) (hmk 2 _ rfl);have b3:=zad HBR.out hgl (k*4+3) (hmk 3 _ rfl);have HM:=zaa (fun W=>zmi (k-l.length) W (by omega));rw[hi] at HM;generalize mkS (k-l.length)=m at *;clear hmk hi;have k0:(0:Int)≤(k:Int):=by omega
    have g1:decide (k<l.length)=false:=by simp;omega
    have g2:decide (l.length≤k)=true:=by simp;omega
    have hin:(k:Int)<((l.length:Nat):Int)+12:=by omega
    obtain⟨ml,rfl⟩: ∃ml:List UInt8,m=⟨ml.toArray⟩:=⟨m.data.toList,rfl⟩;have HS:=zaa (fun s:zaj wr=>zg6 ⟨⟨[],[],ml⟩,[]⟩ [.string ⟨#[]⟩,.string ⟨#[]⟩,.string (⟨ml.toArray⟩),.slice none 0 0] [.string ⟨#[]⟩,.string ⟨#[]⟩,.string (⟨ml.toArray⟩),.slice none 0 0] s.w (zaa (by((repeat(refine zab.cons ?_ ?_;first|exact .leaf _|exact .nil _ _ _));exact zab.nil))) (zaa (by((repeat(refine zab.cons ?_ ?_;first|exact .leaf _|exact .nil _ _ _));exact zab.nil))) (by simp));go_wp2_with fail;refine zac (W:=wr) (by kernel_rfl) (by kernel_rfl) ?_
    repeat(go_big_quiet_step (first|(go_at_call 115;exact zaj.call (HM.out _))|(go_at_call 125;exact zaj.call (HS.out _))))
    refine wpQuiet_nil ?_;rintro _ ⟨s,rfl⟩;go_wp2_with fail;go_roundw
    case rel=>exact⟨k+1,by omega,by go_num,HBR.out.trans (s.below.mono HBR.out.size)⟩
    case measure=>simp[intOf];omega
   ·go_wp2_with fail
    go_ret;exact⟨rfl,HBR.out⟩
theorem zlz (x:VlD) (G:Nat→Prop) (us vs:List Value) (W:World) (ha:Hid (zjy W G us x)) (hb:Hid (zab W (fun _=>True) vs x.cells)) (hf:x.to.length≤140737488355328) (hl:x.to.length≤1000000):
 Calls prog 130 #[.agg us.toArray,.agg vs.toArray] W fun e w'=>e= .returned (.bool true)∧Below W.heap.size W w':=by
 have HS:=zaa (fun w (hw:Below W.heap.size W w)=>znC x us vs w (zaa (zab.below (zck.dat _ _ _ _ ha.out) hw)) (zaa (zab.below hb.out hw)) hf);obtain⟨u6,rfl,hu6⟩:=ha.out;have HU6:=zaa hu6;obtain⟨g6,c6,heq6⟩: ∃g c,u6= .slice (some ⟨g,0,none⟩) x.to.length c:=by obtain⟨g,c,rows,e, -⟩:=hu6;exact⟨g,c,e⟩
 subst heq6;clear hu6;have hd:=hb.out;obtain⟨v0,v1,v2,v3,v4,v5,v6,rfl,h0,h1,h2,h3,h4,h5,h6⟩:=dc7 hd;obtain rfl:=h0.leaf_eq;obtain rfl:=h1.leaf_eq;obtain rfl:=h2.leaf_eq;obtain rfl:=h3.leaf_eq;obtain rfl:=h4.leaf_eq;obtain rfl:=h5.leaf_eq;have HV6:=zaa h6;obtain⟨A6,p6,rfl, -⟩:=h6.slice;simp only[List.length_map] at HV6 HS ⊢;clear ha hb hd h0 h1 h2 h3 h4 h5 h6;simp only[zav] at HS ⊢;have HT:=zaa (zbY W (.cells #[.string ⟨x.name.toArray⟩,.string ⟨x.from_.m.toArray⟩,.string ⟨x.from_.p.toArray⟩,.string ⟨x.from_.o.toArray⟩,.int .i64 x.bag,.int .i64 x.max,.slice (some ⟨g6,0,none⟩) x.to.length c6] 61) (.cells #[.string ⟨x.name.toArray⟩,.string ⟨x.from_.m.toArray⟩,.string ⟨x.from_.p.toArray⟩,.string ⟨x.from_.o.toArray⟩,.int .i64 x.bag,.int .i64 x.max,.slice A6 x.to.length p6] 61));have hzz:(W.alloc (.cells #[.string ⟨x.name.toArray⟩,.string ⟨x.from_.m.toArray⟩,.string ⟨x.from_.p.toArray⟩,.string ⟨x.from_.o.toArray⟩,.int .i64 x.bag,.int .i64 x.max,.slice (some ⟨g6,0,none⟩) x.to.length c6] 61)).heap.size=W.heap.size+1:=by simp
 go_enter func130,ntmps130
 go_wp2_with fail
 (try rw[hzz])
 clear hzz;generalize(W.alloc _).alloc _=w0 at *;obtain⟨a0,a1,a2,a3,a4,a5,a6⟩:=zej HT.out.x;obtain⟨b0,b1,b2,b3,b4,b5,b6⟩:=zej HT.out.y;go_wp2_with fail;clear a0 b0 a1 b1 a2 b2 a3 b3 a4 b4 a5 b5 a6 b6;refine(HS.out w0 HT.out.b).mono ?_;rintro e w1 ⟨rfl,hb⟩;have HT:=zaa (HT.out.step hb);clear hb HS;obtain⟨a0,a1,a2,a3,a4,a5,a6⟩:=zej HT.out.x;obtain⟨b0,b1,b2,b3,b4,b5,b6⟩:=zej HT.out.y;go_wp2_with fail;clear a0 b0 a1 b1 a2 b2 a3 b3 a4 b4 a5 b5 a6 b6;refine(zhT _ G g6 c6 x.to w1 (zaa (HV6.out.later HT.out.b)) (hl) (zaa (HU6.out.below zcd HT.out.b))).mono ?_;rintro e w2 ⟨rfl,hb⟩;have HT:=zaa (HT.out.step hb);clear hb;go_wp2_with fail;go_ret;exact⟨rfl,HT.out.b⟩
theorem zpr: ∀r∈zar zfs,r.length=7:=by
 intro r hr;obtain⟨i,_,rfl⟩:=List.mem_map.1 hr
 rfl
theorem znv (v:Value) (G:Nat→Prop) (g c:Nat) (l:List VlD) (w:World) (hv:Hid (DAt w (fun _=>True) v (.row 7 (l.map VlD.cells)))) (hn:l.length≤1000000) (hf: ∀x∈l,x.to.length≤140737488355328) (hl: ∀x∈l,x.to.length≤1000000)
 (ho:Hid (LL 7 (zar zfs) zjy w G (.slice (some ⟨g,0,none⟩) l.length c) l)):
 Calls prog 67 #[.slice (some ⟨g,0,none⟩) l.length c,v] w fun e w'=>e= .returned (.bool true)∧Below w.heap.size w w':=by
 obtain⟨hc1,hc2,hgl⟩:=ho.out.fits;unfold maxLen at hc2;obtain⟨A,q,rfl,hA⟩:=hv.out.slice;have HA:=zaa hA;clear hA hv;rw[List.length_map];have hnn:((l.length:Int) != (l.length:Int))=false:=by simp
 go_enter func67,ntmps67
 go_wp2_with fail
 go_loopw [6] (fun v6 wr=> ∃k:Nat,k≤l.length+12∧v6= .int .i64 k∧Below w.heap.size w wr) (fun v6 _=>l.length+12-(intOf v6).toNat)
 case atStart=>exact⟨0,by omega,rfl,Below.refl _ _⟩
 case round=>
  obtain⟨k,hk,rfl,hbr⟩:=hrel;have HBR:=zaa hbr;clear hbr;by_cases hlt:k<l.length
  ·obtain⟨x,hx⟩: ∃x,l[k]? =some x:=⟨_,List.getElem?_eq_getElem hlt⟩
   obtain⟨bA,oA,rfl,hbA,hcaA⟩:=HA.out.at_ hx;obtain⟨r,hE,hcB⟩:=LL.at_ zck ho.out hx;have hfx:=hf x (List.mem_of_getElem? hx);have hlx:=hl x (List.mem_of_getElem? hx);have HE:=zaa hE;obtain⟨u6,rfl,hu6⟩:=hE;obtain⟨g6,c6,heq6⟩: ∃g c,u6= .slice (some ⟨g,0,none⟩) x.to.length c:=by obtain⟨g,c,rows,e, -⟩:=hu6;exact⟨g,c,e⟩
   subst heq6;clear hu6;have a0:=zad HBR.out hbA (oA+k*7) (hcaA 0 _ rfl).leafc;have b0:=zad HBR.out hgl (k*7) (hcB 0 _ rfl);have a1:=zad HBR.out hbA (oA+k*7+1) (hcaA 1 _ rfl).leafc;have b1:=zad HBR.out hgl (k*7+1) (hcB 1 _ rfl);have a2:=zad HBR.out hbA (oA+k*7+2) (hcaA 2 _ rfl).leafc;have b2:=zad HBR.out hgl (k*7+2) (hcB 2 _ rfl);have a3:=zad HBR.out hbA (oA+k*7+3) (hcaA 3 _ rfl).leafc;have b3:=zad HBR.out hgl (k*7+3) (hcB 3 _ rfl);have a4:=zad HBR.out hbA (oA+k*7+4) (hcaA 4 _ rfl).leafc;have b4:=zad HBR.out hgl (k*7+4) (hcB 4 _ rfl);have a5:=zad HBR.out hbA (oA+k*7+5) (hcaA 5 _ rfl).leafc;have b5:=zad HBR.out hgl (k*7+5) (hcB 5 _ rfl);obtain⟨uA6,cA6,gA6⟩:=hcaA 6 _ rfl;have a6:=zaI HBR.out hbA cA6;have HU6:=zaa gA6;obtain⟨A6,p6,rfl, -⟩:=gA6.slice;clear cA6 gA6;simp only[List.length_map] at HU6 a6;have b6:=zad HBR.out hgl (k*7+6) (hcB 6 _ rfl);simp only[zav] at HE a0 b0 a1 b1 a2 b2 a3 b3;have HC:=zaa (fun s:zaj wr=>zlz x G _ [.string ⟨x.name.toArray⟩,.string ⟨x.from_.m.toArray⟩,.string ⟨x.from_.p.toArray⟩,.string ⟨x.from_.o.toArray⟩,.int .i64 x.bag,.int .i64 x.max,.slice A6 x.to.length p6] s.w (zaa (zck.keep _ _ _ _ _ (HBR.out.trans (s.below.mono HBR.out.size)).size (fun b _ hl=>(HBR.out.trans (s.below.mono HBR.out.size)).block b hl) HE.out)) (zaa (zab.cons (.leaf _) (zab.cons (.leaf _) (zab.cons (.leaf _) (zab.cons (.leaf _) (zab.cons (.leaf _) (zab.cons (.leaf _) (zab.cons ((HU6.out.later HBR.out).later s.below) (zab.nil))))))))) hfx hlx);have hBA:=Nat.lt_of_lt_of_le hbA HBR.out.size;have hgl2:g<wr.heap.size:=Nat.lt_of_lt_of_le hgl HBR.out.size;clear hcaA hcB hx hfx hlx;have k0:(0:Int)≤(k:Int):=by omega
   have g1:decide (k<l.length)=true:=by simp;omega
   have g2:decide (l.length≤k)=false:=by simp;omega
   go_wp2_with fail;refine zac (W:=wr) (by kernel_rfl) (by kernel_rfl) ?_
   repeat(go_big_quiet_step ((go_at_call 130;exact zaj.call (HC.out _))))
   refine wpQuiet_nil ?_;rintro _ ⟨s,rfl⟩;go_wp2_with fail;go_roundw
   case rel=>exact⟨k+1,by omega,by go_num,HBR.out.trans (s.below.mono HBR.out.size)⟩
   case measure=>simp[intOf];omega
  ·by_cases hlt2:k<l.length+12
   ·have hmk:=LL.mark zck ho.out (zbs (f:=zfs) (show k-l.length<12 by omega)) zpr
    rw[show l.length+(k-l.length)=k by omega] at hmk;have hi:((k-l.length:Nat):Int)=(k:Int)-l.length:=by omega
    have hgl2:g<wr.heap.size:=Nat.lt_of_lt_of_le hgl HBR.out.size;have b0:=zad HBR.out hgl (k*7) (hmk 0 _ rfl);have b1:=zad HBR.out hgl (k*7+1) (hmk 1 _ rfl);have b2:=zad HBR.out hgl (k*7+2) (hmk 2 _ rfl);have b3:=zad HBR.out hgl (k*7+3) (hmk 3 _ rfl);have b4:=zad HBR.out hgl (k*7+4) (hmk 4 _ rfl);have b5:=zad HBR.out hgl (k*7+5) (hmk 5 _ rfl);have b6:=zad HBR.out hgl (k*7+6) (hmk 6 _ rfl);have HM:=zaa (fun W=>m_vl (k-l.length) W (by omega));rw[hi] at HM;rw[hi] at b4;generalize mkI 1 ((k:Int)-l.length)=m at *;clear hmk hi;have k0:(0:Int)≤(k:Int):=by omega
    have g1:decide (k<l.length)=false:=by simp;omega
    have g2:decide (l.length≤k)=true:=by simp;omega
    have hin:(k:Int)<((l.length:Nat):Int)+12:=by omega
    have HS:=zaa (fun s:zaj wr=>znC ⟨[],⟨[],[],[]⟩,m,0,[]⟩ [.string ⟨#[]⟩,.string ⟨#[]⟩,.string ⟨#[]⟩,.string ⟨#[]⟩,.int .i64 (m),.int .i64 0,.slice none 0 0] [.string ⟨#[]⟩,.string ⟨#[]⟩,.string ⟨#[]⟩,.string ⟨#[]⟩,.int .i64 (m),.int .i64 0,.slice none 0 0] s.w (zaa (by((repeat(refine zab.cons ?_ ?_;first|exact .leaf _|exact .nil _ _ _));exact zab.nil))) (zaa (by((repeat(refine zab.cons ?_ ?_;first|exact .leaf _|exact .nil _ _ _));exact zab.nil))) (by simp));go_wp2_with fail;refine zac (W:=wr) (by kernel_rfl) (by kernel_rfl) ?_
    repeat(go_big_quiet_step (first|(go_at_call 119;exact zaj.call (HM.out _))|(go_at_call 126;exact zaj.call (HS.out _))))
    refine wpQuiet_nil ?_;rintro _ ⟨s,rfl⟩;go_wp2_with fail;go_roundw
    case rel=>exact⟨k+1,by omega,by go_num,HBR.out.trans (s.below.mono HBR.out.size)⟩
    case measure=>simp[intOf];omega
   ·go_wp2_with fail
    go_ret;exact⟨rfl,HBR.out⟩
theorem zhh (x:zaF) (G:Nat→Prop) (us vs:List Value) (W:World) (ha:Hid (zcR W G us x)) (hb:Hid (zab W (fun _=>True) vs x.cells)) (hf:zbR x) (hl:x.needs.length≤1000000∧x.but.length≤1000000):
 Calls prog 131 #[.agg us.toArray,.agg vs.toArray] W fun e w'=>e= .returned (.bool true)∧Below W.heap.size W w':=by
 have HS:=zaa (fun w (hw:Below W.heap.size W w)=>zfS x us vs w (zaa (zab.below (zaV.dat _ _ _ _ ha.out) hw)) (zaa (zab.below hb.out hw)) hf);obtain⟨u1,u2,rfl,hu1,hu2⟩:=ha.out;have HU1:=zaa hu1;obtain⟨g1,c1,heq1⟩: ∃g c,u1= .slice (some ⟨g,0,none⟩) x.needs.length c:=by obtain⟨g,c,rows,e, -⟩:=hu1;exact⟨g,c,e⟩
 subst heq1;clear hu1;have HU2:=zaa hu2;obtain⟨g2,c2,heq2⟩: ∃g c,u2= .slice (some ⟨g,0,none⟩) x.but.length c:=by obtain⟨g,c,rows,e, -⟩:=hu2;exact⟨g,c,e⟩
 subst heq2;clear hu2;have hd:=hb.out;obtain⟨v0,v1,v2,rfl,h0,h1,h2⟩:=dc3 hd;obtain rfl:=h0.leaf_eq;have HV1:=zaa h1;obtain⟨A1,p1,rfl, -⟩:=h1.slice;simp only[List.length_map] at HV1 HS ⊢;have HV2:=zaa h2;obtain⟨A2,p2,rfl, -⟩:=h2.slice;rw[show(zao x.but).length=x.but.length by simp[zao]] at HV2 HS ⊢;clear ha hb hd h0 h1 h2;simp only[zav] at HS ⊢;have HT:=zaa (zbY W (.cells #[.string ⟨x.unit.toArray⟩,.slice (some ⟨g1,0,none⟩) x.needs.length c1,.slice (some ⟨g2,0,none⟩) x.but.length c2] 65) (.cells #[.string ⟨x.unit.toArray⟩,.slice A1 x.needs.length p1,.slice A2 x.but.length p2] 65));have hzz:(W.alloc (.cells #[.string ⟨x.unit.toArray⟩,.slice (some ⟨g1,0,none⟩) x.needs.length c1,.slice (some ⟨g2,0,none⟩) x.but.length c2] 65)).heap.size=W.heap.size+1:=by simp
 go_enter func131,ntmps131
 go_wp2_with fail
 (try rw[hzz])
 clear hzz;generalize(W.alloc _).alloc _=w0 at *;obtain⟨a0,a1,a2⟩:=zcW HT.out.x;obtain⟨b0,b1,b2⟩:=zcW HT.out.y;go_wp2_with fail;clear a0 b0 a1 b1 a2 b2;refine(HS.out w0 HT.out.b).mono ?_;rintro e w1 ⟨rfl,hb⟩;have HT:=zaa (HT.out.step hb);clear hb HS;obtain⟨a0,a1,a2⟩:=zcW HT.out.x;obtain⟨b0,b1,b2⟩:=zcW HT.out.y;go_wp2_with fail;clear a0 b0 a1 b1 a2 b2;refine(zl6 _ G g1 c1 x.needs w1 (zaa (HV1.out.later HT.out.b)) (hl.1) (zaa (HU1.out.below zdh HT.out.b))).mono ?_;rintro e w2 ⟨rfl,hb⟩;have HT:=zaa (HT.out.step hb);clear hb;obtain⟨a0,a1,a2⟩:=zcW HT.out.x;obtain⟨b0,b1,b2⟩:=zcW HT.out.y;go_wp2_with fail;clear a0 b0 a1 b1 a2 b2;refine(zkJ _ G g2 c2 x.but w2 (zaa (HV2.out.later HT.out.b)) (hl.2) (zaa (HU2.out.below zdS HT.out.b))).mono ?_;rintro e w3 ⟨rfl,hb⟩;have HT:=zaa (HT.out.step hb);clear hb;go_wp2_with fail;go_ret;exact⟨rfl,HT.out.b⟩
theorem zk0: ∀r∈zar zco,r.length=3:=by
 intro r hr;obtain⟨i,_,rfl⟩:=List.mem_map.1 hr
 rfl
theorem ziO (v:Value) (G:Nat→Prop) (g c:Nat) (l:List zaF) (w:World) (hv:Hid (DAt w (fun _=>True) v (.row 3 (l.map zaF.cells)))) (hn:l.length≤1000000) (hf: ∀x∈l,zbR x) (hl: ∀x∈l,x.needs.length≤1000000∧x.but.length≤1000000)
 (ho:Hid (LL 3 (zar zco) zcR w G (.slice (some ⟨g,0,none⟩) l.length c) l)):
 Calls prog 69 #[.slice (some ⟨g,0,none⟩) l.length c,v] w fun e w'=>e= .returned (.bool true)∧Below w.heap.size w w':=by
 obtain⟨hc1,hc2,hgl⟩:=ho.out.fits;unfold maxLen at hc2;obtain⟨A,q,rfl,hA⟩:=hv.out.slice;have HA:=zaa hA;clear hA hv;rw[List.length_map];have hnn:((l.length:Int) != (l.length:Int))=false:=by simp
 go_enter func69,ntmps69
 go_wp2_with fail
 go_loopw [6] (fun v6 wr=> ∃k:Nat,k≤l.length+12∧v6= .int .i64 k∧Below w.heap.size w wr) (fun v6 _=>l.length+12-(intOf v6).toNat)
 case atStart=>exact⟨0,by omega,rfl,Below.refl _ _⟩
 case round=>
  obtain⟨k,hk,rfl,hbr⟩:=hrel;have HBR:=zaa hbr;clear hbr;by_cases hlt:k<l.length
  ·obtain⟨x,hx⟩: ∃x,l[k]? =some x:=⟨_,List.getElem?_eq_getElem hlt⟩
   obtain⟨bA,oA,rfl,hbA,hcaA⟩:=HA.out.at_ hx;obtain⟨r,hE,hcB⟩:=LL.at_ zaV ho.out hx;have hfx:=hf x (List.mem_of_getElem? hx);have hlx:=hl x (List.mem_of_getElem? hx);have HE:=zaa hE;obtain⟨u1,u2,rfl,hu1,hu2⟩:=hE;obtain⟨g1,c1,heq1⟩: ∃g c,u1= .slice (some ⟨g,0,none⟩) x.needs.length c:=by obtain⟨g,c,rows,e, -⟩:=hu1;exact⟨g,c,e⟩
   subst heq1;clear hu1;obtain⟨g2,c2,heq2⟩: ∃g c,u2= .slice (some ⟨g,0,none⟩) x.but.length c:=by obtain⟨g,c,rows,e, -⟩:=hu2;exact⟨g,c,e⟩
   subst heq2;clear hu2;have a0:=zad HBR.out hbA (oA+k*3) (hcaA 0 _ rfl).leafc;have b0:=zad HBR.out hgl (k*3) (hcB 0 _ rfl);obtain⟨uA1,cA1,gA1⟩:=hcaA 1 _ rfl;have a1:=zaI HBR.out hbA cA1;have HU1:=zaa gA1;obtain⟨A1,p1,rfl, -⟩:=gA1.slice;clear cA1 gA1;simp only[List.length_map] at HU1 a1;have b1:=zad HBR.out hgl (k*3+1) (hcB 1 _ rfl);obtain⟨uA2,cA2,gA2⟩:=hcaA 2 _ rfl;have a2:=zaI HBR.out hbA cA2;have HU2:=zaa gA2;obtain⟨A2,p2,rfl, -⟩:=gA2.slice;clear cA2 gA2;rw[show(zao x.but).length=x.but.length by simp[zao]] at HU2 a2;have b2:=zad HBR.out hgl (k*3+2) (hcB 2 _ rfl);simp only[zav] at HE a0 b0;have HC:=zaa (fun s:zaj wr=>zhh x G _ [.string ⟨x.unit.toArray⟩,.slice A1 x.needs.length p1,.slice A2 x.but.length p2] s.w (zaa (zaV.keep _ _ _ _ _ (HBR.out.trans (s.below.mono HBR.out.size)).size (fun b _ hl=>(HBR.out.trans (s.below.mono HBR.out.size)).block b hl) HE.out)) (zaa (zab.cons (.leaf _) (zab.cons ((HU1.out.later HBR.out).later s.below) (zab.cons ((HU2.out.later HBR.out).later s.below) (zab.nil))))) hfx hlx);have hBA:=Nat.lt_of_lt_of_le hbA HBR.out.size;have hgl2:g<wr.heap.size:=Nat.lt_of_lt_of_le hgl HBR.out.size;clear hcaA hcB hx hfx hlx;have k0:(0:Int)≤(k:Int):=by omega
   have g1:decide (k<l.length)=true:=by simp;omega
   have g2:decide (l.length≤k)=false:=by simp;omega
   go_wp2_with fail;refine zac (W:=wr) (by kernel_rfl) (by kernel_rfl) ?_
   repeat(go_big_quiet_step ((go_at_call 131;exact zaj.call (HC.out _))))
   refine wpQuiet_nil ?_;rintro _ ⟨s,rfl⟩;go_wp2_with fail;go_roundw
   case rel=>exact⟨k+1,by omega,by go_num,HBR.out.trans (s.below.mono HBR.out.size)⟩
   case measure=>simp[intOf];omega
  ·by_cases hlt2:k<l.length+12
   ·have hmk:=LL.mark zaV ho.out (zbs (f:=zco) (show k-l.length<12 by omega)) zk0
    rw[show l.length+(k-l.length)=k by omega] at hmk;have hi:((k-l.length:Nat):Int)=(k:Int)-l.length:=by omega
    have hgl2:g<wr.heap.size:=Nat.lt_of_lt_of_le hgl HBR.out.size;have b0:=zad HBR.out hgl (k*3) (hmk 0 _ rfl);have b1:=zad HBR.out hgl (k*3+1) (hmk 1 _ rfl);have b2:=zad HBR.out hgl (k*3+2) (hmk 2 _ rfl);have HM:=zaa (fun W=>zki (k-l.length) W (by omega));rw[hi] at HM;generalize mkS (k-l.length)=m at *;clear hmk hi;have k0:(0:Int)≤(k:Int):=by omega
    have g1:decide (k<l.length)=false:=by simp;omega
    have g2:decide (l.length≤k)=true:=by simp;omega
    have hin:(k:Int)<((l.length:Nat):Int)+12:=by omega
    obtain⟨ml,rfl⟩: ∃ml:List UInt8,m=⟨ml.toArray⟩:=⟨m.data.toList,rfl⟩;have HS:=zaa (fun s:zaj wr=>zfS ⟨ml,[],[]⟩ [.string (⟨ml.toArray⟩),.slice none 0 0,.slice none 0 0] [.string (⟨ml.toArray⟩),.slice none 0 0,.slice none 0 0] s.w (zaa (by((repeat(refine zab.cons ?_ ?_;first|exact .leaf _|exact .nil _ _ _));exact zab.nil))) (zaa (by((repeat(refine zab.cons ?_ ?_;first|exact .leaf _|exact .nil _ _ _));exact zab.nil))) (by simp[zbR]));go_wp2_with fail;refine zac (W:=wr) (by kernel_rfl) (by kernel_rfl) ?_
    repeat(go_big_quiet_step (first|(go_at_call 122;exact zaj.call (HM.out _))|(go_at_call 127;exact zaj.call (HS.out _))))
    refine wpQuiet_nil ?_;rintro _ ⟨s,rfl⟩;go_wp2_with fail;go_roundw
    case rel=>exact⟨k+1,by omega,by go_num,HBR.out.trans (s.below.mono HBR.out.size)⟩
    case measure=>simp[intOf];omega
   ·go_wp2_with fail
    go_ret;exact⟨rfl,HBR.out⟩
theorem ziC (x:zaQ) (G:Nat→Prop) (us vs:List Value) (W:World) (ha:Hid (zdV W G us x)) (hb:Hid (zab W (fun _=>True) vs x.cells)) (hf:zb0 x) (hl:zfd x):
 Calls prog 248 #[.agg us.toArray,.agg vs.toArray] W fun e w'=>e= .returned (.bool true)∧Below W.heap.size W w':=by
 have HS:=zaa (fun w (hw:Below W.heap.size W w)=>zgW x us vs w (zaa (zab.below (zbo.dat _ _ _ _ ha.out) hw)) (zaa (zab.below hb.out hw)) hf);obtain⟨u4,u7,u8,u9,rfl,hu4,hu7,hu8,hu9⟩:=ha.out;have HU4:=zaa hu4;obtain⟨g4,c4,heq4⟩: ∃g c,u4= .slice (some ⟨g,0,none⟩) x.semas.length c:=by obtain⟨g,c,rows,e, -⟩:=hu4;exact⟨g,c,e⟩
 subst heq4;clear hu4;have HU7:=zaa hu7;obtain⟨g7,c7,heq7⟩: ∃g c,u7= .slice (some ⟨g,0,none⟩) x.bufs.length c:=by obtain⟨g,c,rows,e, -⟩:=hu7;exact⟨g,c,e⟩
 subst heq7;clear hu7;have HU8:=zaa hu8;obtain⟨g8,c8,heq8⟩: ∃g c,u8= .slice (some ⟨g,0,none⟩) x.ports.length c:=by obtain⟨g,c,rows,e, -⟩:=hu8;exact⟨g,c,e⟩
 subst heq8;clear hu8;have HU9:=zaa hu9;obtain⟨g9,c9,heq9⟩: ∃g c,u9= .slice (some ⟨g,0,none⟩) x.procs.length c:=by obtain⟨g,c,rows,e, -⟩:=hu9;exact⟨g,c,e⟩
 subst heq9;clear hu9;have hd:=hb.out;obtain⟨v0,v1,v2,v3,v4,v5,v6,v7,v8,v9,rfl,h0,h1,h2,h3,h4,h5,h6,h7,h8,h9⟩:=znr hd;obtain rfl:=h0.leaf_eq;obtain rfl:=h1.leaf_eq;obtain rfl:=h2.leaf_eq;obtain rfl:=h3.leaf_eq;have HV4:=zaa h4;obtain⟨A4,p4,rfl, -⟩:=h4.slice;rw[show(zah x.semas).length=x.semas.length by simp[zah]] at HV4 HS ⊢;obtain rfl:=h5.leaf_eq;obtain rfl:=h6.leaf_eq;have HV7:=zaa h7;obtain⟨A7,p7,rfl, -⟩:=h7.slice;rw[show(zah x.bufs).length=x.bufs.length by simp[zah]] at HV7 HS ⊢;have HV8:=zaa h8;obtain⟨A8,p8,rfl, -⟩:=h8.slice;simp only[List.length_map] at HV8 HS ⊢;have HV9:=zaa h9;obtain⟨A9,p9,rfl, -⟩:=h9.slice;simp only[List.length_map] at HV9 HS ⊢;clear ha hb hd h0 h1 h2 h3 h4 h5 h6 h7 h8 h9;simp only[zav] at HS ⊢;have HT:=zaa (zbY W (.cells #[.string ⟨x.name.toArray⟩,.int .i64 x.period,.int .i64 x.length,.int .i64 x.mem,.slice (some ⟨g4,0,none⟩) x.semas.length c4,.int .i64 x.events,.int .i64 x.boards,.slice (some ⟨g7,0,none⟩) x.bufs.length c7,.slice (some ⟨g8,0,none⟩) x.ports.length c8,.slice (some ⟨g9,0,none⟩) x.procs.length c9] 49) (.cells #[.string ⟨x.name.toArray⟩,.int .i64 x.period,.int .i64 x.length,.int .i64 x.mem,.slice A4 x.semas.length p4,.int .i64 x.events,.int .i64 x.boards,.slice A7 x.bufs.length p7,.slice A8 x.ports.length p8,.slice A9 x.procs.length p9] 49));have hzz:(W.alloc (.cells #[.string ⟨x.name.toArray⟩,.int .i64 x.period,.int .i64 x.length,.int .i64 x.mem,.slice (some ⟨g4,0,none⟩) x.semas.length c4,.int .i64 x.events,.int .i64 x.boards,.slice (some ⟨g7,0,none⟩) x.bufs.length c7,.slice (some ⟨g8,0,none⟩) x.ports.length c8,.slice (some ⟨g9,0,none⟩) x.procs.length c9] 49)).heap.size=W.heap.size+1:=by simp
 go_enter func248,ntmps248
 go_wp2_with fail
 (try rw[hzz])
 clear hzz;generalize(W.alloc _).alloc _=w0 at *;obtain⟨a0,a1,a2,a3,a4,a5,a6,a7,a8,a9⟩:=zaZ HT.out.x;obtain⟨b0,b1,b2,b3,b4,b5,b6,b7,b8,b9⟩:=zaZ HT.out.y;go_wp2_with fail;clear a0 b0 a1 b1 a2 b2 a3 b3 a4 b4 a5 b5 a6 b6 a7 b7 a8 b8 a9 b9;refine(HS.out w0 HT.out.b).mono ?_;rintro e w1 ⟨rfl,hb⟩;have HT:=zaa (HT.out.step hb);clear hb HS;obtain⟨a0,a1,a2,a3,a4,a5,a6,a7,a8,a9⟩:=zaZ HT.out.x;obtain⟨b0,b1,b2,b3,b4,b5,b6,b7,b8,b9⟩:=zaZ HT.out.y;go_wp2_with fail;clear a0 b0 a1 b1 a2 b2 a3 b3 a4 b4 a5 b5 a6 b6 a7 b7 a8 b8 a9 b9;refine(zh7 _ G g4 c4 x.semas w1 (zaa (HV4.out.later HT.out.b)) (hl.1) (zaa (HU4.out.below zbm HT.out.b))).mono ?_;rintro e w2 ⟨rfl,hb⟩;have HT:=zaa (HT.out.step hb);clear hb;obtain⟨a0,a1,a2,a3,a4,a5,a6,a7,a8,a9⟩:=zaZ HT.out.x;obtain⟨b0,b1,b2,b3,b4,b5,b6,b7,b8,b9⟩:=zaZ HT.out.y;go_wp2_with fail;clear a0 b0 a1 b1 a2 b2 a3 b3 a4 b4 a5 b5 a6 b6 a7 b7 a8 b8 a9 b9;refine(zh7 _ G g7 c7 x.bufs w2 (zaa (HV7.out.later HT.out.b)) (hl.2.1) (zaa (HU7.out.below zbm HT.out.b))).mono ?_;rintro e w3 ⟨rfl,hb⟩;have HT:=zaa (HT.out.step hb);clear hb;obtain⟨a0,a1,a2,a3,a4,a5,a6,a7,a8,a9⟩:=zaZ HT.out.x;obtain⟨b0,b1,b2,b3,b4,b5,b6,b7,b8,b9⟩:=zaZ HT.out.y;go_wp2_with fail;clear a0 b0 a1 b1 a2 b2 a3 b3 a4 b4 a5 b5 a6 b6 a7 b7 a8 b8 a9 b9;refine(zkx _ G g8 c8 x.ports w3 (zaa (HV8.out.later HT.out.b)) (hl.2.2.1) (zaa (HU8.out.below zcj HT.out.b))).mono ?_;rintro e w4 ⟨rfl,hb⟩;have HT:=zaa (HT.out.step hb);clear hb;obtain⟨a0,a1,a2,a3,a4,a5,a6,a7,a8,a9⟩:=zaZ HT.out.x;obtain⟨b0,b1,b2,b3,b4,b5,b6,b7,b8,b9⟩:=zaZ HT.out.y;go_wp2_with fail;clear a0 b0 a1 b1 a2 b2 a3 b3 a4 b4 a5 b5 a6 b6 a7 b7 a8 b8 a9 b9;refine(zj0 _ G g9 c9 x.procs w4 (zaa (HV9.out.later HT.out.b)) (hl.2.2.2.1) (fun z hz=>hf.2.2.2.2 z hz) (hl.2.2.2.2) (zaa (HU9.out.below zbq HT.out.b))).mono ?_;rintro e w5 ⟨rfl,hb⟩;have HT:=zaa (HT.out.step hb);clear hb;go_wp2_with fail;go_ret;exact⟨rfl,HT.out.b⟩
theorem zm1: ∀r∈zar zdd,r.length=10:=by
 intro r hr;obtain⟨i,_,rfl⟩:=List.mem_map.1 hr
 rfl
theorem zjd (v:Value) (G:Nat→Prop) (g c:Nat) (l:List zaQ) (w:World) (hv:Hid (DAt w (fun _=>True) v (.row 10 (l.map zaQ.cells)))) (hn:l.length≤1000000) (hf: ∀x∈l,zb0 x) (hl: ∀x∈l,zfd x)
 (ho:Hid (LL 10 (zar zdd) zdV w G (.slice (some ⟨g,0,none⟩) l.length c) l)):
 Calls prog 202 #[.slice (some ⟨g,0,none⟩) l.length c,v] w fun e w'=>e= .returned (.bool true)∧Below w.heap.size w w':=by
 obtain⟨hc1,hc2,hgl⟩:=ho.out.fits;unfold maxLen at hc2;obtain⟨A,q,rfl,hA⟩:=hv.out.slice;have HA:=zaa hA;clear hA hv;rw[List.length_map];have hnn:((l.length:Int) != (l.length:Int))=false:=by simp
 go_enter func202,ntmps202
 go_wp2_with fail
 go_loopw [6] (fun v6 wr=> ∃k:Nat,k≤l.length+12∧v6= .int .i64 k∧Below w.heap.size w wr) (fun v6 _=>l.length+12-(intOf v6).toNat)
 case atStart=>exact⟨0,by omega,rfl,Below.refl _ _⟩
 case round=>
  obtain⟨k,hk,rfl,hbr⟩:=hrel;have HBR:=zaa hbr;clear hbr;by_cases hlt:k<l.length
  ·obtain⟨x,hx⟩: ∃x,l[k]? =some x:=⟨_,List.getElem?_eq_getElem hlt⟩
   obtain⟨bA,oA,rfl,hbA,hcaA⟩:=HA.out.at_ hx;obtain⟨r,hE,hcB⟩:=LL.at_ zbo ho.out hx;have hfx:=hf x (List.mem_of_getElem? hx);have hlx:=hl x (List.mem_of_getElem? hx);have HE:=zaa hE;obtain⟨u4,u7,u8,u9,rfl,hu4,hu7,hu8,hu9⟩:=hE;obtain⟨g4,c4,heq4⟩: ∃g c,u4= .slice (some ⟨g,0,none⟩) x.semas.length c:=by obtain⟨g,c,rows,e, -⟩:=hu4;exact⟨g,c,e⟩
   subst heq4;clear hu4;obtain⟨g7,c7,heq7⟩: ∃g c,u7= .slice (some ⟨g,0,none⟩) x.bufs.length c:=by obtain⟨g,c,rows,e, -⟩:=hu7;exact⟨g,c,e⟩
   subst heq7;clear hu7;obtain⟨g8,c8,heq8⟩: ∃g c,u8= .slice (some ⟨g,0,none⟩) x.ports.length c:=by obtain⟨g,c,rows,e, -⟩:=hu8;exact⟨g,c,e⟩
   subst heq8;clear hu8;obtain⟨g9,c9,heq9⟩: ∃g c,u9= .slice (some ⟨g,0,none⟩) x.procs.length c:=by obtain⟨g,c,rows,e, -⟩:=hu9;exact⟨g,c,e⟩
   subst heq9;clear hu9;have a0:=zad HBR.out hbA (oA+k*10) (hcaA 0 _ rfl).leafc;have b0:=zad HBR.out hgl (k*10) (hcB 0 _ rfl);have a1:=zad HBR.out hbA (oA+k*10+1) (hcaA 1 _ rfl).leafc;have b1:=zad HBR.out hgl (k*10+1) (hcB 1 _ rfl);have a2:=zad HBR.out hbA (oA+k*10+2) (hcaA 2 _ rfl).leafc;have b2:=zad HBR.out hgl (k*10+2) (hcB 2 _ rfl);have a3:=zad HBR.out hbA (oA+k*10+3) (hcaA 3 _ rfl).leafc;have b3:=zad HBR.out hgl (k*10+3) (hcB 3 _ rfl);obtain⟨uA4,cA4,gA4⟩:=hcaA 4 _ rfl;have a4:=zaI HBR.out hbA cA4;have HU4:=zaa gA4;obtain⟨A4,p4,rfl, -⟩:=gA4.slice;clear cA4 gA4;rw[show(zah x.semas).length=x.semas.length by simp[zah]] at HU4 a4;have b4:=zad HBR.out hgl (k*10+4) (hcB 4 _ rfl);have a5:=zad HBR.out hbA (oA+k*10+5) (hcaA 5 _ rfl).leafc;have b5:=zad HBR.out hgl (k*10+5) (hcB 5 _ rfl);have a6:=zad HBR.out hbA (oA+k*10+6) (hcaA 6 _ rfl).leafc;have b6:=zad HBR.out hgl (k*10+6) (hcB 6 _ rfl);obtain⟨uA7,cA7,gA7⟩:=hcaA 7 _ rfl;have a7:=zaI HBR.out hbA cA7;have HU7:=zaa gA7;obtain⟨A7,p7,rfl, -⟩:=gA7.slice;clear cA7 gA7;rw[show(zah x.bufs).length=x.bufs.length by simp[zah]] at HU7 a7;have b7:=zad HBR.out hgl (k*10+7) (hcB 7 _ rfl);obtain⟨uA8,cA8,gA8⟩:=hcaA 8 _ rfl;have a8:=zaI HBR.out hbA cA8;have HU8:=zaa gA8;obtain⟨A8,p8,rfl, -⟩:=gA8.slice;clear cA8 gA8;simp only[List.length_map] at HU8 a8;have b8:=zad HBR.out hgl (k*10+8) (hcB 8 _ rfl);obtain⟨uA9,cA9,gA9⟩:=hcaA 9 _ rfl;have a9:=zaI HBR.out hbA cA9;have HU9:=zaa gA9;obtain⟨A9,p9,rfl, -⟩:=gA9.slice;clear cA9 gA9;simp only[List.length_map] at HU9 a9;have b9:=zad HBR.out hgl (k*10+9) (hcB 9 _ rfl);simp only[zav] at HE a0 b0;have HC:=zaa (fun s:zaj wr=>ziC x G _ [.string ⟨x.name.toArray⟩,.int .i64 x.period,.int .i64 x.length,.int .i64 x.mem,.slice A4 x.semas.length p4,.int .i64 x.events,.int .i64 x.boards,.slice A7 x.bufs.length p7,.slice A8 x.ports.length p8,.slice A9 x.procs.length p9] s.w (zaa (zbo.keep _ _ _ _ _ (HBR.out.trans (s.below.mono HBR.out.size)).size (fun b _ hl=>(HBR.out.trans (s.below.mono HBR.out.size)).block b hl) HE.out)) (zaa (zab.cons (.leaf _) (zab.cons (.leaf _) (zab.cons (.leaf _) (zab.cons (.leaf _) (zab.cons ((HU4.out.later HBR.out).later s.below) (zab.cons (.leaf _) (zab.cons (.leaf _) (zab.cons ((HU7.out.later HBR.out).later s.below) (zab.cons ((HU8.out.later HBR.out).later s.below) (zab.cons ((HU9.out.later HBR.out).later s.below) (zab.nil)))))))))))) hfx hlx);have hBA:=Nat.lt_of_lt_of_le hbA HBR.out.size;have hgl2:g<wr.heap.size:=Nat.lt_of_lt_of_le hgl HBR.out.size;clear hcaA hcB hx hfx hlx;have k0:(0:Int)≤(k:Int):=by omega
   have g1:decide (k<l.length)=true:=by simp;omega
   have g2:decide (l.length≤k)=false:=by simp;omega
   go_wp2_with fail;refine zac (W:=wr) (by kernel_rfl) (by kernel_rfl) ?_
   repeat(go_big_quiet_step ((go_at_call 248;exact zaj.call (HC.out _))))
   refine wpQuiet_nil ?_;rintro _ ⟨s,rfl⟩;go_wp2_with fail;go_roundw
   case rel=>exact⟨k+1,by omega,by go_num,HBR.out.trans (s.below.mono HBR.out.size)⟩
   case measure=>simp[intOf];omega
  ·by_cases hlt2:k<l.length+12
   ·have hmk:=LL.mark zbo ho.out (zbs (f:=zdd) (show k-l.length<12 by omega)) zm1
    rw[show l.length+(k-l.length)=k by omega] at hmk;have hi:((k-l.length:Nat):Int)=(k:Int)-l.length:=by omega
    have hgl2:g<wr.heap.size:=Nat.lt_of_lt_of_le hgl HBR.out.size;have b0:=zad HBR.out hgl (k*10) (hmk 0 _ rfl);have b1:=zad HBR.out hgl (k*10+1) (hmk 1 _ rfl);have b2:=zad HBR.out hgl (k*10+2) (hmk 2 _ rfl);have b3:=zad HBR.out hgl (k*10+3) (hmk 3 _ rfl);have b4:=zad HBR.out hgl (k*10+4) (hmk 4 _ rfl);have b5:=zad HBR.out hgl (k*10+5) (hmk 5 _ rfl);have b6:=zad HBR.out hgl (k*10+6) (hmk 6 _ rfl);have b7:=zad HBR.out hgl (k*10+7) (hmk 7 _ rfl);have b8:=zad HBR.out hgl (k*10+8) (hmk 8 _ rfl);have b9:=zad HBR.out hgl (k*10+9) (hmk 9 _ rfl);have HM:=zaa (fun W=>zmv (k-l.length) W (by omega));rw[hi] at HM;rw[hi] at b1;generalize mkI 1 ((k:Int)-l.length)=m at *;clear hmk hi;have k0:(0:Int)≤(k:Int):=by omega
    have g1:decide (k<l.length)=false:=by simp;omega
    have g2:decide (l.length≤k)=true:=by simp;omega
    have hin:(k:Int)<((l.length:Nat):Int)+12:=by omega
    have HS:=zaa (fun s:zaj wr=>zgW ⟨[],m,0,0,[],0,0,[],[],[]⟩ [.string ⟨#[]⟩,.int .i64 (m),.int .i64 0,.int .i64 0,.slice none 0 0,.int .i64 0,.int .i64 0,.slice none 0 0,.slice none 0 0,.slice none 0 0] [.string ⟨#[]⟩,.int .i64 (m),.int .i64 0,.int .i64 0,.slice none 0 0,.int .i64 0,.int .i64 0,.slice none 0 0,.slice none 0 0,.slice none 0 0] s.w (zaa (by((repeat(refine zab.cons ?_ ?_;first|exact .leaf _|exact .nil _ _ _));exact zab.nil))) (zaa (by((repeat(refine zab.cons ?_ ?_;first|exact .leaf _|exact .nil _ _ _));exact zab.nil))) (by simp[zcb,zb0]));go_wp2_with fail;refine zac (W:=wr) (by kernel_rfl) (by kernel_rfl) ?_
    repeat(go_big_quiet_step (first|(go_at_call 244;exact zaj.call (HM.out _))|(go_at_call 247;exact zaj.call (HS.out _))))
    refine wpQuiet_nil ?_;rintro _ ⟨s,rfl⟩;go_wp2_with fail;go_roundw
    case rel=>exact⟨k+1,by omega,by go_num,HBR.out.trans (s.below.mono HBR.out.size)⟩
    case measure=>simp[intOf];omega
   ·go_wp2_with fail
    go_ret;exact⟨rfl,HBR.out⟩
theorem zjO (x:zcy) (G:Nat→Prop) (us vs:List Value) (W:World) (ha:Hid (zfa W G us x)) (hb:Hid (zab W (fun _=>True) vs x.cells)) (hf:zdl x) (hl:x.parts.length≤1000000∧ ∀y∈x.parts,zfd y):
 Calls prog 128 #[.agg us.toArray,.agg vs.toArray] W fun e w'=>e= .returned (.bool true)∧Below W.heap.size W w':=by
 have HS:=zaa (fun w (hw:Below W.heap.size W w)=>zjz x us vs w (zaa (zab.below (za3.dat _ _ _ _ ha.out) hw)) (zaa (zab.below hb.out hw)) hf);obtain⟨u3,rfl,hu3⟩:=ha.out;have HU3:=zaa hu3;obtain⟨g3,c3,heq3⟩: ∃g c,u3= .slice (some ⟨g,0,none⟩) x.parts.length c:=by obtain⟨g,c,rows,e, -⟩:=hu3;exact⟨g,c,e⟩
 subst heq3;clear hu3;have hd:=hb.out;obtain⟨v0,v1,v2,v3,rfl,h0,h1,h2,h3⟩:=dc4 hd;obtain rfl:=h0.leaf_eq;obtain rfl:=h1.leaf_eq;obtain rfl:=h2.leaf_eq;have HV3:=zaa h3;obtain⟨A3,p3,rfl, -⟩:=h3.slice;simp only[List.length_map] at HV3 HS ⊢;clear ha hb hd h0 h1 h2 h3;simp only[zav] at HS ⊢;have HT:=zaa (zbY W (.cells #[.string ⟨x.name.toArray⟩,.int .i64 x.mem,.int .i64 x.frame,.slice (some ⟨g3,0,none⟩) x.parts.length c3] 44) (.cells #[.string ⟨x.name.toArray⟩,.int .i64 x.mem,.int .i64 x.frame,.slice A3 x.parts.length p3] 44));have hzz:(W.alloc (.cells #[.string ⟨x.name.toArray⟩,.int .i64 x.mem,.int .i64 x.frame,.slice (some ⟨g3,0,none⟩) x.parts.length c3] 44)).heap.size=W.heap.size+1:=by simp
 go_enter func128,ntmps128
 go_wp2_with fail
 (try rw[hzz])
 clear hzz;generalize(W.alloc _).alloc _=w0 at *;obtain⟨a0,a1,a2,a3⟩:=zci HT.out.x;obtain⟨b0,b1,b2,b3⟩:=zci HT.out.y;go_wp2_with fail;clear a0 b0 a1 b1 a2 b2 a3 b3;refine(HS.out w0 HT.out.b).mono ?_;rintro e w1 ⟨rfl,hb⟩;have HT:=zaa (HT.out.step hb);clear hb HS;obtain⟨a0,a1,a2,a3⟩:=zci HT.out.x;obtain⟨b0,b1,b2,b3⟩:=zci HT.out.y;go_wp2_with fail;clear a0 b0 a1 b1 a2 b2 a3 b3;refine(zjd _ G g3 c3 x.parts w1 (zaa (HV3.out.later HT.out.b)) (hl.1) (fun z hz=>hf.2 z hz) (hl.2) (zaa (HU3.out.below zbo HT.out.b))).mono ?_;rintro e w2 ⟨rfl,hb⟩;have HT:=zaa (HT.out.step hb);clear hb;go_wp2_with fail;go_ret;exact⟨rfl,HT.out.b⟩
theorem zoS: ∀r∈zar zd2,r.length=4:=by
 intro r hr;obtain⟨i,_,rfl⟩:=List.mem_map.1 hr
 rfl
theorem zlS (v:Value) (G:Nat→Prop) (g c:Nat) (l:List zcy) (w:World) (hv:Hid (DAt w (fun _=>True) v (.row 4 (l.map zcy.cells)))) (hn:l.length≤1000000) (hf: ∀x∈l,zdl x) (hl: ∀x∈l,x.parts.length≤1000000∧ ∀y∈x.parts,zfd y)
 (ho:Hid (LL 4 (zar zd2) zfa w G (.slice (some ⟨g,0,none⟩) l.length c) l)):
 Calls prog 63 #[.slice (some ⟨g,0,none⟩) l.length c,v] w fun e w'=>e= .returned (.bool true)∧Below w.heap.size w w':=by
 obtain⟨hc1,hc2,hgl⟩:=ho.out.fits;unfold maxLen at hc2;obtain⟨A,q,rfl,hA⟩:=hv.out.slice;have HA:=zaa hA;clear hA hv;rw[List.length_map];have hnn:((l.length:Int) != (l.length:Int))=false:=by simp
 go_enter func63,ntmps63
 go_wp2_with fail
 go_loopw [6] (fun v6 wr=> ∃k:Nat,k≤l.length+12∧v6= .int .i64 k∧Below w.heap.size w wr) (fun v6 _=>l.length+12-(intOf v6).toNat)
 case atStart=>exact⟨0,by omega,rfl,Below.refl _ _⟩
 case round=>
  obtain⟨k,hk,rfl,hbr⟩:=hrel;have HBR:=zaa hbr;clear hbr;by_cases hlt:k<l.length
  ·obtain⟨x,hx⟩: ∃x,l[k]? =some x:=⟨_,List.getElem?_eq_getElem hlt⟩
   obtain⟨bA,oA,rfl,hbA,hcaA⟩:=HA.out.at_ hx;obtain⟨r,hE,hcB⟩:=LL.at_ za3 ho.out hx;have hfx:=hf x (List.mem_of_getElem? hx);have hlx:=hl x (List.mem_of_getElem? hx);have HE:=zaa hE;obtain⟨u3,rfl,hu3⟩:=hE;obtain⟨g3,c3,heq3⟩: ∃g c,u3= .slice (some ⟨g,0,none⟩) x.parts.length c:=by obtain⟨g,c,rows,e, -⟩:=hu3;exact⟨g,c,e⟩
   subst heq3;clear hu3;have a0:=zad HBR.out hbA (oA+k*4) (hcaA 0 _ rfl).leafc;have b0:=zad HBR.out hgl (k*4) (hcB 0 _ rfl);have a1:=zad HBR.out hbA (oA+k*4+1) (hcaA 1 _ rfl).leafc;have b1:=zad HBR.out hgl (k*4+1) (hcB 1 _ rfl);have a2:=zad HBR.out hbA (oA+k*4+2) (hcaA 2 _ rfl).leafc;have b2:=zad HBR.out hgl (k*4+2) (hcB 2 _ rfl);obtain⟨uA3,cA3,gA3⟩:=hcaA 3 _ rfl;have a3:=zaI HBR.out hbA cA3;have HU3:=zaa gA3;obtain⟨A3,p3,rfl, -⟩:=gA3.slice;clear cA3 gA3;simp only[List.length_map] at HU3 a3;have b3:=zad HBR.out hgl (k*4+3) (hcB 3 _ rfl);simp only[zav] at HE a0 b0;have HC:=zaa (fun s:zaj wr=>zjO x G _ [.string ⟨x.name.toArray⟩,.int .i64 x.mem,.int .i64 x.frame,.slice A3 x.parts.length p3] s.w (zaa (za3.keep _ _ _ _ _ (HBR.out.trans (s.below.mono HBR.out.size)).size (fun b _ hl=>(HBR.out.trans (s.below.mono HBR.out.size)).block b hl) HE.out)) (zaa (zab.cons (.leaf _) (zab.cons (.leaf _) (zab.cons (.leaf _) (zab.cons ((HU3.out.later HBR.out).later s.below) (zab.nil)))))) hfx hlx);have hBA:=Nat.lt_of_lt_of_le hbA HBR.out.size;have hgl2:g<wr.heap.size:=Nat.lt_of_lt_of_le hgl HBR.out.size;clear hcaA hcB hx hfx hlx;have k0:(0:Int)≤(k:Int):=by omega
   have g1:decide (k<l.length)=true:=by simp;omega
   have g2:decide (l.length≤k)=false:=by simp;omega
   go_wp2_with fail;refine zac (W:=wr) (by kernel_rfl) (by kernel_rfl) ?_
   repeat(go_big_quiet_step ((go_at_call 128;exact zaj.call (HC.out _))))
   refine wpQuiet_nil ?_;rintro _ ⟨s,rfl⟩;go_wp2_with fail;go_roundw
   case rel=>exact⟨k+1,by omega,by go_num,HBR.out.trans (s.below.mono HBR.out.size)⟩
   case measure=>simp[intOf];omega
  ·by_cases hlt2:k<l.length+12
   ·have hmk:=LL.mark za3 ho.out (zbs (f:=zd2) (show k-l.length<12 by omega)) zoS
    rw[show l.length+(k-l.length)=k by omega] at hmk;have hi:((k-l.length:Nat):Int)=(k:Int)-l.length:=by omega
    have hgl2:g<wr.heap.size:=Nat.lt_of_lt_of_le hgl HBR.out.size;have b0:=zad HBR.out hgl (k*4) (hmk 0 _ rfl);have b1:=zad HBR.out hgl (k*4+1) (hmk 1 _ rfl);have b2:=zad HBR.out hgl (k*4+2) (hmk 2 _ rfl);have b3:=zad HBR.out hgl (k*4+3) (hmk 3 _ rfl);have HM:=zaa (fun W=>zoE (k-l.length) W (by omega));rw[hi] at HM;rw[hi] at b1;generalize mkI 1 ((k:Int)-l.length)=m at *;clear hmk hi;have k0:(0:Int)≤(k:Int):=by omega
    have g1:decide (k<l.length)=false:=by simp;omega
    have g2:decide (l.length≤k)=true:=by simp;omega
    have hin:(k:Int)<((l.length:Nat):Int)+12:=by omega
    have HS:=zaa (fun s:zaj wr=>zjz ⟨[],m,0,[]⟩ [.string ⟨#[]⟩,.int .i64 (m),.int .i64 0,.slice none 0 0] [.string ⟨#[]⟩,.int .i64 (m),.int .i64 0,.slice none 0 0] s.w (zaa (by((repeat(refine zab.cons ?_ ?_;first|exact .leaf _|exact .nil _ _ _));exact zab.nil))) (zaa (by((repeat(refine zab.cons ?_ ?_;first|exact .leaf _|exact .nil _ _ _));exact zab.nil))) (by simp[zcb,zb0,zdl]));go_wp2_with fail;refine zac (W:=wr) (by kernel_rfl) (by kernel_rfl) ?_
    repeat(go_big_quiet_step (first|(go_at_call 113;exact zaj.call (HM.out _))|(go_at_call 124;exact zaj.call (HS.out _))))
    refine wpQuiet_nil ?_;rintro _ ⟨s,rfl⟩;go_wp2_with fail;go_roundw
    case rel=>exact⟨k+1,by omega,by go_num,HBR.out.trans (s.below.mono HBR.out.size)⟩
    case measure=>simp[intOf];omega
   ·go_wp2_with fail
    go_ret;exact⟨rfl,HBR.out⟩
end Go.Proofs.YtgbfaompondolaaGreatDoor
