/- Merged texts of the walks and of the plain laws on which the statement leans.-/
import Derived.Test.YtgbfaompondolaaGreatDoorPk3
import Derived.Test.YtgbfaompondolaaGreatDoorPk1
import Derived.Conc.MuLone
set_option maxHeartbeats 4000000
set_option maxRecDepth 100000
namespace Go.Proofs.YtgbfaompondolaaGreatDoor
open Tryz
open Go.RowKit
attribute [local go_sem] zaj.cell
def zbj (n:Int):Bool:=decide (0≤n)&&decide (n≤1073741824)
def zdq (n:Int):Bool:=n==0
theorem zmc (v:Value) (l:List Int) (W:World) (hv:Hid (DAt W (fun _=>True) v (.row 1 (zah l)))) (hl:l.length≤140737488355328):
 Calls prog 256 #[v,.func (.func 214) #[] #[]] W fun e w'=> ∃r:Int,e= .returned (.int .i64 r)∧(r<0∧l.all zbj=true∨0≤r∧l.all zbj=false)∧Below W.heap.size W w':=by
 obtain⟨A,c,rfl,hA⟩:=hv.out.slice;have HA:=zaa hA;clear hA hv;unfold zah at *;rw[List.length_map];have _:=hl
 go_enter func256,ntmps256
 go_wp2_with fail
 go_loopw [8] (fun v8 wr=> ∃k:Nat,k≤l.length∧v8= .int .i64 k∧(l.take k).all zbj=true∧Below W.heap.size W wr) (fun v8 _=>l.length-(intOf v8).toNat)
 case atStart=>exact⟨0,by omega,rfl,by simp,Below.refl _ _⟩
 case round=>
  obtain⟨k,hk,rfl,ht,hbr⟩:=hrel;have HT:=zaa ht;have HBR:=zaa hbr;clear ht;by_cases hlt:k<l.length
  rotate_left
  ·obtain rfl:k=l.length:=by omega
   rw[List.take_length] at HT;clear hbr hlt;go_wp2_with fail;go_ret;exact⟨_,rfl,.inl ⟨by decide,HT.out⟩,HBR.out⟩
  obtain⟨x,hx⟩:=zbE hlt;obtain⟨b,off,rfl,hb,hca⟩:=HA.out.at_ hx;have c0:=(hca 0 _ rfl).leafc;clear hca;have c0:=zad HBR.out hb (off+k) (by simpa using c0);have k0:=kbZ k l.length;have HX:=zaa hx;clear hx hbr;rcases(by omega:x<0∨ ¬x<0∧1073741824<x∨ ¬x<0∧ ¬1073741824<x) with h1|⟨h1,h2⟩|⟨h1,h2⟩
  ·have HNO:=zaa (zaH HX.out (show zbj x=false by unfold zbj;simp;omega))
   go_wp2_with(first|(go_at_call 214;go_in))
   go_ret;exact⟨_,rfl,.inr ⟨by omega,by first|exact HNO.out|simpa using HNO.out⟩,HBR.out⟩
  ·have HNO:=zaa (zaH HX.out (show zbj x=false by unfold zbj;simp;omega))
   go_wp2_with(first|(go_at_call 214;go_in))
   go_ret;exact⟨_,rfl,.inr ⟨by omega,by first|exact HNO.out|simpa using HNO.out⟩,HBR.out⟩
  ·have HTK:=zaa (zaK HT.out HX.out (show zbj x=true by unfold zbj;simp;omega))
   go_wp2_with(first|(go_at_call 214;go_in))
   go_roundw
   case rel=>exact⟨k+1,by omega,by go_num,HTK.out,HBR.out⟩
   case measure=>simp[intOf];omega
theorem zbQ (v:Value) (l:List Int) (W:World) (hv:Hid (DAt W (fun _=>True) v (.row 1 (zah l)))) (hl:l.length≤140737488355328):
 Calls prog 147 #[v] W fun e w'=>e= .returned (.bool (l.all zbj))∧Below W.heap.size W w':=by
 have HI:=zaa (zmc v l W hv hl)
 go_enter func147,ntmps147
 go_wp2_with(first|(go_at_call 213;go_in))
 refine HI.out.mono ?_;rintro e w2 ⟨r,rfl,hr,hb⟩;have HB2:=zaa hb;have HR:=zaa (show l.all zbj= !decide (0≤r) by rcases hr with⟨h1,h2⟩|⟨h1,h2⟩<;>simp[h2]<;>omega);clear hb hr HI;go_wp2_with fail;go_ret;exact⟨by rw[HR.out];rfl,HB2.out⟩
theorem zlw (bx:Nat) (v:Value) (l:List Int) (W:World) (hx0:W.cell? ⟨bx,0,none⟩=some (.func (.func 150) #[] #[])) (hv:Hid (DAt W (fun _=>True) v (.row 1 (zah l)))) (hl:l.length≤140737488355328):
 Calls prog 256 #[v,.func (.func 215) #[] #[.pointer (some ⟨bx,0,none⟩)]] W fun e w'=> ∃r:Int,e= .returned (.int .i64 r)∧(r<0∧l.all zdq=true∨0≤r∧l.all zdq=false)∧Below W.heap.size W w':=by
 obtain⟨A,c,rfl,hA⟩:=hv.out.slice;have HA:=zaa hA;clear hA hv;unfold zah at *;rw[List.length_map];have hbx:=zbp hx0
 go_enter func256,ntmps256
 go_wp2_with fail
 go_loopw [8] (fun v8 wr=> ∃k:Nat,k≤l.length∧v8= .int .i64 k∧(l.take k).all zdq=true∧Below W.heap.size W wr) (fun v8 _=>l.length-(intOf v8).toNat)
 case atStart=>exact⟨0,by omega,rfl,by simp,Below.refl _ _⟩
 case round=>
  obtain⟨k,hk,rfl,ht,hbr⟩:=hrel;have HT:=zaa ht;have HBR:=zaa hbr;clear ht;by_cases hlt:k<l.length
  rotate_left
  ·obtain rfl:k=l.length:=by omega
   rw[List.take_length] at HT;clear hbr hlt;go_wp2_with fail;go_ret;exact⟨_,rfl,.inl ⟨by decide,HT.out⟩,HBR.out⟩
  obtain⟨x,hx⟩:=zbE hlt;obtain⟨b,off,rfl,hb,hca⟩:=HA.out.at_ hx;have c0:=(hca 0 _ rfl).leafc;clear hca;have c0:=zad HBR.out hb (off+k) (by simpa using c0);have hbxw:=(hbr.cell hbx).trans hx0;have lbx:bx<wr.heap.size:=Nat.lt_of_lt_of_le hbx hbr.size;have k0:=kbZ k l.length;have HX:=zaa hx;clear hx hbr;by_cases h1:x=0
  ·have HTK:=zaa (zaK HT.out HX.out (show zdq x=true by unfold zdq;simpa using h1))
   have e1:(x==0)=true:=by simpa using h1
   clear h1;go_wp2_with(first|(go_at_call 215;go_in)|(go_at_call 150;go_in))
   go_roundw
   case rel=>exact⟨k+1,by omega,by go_num,HTK.out,HBR.out⟩
   case measure=>simp[intOf];omega
  ·have HNO:=zaa (zaH HX.out (show zdq x=false by unfold zdq;simpa using h1))
   have e1:(x==0)=false:=by simpa using h1
   clear h1;go_wp2_with(first|(go_at_call 215;go_in)|(go_at_call 150;go_in))
   go_ret;exact⟨_,rfl,.inr ⟨by omega,by first|exact HNO.out|simpa using HNO.out⟩,HBR.out⟩
theorem zmd (v:Value) (l:List Int) (W:World) (hv:Hid (DAt W (fun _=>True) v (.row 1 (zah l)))) (hl:l.length≤140737488355328):
 Calls prog 149 #[v,.func (.func 150) #[] #[]] W fun e w'=>e= .returned (.bool (l.all zdq))∧Below W.heap.size W w':=by
 have hmf: ∀(fn:Fn) (first cap:Array Value) (w:World),(Instr.makeFunc fn first cap).run prog w= .ok (.func fn first cap) w:=fun _ _ _ _=>rfl
 have HB:=zaa ((Below.refl W.heap.size W).alloc (Nat.le_refl _) (.cells #[.func (.func 150) #[] #[]] 154));have HI:=zaa (zlw W.heap.size v l (W.alloc (.cells #[.func (.func 150) #[] #[]] 154)) (by rw[cell_of_row _ _ 0 _ _ _ (heap_alloc_new W _)];rfl) (zaa (hv.out.later HB.out)) hl)
 go_enter func149,ntmps149
 go_wp2_with(first|(go_at_call 213;go_in))
 refine HI.out.mono ?_;rintro e w2 ⟨r,rfl,hr,hb⟩;have HB2:=zaa (btZ HB.out hb);have HR:=zaa (show l.all zdq= !decide (0≤r) by rcases hr with⟨h1,h2⟩|⟨h1,h2⟩<;>simp[h2]<;>omega);clear hb hr HI;go_wp2_with fail;go_ret;exact⟨by rw[HR.out];rfl,HB2.out⟩
open Go.MuLone (run_callFunc_enter)
structure IsT (F:Nat→Prop) (w:World) (f:Nat) (caps:Array Value) (p:UInt8→Bool):Prop where
 inn: ∀k,F k→k<w.heap.size
 enters: ∀(args:Array Value) (W:World),(callFunc f args).run prog W= .ok (.enter f args) W
 says: ∀W:World,(∀k,F k→W.heap[k]? =w.heap[k]?)→ ∀b:UInt8,Calls prog f (#[.int .u8 (b.toNat:Int)]++caps) W fun e W'=>e= .returned (.bool (p b))∧Below W.heap.size W W'
theorem IsT.keep {F:Nat→Prop} {w w':World} {f:Nat} {caps:Array Value} {p:UInt8→Bool} (h:IsT F w f caps p) (hs:w.heap.size≤w'.heap.size) (hk: ∀k,F k→w'.heap[k]? =w.heap[k]?):IsT F w' f caps p:=
 ⟨fun k hf=>Nat.lt_of_lt_of_le (h.inn k hf) hs,h.enters,fun W hW b=>h.says W (fun k hf=>(hW k hf).trans (hk k hf)) b⟩
theorem IsT.below {F:Nat→Prop} {w w':World} {f:Nat} {caps:Array Value} {p:UInt8→Bool} (h:IsT F w f caps p) (hb:Below w.heap.size w w'):IsT F w' f caps p:=
 h.keep hb.size (fun k hf=>hb.block k (h.inn k hf))
def zfi (lo hi:Nat) (b:UInt8):Bool:=decide (lo≤b.toNat)&&decide (b.toNat≤hi)
theorem znG (lo hi:Nat) (xl xh:Nat) (b:UInt8) (W:World) (h1:Hid (W.heap[xl]? =some (.cells #[.int .u8 (lo:Int)] 5 (0,0)))) (h2:Hid (W.heap[xh]? =some (.cells #[.int .u8 (hi:Int)] 5 (0,0)))):
 Calls prog 316 #[.int .u8 (b.toNat:Int),.pointer (some ⟨xl,0,none⟩),.pointer (some ⟨xh,0,none⟩)] W fun e W'=>e= .returned (.bool (zfi lo hi b))∧Below W.heap.size W W':=by
 have c1:=cell_of_row W xl 0 _ _ _ h1.out;have c2:=cell_of_row W xh 0 _ _ _ h2.out;simp only[List.getElem?_toArray,List.getElem?_cons_zero] at c1 c2;have HB:Hid (zfi lo hi b=(decide (lo≤b.toNat)&&decide (b.toNat≤hi))):=rfl;generalize b.toNat=n at *;by_cases g1:lo≤n
 ·by_cases g2:n≤hi
  ·have HR:=zaa (show zfi lo hi b=true by rw[HB.out];simp[g1,g2])
   go_enter func316,ntmps316
   go_wp2_with fail;go_ret;exact⟨by rw[HR.out];rfl,Below.refl _ _⟩
  ·have HR:=zaa (show zfi lo hi b=false by rw[HB.out];simp[g2])
   have g2':decide (n≤hi)=false:=by simp;omega
   go_enter func316,ntmps316
   go_wp2_with fail;go_ret;exact⟨by rw[HR.out];rfl,Below.refl _ _⟩
 ·have HR:=zaa (show zfi lo hi b=false by rw[HB.out];simp[g1])
  have g1':decide (lo≤n)=false:=by simp;omega
  go_enter func316,ntmps316
  go_wp2_with fail;go_ret;exact⟨by rw[HR.out];rfl,Below.refl _ _⟩
theorem zg3 (lo hi:Nat) (w:World):Calls prog 295 #[.int .u8 (lo:Int),.int .u8 (hi:Int)] w fun e w'=> ∃caps,e= .returned (.func (.func 316) #[] caps)∧IsT (fun k=>w.heap.size≤k∧k<w.heap.size+2) w' 316 caps (zfi lo hi)∧Below w.heap.size w w':=by
 have HT:Hid (∀w':World,w'.heap[w.heap.size]? =some (.cells #[.int .u8 (lo:Int)] 5 (0,0))→w'.heap[w.heap.size+1]? =some (.cells #[.int .u8 (hi:Int)] 5 (0,0))→
  IsT (fun k=>w.heap.size≤k∧k<w.heap.size+2) w' 316 #[.pointer (some ⟨w.heap.size,0,none⟩),.pointer (some ⟨w.heap.size+1,0,none⟩)] (zfi lo hi)):=by
  intro w' h1 h2;have hlt:=(zau h2);exact⟨fun k hk=>by omega,fun args W=>run_callFunc_enter (c:=((Tryz.f316).body.getD .skip)) func316 (by kernel_rfl) (by kernel_rfl) args W,fun W hW b=>znG lo hi w.heap.size (w.heap.size+1) b W ((hW _ ⟨by omega,by omega⟩).trans h1) ((hW _ ⟨by omega,by omega⟩).trans h2)⟩
 go_enter func295,ntmps295
 go_wp2_with fail;go_ret;refine⟨_,rfl,HT.out _ ?_ ?_,((Below.refl _ _).alloc (Nat.le_refl _) _).alloc (by simp) _⟩
 ·exact(Below.heap_alloc _ _ _ (by simp)).trans (heap_alloc_new w _)
 ·have:=heap_alloc_new (w.alloc (.cells #[.int .u8 (lo:Int)] 5)) (.cells #[.int .u8 (hi:Int)] 5)
  rw[World.size_alloc] at this;exact this
open Go.MuLone (run_callFunc_enter)
structure TB where
 f:Nat
 caps:Array Value
 p:UInt8→Bool
def TB.val (t:TB):Value:= .func (.func t.f) #[] t.caps
def zgR (ts:List TB) (b:UInt8):Bool:=ts.any fun t=>t.p b
theorem zjV (ts:List TB) (k:Nat) (t:TB) (b:UInt8) (h:ts[k]? =some t) (h0:zgR (ts.take k) b=false):zgR (ts.take (k+1)) b=t.p b:=by
 obtain⟨hk,rfl⟩:=List.getElem?_eq_some_iff.1 h;unfold zgR at *;rw[List.take_succ_eq_append_getElem hk,List.any_append,h0];simp
theorem zf5 (ts:List TB) (k:Nat) (b:UInt8) (h:zgR (ts.take k) b=true):zgR ts b=true:=by
 unfold zgR at *;rw[List.any_eq_true] at *;obtain⟨t,ht,hp⟩:=h;exact⟨t,List.mem_of_mem_take ht,hp⟩
theorem zha (xt xs:Nat) (ts:List TB) (F:Nat→Prop) (b:UInt8) (W:World) (hn:ts.length≤100) (h1:Hid (W.heap[xt]? =some (.cells #[.slice (some ⟨xs,0,none⟩) ts.length ts.length] 308 (0,0))))
 (h2:Hid (W.heap[xs]? =some (.cells (ts.map TB.val).toArray 233 (0,0)))) (hT:Hid (∀t∈ts,IsT F W t.f t.caps t.p)):
 Calls prog 315 #[.int .u8 (b.toNat:Int),.pointer (some ⟨xt,0,none⟩)] W fun e W'=>e= .returned (.bool (zgR ts b))∧Below W.heap.size W W':=by
 have c1:=cell_of_row W xt 0 _ _ _ h1.out;simp only[List.getElem?_toArray,List.getElem?_cons_zero] at c1;obtain⟨n,hnl⟩: ∃n,ts.length=n:=⟨_,rfl⟩;rw[hnl] at c1 hn;have HN:=zaa hnl;clear hnl
 go_enter func315,ntmps315
 go_wp2_with fail
 go_loopw [8] (fun v8 wr=> ∃k:Nat,k≤n∧v8= .int .i64 k∧zgR (ts.take k) b=false∧Below W.heap.size W wr) (fun v8 _=>n-(intOf v8).toNat)
 case atStart=>exact⟨0,by omega,rfl,rfl,Below.refl _ _⟩
 case round=>
  obtain⟨k,hk,rfl,ha,hbr⟩:=hrel;have HA:=zaa ha;have HBR:=zaa hbr;clear ha hbr;by_cases hlt:k<n
  ·have hkl:k<ts.length:=by rw[HN.out];exact hlt
   have hx:ts[k]? =some ts[k]:=List.getElem?_eq_getElem hkl;have HS:=zaa (zjV ts k _ b hx HA.out);have c2:wr.cell? ⟨xs,k,none⟩=some ts[k].val:=by
    rw[cell_of_row wr xs k _ _ _ ((HBR.out.block _ (zau h2.out)).trans h2.out)];simp[hkl]
   have hTk:=(hT.out _ (List.getElem_mem hkl)).below HBR.out;have HC:=zaa (hTk.says wr (fun _ _=>rfl) b);have hen:=hTk.enters;generalize ts[k]=t at *;obtain⟨f,caps,p⟩:=t;unfold TB.val at c2;simp only at c2 HC HS hen;clear hx hkl hTk;have k0:(0:Int)≤(k:Int):=by omega
   have k1:(k:Int)<(n:Int):=by omega
   cases hp:p b
   ·have HS2:=zaa (HS.out.trans hp)
    rw[hp] at HC;clear hp HS;go_wp2_with fail;refine HC.out.mono ?_;rintro e w1 ⟨rfl,hb1⟩;have HB1:=zaa (btZ HBR.out hb1);clear hb1;go_wp2_with fail;go_roundw
    case rel=>exact⟨k+1,by omega,by go_num,HS2.out,HB1.out⟩
    case measure=>simp[intOf];omega
   ·have HS2:=zaa (HS.out.trans hp)
    rw[hp] at HC;clear hp HS;have HR:=zaa (show zgR ts b=true from zf5 ts (k+1) b HS2.out);go_wp2_with fail;refine HC.out.mono ?_;rintro e w1 ⟨rfl,hb1⟩;have HB1:=zaa (btZ HBR.out hb1);clear hb1;go_wp2_with fail;go_ret;exact⟨by rw[HR.out];rfl,HB1.out⟩
  ·have HR:=zaa (show zgR ts b=false by have:=HA.out;rwa[List.take_of_length_le (by rw[HN.out];omega)] at this)
   go_wp2_with fail;go_ret;exact⟨by rw[HR.out];rfl,HBR.out⟩
theorem zeD (xs:Nat) (ts:List TB) (F:Nat→Prop) (w:World) (hn:ts.length≤100) (h2:Hid (w.heap[xs]? =some (.cells (ts.map TB.val).toArray 233 (0,0)))) (hT:Hid (∀t∈ts,IsT F w t.f t.caps t.p)) (hF: ∀k,F k→k<w.heap.size):
 Calls prog 294 #[.slice (some ⟨xs,0,none⟩) ts.length ts.length] w fun e w'=> ∃caps,e= .returned (.func (.func 315) #[] caps)∧IsT (fun k=>F k∨k=xs∨k=w.heap.size) w' 315 caps (zgR ts)∧Below w.heap.size w w':=by
 have hxs:=(zau h2.out);have HT:Hid (∀w':World,Below w.heap.size w w'→w'.heap[w.heap.size]? =some (.cells #[.slice (some ⟨xs,0,none⟩) ts.length ts.length] 308 (0,0))→IsT (fun k=>F k∨k=xs∨k=w.heap.size) w' 315 #[.pointer (some ⟨w.heap.size,0,none⟩)] (zgR ts)):=by
  intro w' hb h1;have hlt:=(zau h1);refine⟨fun k hk=> ?_,fun args W=>run_callFunc_enter (c:=((Tryz.f315).body.getD .skip)) func315 (by kernel_rfl) (by kernel_rfl) args W,fun W hW b=> ?_⟩
  ·rcases hk with hk|rfl|rfl
   ·exact Nat.lt_of_lt_of_le (hF k hk) hb.size
   ·exact Nat.lt_of_lt_of_le hxs hb.size
   ·exact hlt
  ·refine zha w.heap.size xs ts F b W hn (zaa ((hW _ (.inr (.inr rfl))).trans h1)) (zaa ((hW _ (.inr (.inl rfl))).trans ((hb.block _ hxs).trans h2.out))) (zaa fun t ht=> ?_)
   have h0:=hT.out t ht;exact⟨fun k hk=>by
    have e1:=hW k (.inl hk);have e2:=hb.block k (h0.inn k hk);have e3:w.heap[k]? ≠none:=by rw[ne_eq,Array.getElem?_eq_none_iff];have:=h0.inn k hk;omega
    rcases Nat.lt_or_ge k W.heap.size with hh|hh
    ·exact hh
    ·rw[Array.getElem?_eq_none hh,e2] at e1;exact absurd e1.symm e3,h0.enters,fun W' hW' b'=>h0.says W' (fun k hk=>(hW' k hk).trans ((hW k (.inl hk)).trans (hb.block k (h0.inn k hk)))) b'⟩
 go_enter func294,ntmps294
 go_wp2_with fail;go_ret;exact⟨_,rfl,HT.out _ ((Below.refl _ _).alloc (Nat.le_refl _) _) (heap_alloc_new w _),(Below.refl _ _).alloc (Nat.le_refl _) _⟩
end Go.Proofs.YtgbfaompondolaaGreatDoor
