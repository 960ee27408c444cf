/- Merged texts of the walks and of the plain laws on which the statement leans.-/
import Derived.Test.YtlngbjphagnloaaGreatDoorPk1
import Derived.Test.YtlngbjphagnloaaGreatDoorPk2
import Derived.Deep.RegionHeld3
import Derived.Lib.AtoiAll
import Derived.Lib.ItoaNum
import Derived.Shelf.Strconv.ErrVarAll
import Derived.Lib.ItoaLen
import Derived.Maps.AppendAt
import Derived.Deep.AppendLies
set_option maxHeartbeats 1000000
set_option maxRecDepth 100000
namespace Go.Proofs.YtlngbjphagnloaaGreatDoor
open Tryz
def zbM (p:Nat) (l:List UInt8):List Tok×Nat×Nat:=zn8 (l.length+1) p l
theorem zdN: ∀(c:Bool) (l:List UInt8),zaC c l≤l.length
 |_,[]=>by simp[zaC]
 |true,b::r=>by
  unfold zaC;have h1:=zdN false r;have h2:=zdN true r
  split<;>simp only[List.length_cons]<;>omega
 |false,b::r=>by
  unfold zaC;have h1:=zdN false r;have h2:=zdN true r
  split
  ·simp only[List.length_cons];omega
  ·split<;>simp only[List.length_cons]<;>omega
theorem zir (r:List UInt8):zcX r≤r.length:=by
 unfold zcX;exact(List.takeWhile_prefix _).length_le
theorem zcr (b:UInt8) (r:List UInt8) (h:(za9 (b::r)).2.2=0):1≤(za9 (b::r)).2.1:=by
 unfold za9 at *;simp only at *
 split
 ·split<;>simp only<;>omega
 ·split
  ·split<;>simp only<;>omega
  ·split
   ·simp
   ·rename_i h1 h2 h3
    rw[if_neg h1,if_neg h2,if_neg h3] at h;simp at h
theorem zia (b:UInt8) (r:List UInt8):(za9 (b::r)).2.1≤r.length+1:=by
 unfold za9;have:=zir r;simp only
 split
 ·split<;>simp only<;>omega
 ·split
  ·split<;>simp only<;>omega
  ·split<;>simp
theorem zhO: ∀(f g p:Nat) (l:List UInt8),l.length<f→l.length<g→zn8 f p l=zn8 g p l
 |0,_,_,_,h,_=>absurd h (by omega)
 |_+1,0,_,_,_,h=>absurd h (by omega)
 |f+1,g+1,p,l,hf,hg=>by
  unfold zn8;have hd:(l.drop (zaC false l)).length≤l.length:=by rw[List.length_drop];omega
  cases h:l.drop (zaC false l) with
  |nil=>rfl
  |cons b r=>
   rw[h] at hd;simp only[List.length_cons] at hd;simp only
   split
   ·rename_i h0
    have hp:=zcr b r h0;have hl:((b::r).drop (za9 (b::r)).2.1).length<l.length:=by rw[List.length_drop,List.length_cons];omega
    rw[zhO f g _ _ (by omega) (by omega)]
   ·rfl
theorem zdD (p:Nat) (l:List UInt8):zbM p l=match l.drop (zaC false l) with
  |[]=>([],0,0)
  |b::r=>
   if(za9 (b::r)).2.2=0 then
    (⟨(za9 (b::r)).1,(b::r).take (za9 (b::r)).2.1,p+zaC false l⟩::(zbM (p+zaC false l+(za9 (b::r)).2.1) ((b::r).drop (za9 (b::r)).2.1)).1,(zbM (p+zaC false l+(za9 (b::r)).2.1) ((b::r).drop (za9 (b::r)).2.1)).2)
   else([],p+zaC false l,(za9 (b::r)).2.2):=by
 unfold zbM;have hd:(l.drop (zaC false l)).length≤l.length:=by rw[List.length_drop];omega
 conv=>lhs;unfold zn8
 cases h:l.drop (zaC false l) with
 |nil=>rfl
 |cons b r=>
  rw[h] at hd;simp only[List.length_cons] at hd;simp only
  split
  ·rename_i h0
   have hp:=zcr b r h0;have hl:((b::r).drop (za9 (b::r)).2.1).length<l.length:=by rw[List.length_drop,List.length_cons];omega
   rw[zhO l.length (((b::r).drop (za9 (b::r)).2.1).length+1) _ _ (by omega) (by omega)]
  ·rfl
theorem zmW (p:Nat):zbM p []=([],0,0):=by rw[zdD];simp
theorem zib (b:UInt8) (r:List UInt8):zaC true (b::r)=1+(if b==10 then zaC false r else zaC true r):=by
 conv=>lhs;unfold zaC
 split<;>rfl
theorem zdG (b:UInt8) (r:List UInt8):zaC false (b::r)=if zcu b then 1+zaC false r else if b==35 then 1+zaC true r else 0:=by
 conv=>lhs;unfold zaC
theorem zcn: ∀(c:Bool) (l:List UInt8),zaC false (l.drop (zaC c l))=0
 |true,[]=>rfl
 |false,[]=>rfl
 |true,b::r=>by
  have h1:=zcn false r;have h2:=zcn true r;rw[zib,Nat.add_comm 1,List.drop_succ_cons]
  cases hb:b==10
  ·exact h2
  ·exact h1
 |false,b::r=>by
  have h1:=zcn false r;have h2:=zcn true r;have e:=zdG b r;by_cases hb:zcu b=true
  ·rw[if_pos hb] at e
   rw[e,Nat.add_comm 1,List.drop_succ_cons];exact h1
  ·rw[if_neg hb] at e
   by_cases hc:(b==35)=true
   ·rw[if_pos hc] at e
    rw[e,Nat.add_comm 1,List.drop_succ_cons];exact h2
   ·rw[if_neg hc] at e
    rw[e,List.drop_zero,e]
theorem zle (p:Nat) (l:List UInt8):zbM p l=zbM (p+zaC false l) (l.drop (zaC false l)):=by
 have h0:zaC false (l.drop (zaC false l))=0:=zcn false l;rw[zdD p l,zdD (p+zaC false l),h0];simp
def zoc:Nat→Nat→List UInt8→List (Tok×Nat)
 |0,_,_=>[]
 |f+1,p,l=>
  match l.drop (zaC false l) with
  |[]=>[]
  |b::r=>
   (⟨(za9 (b::r)).1,(b::r).take (za9 (b::r)).2.1,p+zaC false l⟩,(za9 (b::r)).2.2)::
     (if(za9 (b::r)).2.2=0 then zoc f (p+zaC false l+(za9 (b::r)).2.1) ((b::r).drop (za9 (b::r)).2.1) else[])
def zeW (p:Nat) (l:List UInt8):List (Tok×Nat):=zoc (l.length+1) p l
theorem zhr: ∀(f g p:Nat) (l:List UInt8),l.length<f→l.length<g→zoc f p l=zoc g p l
 |0,_,_,_,h,_=>absurd h (by omega)
 |_+1,0,_,_,_,h=>absurd h (by omega)
 |f+1,g+1,p,l,hf,hg=>by
  unfold zoc;have hd:(l.drop (zaC false l)).length≤l.length:=by rw[List.length_drop];omega
  cases h:l.drop (zaC false l) with
  |nil=>rfl
  |cons b r=>
   rw[h] at hd;simp only[List.length_cons] at hd;simp only
   split
   ·rename_i h0
    have hp:=zcr b r h0;have hl:((b::r).drop (za9 (b::r)).2.1).length<l.length:=by rw[List.length_drop,List.length_cons];omega
    rw[zhr f g _ _ (by omega) (by omega)]
   ·rfl
theorem zeE (p:Nat) (l:List UInt8):zeW p l=match l.drop (zaC false l) with
  |[]=>[]
  |b::r=>
   (⟨(za9 (b::r)).1,(b::r).take (za9 (b::r)).2.1,p+zaC false l⟩,(za9 (b::r)).2.2)::
     (if(za9 (b::r)).2.2=0 then zeW (p+zaC false l+(za9 (b::r)).2.1) ((b::r).drop (za9 (b::r)).2.1) else[]):=by
 unfold zeW;have hd:(l.drop (zaC false l)).length≤l.length:=by rw[List.length_drop];omega
 conv=>lhs;unfold zoc
 cases h:l.drop (zaC false l) with
 |nil=>rfl
 |cons b r=>
  rw[h] at hd;simp only[List.length_cons] at hd;simp only
  split
  ·rename_i h0
   have hp:=zcr b r h0;have hl:((b::r).drop (za9 (b::r)).2.1).length<l.length:=by rw[List.length_drop,List.length_cons];omega
   rw[zhr l.length (((b::r).drop (za9 (b::r)).2.1).length+1) _ _ (by omega) (by omega)]
  ·rfl
theorem zgY (p:Nat) (l:List UInt8):zeW p l=zeW (p+zaC false l) (l.drop (zaC false l)):=by
 have h0:zaC false (l.drop (zaC false l))=0:=zcn false l;rw[zeE p l,zeE (p+zaC false l),h0];simp
theorem zgy: ∀(n p:Nat) (l:List UInt8),l.length≤n→((zbM p l).2.2=0→zeW p l=(zbM p l).1.map (·,0)∧(zbM p l).2.1=0)∧
 ((zbM p l).2.2≠0→ ∃t:Tok,zeW p l=(zbM p l).1.map (·,0)++[(t,(zbM p l).2.2)]∧t.at_=(zbM p l).2.1)
 |n,p,l,hn=>by
  rw[zdD,zeE];have hd:(l.drop (zaC false l)).length≤l.length:=by rw[List.length_drop];omega
  cases h:l.drop (zaC false l) with
  |nil=>simp
  |cons b r=>
   rw[h] at hd;simp only[List.length_cons] at hd;simp only;by_cases h0:(za9 (b::r)).2.2=0
   ·have hp:=zcr b r h0
    have hl:((b::r).drop (za9 (b::r)).2.1).length<l.length:=by rw[List.length_drop,List.length_cons];omega
    cases n with
    |zero=>omega
    |succ n=>
     have ih:=zgy n (p+zaC false l+(za9 (b::r)).2.1) ((b::r).drop (za9 (b::r)).2.1) (by omega);rw[if_pos h0,if_pos h0];refine⟨fun he=> ?_,fun he=> ?_⟩
     ·obtain⟨i1,i2⟩:=ih.1 he
      exact⟨by rw[i1];simp[h0],i2⟩
     ·obtain⟨t,i1,i2⟩:=ih.2 he
      exact⟨t,by rw[i1];simp[h0],i2⟩
   ·rw[if_neg h0,if_neg h0]
    exact⟨fun he=>absurd he h0,fun _=>⟨_,rfl,rfl⟩⟩
theorem zkJ: ∀(n p:Nat) (l:List UInt8),l.length≤n→ ∀pre x suf,zeW p l=pre++x::suf→(∀y∈pre,y.2=0)∧(x.2≠0→suf=[])
 |n,p,l,hn,pre,x,suf,he=>by
  have h0:=zgy n p l hn;by_cases hz:(zbM p l).2.2=0
  ·have h1:=(h0.1 hz).1
   rw[h1] at he;have ha: ∀y∈pre++x::suf,y.2=0:=by
    rw[←he];intro y hy;obtain⟨t,_,rfl⟩:=List.mem_map.1 hy
    rfl
   exact⟨fun y hy=>ha y (by simp[hy]),fun hx=>absurd (ha x (by simp)) hx⟩
  ·obtain⟨t,h1,_⟩:=h0.2 hz
   rw[h1] at he;rcases List.eq_nil_or_concat suf with rfl|⟨suf,z,rfl⟩
   ·refine⟨fun y hy=> ?_,fun _=>rfl⟩
    have hi:=List.append_inj' he.symm (by simp);rw[hi.1] at hy;obtain⟨t,_,rfl⟩:=List.mem_map.1 hy
    rfl
   ·have he2:List.map (fun x=>(x,0)) (zbM p l).1++[(t,(zbM p l).2.2)]=(pre++x::suf)++[z]:=by rw[he];simp
    have hi:=(List.append_inj' he2 (by simp)).1;have ha: ∀y∈pre++x::suf,y.2=0:=by
     rw[←hi];intro y hy;obtain⟨t,_,rfl⟩:=List.mem_map.1 hy
     rfl
    exact⟨fun y hy=>ha y (by simp[hy]),fun hx=>absurd (ha x (by simp)) hx⟩
open Go.RowKit
open Go.MuLone (run_callFunc_enter)
def zdu:UInt8→Bool:=zgw ⟨#[32,9,10,13]⟩
def zkl:UInt8→Bool:=zgw ⟨#[35]⟩
def zbU:UInt8→Bool:=fun b=>b != 10
theorem zg7 (b:UInt8):zdu b=zcu b:=by
 show[32,9,10,13].contains b=zcu b
 simp only[zcu,List.contains_cons,List.contains_nil,Bool.or_false,Bool.or_assoc]
theorem ziT (b:UInt8):zkl b=(b==35):=by
 show[35].contains b=(b==35)
 simp only[List.contains_cons,List.contains_nil,Bool.or_false]
def za8 (src:ByteArray) (j:Nat):Nat:=j+zaC false ((zan src).drop j)
theorem zmQ (p:UInt8→Bool) (l:List UInt8):l.drop (l.takeWhile p).length=l.dropWhile p:=by
 conv=>lhs;arg 2;rw[←List.takeWhile_append_dropWhile (p:=p) (l:=l)]
 rw[List.drop_left]
theorem zfA: ∀l:List UInt8,zaC false l=(l.takeWhile zdu).length+zaC false (l.dropWhile zdu)
 |[]=>rfl
 |b::r=>by
  by_cases hb:zdu b=true
  ·rw[List.takeWhile_cons,if_pos hb,List.dropWhile_cons,if_pos hb,List.length_cons,zdG,if_pos (by rw[←zg7];exact hb),zfA r]
   omega
  ·rw[List.takeWhile_cons,if_neg hb,List.dropWhile_cons,if_neg hb]
   simp
theorem zgU: ∀l:List UInt8,zaC true l=(l.takeWhile zbU).length+zaC false (l.dropWhile zbU)
 |[]=>rfl
 |b::r=>by
  by_cases hb:zbU b=true
  ·have h10:(b==10)=false:=by simpa [zbU] using hb
   rw[List.takeWhile_cons,if_pos hb,List.dropWhile_cons,if_pos hb,List.length_cons,zib,h10,zgU r];simp;omega
  ·have h10:b=10:=by simpa [zbU] using hb
   rw[List.takeWhile_cons,if_neg hb,List.dropWhile_cons,if_neg hb,zib,zdG,h10];simp[zcu]
theorem zcF (p:UInt8→Bool) (src:ByteArray) (j:Nat) (hj:j≤src.size):j≤za7 p src j∧za7 p src j≤src.size:=by
 unfold za7;have h:=(List.takeWhile_prefix (l:=(zan src).drop j) p).length_le;have hl:(zan src).length=src.size:=by simp[zan]
 rw[List.length_drop,hl] at h;exact⟨by omega,by omega⟩
theorem zeO (p:UInt8→Bool) (src:ByteArray) (j:Nat):(zan src).drop (za7 p src j)=((zan src).drop j).dropWhile p:=by
 unfold za7;rw[←List.drop_drop,zmQ]
theorem zg8 (src:ByteArray) (j:Nat):za8 src (za7 zdu src j)=za8 src j:=by
 unfold za8;rw[zeO,zfA ((zan src).drop j)];unfold za7
 omega
theorem zfK (src:ByteArray) (j:Nat) (hj:j<src.size) (h:src[j]=35):za8 src (za7 zbU src j)=za8 src j:=by
 unfold za8;rw[zeO];unfold za7;rw[zaO src j hj,h,zdG,List.takeWhile_cons,List.dropWhile_cons];simp only[show zcu 35=false from by decide,show zbU 35=true from by decide,show((35:UInt8)==35)=true from by decide];rw[zgU];simp;omega
theorem zjX (p:UInt8→Bool) (src:ByteArray) (j:Nat) (hj:za7 p src j<src.size):p src[za7 p src j]=false:=by
 have h:=zeO p src j;rw[zaO src _ hj] at h;have h2:=List.head?_dropWhile_not p ((zan src).drop j);rw[←h] at h2
 simpa using h2
theorem zij (src:ByteArray) (j:Nat) (hb:(j<src.size)→ ∃h:j<src.size,zdu src[j]=false∧zkl src[j]=false) (_hj:j≤src.size):za8 src j=j:=by
 unfold za8;rcases Nat.lt_or_ge j src.size with h|h
 ·obtain⟨_,h1,h2⟩:=hb h
  rw[zaO src j h,zdG,←zg7,h1,←ziT,h2];simp
 ·rw[List.drop_eq_nil_of_le (by simpa [zan] using h)]
  simp[zaC]
theorem zmk (b:UInt8) (W:World):Calls prog 112 #[.int .u8 (b.toNat:Int)] W fun e W'=>e= .returned (.bool (zbU b))∧Below W.heap.size W W':=by
 have HL:Hid (zbU b= !decide (b.toNat=10)):=by
  show zbU b=_
  unfold zbU;rw[Bool.eq_iff_iff];simp[bne_iff_ne,←UInt8.toNat_inj]
 generalize b.toNat=n at *;by_cases h:n=10
 ·have HR:=zaa (show zbU b=false by rw[HL.out];simp[h])
  have h1:((n:Int) != 10)=false:=by simp;omega
  clear h
  go_enter func112,ntmps112
  go_wp2_with fail;go_ret;exact⟨by rw[HR.out];simp at h1;simp,Below.refl _ _⟩
 ·have HR:=zaa (show zbU b=true by rw[HL.out];simp[h])
  have h1:((n:Int) != 10)=true:=by simp;omega
  clear h
  go_enter func112,ntmps112
  go_wp2_with fail;go_ret;exact⟨by rw[HR.out];simp at h1;simp,Below.refl _ _⟩
theorem zn4 (w:World):IsT (fun _=>False) w 112 #[] zbU:=
 ⟨fun k h=>h.elim,fun args W=>run_callFunc_enter (c:=((Tryz.f112).body.getD .skip)) func112 (by kernel_rfl) (by kernel_rfl) args W,fun W _ b=>zmk b W⟩
theorem AtJ.belowD {sb j:Nat} {a b c:World} (h:AtJ sb j a b) (hsb:sb<a.heap.size) (k:Below b.drew.heap.size b.drew c):AtJ sb j a c:=
 h.below hsb (((Below.refl _ _).drew).trans k)
structure SkR (src:ByteArray) (k j:Nat):Prop where
 le:j≤src.size
 to:za8 src j=za8 src k
 stop: ∀h:j<src.size,zdu src[j]=false
theorem SkR.start (src:ByteArray) (k:Nat) (hk:k≤src.size):SkR src k (za7 zdu src k):=
 ⟨(zcF _ _ _ hk).2,zg8 src k,fun h=>zjX _ _ _ h⟩
theorem SkR.step {src:ByteArray} {k j:Nat} (h:SkR src k j) (hj:j<src.size) (hh:zkl src[j]=true):SkR src k (za7 zdu src (za7 zbU src j))∧j<za7 zdu src (za7 zbU src j):=by
 have e:src[j]=35:=by rw[ziT] at hh;simpa using hh
 have h1:=zdk zbU src j hj (by rw[e];rfl);have h2:=zcF zbU src (j+1) hj;rw[h1] at h2;have h3:=zcF zdu src (za7 zbU src j) h2.2;have h4:=SkR.start src (za7 zbU src j) h2.2;exact⟨⟨h3.2,h4.to.trans ((zfK src j hj e).trans h.to),h4.stop⟩,by omega⟩
theorem SkR.done {src:ByteArray} {k j:Nat} (h:SkR src k j) (hh: ∀hj:j<src.size,zkl src[j]=false):za8 src k=j:=by
 rw[←h.to];exact zij src j (fun hj=>⟨hj,h.stop hj,hh hj⟩) h.le
theorem znn {sb:Nat} {w:World} (h:sb<w.heap.size):Hid (∀i,(fun k=>k=w.heap.size) i→i≠sb):=zaa fun i hi e=>by have hi':i=w.heap.size:=hi;omega
theorem ze6 (sb f k:Nat) (caps:Array Value) (p:UInt8→Bool) (F:Nat→Prop) (src:ByteArray) (W:World) (c0:W.cell? ⟨sb,0,none⟩=some (.string src)) (c1:W.cell? ⟨sb,1,none⟩=some (.int .i64 (k:Int))) (hk:k<src.size) (hs:src.size≤1099511627776) (hT:Hid (IsT F W f caps p)) (v:Bool) (hv:p src[k]=v):
 Calls prog 111 #[.pointer (some ⟨sb,0,none⟩),.func (.func f) #[] caps] W fun e W'=>e= .returned (.bool v)∧Below W.heap.size W W':=by
 subst hv;exact zi0 sb f k caps p F src W c0 c1 hk hs hT
theorem zmC (sb k:Nat) (src:ByteArray) (W:World) (c0:Hid (W.cell? ⟨sb,0,none⟩=some (.string src))) (c1:Hid (W.cell? ⟨sb,1,none⟩=some (.int .i64 (k:Int)))) (cf:Hid (W.frozen? ⟨sb,1,none⟩=false)) (hk:k≤src.size) (hs:src.size≤1099511627776):
 Calls prog 74 #[.pointer (some ⟨sb,0,none⟩)] W fun e W'=>e= .returned (.tuple #[])∧AtJ sb (za8 src k) W W':=by
 have hsb:sb<W.heap.size:=World.block_lt_of_cell? W ⟨sb,0,none⟩ c0.out;have HA:=zaa (fun s w=>zfJ s w);have HJ0:=zaa (AtJ.start c1.out cf.out)
 go_enter func74,ntmps74
 go_wp2_with fail
 go_region_held3 (fun w'=>True) (trivial)
  (first
    |(go_at_call 72;refine(HA.out _ _).mono ?_;rintro e w1 ⟨k1,rfl,hT1,hb1⟩;have HT1:=zaa hT1;have HJ1:=zaa (HJ0.out.belowD hsb hb1);clear hT1 hb1)
    |(go_at_call 110;refine(zdH sb _ k _ _ _ src _ (zaa ((HJ1.out.rest 0 (by decide)).trans c0.out)) (zaa HJ1.out.here) (zaa HJ1.out.free) (by assumption) hs HT1 (znn (Nat.lt_of_lt_of_le hsb HJ0.out.kept.size))).mono ?_;rintro e w2 ⟨rfl,hJ2⟩;have HJ2:=zaa (HJ1.out.trans hJ2);clear hJ2))
 go_wp2_with fail
 go_loopw [] (fun wr=> ∃j:Nat,SkR src k j∧AtJ sb j W wr) (fun wr=>src.size-zbL sb wr)
 case atStart=>exact⟨_,SkR.start src k hk,HJ2.out⟩
 case round=>
  obtain⟨j,hR,hJ⟩:=hrel;have HR:=zaa hR;have HJ:=zaa hJ;have hj:j≤src.size:=hR.le;clear hR hJ;by_cases hlt:j<src.size
  ·cases hh:zkl src[j]
   ·have HD:=zaa (HR.out.done (fun _=>hh))
    have HH:Hid (zgw ⟨#[35]⟩ src[j]=false):=zaa hh;clear hh;go_wp2_with fail
    go_region_held3 (fun w'=>True) (trivial)
     (first
       |(go_at_call 72;refine(HA.out _ _).mono ?_;rintro e w1 ⟨k1,rfl,hT1,hb1⟩;have HT1:=zaa hT1;have HJ1:=zaa (HJ.out.belowD hsb hb1);clear hT1 hb1)
       |(go_at_call 111;refine(ze6 sb _ j _ _ _ src _ ((HJ1.out.rest 0 (by decide)).trans c0.out) HJ1.out.here hlt hs HT1 false HH.out).mono ?_;rintro e w2 ⟨rfl,hb2⟩;have HJ2:=zaa (HJ1.out.below hsb hb2);clear hb2))
    go_wp2_with fail
    go_end0
    exact⟨rfl,by rw[HD.out];exact HJ2.out⟩
   ·have HS:=zaa (HR.out.step hlt hh)
    have HH:Hid (zgw ⟨#[35]⟩ src[j]=true):=zaa hh;have hr1:=(zcF zbU src j hj).2;clear hh;go_wp2_with fail
    go_region_held3 (fun w'=>True) (trivial)
     (first
       |(go_at_call 72;refine(HA.out _ _).mono ?_;rintro e w1 ⟨k1,rfl,hT1,hb1⟩;have HT1:=zaa hT1;have HJ1:=zaa (HJ.out.belowD hsb hb1);clear hT1 hb1)
       |(go_at_call 111;refine(ze6 sb _ j _ _ _ src _ ((HJ1.out.rest 0 (by decide)).trans c0.out) HJ1.out.here hlt hs HT1 true HH.out).mono ?_;rintro e w2 ⟨rfl,hb2⟩;have HJ2:=zaa (HJ1.out.below hsb hb2);clear hb2))
    clear HJ1 HT1;go_wp2_with fail;refine(zdH sb _ j _ _ _ src _ (zaa ((HJ2.out.rest 0 (by decide)).trans c0.out)) (zaa HJ2.out.here) (zaa HJ2.out.free) hj hs (zaa (zn4 _)) (zaa (fun i hi=>hi.elim))).mono ?_;rintro e w3 ⟨rfl,hJ3⟩;have HJ3:=zaa (HJ2.out.trans hJ3);clear hJ3;go_wp2_with fail
    go_region_held3 (fun w'=>True) (trivial)
     (first
       |(go_at_call 72;refine(HA.out _ _).mono ?_;rintro e w1 ⟨k1,rfl,hT1,hb1⟩;have HT1:=zaa hT1;have HJ1:=zaa (HJ3.out.belowD hsb hb1);clear hT1 hb1)
       |(go_at_call 110;refine(zdH sb _ (za7 zbU src j) _ _ _ src _ (zaa ((HJ1.out.rest 0 (by decide)).trans c0.out)) (zaa HJ1.out.here) (zaa HJ1.out.free) (by assumption) hs HT1 (znn (Nat.lt_of_lt_of_le hsb HJ3.out.kept.size))).mono ?_;rintro e w2 ⟨rfl,hJ2⟩;have HJ4:=zaa (HJ1.out.trans hJ2);clear hJ2))
    go_wp2_with fail;have m2:zbL sb wr=j:=by unfold zbL;rw[HJ.out.here];simp[intOf]
    have m1:zbL sb w2=za7 zdu src (za7 zbU src j):=by unfold zbL;rw[HJ4.out.here];simp[intOf];rfl
    have HM:=zaa (show src.size-zbL sb w2<src.size-zbL sb wr by rw[m1,m2];have:=HS.out.2;omega);clear m1 m2;go_roundw
    case rel=>exact⟨_,HS.out.1,HJ4.out⟩
    case measure=>exact HM.out
  ·have HD:=zaa (HR.out.done (fun h=>absurd h hlt))
   go_wp2_with fail
   go_region_held3 (fun w'=>True) (trivial)
    (first
      |(go_at_call 72;refine(HA.out _ _).mono ?_;rintro e w1 ⟨k1,rfl,hT1,hb1⟩;have HT1:=zaa hT1;have HJ1:=zaa (HJ.out.belowD hsb hb1);clear hT1 hb1)
      |(go_at_call 111;refine(ziA sb j _ src _ ((HJ1.out.rest 0 (by decide)).trans c0.out) HJ1.out.here (Nat.le_of_not_lt hlt) hs).mono ?_;rintro e w2 ⟨rfl,hb2⟩;have HJ2:=zaa (HJ1.out.below hsb hb2);clear hb2))
   go_wp2_with fail
   go_end0
   exact⟨rfl,by rw[HD.out];exact HJ2.out⟩
open Go
def zkK (s:List UInt8):Bool:=match Lib.atoiAll s with
 | .ok v=>decide (v≤1073741824)&&(Lib.itoa v==s)
 |_=>false
def zcy (a:Nat) (s:List UInt8):Nat:=s.foldl (fun n b=>n*10+zew b) a
theorem zfl: ∀(s:List UInt8) (a:Nat),a≤zcy a s
 |[],a=>Nat.le_refl _
 |b::r,a=>by
  have:=zfl r (a*10+zew b)
  show a≤zcy (a*10+zew b) r
  omega
theorem zbV (b:UInt8):zaJ b=true↔48≤b.toNat∧b.toNat≤57:=by simp[zaJ]
theorem zi4: ∀(s:List UInt8) (a u:Nat),Lib.parseUint10 a s= .ok u→s.all zaJ=true∧u=zcy a s
 |[],a,u,h=>by
  simp only[Lib.parseUint10] at h;injection h with h
  exact⟨rfl,h.symm⟩
 |b::r,a,u,h=>by
  simp only[Lib.parseUint10] at h
  split at h
  ·rename_i hd
   split at h
   ·cases h
   ·split at h
    ·cases h
    ·obtain⟨h1,h2⟩:=zi4 r _ u h
     exact⟨by rw[List.all_cons,h1,(zbV b).2 hd];rfl,h2⟩
  ·cases h
theorem zgG: ∀(s:List UInt8) (a:Nat),s.all zaJ=true→zcy a s≤1073741824→Lib.parseUint10 a s= .ok (zcy a s)
 |[],a,_,_=>rfl
 |b::r,a,h,hv=>by
  rw[List.all_cons,Bool.and_eq_true] at h;have hd:=(zbV b).1 h.1;have e:zcy a (b::r)=zcy (a*10+zew b) r:=rfl;rw[e] at hv ⊢;have h2:=zfl r (a*10+zew b);have ih:=zgG r (a*10+zew b) h.2 hv;unfold zew at *;simp only[Lib.parseUint10];rw[if_pos hd,if_neg (by omega),if_neg (by omega)];exact ih
theorem zg3 (u:Nat):Lib.decDigits u=if u<10 then[(48+u).toUInt8] else Lib.decDigits (u/10)++[(48+u % 10).toUInt8]:=by
 conv=>lhs;unfold Lib.decDigits
 split<;>rfl
theorem zou (b:UInt8) (h:zaJ b=true):(48+zew b).toUInt8=b:=by
 have hd:=(zbV b).1 h;unfold zew;rw[show 48+(b.toNat-48)=b.toNat from by omega];simp
theorem zlk (b:UInt8) (h:zaJ b=true):zew b<10:=by
 have hd:=(zbV b).1 h;unfold zew;omega
theorem zgg (a:Nat) (s:List UInt8) (d:UInt8):zcy a (s++[d])=zcy a s*10+zew d:=by simp[zcy]
theorem zhm (b:UInt8) (r:List UInt8) (hb:zaJ b=true) (h0:b≠48):1≤zcy 0 (b::r):=by
 have h:=zfl r (0*10+zew b);have hd:=(zbV b).1 hb;have hn:b.toNat≠48:=fun e=>h0 (UInt8.toNat_inj.1 e)
 show 1≤zcy (0*10+zew b) r
 unfold zew at *
 omega
theorem zlK: ∀(n:Nat) (b:UInt8) (r:List UInt8),r.length≤n→(b::r).all zaJ=true→(r=[]∨b≠48)→Lib.decDigits (zcy 0 (b::r))=b::r
 |n,b,r,hn,ha,h0=>by
  rcases List.eq_nil_or_concat r with rfl|⟨r',d,rfl⟩
  ·rw[List.all_cons,Bool.and_eq_true] at ha
   have hv:zcy 0 [b]=zew b:=by simp[zcy]
   have:=zlk b ha.1;rw[hv,zg3,if_pos this,zou b ha.1]
  ·cases n with
   |zero=>simp at hn
   |succ n=>
    have hb:b≠48:=by rcases h0 with h0|h0;simp at h0;exact h0
    have ha2:(b::r').all zaJ=true∧zaJ d=true:=by simpa [List.all_cons,List.all_append,Bool.and_eq_true,and_assoc] using ha
    have hbd:zaJ b=true:=by have:=ha2.1;rw[List.all_cons,Bool.and_eq_true] at this;exact this.1
    have ih:=zlK n b r' (by simp at hn;omega) ha2.1 (.inr hb);have hp:=zhm b r' hbd hb;have hd:=zlk d ha2.2;have e:b::r'.concat d=(b::r')++[d]:=by rw[List.concat_eq_append];rfl
    rw[e,zgg,zg3,if_neg (by omega),show(zcy 0 (b::r')*10+zew d)/10=zcy 0 (b::r') from by omega,show(zcy 0 (b::r')*10+zew d) % 10=zew d from by omega,ih,zou d ha2.2]
theorem zjb: ∀(n u:Nat),u≤n→0<u→ ∃b r,Lib.decDigits u=b::r∧b≠48
 |n,u,hn,h=>by
  by_cases h10:u<10
  ·refine⟨_,_,by rw[zg3,if_pos h10],fun e=> ?_⟩
   have:=congrArg UInt8.toNat e;simp at this
   omega
  ·cases n with
   |zero=>omega
   |succ n=>
    obtain⟨b,r,e,hb⟩:=zjb n (u/10) (by omega) (by omega);exact⟨b,r++[(48+u % 10).toUInt8],by rw[zg3,if_neg h10,e];rfl,hb⟩
theorem zje (b:UInt8) (r:List UInt8) (hb:zaJ b=true) (v:Int) (h:Lib.atoiAll (b::r)= .ok v): ∃u:Nat,Lib.parseUint10 0 (b::r)= .ok u∧v=u:=by
 have hd:=(zbV b).1 hb;have h1: ¬(b.toNat=43∨b.toNat=45):=by omega
 have h2: ¬b.toNat=45:=by omega
 unfold Lib.atoiAll Lib.parseMag at h;simp only[h1,if_false,reduceCtorEq] at h
 cases hp:Lib.parseUint10 0 (b::r) with
 |ok u=>
  rw[hp] at h;simp only[h2,not_false_eq_true,true_and,false_and,if_false] at h
  split at h
  ·cases h
  ·injection h with h
   exact⟨u,rfl,h.symm⟩
 |_=>rw[hp] at h;cases h
theorem ziZ (b:UInt8) (r:List UInt8) (hb:zaJ b=true) (u:Nat) (hp:Lib.parseUint10 0 (b::r)= .ok u) (hu:u<9223372036854775808):Lib.atoiAll (b::r)= .ok (u:Int):=by
 have hd:=(zbV b).1 hb;have h1: ¬(b.toNat=43∨b.toNat=45):=by omega
 have h2: ¬b.toNat=45:=by omega
 unfold Lib.atoiAll Lib.parseMag;simp only[h1,if_false,reduceCtorEq];rw[hp];simp only[h2,not_false_eq_true,true_and,false_and,if_false];rw[if_neg (by omega)]
theorem znI (b:UInt8) (r:List UInt8) (hb:zaJ b=true):zkK (b::r)=zd6 (b::r):=by
 rw[Bool.eq_iff_iff];have hv:zdg (b::r)=zcy 0 (b::r):=rfl
 constructor
 ·intro h
  unfold zkK at h
  cases hx:Lib.atoiAll (b::r) with
  |ok v=>
   rw[hx] at h;obtain⟨u,hp,rfl⟩:=zje b r hb v hx;obtain⟨h1,h2⟩:=zi4 _ _ _ hp;simp only[Bool.and_eq_true,decide_eq_true_eq,beq_iff_eq] at h;have hi:Lib.itoa (u:Int)=Lib.decDigits u:=by unfold Lib.itoa;rw[if_neg (by omega)];simp
   rw[hi] at h;unfold zd6;rw[h1,hv,←h2];have hu:u≤1073741824:=by omega
   cases r with
   |nil=>simp[hu]
   |cons c r=>
    have hz:b≠48:=by
     intro e;subst e;by_cases hu0:u=0
     ·subst hu0
      have:=h.2;rw[zg3,if_pos (by decide)] at this;simp at this
     ·obtain⟨b',r',e,hb'⟩:=zjb u u (Nat.le_refl _) (by omega)
      rw[e] at h;exact hb' (by have:=h.2;injection this)
    simp[hu,hz]
  |_=>rw[hx] at h;cases h
 ·intro h
  unfold zd6 at h;simp only[Bool.and_eq_true,decide_eq_true_eq] at h;obtain⟨⟨h1,h2⟩,h3⟩:=h;rw[hv] at h3;have hp:=zgG (b::r) 0 h1 h3;unfold zkK;rw[ziZ b r hb _ hp (by omega)];simp only[Bool.and_eq_true,decide_eq_true_eq,beq_iff_eq];refine⟨by omega,?_⟩;have hi:Lib.itoa (zcy 0 (b::r):Int)=Lib.decDigits (zcy 0 (b::r)):=by unfold Lib.itoa;rw[if_neg (by omega)];simp
  rw[hi];refine zlK r.length b r (Nat.le_refl _) h1 ?_
  cases r with
  |nil=>exact .inl rfl
  |cons c r=>right;simpa using h2
theorem zoY:prog.globalNamed "internal/strconv.uint64pow10" =some 5:=by kernel_rfl
theorem zmg:prog.globalNamed "strconv.ErrSyntax" =some 3:=by kernel_rfl
theorem zmI:prog.globalNamed "strconv.ErrRange" =some 4:=by kernel_rfl
structure Env (w:World):Prop where
 tab:Lib.TabIs prog w "internal/strconv.uint64pow10" .u64 Lib.pow10Tab
 errS: ∃tp p,w.var? prog "strconv.ErrSyntax" =some #[.iface tp p]
 errR: ∃tp p,w.var? prog "strconv.ErrRange" =some #[.iface tp p]
 big:5<w.heap.size∧3<w.heap.size∧4<w.heap.size
theorem Env.keptB {B:Nat} {w w':World} (h:Env w) (hb:Below B w w') (hB:6≤B):Env w':=by
 obtain⟨t1,p1,h1⟩:=h.errS;obtain⟨t2,p2,h2⟩:=h.errR;obtain⟨b1,b2,b3⟩:=h.big;refine⟨?_,⟨t1,p1,var?_below hb zmg (by omega) h1⟩,⟨t2,p2,var?_below hb zmI (by omega) h2⟩,Nat.lt_of_lt_of_le b1 hb.size,Nat.lt_of_lt_of_le b2 hb.size,Nat.lt_of_lt_of_le b3 hb.size⟩;have ht:=h.tab;unfold Lib.TabIs at ht ⊢;exact var?_below hb zoY (by omega) ht
theorem Env.kept {w w':World} (h:Env w) (hb:Below w.heap.size w w'):Env w':=by
 obtain⟨t1,p1,h1⟩:=h.errS;obtain⟨t2,p2,h2⟩:=h.errR;obtain⟨b1,b2,b3⟩:=h.big;refine⟨?_,⟨t1,p1,var?_below hb zmg b2 h1⟩,⟨t2,p2,var?_below hb zmI b3 h2⟩,Nat.lt_of_lt_of_le b1 hb.size,Nat.lt_of_lt_of_le b2 hb.size,Nat.lt_of_lt_of_le b3 hb.size⟩;have ht:=h.tab;unfold Lib.TabIs at ht ⊢;exact var?_below hb zoY b1 ht
theorem zjy {w:World} (k:Nat) (os:Array Obj):Below w.heap.size w (Go.Sort.grow (w.drewN k) os):=by
 refine⟨rfl,rfl,rfl,?_,fun i hi=> ?_⟩
 ·show _≤(w.heap++os).size;simp
 ·show(w.heap++os)[i]? =_;rw[Array.getElem?_append_left hi]
theorem zmD (n:Int) (w:World) (hE:Env w) (h0: -9223372036854775808≤n) (h1:n≤9223372036854775807):Calls prog 141 #[.int .i64 n] w fun e w'=>e= .returned (.string ⟨(Lib.itoa n).toArray⟩)∧Below w.heap.size w w':=
 (Tryz.strconv_Itoa n h0 h1 w hE.tab).mono fun _ _ ⟨h,k,os,hw⟩=>⟨h,by rw[hw];exact zjy k os⟩
theorem znV (s:ByteArray) (hs:s.size≤1099511627776) (w:World) (hE:Env w) (hno: ∀v,Lib.atoiAll s.data.toList≠ .ok v):
 Calls prog 118 #[.string s] w fun e w'=> ∃v N,e= .returned (.tuple #[.int .i64 v,.iface 246 (.pointer (some ⟨N,0,none⟩))])∧Below w.heap.size w w':=by
 obtain⟨t1,p1,h1⟩:=hE.errS;obtain⟨t2,p2,h2⟩:=hE.errR
 cases hx:Lib.atoiAll s.data.toList with
 |ok v=>exact absurd hx (hno v)
 |range=>exact(Any.strconv_Atoi_range_var Tryz.laysC172 s (by omega) hx t2 p2 w h2).mono fun e w' ⟨N,he,_,_,hb⟩=>⟨_,N,he,hb⟩
 |_=>exact(Any.strconv_Atoi_syntax_var Tryz.laysC172 s (by omega) hx t1 p1 w h1).mono fun e w' ⟨N,he,_,_,hb⟩=>⟨_,N,he,hb⟩
theorem ziJ (s:ByteArray) (hs:s.size≤1099511627776) (w:World) (v:Int) (hv:Lib.atoiAll s.data.toList= .ok v):
 Calls prog 118 #[.string s] w fun e w'=>e= .returned (.tuple #[.int .i64 v,.nilIface])∧Below w.heap.size w w':=
 (Tryz.strconv_Atoi_ok s (by omega) v hv w).mono fun e w' ⟨he,hw⟩=>⟨he,by
   rcases hw with rfl|⟨t,rfl⟩
   ·exact Below.refl _ _
   ·exact⟨rfl,rfl,rfl,by rw[Lib.bytesWorld_size];omega,fun j hj=>Lib.bytesWorld_at_old _ _ _ j hj⟩⟩
theorem zjx (s:ByteArray) (w:World) (hs:s.size≤1099511627776) (hE:Hid (Env w)) (hd:Hid (∃b r,s.data.toList=b::r∧zaJ b=true)):Calls prog 113 #[.string s] w fun e w'=>e= .returned (.bool (zkK s.data.toList))∧Below w.heap.size w w':=by
 by_cases hno: ∀v,Lib.atoiAll s.data.toList≠ .ok v
 ·have HR:=zaa (show zkK s.data.toList=false by
   unfold zkK
   cases hx:Lib.atoiAll s.data.toList with
   |ok v=>exact absurd hx (hno v)
   |_=>rfl)
  have HA:=zaa (znV s hs w hE.out hno);clear hno
  go_enter func113,ntmps113
  go_wp2_with fail;refine HA.out.mono ?_;rintro e w1 ⟨v,N,rfl,hb⟩;have HB:=zaa hb;clear hb;go_wp2_with fail;go_ret;exact⟨by rw[HR.out];rfl,HB.out⟩
 ·have hyes: ∃v,Lib.atoiAll s.data.toList= .ok v:=by
   by_cases h: ∃v,Lib.atoiAll s.data.toList= .ok v
   ·exact h
   ·exact absurd (fun v hv=>h ⟨v,hv⟩) hno
  obtain⟨v,hv⟩:=hyes;clear hno;have HC:=zaa (show zkK s.data.toList=(decide (v≤1073741824)&&(Lib.itoa v==s.data.toList)) by unfold zkK;rw[hv]);have HA:=zaa (ziJ s hs w v hv);have hv0:0≤v:=by
   obtain⟨b,r,e,hb⟩:=hd.out;rw[e] at hv;obtain⟨u,_,rfl⟩:=zje b r hb v hv
   omega
  clear hv;by_cases hle:v≤1073741824
  ·have HC2:=zaa (show zkK s.data.toList=(Lib.itoa v==s.data.toList) by rw[HC.out];simp[hle])
   have HI:=zaa (fun w (hE:Env w)=>zmD v w hE (by omega) (by omega));have hle2:decide (v≤1073741824)=true:=by simp;omega
   go_enter func113,ntmps113
   go_wp2_with fail;refine HA.out.mono ?_;rintro e w1 ⟨rfl,hb⟩;have HB:=zaa hb;clear hb;go_wp2_with fail;refine(HI.out _ (hE.out.kept HB.out)).mono ?_;rintro e w2 ⟨rfl,hb⟩;have HB2:=zaa (btZ HB.out hb);clear hb;go_wp2_with fail;go_ret;exact⟨by rw[HC2.out,←ByteArray.toList_eq];rfl,HB2.out⟩
  ·have HR:=zaa (show zkK s.data.toList=false by rw[HC.out];simp[hle])
   have hd:decide (v≤1073741824)=false:=by simp;omega
   go_enter func113,ntmps113
   go_wp2_with fail;refine HA.out.mono ?_;rintro e w1 ⟨rfl,hb⟩;have HB:=zaa hb;clear hb;go_wp2_with fail;go_ret;exact⟨by rw[HR.out];rfl,HB.out⟩
attribute [local go_sem] zax.cell
def zhA (ts:List Tok):Prop:= ∀t∈ts,t.kind=2→zd6 t.text=true∧t.text.length≤1099511627776
theorem zlj (s:List UInt8) (h:zd6 s=true):Lib.atoiAll s= .ok ((zdg s:Nat):Int):=by
 cases s with
 |nil=>simp[zd6] at h
 |cons b r=>
  unfold zd6 at h;simp only[Bool.and_eq_true,decide_eq_true_eq] at h;obtain⟨⟨hd,_⟩,hv⟩:=h;have hb:zaJ b=true:=by simp at hd;exact hd.1
  exact ziZ b r hb _ (zgG (b::r) 0 hd hv) (by show zdg (b::r)<_;omega)
theorem zmp {κ:Nat} {ts:List Tok} {j:Nat} {a:List UInt8} {r:List Tok} (h:zd5 κ (ts.drop j)= .ok a r) (hκ:κ≠0): ∃t∈ts,t.kind=κ∧t.text=a:=by
 unfold zd5 at h
 split at h
 ·rename_i hk
  injection h with h1 h2
  rcases Nat.lt_or_ge j ts.length with h'|h'
  ·rw[ziX ts j h'] at hk h1
   exact⟨ts[j],List.getElem_mem h',by simpa using hk,h1⟩
  ·rw[zbJ ts j h'] at hk
   simp at hk;exact absurd hk.symm hκ
 ·cases h
theorem zcd.mk_ok {α:Type} {pb j:Nat} {ts:List Tok} {W W':World} {conv:α→Value} {res:Res α} {e:Ending} {a:α} (h:res= .ok a (ts.drop j)) (hj:j≤ts.length) (hA:AtJ pb j W W') (he:e= .returned (conv a)):zcd pb ts W conv res e W':=by
 subst h;exact⟨j,hj,hA,rfl,he⟩
theorem zcd.mk_bad {α:Type} {pb j n:Nat} {ts:List Tok} {W W':World} {conv:α→Value} {res:Res α} (h:res= .bad n (ts.drop j)) (hj:j≤ts.length) (hA:AtJ pb j W W'):zcd pb ts W conv res (.panicked [{v:= .iface 122 (.agg #[.int .i64 (n:Int)]),recovered:=false}]) W':=by
 subst h;exact⟨j,hj,hA,rfl,rfl⟩
theorem zcd.split {α:Type} {pb:Nat} {ts:List Tok} {W W':World} {conv:α→Value} {res:Res α} {e:Ending} (h:zcd pb ts W conv res e W'):
 (∃a j,res= .ok a (ts.drop j)∧j≤ts.length∧AtJ pb j W W'∧e= .returned (conv a))∨(∃n j,res= .bad n (ts.drop j)∧j≤ts.length∧AtJ pb j W W'∧e= .panicked [{v:= .iface 122 (.agg #[.int .i64 (n:Int)]),recovered:=false}]):=by
 obtain⟨j,hj,hA,hm⟩:=h
 cases res with
 |ok a r=>exact .inl ⟨a,j,by rw[hm.1],hj,hA,hm.2⟩
 |bad n r=>exact .inr ⟨n,j,by rw[hm.1],hj,hA,hm.2⟩
theorem zcx (pb j:Nat) (ts:List Tok) (W:World) (H:Hid (Cur pb ts j W)) (hts:ts.length≤1099511627776) (hj:j≤ts.length) (hg:Hid (zhA ts)):
 Calls prog 81 #[.pointer (some ⟨pb,0,none⟩)] W fun e W'=>zcd pb ts W (fun n:Int=> .int .i64 n) (zfe (ts.drop j)) e W':=by
 have HC:=zaa (ziF pb j 2 ts W H hts hj (by decide));have hpb:=H.out.lt;unfold zfe
 cases hr:zd5 2 (ts.drop j) with
 |ok a r=>
  rw[zac hr];obtain⟨t,ht,hk,rfl⟩:=zmp hr (by decide);obtain⟨hn,hl⟩:=hg.out t ht hk;rw[hr] at HC;have HA:=zaa (fun W=>ziJ ⟨t.text.toArray⟩ (by simpa [ByteArray.size] using hl) W _ (by simpa using zlj t.text hn));clear hr ht hk hn hl
  go_enter func81,ntmps81
  go_wp2_with fail;refine(HC.out).mono ?_;rintro e w' ⟨j',hj',hA,hr',rfl⟩;have HJ:=zaa hA;clear hA;go_wp2_with fail;refine(HA.out _).mono ?_;rintro e w'' ⟨rfl,hb⟩;have HJ2:=zaa (HJ.out.below hpb hb);clear hb;go_wp2_with fail;go_ret;exact⟨j',hj',HJ2.out,hr',rfl⟩
 |bad n r=>
  rw[zab hr];rw[hr] at HC
  go_enter func81,ntmps81
  go_wp2_with fail;refine(HC.out).mono ?_;rintro e w' ⟨j',hj',hA,hr',rfl⟩;have HA:=zaa hA;clear hA;go_wp2_with fail;exact⟨rfl,j',hj',HA.out,hr',rfl⟩
theorem zcd.trans {α:Type} {pb j:Nat} {ts:List Tok} {W W1 W2:World} {conv:α→Value} {res:Res α} {e:Ending} (h:AtJ pb j W W1) (k:zcd pb ts W1 conv res e W2):zcd pb ts W conv res e W2:=by
 obtain⟨j',hj',hA,hm⟩:=k;exact⟨j',hj',h.trans hA,hm⟩
theorem zaG (pb j:Nat) (ts:List Tok) (s:ByteArray) (W:World) (H:Hid (Cur pb ts j W)) (hts:ts.length≤1099511627776) (hj:j≤ts.length) (hg:Hid (zhA ts)) (hs:s.data.toList≠[]):
 Calls prog 92 #[.pointer (some ⟨pb,0,none⟩),.string s] W fun e W'=>zcd pb ts W (fun n:Int=> .int .i64 n) (zb0 s.data.toList (ts.drop j)) e W':=by
 have hpb:=H.out.lt;have HB1:=zaa ((Below.refl W.heap.size W).alloc (Nat.le_refl _) (Obj.cells #[Value.string s] 9));have HM:=zaa (ziR pb j W.heap.size 0 1 ts s (W.alloc (Obj.cells #[Value.string s] 9)) (zaa (H.out.below HB1.out)) hts hj hs (by simp[go_sem]) (by omega));have HR:=zaa (show zb0 s.data.toList (ts.drop j)=(zbd s.data.toList >>= fun _=>zfe) (ts.drop j) from rfl);have HN:=zaa (fun j' W (H:Hid (Cur pb ts j' W)) hj'=>zcx pb j' ts W H hts hj' hg);have HA0:=zaa ((AtJ.start H.out.now H.out.free).below hpb HB1.out);clear HB1
 go_enter func92,ntmps92
 go_wp2_with fail;refine(HM.out).mono ?_;rintro e w1 hE;rcases hE.split with⟨a1,j1,hr,hj1,hA,rfl⟩|⟨n,j1,hr,hj1,hA,rfl⟩
 rotate_left
 ·have HX:=zaa (zcd.mk_bad (conv:=fun n:Int=> .int .i64 n) (HR.out.trans (zab hr)) hj1 (HA0.out.trans hA))
  clear hA hr;go_wp2_with fail;exact⟨rfl,HX.out⟩
 have HA1:=zaa (HA0.out.trans hA);have HR1:=zaa (HR.out.trans (zac hr));have HC1:=zaa (HN.out j1 w1 (zaa (H.out.to HA1.out)) hj1);clear hA hr hE;go_wp2_with fail;refine(HC1.out).mono ?_;rintro e w2 hE;rcases hE.split with⟨a2,j2,hr,hj2,hA,rfl⟩|⟨n,j2,hr,hj2,hA,rfl⟩
 rotate_left
 ·have HX:=zaa (zcd.mk_bad (conv:=fun n:Int=> .int .i64 n) (HR1.out.trans hr) hj2 (HA1.out.trans hA))
  clear hA hr;go_wp2_with fail;exact⟨rfl,HX.out⟩
 have HX:=zaa (zcd.mk_ok (conv:=fun n:Int=> .int .i64 n) (HR1.out.trans hr) hj2 (HA1.out.trans hA) rfl);clear hA hr hE;go_wp2_with fail;go_ret;exact HX.out
inductive Dat where
 |leaf (v:Value)
 |row (size:Nat) (es:List (List Dat))
inductive DAt (w:World) (G:Nat→Prop):Value→Dat→Prop
 |leaf (v:Value):DAt w G v (.leaf v)
 |nil (A:Option Addr) (c size:Nat):DAt w G (.slice A 0 c) (.row size [])
 |row (b off c size n:Nat) (es:List (List Dat)) (val:Nat→Nat→Value) (hn:es.length=n) (hG:G b) (hb:b<w.heap.size)
  (hc: ∀i j e d,es[i]? =some e→e[j]? =some d→w.cell? ⟨b,off+i*size+j,none⟩=some (val i j))
  (hd: ∀i j e d,es[i]? =some e→e[j]? =some d→DAt w G (val i j) d) (hcap:n≤c):DAt w G (.slice (some ⟨b,off,none⟩) n c) (.row size es)
theorem DAt.keep {w w':World} {G:Nat→Prop} {v:Value} {d:Dat} (h:DAt w G v d) (hz:w.heap.size≤w'.heap.size) (hk: ∀b,G b→b<w.heap.size→w'.heap[b]? =w.heap[b]?):DAt w' G v d:=by
 induction h with
 |leaf v=>exact .leaf v
 |nil A c size=>exact .nil A c size
 |row b off c size n es val hn hG hb hc _ hcap ih=>exact .row b off c size n es val hn hG (Nat.lt_of_lt_of_le hb hz) (fun i j e d he hd=>(World.cell?_of_block (w:=w) (hk b hG hb)).trans (hc i j e d he hd)) ih hcap
theorem DAt.mono {w:World} {G H:Nat→Prop} {v:Value} {d:Dat} (h:DAt w G v d) (hg: ∀b,G b→b<w.heap.size→H b):DAt w H v d:=by
 induction h with
 |leaf v=>exact .leaf v
 |nil A c size=>exact .nil A c size
 |row b off c size n es val hn hG hb hc _ hcap ih=>exact .row b off c size n es val hn (hg b hG hb) hb hc ih hcap
theorem DAt.later {w w':World} {G:Nat→Prop} {v:Value} {d:Dat} (h:DAt w G v d) (hb:Below w.heap.size w w'):DAt w' G v d:=h.keep hb.size (fun b _ hl=>hb.block b hl)
theorem DAt.kept {w w':World} {F G:Nat→Prop} {v:Value} {d:Dat} (h:DAt w G v d) (hk:zam F w w') (hF: ∀b,G b→ ¬F b):DAt w' G v d:=h.keep hk.size (fun b hg hl=>hk.block b hl (hF b hg))
def zaf (w:World) (G:Nat→Prop) (vs:List Value) (ds:List Dat):Prop:=vs.length=ds.length∧ ∀(j:Nat) (v:Value) (d:Dat),vs[j]? =some v→ds[j]? =some d→DAt w G v d
theorem zaf.nil {w:World} {G:Nat→Prop}:zaf w G [] []:=⟨rfl,fun j v d (h:([]:List Value)[j]? =some v)=>by simp at h⟩
theorem zaf.cons {w:World} {G:Nat→Prop} {v:Value} {d:Dat} {vs:List Value} {ds:List Dat} (h:DAt w G v d) (hs:zaf w G vs ds):zaf w G (v::vs) (d::ds):=by
 refine⟨by simp[hs.1],fun j u e hu he=> ?_⟩
 cases j with
 |zero=>
  simp only[List.getElem?_cons_zero,Option.some.injEq] at hu he;subst hu he;exact h
 |succ j=>exact hs.2 j u e (by simpa using hu) (by simpa using he)
theorem zaf.append {w:World} {G:Nat→Prop} {vs us:List Value} {ds es:List Dat} (h:zaf w G vs ds) (k:zaf w G us es):zaf w G (vs++us) (ds++es):=by
 refine⟨by simp[h.1,k.1],fun j v d hv hd=> ?_⟩;by_cases hj:j<vs.length
 ·rw[List.getElem?_append_left hj] at hv
  rw[List.getElem?_append_left (by have:=h.1;omega)] at hd;exact h.2 j v d hv hd
 ·rw[List.getElem?_append_right (by omega)] at hv
  rw[List.getElem?_append_right (by have:=h.1;omega),←h.1] at hd;exact k.2 _ v d hv hd
theorem zaf.mono {w:World} {G H:Nat→Prop} {vs:List Value} {ds:List Dat} (h:zaf w G vs ds) (hg: ∀b,G b→b<w.heap.size→H b):zaf w H vs ds:=⟨h.1,fun j v d hv hd=>(h.2 j v d hv hd).mono hg⟩
theorem zaf.keep {w w':World} {G:Nat→Prop} {vs:List Value} {ds:List Dat} (h:zaf w G vs ds) (hz:w.heap.size≤w'.heap.size) (hk: ∀b,G b→b<w.heap.size→w'.heap[b]? =w.heap[b]?):zaf w' G vs ds:=⟨h.1,fun j v d hv hd=>(h.2 j v d hv hd).keep hz hk⟩
theorem zaf.below {w w':World} {G:Nat→Prop} {vs:List Value} {ds:List Dat} (h:zaf w G vs ds) (hb:Below w.heap.size w w'):zaf w' G vs ds:=h.keep hb.size (fun b _ hl=>hb.block b hl)
structure zfV (w:World) (base:Nat) (t:TypeId) (size:Nat) (v:Value) (n:Nat) (es:List (List Dat)):Prop where
 len:es.length=n
 wide: ∀e∈es,e.length=size
 own: ∃cs,w.ownsRow base t size v n cs∧zaf w (fun b=>base≤b∧v.ownBlock≠some b) cs es.flatten
theorem zfV.nil (w:World) (base:Nat) (t:TypeId) (size:Nat):zfV w base t size (.slice none 0 0) 0 []:=
 ⟨rfl,fun _ h=>(by cases h),[],World.ownsRow_nil _ _ _ _,.nil⟩
theorem zai {w w':World} {base:Nat} {e:TypeId} {size:Nat} {v:Value} {n:Nat} {xs:List Value} (h:w.ownsRow base e size v n xs) (hb: ∀g,v.ownBlock=some g→base≤g→w'.heap[g]? =w.heap[g]?):w'.ownsRow base e size v n xs:=by
 obtain⟨h1,h2⟩:=h;refine⟨h1,?_⟩;rcases h2 with h2|⟨g,cap,cur,hv,hg,hh,r⟩
 ·exact .inl h2
 ·exact .inr ⟨g,cap,cur,hv,hg,(hb g (by rw[hv];rfl) hg).trans hh,r⟩
theorem zaj {w:World} {base:Nat} {e:TypeId} {size:Nat} {v:Value} {n:Nat} {xs:List Value} (h:w.ownsRow base e size v n xs) {g:Nat} (hg:v.ownBlock=some g):base≤g∧g<w.heap.size:=by
 rcases h.2 with⟨rfl,_⟩|⟨g',cap,cur,rfl,hb,hh,_⟩
 ·cases hg
 ·injection hg with hg;subst hg
  exact⟨hb,(zal hh)⟩
theorem zfV.lt {w:World} {base:Nat} {t:TypeId} {size:Nat} {v:Value} {n:Nat} {es:List (List Dat)} (h:zfV w base t size v n es) {g:Nat} (hg:v.ownBlock=some g):base≤g∧g<w.heap.size:=by
 obtain⟨cs,ho,_⟩:=h.own;exact zaj ho hg
theorem zfV.keep {w w':World} {base:Nat} {t:TypeId} {size:Nat} {v:Value} {n:Nat} {es:List (List Dat)} (h:zfV w base t size v n es) (hz:w.heap.size≤w'.heap.size) (hk: ∀b,base≤b→b<w.heap.size→w'.heap[b]? =w.heap[b]?):zfV w' base t size v n es:=by
 obtain⟨cs,ho,hc⟩:=h.own;exact⟨h.len,h.wide,cs,zai ho (fun g hg hb=>hk g hb (zaj ho hg).2),hc.keep hz (fun b hb hl=>hk b hb.1 hl)⟩
theorem zfV.below {w w':World} {base:Nat} {t:TypeId} {size:Nat} {v:Value} {n:Nat} {es:List (List Dat)} (h:zfV w base t size v n es) (hb:Below w.heap.size w w'):zfV w' base t size v n es:=h.keep hb.size (fun b _ hl=>hb.block b hl)
theorem zfV.kept {w w':World} {F:Nat→Prop} {base:Nat} {t:TypeId} {size:Nat} {v:Value} {n:Nat} {es:List (List Dat)} (h:zfV w base t size v n es) (hk:zam F w w') (hF: ∀b,base≤b→ ¬F b):zfV w' base t size v n es:=h.keep hk.size (fun b hb hl=>hk.block b hl (hF b hb))
theorem zih {α:Type} {size:Nat}: ∀(es:List (List α)),(∀e∈es,e.length=size)→ ∀(i j:Nat) (e:List α),es[i]? =some e→j<size→es.flatten[i*size+j]? =e[j]?
 |[],_,i,j,e,h,_=>by simp at h
 |x::es,hw,0,j,e,h,hj=>by
  simp only[List.getElem?_cons_zero,Option.some.injEq] at h;subst h;rw[Nat.zero_mul,Nat.zero_add,List.flatten_cons,List.getElem?_append_left (by rw[hw x (by simp)];exact hj)]
 |x::es,hw,i+1,j,e,h,hj=>by
  have hx:=hw x (by simp);rw[List.flatten_cons,List.getElem?_append_right (by rw[hx,Nat.add_mul];omega)];have:(i+1)*size+j-x.length=i*size+j:=by rw[hx,Nat.add_mul];omega
  rw[this];exact zih es (fun e he=>hw e (by simp[he])) i j e (by simpa using h) hj
theorem zli {w:World} {base:Nat} {G:Nat→Prop} {t:TypeId} {size:Nat} {v:Value} {n:Nat} {es:List (List Dat)} {cs:List Value} (hl:es.length=n) (hw: ∀e∈es,e.length=size) (ho:w.ownsRow base t size v n cs) (hc:zaf w G cs es.flatten):DAt w (fun b=>G b∨v.ownBlock=some b) v (.row size es):=by
 rcases ho.2 with⟨rfl,rfl⟩|⟨g,cap,cur,rfl,hb,hh,hcap,_⟩
 ·obtain rfl:=List.eq_nil_of_length_eq_zero hl
  exact .nil none 0 size
 ·have hlt:=(zal hh)
  have hcell: ∀i j e d,es[i]? =some e→e[j]? =some d→ ∃u,w.cell? ⟨g,i*size+j,none⟩=some u∧DAt w (fun b=>G b∨(Value.slice (some ⟨g,0,none⟩) n cap).ownBlock=some b) u d:=by
   intro i j e d he hd;have hil:i<n:=by rw[←hl];exact(List.getElem?_eq_some_iff.1 he).1
   have hjl:j<size:=by rw[←hw e (List.mem_of_getElem? he)];exact(List.getElem?_eq_some_iff.1 hd).1
   have hij:i*size+j<n*size:=by
    have:(i+1)*size≤n*size:=Nat.mul_le_mul_right _ (by omega);rw[Nat.add_mul] at this;omega
   have hf:=zih es hw i j e he hjl;rw[hd] at hf;have hlt2:=(List.getElem?_eq_some_iff.1 hf).1;have hcl:i*size+j<cs.length:=by rw[hc.1];exact hlt2
   refine⟨cs[i*size+j],?_,(hc.2 _ _ d (List.getElem?_eq_getElem hcl) hf).mono (fun b hb _=> .inl hb)⟩;rw[World.ownsRow.cellAt ho (i*size+j) hij,List.getElem?_eq_getElem hcl]
  have hv: ∃val:Nat→Nat→Value,∀i j e d,es[i]? =some e→e[j]? =some d→w.cell? ⟨g,i*size+j,none⟩=some (val i j)∧DAt w (fun b=>G b∨(Value.slice (some ⟨g,0,none⟩) n cap).ownBlock=some b) (val i j) d:=by
   refine⟨fun i j=>(w.cell? ⟨g,i*size+j,none⟩).getD (.bool false),fun i j e d he hd=> ?_⟩;obtain⟨u,hu,hdu⟩:=hcell i j e d he hd;simp only[hu,Option.getD_some];exact⟨trivial,hdu⟩
  obtain⟨val,hval⟩:=hv;refine .row g 0 cap size n es val hl (.inr rfl) hlt (fun i j e d he hd=> ?_) (fun i j e d he hd=>(hval i j e d he hd).2) hcap;rw[Nat.zero_add];exact(hval i j e d he hd).1
theorem zfV.dat {w:World} {base:Nat} {t:TypeId} {size:Nat} {v:Value} {n:Nat} {es:List (List Dat)} (h:zfV w base t size v n es):DAt w (fun b=>base≤b) v (.row size es):=by
 obtain⟨hl,hw,cs,ho,hc⟩:=h;exact(zli hl hw ho hc).mono (fun b hb _=>hb.elim (·.1) (fun e=>(zaj ho e).1))
theorem zfV.push {w w2:World} {base:Nat} {t:TypeId} {size:Nat} {v v':Value} {n m k:Nat} {es fs:List (List Dat)} {cs news:List Value} (hl:es.length=n) (hwd: ∀e∈es,e.length=size)
 (hc:zaf w (fun b=>base≤b∧v.ownBlock≠some b) cs es.flatten) (hk:k=n+m) (hm:fs.length=m) (hw: ∀e∈fs,e.length=size) (hnew:zaf w (fun b=>base≤b∧v.ownBlock≠some b) news fs.flatten)
 (hown:w2.ownsRow base t size v' k (cs++news)) (hg:w.grownBy w2 v.ownBlock) (hat:v'.ownBlock=v.ownBlock∨v'.ownBlock=some w.heap.size):zfV w2 base t size v' k (es++fs):=by
 refine⟨by rw[List.length_append];omega,fun e he=> ?_,cs++news,hown,?_⟩
 ·rcases List.mem_append.1 he with he|he
  ·exact hwd e he
  ·exact hw e he
 ·rw[List.flatten_append]
  have hall:=(hc.append hnew).mono (H:=fun b=>base≤b∧v.ownBlock≠some b∧b<w.heap.size) (fun b hb hlt=>⟨hb.1,hb.2,hlt⟩);refine(hall.keep hg.size (fun b hb hlt=>hg.block b hlt (fun e=>hb.2.1 e.symm))).mono (fun b hb _=>⟨hb.1,fun e=> ?_⟩);rcases hat with hat|hat
  ·exact hb.2.1 (hat.symm.trans e)
  ·rw[hat] at e
   injection e with e
   omega
end Go.Proofs.YtlngbjphagnloaaGreatDoor
