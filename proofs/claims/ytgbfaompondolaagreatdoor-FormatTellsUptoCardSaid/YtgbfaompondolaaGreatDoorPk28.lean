/- Merged texts of the walks and of the plain laws on which the statement leans.-/
import Derived.Test.YtgbfaompondolaaGreatDoorPk1
import Derived.Test.YtgbfaompondolaaGreatDoorPk11
import Derived.Test.YtgbfaompondolaaGreatDoorPk13
set_option maxHeartbeats 4000000
set_option maxRecDepth 100000
namespace Go.Proofs.YtgbfaompondolaaGreatDoor
open Tryz
open Go.RowKit
attribute [local go_sem] zaj.cell
theorem za2 {α:Type} (f:α→Nat) {l:List α} {k:Nat} {x:α} (h:l[k]? =some x):((l.take (k+1)).map f).sum=((l.take k).map f).sum+f x:=by
 rw[List.take_add_one,h];simp
theorem za5 {α:Type} (f:α→Nat) {l:List α} {k:Nat} {x:α} (h:l[k]? =some x):((l.take k).map f).sum+f x≤(l.map f).sum:=by
 rw[←za2 f h];have e:=congrArg (fun m=>(List.map f m).sum) (List.take_append_drop (k+1) l);simp only[List.map_append,List.sum_append] at e
 omega
def zfP (s:List UInt8):Prop:=(⟨s.toArray⟩:ByteArray).size=s.length
theorem zc4 (s:List UInt8):zfP s:=by simp[zfP,ByteArray.size]
theorem ze5 (r:zb7) (v:Value) (l:List zb7) (W:World) (hv:Hid (DAt W (fun _=>True) v (.row 3 (l.map zb7.cells)))) (hn:zd9 r+zer l≤1000000000) (hl:l.length≤1000000000):
 Calls prog 17 #[.agg #[zav r.m,zav r.p,zav r.o],v] W fun e w'=>e= .returned (.int .i64 ((zd9 r+zer l:Nat):Int))∧Below W.heap.size W w':=by
 obtain⟨A,c,rfl,hA⟩:=hv.out.slice;have HA:=zaa hA;clear hA hv;rw[List.length_map];obtain⟨m,p,o⟩:=r;unfold zer at hn ⊢;rw[show zd9 ⟨m,p,o⟩=m.length+p.length+o.length from rfl] at hn ⊢;have HN:=zaa hn;have hsm:=zc4 m;have hsp:=zc4 p;have hso:=zc4 o;unfold zfP at *;simp only[zav] at *;generalize(⟨m.toArray⟩:ByteArray)=sm at *;generalize(⟨p.toArray⟩:ByteArray)=sp at *;generalize(⟨o.toArray⟩:ByteArray)=so at *;generalize m.length=lm at *;generalize p.length=lp at *;generalize o.length=lo at *;subst hsm hsp hso;have HB0:=zaa ((Below.refl W.heap.size W).alloc (Nat.le_refl _) (.cells #[.string sm,.string sp,.string so] 55))
 go_enter func17,ntmps17
 go_wp2_with fail;generalize W.alloc _=w0 at *
 go_loopw [5,6] (fun v5 v6 wr=> ∃k:Nat,k≤l.length∧v6= .int .i64 k∧v5= .int .i64 ((sm.size+sp.size+so.size+((l.take k).map zd9).sum:Nat):Int)∧Below W.heap.size W wr) (fun _ v6 _=>l.length-(intOf v6).toNat)
 case atStart=>exact⟨0,by omega,rfl,by simp,HB0.out⟩
 case round=>
  obtain⟨k,hk,rfl,rfl,hbr⟩:=hrel;have HBR:=zaa hbr;clear hbr HB0;by_cases hlt:k<l.length
  rotate_left
  ·obtain rfl:k=l.length:=by omega
   rw[List.take_length];clear hlt;go_wp2_with fail;go_ret;exact⟨rfl,HBR.out⟩
  obtain⟨x,hx⟩:=zbE hlt;obtain⟨bA,oA,rfl,hbA,hcaA⟩:=HA.out.at_ hx;have a0:=zad HBR.out hbA (oA+k*3) (hcaA 0 _ rfl).leafc;have a1:=zad HBR.out hbA (oA+k*3+1) (hcaA 1 _ rfl).leafc;have a2:=zad HBR.out hbA (oA+k*3+2) (hcaA 2 _ rfl).leafc;clear hcaA;have HS:=zaa (za2 zd9 hx);have hp:=za5 zd9 hx;have hc:zd9 x=x.m.length+x.p.length+x.o.length:=rfl;have e0:=zc4 x.m;have e1:=zc4 x.p;have e2:=zc4 x.o;unfold zfP at e0 e1 e2;rw[hc] at HS hp;rw[←e0,←e1,←e2] at HS hp;simp only[zav] at a0 a1 a2;clear e0 e1 e2 hc hx;generalize(⟨x.m.toArray⟩:ByteArray)=ym at *;generalize(⟨x.p.toArray⟩:ByteArray)=yp at *;generalize(⟨x.o.toArray⟩:ByteArray)=yo at *;have hN:=HN.out;generalize hT:((l.take k).map zd9).sum=T at *;generalize(l.map zd9).sum=TA at *;clear hT;have k0:=kbZ k l.length;go_wp2_with fail;go_quiet (fail);go_wp2_with fail;go_roundw
  case rel=>exact⟨k+1,by omega,by go_num,by rw[HS.out];go_num,HBR.out.trans ⟨rfl,rfl,rfl,Nat.le_refl _,fun _ _=>rfl⟩⟩
  case measure=>simp[intOf];omega
end Go.Proofs.YtgbfaompondolaaGreatDoor
