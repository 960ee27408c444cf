/- Merged texts of the walks and of the plain laws on which the statement leans.-/
import Derived.Test.YtlngbjphagnloaaGreatDoorPk1
import Derived.Test.YtlngbjphagnloaaGreatDoorPk4
import Derived.Test.YtlngbjphagnloaaGreatDoorPk6
set_option maxHeartbeats 4000000
set_option maxRecDepth 100000
namespace Go.Proofs.YtlngbjphagnloaaGreatDoor
open Tryz
def Er {α:Type} (m:Ps α):Prop:= ∀r n r',m r= .bad n r'→n=80∨n=81
theorem Er.ret {α:Type} (a:α):Er (pure a:Ps α):=fun r n r' h=>by
 have h:(Res.ok a r:Res α)= .bad n r':=h
 cases h
theorem Er.bind {α β:Type} {m:Ps α} {f:α→Ps β} (h:Er m) (k: ∀a,Er (f a)):Er (m >>= f):=fun r n r' e=>by
 cases hm:m r with
 |ok a r1=>rw[zac hm] at e;exact k a _ _ _ e
 |bad n1 r1=>
  rw[zab hm] at e;injection e with e1 _
  subst e1;exact h _ _ _ hm
theorem zfs (t:List UInt8):Er (zbf t):=fun r n r' h=>by
 unfold zbf at h
 split at h<;>cases h
theorem za4 (t:List UInt8):Er (zbd t):=fun r n r' h=>by
 unfold zbd at h
 split at h
 ·cases h
 ·injection h with h _;exact .inl h.symm
theorem zk4 (k:Nat):Er (zd5 k):=fun r n r' h=>by
 unfold zd5 at h
 split at h
 ·cases h
 ·injection h with h _;exact .inl h.symm
theorem zbR:Er zcb:=zk4 1
theorem zef:Er zfe:=(zk4 2).bind fun _=> .ret _
theorem zbw (t:List UInt8):Er (zb0 t):=(za4 t).bind fun _=>zef
theorem zjs (l:List (List UInt8)):Er (ofP l):=fun r n r' h=>by
 unfold ofP at h
 split at h
 ·cases h
 ·injection h with h _;exact .inl h.symm
theorem zkB {α:Type} {x:Ps α} (h:Er x): ∀(f:Nat) (acc:List α),Er (zc8 x f acc)
 |0,acc=> .ret acc
 |f+1,acc=>(zfs _).bind fun b=>by
  cases b
  ·exact .ret acc
  ·exact h.bind fun a=>zkB h f (acc++[a])
theorem zeL {α:Type} {x:Ps α} (h:Er x):Er (zde x):=h.bind fun _a r n r' e=>zkB h _ _ r n r' e
theorem zi5:Er zid:=zbR.bind fun _=>(za4 _).bind fun _=>zbR.bind fun _=>(za4 _).bind fun _=>zbR.bind fun _=> .ret _
theorem znd:Er zki:=(za4 _).bind fun _=>(zjs _).bind fun _=> .ret _
theorem zm8: ∀n,Er (zi1 n)
 |0=> .ret _
 |n+1=>zef.bind fun _=>(zm8 n).bind fun _=> .ret _
theorem zow:Er zjp:=(zjs _).bind fun _=>(zm8 _).bind fun _=>(za4 _).bind fun _=> .ret _
theorem zeZ: ∀(f:Nat) (acc:List zcQ),Er (zbn f acc)
 |0,acc=> .ret acc
 |f+1,acc=>fun r n r' h=>by
  unfold zbn at h
  split at h
  ·exact(zow.bind fun x=>zeZ f (acc++[x])) r n r' h
  ·cases h
theorem zlT:Er zcs:=fun r n r' h=>zeZ _ _ r n r' h
theorem zoL:Er zj7:=fun r n r' h=>by
 unfold zj7 at h
 split at h
 ·cases h
 ·split at h
  ·cases h
  ·injection h with h _;exact .inl h.symm
theorem znQ:Er zei:=zoL.bind fun _=>zbR.bind fun _=>(zjs _).bind fun kind=>(zbw _).bind fun _=>by
 by_cases hk:kind=1
 ·simp only[hk,if_true]
  exact(zbw _).bind fun _=>(za4 _).bind fun _=> .ret _
 ·simp only[hk,if_false]
  exact(zbw _).bind fun _=>(za4 _).bind fun _=> .ret _
theorem znJ:Er zfh:=zbR.bind fun _=>(zbw _).bind fun _=>(zbw _).bind fun _=>(zbw _).bind fun _=>(za4 _).bind fun _=>zlT.bind fun _=>(za4 _).bind fun _=> .ret _
theorem zc5:Er zb2:=fun r n r' h=>by
 unfold zb2 at h
 cases h
theorem zgn (w:List UInt8) (b:zag) {x:Ps zas} (h:Er x):Er (zcE w b x):=fun r n r' e=>by
 unfold zcE at e
 split at e
 ·injection e with e _;exact .inr e.symm
 ·exact(zc5.bind fun _=>h.bind fun _=>(za4 _).bind fun _=> .ret _) r n r' e
theorem zmu (b:zag):Er (za3 b):=fun r n r' h=>by
 unfold za3 at h
 split at h
 ·exact zgn _ b ((zeL zef).bind fun _=> .ret _) r n r' h
 ·split at h
  ·exact zgn _ b ((zeL zef).bind fun _=> .ret _) r n r' h
  ·split at h
   ·exact zgn _ b (zef.bind fun _=> .ret _) r n r' h
   ·split at h
    ·exact zgn _ b (zef.bind fun _=> .ret _) r n r' h
    ·split at h
     ·exact(zc5.bind fun _=>znJ.bind fun _=> .ret _) r n r' h
     ·exact(znQ.bind fun _=> .ret _) r n r' h
theorem zhy: ∀(f:Nat) (b:zag),Er (zav f b)
 |0,b=> .ret b
 |f+1,b=>fun r n r' h=>by
  unfold zav at h
  split at h
  ·cases h
  ·exact((zmu b).bind fun b'=>zhy f b') r n r' h
theorem znZ:Er zdX:=zbR.bind fun _=>(zbw _).bind fun _=>(zbw _).bind fun _=>(zbw _).bind fun _=>(za4 _).bind fun _=>
 Er.bind (fun r n r' h=>zhy _ _ r n r' h) fun _=> .ret _
theorem zi7: ∀(f:Nat) (acc:List zas),Er (zaS f acc)
 |0,acc=> .ret acc
 |f+1,acc=>(zfs _).bind fun b=>by
  cases b
  ·exact .ret acc
  ·exact znZ.bind fun a=>zi7 f (acc++[a])
theorem zoi:Er zf9:=zbR.bind fun _=>(zbw _).bind fun _=>(zbw _).bind fun _=>(za4 _).bind fun _=>
 Er.bind (fun r n r' h=>zi7 _ _ r n r' h) fun _=>(za4 _).bind fun _=> .ret _
theorem zn3:Er zdW:=zi5.bind fun _=>(za4 _).bind fun _=>(zeL zi5).bind fun _=>(za4 _).bind fun _=> .ret _
theorem zo7:Er swP:=zbR.bind fun _=>znd.bind fun _=>(zbw _).bind fun _=>(zbw _).bind fun _=>(za4 _).bind fun _=> .ret _
theorem zn1:Er zbc:=zbR.bind fun _=>zbR.bind fun _=>znd.bind fun _=>(zbw _).bind fun _=>(za4 _).bind fun _=> .ret _
theorem zpm:Er vlP:=zbR.bind fun _=>(za4 _).bind fun _=>zi5.bind fun _=>(zbw _).bind fun _=>(zbw _).bind fun _=>(za4 _).bind fun _=>(zeL zi5).bind fun _=>(za4 _).bind fun _=> .ret _
theorem zm5 (t:List UInt8):Er (zoK t):=(zfs t).bind fun b=>by
 cases b
 ·exact .ret _
 ·exact zbR
theorem zlz:Er zaD:=(zjs _).bind fun _=>(zm5 _).bind fun _=>(zm5 _).bind fun _=>(za4 _).bind fun _=>(zjs _).bind fun _=>(za4 _).bind fun _=>(zjs _).bind fun _=>(za4 _).bind fun _=> .ret _
theorem zoR:Er zkh:=zbR.bind fun _=>(za4 _).bind fun _=>zef.bind fun _=> .ret _
theorem zkQ:Er zgL:=(zfs _).bind fun b=>by
 cases b
 ·exact .ret _
 ·exact zeL zbR
theorem zmf:Er zcg:=zbR.bind fun _=>(za4 _).bind fun _=>(zeL zoR).bind fun _=>zkQ.bind fun _=>(za4 _).bind fun _=> .ret _
theorem zm0:Er zbq:=zbR.bind fun _=>zef.bind fun _=>(za4 _).bind fun _=>zbR.bind fun _=>zef.bind fun _=>(za4 _).bind fun _=> .ret _
theorem znU (c:zaK):Er (zb1 c):=fun r n r' h=>by
 unfold zb1 at h
 split at h
 ·exact(zc5.bind fun _=>zoi.bind fun _=> .ret _) r n r' h
 ·split at h
  ·exact(zc5.bind fun _=>zn3.bind fun _=> .ret _) r n r' h
  ·split at h
   ·exact(zc5.bind fun _=>zo7.bind fun _=> .ret _) r n r' h
   ·split at h
    ·exact(zc5.bind fun _=>zn1.bind fun _=> .ret _) r n r' h
    ·split at h
     ·exact(zc5.bind fun _=>zpm.bind fun _=> .ret _) r n r' h
     ·split at h
      ·exact(zc5.bind fun _=>zlz.bind fun _=> .ret _) r n r' h
      ·split at h
       ·exact(zc5.bind fun _=>zmf.bind fun _=> .ret _) r n r' h
       ·split at h
        ·exact(zc5.bind fun _=>zm0.bind fun _=> .ret _) r n r' h
        ·injection h with h _;exact .inl h.symm
theorem zi3: ∀(f:Nat) (c:zaK),Er (zbp f c)
 |0,c=> .ret c
 |f+1,c=>fun r n r' h=>by
  cases r with
  |nil=>cases h
  |cons t r=>exact((znU c).bind fun c'=>zi3 f c') (t::r) n r' h
theorem cfg_er:Er zgN:=fun r n r' h=>zi3 _ _ r n r' h
open Go.RowKit
attribute [local go_sem] zax.cell zbW
theorem zhC (va vb:Value) (la lb:List Int) (W:World) (Ha:Hid (DAt W (fun _=>True) va (.row 1 (la.map (fun n:Int=>[lI n]))))) (Hb:Hid (DAt W (fun _=>True) vb (.row 1 (lb.map (fun n:Int=>[lI n]))))) (hla:la.length≤1099511627776) (_hlb:lb.length≤1099511627776):
 Calls prog 165 #[va,vb] W fun e w'=>e= .returned (.bool (eqB la lb))∧Below W.heap.size W w':=by
 obtain⟨A,c,rfl,hA⟩:=Ha.out.slice;obtain⟨A',c',rfl,hB⟩:=Hb.out.slice;have HA:=zaa hA;have HB:=zaa hB;clear hA hB Ha Hb;rw[List.length_map,List.length_map];by_cases hn:la.length=lb.length
 rotate_left
 ·have hd:((la.length:Int)==((lb.length:Nat):Int))=false:=by rw[beq_eq_false_iff_ne];omega
  have hd2:((la.length:Int) != ((lb.length:Nat):Int))=true:=by simp;omega
  have HNE:=zaa (zbm (fun e:la=lb=>hn (congrArg List.length e)));clear hn
  go_enter func165,ntmps165
  go_wp2_with fail;go_ret;exact⟨zap HNE.out.symm,Below.refl _ _⟩
 rw[←hn];have HN:=zaa hn;clear hn
 go_enter func165,ntmps165
 go_wp2_with fail
 go_loopw [5] (fun v5 wr=> ∃k:Nat,k≤la.length∧v5= .int .i64 k∧la.take k=lb.take k∧Below W.heap.size W wr) (fun v5 _=>la.length-(intOf v5).toNat)
 case atStart=>exact⟨0,by omega,rfl,rfl,Below.refl _ _⟩
 case round=>
  obtain⟨k,hk,rfl,ht,hbr⟩:=hrel;have HT:=zaa ht;have HBR:=zaa hbr;clear ht hbr;by_cases hlt:k<la.length
  rotate_left
  ·have HEQ:=zaa (zaT (zbe HT.out hlt HN.out))
   have hdl:decide ((k:Int)<((la.length:Nat):Int))=false:=by simp;omega
   go_wp2_with fail;go_ret;exact⟨zap HEQ.out.symm,HBR.out⟩
  obtain⟨x,hx⟩:=zhG hlt;obtain⟨y,hy⟩: ∃y,lb[k]? =some y:=⟨_,List.getElem?_eq_getElem (by have:=HN.out;omega)⟩;obtain⟨b,off,rfl,hb,hca⟩:=HA.out.at_ hx;obtain⟨b',off',rfl,hb',hcb⟩:=HB.out.at_ hy;have c0:wr.cell? ⟨b,off+k,none⟩=some (Value.int .i64 (x)):=lc HBR.out hb (by have:=(hca 0 _ rfl);simpa [zbj,lI] using this);have d0:wr.cell? ⟨b',off'+k,none⟩=some (Value.int .i64 (y)):=lc HBR.out hb' (by have:=(hcb 0 _ rfl);simpa [zbj,lI] using this);have hbw:=HBR.out.size;have hb1:b<wr.heap.size:=by omega
  have hb2:b'<wr.heap.size:=by omega
  clear hca hcb;have k0:=kbZ k la.length;have k1:decide (k<la.length)=true:=by simp;exact hlt
  have HX:=zaa hx;have HY:=zaa hy;clear hx hy;rcases dI x y with⟨h,g⟩|rfl
  rotate_left
  all_goals
   first
    |have HTK:=zaa (zbg HT.out HX.out HY.out)
    |have HNE:=zaa (zdY HX.out HY.out (by intro e;cases e;simp at h))
   go_wp2_with fail;go_quiet (fail);go_wp2_with fail
   first
    |(go_ret;exact⟨zap HNE.out.symm,below_drewN HBR.out _⟩)
    |(go_roundw;(case rel=>exact⟨k+1,by omega,by go_num,HTK.out,below_drewN HBR.out _⟩);(case measure=>simp[intOf];omega))
theorem zj6 (va vb:Value) (la lb:List (List UInt8)) (W:World) (Ha:Hid (DAt W (fun _=>True) va (.row 1 (la.map (fun s:List UInt8=>[lS s]))))) (Hb:Hid (DAt W (fun _=>True) vb (.row 1 (lb.map (fun s:List UInt8=>[lS s]))))) (hla:la.length≤1099511627776) (_hlb:lb.length≤1099511627776):
 Calls prog 105 #[va,vb] W fun e w'=>e= .returned (.bool (eqB la lb))∧Below W.heap.size W w':=by
 obtain⟨A,c,rfl,hA⟩:=Ha.out.slice;obtain⟨A',c',rfl,hB⟩:=Hb.out.slice;have HA:=zaa hA;have HB:=zaa hB;clear hA hB Ha Hb;rw[List.length_map,List.length_map];by_cases hn:la.length=lb.length
 rotate_left
 ·have hd:((la.length:Int)==((lb.length:Nat):Int))=false:=by rw[beq_eq_false_iff_ne];omega
  have hd2:((la.length:Int) != ((lb.length:Nat):Int))=true:=by simp;omega
  have HNE:=zaa (zbm (fun e:la=lb=>hn (congrArg List.length e)));clear hn
  go_enter func105,ntmps105
  go_wp2_with fail;go_ret;exact⟨zap HNE.out.symm,Below.refl _ _⟩
 rw[←hn];have HN:=zaa hn;clear hn
 go_enter func105,ntmps105
 go_wp2_with fail
 go_loopw [5] (fun v5 wr=> ∃k:Nat,k≤la.length∧v5= .int .i64 k∧la.take k=lb.take k∧Below W.heap.size W wr) (fun v5 _=>la.length-(intOf v5).toNat)
 case atStart=>exact⟨0,by omega,rfl,rfl,Below.refl _ _⟩
 case round=>
  obtain⟨k,hk,rfl,ht,hbr⟩:=hrel;have HT:=zaa ht;have HBR:=zaa hbr;clear ht hbr;by_cases hlt:k<la.length
  rotate_left
  ·have HEQ:=zaa (zaT (zbe HT.out hlt HN.out))
   have hdl:decide ((k:Int)<((la.length:Nat):Int))=false:=by simp;omega
   go_wp2_with fail;go_ret;exact⟨zap HEQ.out.symm,HBR.out⟩
  obtain⟨x,hx⟩:=zhG hlt;obtain⟨y,hy⟩: ∃y,lb[k]? =some y:=⟨_,List.getElem?_eq_getElem (by have:=HN.out;omega)⟩;obtain⟨b,off,rfl,hb,hca⟩:=HA.out.at_ hx;obtain⟨b',off',rfl,hb',hcb⟩:=HB.out.at_ hy;have c0:wr.cell? ⟨b,off+k,none⟩=some (Value.string ⟨(x).toArray⟩):=lc HBR.out hb (by have:=(hca 0 _ rfl);simpa [zbj,lS] using this);have d0:wr.cell? ⟨b',off'+k,none⟩=some (Value.string ⟨(y).toArray⟩):=lc HBR.out hb' (by have:=(hcb 0 _ rfl);simpa [zbj,lS] using this);have hbw:=HBR.out.size;have hb1:b<wr.heap.size:=by omega
  have hb2:b'<wr.heap.size:=by omega
  clear hca hcb;have k0:=kbZ k la.length;have k1:decide (k<la.length)=true:=by simp;exact hlt
  have HX:=zaa hx;have HY:=zaa hy;clear hx hy;rcases dS x y with h|rfl
  rotate_left
  all_goals
   first
    |have HTK:=zaa (zbg HT.out HX.out HY.out)
    |have HNE:=zaa (zdY HX.out HY.out (by intro e;cases e;simp at h))
   (try generalize(⟨x.toArray⟩:ByteArray)=xB0 at *)
   (try generalize(⟨y.toArray⟩:ByteArray)=yB0 at *)
   go_wp2_with fail;go_quiet (fail);go_wp2_with fail
   first
    |(go_ret;exact⟨zap HNE.out.symm,below_drewN HBR.out _⟩)
    |(go_roundw;(case rel=>exact⟨k+1,by omega,by go_num,HTK.out,below_drewN HBR.out _⟩);(case measure=>simp[intOf];omega))
theorem zhF (va vb:Value) (la lb:List zcQ) (W:World) (Ha:Hid (DAt W (fun _=>True) va (.row 4 (la.map zcQ.cells)))) (Hb:Hid (DAt W (fun _=>True) vb (.row 4 (lb.map zcQ.cells)))) (hla:la.length≤1099511627776) (_hlb:lb.length≤1099511627776):
 Calls prog 21 #[va,vb] W fun e w'=>e= .returned (.bool (eqB la lb))∧Below W.heap.size W w':=by
 obtain⟨A,c,rfl,hA⟩:=Ha.out.slice;obtain⟨A',c',rfl,hB⟩:=Hb.out.slice;have HA:=zaa hA;have HB:=zaa hB;clear hA hB Ha Hb;rw[List.length_map,List.length_map];by_cases hn:la.length=lb.length
 rotate_left
 ·have hd:((la.length:Int)==((lb.length:Nat):Int))=false:=by rw[beq_eq_false_iff_ne];omega
  have hd2:((la.length:Int) != ((lb.length:Nat):Int))=true:=by simp;omega
  have HNE:=zaa (zbm (fun e:la=lb=>hn (congrArg List.length e)));clear hn
  go_enter func21,ntmps21
  go_wp2_with fail;go_ret;exact⟨zap HNE.out.symm,Below.refl _ _⟩
 rw[←hn];have HN:=zaa hn;clear hn
 go_enter func21,ntmps21
 go_wp2_with fail
 go_loopw [5] (fun v5 wr=> ∃k:Nat,k≤la.length∧v5= .int .i64 k∧la.take k=lb.take k∧Below W.heap.size W wr) (fun v5 _=>la.length-(intOf v5).toNat)
 case atStart=>exact⟨0,by omega,rfl,rfl,Below.refl _ _⟩
 case round=>
  obtain⟨k,hk,rfl,ht,hbr⟩:=hrel;have HT:=zaa ht;have HBR:=zaa hbr;clear ht hbr;by_cases hlt:k<la.length
  rotate_left
  ·have HEQ:=zaa (zaT (zbe HT.out hlt HN.out))
   have hdl:decide ((k:Int)<((la.length:Nat):Int))=false:=by simp;omega
   go_wp2_with fail;go_ret;exact⟨zap HEQ.out.symm,HBR.out⟩
  obtain⟨x,hx⟩:=zhG hlt;obtain⟨y,hy⟩: ∃y,lb[k]? =some y:=⟨_,List.getElem?_eq_getElem (by have:=HN.out;omega)⟩;obtain⟨b,off,rfl,hb,hca⟩:=HA.out.at_ hx;obtain⟨b',off',rfl,hb',hcb⟩:=HB.out.at_ hy;have c0:wr.cell? ⟨b,off+k*4,none⟩=some (Value.int .u8 ((x.op:Nat):Int)):=lc HBR.out hb (hca 0 _ rfl);have d0:wr.cell? ⟨b',off'+k*4,none⟩=some (Value.int .u8 ((y.op:Nat):Int)):=lc HBR.out hb' (hcb 0 _ rfl);have c1:wr.cell? ⟨b,off+k*4+1,none⟩=some (Value.int .i64 (x.a)):=lc HBR.out hb (hca 1 _ rfl);have d1:wr.cell? ⟨b',off'+k*4+1,none⟩=some (Value.int .i64 (y.a)):=lc HBR.out hb' (hcb 1 _ rfl);have c2:wr.cell? ⟨b,off+k*4+2,none⟩=some (Value.int .i64 (x.b)):=lc HBR.out hb (hca 2 _ rfl);have d2:wr.cell? ⟨b',off'+k*4+2,none⟩=some (Value.int .i64 (y.b)):=lc HBR.out hb' (hcb 2 _ rfl);have c3:wr.cell? ⟨b,off+k*4+3,none⟩=some (Value.int .i64 (x.c)):=lc HBR.out hb (hca 3 _ rfl);have d3:wr.cell? ⟨b',off'+k*4+3,none⟩=some (Value.int .i64 (y.c)):=lc HBR.out hb' (hcb 3 _ rfl);have hbw:=HBR.out.size;have hb1:b<wr.heap.size:=by omega
  have hb2:b'<wr.heap.size:=by omega
  clear hca hcb;obtain⟨p0,p1,p2,p3⟩:=x;obtain⟨q0,q1,q2,q3⟩:=y;dsimp only at c0 d0 c1 d1 c2 d2 c3 d3;have k0:=kbZ k la.length;have k1:decide (k<la.length)=true:=by simp;exact hlt
  have HX:=zaa hx;have HY:=zaa hy;clear hx hy;rcases dU p0 q0 with⟨h,g⟩|rfl
  rotate_left;rcases dI p1 q1 with⟨h,g⟩|rfl
  rotate_left;rcases dI p2 q2 with⟨h,g⟩|rfl
  rotate_left;rcases dI p3 q3 with⟨h,g⟩|rfl
  rotate_left
  all_goals
   first
    |have HTK:=zaa (zbg HT.out HX.out HY.out)
    |have HNE:=zaa (zdY HX.out HY.out (by intro e;cases e;simp at h))
   (try generalize((p0:Nat):Int)=xZ0 at *)
   (try generalize((q0:Nat):Int)=yZ0 at *)
   go_wp2_with fail;go_quiet (fail);go_wp2_with fail
   first
    |(go_ret;exact⟨zap HNE.out.symm,below_drewN HBR.out _⟩)
    |(go_roundw;(case rel=>exact⟨k+1,by omega,by go_num,HTK.out,below_drewN HBR.out _⟩);(case measure=>simp[intOf];omega))
theorem zj9 (va vb:Value) (la lb:List zcp) (W:World) (Ha:Hid (DAt W (fun _=>True) va (.row 6 (la.map zcp.cells)))) (Hb:Hid (DAt W (fun _=>True) vb (.row 6 (lb.map zcp.cells)))) (hla:la.length≤1099511627776) (_hlb:lb.length≤1099511627776):
 Calls prog 166 #[va,vb] W fun e w'=>e= .returned (.bool (eqB la lb))∧Below W.heap.size W w':=by
 obtain⟨A,c,rfl,hA⟩:=Ha.out.slice;obtain⟨A',c',rfl,hB⟩:=Hb.out.slice;have HA:=zaa hA;have HB:=zaa hB;clear hA hB Ha Hb;rw[List.length_map,List.length_map];by_cases hn:la.length=lb.length
 rotate_left
 ·have hd:((la.length:Int)==((lb.length:Nat):Int))=false:=by rw[beq_eq_false_iff_ne];omega
  have hd2:((la.length:Int) != ((lb.length:Nat):Int))=true:=by simp;omega
  have HNE:=zaa (zbm (fun e:la=lb=>hn (congrArg List.length e)));clear hn
  go_enter func166,ntmps166
  go_wp2_with fail;go_ret;exact⟨zap HNE.out.symm,Below.refl _ _⟩
 rw[←hn];have HN:=zaa hn;clear hn
 go_enter func166,ntmps166
 go_wp2_with fail
 go_loopw [5] (fun v5 wr=> ∃k:Nat,k≤la.length∧v5= .int .i64 k∧la.take k=lb.take k∧Below W.heap.size W wr) (fun v5 _=>la.length-(intOf v5).toNat)
 case atStart=>exact⟨0,by omega,rfl,rfl,Below.refl _ _⟩
 case round=>
  obtain⟨k,hk,rfl,ht,hbr⟩:=hrel;have HT:=zaa ht;have HBR:=zaa hbr;clear ht hbr;by_cases hlt:k<la.length
  rotate_left
  ·have HEQ:=zaa (zaT (zbe HT.out hlt HN.out))
   have hdl:decide ((k:Int)<((la.length:Nat):Int))=false:=by simp;omega
   go_wp2_with fail;go_ret;exact⟨zap HEQ.out.symm,HBR.out⟩
  obtain⟨x,hx⟩:=zhG hlt;obtain⟨y,hy⟩: ∃y,lb[k]? =some y:=⟨_,List.getElem?_eq_getElem (by have:=HN.out;omega)⟩;obtain⟨b,off,rfl,hb,hca⟩:=HA.out.at_ hx;obtain⟨b',off',rfl,hb',hcb⟩:=HB.out.at_ hy;have c0:wr.cell? ⟨b,off+k*6,none⟩=some (Value.string ⟨(x.name).toArray⟩):=lc HBR.out hb (hca 0 _ rfl);have d0:wr.cell? ⟨b',off'+k*6,none⟩=some (Value.string ⟨(y.name).toArray⟩):=lc HBR.out hb' (hcb 0 _ rfl);have c1:wr.cell? ⟨b,off+k*6+1,none⟩=some (Value.int .u8 ((x.kind:Nat):Int)):=lc HBR.out hb (hca 1 _ rfl);have d1:wr.cell? ⟨b',off'+k*6+1,none⟩=some (Value.int .u8 ((y.kind:Nat):Int)):=lc HBR.out hb' (hcb 1 _ rfl);have c2:wr.cell? ⟨b,off+k*6+2,none⟩=some (Value.bool (x.out)):=lc HBR.out hb (hca 2 _ rfl);have d2:wr.cell? ⟨b',off'+k*6+2,none⟩=some (Value.bool (y.out)):=lc HBR.out hb' (hcb 2 _ rfl);have c3:wr.cell? ⟨b,off+k*6+3,none⟩=some (Value.int .i64 (x.size)):=lc HBR.out hb (hca 3 _ rfl);have d3:wr.cell? ⟨b',off'+k*6+3,none⟩=some (Value.int .i64 (y.size)):=lc HBR.out hb' (hcb 3 _ rfl);have c4:wr.cell? ⟨b,off+k*6+4,none⟩=some (Value.int .i64 (x.depth)):=lc HBR.out hb (hca 4 _ rfl);have d4:wr.cell? ⟨b',off'+k*6+4,none⟩=some (Value.int .i64 (y.depth)):=lc HBR.out hb' (hcb 4 _ rfl);have c5:wr.cell? ⟨b,off+k*6+5,none⟩=some (Value.int .i64 (x.refresh)):=lc HBR.out hb (hca 5 _ rfl);have d5:wr.cell? ⟨b',off'+k*6+5,none⟩=some (Value.int .i64 (y.refresh)):=lc HBR.out hb' (hcb 5 _ rfl);have hbw:=HBR.out.size;have hb1:b<wr.heap.size:=by omega
  have hb2:b'<wr.heap.size:=by omega
  clear hca hcb;obtain⟨p0,p1,p2,p3,p4,p5⟩:=x;obtain⟨q0,q1,q2,q3,q4,q5⟩:=y;dsimp only at c0 d0 c1 d1 c2 d2 c3 d3 c4 d4 c5 d5;have k0:=kbZ k la.length;have k1:decide (k<la.length)=true:=by simp;exact hlt
  have HX:=zaa hx;have HY:=zaa hy;clear hx hy;rcases dS p0 q0 with h|rfl
  rotate_left;rcases dU p1 q1 with⟨h,g⟩|rfl
  rotate_left;rcases dB p2 q2 with⟨h,g⟩|rfl
  rotate_left;rcases dI p3 q3 with⟨h,g⟩|rfl
  rotate_left;rcases dI p4 q4 with⟨h,g⟩|rfl
  rotate_left;rcases dI p5 q5 with⟨h,g⟩|rfl
  rotate_left
  all_goals
   first
    |have HTK:=zaa (zbg HT.out HX.out HY.out)
    |have HNE:=zaa (zdY HX.out HY.out (by intro e;cases e;simp at h))
   (try generalize(⟨p0.toArray⟩:ByteArray)=xB0 at *)
   (try generalize(⟨q0.toArray⟩:ByteArray)=yB0 at *)
   (try generalize((p1:Nat):Int)=xZ1 at *)
   (try generalize((q1:Nat):Int)=yZ1 at *)
   go_wp2_with fail;go_quiet (fail);go_wp2_with fail
   first
    |(go_ret;exact⟨zap HNE.out.symm,below_drewN HBR.out _⟩)
    |(go_roundw;(case rel=>exact⟨k+1,by omega,by go_num,HTK.out,below_drewN HBR.out _⟩);(case measure=>simp[intOf];omega))
theorem zhx (va vb:Value) (la lb:List zeJ) (W:World) (Ha:Hid (DAt W (fun _=>True) va (.row 3 (la.map zeJ.cells)))) (Hb:Hid (DAt W (fun _=>True) vb (.row 3 (lb.map zeJ.cells)))) (hla:la.length≤1099511627776) (_hlb:lb.length≤1099511627776):
 Calls prog 103 #[va,vb] W fun e w'=>e= .returned (.bool (eqB la lb))∧Below W.heap.size W w':=by
 obtain⟨A,c,rfl,hA⟩:=Ha.out.slice;obtain⟨A',c',rfl,hB⟩:=Hb.out.slice;have HA:=zaa hA;have HB:=zaa hB;clear hA hB Ha Hb;rw[List.length_map,List.length_map];by_cases hn:la.length=lb.length
 rotate_left
 ·have hd:((la.length:Int)==((lb.length:Nat):Int))=false:=by rw[beq_eq_false_iff_ne];omega
  have hd2:((la.length:Int) != ((lb.length:Nat):Int))=true:=by simp;omega
  have HNE:=zaa (zbm (fun e:la=lb=>hn (congrArg List.length e)));clear hn
  go_enter func103,ntmps103
  go_wp2_with fail;go_ret;exact⟨zap HNE.out.symm,Below.refl _ _⟩
 rw[←hn];have HN:=zaa hn;clear hn
 go_enter func103,ntmps103
 go_wp2_with fail
 go_loopw [5] (fun v5 wr=> ∃k:Nat,k≤la.length∧v5= .int .i64 k∧la.take k=lb.take k∧Below W.heap.size W wr) (fun v5 _=>la.length-(intOf v5).toNat)
 case atStart=>exact⟨0,by omega,rfl,rfl,Below.refl _ _⟩
 case round=>
  obtain⟨k,hk,rfl,ht,hbr⟩:=hrel;have HT:=zaa ht;have HBR:=zaa hbr;clear ht hbr;by_cases hlt:k<la.length
  rotate_left
  ·have HEQ:=zaa (zaT (zbe HT.out hlt HN.out))
   have hdl:decide ((k:Int)<((la.length:Nat):Int))=false:=by simp;omega
   go_wp2_with fail;go_ret;exact⟨zap HEQ.out.symm,HBR.out⟩
  obtain⟨x,hx⟩:=zhG hlt;obtain⟨y,hy⟩: ∃y,lb[k]? =some y:=⟨_,List.getElem?_eq_getElem (by have:=HN.out;omega)⟩;obtain⟨b,off,rfl,hb,hca⟩:=HA.out.at_ hx;obtain⟨b',off',rfl,hb',hcb⟩:=HB.out.at_ hy;have c0:wr.cell? ⟨b,off+k*3,none⟩=some (Value.string ⟨(x.m).toArray⟩):=lc HBR.out hb (hca 0 _ rfl);have d0:wr.cell? ⟨b',off'+k*3,none⟩=some (Value.string ⟨(y.m).toArray⟩):=lc HBR.out hb' (hcb 0 _ rfl);have c1:wr.cell? ⟨b,off+k*3+1,none⟩=some (Value.string ⟨(x.p).toArray⟩):=lc HBR.out hb (hca 1 _ rfl);have d1:wr.cell? ⟨b',off'+k*3+1,none⟩=some (Value.string ⟨(y.p).toArray⟩):=lc HBR.out hb' (hcb 1 _ rfl);have c2:wr.cell? ⟨b,off+k*3+2,none⟩=some (Value.string ⟨(x.o).toArray⟩):=lc HBR.out hb (hca 2 _ rfl);have d2:wr.cell? ⟨b',off'+k*3+2,none⟩=some (Value.string ⟨(y.o).toArray⟩):=lc HBR.out hb' (hcb 2 _ rfl);have hbw:=HBR.out.size;have hb1:b<wr.heap.size:=by omega
  have hb2:b'<wr.heap.size:=by omega
  clear hca hcb;obtain⟨p0,p1,p2⟩:=x;obtain⟨q0,q1,q2⟩:=y;dsimp only at c0 d0 c1 d1 c2 d2;have k0:=kbZ k la.length;have k1:decide (k<la.length)=true:=by simp;exact hlt
  have HX:=zaa hx;have HY:=zaa hy;clear hx hy;rcases dS p0 q0 with h|rfl
  rotate_left;rcases dS p1 q1 with h|rfl
  rotate_left;rcases dS p2 q2 with h|rfl
  rotate_left
  all_goals
   first
    |have HTK:=zaa (zbg HT.out HX.out HY.out)
    |have HNE:=zaa (zdY HX.out HY.out (by intro e;cases e;simp at h))
   (try generalize(⟨p0.toArray⟩:ByteArray)=xB0 at *)
   (try generalize(⟨q0.toArray⟩:ByteArray)=yB0 at *)
   (try generalize(⟨p1.toArray⟩:ByteArray)=xB1 at *)
   (try generalize(⟨q1.toArray⟩:ByteArray)=yB1 at *)
   (try generalize(⟨p2.toArray⟩:ByteArray)=xB2 at *)
   (try generalize(⟨q2.toArray⟩:ByteArray)=yB2 at *)
   go_wp2_with fail;go_quiet (fail);go_wp2_with fail
   first
    |(go_ret;exact⟨zap HNE.out.symm,below_drewN HBR.out _⟩)
    |(go_roundw;(case rel=>exact⟨k+1,by omega,by go_num,HTK.out,below_drewN HBR.out _⟩);(case measure=>simp[intOf];omega))
theorem zgv (va vb:Value) (la lb:List SwD) (W:World) (Ha:Hid (DAt W (fun _=>True) va (.row 4 (la.map SwD.cells)))) (Hb:Hid (DAt W (fun _=>True) vb (.row 4 (lb.map SwD.cells)))) (hla:la.length≤1099511627776) (_hlb:lb.length≤1099511627776):
 Calls prog 39 #[va,vb] W fun e w'=>e= .returned (.bool (eqB la lb))∧Below W.heap.size W w':=by
 obtain⟨A,c,rfl,hA⟩:=Ha.out.slice;obtain⟨A',c',rfl,hB⟩:=Hb.out.slice;have HA:=zaa hA;have HB:=zaa hB;clear hA hB Ha Hb;rw[List.length_map,List.length_map];by_cases hn:la.length=lb.length
 rotate_left
 ·have hd:((la.length:Int)==((lb.length:Nat):Int))=false:=by rw[beq_eq_false_iff_ne];omega
  have hd2:((la.length:Int) != ((lb.length:Nat):Int))=true:=by simp;omega
  have HNE:=zaa (zbm (fun e:la=lb=>hn (congrArg List.length e)));clear hn
  go_enter func39,ntmps39
  go_wp2_with fail;go_ret;exact⟨zap HNE.out.symm,Below.refl _ _⟩
 rw[←hn];have HN:=zaa hn;clear hn
 go_enter func39,ntmps39
 go_wp2_with fail
 go_loopw [5] (fun v5 wr=> ∃k:Nat,k≤la.length∧v5= .int .i64 k∧la.take k=lb.take k∧Below W.heap.size W wr) (fun v5 _=>la.length-(intOf v5).toNat)
 case atStart=>exact⟨0,by omega,rfl,rfl,Below.refl _ _⟩
 case round=>
  obtain⟨k,hk,rfl,ht,hbr⟩:=hrel;have HT:=zaa ht;have HBR:=zaa hbr;clear ht hbr;by_cases hlt:k<la.length
  rotate_left
  ·have HEQ:=zaa (zaT (zbe HT.out hlt HN.out))
   have hdl:decide ((k:Int)<((la.length:Nat):Int))=false:=by simp;omega
   go_wp2_with fail;go_ret;exact⟨zap HEQ.out.symm,HBR.out⟩
  obtain⟨x,hx⟩:=zhG hlt;obtain⟨y,hy⟩: ∃y,lb[k]? =some y:=⟨_,List.getElem?_eq_getElem (by have:=HN.out;omega)⟩;obtain⟨b,off,rfl,hb,hca⟩:=HA.out.at_ hx;obtain⟨b',off',rfl,hb',hcb⟩:=HB.out.at_ hy;have c0:wr.cell? ⟨b,off+k*4,none⟩=some (Value.string ⟨(x.name).toArray⟩):=lc HBR.out hb (hca 0 _ rfl);have d0:wr.cell? ⟨b',off'+k*4,none⟩=some (Value.string ⟨(y.name).toArray⟩):=lc HBR.out hb' (hcb 0 _ rfl);have c1:wr.cell? ⟨b,off+k*4+1,none⟩=some (Value.int .i64 (x.net)):=lc HBR.out hb (hca 1 _ rfl);have d1:wr.cell? ⟨b',off'+k*4+1,none⟩=some (Value.int .i64 (y.net)):=lc HBR.out hb' (hcb 1 _ rfl);have c2:wr.cell? ⟨b,off+k*4+2,none⟩=some (Value.int .i64 (x.delay)):=lc HBR.out hb (hca 2 _ rfl);have d2:wr.cell? ⟨b',off'+k*4+2,none⟩=some (Value.int .i64 (y.delay)):=lc HBR.out hb' (hcb 2 _ rfl);have c3:wr.cell? ⟨b,off+k*4+3,none⟩=some (Value.int .i64 (x.store)):=lc HBR.out hb (hca 3 _ rfl);have d3:wr.cell? ⟨b',off'+k*4+3,none⟩=some (Value.int .i64 (y.store)):=lc HBR.out hb' (hcb 3 _ rfl);have hbw:=HBR.out.size;have hb1:b<wr.heap.size:=by omega
  have hb2:b'<wr.heap.size:=by omega
  clear hca hcb;obtain⟨p0,p1,p2,p3⟩:=x;obtain⟨q0,q1,q2,q3⟩:=y;dsimp only at c0 d0 c1 d1 c2 d2 c3 d3;have k0:=kbZ k la.length;have k1:decide (k<la.length)=true:=by simp;exact hlt
  have HX:=zaa hx;have HY:=zaa hy;clear hx hy;rcases dS p0 q0 with h|rfl
  rotate_left;rcases dI p1 q1 with⟨h,g⟩|rfl
  rotate_left;rcases dI p2 q2 with⟨h,g⟩|rfl
  rotate_left;rcases dI p3 q3 with⟨h,g⟩|rfl
  rotate_left
  all_goals
   first
    |have HTK:=zaa (zbg HT.out HX.out HY.out)
    |have HNE:=zaa (zdY HX.out HY.out (by intro e;cases e;simp at h))
   (try generalize(⟨p0.toArray⟩:ByteArray)=xB0 at *)
   (try generalize(⟨q0.toArray⟩:ByteArray)=yB0 at *)
   go_wp2_with fail;go_quiet (fail);go_wp2_with fail
   first
    |(go_ret;exact⟨zap HNE.out.symm,below_drewN HBR.out _⟩)
    |(go_roundw;(case rel=>exact⟨k+1,by omega,by go_num,HTK.out,below_drewN HBR.out _⟩);(case measure=>simp[intOf];omega))
theorem zka (va vb:Value) (la lb:List zc6) (W:World) (Ha:Hid (DAt W (fun _=>True) va (.row 4 (la.map zc6.cells)))) (Hb:Hid (DAt W (fun _=>True) vb (.row 4 (lb.map zc6.cells)))) (hla:la.length≤1099511627776) (_hlb:lb.length≤1099511627776):
 Calls prog 40 #[va,vb] W fun e w'=>e= .returned (.bool (eqB la lb))∧Below W.heap.size W w':=by
 obtain⟨A,c,rfl,hA⟩:=Ha.out.slice;obtain⟨A',c',rfl,hB⟩:=Hb.out.slice;have HA:=zaa hA;have HB:=zaa hB;clear hA hB Ha Hb;rw[List.length_map,List.length_map];by_cases hn:la.length=lb.length
 rotate_left
 ·have hd:((la.length:Int)==((lb.length:Nat):Int))=false:=by rw[beq_eq_false_iff_ne];omega
  have hd2:((la.length:Int) != ((lb.length:Nat):Int))=true:=by simp;omega
  have HNE:=zaa (zbm (fun e:la=lb=>hn (congrArg List.length e)));clear hn
  go_enter func40,ntmps40
  go_wp2_with fail;go_ret;exact⟨zap HNE.out.symm,Below.refl _ _⟩
 rw[←hn];have HN:=zaa hn;clear hn
 go_enter func40,ntmps40
 go_wp2_with fail
 go_loopw [5] (fun v5 wr=> ∃k:Nat,k≤la.length∧v5= .int .i64 k∧la.take k=lb.take k∧Below W.heap.size W wr) (fun v5 _=>la.length-(intOf v5).toNat)
 case atStart=>exact⟨0,by omega,rfl,rfl,Below.refl _ _⟩
 case round=>
  obtain⟨k,hk,rfl,ht,hbr⟩:=hrel;have HT:=zaa ht;have HBR:=zaa hbr;clear ht hbr;by_cases hlt:k<la.length
  rotate_left
  ·have HEQ:=zaa (zaT (zbe HT.out hlt HN.out))
   have hdl:decide ((k:Int)<((la.length:Nat):Int))=false:=by simp;omega
   go_wp2_with fail;go_ret;exact⟨zap HEQ.out.symm,HBR.out⟩
  obtain⟨x,hx⟩:=zhG hlt;obtain⟨y,hy⟩: ∃y,lb[k]? =some y:=⟨_,List.getElem?_eq_getElem (by have:=HN.out;omega)⟩;obtain⟨b,off,rfl,hb,hca⟩:=HA.out.at_ hx;obtain⟨b',off',rfl,hb',hcb⟩:=HB.out.at_ hy;have c0:wr.cell? ⟨b,off+k*4,none⟩=some (Value.string ⟨(x.a).toArray⟩):=lc HBR.out hb (hca 0 _ rfl);have d0:wr.cell? ⟨b',off'+k*4,none⟩=some (Value.string ⟨(y.a).toArray⟩):=lc HBR.out hb' (hcb 0 _ rfl);have c1:wr.cell? ⟨b,off+k*4+1,none⟩=some (Value.string ⟨(x.b).toArray⟩):=lc HBR.out hb (hca 1 _ rfl);have d1:wr.cell? ⟨b',off'+k*4+1,none⟩=some (Value.string ⟨(y.b).toArray⟩):=lc HBR.out hb' (hcb 1 _ rfl);have c2:wr.cell? ⟨b,off+k*4+2,none⟩=some (Value.int .i64 (x.net)):=lc HBR.out hb (hca 2 _ rfl);have d2:wr.cell? ⟨b',off'+k*4+2,none⟩=some (Value.int .i64 (y.net)):=lc HBR.out hb' (hcb 2 _ rfl);have c3:wr.cell? ⟨b,off+k*4+3,none⟩=some (Value.int .i64 (x.slow)):=lc HBR.out hb (hca 3 _ rfl);have d3:wr.cell? ⟨b',off'+k*4+3,none⟩=some (Value.int .i64 (y.slow)):=lc HBR.out hb' (hcb 3 _ rfl);have hbw:=HBR.out.size;have hb1:b<wr.heap.size:=by omega
  have hb2:b'<wr.heap.size:=by omega
  clear hca hcb;obtain⟨p0,p1,p2,p3⟩:=x;obtain⟨q0,q1,q2,q3⟩:=y;dsimp only at c0 d0 c1 d1 c2 d2 c3 d3;have k0:=kbZ k la.length;have k1:decide (k<la.length)=true:=by simp;exact hlt
  have HX:=zaa hx;have HY:=zaa hy;clear hx hy;rcases dS p0 q0 with h|rfl
  rotate_left;rcases dS p1 q1 with h|rfl
  rotate_left;rcases dI p2 q2 with⟨h,g⟩|rfl
  rotate_left;rcases dI p3 q3 with⟨h,g⟩|rfl
  rotate_left
  all_goals
   first
    |have HTK:=zaa (zbg HT.out HX.out HY.out)
    |have HNE:=zaa (zdY HX.out HY.out (by intro e;cases e;simp at h))
   (try generalize(⟨p0.toArray⟩:ByteArray)=xB0 at *)
   (try generalize(⟨q0.toArray⟩:ByteArray)=yB0 at *)
   (try generalize(⟨p1.toArray⟩:ByteArray)=xB1 at *)
   (try generalize(⟨q1.toArray⟩:ByteArray)=yB1 at *)
   go_wp2_with fail;go_quiet (fail);go_wp2_with fail
   first
    |(go_ret;exact⟨zap HNE.out.symm,below_drewN HBR.out _⟩)
    |(go_roundw;(case rel=>exact⟨k+1,by omega,by go_num,HTK.out,below_drewN HBR.out _⟩);(case measure=>simp[intOf];omega))
theorem zhN (va vb:Value) (la lb:List zaI) (W:World) (Ha:Hid (DAt W (fun _=>True) va (.row 5 (la.map zaI.cells)))) (Hb:Hid (DAt W (fun _=>True) vb (.row 5 (lb.map zaI.cells)))) (hla:la.length≤1099511627776) (_hlb:lb.length≤1099511627776):
 Calls prog 42 #[va,vb] W fun e w'=>e= .returned (.bool (eqB la lb))∧Below W.heap.size W w':=by
 obtain⟨A,c,rfl,hA⟩:=Ha.out.slice;obtain⟨A',c',rfl,hB⟩:=Hb.out.slice;have HA:=zaa hA;have HB:=zaa hB;clear hA hB Ha Hb;rw[List.length_map,List.length_map];by_cases hn:la.length=lb.length
 rotate_left
 ·have hd:((la.length:Int)==((lb.length:Nat):Int))=false:=by rw[beq_eq_false_iff_ne];omega
  have hd2:((la.length:Int) != ((lb.length:Nat):Int))=true:=by simp;omega
  have HNE:=zaa (zbm (fun e:la=lb=>hn (congrArg List.length e)));clear hn
  go_enter func42,ntmps42
  go_wp2_with fail;go_ret;exact⟨zap HNE.out.symm,Below.refl _ _⟩
 rw[←hn];have HN:=zaa hn;clear hn
 go_enter func42,ntmps42
 go_wp2_with fail
 go_loopw [5] (fun v5 wr=> ∃k:Nat,k≤la.length∧v5= .int .i64 k∧la.take k=lb.take k∧Below W.heap.size W wr) (fun v5 _=>la.length-(intOf v5).toNat)
 case atStart=>exact⟨0,by omega,rfl,rfl,Below.refl _ _⟩
 case round=>
  obtain⟨k,hk,rfl,ht,hbr⟩:=hrel;have HT:=zaa ht;have HBR:=zaa hbr;clear ht hbr;by_cases hlt:k<la.length
  rotate_left
  ·have HEQ:=zaa (zaT (zbe HT.out hlt HN.out))
   have hdl:decide ((k:Int)<((la.length:Nat):Int))=false:=by simp;omega
   go_wp2_with fail;go_ret;exact⟨zap HEQ.out.symm,HBR.out⟩
  obtain⟨x,hx⟩:=zhG hlt;obtain⟨y,hy⟩: ∃y,lb[k]? =some y:=⟨_,List.getElem?_eq_getElem (by have:=HN.out;omega)⟩;obtain⟨b,off,rfl,hb,hca⟩:=HA.out.at_ hx;obtain⟨b',off',rfl,hb',hcb⟩:=HB.out.at_ hy;have c0:wr.cell? ⟨b,off+k*5,none⟩=some (Value.string ⟨(x.module).toArray⟩):=lc HBR.out hb (hca 0 _ rfl);have d0:wr.cell? ⟨b',off'+k*5,none⟩=some (Value.string ⟨(y.module).toArray⟩):=lc HBR.out hb' (hcb 0 _ rfl);have c1:wr.cell? ⟨b,off+k*5+1,none⟩=some (Value.string ⟨(x.part).toArray⟩):=lc HBR.out hb (hca 1 _ rfl);have d1:wr.cell? ⟨b',off'+k*5+1,none⟩=some (Value.string ⟨(y.part).toArray⟩):=lc HBR.out hb' (hcb 1 _ rfl);have c2:wr.cell? ⟨b,off+k*5+2,none⟩=some (Value.int .u8 ((x.fault:Nat):Int)):=lc HBR.out hb (hca 2 _ rfl);have d2:wr.cell? ⟨b',off'+k*5+2,none⟩=some (Value.int .u8 ((y.fault:Nat):Int)):=lc HBR.out hb' (hcb 2 _ rfl);have c3:wr.cell? ⟨b,off+k*5+3,none⟩=some (Value.int .u8 ((x.level:Nat):Int)):=lc HBR.out hb (hca 3 _ rfl);have d3:wr.cell? ⟨b',off'+k*5+3,none⟩=some (Value.int .u8 ((y.level:Nat):Int)):=lc HBR.out hb' (hcb 3 _ rfl);have c4:wr.cell? ⟨b,off+k*5+4,none⟩=some (Value.int .u8 ((x.do_:Nat):Int)):=lc HBR.out hb (hca 4 _ rfl);have d4:wr.cell? ⟨b',off'+k*5+4,none⟩=some (Value.int .u8 ((y.do_:Nat):Int)):=lc HBR.out hb' (hcb 4 _ rfl);have hbw:=HBR.out.size;have hb1:b<wr.heap.size:=by omega
  have hb2:b'<wr.heap.size:=by omega
  clear hca hcb;obtain⟨p0,p1,p2,p3,p4⟩:=x;obtain⟨q0,q1,q2,q3,q4⟩:=y;dsimp only at c0 d0 c1 d1 c2 d2 c3 d3 c4 d4;have k0:=kbZ k la.length;have k1:decide (k<la.length)=true:=by simp;exact hlt
  have HX:=zaa hx;have HY:=zaa hy;clear hx hy;rcases dS p0 q0 with h|rfl
  rotate_left;rcases dS p1 q1 with h|rfl
  rotate_left;rcases dU p2 q2 with⟨h,g⟩|rfl
  rotate_left;rcases dU p3 q3 with⟨h,g⟩|rfl
  rotate_left;rcases dU p4 q4 with⟨h,g⟩|rfl
  rotate_left
  all_goals
   first
    |have HTK:=zaa (zbg HT.out HX.out HY.out)
    |have HNE:=zaa (zdY HX.out HY.out (by intro e;cases e;simp at h))
   (try generalize(⟨p0.toArray⟩:ByteArray)=xB0 at *)
   (try generalize(⟨q0.toArray⟩:ByteArray)=yB0 at *)
   (try generalize(⟨p1.toArray⟩:ByteArray)=xB1 at *)
   (try generalize(⟨q1.toArray⟩:ByteArray)=yB1 at *)
   (try generalize((p2:Nat):Int)=xZ2 at *)
   (try generalize((q2:Nat):Int)=yZ2 at *)
   (try generalize((p3:Nat):Int)=xZ3 at *)
   (try generalize((q3:Nat):Int)=yZ3 at *)
   (try generalize((p4:Nat):Int)=xZ4 at *)
   (try generalize((q4:Nat):Int)=yZ4 at *)
   go_wp2_with fail;go_quiet (fail);go_wp2_with fail
   first
    |(go_ret;exact⟨zap HNE.out.symm,below_drewN HBR.out _⟩)
    |(go_roundw;(case rel=>exact⟨k+1,by omega,by go_num,HTK.out,below_drewN HBR.out _⟩);(case measure=>simp[intOf];omega))
theorem zgT (va vb:Value) (la lb:List zf2) (W:World) (Ha:Hid (DAt W (fun _=>True) va (.row 2 (la.map zf2.cells)))) (Hb:Hid (DAt W (fun _=>True) vb (.row 2 (lb.map zf2.cells)))) (hla:la.length≤1099511627776) (_hlb:lb.length≤1099511627776):
 Calls prog 104 #[va,vb] W fun e w'=>e= .returned (.bool (eqB la lb))∧Below W.heap.size W w':=by
 obtain⟨A,c,rfl,hA⟩:=Ha.out.slice;obtain⟨A',c',rfl,hB⟩:=Hb.out.slice;have HA:=zaa hA;have HB:=zaa hB;clear hA hB Ha Hb;rw[List.length_map,List.length_map];by_cases hn:la.length=lb.length
 rotate_left
 ·have hd:((la.length:Int)==((lb.length:Nat):Int))=false:=by rw[beq_eq_false_iff_ne];omega
  have hd2:((la.length:Int) != ((lb.length:Nat):Int))=true:=by simp;omega
  have HNE:=zaa (zbm (fun e:la=lb=>hn (congrArg List.length e)));clear hn
  go_enter func104,ntmps104
  go_wp2_with fail;go_ret;exact⟨zap HNE.out.symm,Below.refl _ _⟩
 rw[←hn];have HN:=zaa hn;clear hn
 go_enter func104,ntmps104
 go_wp2_with fail
 go_loopw [5] (fun v5 wr=> ∃k:Nat,k≤la.length∧v5= .int .i64 k∧la.take k=lb.take k∧Below W.heap.size W wr) (fun v5 _=>la.length-(intOf v5).toNat)
 case atStart=>exact⟨0,by omega,rfl,rfl,Below.refl _ _⟩
 case round=>
  obtain⟨k,hk,rfl,ht,hbr⟩:=hrel;have HT:=zaa ht;have HBR:=zaa hbr;clear ht hbr;by_cases hlt:k<la.length
  rotate_left
  ·have HEQ:=zaa (zaT (zbe HT.out hlt HN.out))
   have hdl:decide ((k:Int)<((la.length:Nat):Int))=false:=by simp;omega
   go_wp2_with fail;go_ret;exact⟨zap HEQ.out.symm,HBR.out⟩
  obtain⟨x,hx⟩:=zhG hlt;obtain⟨y,hy⟩: ∃y,lb[k]? =some y:=⟨_,List.getElem?_eq_getElem (by have:=HN.out;omega)⟩;obtain⟨b,off,rfl,hb,hca⟩:=HA.out.at_ hx;obtain⟨b',off',rfl,hb',hcb⟩:=HB.out.at_ hy;have c0:wr.cell? ⟨b,off+k*2,none⟩=some (Value.string ⟨(x.unit).toArray⟩):=lc HBR.out hb (hca 0 _ rfl);have d0:wr.cell? ⟨b',off'+k*2,none⟩=some (Value.string ⟨(y.unit).toArray⟩):=lc HBR.out hb' (hcb 0 _ rfl);have c1:wr.cell? ⟨b,off+k*2+1,none⟩=some (Value.int .i64 (x.code)):=lc HBR.out hb (hca 1 _ rfl);have d1:wr.cell? ⟨b',off'+k*2+1,none⟩=some (Value.int .i64 (y.code)):=lc HBR.out hb' (hcb 1 _ rfl);have hbw:=HBR.out.size;have hb1:b<wr.heap.size:=by omega
  have hb2:b'<wr.heap.size:=by omega
  clear hca hcb;obtain⟨p0,p1⟩:=x;obtain⟨q0,q1⟩:=y;dsimp only at c0 d0 c1 d1;have k0:=kbZ k la.length;have k1:decide (k<la.length)=true:=by simp;exact hlt
  have HX:=zaa hx;have HY:=zaa hy;clear hx hy;rcases dS p0 q0 with h|rfl
  rotate_left;rcases dI p1 q1 with⟨h,g⟩|rfl
  rotate_left
  all_goals
   first
    |have HTK:=zaa (zbg HT.out HX.out HY.out)
    |have HNE:=zaa (zdY HX.out HY.out (by intro e;cases e;simp at h))
   (try generalize(⟨p0.toArray⟩:ByteArray)=xB0 at *)
   (try generalize(⟨q0.toArray⟩:ByteArray)=yB0 at *)
   go_wp2_with fail;go_quiet (fail);go_wp2_with fail
   first
    |(go_ret;exact⟨zap HNE.out.symm,below_drewN HBR.out _⟩)
    |(go_roundw;(case rel=>exact⟨k+1,by omega,by go_num,HTK.out,below_drewN HBR.out _⟩);(case measure=>simp[intOf];omega))
theorem zgm (va vb:Value) (la lb:List zgD) (W:World) (Ha:Hid (DAt W (fun _=>True) va (.row 4 (la.map zgD.cells)))) (Hb:Hid (DAt W (fun _=>True) vb (.row 4 (lb.map zgD.cells)))) (hla:la.length≤1099511627776) (_hlb:lb.length≤1099511627776):
 Calls prog 44 #[va,vb] W fun e w'=>e= .returned (.bool (eqB la lb))∧Below W.heap.size W w':=by
 obtain⟨A,c,rfl,hA⟩:=Ha.out.slice;obtain⟨A',c',rfl,hB⟩:=Hb.out.slice;have HA:=zaa hA;have HB:=zaa hB;clear hA hB Ha Hb;rw[List.length_map,List.length_map];by_cases hn:la.length=lb.length
 rotate_left
 ·have hd:((la.length:Int)==((lb.length:Nat):Int))=false:=by rw[beq_eq_false_iff_ne];omega
  have hd2:((la.length:Int) != ((lb.length:Nat):Int))=true:=by simp;omega
  have HNE:=zaa (zbm (fun e:la=lb=>hn (congrArg List.length e)));clear hn
  go_enter func44,ntmps44
  go_wp2_with fail;go_ret;exact⟨zap HNE.out.symm,Below.refl _ _⟩
 rw[←hn];have HN:=zaa hn;clear hn
 go_enter func44,ntmps44
 go_wp2_with fail
 go_loopw [5] (fun v5 wr=> ∃k:Nat,k≤la.length∧v5= .int .i64 k∧la.take k=lb.take k∧Below W.heap.size W wr) (fun v5 _=>la.length-(intOf v5).toNat)
 case atStart=>exact⟨0,by omega,rfl,rfl,Below.refl _ _⟩
 case round=>
  obtain⟨k,hk,rfl,ht,hbr⟩:=hrel;have HT:=zaa ht;have HBR:=zaa hbr;clear ht hbr;by_cases hlt:k<la.length
  rotate_left
  ·have HEQ:=zaa (zaT (zbe HT.out hlt HN.out))
   have hdl:decide ((k:Int)<((la.length:Nat):Int))=false:=by simp;omega
   go_wp2_with fail;go_ret;exact⟨zap HEQ.out.symm,HBR.out⟩
  obtain⟨x,hx⟩:=zhG hlt;obtain⟨y,hy⟩: ∃y,lb[k]? =some y:=⟨_,List.getElem?_eq_getElem (by have:=HN.out;omega)⟩;obtain⟨b,off,rfl,hb,hca⟩:=HA.out.at_ hx;obtain⟨b',off',rfl,hb',hcb⟩:=HB.out.at_ hy;have c0:wr.cell? ⟨b,off+k*4,none⟩=some (Value.string ⟨(x.a).toArray⟩):=lc HBR.out hb (hca 0 _ rfl);have d0:wr.cell? ⟨b',off'+k*4,none⟩=some (Value.string ⟨(y.a).toArray⟩):=lc HBR.out hb' (hcb 0 _ rfl);have c1:wr.cell? ⟨b,off+k*4+1,none⟩=some (Value.int .i64 (x.va)):=lc HBR.out hb (hca 1 _ rfl);have d1:wr.cell? ⟨b',off'+k*4+1,none⟩=some (Value.int .i64 (y.va)):=lc HBR.out hb' (hcb 1 _ rfl);have c2:wr.cell? ⟨b,off+k*4+2,none⟩=some (Value.string ⟨(x.b).toArray⟩):=lc HBR.out hb (hca 2 _ rfl);have d2:wr.cell? ⟨b',off'+k*4+2,none⟩=some (Value.string ⟨(y.b).toArray⟩):=lc HBR.out hb' (hcb 2 _ rfl);have c3:wr.cell? ⟨b,off+k*4+3,none⟩=some (Value.int .i64 (x.vb)):=lc HBR.out hb (hca 3 _ rfl);have d3:wr.cell? ⟨b',off'+k*4+3,none⟩=some (Value.int .i64 (y.vb)):=lc HBR.out hb' (hcb 3 _ rfl);have hbw:=HBR.out.size;have hb1:b<wr.heap.size:=by omega
  have hb2:b'<wr.heap.size:=by omega
  clear hca hcb;obtain⟨p0,p1,p2,p3⟩:=x;obtain⟨q0,q1,q2,q3⟩:=y;dsimp only at c0 d0 c1 d1 c2 d2 c3 d3;have k0:=kbZ k la.length;have k1:decide (k<la.length)=true:=by simp;exact hlt
  have HX:=zaa hx;have HY:=zaa hy;clear hx hy;rcases dS p0 q0 with h|rfl
  rotate_left;rcases dI p1 q1 with⟨h,g⟩|rfl
  rotate_left;rcases dS p2 q2 with h|rfl
  rotate_left;rcases dI p3 q3 with⟨h,g⟩|rfl
  rotate_left
  all_goals
   first
    |have HTK:=zaa (zbg HT.out HX.out HY.out)
    |have HNE:=zaa (zdY HX.out HY.out (by intro e;cases e;simp at h))
   (try generalize(⟨p0.toArray⟩:ByteArray)=xB0 at *)
   (try generalize(⟨q0.toArray⟩:ByteArray)=yB0 at *)
   (try generalize(⟨p2.toArray⟩:ByteArray)=xB2 at *)
   (try generalize(⟨q2.toArray⟩:ByteArray)=yB2 at *)
   go_wp2_with fail;go_quiet (fail);go_wp2_with fail
   first
    |(go_ret;exact⟨zap HNE.out.symm,below_drewN HBR.out _⟩)
    |(go_roundw;(case rel=>exact⟨k+1,by omega,by go_num,HTK.out,below_drewN HBR.out _⟩);(case measure=>simp[intOf];omega))
end Go.Proofs.YtlngbjphagnloaaGreatDoor
