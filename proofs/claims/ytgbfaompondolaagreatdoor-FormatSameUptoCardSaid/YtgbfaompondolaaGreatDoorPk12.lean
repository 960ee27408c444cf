/- Merged texts of the walks and of the plain laws on which the statement leans.-/
import Derived.Test.YtgbfaompondolaaGreatDoorPk1
import Derived.Test.YtgbfaompondolaaGreatDoorPk11
set_option maxHeartbeats 4000000
set_option maxRecDepth 100000
namespace Go.Proofs.YtgbfaompondolaaGreatDoor
open Go.RowKit
attribute [local go_sem] zal.cell
theorem zaw {a b:List UInt8} (h:a≠b):((⟨a.toArray⟩:ByteArray)==⟨b.toArray⟩)=false:=by
 show(a.toArray==b.toArray)=false
 simpa using h
theorem zaG {a b:List UInt8} (h:a≠b):(a==b)=false:=by simpa using h
theorem zaP {a b:Int} (h:a≠b):(a==b)=false:=by simpa using h
theorem zaK {a b:Nat} (h:a≠b):((a:Int)==(b:Int))=false:=by simpa using(by omega:(a:Int)≠b)
theorem zbu {a b:Bool} (h:a≠b):(a==b)=false:=by simpa using h
theorem zms (va vb:Value) (l m:List zck) (W:World) (ha:Hid (DAt W (fun _=>True) va (.row 2 (l.map zck.cells)))) (hb:Hid (DAt W (fun _=>True) vb (.row 2 (m.map zck.cells)))) (hn:l.length≤140737488355328) (_hm:m.length≤140737488355328):
 Calls Tryz.prog 34 #[va,vb] W fun e w'=> ∃z,e= .returned (.bool z)∧(z=true↔l=m)∧Below W.heap.size W w':=by
 obtain⟨A,c,rfl,hA⟩:=ha.out.slice
 obtain⟨B,d,rfl,hB⟩:=hb.out.slice
 have HA:=zaa hA
 have HB:=zaa hB
 clear hA hB ha hb
 rw[List.length_map]
 rw[List.length_map]
 by_cases hlen:l.length=m.length
 rotate_left
 ·have HN:=zaa hlen
  have hne1:=zaK hlen
  clear hlen
  go_enter Tryz.func34,Tryz.ntmps34
  go_wp2_with fail
  go_ret
  exact⟨false,rfl,⟨(fun h=>by cases h),fun h=>absurd (congrArg List.length h) HN.out⟩,Below.refl _ _⟩
 rw[←hlen]
 have HL:=zaa hlen
 clear hlen _hm
 go_enter Tryz.func34,Tryz.ntmps34
 go_wp2_with fail
 go_loopw [13] (fun v wr=> ∃k:Nat,k≤l.length∧v= .int .i64 k∧l.take k=m.take k∧Below W.heap.size W wr) (fun v _=>l.length-(intOf v).toNat)
 case atStart=>exact⟨0,by omega,rfl,rfl,Below.refl _ _⟩
 case round=>
  obtain⟨k,hk,rfl,ht,hbr⟩:=hrel
  have HBR:=zaa hbr
  have HT:=zaa ht
  clear hbr ht
  by_cases hlt:k<l.length
  rotate_left
  ·obtain rfl:k=l.length:=by omega
   clear hlt
   have HE:Hid (l=m):=zaa (by have h:=HT.out;rw[List.take_length,HL.out,List.take_length] at h;exact h)
   go_wp2_with fail
   go_ret
   exact⟨true,rfl,⟨fun _=>HE.out,fun _=>rfl⟩,HBR.out⟩
  have hlt2:k<m.length:=by have:=HL.out;omega
  obtain⟨x,hx⟩:=za9 hlt
  obtain⟨y,hy⟩:=za9 hlt2
  obtain⟨bA,oA,rfl,hbA,hcaA⟩:=HA.out.at_ hx
  obtain⟨uA0,a0,gA0⟩:=hcaA 0 _ rfl
  obtain rfl:=gA0.leaf_eq
  obtain⟨uA1,a1,gA1⟩:=hcaA 1 _ rfl
  obtain rfl:=gA1.leaf_eq
  clear hcaA
  have a0:=zbH HBR.out hbA a0
  have a1:=zat HBR.out hbA a1
  simp only[zaF] at a0 a1
  obtain⟨bB,oB,rfl,hbB,hcaB⟩:=HB.out.at_ hy
  obtain⟨uB0,b0,gB0⟩:=hcaB 0 _ rfl
  obtain rfl:=gB0.leaf_eq
  obtain⟨uB1,b1,gB1⟩:=hcaB 1 _ rfl
  obtain rfl:=gB1.leaf_eq
  clear hcaB
  have b0:=zbH HBR.out hbB b0
  have b1:=zat HBR.out hbB b1
  simp only[zaF] at b0 b1
  have k0:=kbZ k l.length
  have HX:=zaa hx
  have HY:=zaa hy
  clear hx hy hlt2
  obtain⟨x_unit,x_code⟩:=x
  obtain⟨y_unit,y_code⟩:=y
  dsimp only at a0 b0 a1 b1
  by_cases e_:x_unit=y_unit
  rotate_left
  ·as_aux_lemma=>
    have HNE:=zaa e_
    have hne1:=zaw e_
    have hne2:=zaG e_
    clear e_
    go_wp2_with fail
    go_quiet (fail)
    go_wp2_with fail
    go_ret
    exact⟨false,rfl,⟨(fun h=>by cases h),fun h_=>absurd (by have h:=HX.out;rw[h_,HY.out] at h;exact(congrArg (fun z_:zck=>z_.unit) (Option.some.inj h)).symm) HNE.out⟩,zaq HBR.out _⟩
  subst e_
  by_cases e_:x_code=y_code
  rotate_left
  ·as_aux_lemma=>
    have HNE:=zaa e_
    have hne1:=zaP e_
    go_wp2_with fail
    go_quiet (fail)
    go_wp2_with fail
    go_ret
    exact⟨false,rfl,⟨(fun h=>by cases h),fun h_=>absurd (by have h:=HX.out;rw[h_,HY.out] at h;exact(congrArg (fun z_:zck=>z_.code) (Option.some.inj h)).symm) HNE.out⟩,zaq HBR.out _⟩
  subst e_
  go_wp2_with fail
  go_quiet (fail)
  go_wp2_with fail
  go_roundw
  case rel=>exact⟨k+1,by omega,by go_num,by rw[List.take_add_one,List.take_add_one,HX.out,HY.out,HT.out],zaq HBR.out _⟩
  case measure=>simp[intOf];omega
theorem zlO (va vb:Value) (l m:List (List UInt8)) (W:World) (ha:Hid (DAt W (fun _=>True) va (.row 1 (zao l)))) (hb:Hid (DAt W (fun _=>True) vb (.row 1 (zao m)))) (hn:l.length≤140737488355328) (_hm:m.length≤140737488355328):
 Calls Tryz.prog 35 #[va,vb] W fun e w'=> ∃z,e= .returned (.bool z)∧(z=true↔l=m)∧Below W.heap.size W w':=by
 obtain⟨A,c,rfl,hA⟩:=ha.out.slice
 obtain⟨B,d,rfl,hB⟩:=hb.out.slice
 have HA:=zaa hA
 have HB:=zaa hB
 clear hA hB ha hb
 rw[show(zao l).length=l.length by simp[zao]]
 rw[show(zao m).length=m.length by simp[zao]]
 by_cases hlen:l.length=m.length
 rotate_left
 ·have HN:=zaa hlen
  have hne1:=zaK hlen
  clear hlen
  go_enter Tryz.func35,Tryz.ntmps35
  go_wp2_with fail
  go_ret
  exact⟨false,rfl,⟨(fun h=>by cases h),fun h=>absurd (congrArg List.length h) HN.out⟩,Below.refl _ _⟩
 rw[←hlen]
 have HL:=zaa hlen
 clear hlen _hm
 go_enter Tryz.func35,Tryz.ntmps35
 go_wp2_with fail
 go_loopw [13] (fun v wr=> ∃k:Nat,k≤l.length∧v= .int .i64 k∧l.take k=m.take k∧Below W.heap.size W wr) (fun v _=>l.length-(intOf v).toNat)
 case atStart=>exact⟨0,by omega,rfl,rfl,Below.refl _ _⟩
 case round=>
  obtain⟨k,hk,rfl,ht,hbr⟩:=hrel
  have HBR:=zaa hbr
  have HT:=zaa ht
  clear hbr ht
  by_cases hlt:k<l.length
  rotate_left
  ·obtain rfl:k=l.length:=by omega
   clear hlt
   have HE:Hid (l=m):=zaa (by have h:=HT.out;rw[List.take_length,HL.out,List.take_length] at h;exact h)
   go_wp2_with fail
   go_ret
   exact⟨true,rfl,⟨fun _=>HE.out,fun _=>rfl⟩,HBR.out⟩
  have hlt2:k<m.length:=by have:=HL.out;omega
  obtain⟨x,hx⟩:=za9 hlt
  obtain⟨y,hy⟩:=za9 hlt2
  obtain⟨bA,oA,rfl,hbA,hcaA⟩:=HA.out.at_ (cells:=fun s:List UInt8=>[lS s]) hx
  obtain⟨uA0,a0,gA0⟩:=hcaA 0 _ rfl
  obtain rfl:=gA0.leaf_eq
  clear hcaA
  rw[Nat.mul_one,Nat.add_zero] at a0
  have a0:=zan HBR.out hbA (oA+k) a0
  simp only[zaF] at a0
  obtain⟨bB,oB,rfl,hbB,hcaB⟩:=HB.out.at_ (cells:=fun s:List UInt8=>[lS s]) hy
  obtain⟨uB0,b0,gB0⟩:=hcaB 0 _ rfl
  obtain rfl:=gB0.leaf_eq
  clear hcaB
  rw[Nat.mul_one,Nat.add_zero] at b0
  have b0:=zan HBR.out hbB (oB+k) b0
  simp only[zaF] at b0
  have k0:=kbZ k l.length
  have HX:=zaa hx
  have HY:=zaa hy
  clear hx hy hlt2
  by_cases e_:x=y
  rotate_left
  ·as_aux_lemma=>
    have HNE:=zaa e_
    have hne1:=zaw e_
    have hne2:=zaG e_
    clear e_
    go_wp2_with fail
    go_quiet (fail)
    go_wp2_with fail
    go_ret
    exact⟨false,rfl,⟨(fun h=>by cases h),fun h_=>absurd (by have h:=HX.out;rw[h_,HY.out] at h;exact(Option.some.inj h).symm) HNE.out⟩,zaq HBR.out _⟩
  subst e_
  go_wp2_with fail
  go_quiet (fail)
  go_wp2_with fail
  go_roundw
  case rel=>exact⟨k+1,by omega,by go_num,by rw[List.take_add_one,List.take_add_one,HX.out,HY.out,HT.out],zaq HBR.out _⟩
  case measure=>simp[intOf];omega
theorem zlQ (va vb:Value) (l m:List zbU) (W:World) (ha:Hid (DAt W (fun _=>True) va (.row 4 (l.map zbU.cells)))) (hb:Hid (DAt W (fun _=>True) vb (.row 4 (m.map zbU.cells)))) (hn:l.length≤140737488355328) (_hm:m.length≤140737488355328):
 Calls Tryz.prog 37 #[va,vb] W fun e w'=> ∃z,e= .returned (.bool z)∧(z=true↔l=m)∧Below W.heap.size W w':=by
 obtain⟨A,c,rfl,hA⟩:=ha.out.slice
 obtain⟨B,d,rfl,hB⟩:=hb.out.slice
 have HA:=zaa hA
 have HB:=zaa hB
 clear hA hB ha hb
 rw[List.length_map]
 rw[List.length_map]
 by_cases hlen:l.length=m.length
 rotate_left
 ·have HN:=zaa hlen
  have hne1:=zaK hlen
  clear hlen
  go_enter Tryz.func37,Tryz.ntmps37
  go_wp2_with fail
  go_ret
  exact⟨false,rfl,⟨(fun h=>by cases h),fun h=>absurd (congrArg List.length h) HN.out⟩,Below.refl _ _⟩
 rw[←hlen]
 have HL:=zaa hlen
 clear hlen _hm
 go_enter Tryz.func37,Tryz.ntmps37
 go_wp2_with fail
 go_loopw [13] (fun v wr=> ∃k:Nat,k≤l.length∧v= .int .i64 k∧l.take k=m.take k∧Below W.heap.size W wr) (fun v _=>l.length-(intOf v).toNat)
 case atStart=>exact⟨0,by omega,rfl,rfl,Below.refl _ _⟩
 case round=>
  obtain⟨k,hk,rfl,ht,hbr⟩:=hrel
  have HBR:=zaa hbr
  have HT:=zaa ht
  clear hbr ht
  by_cases hlt:k<l.length
  rotate_left
  ·obtain rfl:k=l.length:=by omega
   clear hlt
   have HE:Hid (l=m):=zaa (by have h:=HT.out;rw[List.take_length,HL.out,List.take_length] at h;exact h)
   go_wp2_with fail
   go_ret
   exact⟨true,rfl,⟨fun _=>HE.out,fun _=>rfl⟩,HBR.out⟩
  have hlt2:k<m.length:=by have:=HL.out;omega
  obtain⟨x,hx⟩:=za9 hlt
  obtain⟨y,hy⟩:=za9 hlt2
  obtain⟨bA,oA,rfl,hbA,hcaA⟩:=HA.out.at_ hx
  obtain⟨uA0,a0,gA0⟩:=hcaA 0 _ rfl
  obtain rfl:=gA0.leaf_eq
  obtain⟨uA1,a1,gA1⟩:=hcaA 1 _ rfl
  obtain rfl:=gA1.leaf_eq
  obtain⟨uA2,a2,gA2⟩:=hcaA 2 _ rfl
  obtain rfl:=gA2.leaf_eq
  obtain⟨uA3,a3,gA3⟩:=hcaA 3 _ rfl
  obtain rfl:=gA3.leaf_eq
  clear hcaA
  have a0:=zbH HBR.out hbA a0
  have a1:=zat HBR.out hbA a1
  have a2:=zat HBR.out hbA a2
  have a3:=zat HBR.out hbA a3
  obtain⟨bB,oB,rfl,hbB,hcaB⟩:=HB.out.at_ hy
  obtain⟨uB0,b0,gB0⟩:=hcaB 0 _ rfl
  obtain rfl:=gB0.leaf_eq
  obtain⟨uB1,b1,gB1⟩:=hcaB 1 _ rfl
  obtain rfl:=gB1.leaf_eq
  obtain⟨uB2,b2,gB2⟩:=hcaB 2 _ rfl
  obtain rfl:=gB2.leaf_eq
  obtain⟨uB3,b3,gB3⟩:=hcaB 3 _ rfl
  obtain rfl:=gB3.leaf_eq
  clear hcaB
  have b0:=zbH HBR.out hbB b0
  have b1:=zat HBR.out hbB b1
  have b2:=zat HBR.out hbB b2
  have b3:=zat HBR.out hbB b3
  have k0:=kbZ k l.length
  have HX:=zaa hx
  have HY:=zaa hy
  clear hx hy hlt2
  obtain⟨x_op,x_a,x_b,x_c⟩:=x
  obtain⟨y_op,y_a,y_b,y_c⟩:=y
  dsimp only at a0 b0 a1 b1 a2 b2 a3 b3
  by_cases e_:x_op=y_op
  rotate_left
  ·as_aux_lemma=>
    have HNE:=zaa e_
    have hne1:=zaK e_
    clear e_
    go_wp2_with fail
    go_quiet (fail)
    go_wp2_with fail
    go_ret
    exact⟨false,rfl,⟨(fun h=>by cases h),fun h_=>absurd (by have h:=HX.out;rw[h_,HY.out] at h;exact(congrArg (fun z_:zbU=>z_.op) (Option.some.inj h)).symm) HNE.out⟩,zaq HBR.out _⟩
  subst e_
  by_cases e_:x_a=y_a
  rotate_left
  ·as_aux_lemma=>
    have HNE:=zaa e_
    have hne1:=zaP e_
    go_wp2_with fail
    go_quiet (fail)
    go_wp2_with fail
    go_ret
    exact⟨false,rfl,⟨(fun h=>by cases h),fun h_=>absurd (by have h:=HX.out;rw[h_,HY.out] at h;exact(congrArg (fun z_:zbU=>z_.a) (Option.some.inj h)).symm) HNE.out⟩,zaq HBR.out _⟩
  subst e_
  by_cases e_:x_b=y_b
  rotate_left
  ·as_aux_lemma=>
    have HNE:=zaa e_
    have hne1:=zaP e_
    go_wp2_with fail
    go_quiet (fail)
    go_wp2_with fail
    go_ret
    exact⟨false,rfl,⟨(fun h=>by cases h),fun h_=>absurd (by have h:=HX.out;rw[h_,HY.out] at h;exact(congrArg (fun z_:zbU=>z_.b) (Option.some.inj h)).symm) HNE.out⟩,zaq HBR.out _⟩
  subst e_
  by_cases e_:x_c=y_c
  rotate_left
  ·as_aux_lemma=>
    have HNE:=zaa e_
    have hne1:=zaP e_
    go_wp2_with fail
    go_quiet (fail)
    go_wp2_with fail
    go_ret
    exact⟨false,rfl,⟨(fun h=>by cases h),fun h_=>absurd (by have h:=HX.out;rw[h_,HY.out] at h;exact(congrArg (fun z_:zbU=>z_.c) (Option.some.inj h)).symm) HNE.out⟩,zaq HBR.out _⟩
  subst e_
  go_wp2_with fail
  go_quiet (fail)
  go_wp2_with fail
  go_roundw
  case rel=>exact⟨k+1,by omega,by go_num,by rw[List.take_add_one,List.take_add_one,HX.out,HY.out,HT.out],zaq HBR.out _⟩
  case measure=>simp[intOf];omega
theorem zjq (va vb:Value) (l m:List Int) (W:World) (ha:Hid (DAt W (fun _=>True) va (.row 1 (zah l)))) (hb:Hid (DAt W (fun _=>True) vb (.row 1 (zah m)))) (hn:l.length≤140737488355328) (_hm:m.length≤140737488355328):
 Calls Tryz.prog 39 #[va,vb] W fun e w'=> ∃z,e= .returned (.bool z)∧(z=true↔l=m)∧Below W.heap.size W w':=by
 obtain⟨A,c,rfl,hA⟩:=ha.out.slice
 obtain⟨B,d,rfl,hB⟩:=hb.out.slice
 have HA:=zaa hA
 have HB:=zaa hB
 clear hA hB ha hb
 rw[show(zah l).length=l.length by simp[zah]]
 rw[show(zah m).length=m.length by simp[zah]]
 by_cases hlen:l.length=m.length
 rotate_left
 ·have HN:=zaa hlen
  have hne1:=zaK hlen
  clear hlen
  go_enter Tryz.func39,Tryz.ntmps39
  go_wp2_with fail
  go_ret
  exact⟨false,rfl,⟨(fun h=>by cases h),fun h=>absurd (congrArg List.length h) HN.out⟩,Below.refl _ _⟩
 rw[←hlen]
 have HL:=zaa hlen
 clear hlen _hm
 go_enter Tryz.func39,Tryz.ntmps39
 go_wp2_with fail
 go_loopw [13] (fun v wr=> ∃k:Nat,k≤l.length∧v= .int .i64 k∧l.take k=m.take k∧Below W.heap.size W wr) (fun v _=>l.length-(intOf v).toNat)
 case atStart=>exact⟨0,by omega,rfl,rfl,Below.refl _ _⟩
 case round=>
  obtain⟨k,hk,rfl,ht,hbr⟩:=hrel
  have HBR:=zaa hbr
  have HT:=zaa ht
  clear hbr ht
  by_cases hlt:k<l.length
  rotate_left
  ·obtain rfl:k=l.length:=by omega
   clear hlt
   have HE:Hid (l=m):=zaa (by have h:=HT.out;rw[List.take_length,HL.out,List.take_length] at h;exact h)
   go_wp2_with fail
   go_ret
   exact⟨true,rfl,⟨fun _=>HE.out,fun _=>rfl⟩,HBR.out⟩
  have hlt2:k<m.length:=by have:=HL.out;omega
  obtain⟨x,hx⟩:=za9 hlt
  obtain⟨y,hy⟩:=za9 hlt2
  obtain⟨bA,oA,rfl,hbA,hcaA⟩:=HA.out.at_ (cells:=fun n:Int=>[lI n]) hx
  obtain⟨uA0,a0,gA0⟩:=hcaA 0 _ rfl
  obtain rfl:=gA0.leaf_eq
  clear hcaA
  rw[Nat.mul_one,Nat.add_zero] at a0
  have a0:=zan HBR.out hbA (oA+k) a0
  obtain⟨bB,oB,rfl,hbB,hcaB⟩:=HB.out.at_ (cells:=fun n:Int=>[lI n]) hy
  obtain⟨uB0,b0,gB0⟩:=hcaB 0 _ rfl
  obtain rfl:=gB0.leaf_eq
  clear hcaB
  rw[Nat.mul_one,Nat.add_zero] at b0
  have b0:=zan HBR.out hbB (oB+k) b0
  have k0:=kbZ k l.length
  have HX:=zaa hx
  have HY:=zaa hy
  clear hx hy hlt2
  by_cases e_:x=y
  rotate_left
  ·as_aux_lemma=>
    have HNE:=zaa e_
    have hne1:=zaP e_
    go_wp2_with fail
    go_quiet (fail)
    go_wp2_with fail
    go_ret
    exact⟨false,rfl,⟨(fun h=>by cases h),fun h_=>absurd (by have h:=HX.out;rw[h_,HY.out] at h;exact(Option.some.inj h).symm) HNE.out⟩,zaq HBR.out _⟩
  subst e_
  go_wp2_with fail
  go_quiet (fail)
  go_wp2_with fail
  go_roundw
  case rel=>exact⟨k+1,by omega,by go_num,by rw[List.take_add_one,List.take_add_one,HX.out,HY.out,HT.out],zaq HBR.out _⟩
  case measure=>simp[intOf];omega
theorem zkR (va vb:Value) (l m:List zaT) (W:World) (ha:Hid (DAt W (fun _=>True) va (.row 6 (l.map zaT.cells)))) (hb:Hid (DAt W (fun _=>True) vb (.row 6 (m.map zaT.cells)))) (hn:l.length≤140737488355328) (_hm:m.length≤140737488355328):
 Calls Tryz.prog 40 #[va,vb] W fun e w'=> ∃z,e= .returned (.bool z)∧(z=true↔l=m)∧Below W.heap.size W w':=by
 obtain⟨A,c,rfl,hA⟩:=ha.out.slice
 obtain⟨B,d,rfl,hB⟩:=hb.out.slice
 have HA:=zaa hA
 have HB:=zaa hB
 clear hA hB ha hb
 rw[List.length_map]
 rw[List.length_map]
 by_cases hlen:l.length=m.length
 rotate_left
 ·have HN:=zaa hlen
  have hne1:=zaK hlen
  clear hlen
  go_enter Tryz.func40,Tryz.ntmps40
  go_wp2_with fail
  go_ret
  exact⟨false,rfl,⟨(fun h=>by cases h),fun h=>absurd (congrArg List.length h) HN.out⟩,Below.refl _ _⟩
 rw[←hlen]
 have HL:=zaa hlen
 clear hlen _hm
 go_enter Tryz.func40,Tryz.ntmps40
 go_wp2_with fail
 go_loopw [13] (fun v wr=> ∃k:Nat,k≤l.length∧v= .int .i64 k∧l.take k=m.take k∧Below W.heap.size W wr) (fun v _=>l.length-(intOf v).toNat)
 case atStart=>exact⟨0,by omega,rfl,rfl,Below.refl _ _⟩
 case round=>
  obtain⟨k,hk,rfl,ht,hbr⟩:=hrel
  have HBR:=zaa hbr
  have HT:=zaa ht
  clear hbr ht
  by_cases hlt:k<l.length
  rotate_left
  ·obtain rfl:k=l.length:=by omega
   clear hlt
   have HE:Hid (l=m):=zaa (by have h:=HT.out;rw[List.take_length,HL.out,List.take_length] at h;exact h)
   go_wp2_with fail
   go_ret
   exact⟨true,rfl,⟨fun _=>HE.out,fun _=>rfl⟩,HBR.out⟩
  have hlt2:k<m.length:=by have:=HL.out;omega
  obtain⟨x,hx⟩:=za9 hlt
  obtain⟨y,hy⟩:=za9 hlt2
  obtain⟨bA,oA,rfl,hbA,hcaA⟩:=HA.out.at_ hx
  obtain⟨uA0,a0,gA0⟩:=hcaA 0 _ rfl
  obtain rfl:=gA0.leaf_eq
  obtain⟨uA1,a1,gA1⟩:=hcaA 1 _ rfl
  obtain rfl:=gA1.leaf_eq
  obtain⟨uA2,a2,gA2⟩:=hcaA 2 _ rfl
  obtain rfl:=gA2.leaf_eq
  obtain⟨uA3,a3,gA3⟩:=hcaA 3 _ rfl
  obtain rfl:=gA3.leaf_eq
  obtain⟨uA4,a4,gA4⟩:=hcaA 4 _ rfl
  obtain rfl:=gA4.leaf_eq
  obtain⟨uA5,a5,gA5⟩:=hcaA 5 _ rfl
  obtain rfl:=gA5.leaf_eq
  clear hcaA
  have a0:=zbH HBR.out hbA a0
  have a1:=zat HBR.out hbA a1
  have a2:=zat HBR.out hbA a2
  have a3:=zat HBR.out hbA a3
  have a4:=zat HBR.out hbA a4
  have a5:=zat HBR.out hbA a5
  simp only[zaF] at a0 a1 a2 a3 a4 a5
  obtain⟨bB,oB,rfl,hbB,hcaB⟩:=HB.out.at_ hy
  obtain⟨uB0,b0,gB0⟩:=hcaB 0 _ rfl
  obtain rfl:=gB0.leaf_eq
  obtain⟨uB1,b1,gB1⟩:=hcaB 1 _ rfl
  obtain rfl:=gB1.leaf_eq
  obtain⟨uB2,b2,gB2⟩:=hcaB 2 _ rfl
  obtain rfl:=gB2.leaf_eq
  obtain⟨uB3,b3,gB3⟩:=hcaB 3 _ rfl
  obtain rfl:=gB3.leaf_eq
  obtain⟨uB4,b4,gB4⟩:=hcaB 4 _ rfl
  obtain rfl:=gB4.leaf_eq
  obtain⟨uB5,b5,gB5⟩:=hcaB 5 _ rfl
  obtain rfl:=gB5.leaf_eq
  clear hcaB
  have b0:=zbH HBR.out hbB b0
  have b1:=zat HBR.out hbB b1
  have b2:=zat HBR.out hbB b2
  have b3:=zat HBR.out hbB b3
  have b4:=zat HBR.out hbB b4
  have b5:=zat HBR.out hbB b5
  simp only[zaF] at b0 b1 b2 b3 b4 b5
  have k0:=kbZ k l.length
  have HX:=zaa hx
  have HY:=zaa hy
  clear hx hy hlt2
  obtain⟨x_name,x_kind,x_out,x_size,x_depth,x_refresh⟩:=x
  obtain⟨y_name,y_kind,y_out,y_size,y_depth,y_refresh⟩:=y
  dsimp only at a0 b0 a1 b1 a2 b2 a3 b3 a4 b4 a5 b5
  by_cases e_:x_name=y_name
  rotate_left
  ·as_aux_lemma=>
    have HNE:=zaa e_
    have hne1:=zaw e_
    have hne2:=zaG e_
    clear e_
    go_wp2_with fail
    go_quiet (fail)
    go_wp2_with fail
    go_ret
    exact⟨false,rfl,⟨(fun h=>by cases h),fun h_=>absurd (by have h:=HX.out;rw[h_,HY.out] at h;exact(congrArg (fun z_:zaT=>z_.name) (Option.some.inj h)).symm) HNE.out⟩,zaq HBR.out _⟩
  subst e_
  by_cases e_:x_kind=y_kind
  rotate_left
  ·as_aux_lemma=>
    have HNE:=zaa e_
    have hne1:=zaK e_
    clear e_
    go_wp2_with fail
    go_quiet (fail)
    go_wp2_with fail
    go_ret
    exact⟨false,rfl,⟨(fun h=>by cases h),fun h_=>absurd (by have h:=HX.out;rw[h_,HY.out] at h;exact(congrArg (fun z_:zaT=>z_.kind) (Option.some.inj h)).symm) HNE.out⟩,zaq HBR.out _⟩
  subst e_
  by_cases e_:x_out=y_out
  rotate_left
  ·as_aux_lemma=>
    have HNE:=zaa e_
    have hne1:=zbu e_
    clear e_
    go_wp2_with fail
    go_quiet (fail)
    go_wp2_with fail
    go_ret
    exact⟨false,rfl,⟨(fun h=>by cases h),fun h_=>absurd (by have h:=HX.out;rw[h_,HY.out] at h;exact(congrArg (fun z_:zaT=>z_.out) (Option.some.inj h)).symm) HNE.out⟩,zaq HBR.out _⟩
  subst e_
  by_cases e_:x_size=y_size
  rotate_left
  ·as_aux_lemma=>
    have HNE:=zaa e_
    have hne1:=zaP e_
    go_wp2_with fail
    go_quiet (fail)
    go_wp2_with fail
    go_ret
    exact⟨false,rfl,⟨(fun h=>by cases h),fun h_=>absurd (by have h:=HX.out;rw[h_,HY.out] at h;exact(congrArg (fun z_:zaT=>z_.size) (Option.some.inj h)).symm) HNE.out⟩,zaq HBR.out _⟩
  subst e_
  by_cases e_:x_depth=y_depth
  rotate_left
  ·as_aux_lemma=>
    have HNE:=zaa e_
    have hne1:=zaP e_
    go_wp2_with fail
    go_quiet (fail)
    go_wp2_with fail
    go_ret
    exact⟨false,rfl,⟨(fun h=>by cases h),fun h_=>absurd (by have h:=HX.out;rw[h_,HY.out] at h;exact(congrArg (fun z_:zaT=>z_.depth) (Option.some.inj h)).symm) HNE.out⟩,zaq HBR.out _⟩
  subst e_
  by_cases e_:x_refresh=y_refresh
  rotate_left
  ·as_aux_lemma=>
    have HNE:=zaa e_
    have hne1:=zaP e_
    go_wp2_with fail
    go_quiet (fail)
    go_wp2_with fail
    go_ret
    exact⟨false,rfl,⟨(fun h=>by cases h),fun h_=>absurd (by have h:=HX.out;rw[h_,HY.out] at h;exact(congrArg (fun z_:zaT=>z_.refresh) (Option.some.inj h)).symm) HNE.out⟩,zaq HBR.out _⟩
  subst e_
  go_wp2_with fail
  go_quiet (fail)
  go_wp2_with fail
  go_roundw
  case rel=>exact⟨k+1,by omega,by go_num,by rw[List.take_add_one,List.take_add_one,HX.out,HY.out,HT.out],zaq HBR.out _⟩
  case measure=>simp[intOf];omega
theorem zjK (va vb:Value) (l m:List zb2) (W:World) (ha:Hid (DAt W (fun _=>True) va (.row 3 (l.map zb2.cells)))) (hb:Hid (DAt W (fun _=>True) vb (.row 3 (m.map zb2.cells)))) (hn:l.length≤140737488355328) (_hm:m.length≤140737488355328):
 Calls Tryz.prog 45 #[va,vb] W fun e w'=> ∃z,e= .returned (.bool z)∧(z=true↔l=m)∧Below W.heap.size W w':=by
 obtain⟨A,c,rfl,hA⟩:=ha.out.slice
 obtain⟨B,d,rfl,hB⟩:=hb.out.slice
 have HA:=zaa hA
 have HB:=zaa hB
 clear hA hB ha hb
 rw[List.length_map]
 rw[List.length_map]
 by_cases hlen:l.length=m.length
 rotate_left
 ·have HN:=zaa hlen
  have hne1:=zaK hlen
  clear hlen
  go_enter Tryz.func45,Tryz.ntmps45
  go_wp2_with fail
  go_ret
  exact⟨false,rfl,⟨(fun h=>by cases h),fun h=>absurd (congrArg List.length h) HN.out⟩,Below.refl _ _⟩
 rw[←hlen]
 have HL:=zaa hlen
 clear hlen _hm
 go_enter Tryz.func45,Tryz.ntmps45
 go_wp2_with fail
 go_loopw [13] (fun v wr=> ∃k:Nat,k≤l.length∧v= .int .i64 k∧l.take k=m.take k∧Below W.heap.size W wr) (fun v _=>l.length-(intOf v).toNat)
 case atStart=>exact⟨0,by omega,rfl,rfl,Below.refl _ _⟩
 case round=>
  obtain⟨k,hk,rfl,ht,hbr⟩:=hrel
  have HBR:=zaa hbr
  have HT:=zaa ht
  clear hbr ht
  by_cases hlt:k<l.length
  rotate_left
  ·obtain rfl:k=l.length:=by omega
   clear hlt
   have HE:Hid (l=m):=zaa (by have h:=HT.out;rw[List.take_length,HL.out,List.take_length] at h;exact h)
   go_wp2_with fail
   go_ret
   exact⟨true,rfl,⟨fun _=>HE.out,fun _=>rfl⟩,HBR.out⟩
  have hlt2:k<m.length:=by have:=HL.out;omega
  obtain⟨x,hx⟩:=za9 hlt
  obtain⟨y,hy⟩:=za9 hlt2
  obtain⟨bA,oA,rfl,hbA,hcaA⟩:=HA.out.at_ hx
  obtain⟨uA0,a0,gA0⟩:=hcaA 0 _ rfl
  obtain rfl:=gA0.leaf_eq
  obtain⟨uA1,a1,gA1⟩:=hcaA 1 _ rfl
  obtain rfl:=gA1.leaf_eq
  obtain⟨uA2,a2,gA2⟩:=hcaA 2 _ rfl
  obtain rfl:=gA2.leaf_eq
  clear hcaA
  have a0:=zbH HBR.out hbA a0
  have a1:=zat HBR.out hbA a1
  have a2:=zat HBR.out hbA a2
  simp only[zaF] at a0 a1 a2
  obtain⟨bB,oB,rfl,hbB,hcaB⟩:=HB.out.at_ hy
  obtain⟨uB0,b0,gB0⟩:=hcaB 0 _ rfl
  obtain rfl:=gB0.leaf_eq
  obtain⟨uB1,b1,gB1⟩:=hcaB 1 _ rfl
  obtain rfl:=gB1.leaf_eq
  obtain⟨uB2,b2,gB2⟩:=hcaB 2 _ rfl
  obtain rfl:=gB2.leaf_eq
  clear hcaB
  have b0:=zbH HBR.out hbB b0
  have b1:=zat HBR.out hbB b1
  have b2:=zat HBR.out hbB b2
  simp only[zaF] at b0 b1 b2
  have k0:=kbZ k l.length
  have HX:=zaa hx
  have HY:=zaa hy
  clear hx hy hlt2
  obtain⟨x_m,x_p,x_o⟩:=x
  obtain⟨y_m,y_p,y_o⟩:=y
  dsimp only at a0 b0 a1 b1 a2 b2
  by_cases e_:x_m=y_m
  rotate_left
  ·as_aux_lemma=>
    have HNE:=zaa e_
    have hne1:=zaw e_
    have hne2:=zaG e_
    clear e_
    go_wp2_with fail
    go_quiet (fail)
    go_wp2_with fail
    go_ret
    exact⟨false,rfl,⟨(fun h=>by cases h),fun h_=>absurd (by have h:=HX.out;rw[h_,HY.out] at h;exact(congrArg (fun z_:zb2=>z_.m) (Option.some.inj h)).symm) HNE.out⟩,zaq HBR.out _⟩
  subst e_
  by_cases e_:x_p=y_p
  rotate_left
  ·as_aux_lemma=>
    have HNE:=zaa e_
    have hne1:=zaw e_
    have hne2:=zaG e_
    clear e_
    go_wp2_with fail
    go_quiet (fail)
    go_wp2_with fail
    go_ret
    exact⟨false,rfl,⟨(fun h=>by cases h),fun h_=>absurd (by have h:=HX.out;rw[h_,HY.out] at h;exact(congrArg (fun z_:zb2=>z_.p) (Option.some.inj h)).symm) HNE.out⟩,zaq HBR.out _⟩
  subst e_
  by_cases e_:x_o=y_o
  rotate_left
  ·as_aux_lemma=>
    have HNE:=zaa e_
    have hne1:=zaw e_
    have hne2:=zaG e_
    clear e_
    go_wp2_with fail
    go_quiet (fail)
    go_wp2_with fail
    go_ret
    exact⟨false,rfl,⟨(fun h=>by cases h),fun h_=>absurd (by have h:=HX.out;rw[h_,HY.out] at h;exact(congrArg (fun z_:zb2=>z_.o) (Option.some.inj h)).symm) HNE.out⟩,zaq HBR.out _⟩
  subst e_
  go_wp2_with fail
  go_quiet (fail)
  go_wp2_with fail
  go_roundw
  case rel=>exact⟨k+1,by omega,by go_num,by rw[List.take_add_one,List.take_add_one,HX.out,HY.out,HT.out],zaq HBR.out _⟩
  case measure=>simp[intOf];omega
theorem zoc (va vb:Value) (l m:List SwD) (W:World) (ha:Hid (DAt W (fun _=>True) va (.row 4 (l.map SwD.cells)))) (hb:Hid (DAt W (fun _=>True) vb (.row 4 (m.map SwD.cells)))) (hn:l.length≤140737488355328) (_hm:m.length≤140737488355328):
 Calls Tryz.prog 49 #[va,vb] W fun e w'=> ∃z,e= .returned (.bool z)∧(z=true↔l=m)∧Below W.heap.size W w':=by
 obtain⟨A,c,rfl,hA⟩:=ha.out.slice
 obtain⟨B,d,rfl,hB⟩:=hb.out.slice
 have HA:=zaa hA
 have HB:=zaa hB
 clear hA hB ha hb
 rw[List.length_map]
 rw[List.length_map]
 by_cases hlen:l.length=m.length
 rotate_left
 ·have HN:=zaa hlen
  have hne1:=zaK hlen
  clear hlen
  go_enter Tryz.func49,Tryz.ntmps49
  go_wp2_with fail
  go_ret
  exact⟨false,rfl,⟨(fun h=>by cases h),fun h=>absurd (congrArg List.length h) HN.out⟩,Below.refl _ _⟩
 rw[←hlen]
 have HL:=zaa hlen
 clear hlen _hm
 go_enter Tryz.func49,Tryz.ntmps49
 go_wp2_with fail
 go_loopw [13] (fun v wr=> ∃k:Nat,k≤l.length∧v= .int .i64 k∧l.take k=m.take k∧Below W.heap.size W wr) (fun v _=>l.length-(intOf v).toNat)
 case atStart=>exact⟨0,by omega,rfl,rfl,Below.refl _ _⟩
 case round=>
  obtain⟨k,hk,rfl,ht,hbr⟩:=hrel
  have HBR:=zaa hbr
  have HT:=zaa ht
  clear hbr ht
  by_cases hlt:k<l.length
  rotate_left
  ·obtain rfl:k=l.length:=by omega
   clear hlt
   have HE:Hid (l=m):=zaa (by have h:=HT.out;rw[List.take_length,HL.out,List.take_length] at h;exact h)
   go_wp2_with fail
   go_ret
   exact⟨true,rfl,⟨fun _=>HE.out,fun _=>rfl⟩,HBR.out⟩
  have hlt2:k<m.length:=by have:=HL.out;omega
  obtain⟨x,hx⟩:=za9 hlt
  obtain⟨y,hy⟩:=za9 hlt2
  obtain⟨bA,oA,rfl,hbA,hcaA⟩:=HA.out.at_ hx
  obtain⟨uA0,a0,gA0⟩:=hcaA 0 _ rfl
  obtain rfl:=gA0.leaf_eq
  obtain⟨uA1,a1,gA1⟩:=hcaA 1 _ rfl
  obtain rfl:=gA1.leaf_eq
  obtain⟨uA2,a2,gA2⟩:=hcaA 2 _ rfl
  obtain rfl:=gA2.leaf_eq
  obtain⟨uA3,a3,gA3⟩:=hcaA 3 _ rfl
  obtain rfl:=gA3.leaf_eq
  clear hcaA
  have a0:=zbH HBR.out hbA a0
  have a1:=zat HBR.out hbA a1
  have a2:=zat HBR.out hbA a2
  have a3:=zat HBR.out hbA a3
  simp only[zaF] at a0 a1 a2 a3
  obtain⟨bB,oB,rfl,hbB,hcaB⟩:=HB.out.at_ hy
  obtain⟨uB0,b0,gB0⟩:=hcaB 0 _ rfl
  obtain rfl:=gB0.leaf_eq
  obtain⟨uB1,b1,gB1⟩:=hcaB 1 _ rfl
  obtain rfl:=gB1.leaf_eq
  obtain⟨uB2,b2,gB2⟩:=hcaB 2 _ rfl
  obtain rfl:=gB2.leaf_eq
  obtain⟨uB3,b3,gB3⟩:=hcaB 3 _ rfl
  obtain rfl:=gB3.leaf_eq
  clear hcaB
  have b0:=zbH HBR.out hbB b0
  have b1:=zat HBR.out hbB b1
  have b2:=zat HBR.out hbB b2
  have b3:=zat HBR.out hbB b3
  simp only[zaF] at b0 b1 b2 b3
  have k0:=kbZ k l.length
  have HX:=zaa hx
  have HY:=zaa hy
  clear hx hy hlt2
  obtain⟨x_name,x_net,x_delay,x_store⟩:=x
  obtain⟨y_name,y_net,y_delay,y_store⟩:=y
  dsimp only at a0 b0 a1 b1 a2 b2 a3 b3
  by_cases e_:x_name=y_name
  rotate_left
  ·as_aux_lemma=>
    have HNE:=zaa e_
    have hne1:=zaw e_
    have hne2:=zaG e_
    clear e_
    go_wp2_with fail
    go_quiet (fail)
    go_wp2_with fail
    go_ret
    exact⟨false,rfl,⟨(fun h=>by cases h),fun h_=>absurd (by have h:=HX.out;rw[h_,HY.out] at h;exact(congrArg (fun z_:SwD=>z_.name) (Option.some.inj h)).symm) HNE.out⟩,zaq HBR.out _⟩
  subst e_
  by_cases e_:x_net=y_net
  rotate_left
  ·as_aux_lemma=>
    have HNE:=zaa e_
    have hne1:=zaP e_
    go_wp2_with fail
    go_quiet (fail)
    go_wp2_with fail
    go_ret
    exact⟨false,rfl,⟨(fun h=>by cases h),fun h_=>absurd (by have h:=HX.out;rw[h_,HY.out] at h;exact(congrArg (fun z_:SwD=>z_.net) (Option.some.inj h)).symm) HNE.out⟩,zaq HBR.out _⟩
  subst e_
  by_cases e_:x_delay=y_delay
  rotate_left
  ·as_aux_lemma=>
    have HNE:=zaa e_
    have hne1:=zaP e_
    go_wp2_with fail
    go_quiet (fail)
    go_wp2_with fail
    go_ret
    exact⟨false,rfl,⟨(fun h=>by cases h),fun h_=>absurd (by have h:=HX.out;rw[h_,HY.out] at h;exact(congrArg (fun z_:SwD=>z_.delay) (Option.some.inj h)).symm) HNE.out⟩,zaq HBR.out _⟩
  subst e_
  by_cases e_:x_store=y_store
  rotate_left
  ·as_aux_lemma=>
    have HNE:=zaa e_
    have hne1:=zaP e_
    go_wp2_with fail
    go_quiet (fail)
    go_wp2_with fail
    go_ret
    exact⟨false,rfl,⟨(fun h=>by cases h),fun h_=>absurd (by have h:=HX.out;rw[h_,HY.out] at h;exact(congrArg (fun z_:SwD=>z_.store) (Option.some.inj h)).symm) HNE.out⟩,zaq HBR.out _⟩
  subst e_
  go_wp2_with fail
  go_quiet (fail)
  go_wp2_with fail
  go_roundw
  case rel=>exact⟨k+1,by omega,by go_num,by rw[List.take_add_one,List.take_add_one,HX.out,HY.out,HT.out],zaq HBR.out _⟩
  case measure=>simp[intOf];omega
theorem zkK (va vb:Value) (l m:List zbw) (W:World) (ha:Hid (DAt W (fun _=>True) va (.row 4 (l.map zbw.cells)))) (hb:Hid (DAt W (fun _=>True) vb (.row 4 (m.map zbw.cells)))) (hn:l.length≤140737488355328) (_hm:m.length≤140737488355328):
 Calls Tryz.prog 50 #[va,vb] W fun e w'=> ∃z,e= .returned (.bool z)∧(z=true↔l=m)∧Below W.heap.size W w':=by
 obtain⟨A,c,rfl,hA⟩:=ha.out.slice
 obtain⟨B,d,rfl,hB⟩:=hb.out.slice
 have HA:=zaa hA
 have HB:=zaa hB
 clear hA hB ha hb
 rw[List.length_map]
 rw[List.length_map]
 by_cases hlen:l.length=m.length
 rotate_left
 ·have HN:=zaa hlen
  have hne1:=zaK hlen
  clear hlen
  go_enter Tryz.func50,Tryz.ntmps50
  go_wp2_with fail
  go_ret
  exact⟨false,rfl,⟨(fun h=>by cases h),fun h=>absurd (congrArg List.length h) HN.out⟩,Below.refl _ _⟩
 rw[←hlen]
 have HL:=zaa hlen
 clear hlen _hm
 go_enter Tryz.func50,Tryz.ntmps50
 go_wp2_with fail
 go_loopw [13] (fun v wr=> ∃k:Nat,k≤l.length∧v= .int .i64 k∧l.take k=m.take k∧Below W.heap.size W wr) (fun v _=>l.length-(intOf v).toNat)
 case atStart=>exact⟨0,by omega,rfl,rfl,Below.refl _ _⟩
 case round=>
  obtain⟨k,hk,rfl,ht,hbr⟩:=hrel
  have HBR:=zaa hbr
  have HT:=zaa ht
  clear hbr ht
  by_cases hlt:k<l.length
  rotate_left
  ·obtain rfl:k=l.length:=by omega
   clear hlt
   have HE:Hid (l=m):=zaa (by have h:=HT.out;rw[List.take_length,HL.out,List.take_length] at h;exact h)
   go_wp2_with fail
   go_ret
   exact⟨true,rfl,⟨fun _=>HE.out,fun _=>rfl⟩,HBR.out⟩
  have hlt2:k<m.length:=by have:=HL.out;omega
  obtain⟨x,hx⟩:=za9 hlt
  obtain⟨y,hy⟩:=za9 hlt2
  obtain⟨bA,oA,rfl,hbA,hcaA⟩:=HA.out.at_ hx
  obtain⟨uA0,a0,gA0⟩:=hcaA 0 _ rfl
  obtain rfl:=gA0.leaf_eq
  obtain⟨uA1,a1,gA1⟩:=hcaA 1 _ rfl
  obtain rfl:=gA1.leaf_eq
  obtain⟨uA2,a2,gA2⟩:=hcaA 2 _ rfl
  obtain rfl:=gA2.leaf_eq
  obtain⟨uA3,a3,gA3⟩:=hcaA 3 _ rfl
  obtain rfl:=gA3.leaf_eq
  clear hcaA
  have a0:=zbH HBR.out hbA a0
  have a1:=zat HBR.out hbA a1
  have a2:=zat HBR.out hbA a2
  have a3:=zat HBR.out hbA a3
  simp only[zaF] at a0 a1 a2 a3
  obtain⟨bB,oB,rfl,hbB,hcaB⟩:=HB.out.at_ hy
  obtain⟨uB0,b0,gB0⟩:=hcaB 0 _ rfl
  obtain rfl:=gB0.leaf_eq
  obtain⟨uB1,b1,gB1⟩:=hcaB 1 _ rfl
  obtain rfl:=gB1.leaf_eq
  obtain⟨uB2,b2,gB2⟩:=hcaB 2 _ rfl
  obtain rfl:=gB2.leaf_eq
  obtain⟨uB3,b3,gB3⟩:=hcaB 3 _ rfl
  obtain rfl:=gB3.leaf_eq
  clear hcaB
  have b0:=zbH HBR.out hbB b0
  have b1:=zat HBR.out hbB b1
  have b2:=zat HBR.out hbB b2
  have b3:=zat HBR.out hbB b3
  simp only[zaF] at b0 b1 b2 b3
  have k0:=kbZ k l.length
  have HX:=zaa hx
  have HY:=zaa hy
  clear hx hy hlt2
  obtain⟨x_a,x_b,x_net,x_slow⟩:=x
  obtain⟨y_a,y_b,y_net,y_slow⟩:=y
  dsimp only at a0 b0 a1 b1 a2 b2 a3 b3
  by_cases e_:x_a=y_a
  rotate_left
  ·as_aux_lemma=>
    have HNE:=zaa e_
    have hne1:=zaw e_
    have hne2:=zaG e_
    clear e_
    go_wp2_with fail
    go_quiet (fail)
    go_wp2_with fail
    go_ret
    exact⟨false,rfl,⟨(fun h=>by cases h),fun h_=>absurd (by have h:=HX.out;rw[h_,HY.out] at h;exact(congrArg (fun z_:zbw=>z_.a) (Option.some.inj h)).symm) HNE.out⟩,zaq HBR.out _⟩
  subst e_
  by_cases e_:x_b=y_b
  rotate_left
  ·as_aux_lemma=>
    have HNE:=zaa e_
    have hne1:=zaw e_
    have hne2:=zaG e_
    clear e_
    go_wp2_with fail
    go_quiet (fail)
    go_wp2_with fail
    go_ret
    exact⟨false,rfl,⟨(fun h=>by cases h),fun h_=>absurd (by have h:=HX.out;rw[h_,HY.out] at h;exact(congrArg (fun z_:zbw=>z_.b) (Option.some.inj h)).symm) HNE.out⟩,zaq HBR.out _⟩
  subst e_
  by_cases e_:x_net=y_net
  rotate_left
  ·as_aux_lemma=>
    have HNE:=zaa e_
    have hne1:=zaP e_
    go_wp2_with fail
    go_quiet (fail)
    go_wp2_with fail
    go_ret
    exact⟨false,rfl,⟨(fun h=>by cases h),fun h_=>absurd (by have h:=HX.out;rw[h_,HY.out] at h;exact(congrArg (fun z_:zbw=>z_.net) (Option.some.inj h)).symm) HNE.out⟩,zaq HBR.out _⟩
  subst e_
  by_cases e_:x_slow=y_slow
  rotate_left
  ·as_aux_lemma=>
    have HNE:=zaa e_
    have hne1:=zaP e_
    go_wp2_with fail
    go_quiet (fail)
    go_wp2_with fail
    go_ret
    exact⟨false,rfl,⟨(fun h=>by cases h),fun h_=>absurd (by have h:=HX.out;rw[h_,HY.out] at h;exact(congrArg (fun z_:zbw=>z_.slow) (Option.some.inj h)).symm) HNE.out⟩,zaq HBR.out _⟩
  subst e_
  go_wp2_with fail
  go_quiet (fail)
  go_wp2_with fail
  go_roundw
  case rel=>exact⟨k+1,by omega,by go_num,by rw[List.take_add_one,List.take_add_one,HX.out,HY.out,HT.out],zaq HBR.out _⟩
  case measure=>simp[intOf];omega
theorem zid (va vb:Value) (l m:List zaH) (W:World) (ha:Hid (DAt W (fun _=>True) va (.row 5 (l.map zaH.cells)))) (hb:Hid (DAt W (fun _=>True) vb (.row 5 (m.map zaH.cells)))) (hn:l.length≤140737488355328) (_hm:m.length≤140737488355328):
 Calls Tryz.prog 52 #[va,vb] W fun e w'=> ∃z,e= .returned (.bool z)∧(z=true↔l=m)∧Below W.heap.size W w':=by
 obtain⟨A,c,rfl,hA⟩:=ha.out.slice
 obtain⟨B,d,rfl,hB⟩:=hb.out.slice
 have HA:=zaa hA
 have HB:=zaa hB
 clear hA hB ha hb
 rw[List.length_map]
 rw[List.length_map]
 by_cases hlen:l.length=m.length
 rotate_left
 ·have HN:=zaa hlen
  have hne1:=zaK hlen
  clear hlen
  go_enter Tryz.func52,Tryz.ntmps52
  go_wp2_with fail
  go_ret
  exact⟨false,rfl,⟨(fun h=>by cases h),fun h=>absurd (congrArg List.length h) HN.out⟩,Below.refl _ _⟩
 rw[←hlen]
 have HL:=zaa hlen
 clear hlen _hm
 go_enter Tryz.func52,Tryz.ntmps52
 go_wp2_with fail
 go_loopw [13] (fun v wr=> ∃k:Nat,k≤l.length∧v= .int .i64 k∧l.take k=m.take k∧Below W.heap.size W wr) (fun v _=>l.length-(intOf v).toNat)
 case atStart=>exact⟨0,by omega,rfl,rfl,Below.refl _ _⟩
 case round=>
  obtain⟨k,hk,rfl,ht,hbr⟩:=hrel
  have HBR:=zaa hbr
  have HT:=zaa ht
  clear hbr ht
  by_cases hlt:k<l.length
  rotate_left
  ·obtain rfl:k=l.length:=by omega
   clear hlt
   have HE:Hid (l=m):=zaa (by have h:=HT.out;rw[List.take_length,HL.out,List.take_length] at h;exact h)
   go_wp2_with fail
   go_ret
   exact⟨true,rfl,⟨fun _=>HE.out,fun _=>rfl⟩,HBR.out⟩
  have hlt2:k<m.length:=by have:=HL.out;omega
  obtain⟨x,hx⟩:=za9 hlt
  obtain⟨y,hy⟩:=za9 hlt2
  obtain⟨bA,oA,rfl,hbA,hcaA⟩:=HA.out.at_ hx
  obtain⟨uA0,a0,gA0⟩:=hcaA 0 _ rfl
  obtain rfl:=gA0.leaf_eq
  obtain⟨uA1,a1,gA1⟩:=hcaA 1 _ rfl
  obtain rfl:=gA1.leaf_eq
  obtain⟨uA2,a2,gA2⟩:=hcaA 2 _ rfl
  obtain rfl:=gA2.leaf_eq
  obtain⟨uA3,a3,gA3⟩:=hcaA 3 _ rfl
  obtain rfl:=gA3.leaf_eq
  obtain⟨uA4,a4,gA4⟩:=hcaA 4 _ rfl
  obtain rfl:=gA4.leaf_eq
  clear hcaA
  have a0:=zbH HBR.out hbA a0
  have a1:=zat HBR.out hbA a1
  have a2:=zat HBR.out hbA a2
  have a3:=zat HBR.out hbA a3
  have a4:=zat HBR.out hbA a4
  simp only[zaF] at a0 a1 a2 a3 a4
  obtain⟨bB,oB,rfl,hbB,hcaB⟩:=HB.out.at_ hy
  obtain⟨uB0,b0,gB0⟩:=hcaB 0 _ rfl
  obtain rfl:=gB0.leaf_eq
  obtain⟨uB1,b1,gB1⟩:=hcaB 1 _ rfl
  obtain rfl:=gB1.leaf_eq
  obtain⟨uB2,b2,gB2⟩:=hcaB 2 _ rfl
  obtain rfl:=gB2.leaf_eq
  obtain⟨uB3,b3,gB3⟩:=hcaB 3 _ rfl
  obtain rfl:=gB3.leaf_eq
  obtain⟨uB4,b4,gB4⟩:=hcaB 4 _ rfl
  obtain rfl:=gB4.leaf_eq
  clear hcaB
  have b0:=zbH HBR.out hbB b0
  have b1:=zat HBR.out hbB b1
  have b2:=zat HBR.out hbB b2
  have b3:=zat HBR.out hbB b3
  have b4:=zat HBR.out hbB b4
  simp only[zaF] at b0 b1 b2 b3 b4
  have k0:=kbZ k l.length
  have HX:=zaa hx
  have HY:=zaa hy
  clear hx hy hlt2
  obtain⟨x_module,x_part,x_fault,x_level,x_do⟩:=x
  obtain⟨y_module,y_part,y_fault,y_level,y_do⟩:=y
  dsimp only at a0 b0 a1 b1 a2 b2 a3 b3 a4 b4
  by_cases e_:x_module=y_module
  rotate_left
  ·as_aux_lemma=>
    have HNE:=zaa e_
    have hne1:=zaw e_
    have hne2:=zaG e_
    clear e_
    go_wp2_with fail
    go_quiet (fail)
    go_wp2_with fail
    go_ret
    exact⟨false,rfl,⟨(fun h=>by cases h),fun h_=>absurd (by have h:=HX.out;rw[h_,HY.out] at h;exact(congrArg (fun z_:zaH=>z_.module) (Option.some.inj h)).symm) HNE.out⟩,zaq HBR.out _⟩
  subst e_
  by_cases e_:x_part=y_part
  rotate_left
  ·as_aux_lemma=>
    have HNE:=zaa e_
    have hne1:=zaw e_
    have hne2:=zaG e_
    clear e_
    go_wp2_with fail
    go_quiet (fail)
    go_wp2_with fail
    go_ret
    exact⟨false,rfl,⟨(fun h=>by cases h),fun h_=>absurd (by have h:=HX.out;rw[h_,HY.out] at h;exact(congrArg (fun z_:zaH=>z_.part) (Option.some.inj h)).symm) HNE.out⟩,zaq HBR.out _⟩
  subst e_
  by_cases e_:x_fault=y_fault
  rotate_left
  ·as_aux_lemma=>
    have HNE:=zaa e_
    have hne1:=zaK e_
    clear e_
    go_wp2_with fail
    go_quiet (fail)
    go_wp2_with fail
    go_ret
    exact⟨false,rfl,⟨(fun h=>by cases h),fun h_=>absurd (by have h:=HX.out;rw[h_,HY.out] at h;exact(congrArg (fun z_:zaH=>z_.fault) (Option.some.inj h)).symm) HNE.out⟩,zaq HBR.out _⟩
  subst e_
  by_cases e_:x_level=y_level
  rotate_left
  ·as_aux_lemma=>
    have HNE:=zaa e_
    have hne1:=zaK e_
    clear e_
    go_wp2_with fail
    go_quiet (fail)
    go_wp2_with fail
    go_ret
    exact⟨false,rfl,⟨(fun h=>by cases h),fun h_=>absurd (by have h:=HX.out;rw[h_,HY.out] at h;exact(congrArg (fun z_:zaH=>z_.level) (Option.some.inj h)).symm) HNE.out⟩,zaq HBR.out _⟩
  subst e_
  by_cases e_:x_do=y_do
  rotate_left
  ·as_aux_lemma=>
    have HNE:=zaa e_
    have hne1:=zaK e_
    clear e_
    go_wp2_with fail
    go_quiet (fail)
    go_wp2_with fail
    go_ret
    exact⟨false,rfl,⟨(fun h=>by cases h),fun h_=>absurd (by have h:=HX.out;rw[h_,HY.out] at h;exact(congrArg (fun z_:zaH=>z_.do_) (Option.some.inj h)).symm) HNE.out⟩,zaq HBR.out _⟩
  subst e_
  go_wp2_with fail
  go_quiet (fail)
  go_wp2_with fail
  go_roundw
  case rel=>exact⟨k+1,by omega,by go_num,by rw[List.take_add_one,List.take_add_one,HX.out,HY.out,HT.out],zaq HBR.out _⟩
  case measure=>simp[intOf];omega
theorem zmO (va vb:Value) (l m:List zc7) (W:World) (ha:Hid (DAt W (fun _=>True) va (.row 4 (l.map zc7.cells)))) (hb:Hid (DAt W (fun _=>True) vb (.row 4 (m.map zc7.cells)))) (hn:l.length≤140737488355328) (_hm:m.length≤140737488355328):
 Calls Tryz.prog 54 #[va,vb] W fun e w'=> ∃z,e= .returned (.bool z)∧(z=true↔l=m)∧Below W.heap.size W w':=by
 obtain⟨A,c,rfl,hA⟩:=ha.out.slice
 obtain⟨B,d,rfl,hB⟩:=hb.out.slice
 have HA:=zaa hA
 have HB:=zaa hB
 clear hA hB ha hb
 rw[List.length_map]
 rw[List.length_map]
 by_cases hlen:l.length=m.length
 rotate_left
 ·have HN:=zaa hlen
  have hne1:=zaK hlen
  clear hlen
  go_enter Tryz.func54,Tryz.ntmps54
  go_wp2_with fail
  go_ret
  exact⟨false,rfl,⟨(fun h=>by cases h),fun h=>absurd (congrArg List.length h) HN.out⟩,Below.refl _ _⟩
 rw[←hlen]
 have HL:=zaa hlen
 clear hlen _hm
 go_enter Tryz.func54,Tryz.ntmps54
 go_wp2_with fail
 go_loopw [13] (fun v wr=> ∃k:Nat,k≤l.length∧v= .int .i64 k∧l.take k=m.take k∧Below W.heap.size W wr) (fun v _=>l.length-(intOf v).toNat)
 case atStart=>exact⟨0,by omega,rfl,rfl,Below.refl _ _⟩
 case round=>
  obtain⟨k,hk,rfl,ht,hbr⟩:=hrel
  have HBR:=zaa hbr
  have HT:=zaa ht
  clear hbr ht
  by_cases hlt:k<l.length
  rotate_left
  ·obtain rfl:k=l.length:=by omega
   clear hlt
   have HE:Hid (l=m):=zaa (by have h:=HT.out;rw[List.take_length,HL.out,List.take_length] at h;exact h)
   go_wp2_with fail
   go_ret
   exact⟨true,rfl,⟨fun _=>HE.out,fun _=>rfl⟩,HBR.out⟩
  have hlt2:k<m.length:=by have:=HL.out;omega
  obtain⟨x,hx⟩:=za9 hlt
  obtain⟨y,hy⟩:=za9 hlt2
  obtain⟨bA,oA,rfl,hbA,hcaA⟩:=HA.out.at_ hx
  obtain⟨uA0,a0,gA0⟩:=hcaA 0 _ rfl
  obtain rfl:=gA0.leaf_eq
  obtain⟨uA1,a1,gA1⟩:=hcaA 1 _ rfl
  obtain rfl:=gA1.leaf_eq
  obtain⟨uA2,a2,gA2⟩:=hcaA 2 _ rfl
  obtain rfl:=gA2.leaf_eq
  obtain⟨uA3,a3,gA3⟩:=hcaA 3 _ rfl
  obtain rfl:=gA3.leaf_eq
  clear hcaA
  have a0:=zbH HBR.out hbA a0
  have a1:=zat HBR.out hbA a1
  have a2:=zat HBR.out hbA a2
  have a3:=zat HBR.out hbA a3
  simp only[zaF] at a0 a1 a2 a3
  obtain⟨bB,oB,rfl,hbB,hcaB⟩:=HB.out.at_ hy
  obtain⟨uB0,b0,gB0⟩:=hcaB 0 _ rfl
  obtain rfl:=gB0.leaf_eq
  obtain⟨uB1,b1,gB1⟩:=hcaB 1 _ rfl
  obtain rfl:=gB1.leaf_eq
  obtain⟨uB2,b2,gB2⟩:=hcaB 2 _ rfl
  obtain rfl:=gB2.leaf_eq
  obtain⟨uB3,b3,gB3⟩:=hcaB 3 _ rfl
  obtain rfl:=gB3.leaf_eq
  clear hcaB
  have b0:=zbH HBR.out hbB b0
  have b1:=zat HBR.out hbB b1
  have b2:=zat HBR.out hbB b2
  have b3:=zat HBR.out hbB b3
  simp only[zaF] at b0 b1 b2 b3
  have k0:=kbZ k l.length
  have HX:=zaa hx
  have HY:=zaa hy
  clear hx hy hlt2
  obtain⟨x_a,x_va,x_b,x_vb⟩:=x
  obtain⟨y_a,y_va,y_b,y_vb⟩:=y
  dsimp only at a0 b0 a1 b1 a2 b2 a3 b3
  by_cases e_:x_a=y_a
  rotate_left
  ·as_aux_lemma=>
    have HNE:=zaa e_
    have hne1:=zaw e_
    have hne2:=zaG e_
    clear e_
    go_wp2_with fail
    go_quiet (fail)
    go_wp2_with fail
    go_ret
    exact⟨false,rfl,⟨(fun h=>by cases h),fun h_=>absurd (by have h:=HX.out;rw[h_,HY.out] at h;exact(congrArg (fun z_:zc7=>z_.a) (Option.some.inj h)).symm) HNE.out⟩,zaq HBR.out _⟩
  subst e_
  by_cases e_:x_va=y_va
  rotate_left
  ·as_aux_lemma=>
    have HNE:=zaa e_
    have hne1:=zaP e_
    go_wp2_with fail
    go_quiet (fail)
    go_wp2_with fail
    go_ret
    exact⟨false,rfl,⟨(fun h=>by cases h),fun h_=>absurd (by have h:=HX.out;rw[h_,HY.out] at h;exact(congrArg (fun z_:zc7=>z_.va) (Option.some.inj h)).symm) HNE.out⟩,zaq HBR.out _⟩
  subst e_
  by_cases e_:x_b=y_b
  rotate_left
  ·as_aux_lemma=>
    have HNE:=zaa e_
    have hne1:=zaw e_
    have hne2:=zaG e_
    clear e_
    go_wp2_with fail
    go_quiet (fail)
    go_wp2_with fail
    go_ret
    exact⟨false,rfl,⟨(fun h=>by cases h),fun h_=>absurd (by have h:=HX.out;rw[h_,HY.out] at h;exact(congrArg (fun z_:zc7=>z_.b) (Option.some.inj h)).symm) HNE.out⟩,zaq HBR.out _⟩
  subst e_
  by_cases e_:x_vb=y_vb
  rotate_left
  ·as_aux_lemma=>
    have HNE:=zaa e_
    have hne1:=zaP e_
    go_wp2_with fail
    go_quiet (fail)
    go_wp2_with fail
    go_ret
    exact⟨false,rfl,⟨(fun h=>by cases h),fun h_=>absurd (by have h:=HX.out;rw[h_,HY.out] at h;exact(congrArg (fun z_:zc7=>z_.vb) (Option.some.inj h)).symm) HNE.out⟩,zaq HBR.out _⟩
  subst e_
  go_wp2_with fail
  go_quiet (fail)
  go_wp2_with fail
  go_roundw
  case rel=>exact⟨k+1,by omega,by go_num,by rw[List.take_add_one,List.take_add_one,HX.out,HY.out,HT.out],zaq HBR.out _⟩
  case measure=>simp[intOf];omega
end Go.Proofs.YtgbfaompondolaaGreatDoor
