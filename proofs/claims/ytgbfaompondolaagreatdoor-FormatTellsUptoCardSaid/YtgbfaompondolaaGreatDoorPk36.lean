/- Merged texts of the walks and of the plain laws on which the statement leans.-/
import Derived.Test.YtgbfaompondolaaGreatDoorPk1
import Derived.Test.YtgbfaompondolaaGreatDoorPk24
set_option maxHeartbeats 4000000
set_option maxRecDepth 100000
namespace Go.Proofs.YtgbfaompondolaaGreatDoor
open Go.Proofs.Tryz
open Go.RowKit
attribute [local go_sem] zaj.cell
theorem znH (va vb:Value) (l:List zcu) (W:World) (ha:Hid (DAt W (fun _=>True) va (.row 2 (l.map zcu.cells)))) (hb:Hid (DAt W (fun _=>True) vb (.row 2 (l.map zcu.cells)))) (hn:l.length≤140737488355328):
 Calls prog 200 #[va,vb] W fun e w'=>e= .returned (.bool true)∧Below W.heap.size W w':=by
 obtain⟨A,c,rfl,hA⟩:=ha.out.slice;obtain⟨B,d,rfl,hB⟩:=hb.out.slice;have HA:=zaa hA;have HB:=zaa hB;clear hA hB ha hb;rw[List.length_map]
 go_enter func200,ntmps200
 go_wp2_with fail
 go_loopw [5] (fun v wr=> ∃k:Nat,k≤l.length∧v= .int .i64 k∧Below W.heap.size W wr) (fun v _=>l.length-(intOf v).toNat)
 case atStart=>exact⟨0,by omega,rfl,Below.refl _ _⟩
 case round=>
  obtain⟨k,hk,rfl,hbr⟩:=hrel;have HBR:=zaa hbr;clear hbr;by_cases hlt:k<l.length
  rotate_left
  ·obtain rfl:k=l.length:=by omega
   clear hlt;go_wp2_with fail;go_ret;exact⟨rfl,HBR.out⟩
  obtain⟨x,hx⟩:=zbE hlt;obtain⟨bA,oA,rfl,hbA,hcaA⟩:=HA.out.at_ hx;have a0:=zad HBR.out hbA (oA+k*2) (hcaA 0 _ rfl).leafc;have a1:=zad HBR.out hbA (oA+k*2+1) (hcaA 1 _ rfl).leafc;clear hcaA;simp only[zav] at a0;obtain⟨bB,oB,rfl,hbB,hcaB⟩:=HB.out.at_ hx;have b0:=zad HBR.out hbB (oB+k*2) (hcaB 0 _ rfl).leafc;have b1:=zad HBR.out hbB (oB+k*2+1) (hcaB 1 _ rfl).leafc;clear hcaB;simp only[zav] at b0;have k0:=kbZ k l.length;clear hx;go_wp2_with fail;go_quiet (fail);go_wp2_with fail;go_roundw
  case rel=>exact⟨k+1,by omega,by go_num,zbt HBR.out _⟩
  case measure=>simp[intOf];omega
theorem zm4 (va vb:Value) (l:List (List UInt8)) (W:World) (ha:Hid (DAt W (fun _=>True) va (.row 1 (zao l)))) (hb:Hid (DAt W (fun _=>True) vb (.row 1 (zao l)))) (hn:l.length≤140737488355328):
 Calls prog 201 #[va,vb] W fun e w'=>e= .returned (.bool true)∧Below W.heap.size W w':=by
 obtain⟨A,c,rfl,hA⟩:=ha.out.slice;obtain⟨B,d,rfl,hB⟩:=hb.out.slice;have HA:=zaa hA;have HB:=zaa hB;clear hA hB ha hb;rw[show(zao l).length=l.length by simp[zao]]
 go_enter func201,ntmps201
 go_wp2_with fail
 go_loopw [5] (fun v wr=> ∃k:Nat,k≤l.length∧v= .int .i64 k∧Below W.heap.size W wr) (fun v _=>l.length-(intOf v).toNat)
 case atStart=>exact⟨0,by omega,rfl,Below.refl _ _⟩
 case round=>
  obtain⟨k,hk,rfl,hbr⟩:=hrel;have HBR:=zaa hbr;clear hbr;by_cases hlt:k<l.length
  rotate_left
  ·obtain rfl:k=l.length:=by omega
   clear hlt;go_wp2_with fail;go_ret;exact⟨rfl,HBR.out⟩
  obtain⟨x,hx⟩:=zbE hlt;obtain⟨bA,oA,rfl,hbA,hcaA⟩:=HA.out.at_ (cells:=fun s:List UInt8=>[lS s]) hx;have a0:=zad HBR.out hbA (oA+k) (by simpa using(hcaA 0 _ rfl).leafc);clear hcaA;simp only[zav] at a0;obtain⟨bB,oB,rfl,hbB,hcaB⟩:=HB.out.at_ (cells:=fun s:List UInt8=>[lS s]) hx;have b0:=zad HBR.out hbB (oB+k) (by simpa using(hcaB 0 _ rfl).leafc);clear hcaB;simp only[zav] at b0;have k0:=kbZ k l.length;clear hx;go_wp2_with fail;go_quiet (fail);go_wp2_with fail;go_roundw
  case rel=>exact⟨k+1,by omega,by go_num,zbt HBR.out _⟩
  case measure=>simp[intOf];omega
theorem zmL (va vb:Value) (l:List zb3) (W:World) (ha:Hid (DAt W (fun _=>True) va (.row 4 (l.map zb3.cells)))) (hb:Hid (DAt W (fun _=>True) vb (.row 4 (l.map zb3.cells)))) (hn:l.length≤140737488355328):
 Calls prog 323 #[va,vb] W fun e w'=>e= .returned (.bool true)∧Below W.heap.size W w':=by
 obtain⟨A,c,rfl,hA⟩:=ha.out.slice;obtain⟨B,d,rfl,hB⟩:=hb.out.slice;have HA:=zaa hA;have HB:=zaa hB;clear hA hB ha hb;rw[List.length_map]
 go_enter func323,ntmps323
 go_wp2_with fail
 go_loopw [5] (fun v wr=> ∃k:Nat,k≤l.length∧v= .int .i64 k∧Below W.heap.size W wr) (fun v _=>l.length-(intOf v).toNat)
 case atStart=>exact⟨0,by omega,rfl,Below.refl _ _⟩
 case round=>
  obtain⟨k,hk,rfl,hbr⟩:=hrel;have HBR:=zaa hbr;clear hbr;by_cases hlt:k<l.length
  rotate_left
  ·obtain rfl:k=l.length:=by omega
   clear hlt;go_wp2_with fail;go_ret;exact⟨rfl,HBR.out⟩
  obtain⟨x,hx⟩:=zbE hlt;obtain⟨bA,oA,rfl,hbA,hcaA⟩:=HA.out.at_ hx;have a0:=zad HBR.out hbA (oA+k*4) (hcaA 0 _ rfl).leafc;have a1:=zad HBR.out hbA (oA+k*4+1) (hcaA 1 _ rfl).leafc;have a2:=zad HBR.out hbA (oA+k*4+2) (hcaA 2 _ rfl).leafc;have a3:=zad HBR.out hbA (oA+k*4+3) (hcaA 3 _ rfl).leafc;clear hcaA;obtain⟨bB,oB,rfl,hbB,hcaB⟩:=HB.out.at_ hx;have b0:=zad HBR.out hbB (oB+k*4) (hcaB 0 _ rfl).leafc;have b1:=zad HBR.out hbB (oB+k*4+1) (hcaB 1 _ rfl).leafc;have b2:=zad HBR.out hbB (oB+k*4+2) (hcaB 2 _ rfl).leafc;have b3:=zad HBR.out hbB (oB+k*4+3) (hcaB 3 _ rfl).leafc;clear hcaB;have k0:=kbZ k l.length;clear hx;go_wp2_with fail;go_quiet (fail);go_wp2_with fail;go_roundw
  case rel=>exact⟨k+1,by omega,by go_num,zbt HBR.out _⟩
  case measure=>simp[intOf];omega
theorem zi4 (va vb:Value) (l:List Int) (W:World) (ha:Hid (DAt W (fun _=>True) va (.row 1 (zah l)))) (hb:Hid (DAt W (fun _=>True) vb (.row 1 (zah l)))) (hn:l.length≤140737488355328):
 Calls prog 278 #[va,vb] W fun e w'=>e= .returned (.bool true)∧Below W.heap.size W w':=by
 obtain⟨A,c,rfl,hA⟩:=ha.out.slice;obtain⟨B,d,rfl,hB⟩:=hb.out.slice;have HA:=zaa hA;have HB:=zaa hB;clear hA hB ha hb;rw[show(zah l).length=l.length by simp[zah]]
 go_enter func278,ntmps278
 go_wp2_with fail
 go_loopw [5] (fun v wr=> ∃k:Nat,k≤l.length∧v= .int .i64 k∧Below W.heap.size W wr) (fun v _=>l.length-(intOf v).toNat)
 case atStart=>exact⟨0,by omega,rfl,Below.refl _ _⟩
 case round=>
  obtain⟨k,hk,rfl,hbr⟩:=hrel;have HBR:=zaa hbr;clear hbr;by_cases hlt:k<l.length
  rotate_left
  ·obtain rfl:k=l.length:=by omega
   clear hlt;go_wp2_with fail;go_ret;exact⟨rfl,HBR.out⟩
  obtain⟨x,hx⟩:=zbE hlt;obtain⟨bA,oA,rfl,hbA,hcaA⟩:=HA.out.at_ (cells:=fun n:Int=>[lI n]) hx;have a0:=zad HBR.out hbA (oA+k) (by simpa using(hcaA 0 _ rfl).leafc);clear hcaA;obtain⟨bB,oB,rfl,hbB,hcaB⟩:=HB.out.at_ (cells:=fun n:Int=>[lI n]) hx;have b0:=zad HBR.out hbB (oB+k) (by simpa using(hcaB 0 _ rfl).leafc);clear hcaB;have k0:=kbZ k l.length;clear hx;go_wp2_with fail;go_quiet (fail);go_wp2_with fail;go_roundw
  case rel=>exact⟨k+1,by omega,by go_num,zbt HBR.out _⟩
  case measure=>simp[intOf];omega
theorem zlA (va vb:Value) (l:List zaT) (W:World) (ha:Hid (DAt W (fun _=>True) va (.row 6 (l.map zaT.cells)))) (hb:Hid (DAt W (fun _=>True) vb (.row 6 (l.map zaT.cells)))) (hn:l.length≤140737488355328):
 Calls prog 279 #[va,vb] W fun e w'=>e= .returned (.bool true)∧Below W.heap.size W w':=by
 obtain⟨A,c,rfl,hA⟩:=ha.out.slice;obtain⟨B,d,rfl,hB⟩:=hb.out.slice;have HA:=zaa hA;have HB:=zaa hB;clear hA hB ha hb;rw[List.length_map]
 go_enter func279,ntmps279
 go_wp2_with fail
 go_loopw [5] (fun v wr=> ∃k:Nat,k≤l.length∧v= .int .i64 k∧Below W.heap.size W wr) (fun v _=>l.length-(intOf v).toNat)
 case atStart=>exact⟨0,by omega,rfl,Below.refl _ _⟩
 case round=>
  obtain⟨k,hk,rfl,hbr⟩:=hrel;have HBR:=zaa hbr;clear hbr;by_cases hlt:k<l.length
  rotate_left
  ·obtain rfl:k=l.length:=by omega
   clear hlt;go_wp2_with fail;go_ret;exact⟨rfl,HBR.out⟩
  obtain⟨x,hx⟩:=zbE hlt;obtain⟨bA,oA,rfl,hbA,hcaA⟩:=HA.out.at_ hx;have a0:=zad HBR.out hbA (oA+k*6) (hcaA 0 _ rfl).leafc;have a1:=zad HBR.out hbA (oA+k*6+1) (hcaA 1 _ rfl).leafc;have a2:=zad HBR.out hbA (oA+k*6+2) (hcaA 2 _ rfl).leafc;have a3:=zad HBR.out hbA (oA+k*6+3) (hcaA 3 _ rfl).leafc;have a4:=zad HBR.out hbA (oA+k*6+4) (hcaA 4 _ rfl).leafc;have a5:=zad HBR.out hbA (oA+k*6+5) (hcaA 5 _ rfl).leafc;clear hcaA;simp only[zav] at a0;obtain⟨bB,oB,rfl,hbB,hcaB⟩:=HB.out.at_ hx;have b0:=zad HBR.out hbB (oB+k*6) (hcaB 0 _ rfl).leafc;have b1:=zad HBR.out hbB (oB+k*6+1) (hcaB 1 _ rfl).leafc;have b2:=zad HBR.out hbB (oB+k*6+2) (hcaB 2 _ rfl).leafc;have b3:=zad HBR.out hbB (oB+k*6+3) (hcaB 3 _ rfl).leafc;have b4:=zad HBR.out hbB (oB+k*6+4) (hcaB 4 _ rfl).leafc;have b5:=zad HBR.out hbB (oB+k*6+5) (hcaB 5 _ rfl).leafc;clear hcaB;simp only[zav] at b0;have k0:=kbZ k l.length;clear hx;go_wp2_with fail;go_quiet (fail);go_wp2_with fail;go_roundw
  case rel=>exact⟨k+1,by omega,by go_num,zbt HBR.out _⟩
  case measure=>simp[intOf];omega
theorem zi7 (va vb:Value) (l:List zb7) (W:World) (ha:Hid (DAt W (fun _=>True) va (.row 3 (l.map zb7.cells)))) (hb:Hid (DAt W (fun _=>True) vb (.row 3 (l.map zb7.cells)))) (hn:l.length≤140737488355328):
 Calls prog 199 #[va,vb] W fun e w'=>e= .returned (.bool true)∧Below W.heap.size W w':=by
 obtain⟨A,c,rfl,hA⟩:=ha.out.slice;obtain⟨B,d,rfl,hB⟩:=hb.out.slice;have HA:=zaa hA;have HB:=zaa hB;clear hA hB ha hb;rw[List.length_map]
 go_enter func199,ntmps199
 go_wp2_with fail
 go_loopw [5] (fun v wr=> ∃k:Nat,k≤l.length∧v= .int .i64 k∧Below W.heap.size W wr) (fun v _=>l.length-(intOf v).toNat)
 case atStart=>exact⟨0,by omega,rfl,Below.refl _ _⟩
 case round=>
  obtain⟨k,hk,rfl,hbr⟩:=hrel;have HBR:=zaa hbr;clear hbr;by_cases hlt:k<l.length
  rotate_left
  ·obtain rfl:k=l.length:=by omega
   clear hlt;go_wp2_with fail;go_ret;exact⟨rfl,HBR.out⟩
  obtain⟨x,hx⟩:=zbE hlt;obtain⟨bA,oA,rfl,hbA,hcaA⟩:=HA.out.at_ hx;have a0:=zad HBR.out hbA (oA+k*3) (hcaA 0 _ rfl).leafc;have a1:=zad HBR.out hbA (oA+k*3+1) (hcaA 1 _ rfl).leafc;have a2:=zad HBR.out hbA (oA+k*3+2) (hcaA 2 _ rfl).leafc;clear hcaA;simp only[zav] at a0 a1 a2;obtain⟨bB,oB,rfl,hbB,hcaB⟩:=HB.out.at_ hx;have b0:=zad HBR.out hbB (oB+k*3) (hcaB 0 _ rfl).leafc;have b1:=zad HBR.out hbB (oB+k*3+1) (hcaB 1 _ rfl).leafc;have b2:=zad HBR.out hbB (oB+k*3+2) (hcaB 2 _ rfl).leafc;clear hcaB;simp only[zav] at b0 b1 b2;have k0:=kbZ k l.length;clear hx;go_wp2_with fail;go_quiet (fail);go_wp2_with fail;go_roundw
  case rel=>exact⟨k+1,by omega,by go_num,zbt HBR.out _⟩
  case measure=>simp[intOf];omega
theorem zot (va vb:Value) (l:List SwD) (W:World) (ha:Hid (DAt W (fun _=>True) va (.row 4 (l.map SwD.cells)))) (hb:Hid (DAt W (fun _=>True) vb (.row 4 (l.map SwD.cells)))) (hn:l.length≤140737488355328):
 Calls prog 57 #[va,vb] W fun e w'=>e= .returned (.bool true)∧Below W.heap.size W w':=by
 obtain⟨A,c,rfl,hA⟩:=ha.out.slice;obtain⟨B,d,rfl,hB⟩:=hb.out.slice;have HA:=zaa hA;have HB:=zaa hB;clear hA hB ha hb;rw[List.length_map]
 go_enter func57,ntmps57
 go_wp2_with fail
 go_loopw [5] (fun v wr=> ∃k:Nat,k≤l.length∧v= .int .i64 k∧Below W.heap.size W wr) (fun v _=>l.length-(intOf v).toNat)
 case atStart=>exact⟨0,by omega,rfl,Below.refl _ _⟩
 case round=>
  obtain⟨k,hk,rfl,hbr⟩:=hrel;have HBR:=zaa hbr;clear hbr;by_cases hlt:k<l.length
  rotate_left
  ·obtain rfl:k=l.length:=by omega
   clear hlt;go_wp2_with fail;go_ret;exact⟨rfl,HBR.out⟩
  obtain⟨x,hx⟩:=zbE hlt;obtain⟨bA,oA,rfl,hbA,hcaA⟩:=HA.out.at_ hx;have a0:=zad HBR.out hbA (oA+k*4) (hcaA 0 _ rfl).leafc;have a1:=zad HBR.out hbA (oA+k*4+1) (hcaA 1 _ rfl).leafc;have a2:=zad HBR.out hbA (oA+k*4+2) (hcaA 2 _ rfl).leafc;have a3:=zad HBR.out hbA (oA+k*4+3) (hcaA 3 _ rfl).leafc;clear hcaA;simp only[zav] at a0;obtain⟨bB,oB,rfl,hbB,hcaB⟩:=HB.out.at_ hx;have b0:=zad HBR.out hbB (oB+k*4) (hcaB 0 _ rfl).leafc;have b1:=zad HBR.out hbB (oB+k*4+1) (hcaB 1 _ rfl).leafc;have b2:=zad HBR.out hbB (oB+k*4+2) (hcaB 2 _ rfl).leafc;have b3:=zad HBR.out hbB (oB+k*4+3) (hcaB 3 _ rfl).leafc;clear hcaB;simp only[zav] at b0;have k0:=kbZ k l.length;clear hx;go_wp2_with fail;go_quiet (fail);go_wp2_with fail;go_roundw
  case rel=>exact⟨k+1,by omega,by go_num,zbt HBR.out _⟩
  case measure=>simp[intOf];omega
theorem zlU (va vb:Value) (l:List zby) (W:World) (ha:Hid (DAt W (fun _=>True) va (.row 4 (l.map zby.cells)))) (hb:Hid (DAt W (fun _=>True) vb (.row 4 (l.map zby.cells)))) (hn:l.length≤140737488355328):
 Calls prog 58 #[va,vb] W fun e w'=>e= .returned (.bool true)∧Below W.heap.size W w':=by
 obtain⟨A,c,rfl,hA⟩:=ha.out.slice;obtain⟨B,d,rfl,hB⟩:=hb.out.slice;have HA:=zaa hA;have HB:=zaa hB;clear hA hB ha hb;rw[List.length_map]
 go_enter func58,ntmps58
 go_wp2_with fail
 go_loopw [5] (fun v wr=> ∃k:Nat,k≤l.length∧v= .int .i64 k∧Below W.heap.size W wr) (fun v _=>l.length-(intOf v).toNat)
 case atStart=>exact⟨0,by omega,rfl,Below.refl _ _⟩
 case round=>
  obtain⟨k,hk,rfl,hbr⟩:=hrel;have HBR:=zaa hbr;clear hbr;by_cases hlt:k<l.length
  rotate_left
  ·obtain rfl:k=l.length:=by omega
   clear hlt;go_wp2_with fail;go_ret;exact⟨rfl,HBR.out⟩
  obtain⟨x,hx⟩:=zbE hlt;obtain⟨bA,oA,rfl,hbA,hcaA⟩:=HA.out.at_ hx;have a0:=zad HBR.out hbA (oA+k*4) (hcaA 0 _ rfl).leafc;have a1:=zad HBR.out hbA (oA+k*4+1) (hcaA 1 _ rfl).leafc;have a2:=zad HBR.out hbA (oA+k*4+2) (hcaA 2 _ rfl).leafc;have a3:=zad HBR.out hbA (oA+k*4+3) (hcaA 3 _ rfl).leafc;clear hcaA;simp only[zav] at a0 a1;obtain⟨bB,oB,rfl,hbB,hcaB⟩:=HB.out.at_ hx;have b0:=zad HBR.out hbB (oB+k*4) (hcaB 0 _ rfl).leafc;have b1:=zad HBR.out hbB (oB+k*4+1) (hcaB 1 _ rfl).leafc;have b2:=zad HBR.out hbB (oB+k*4+2) (hcaB 2 _ rfl).leafc;have b3:=zad HBR.out hbB (oB+k*4+3) (hcaB 3 _ rfl).leafc;clear hcaB;simp only[zav] at b0 b1;have k0:=kbZ k l.length;clear hx;go_wp2_with fail;go_quiet (fail);go_wp2_with fail;go_roundw
  case rel=>exact⟨k+1,by omega,by go_num,zbt HBR.out _⟩
  case measure=>simp[intOf];omega
theorem ziQ (va vb:Value) (l:List zaB) (W:World) (ha:Hid (DAt W (fun _=>True) va (.row 5 (l.map zaB.cells)))) (hb:Hid (DAt W (fun _=>True) vb (.row 5 (l.map zaB.cells)))) (hn:l.length≤140737488355328):
 Calls prog 60 #[va,vb] W fun e w'=>e= .returned (.bool true)∧Below W.heap.size W w':=by
 obtain⟨A,c,rfl,hA⟩:=ha.out.slice;obtain⟨B,d,rfl,hB⟩:=hb.out.slice;have HA:=zaa hA;have HB:=zaa hB;clear hA hB ha hb;rw[List.length_map]
 go_enter func60,ntmps60
 go_wp2_with fail
 go_loopw [5] (fun v wr=> ∃k:Nat,k≤l.length∧v= .int .i64 k∧Below W.heap.size W wr) (fun v _=>l.length-(intOf v).toNat)
 case atStart=>exact⟨0,by omega,rfl,Below.refl _ _⟩
 case round=>
  obtain⟨k,hk,rfl,hbr⟩:=hrel;have HBR:=zaa hbr;clear hbr;by_cases hlt:k<l.length
  rotate_left
  ·obtain rfl:k=l.length:=by omega
   clear hlt;go_wp2_with fail;go_ret;exact⟨rfl,HBR.out⟩
  obtain⟨x,hx⟩:=zbE hlt;obtain⟨bA,oA,rfl,hbA,hcaA⟩:=HA.out.at_ hx;have a0:=zad HBR.out hbA (oA+k*5) (hcaA 0 _ rfl).leafc;have a1:=zad HBR.out hbA (oA+k*5+1) (hcaA 1 _ rfl).leafc;have a2:=zad HBR.out hbA (oA+k*5+2) (hcaA 2 _ rfl).leafc;have a3:=zad HBR.out hbA (oA+k*5+3) (hcaA 3 _ rfl).leafc;have a4:=zad HBR.out hbA (oA+k*5+4) (hcaA 4 _ rfl).leafc;clear hcaA;simp only[zav] at a0 a1;obtain⟨bB,oB,rfl,hbB,hcaB⟩:=HB.out.at_ hx;have b0:=zad HBR.out hbB (oB+k*5) (hcaB 0 _ rfl).leafc;have b1:=zad HBR.out hbB (oB+k*5+1) (hcaB 1 _ rfl).leafc;have b2:=zad HBR.out hbB (oB+k*5+2) (hcaB 2 _ rfl).leafc;have b3:=zad HBR.out hbB (oB+k*5+3) (hcaB 3 _ rfl).leafc;have b4:=zad HBR.out hbB (oB+k*5+4) (hcaB 4 _ rfl).leafc;clear hcaB;simp only[zav] at b0 b1;have k0:=kbZ k l.length;clear hx;go_wp2_with fail;go_quiet (fail);go_wp2_with fail;go_roundw
  case rel=>exact⟨k+1,by omega,by go_num,zbt HBR.out _⟩
  case measure=>simp[intOf];omega
theorem zmC (va vb:Value) (l:List zdt) (W:World) (ha:Hid (DAt W (fun _=>True) va (.row 4 (l.map zdt.cells)))) (hb:Hid (DAt W (fun _=>True) vb (.row 4 (l.map zdt.cells)))) (hn:l.length≤140737488355328):
 Calls prog 62 #[va,vb] W fun e w'=>e= .returned (.bool true)∧Below W.heap.size W w':=by
 obtain⟨A,c,rfl,hA⟩:=ha.out.slice;obtain⟨B,d,rfl,hB⟩:=hb.out.slice;have HA:=zaa hA;have HB:=zaa hB;clear hA hB ha hb;rw[List.length_map]
 go_enter func62,ntmps62
 go_wp2_with fail
 go_loopw [5] (fun v wr=> ∃k:Nat,k≤l.length∧v= .int .i64 k∧Below W.heap.size W wr) (fun v _=>l.length-(intOf v).toNat)
 case atStart=>exact⟨0,by omega,rfl,Below.refl _ _⟩
 case round=>
  obtain⟨k,hk,rfl,hbr⟩:=hrel;have HBR:=zaa hbr;clear hbr;by_cases hlt:k<l.length
  rotate_left
  ·obtain rfl:k=l.length:=by omega
   clear hlt;go_wp2_with fail;go_ret;exact⟨rfl,HBR.out⟩
  obtain⟨x,hx⟩:=zbE hlt;obtain⟨bA,oA,rfl,hbA,hcaA⟩:=HA.out.at_ hx;have a0:=zad HBR.out hbA (oA+k*4) (hcaA 0 _ rfl).leafc;have a1:=zad HBR.out hbA (oA+k*4+1) (hcaA 1 _ rfl).leafc;have a2:=zad HBR.out hbA (oA+k*4+2) (hcaA 2 _ rfl).leafc;have a3:=zad HBR.out hbA (oA+k*4+3) (hcaA 3 _ rfl).leafc;clear hcaA;simp only[zav] at a0 a2;obtain⟨bB,oB,rfl,hbB,hcaB⟩:=HB.out.at_ hx;have b0:=zad HBR.out hbB (oB+k*4) (hcaB 0 _ rfl).leafc;have b1:=zad HBR.out hbB (oB+k*4+1) (hcaB 1 _ rfl).leafc;have b2:=zad HBR.out hbB (oB+k*4+2) (hcaB 2 _ rfl).leafc;have b3:=zad HBR.out hbB (oB+k*4+3) (hcaB 3 _ rfl).leafc;clear hcaB;simp only[zav] at b0 b2;have k0:=kbZ k l.length;clear hx;go_wp2_with fail;go_quiet (fail);go_wp2_with fail;go_roundw
  case rel=>exact⟨k+1,by omega,by go_num,zbt HBR.out _⟩
  case measure=>simp[intOf];omega
end Go.Proofs.YtgbfaompondolaaGreatDoor
