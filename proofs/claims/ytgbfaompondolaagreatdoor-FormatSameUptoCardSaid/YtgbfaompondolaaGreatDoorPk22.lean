/- Merged texts of the walks and of the plain laws on which the statement leans.-/
import Derived.Test.YtgbfaompondolaaGreatDoorPk1
import Derived.Test.YtgbfaompondolaaGreatDoorPk13
set_option maxHeartbeats 4000000
set_option maxRecDepth 100000
namespace Go.Proofs.YtgbfaompondolaaGreatDoor
open Go.RowKit
attribute [local go_sem] zal.cell
theorem naf1 {p1:Prop} (h: ¬p1): ¬p1:=h
theorem naf2 {p1 p2:Prop} (h: ¬(p1∧p2)):(¬p1)∨(p1∧ ¬p2):=by
 by_cases h1:p1
 ·rcases naf1 (fun h2=>h ⟨h1,h2⟩) with k
  ·exact .inr ((⟨h1,k⟩))
 ·exact .inl h1
theorem zoo {p1 p2 p3:Prop} (h: ¬(p1∧p2∧p3)):(¬p1)∨(p1∧ ¬p2)∨(p1∧p2∧ ¬p3):=by
 by_cases h1:p1
 ·rcases naf2 (fun h2=>h ⟨h1,h2⟩) with k|k
  ·exact .inr ((.inl ⟨h1,k⟩))
  ·exact .inr (.inr ((⟨h1,k⟩)))
 ·exact .inl h1
theorem zl8 {p1 p2 p3 p4:Prop} (h: ¬(p1∧p2∧p3∧p4)):(¬p1)∨(p1∧ ¬p2)∨(p1∧p2∧ ¬p3)∨(p1∧p2∧p3∧ ¬p4):=by
 by_cases h1:p1
 ·rcases zoo (fun h2=>h ⟨h1,h2⟩) with k|k|k
  ·exact .inr ((.inl ⟨h1,k⟩))
  ·exact .inr (.inr ((.inl ⟨h1,k⟩)))
  ·exact .inr (.inr (.inr ((⟨h1,k⟩))))
 ·exact .inl h1
theorem naf5 {p1 p2 p3 p4 p5:Prop} (h: ¬(p1∧p2∧p3∧p4∧p5)):(¬p1)∨(p1∧ ¬p2)∨(p1∧p2∧ ¬p3)∨(p1∧p2∧p3∧ ¬p4)∨(p1∧p2∧p3∧p4∧ ¬p5):=by
 by_cases h1:p1
 ·rcases zl8 (fun h2=>h ⟨h1,h2⟩) with k|k|k|k
  ·exact .inr ((.inl ⟨h1,k⟩))
  ·exact .inr (.inr ((.inl ⟨h1,k⟩)))
  ·exact .inr (.inr (.inr ((.inl ⟨h1,k⟩))))
  ·exact .inr (.inr (.inr (.inr ((⟨h1,k⟩)))))
 ·exact .inl h1
theorem naf6 {p1 p2 p3 p4 p5 p6:Prop} (h: ¬(p1∧p2∧p3∧p4∧p5∧p6)):(¬p1)∨(p1∧ ¬p2)∨(p1∧p2∧ ¬p3)∨(p1∧p2∧p3∧ ¬p4)∨(p1∧p2∧p3∧p4∧ ¬p5)∨(p1∧p2∧p3∧p4∧p5∧ ¬p6):=by
 by_cases h1:p1
 ·rcases naf5 (fun h2=>h ⟨h1,h2⟩) with k|k|k|k|k
  ·exact .inr ((.inl ⟨h1,k⟩))
  ·exact .inr (.inr ((.inl ⟨h1,k⟩)))
  ·exact .inr (.inr (.inr ((.inl ⟨h1,k⟩))))
  ·exact .inr (.inr (.inr (.inr ((.inl ⟨h1,k⟩)))))
  ·exact .inr (.inr (.inr (.inr (.inr ((⟨h1,k⟩))))))
 ·exact .inl h1
theorem cells2 {w:World} {b:Nat} {T:TypeId} {v0 v1:Value} (h:w.heap[b]? =some (.cells #[v0,v1] T (0,0))):w.cell? ⟨b,0,none⟩=some v0∧w.cell? ⟨b,1,none⟩=some v1:=⟨cell_of_row _ _ 0 _ _ _ h,cell_of_row _ _ 1 _ _ _ h⟩
theorem zc1 {w:World} {b:Nat} {T:TypeId} {v0 v1 v2:Value} (h:w.heap[b]? =some (.cells #[v0,v1,v2] T (0,0))):w.cell? ⟨b,0,none⟩=some v0∧w.cell? ⟨b,1,none⟩=some v1∧w.cell? ⟨b,2,none⟩=some v2:=⟨cell_of_row _ _ 0 _ _ _ h,cell_of_row _ _ 1 _ _ _ h,cell_of_row _ _ 2 _ _ _ h⟩
theorem zcO {w:World} {b:Nat} {T:TypeId} {v0 v1 v2 v3:Value} (h:w.heap[b]? =some (.cells #[v0,v1,v2,v3] T (0,0))):w.cell? ⟨b,0,none⟩=some v0∧w.cell? ⟨b,1,none⟩=some v1∧w.cell? ⟨b,2,none⟩=some v2∧w.cell? ⟨b,3,none⟩=some v3:=⟨cell_of_row _ _ 0 _ _ _ h,cell_of_row _ _ 1 _ _ _ h,cell_of_row _ _ 2 _ _ _ h,cell_of_row _ _ 3 _ _ _ h⟩
theorem zeU {w:World} {b:Nat} {T:TypeId} {v0 v1 v2 v3 v4:Value} (h:w.heap[b]? =some (.cells #[v0,v1,v2,v3,v4] T (0,0))):w.cell? ⟨b,0,none⟩=some v0∧w.cell? ⟨b,1,none⟩=some v1∧w.cell? ⟨b,2,none⟩=some v2∧w.cell? ⟨b,3,none⟩=some v3∧w.cell? ⟨b,4,none⟩=some v4:=⟨cell_of_row _ _ 0 _ _ _ h,cell_of_row _ _ 1 _ _ _ h,cell_of_row _ _ 2 _ _ _ h,cell_of_row _ _ 3 _ _ _ h,cell_of_row _ _ 4 _ _ _ h⟩
theorem zeR {w:World} {b:Nat} {T:TypeId} {v0 v1 v2 v3 v4 v5 v6:Value} (h:w.heap[b]? =some (.cells #[v0,v1,v2,v3,v4,v5,v6] T (0,0))):w.cell? ⟨b,0,none⟩=some v0∧w.cell? ⟨b,1,none⟩=some v1∧w.cell? ⟨b,2,none⟩=some v2∧w.cell? ⟨b,3,none⟩=some v3∧w.cell? ⟨b,4,none⟩=some v4∧w.cell? ⟨b,5,none⟩=some v5∧w.cell? ⟨b,6,none⟩=some v6:=⟨cell_of_row _ _ 0 _ _ _ h,cell_of_row _ _ 1 _ _ _ h,cell_of_row _ _ 2 _ _ _ h,cell_of_row _ _ 3 _ _ _ h,cell_of_row _ _ 4 _ _ _ h,cell_of_row _ _ 5 _ _ _ h,cell_of_row _ _ 6 _ _ _ h⟩
theorem zaI {w:World} {b:Nat} {T:TypeId} {v0 v1 v2 v3 v4 v5 v6 v7:Value} (h:w.heap[b]? =some (.cells #[v0,v1,v2,v3,v4,v5,v6,v7] T (0,0))):w.cell? ⟨b,0,none⟩=some v0∧w.cell? ⟨b,1,none⟩=some v1∧w.cell? ⟨b,2,none⟩=some v2∧w.cell? ⟨b,3,none⟩=some v3∧w.cell? ⟨b,4,none⟩=some v4∧w.cell? ⟨b,5,none⟩=some v5∧w.cell? ⟨b,6,none⟩=some v6∧w.cell? ⟨b,7,none⟩=some v7:=⟨cell_of_row _ _ 0 _ _ _ h,cell_of_row _ _ 1 _ _ _ h,cell_of_row _ _ 2 _ _ _ h,cell_of_row _ _ 3 _ _ _ h,cell_of_row _ _ 4 _ _ _ h,cell_of_row _ _ 5 _ _ _ h,cell_of_row _ _ 6 _ _ _ h,cell_of_row _ _ 7 _ _ _ h⟩
theorem zaX {w:World} {b:Nat} {T:TypeId} {v0 v1 v2 v3 v4 v5 v6 v7 v8 v9:Value} (h:w.heap[b]? =some (.cells #[v0,v1,v2,v3,v4,v5,v6,v7,v8,v9] T (0,0))):w.cell? ⟨b,0,none⟩=some v0∧w.cell? ⟨b,1,none⟩=some v1∧w.cell? ⟨b,2,none⟩=some v2∧w.cell? ⟨b,3,none⟩=some v3∧w.cell? ⟨b,4,none⟩=some v4∧w.cell? ⟨b,5,none⟩=some v5∧w.cell? ⟨b,6,none⟩=some v6∧w.cell? ⟨b,7,none⟩=some v7∧w.cell? ⟨b,8,none⟩=some v8∧w.cell? ⟨b,9,none⟩=some v9:=⟨cell_of_row _ _ 0 _ _ _ h,cell_of_row _ _ 1 _ _ _ h,cell_of_row _ _ 2 _ _ _ h,cell_of_row _ _ 3 _ _ _ h,cell_of_row _ _ 4 _ _ _ h,cell_of_row _ _ 5 _ _ _ h,cell_of_row _ _ 6 _ _ _ h,cell_of_row _ _ 7 _ _ _ h,cell_of_row _ _ 8 _ _ _ h,cell_of_row _ _ 9 _ _ _ h⟩
structure Two (W0:World) (b1:Nat) (o1:Obj) (b2:Nat) (o2:Obj) (w:World):Prop where
 x:w.heap[b1]? =some o1
 y:w.heap[b2]? =some o2
 b:Below W0.heap.size W0 w
theorem zbp (W:World) (a b:Obj):Two W W.heap.size a (W.heap.size+1) b ((W.alloc a).alloc b) where
 x:=(Below.heap_alloc (W.alloc a) b W.heap.size (by simp)).trans (heap_alloc_new W a)
 y:=by
  have h:=heap_alloc_new (W.alloc a) b
  rw[World.size_alloc] at h
  exact h
 b:=((Below.refl W.heap.size W).alloc (Nat.le_refl _) a).alloc (by simp) b
theorem Two.step {W0:World} {b1 b2:Nat} {o1 o2:Obj} {w w':World} (h:Two W0 b1 o1 b2 o2 w) (hb:Below w.heap.size w w'):Two W0 b1 o1 b2 o2 w' where
 x:=(hb.block _ (zaJ h.x)).trans h.x
 y:=(hb.block _ (zaJ h.y)).trans h.y
 b:=h.b.trans (hb.mono h.b.size)
theorem zmN (va vb:Value) (l m:List zck) (W:World) (ha:Hid (DAt W (fun _=>True) va (.row 2 (l.map zck.cells)))) (hb:Hid (DAt W (fun _=>True) vb (.row 2 (m.map zck.cells)))) (hn:l.length≤140737488355328):
 Calls Tryz.prog 200 #[va,vb] W fun e w'=>zau (l=m) W.heap.size W e w':=by
 obtain⟨A,c,rfl,hA⟩:=ha.out.slice
 obtain⟨B,d,rfl,hB⟩:=hb.out.slice
 have HA:=zaa hA
 have HB:=zaa hB
 clear hA hB ha hb
 rw[List.length_map]
 rw[List.length_map]
 by_cases hlen:l.length=m.length
 rotate_left
 ·have HN:=zaa hlen
  have hne1:=zaK hlen
  clear hlen
  go_enter Tryz.func200,Tryz.ntmps200
  go_wp2_with fail
  go_ret
  exact zau.mk false rfl ⟨(fun h=>by cases h),fun h=>absurd (congrArg List.length h) HN.out⟩ (Below.refl _ _)
 rw[←hlen]
 have HL:=zaa hlen
 clear hlen
 go_enter Tryz.func200,Tryz.ntmps200
 go_wp2_with fail
 go_loopw [5] (fun v wr=> ∃k:Nat,k≤l.length∧v= .int .i64 k∧l.take k=m.take k∧Below W.heap.size W wr) (fun v _=>l.length-(intOf v).toNat)
 case atStart=>exact⟨0,by omega,rfl,rfl,Below.refl _ _⟩
 case round=>
  obtain⟨k,hk,rfl,ht,hbr⟩:=hrel
  have HBR:=zaa hbr
  have HT:=zaa ht
  clear hbr ht
  by_cases hlt:k<l.length
  rotate_left
  ·obtain rfl:k=l.length:=by omega
   clear hlt
   have HE:Hid (l=m):=zaa (by have h:=HT.out;rw[List.take_length,HL.out,List.take_length] at h;exact h)
   go_wp2_with fail
   go_ret
   exact zau.mk true rfl ⟨fun _=>HE.out,fun _=>rfl⟩ HBR.out
  have hlt2:k<m.length:=by have:=HL.out;omega
  obtain⟨x,hx⟩:=za9 hlt
  obtain⟨y,hy⟩:=za9 hlt2
  obtain⟨bA,oA,rfl,hbA,hcaA⟩:=HA.out.at_ hx
  have a0:=zan HBR.out hbA (oA+k*2) (hcaA 0 _ rfl).leafc
  have a1:=zan HBR.out hbA (oA+k*2+1) (hcaA 1 _ rfl).leafc
  clear hcaA
  simp only[zaF] at a0
  obtain⟨bB,oB,rfl,hbB,hcaB⟩:=HB.out.at_ hy
  have b0:=zan HBR.out hbB (oB+k*2) (hcaB 0 _ rfl).leafc
  have b1:=zan HBR.out hbB (oB+k*2+1) (hcaB 1 _ rfl).leafc
  clear hcaB
  simp only[zaF] at b0
  have k0:=kbZ k l.length
  have HXY:=zaa (show x=y→l.take (k+1)=m.take (k+1) from fun h=>by rw[List.take_add_one,List.take_add_one,hx,hy,HT.out,h])
  have HNM:=zaa (show¬x=y→ ¬l=m from fun h1 h2=>h1 (by rw[h2,hy] at hx;exact(Option.some.inj hx).symm))
  clear hx hy hlt2
  by_cases hxy:x=y
  ·have HE:=zaa (HXY.out hxy)
   subst hxy
   go_wp2_with fail
   go_quiet (fail)
   go_wp2_with fail
   go_roundw
   case rel=>exact⟨k+1,by omega,by go_num,HE.out,zaq HBR.out _⟩
   case measure=>simp[intOf];omega
  have HN:=zaa (HNM.out hxy)
  clear HXY HNM HA HB HT HL
  obtain⟨x_unit,x_code⟩:=x
  obtain⟨y_unit,y_code⟩:=y
  dsimp only at a0 b0 a1 b1
  rcases naf2 (fun h:x_unit=y_unit∧x_code=y_code=>hxy (by obtain⟨rfl,rfl⟩:=h;rfl)) with h|⟨rfl,h⟩
  all_goals clear hxy
  all_goals
   first
    |(have hne1:=zaw h;have hne2:=zaG h;clear h)
    |have hne1:=zaP h
    |(have hne1:=zaK h;clear h)
    |(have hne1:=zbu h;clear h)
  all_goals
   go_wp2_with fail
   go_quiet (fail)
   go_wp2_with fail
   go_ret
   exact zau.mk false rfl ⟨(fun h=>by cases h),fun h=>absurd h HN.out⟩ (zaq HBR.out _)
theorem zmp (va vb:Value) (l m:List (List UInt8)) (W:World) (ha:Hid (DAt W (fun _=>True) va (.row 1 (zao l)))) (hb:Hid (DAt W (fun _=>True) vb (.row 1 (zao m)))) (hn:l.length≤140737488355328):
 Calls Tryz.prog 201 #[va,vb] W fun e w'=>zau (l=m) W.heap.size W e w':=by
 obtain⟨A,c,rfl,hA⟩:=ha.out.slice
 obtain⟨B,d,rfl,hB⟩:=hb.out.slice
 have HA:=zaa hA
 have HB:=zaa hB
 clear hA hB ha hb
 rw[show(zao l).length=l.length by simp[zao]]
 rw[show(zao m).length=m.length by simp[zao]]
 by_cases hlen:l.length=m.length
 rotate_left
 ·have HN:=zaa hlen
  have hne1:=zaK hlen
  clear hlen
  go_enter Tryz.func201,Tryz.ntmps201
  go_wp2_with fail
  go_ret
  exact zau.mk false rfl ⟨(fun h=>by cases h),fun h=>absurd (congrArg List.length h) HN.out⟩ (Below.refl _ _)
 rw[←hlen]
 have HL:=zaa hlen
 clear hlen
 go_enter Tryz.func201,Tryz.ntmps201
 go_wp2_with fail
 go_loopw [5] (fun v wr=> ∃k:Nat,k≤l.length∧v= .int .i64 k∧l.take k=m.take k∧Below W.heap.size W wr) (fun v _=>l.length-(intOf v).toNat)
 case atStart=>exact⟨0,by omega,rfl,rfl,Below.refl _ _⟩
 case round=>
  obtain⟨k,hk,rfl,ht,hbr⟩:=hrel
  have HBR:=zaa hbr
  have HT:=zaa ht
  clear hbr ht
  by_cases hlt:k<l.length
  rotate_left
  ·obtain rfl:k=l.length:=by omega
   clear hlt
   have HE:Hid (l=m):=zaa (by have h:=HT.out;rw[List.take_length,HL.out,List.take_length] at h;exact h)
   go_wp2_with fail
   go_ret
   exact zau.mk true rfl ⟨fun _=>HE.out,fun _=>rfl⟩ HBR.out
  have hlt2:k<m.length:=by have:=HL.out;omega
  obtain⟨x,hx⟩:=za9 hlt
  obtain⟨y,hy⟩:=za9 hlt2
  obtain⟨bA,oA,rfl,hbA,hcaA⟩:=HA.out.at_ (cells:=fun s:List UInt8=>[lS s]) hx
  have a0:=zan HBR.out hbA (oA+k) (by simpa using(hcaA 0 _ rfl).leafc)
  clear hcaA
  simp only[zaF] at a0
  obtain⟨bB,oB,rfl,hbB,hcaB⟩:=HB.out.at_ (cells:=fun s:List UInt8=>[lS s]) hy
  have b0:=zan HBR.out hbB (oB+k) (by simpa using(hcaB 0 _ rfl).leafc)
  clear hcaB
  simp only[zaF] at b0
  have k0:=kbZ k l.length
  have HXY:=zaa (show x=y→l.take (k+1)=m.take (k+1) from fun h=>by rw[List.take_add_one,List.take_add_one,hx,hy,HT.out,h])
  have HNM:=zaa (show¬x=y→ ¬l=m from fun h1 h2=>h1 (by rw[h2,hy] at hx;exact(Option.some.inj hx).symm))
  clear hx hy hlt2
  by_cases hxy:x=y
  ·have HE:=zaa (HXY.out hxy)
   subst hxy
   go_wp2_with fail
   go_quiet (fail)
   go_wp2_with fail
   go_roundw
   case rel=>exact⟨k+1,by omega,by go_num,HE.out,zaq HBR.out _⟩
   case measure=>simp[intOf];omega
  have HN:=zaa (HNM.out hxy)
  clear HXY HNM HA HB HT HL
  have h:=hxy
  clear hxy
  all_goals
   first
    |(have hne1:=zaw h;have hne2:=zaG h;clear h)
    |have hne1:=zaP h
    |(have hne1:=zaK h;clear h)
    |(have hne1:=zbu h;clear h)
  all_goals
   go_wp2_with fail
   go_quiet (fail)
   go_wp2_with fail
   go_ret
   exact zau.mk false rfl ⟨(fun h=>by cases h),fun h=>absurd h HN.out⟩ (zaq HBR.out _)
theorem zmq (va vb:Value) (l m:List zbU) (W:World) (ha:Hid (DAt W (fun _=>True) va (.row 4 (l.map zbU.cells)))) (hb:Hid (DAt W (fun _=>True) vb (.row 4 (m.map zbU.cells)))) (hn:l.length≤140737488355328):
 Calls Tryz.prog 323 #[va,vb] W fun e w'=>zau (l=m) W.heap.size W e w':=by
 obtain⟨A,c,rfl,hA⟩:=ha.out.slice
 obtain⟨B,d,rfl,hB⟩:=hb.out.slice
 have HA:=zaa hA
 have HB:=zaa hB
 clear hA hB ha hb
 rw[List.length_map]
 rw[List.length_map]
 by_cases hlen:l.length=m.length
 rotate_left
 ·have HN:=zaa hlen
  have hne1:=zaK hlen
  clear hlen
  go_enter Tryz.func323,Tryz.ntmps323
  go_wp2_with fail
  go_ret
  exact zau.mk false rfl ⟨(fun h=>by cases h),fun h=>absurd (congrArg List.length h) HN.out⟩ (Below.refl _ _)
 rw[←hlen]
 have HL:=zaa hlen
 clear hlen
 go_enter Tryz.func323,Tryz.ntmps323
 go_wp2_with fail
 go_loopw [5] (fun v wr=> ∃k:Nat,k≤l.length∧v= .int .i64 k∧l.take k=m.take k∧Below W.heap.size W wr) (fun v _=>l.length-(intOf v).toNat)
 case atStart=>exact⟨0,by omega,rfl,rfl,Below.refl _ _⟩
 case round=>
  obtain⟨k,hk,rfl,ht,hbr⟩:=hrel
  have HBR:=zaa hbr
  have HT:=zaa ht
  clear hbr ht
  by_cases hlt:k<l.length
  rotate_left
  ·obtain rfl:k=l.length:=by omega
   clear hlt
   have HE:Hid (l=m):=zaa (by have h:=HT.out;rw[List.take_length,HL.out,List.take_length] at h;exact h)
   go_wp2_with fail
   go_ret
   exact zau.mk true rfl ⟨fun _=>HE.out,fun _=>rfl⟩ HBR.out
  have hlt2:k<m.length:=by have:=HL.out;omega
  obtain⟨x,hx⟩:=za9 hlt
  obtain⟨y,hy⟩:=za9 hlt2
  obtain⟨bA,oA,rfl,hbA,hcaA⟩:=HA.out.at_ hx
  have a0:=zan HBR.out hbA (oA+k*4) (hcaA 0 _ rfl).leafc
  have a1:=zan HBR.out hbA (oA+k*4+1) (hcaA 1 _ rfl).leafc
  have a2:=zan HBR.out hbA (oA+k*4+2) (hcaA 2 _ rfl).leafc
  have a3:=zan HBR.out hbA (oA+k*4+3) (hcaA 3 _ rfl).leafc
  clear hcaA
  obtain⟨bB,oB,rfl,hbB,hcaB⟩:=HB.out.at_ hy
  have b0:=zan HBR.out hbB (oB+k*4) (hcaB 0 _ rfl).leafc
  have b1:=zan HBR.out hbB (oB+k*4+1) (hcaB 1 _ rfl).leafc
  have b2:=zan HBR.out hbB (oB+k*4+2) (hcaB 2 _ rfl).leafc
  have b3:=zan HBR.out hbB (oB+k*4+3) (hcaB 3 _ rfl).leafc
  clear hcaB
  have k0:=kbZ k l.length
  have HXY:=zaa (show x=y→l.take (k+1)=m.take (k+1) from fun h=>by rw[List.take_add_one,List.take_add_one,hx,hy,HT.out,h])
  have HNM:=zaa (show¬x=y→ ¬l=m from fun h1 h2=>h1 (by rw[h2,hy] at hx;exact(Option.some.inj hx).symm))
  clear hx hy hlt2
  by_cases hxy:x=y
  ·have HE:=zaa (HXY.out hxy)
   subst hxy
   go_wp2_with fail
   go_quiet (fail)
   go_wp2_with fail
   go_roundw
   case rel=>exact⟨k+1,by omega,by go_num,HE.out,zaq HBR.out _⟩
   case measure=>simp[intOf];omega
  have HN:=zaa (HNM.out hxy)
  clear HXY HNM HA HB HT HL
  obtain⟨x_op,x_a,x_b,x_c⟩:=x
  obtain⟨y_op,y_a,y_b,y_c⟩:=y
  dsimp only at a0 b0 a1 b1 a2 b2 a3 b3
  rcases zl8 (fun h:x_op=y_op∧x_a=y_a∧x_b=y_b∧x_c=y_c=>hxy (by obtain⟨rfl,rfl,rfl,rfl⟩:=h;rfl)) with h|⟨rfl,h⟩|⟨rfl,rfl,h⟩|⟨rfl,rfl,rfl,h⟩
  all_goals clear hxy
  all_goals
   first
    |(have hne1:=zaw h;have hne2:=zaG h;clear h)
    |have hne1:=zaP h
    |(have hne1:=zaK h;clear h)
    |(have hne1:=zbu h;clear h)
  all_goals
   go_wp2_with fail
   go_quiet (fail)
   go_wp2_with fail
   go_ret
   exact zau.mk false rfl ⟨(fun h=>by cases h),fun h=>absurd h HN.out⟩ (zaq HBR.out _)
theorem zja (va vb:Value) (l m:List Int) (W:World) (ha:Hid (DAt W (fun _=>True) va (.row 1 (zah l)))) (hb:Hid (DAt W (fun _=>True) vb (.row 1 (zah m)))) (hn:l.length≤140737488355328):
 Calls Tryz.prog 278 #[va,vb] W fun e w'=>zau (l=m) W.heap.size W e w':=by
 obtain⟨A,c,rfl,hA⟩:=ha.out.slice
 obtain⟨B,d,rfl,hB⟩:=hb.out.slice
 have HA:=zaa hA
 have HB:=zaa hB
 clear hA hB ha hb
 rw[show(zah l).length=l.length by simp[zah]]
 rw[show(zah m).length=m.length by simp[zah]]
 by_cases hlen:l.length=m.length
 rotate_left
 ·have HN:=zaa hlen
  have hne1:=zaK hlen
  clear hlen
  go_enter Tryz.func278,Tryz.ntmps278
  go_wp2_with fail
  go_ret
  exact zau.mk false rfl ⟨(fun h=>by cases h),fun h=>absurd (congrArg List.length h) HN.out⟩ (Below.refl _ _)
 rw[←hlen]
 have HL:=zaa hlen
 clear hlen
 go_enter Tryz.func278,Tryz.ntmps278
 go_wp2_with fail
 go_loopw [5] (fun v wr=> ∃k:Nat,k≤l.length∧v= .int .i64 k∧l.take k=m.take k∧Below W.heap.size W wr) (fun v _=>l.length-(intOf v).toNat)
 case atStart=>exact⟨0,by omega,rfl,rfl,Below.refl _ _⟩
 case round=>
  obtain⟨k,hk,rfl,ht,hbr⟩:=hrel
  have HBR:=zaa hbr
  have HT:=zaa ht
  clear hbr ht
  by_cases hlt:k<l.length
  rotate_left
  ·obtain rfl:k=l.length:=by omega
   clear hlt
   have HE:Hid (l=m):=zaa (by have h:=HT.out;rw[List.take_length,HL.out,List.take_length] at h;exact h)
   go_wp2_with fail
   go_ret
   exact zau.mk true rfl ⟨fun _=>HE.out,fun _=>rfl⟩ HBR.out
  have hlt2:k<m.length:=by have:=HL.out;omega
  obtain⟨x,hx⟩:=za9 hlt
  obtain⟨y,hy⟩:=za9 hlt2
  obtain⟨bA,oA,rfl,hbA,hcaA⟩:=HA.out.at_ (cells:=fun n:Int=>[lI n]) hx
  have a0:=zan HBR.out hbA (oA+k) (by simpa using(hcaA 0 _ rfl).leafc)
  clear hcaA
  obtain⟨bB,oB,rfl,hbB,hcaB⟩:=HB.out.at_ (cells:=fun n:Int=>[lI n]) hy
  have b0:=zan HBR.out hbB (oB+k) (by simpa using(hcaB 0 _ rfl).leafc)
  clear hcaB
  have k0:=kbZ k l.length
  have HXY:=zaa (show x=y→l.take (k+1)=m.take (k+1) from fun h=>by rw[List.take_add_one,List.take_add_one,hx,hy,HT.out,h])
  have HNM:=zaa (show¬x=y→ ¬l=m from fun h1 h2=>h1 (by rw[h2,hy] at hx;exact(Option.some.inj hx).symm))
  clear hx hy hlt2
  by_cases hxy:x=y
  ·have HE:=zaa (HXY.out hxy)
   subst hxy
   go_wp2_with fail
   go_quiet (fail)
   go_wp2_with fail
   go_roundw
   case rel=>exact⟨k+1,by omega,by go_num,HE.out,zaq HBR.out _⟩
   case measure=>simp[intOf];omega
  have HN:=zaa (HNM.out hxy)
  clear HXY HNM HA HB HT HL
  have h:=hxy
  clear hxy
  all_goals
   first
    |(have hne1:=zaw h;have hne2:=zaG h;clear h)
    |have hne1:=zaP h
    |(have hne1:=zaK h;clear h)
    |(have hne1:=zbu h;clear h)
  all_goals
   go_wp2_with fail
   go_quiet (fail)
   go_wp2_with fail
   go_ret
   exact zau.mk false rfl ⟨(fun h=>by cases h),fun h=>absurd h HN.out⟩ (zaq HBR.out _)
theorem zkU (va vb:Value) (l m:List zaT) (W:World) (ha:Hid (DAt W (fun _=>True) va (.row 6 (l.map zaT.cells)))) (hb:Hid (DAt W (fun _=>True) vb (.row 6 (m.map zaT.cells)))) (hn:l.length≤140737488355328):
 Calls Tryz.prog 279 #[va,vb] W fun e w'=>zau (l=m) W.heap.size W e w':=by
 obtain⟨A,c,rfl,hA⟩:=ha.out.slice
 obtain⟨B,d,rfl,hB⟩:=hb.out.slice
 have HA:=zaa hA
 have HB:=zaa hB
 clear hA hB ha hb
 rw[List.length_map]
 rw[List.length_map]
 by_cases hlen:l.length=m.length
 rotate_left
 ·have HN:=zaa hlen
  have hne1:=zaK hlen
  clear hlen
  go_enter Tryz.func279,Tryz.ntmps279
  go_wp2_with fail
  go_ret
  exact zau.mk false rfl ⟨(fun h=>by cases h),fun h=>absurd (congrArg List.length h) HN.out⟩ (Below.refl _ _)
 rw[←hlen]
 have HL:=zaa hlen
 clear hlen
 go_enter Tryz.func279,Tryz.ntmps279
 go_wp2_with fail
 go_loopw [5] (fun v wr=> ∃k:Nat,k≤l.length∧v= .int .i64 k∧l.take k=m.take k∧Below W.heap.size W wr) (fun v _=>l.length-(intOf v).toNat)
 case atStart=>exact⟨0,by omega,rfl,rfl,Below.refl _ _⟩
 case round=>
  obtain⟨k,hk,rfl,ht,hbr⟩:=hrel
  have HBR:=zaa hbr
  have HT:=zaa ht
  clear hbr ht
  by_cases hlt:k<l.length
  rotate_left
  ·obtain rfl:k=l.length:=by omega
   clear hlt
   have HE:Hid (l=m):=zaa (by have h:=HT.out;rw[List.take_length,HL.out,List.take_length] at h;exact h)
   go_wp2_with fail
   go_ret
   exact zau.mk true rfl ⟨fun _=>HE.out,fun _=>rfl⟩ HBR.out
  have hlt2:k<m.length:=by have:=HL.out;omega
  obtain⟨x,hx⟩:=za9 hlt
  obtain⟨y,hy⟩:=za9 hlt2
  obtain⟨bA,oA,rfl,hbA,hcaA⟩:=HA.out.at_ hx
  have a0:=zan HBR.out hbA (oA+k*6) (hcaA 0 _ rfl).leafc
  have a1:=zan HBR.out hbA (oA+k*6+1) (hcaA 1 _ rfl).leafc
  have a2:=zan HBR.out hbA (oA+k*6+2) (hcaA 2 _ rfl).leafc
  have a3:=zan HBR.out hbA (oA+k*6+3) (hcaA 3 _ rfl).leafc
  have a4:=zan HBR.out hbA (oA+k*6+4) (hcaA 4 _ rfl).leafc
  have a5:=zan HBR.out hbA (oA+k*6+5) (hcaA 5 _ rfl).leafc
  clear hcaA
  simp only[zaF] at a0
  obtain⟨bB,oB,rfl,hbB,hcaB⟩:=HB.out.at_ hy
  have b0:=zan HBR.out hbB (oB+k*6) (hcaB 0 _ rfl).leafc
  have b1:=zan HBR.out hbB (oB+k*6+1) (hcaB 1 _ rfl).leafc
  have b2:=zan HBR.out hbB (oB+k*6+2) (hcaB 2 _ rfl).leafc
  have b3:=zan HBR.out hbB (oB+k*6+3) (hcaB 3 _ rfl).leafc
  have b4:=zan HBR.out hbB (oB+k*6+4) (hcaB 4 _ rfl).leafc
  have b5:=zan HBR.out hbB (oB+k*6+5) (hcaB 5 _ rfl).leafc
  clear hcaB
  simp only[zaF] at b0
  have k0:=kbZ k l.length
  have HXY:=zaa (show x=y→l.take (k+1)=m.take (k+1) from fun h=>by rw[List.take_add_one,List.take_add_one,hx,hy,HT.out,h])
  have HNM:=zaa (show¬x=y→ ¬l=m from fun h1 h2=>h1 (by rw[h2,hy] at hx;exact(Option.some.inj hx).symm))
  clear hx hy hlt2
  by_cases hxy:x=y
  ·have HE:=zaa (HXY.out hxy)
   subst hxy
   go_wp2_with fail
   go_quiet (fail)
   go_wp2_with fail
   go_roundw
   case rel=>exact⟨k+1,by omega,by go_num,HE.out,zaq HBR.out _⟩
   case measure=>simp[intOf];omega
  have HN:=zaa (HNM.out hxy)
  clear HXY HNM HA HB HT HL
  obtain⟨x_name,x_kind,x_out,x_size,x_depth,x_refresh⟩:=x
  obtain⟨y_name,y_kind,y_out,y_size,y_depth,y_refresh⟩:=y
  dsimp only at a0 b0 a1 b1 a2 b2 a3 b3 a4 b4 a5 b5
  rcases naf6 (fun h:x_name=y_name∧x_kind=y_kind∧x_out=y_out∧x_size=y_size∧x_depth=y_depth∧x_refresh=y_refresh=>hxy (by obtain⟨rfl,rfl,rfl,rfl,rfl,rfl⟩:=h;rfl)) with h|⟨rfl,h⟩|⟨rfl,rfl,h⟩|⟨rfl,rfl,rfl,h⟩|⟨rfl,rfl,rfl,rfl,h⟩|⟨rfl,rfl,rfl,rfl,rfl,h⟩
  all_goals clear hxy
  all_goals
   first
    |(have hne1:=zaw h;have hne2:=zaG h;clear h)
    |have hne1:=zaP h
    |(have hne1:=zaK h;clear h)
    |(have hne1:=zbu h;clear h)
  all_goals
   go_wp2_with fail
   go_quiet (fail)
   go_wp2_with fail
   go_ret
   exact zau.mk false rfl ⟨(fun h=>by cases h),fun h=>absurd h HN.out⟩ (zaq HBR.out _)
theorem ziG (va vb:Value) (l m:List zb2) (W:World) (ha:Hid (DAt W (fun _=>True) va (.row 3 (l.map zb2.cells)))) (hb:Hid (DAt W (fun _=>True) vb (.row 3 (m.map zb2.cells)))) (hn:l.length≤140737488355328):
 Calls Tryz.prog 199 #[va,vb] W fun e w'=>zau (l=m) W.heap.size W e w':=by
 obtain⟨A,c,rfl,hA⟩:=ha.out.slice
 obtain⟨B,d,rfl,hB⟩:=hb.out.slice
 have HA:=zaa hA
 have HB:=zaa hB
 clear hA hB ha hb
 rw[List.length_map]
 rw[List.length_map]
 by_cases hlen:l.length=m.length
 rotate_left
 ·have HN:=zaa hlen
  have hne1:=zaK hlen
  clear hlen
  go_enter Tryz.func199,Tryz.ntmps199
  go_wp2_with fail
  go_ret
  exact zau.mk false rfl ⟨(fun h=>by cases h),fun h=>absurd (congrArg List.length h) HN.out⟩ (Below.refl _ _)
 rw[←hlen]
 have HL:=zaa hlen
 clear hlen
 go_enter Tryz.func199,Tryz.ntmps199
 go_wp2_with fail
 go_loopw [5] (fun v wr=> ∃k:Nat,k≤l.length∧v= .int .i64 k∧l.take k=m.take k∧Below W.heap.size W wr) (fun v _=>l.length-(intOf v).toNat)
 case atStart=>exact⟨0,by omega,rfl,rfl,Below.refl _ _⟩
 case round=>
  obtain⟨k,hk,rfl,ht,hbr⟩:=hrel
  have HBR:=zaa hbr
  have HT:=zaa ht
  clear hbr ht
  by_cases hlt:k<l.length
  rotate_left
  ·obtain rfl:k=l.length:=by omega
   clear hlt
   have HE:Hid (l=m):=zaa (by have h:=HT.out;rw[List.take_length,HL.out,List.take_length] at h;exact h)
   go_wp2_with fail
   go_ret
   exact zau.mk true rfl ⟨fun _=>HE.out,fun _=>rfl⟩ HBR.out
  have hlt2:k<m.length:=by have:=HL.out;omega
  obtain⟨x,hx⟩:=za9 hlt
  obtain⟨y,hy⟩:=za9 hlt2
  obtain⟨bA,oA,rfl,hbA,hcaA⟩:=HA.out.at_ hx
  have a0:=zan HBR.out hbA (oA+k*3) (hcaA 0 _ rfl).leafc
  have a1:=zan HBR.out hbA (oA+k*3+1) (hcaA 1 _ rfl).leafc
  have a2:=zan HBR.out hbA (oA+k*3+2) (hcaA 2 _ rfl).leafc
  clear hcaA
  simp only[zaF] at a0 a1 a2
  obtain⟨bB,oB,rfl,hbB,hcaB⟩:=HB.out.at_ hy
  have b0:=zan HBR.out hbB (oB+k*3) (hcaB 0 _ rfl).leafc
  have b1:=zan HBR.out hbB (oB+k*3+1) (hcaB 1 _ rfl).leafc
  have b2:=zan HBR.out hbB (oB+k*3+2) (hcaB 2 _ rfl).leafc
  clear hcaB
  simp only[zaF] at b0 b1 b2
  have k0:=kbZ k l.length
  have HXY:=zaa (show x=y→l.take (k+1)=m.take (k+1) from fun h=>by rw[List.take_add_one,List.take_add_one,hx,hy,HT.out,h])
  have HNM:=zaa (show¬x=y→ ¬l=m from fun h1 h2=>h1 (by rw[h2,hy] at hx;exact(Option.some.inj hx).symm))
  clear hx hy hlt2
  by_cases hxy:x=y
  ·have HE:=zaa (HXY.out hxy)
   subst hxy
   go_wp2_with fail
   go_quiet (fail)
   go_wp2_with fail
   go_roundw
   case rel=>exact⟨k+1,by omega,by go_num,HE.out,zaq HBR.out _⟩
   case measure=>simp[intOf];omega
  have HN:=zaa (HNM.out hxy)
  clear HXY HNM HA HB HT HL
  obtain⟨x_m,x_p,x_o⟩:=x
  obtain⟨y_m,y_p,y_o⟩:=y
  dsimp only at a0 b0 a1 b1 a2 b2
  rcases zoo (fun h:x_m=y_m∧x_p=y_p∧x_o=y_o=>hxy (by obtain⟨rfl,rfl,rfl⟩:=h;rfl)) with h|⟨rfl,h⟩|⟨rfl,rfl,h⟩
  all_goals clear hxy
  all_goals
   first
    |(have hne1:=zaw h;have hne2:=zaG h;clear h)
    |have hne1:=zaP h
    |(have hne1:=zaK h;clear h)
    |(have hne1:=zbu h;clear h)
  all_goals
   go_wp2_with fail
   go_quiet (fail)
   go_wp2_with fail
   go_ret
   exact zau.mk false rfl ⟨(fun h=>by cases h),fun h=>absurd h HN.out⟩ (zaq HBR.out _)
theorem zod (va vb:Value) (l m:List SwD) (W:World) (ha:Hid (DAt W (fun _=>True) va (.row 4 (l.map SwD.cells)))) (hb:Hid (DAt W (fun _=>True) vb (.row 4 (m.map SwD.cells)))) (hn:l.length≤140737488355328):
 Calls Tryz.prog 57 #[va,vb] W fun e w'=>zau (l=m) W.heap.size W e w':=by
 obtain⟨A,c,rfl,hA⟩:=ha.out.slice
 obtain⟨B,d,rfl,hB⟩:=hb.out.slice
 have HA:=zaa hA
 have HB:=zaa hB
 clear hA hB ha hb
 rw[List.length_map]
 rw[List.length_map]
 by_cases hlen:l.length=m.length
 rotate_left
 ·have HN:=zaa hlen
  have hne1:=zaK hlen
  clear hlen
  go_enter Tryz.func57,Tryz.ntmps57
  go_wp2_with fail
  go_ret
  exact zau.mk false rfl ⟨(fun h=>by cases h),fun h=>absurd (congrArg List.length h) HN.out⟩ (Below.refl _ _)
 rw[←hlen]
 have HL:=zaa hlen
 clear hlen
 go_enter Tryz.func57,Tryz.ntmps57
 go_wp2_with fail
 go_loopw [5] (fun v wr=> ∃k:Nat,k≤l.length∧v= .int .i64 k∧l.take k=m.take k∧Below W.heap.size W wr) (fun v _=>l.length-(intOf v).toNat)
 case atStart=>exact⟨0,by omega,rfl,rfl,Below.refl _ _⟩
 case round=>
  obtain⟨k,hk,rfl,ht,hbr⟩:=hrel
  have HBR:=zaa hbr
  have HT:=zaa ht
  clear hbr ht
  by_cases hlt:k<l.length
  rotate_left
  ·obtain rfl:k=l.length:=by omega
   clear hlt
   have HE:Hid (l=m):=zaa (by have h:=HT.out;rw[List.take_length,HL.out,List.take_length] at h;exact h)
   go_wp2_with fail
   go_ret
   exact zau.mk true rfl ⟨fun _=>HE.out,fun _=>rfl⟩ HBR.out
  have hlt2:k<m.length:=by have:=HL.out;omega
  obtain⟨x,hx⟩:=za9 hlt
  obtain⟨y,hy⟩:=za9 hlt2
  obtain⟨bA,oA,rfl,hbA,hcaA⟩:=HA.out.at_ hx
  have a0:=zan HBR.out hbA (oA+k*4) (hcaA 0 _ rfl).leafc
  have a1:=zan HBR.out hbA (oA+k*4+1) (hcaA 1 _ rfl).leafc
  have a2:=zan HBR.out hbA (oA+k*4+2) (hcaA 2 _ rfl).leafc
  have a3:=zan HBR.out hbA (oA+k*4+3) (hcaA 3 _ rfl).leafc
  clear hcaA
  simp only[zaF] at a0
  obtain⟨bB,oB,rfl,hbB,hcaB⟩:=HB.out.at_ hy
  have b0:=zan HBR.out hbB (oB+k*4) (hcaB 0 _ rfl).leafc
  have b1:=zan HBR.out hbB (oB+k*4+1) (hcaB 1 _ rfl).leafc
  have b2:=zan HBR.out hbB (oB+k*4+2) (hcaB 2 _ rfl).leafc
  have b3:=zan HBR.out hbB (oB+k*4+3) (hcaB 3 _ rfl).leafc
  clear hcaB
  simp only[zaF] at b0
  have k0:=kbZ k l.length
  have HXY:=zaa (show x=y→l.take (k+1)=m.take (k+1) from fun h=>by rw[List.take_add_one,List.take_add_one,hx,hy,HT.out,h])
  have HNM:=zaa (show¬x=y→ ¬l=m from fun h1 h2=>h1 (by rw[h2,hy] at hx;exact(Option.some.inj hx).symm))
  clear hx hy hlt2
  by_cases hxy:x=y
  ·have HE:=zaa (HXY.out hxy)
   subst hxy
   go_wp2_with fail
   go_quiet (fail)
   go_wp2_with fail
   go_roundw
   case rel=>exact⟨k+1,by omega,by go_num,HE.out,zaq HBR.out _⟩
   case measure=>simp[intOf];omega
  have HN:=zaa (HNM.out hxy)
  clear HXY HNM HA HB HT HL
  obtain⟨x_name,x_net,x_delay,x_store⟩:=x
  obtain⟨y_name,y_net,y_delay,y_store⟩:=y
  dsimp only at a0 b0 a1 b1 a2 b2 a3 b3
  rcases zl8 (fun h:x_name=y_name∧x_net=y_net∧x_delay=y_delay∧x_store=y_store=>hxy (by obtain⟨rfl,rfl,rfl,rfl⟩:=h;rfl)) with h|⟨rfl,h⟩|⟨rfl,rfl,h⟩|⟨rfl,rfl,rfl,h⟩
  all_goals clear hxy
  all_goals
   first
    |(have hne1:=zaw h;have hne2:=zaG h;clear h)
    |have hne1:=zaP h
    |(have hne1:=zaK h;clear h)
    |(have hne1:=zbu h;clear h)
  all_goals
   go_wp2_with fail
   go_quiet (fail)
   go_wp2_with fail
   go_ret
   exact zau.mk false rfl ⟨(fun h=>by cases h),fun h=>absurd h HN.out⟩ (zaq HBR.out _)
theorem zkJ (va vb:Value) (l m:List zbw) (W:World) (ha:Hid (DAt W (fun _=>True) va (.row 4 (l.map zbw.cells)))) (hb:Hid (DAt W (fun _=>True) vb (.row 4 (m.map zbw.cells)))) (hn:l.length≤140737488355328):
 Calls Tryz.prog 58 #[va,vb] W fun e w'=>zau (l=m) W.heap.size W e w':=by
 obtain⟨A,c,rfl,hA⟩:=ha.out.slice
 obtain⟨B,d,rfl,hB⟩:=hb.out.slice
 have HA:=zaa hA
 have HB:=zaa hB
 clear hA hB ha hb
 rw[List.length_map]
 rw[List.length_map]
 by_cases hlen:l.length=m.length
 rotate_left
 ·have HN:=zaa hlen
  have hne1:=zaK hlen
  clear hlen
  go_enter Tryz.func58,Tryz.ntmps58
  go_wp2_with fail
  go_ret
  exact zau.mk false rfl ⟨(fun h=>by cases h),fun h=>absurd (congrArg List.length h) HN.out⟩ (Below.refl _ _)
 rw[←hlen]
 have HL:=zaa hlen
 clear hlen
 go_enter Tryz.func58,Tryz.ntmps58
 go_wp2_with fail
 go_loopw [5] (fun v wr=> ∃k:Nat,k≤l.length∧v= .int .i64 k∧l.take k=m.take k∧Below W.heap.size W wr) (fun v _=>l.length-(intOf v).toNat)
 case atStart=>exact⟨0,by omega,rfl,rfl,Below.refl _ _⟩
 case round=>
  obtain⟨k,hk,rfl,ht,hbr⟩:=hrel
  have HBR:=zaa hbr
  have HT:=zaa ht
  clear hbr ht
  by_cases hlt:k<l.length
  rotate_left
  ·obtain rfl:k=l.length:=by omega
   clear hlt
   have HE:Hid (l=m):=zaa (by have h:=HT.out;rw[List.take_length,HL.out,List.take_length] at h;exact h)
   go_wp2_with fail
   go_ret
   exact zau.mk true rfl ⟨fun _=>HE.out,fun _=>rfl⟩ HBR.out
  have hlt2:k<m.length:=by have:=HL.out;omega
  obtain⟨x,hx⟩:=za9 hlt
  obtain⟨y,hy⟩:=za9 hlt2
  obtain⟨bA,oA,rfl,hbA,hcaA⟩:=HA.out.at_ hx
  have a0:=zan HBR.out hbA (oA+k*4) (hcaA 0 _ rfl).leafc
  have a1:=zan HBR.out hbA (oA+k*4+1) (hcaA 1 _ rfl).leafc
  have a2:=zan HBR.out hbA (oA+k*4+2) (hcaA 2 _ rfl).leafc
  have a3:=zan HBR.out hbA (oA+k*4+3) (hcaA 3 _ rfl).leafc
  clear hcaA
  simp only[zaF] at a0 a1
  obtain⟨bB,oB,rfl,hbB,hcaB⟩:=HB.out.at_ hy
  have b0:=zan HBR.out hbB (oB+k*4) (hcaB 0 _ rfl).leafc
  have b1:=zan HBR.out hbB (oB+k*4+1) (hcaB 1 _ rfl).leafc
  have b2:=zan HBR.out hbB (oB+k*4+2) (hcaB 2 _ rfl).leafc
  have b3:=zan HBR.out hbB (oB+k*4+3) (hcaB 3 _ rfl).leafc
  clear hcaB
  simp only[zaF] at b0 b1
  have k0:=kbZ k l.length
  have HXY:=zaa (show x=y→l.take (k+1)=m.take (k+1) from fun h=>by rw[List.take_add_one,List.take_add_one,hx,hy,HT.out,h])
  have HNM:=zaa (show¬x=y→ ¬l=m from fun h1 h2=>h1 (by rw[h2,hy] at hx;exact(Option.some.inj hx).symm))
  clear hx hy hlt2
  by_cases hxy:x=y
  ·have HE:=zaa (HXY.out hxy)
   subst hxy
   go_wp2_with fail
   go_quiet (fail)
   go_wp2_with fail
   go_roundw
   case rel=>exact⟨k+1,by omega,by go_num,HE.out,zaq HBR.out _⟩
   case measure=>simp[intOf];omega
  have HN:=zaa (HNM.out hxy)
  clear HXY HNM HA HB HT HL
  obtain⟨x_a,x_b,x_net,x_slow⟩:=x
  obtain⟨y_a,y_b,y_net,y_slow⟩:=y
  dsimp only at a0 b0 a1 b1 a2 b2 a3 b3
  rcases zl8 (fun h:x_a=y_a∧x_b=y_b∧x_net=y_net∧x_slow=y_slow=>hxy (by obtain⟨rfl,rfl,rfl,rfl⟩:=h;rfl)) with h|⟨rfl,h⟩|⟨rfl,rfl,h⟩|⟨rfl,rfl,rfl,h⟩
  all_goals clear hxy
  all_goals
   first
    |(have hne1:=zaw h;have hne2:=zaG h;clear h)
    |have hne1:=zaP h
    |(have hne1:=zaK h;clear h)
    |(have hne1:=zbu h;clear h)
  all_goals
   go_wp2_with fail
   go_quiet (fail)
   go_wp2_with fail
   go_ret
   exact zau.mk false rfl ⟨(fun h=>by cases h),fun h=>absurd h HN.out⟩ (zaq HBR.out _)
theorem zie (va vb:Value) (l m:List zaH) (W:World) (ha:Hid (DAt W (fun _=>True) va (.row 5 (l.map zaH.cells)))) (hb:Hid (DAt W (fun _=>True) vb (.row 5 (m.map zaH.cells)))) (hn:l.length≤140737488355328):
 Calls Tryz.prog 60 #[va,vb] W fun e w'=>zau (l=m) W.heap.size W e w':=by
 obtain⟨A,c,rfl,hA⟩:=ha.out.slice
 obtain⟨B,d,rfl,hB⟩:=hb.out.slice
 have HA:=zaa hA
 have HB:=zaa hB
 clear hA hB ha hb
 rw[List.length_map]
 rw[List.length_map]
 by_cases hlen:l.length=m.length
 rotate_left
 ·have HN:=zaa hlen
  have hne1:=zaK hlen
  clear hlen
  go_enter Tryz.func60,Tryz.ntmps60
  go_wp2_with fail
  go_ret
  exact zau.mk false rfl ⟨(fun h=>by cases h),fun h=>absurd (congrArg List.length h) HN.out⟩ (Below.refl _ _)
 rw[←hlen]
 have HL:=zaa hlen
 clear hlen
 go_enter Tryz.func60,Tryz.ntmps60
 go_wp2_with fail
 go_loopw [5] (fun v wr=> ∃k:Nat,k≤l.length∧v= .int .i64 k∧l.take k=m.take k∧Below W.heap.size W wr) (fun v _=>l.length-(intOf v).toNat)
 case atStart=>exact⟨0,by omega,rfl,rfl,Below.refl _ _⟩
 case round=>
  obtain⟨k,hk,rfl,ht,hbr⟩:=hrel
  have HBR:=zaa hbr
  have HT:=zaa ht
  clear hbr ht
  by_cases hlt:k<l.length
  rotate_left
  ·obtain rfl:k=l.length:=by omega
   clear hlt
   have HE:Hid (l=m):=zaa (by have h:=HT.out;rw[List.take_length,HL.out,List.take_length] at h;exact h)
   go_wp2_with fail
   go_ret
   exact zau.mk true rfl ⟨fun _=>HE.out,fun _=>rfl⟩ HBR.out
  have hlt2:k<m.length:=by have:=HL.out;omega
  obtain⟨x,hx⟩:=za9 hlt
  obtain⟨y,hy⟩:=za9 hlt2
  obtain⟨bA,oA,rfl,hbA,hcaA⟩:=HA.out.at_ hx
  have a0:=zan HBR.out hbA (oA+k*5) (hcaA 0 _ rfl).leafc
  have a1:=zan HBR.out hbA (oA+k*5+1) (hcaA 1 _ rfl).leafc
  have a2:=zan HBR.out hbA (oA+k*5+2) (hcaA 2 _ rfl).leafc
  have a3:=zan HBR.out hbA (oA+k*5+3) (hcaA 3 _ rfl).leafc
  have a4:=zan HBR.out hbA (oA+k*5+4) (hcaA 4 _ rfl).leafc
  clear hcaA
  simp only[zaF] at a0 a1
  obtain⟨bB,oB,rfl,hbB,hcaB⟩:=HB.out.at_ hy
  have b0:=zan HBR.out hbB (oB+k*5) (hcaB 0 _ rfl).leafc
  have b1:=zan HBR.out hbB (oB+k*5+1) (hcaB 1 _ rfl).leafc
  have b2:=zan HBR.out hbB (oB+k*5+2) (hcaB 2 _ rfl).leafc
  have b3:=zan HBR.out hbB (oB+k*5+3) (hcaB 3 _ rfl).leafc
  have b4:=zan HBR.out hbB (oB+k*5+4) (hcaB 4 _ rfl).leafc
  clear hcaB
  simp only[zaF] at b0 b1
  have k0:=kbZ k l.length
  have HXY:=zaa (show x=y→l.take (k+1)=m.take (k+1) from fun h=>by rw[List.take_add_one,List.take_add_one,hx,hy,HT.out,h])
  have HNM:=zaa (show¬x=y→ ¬l=m from fun h1 h2=>h1 (by rw[h2,hy] at hx;exact(Option.some.inj hx).symm))
  clear hx hy hlt2
  by_cases hxy:x=y
  ·have HE:=zaa (HXY.out hxy)
   subst hxy
   go_wp2_with fail
   go_quiet (fail)
   go_wp2_with fail
   go_roundw
   case rel=>exact⟨k+1,by omega,by go_num,HE.out,zaq HBR.out _⟩
   case measure=>simp[intOf];omega
  have HN:=zaa (HNM.out hxy)
  clear HXY HNM HA HB HT HL
  obtain⟨x_module,x_part,x_fault,x_level,x_do⟩:=x
  obtain⟨y_module,y_part,y_fault,y_level,y_do⟩:=y
  dsimp only at a0 b0 a1 b1 a2 b2 a3 b3 a4 b4
  rcases naf5 (fun h:x_module=y_module∧x_part=y_part∧x_fault=y_fault∧x_level=y_level∧x_do=y_do=>hxy (by obtain⟨rfl,rfl,rfl,rfl,rfl⟩:=h;rfl)) with h|⟨rfl,h⟩|⟨rfl,rfl,h⟩|⟨rfl,rfl,rfl,h⟩|⟨rfl,rfl,rfl,rfl,h⟩
  all_goals clear hxy
  all_goals
   first
    |(have hne1:=zaw h;have hne2:=zaG h;clear h)
    |have hne1:=zaP h
    |(have hne1:=zaK h;clear h)
    |(have hne1:=zbu h;clear h)
  all_goals
   go_wp2_with fail
   go_quiet (fail)
   go_wp2_with fail
   go_ret
   exact zau.mk false rfl ⟨(fun h=>by cases h),fun h=>absurd h HN.out⟩ (zaq HBR.out _)
theorem zmT (va vb:Value) (l m:List zc7) (W:World) (ha:Hid (DAt W (fun _=>True) va (.row 4 (l.map zc7.cells)))) (hb:Hid (DAt W (fun _=>True) vb (.row 4 (m.map zc7.cells)))) (hn:l.length≤140737488355328):
 Calls Tryz.prog 62 #[va,vb] W fun e w'=>zau (l=m) W.heap.size W e w':=by
 obtain⟨A,c,rfl,hA⟩:=ha.out.slice
 obtain⟨B,d,rfl,hB⟩:=hb.out.slice
 have HA:=zaa hA
 have HB:=zaa hB
 clear hA hB ha hb
 rw[List.length_map]
 rw[List.length_map]
 by_cases hlen:l.length=m.length
 rotate_left
 ·have HN:=zaa hlen
  have hne1:=zaK hlen
  clear hlen
  go_enter Tryz.func62,Tryz.ntmps62
  go_wp2_with fail
  go_ret
  exact zau.mk false rfl ⟨(fun h=>by cases h),fun h=>absurd (congrArg List.length h) HN.out⟩ (Below.refl _ _)
 rw[←hlen]
 have HL:=zaa hlen
 clear hlen
 go_enter Tryz.func62,Tryz.ntmps62
 go_wp2_with fail
 go_loopw [5] (fun v wr=> ∃k:Nat,k≤l.length∧v= .int .i64 k∧l.take k=m.take k∧Below W.heap.size W wr) (fun v _=>l.length-(intOf v).toNat)
 case atStart=>exact⟨0,by omega,rfl,rfl,Below.refl _ _⟩
 case round=>
  obtain⟨k,hk,rfl,ht,hbr⟩:=hrel
  have HBR:=zaa hbr
  have HT:=zaa ht
  clear hbr ht
  by_cases hlt:k<l.length
  rotate_left
  ·obtain rfl:k=l.length:=by omega
   clear hlt
   have HE:Hid (l=m):=zaa (by have h:=HT.out;rw[List.take_length,HL.out,List.take_length] at h;exact h)
   go_wp2_with fail
   go_ret
   exact zau.mk true rfl ⟨fun _=>HE.out,fun _=>rfl⟩ HBR.out
  have hlt2:k<m.length:=by have:=HL.out;omega
  obtain⟨x,hx⟩:=za9 hlt
  obtain⟨y,hy⟩:=za9 hlt2
  obtain⟨bA,oA,rfl,hbA,hcaA⟩:=HA.out.at_ hx
  have a0:=zan HBR.out hbA (oA+k*4) (hcaA 0 _ rfl).leafc
  have a1:=zan HBR.out hbA (oA+k*4+1) (hcaA 1 _ rfl).leafc
  have a2:=zan HBR.out hbA (oA+k*4+2) (hcaA 2 _ rfl).leafc
  have a3:=zan HBR.out hbA (oA+k*4+3) (hcaA 3 _ rfl).leafc
  clear hcaA
  simp only[zaF] at a0 a2
  obtain⟨bB,oB,rfl,hbB,hcaB⟩:=HB.out.at_ hy
  have b0:=zan HBR.out hbB (oB+k*4) (hcaB 0 _ rfl).leafc
  have b1:=zan HBR.out hbB (oB+k*4+1) (hcaB 1 _ rfl).leafc
  have b2:=zan HBR.out hbB (oB+k*4+2) (hcaB 2 _ rfl).leafc
  have b3:=zan HBR.out hbB (oB+k*4+3) (hcaB 3 _ rfl).leafc
  clear hcaB
  simp only[zaF] at b0 b2
  have k0:=kbZ k l.length
  have HXY:=zaa (show x=y→l.take (k+1)=m.take (k+1) from fun h=>by rw[List.take_add_one,List.take_add_one,hx,hy,HT.out,h])
  have HNM:=zaa (show¬x=y→ ¬l=m from fun h1 h2=>h1 (by rw[h2,hy] at hx;exact(Option.some.inj hx).symm))
  clear hx hy hlt2
  by_cases hxy:x=y
  ·have HE:=zaa (HXY.out hxy)
   subst hxy
   go_wp2_with fail
   go_quiet (fail)
   go_wp2_with fail
   go_roundw
   case rel=>exact⟨k+1,by omega,by go_num,HE.out,zaq HBR.out _⟩
   case measure=>simp[intOf];omega
  have HN:=zaa (HNM.out hxy)
  clear HXY HNM HA HB HT HL
  obtain⟨x_a,x_va,x_b,x_vb⟩:=x
  obtain⟨y_a,y_va,y_b,y_vb⟩:=y
  dsimp only at a0 b0 a1 b1 a2 b2 a3 b3
  rcases zl8 (fun h:x_a=y_a∧x_va=y_va∧x_b=y_b∧x_vb=y_vb=>hxy (by obtain⟨rfl,rfl,rfl,rfl⟩:=h;rfl)) with h|⟨rfl,h⟩|⟨rfl,rfl,h⟩|⟨rfl,rfl,rfl,h⟩
  all_goals clear hxy
  all_goals
   first
    |(have hne1:=zaw h;have hne2:=zaG h;clear h)
    |have hne1:=zaP h
    |(have hne1:=zaK h;clear h)
    |(have hne1:=zbu h;clear h)
  all_goals
   go_wp2_with fail
   go_quiet (fail)
   go_wp2_with fail
   go_ret
   exact zau.mk false rfl ⟨(fun h=>by cases h),fun h=>absurd h HN.out⟩ (zaq HBR.out _)
end Go.Proofs.YtgbfaompondolaaGreatDoor
