/- Merged texts of the walks and of the plain laws on which the statement leans.-/
import Derived.Test.YtgbfaompondolaaGreatDoorPk1
import Derived.Test.YtgbfaompondolaaGreatDoorPk19
import Derived.Test.YtgbfaompondolaaGreatDoorRows
import Derived.Test.YtgbfaompondolaaGreatDoorPk11
import Derived.Test.YtgbfaompondolaaGreatDoorPk15
set_option maxHeartbeats 4000000
set_option maxRecDepth 100000
namespace Go.Proofs.YtgbfaompondolaaGreatDoor
open Go.ChangeShapes Go.WideShapes Go.Deep Go.RowKit
section
variable {H:Type} {enc:TypeId×Value→H} {W:World}
theorem zam (d:DataW H):1≤Rows.uptoBulk d:=by
 unfold Rows.uptoBulk
 split<;>omega
theorem ziq {α:Type} {Q:α→DataW H→Prop} (f:α→Nat) (hf: ∀x y,Q x y→f x≤3*Rows.uptoBulk y): ∀(l:List α) (ds:List (DataW H)),ds.length=l.length→(∀(i:Nat) x y,l[i]? =some x→ds[i]? =some y→Q x y)→(l.map f).sum≤3*Rows.uptoBulkAll ds
 |[],ds,_,_=>by simp
 |x::l,[],h,_=>by simp at h
 |x::l,d::ds,h,hq=>by
  have h1:=hf x d (hq 0 x d rfl rfl)
  have h2:=ziq f hf l ds (by simpa using h) (fun i a b ha hb=>hq (i+1) a b (by simpa using ha) (by simpa using hb))
  simp only[List.map_cons,List.sum_cons,Rows.uptoBulkAll]
  omega
theorem SlQ.sum {α:Type} {Q:α→DataW H→Prop} {l:List α} {d:DataW H} (h:SlQ Q l d) (f:α→Nat) (hf: ∀x y,Q x y→f x≤3*Rows.uptoBulk y):(l.map f).sum+3≤3*Rows.uptoBulk d:=by
 rcases h.2 with⟨rfl,rfl⟩|⟨ds,spare,rfl,hl,hq⟩
 ·simp[Rows.uptoBulk]
 ·have:=ziq f hf l ds hl hq
  simp only[Rows.uptoBulk]
  omega
theorem SlQ.len {α:Type} {Q:α→DataW H→Prop} {l:List α} {d:DataW H} (h:SlQ Q l d):l.length+1≤Rows.uptoBulk d:=by
 have:=h.sum (fun _=>3) (fun x y _=>by have:=zam y;omega)
 rw[zbj] at this
 omega
theorem zkD {ds:List (DataW H)} {y:DataW H} (h:y∈ds):Rows.uptoBulk y≤Rows.uptoBulkAll ds:=by
 induction ds with
 |nil=>simp at h
 |cons d ds ih=>
  simp only[Rows.uptoBulkAll]
  rcases List.mem_cons.1 h with rfl|h
  ·omega
  ·have:=ih h
   omega
theorem SlQ.each {α:Type} {Q:α→DataW H→Prop} {l:List α} {d:DataW H} (h:SlQ Q l d) {x:α} (hx:x∈l): ∃y,Q x y∧Rows.uptoBulk y≤Rows.uptoBulk d:=by
 rcases h.2 with⟨rfl,rfl⟩|⟨ds,spare,rfl,hl,hq⟩
 ·simp at hx
 ·obtain⟨i,hi,e⟩:=List.getElem_of_mem hx
  have hy:ds[i]? =some (ds[i]'(by omega)):=List.getElem?_eq_getElem (by omega)
  refine⟨_,hq i x _ (by rw[List.getElem?_eq_getElem hi,e]) hy,?_⟩
  have:=zkD (List.mem_of_getElem? hy)
  simp only[Rows.uptoBulk]
  omega
theorem zd8 {α:Type} (f g:α→Nat) (l:List α):(l.map fun x=>f x+g x).sum=(l.map f).sum+(l.map g).sum:=by
 induction l with
 |nil=>rfl
 |cons a l ih=>
  simp only[List.map_cons,List.sum_cons] at ih ⊢
  omega
def zoh (x:zb2) (d:DataW H):Prop:=zdK x+2≤3*Rows.uptoBulk d
theorem zfI:Opn H enc W 55 zb2.cells zoh:=by
 refine za1 [(9,1),(9,1),(9,1)] Tryz.underlying55 (by kernel_rfl) (by kernel_rfl) (by kernel_rfl) (fun us ds h=> ?_)
 obtain⟨x0,vs0,us,d0,ds,rfl,rfl,c0,q0,h⟩:=zbB.cons (zbE Tryz.underlying9) h
 obtain⟨x1,vs1,us,d1,ds,rfl,rfl,c1,q1,h⟩:=zbB.cons (zbE Tryz.underlying9) h
 obtain⟨x2,vs2,us,d2,ds,rfl,rfl,c2,q2,h⟩:=zbB.cons (zbE Tryz.underlying9) h
 obtain⟨rfl,rfl⟩:=h.nil
 have bb:Rows.uptoBulk (.agg [d0,d1,d2])=Rows.uptoBulk d0+Rows.uptoBulk d1+Rows.uptoBulk d2+1:=by simp[Rows.uptoBulk,Rows.uptoBulkAll];try omega
 have p0:=zam d0
 have p1:=zam d1
 have p2:=zam d2
 have b0:Rows.uptoBulk d0=x0.length+1:=by rw[q0];simp[Rows.uptoBulk]
 clear q0
 have b1:Rows.uptoBulk d1=x1.length+1:=by rw[q1];simp[Rows.uptoBulk]
 clear q1
 have b2:Rows.uptoBulk d2=x2.length+1:=by rw[q2];simp[Rows.uptoBulk]
 clear q2
 refine⟨⟨x0,x1,x2⟩,c0.append (c1.append (c2.append zab.nil)),?_⟩
 unfold zoh zdK
 rw[bb]
 show x0.length+x1.length+x2.length+2≤_
 omega
def QIns (x:zbU) (_d:DataW H):Prop:=x.op≤255
theorem zmv:Opn H enc W 78 zbU.cells QIns:=by
 refine za1 [(5,1),(3,1),(3,1),(3,1)] Tryz.underlying78 (by kernel_rfl) (by kernel_rfl) (by kernel_rfl) (fun us ds h=> ?_)
 obtain⟨x0,vs0,us,d0,ds,rfl,rfl,c0,q0,h⟩:=zbB.cons (zgg Tryz.underlying5) h
 obtain⟨x1,vs1,us,d1,ds,rfl,rfl,c1,q1,h⟩:=zbB.cons (zaZ Tryz.underlying3) h
 obtain⟨x2,vs2,us,d2,ds,rfl,rfl,c2,q2,h⟩:=zbB.cons (zaZ Tryz.underlying3) h
 obtain⟨x3,vs3,us,d3,ds,rfl,rfl,c3,q3,h⟩:=zbB.cons (zaZ Tryz.underlying3) h
 obtain⟨rfl,rfl⟩:=h.nil
 have bb:Rows.uptoBulk (.agg [d0,d1,d2,d3])=Rows.uptoBulk d0+Rows.uptoBulk d1+Rows.uptoBulk d2+Rows.uptoBulk d3+1:=by simp[Rows.uptoBulk,Rows.uptoBulkAll];try omega
 have p0:=zam d0
 have p1:=zam d1
 have p2:=zam d2
 have p3:=zam d3
 refine⟨⟨x0,x1,x2,x3⟩,c0.append (c1.append (c2.append (c3.append zab.nil))),?_⟩
 exact q0
def zn8 (x:zaT) (d:DataW H):Prop:=2+x.name.length≤3*Rows.uptoBulk d
theorem zjV:Opn H enc W 51 zaT.cells zn8:=by
 refine za1 [(9,1),(5,1),(4,1),(3,1),(3,1),(3,1)] Tryz.underlying51 (by kernel_rfl) (by kernel_rfl) (by kernel_rfl) (fun us ds h=> ?_)
 obtain⟨x0,vs0,us,d0,ds,rfl,rfl,c0,q0,h⟩:=zbB.cons (zbE Tryz.underlying9) h
 obtain⟨x1,vs1,us,d1,ds,rfl,rfl,c1,q1,h⟩:=zbB.cons (zgg Tryz.underlying5) h
 obtain⟨x2,vs2,us,d2,ds,rfl,rfl,c2,q2,h⟩:=zbB.cons (zkH Tryz.underlying4) h
 obtain⟨x3,vs3,us,d3,ds,rfl,rfl,c3,q3,h⟩:=zbB.cons (zaZ Tryz.underlying3) h
 obtain⟨x4,vs4,us,d4,ds,rfl,rfl,c4,q4,h⟩:=zbB.cons (zaZ Tryz.underlying3) h
 obtain⟨x5,vs5,us,d5,ds,rfl,rfl,c5,q5,h⟩:=zbB.cons (zaZ Tryz.underlying3) h
 obtain⟨rfl,rfl⟩:=h.nil
 have bb:Rows.uptoBulk (.agg [d0,d1,d2,d3,d4,d5])=Rows.uptoBulk d0+Rows.uptoBulk d1+Rows.uptoBulk d2+Rows.uptoBulk d3+Rows.uptoBulk d4+Rows.uptoBulk d5+1:=by simp[Rows.uptoBulk,Rows.uptoBulkAll];try omega
 have p0:=zam d0
 have p1:=zam d1
 have p2:=zam d2
 have p3:=zam d3
 have p4:=zam d4
 have p5:=zam d5
 have b0:Rows.uptoBulk d0=x0.length+1:=by rw[q0];simp[Rows.uptoBulk]
 clear q0
 refine⟨⟨x0,x1,x2,x3,x4,x5⟩,c0.append (c1.append (c2.append (c3.append (c4.append (c5.append zab.nil))))),?_⟩
 unfold zn8
 rw[bb]
 show 2+x0.length≤_
 omega
def znE (x:zaY) (d:DataW H):Prop:=(Rows.uptoBulk d≤1048576→zbJ x)∧zcE x+x.name.length≤3*Rows.uptoBulk d
theorem zkC:Opn H enc W 53 zaY.cells znE:=by
 refine za1 [(9,1),(3,1),(3,1),(3,1),(35,1)] Tryz.underlying53 (by kernel_rfl) (by kernel_rfl) (by kernel_rfl) (fun us ds h=> ?_)
 obtain⟨x0,vs0,us,d0,ds,rfl,rfl,c0,q0,h⟩:=zbB.cons (zbE Tryz.underlying9) h
 obtain⟨x1,vs1,us,d1,ds,rfl,rfl,c1,q1,h⟩:=zbB.cons (zaZ Tryz.underlying3) h
 obtain⟨x2,vs2,us,d2,ds,rfl,rfl,c2,q2,h⟩:=zbB.cons (zaZ Tryz.underlying3) h
 obtain⟨x3,vs3,us,d3,ds,rfl,rfl,c3,q3,h⟩:=zbB.cons (zaZ Tryz.underlying3) h
 obtain⟨x4,vs4,us,d4,ds,rfl,rfl,c4,q4,h⟩:=zbB.cons (za0 (size:=4) Tryz.underlying35 (by kernel_rfl) (by decide) (fun _=>rfl) zmv) h
 obtain⟨rfl,rfl⟩:=h.nil
 have bb:Rows.uptoBulk (.agg [d0,d1,d2,d3,d4])=Rows.uptoBulk d0+Rows.uptoBulk d1+Rows.uptoBulk d2+Rows.uptoBulk d3+Rows.uptoBulk d4+1:=by simp[Rows.uptoBulk,Rows.uptoBulkAll];try omega
 have p0:=zam d0
 have p1:=zam d1
 have p2:=zam d2
 have p3:=zam d3
 have p4:=zam d4
 have b0:Rows.uptoBulk d0=x0.length+1:=by rw[q0];simp[Rows.uptoBulk]
 clear q0
 refine⟨⟨x0,x1,x2,x3,x4⟩,c0.append (c1.append (c2.append (c3.append (c4.append zab.nil)))),?_⟩
 have l4:=q4.len
 rw[znE,bb]
 refine⟨fun hb=>⟨by show x4.length≤_;omega,fun z hz=> ?_⟩,by show 2+x4.length+x0.length≤_;omega⟩
 obtain⟨y,hy, -⟩:=q4.each hz
 exact hy
def zn7 (x:zaM) (d:DataW H):Prop:=(Rows.uptoBulk d≤1048576→zbv x)∧zcA x+zdn x≤3*Rows.uptoBulk d
theorem zlm:Opn H enc W 49 zaM.cells zn7:=by
 refine za1 [(9,1),(3,1),(3,1),(3,1),(45,1),(3,1),(3,1),(45,1),(46,1),(47,1)] Tryz.underlying49 (by kernel_rfl) (by kernel_rfl) (by kernel_rfl) (fun us ds h=> ?_)
 obtain⟨x0,vs0,us,d0,ds,rfl,rfl,c0,q0,h⟩:=zbB.cons (zbE Tryz.underlying9) h
 obtain⟨x1,vs1,us,d1,ds,rfl,rfl,c1,q1,h⟩:=zbB.cons (zaZ Tryz.underlying3) h
 obtain⟨x2,vs2,us,d2,ds,rfl,rfl,c2,q2,h⟩:=zbB.cons (zaZ Tryz.underlying3) h
 obtain⟨x3,vs3,us,d3,ds,rfl,rfl,c3,q3,h⟩:=zbB.cons (zaZ Tryz.underlying3) h
 obtain⟨x4,vs4,us,d4,ds,rfl,rfl,c4,q4,h⟩:=zbB.cons (za0 (size:=1) Tryz.underlying45 (by kernel_rfl) (by decide) (fun _=>rfl) (zaZ Tryz.underlying3)) h
 obtain⟨x5,vs5,us,d5,ds,rfl,rfl,c5,q5,h⟩:=zbB.cons (zaZ Tryz.underlying3) h
 obtain⟨x6,vs6,us,d6,ds,rfl,rfl,c6,q6,h⟩:=zbB.cons (zaZ Tryz.underlying3) h
 obtain⟨x7,vs7,us,d7,ds,rfl,rfl,c7,q7,h⟩:=zbB.cons (za0 (size:=1) Tryz.underlying45 (by kernel_rfl) (by decide) (fun _=>rfl) (zaZ Tryz.underlying3)) h
 obtain⟨x8,vs8,us,d8,ds,rfl,rfl,c8,q8,h⟩:=zbB.cons (za0 (size:=6) Tryz.underlying46 (by kernel_rfl) (by decide) (fun _=>rfl) zjV) h
 obtain⟨x9,vs9,us,d9,ds,rfl,rfl,c9,q9,h⟩:=zbB.cons (za0 (size:=5) Tryz.underlying47 (by kernel_rfl) (by decide) (fun _=>rfl) zkC) h
 obtain⟨rfl,rfl⟩:=h.nil
 have bb:Rows.uptoBulk (.agg [d0,d1,d2,d3,d4,d5,d6,d7,d8,d9])=Rows.uptoBulk d0+Rows.uptoBulk d1+Rows.uptoBulk d2+Rows.uptoBulk d3+Rows.uptoBulk d4+Rows.uptoBulk d5+Rows.uptoBulk d6+Rows.uptoBulk d7+Rows.uptoBulk d8+Rows.uptoBulk d9+1:=by simp[Rows.uptoBulk,Rows.uptoBulkAll];try omega
 have p0:=zam d0
 have p1:=zam d1
 have p2:=zam d2
 have p3:=zam d3
 have p4:=zam d4
 have p5:=zam d5
 have p6:=zam d6
 have p7:=zam d7
 have p8:=zam d8
 have p9:=zam d9
 have b0:Rows.uptoBulk d0=x0.length+1:=by rw[q0];simp[Rows.uptoBulk]
 clear q0
 refine⟨⟨x0,x1,x2,x3,x4,x5,x6,x7,x8,x9⟩,c0.append (c1.append (c2.append (c3.append (c4.append (c5.append (c6.append (c7.append (c8.append (c9.append zab.nil))))))))),?_⟩
 have l4:=q4.len
 have l7:=q7.len
 have l8:=q8.len
 have l9:=q9.len
 have s8:=q8.sum (fun y=>2+y.name.length) (fun x y h=>h)
 have s9:=q9.sum (fun y=>zcE y+y.name.length) (fun x y h=>h.2)
 rw[zd8] at s8 s9
 rw[zbj] at s8
 rw[zn7,bb]
 refine⟨fun hb=>⟨by show x4.length≤_;omega,by show x7.length≤_;omega,by show x8.length≤_;omega,by show x9.length≤_;omega,fun z hz=> ?_⟩,?_⟩
 ·obtain⟨y,hy,hyb⟩:=q9.each hz
  exact hy.1 (by omega)
 ·show 2+x4.length+x7.length+2*x8.length+(x9.map zcE).sum+(x0.length+(x8.map fun y=>y.name.length).sum+(x9.map fun y=>y.name.length).sum)≤_
  omega
def QMod (x:zcl) (d:DataW H):Prop:=(Rows.uptoBulk d≤1048576→zb8 x)∧ze6 x+zgq x≤3*Rows.uptoBulk d
theorem zlK:Opn H enc W 44 zcl.cells QMod:=by
 refine za1 [(9,1),(3,1),(3,1),(42,1)] Tryz.underlying44 (by kernel_rfl) (by kernel_rfl) (by kernel_rfl) (fun us ds h=> ?_)
 obtain⟨x0,vs0,us,d0,ds,rfl,rfl,c0,q0,h⟩:=zbB.cons (zbE Tryz.underlying9) h
 obtain⟨x1,vs1,us,d1,ds,rfl,rfl,c1,q1,h⟩:=zbB.cons (zaZ Tryz.underlying3) h
 obtain⟨x2,vs2,us,d2,ds,rfl,rfl,c2,q2,h⟩:=zbB.cons (zaZ Tryz.underlying3) h
 obtain⟨x3,vs3,us,d3,ds,rfl,rfl,c3,q3,h⟩:=zbB.cons (za0 (size:=10) Tryz.underlying42 (by kernel_rfl) (by decide) (fun _=>rfl) zlm) h
 obtain⟨rfl,rfl⟩:=h.nil
 have bb:Rows.uptoBulk (.agg [d0,d1,d2,d3])=Rows.uptoBulk d0+Rows.uptoBulk d1+Rows.uptoBulk d2+Rows.uptoBulk d3+1:=by simp[Rows.uptoBulk,Rows.uptoBulkAll];try omega
 have p0:=zam d0
 have p1:=zam d1
 have p2:=zam d2
 have p3:=zam d3
 have b0:Rows.uptoBulk d0=x0.length+1:=by rw[q0];simp[Rows.uptoBulk]
 clear q0
 refine⟨⟨x0,x1,x2,x3⟩,c0.append (c1.append (c2.append (c3.append zab.nil))),?_⟩
 have l3:=q3.len
 have s3:=q3.sum (fun y=>zcA y+zdn y) (fun x y h=>h.2)
 rw[zd8] at s3
 rw[QMod,bb]
 refine⟨fun hb=>⟨by show x3.length≤_;omega,fun z hz=> ?_⟩,?_⟩
 ·obtain⟨y,hy,hyb⟩:=q3.each hz
  exact hy.1 (by omega)
 ·show 1+(x3.map zcA).sum+(x0.length+(x3.map zdn).sum)≤_
  omega
def znQ (x:zbd) (d:DataW H):Prop:=(Rows.uptoBulk d≤1048576→x.to.length≤140737488355328)∧zcQ x+zdL x≤3*Rows.uptoBulk d
theorem zkz:Opn H enc W 58 zbd.cells znQ:=by
 refine za1 [(55,3),(56,1)] Tryz.underlying58 (by kernel_rfl) (by kernel_rfl) (by kernel_rfl) (fun us ds h=> ?_)
 obtain⟨x0,vs0,us,d0,ds,rfl,rfl,c0,q0,h⟩:=zbB.cons zfI h
 obtain⟨x1,vs1,us,d1,ds,rfl,rfl,c1,q1,h⟩:=zbB.cons (za0 (size:=3) Tryz.underlying56 (by kernel_rfl) (by decide) (fun _=>rfl) zfI) h
 obtain⟨rfl,rfl⟩:=h.nil
 have bb:Rows.uptoBulk (.agg [d0,d1])=Rows.uptoBulk d0+Rows.uptoBulk d1+1:=by simp[Rows.uptoBulk,Rows.uptoBulkAll];try omega
 have p0:=zam d0
 have p1:=zam d1
 refine⟨⟨x0,x1⟩,c0.append (c1.append zab.nil),?_⟩
 have l1:=q1.len
 have s1:=q1.sum (fun y=>zdK y+2) (fun x y h=>h)
 rw[zd8,zbj] at s1
 unfold zoh at q0
 rw[znQ,bb]
 refine⟨fun hb=>by show x1.length≤_;omega,?_⟩
 show 2+2*x1.length+(zdK x0+(x1.map zdK).sum)≤_
 omega
def QSw (x:SwD) (d:DataW H):Prop:=2+x.name.length≤3*Rows.uptoBulk d
theorem znJ:Opn H enc W 69 SwD.cells QSw:=by
 refine za1 [(9,1),(3,1),(3,1),(3,1)] Tryz.underlying69 (by kernel_rfl) (by kernel_rfl) (by kernel_rfl) (fun us ds h=> ?_)
 obtain⟨x0,vs0,us,d0,ds,rfl,rfl,c0,q0,h⟩:=zbB.cons (zbE Tryz.underlying9) h
 obtain⟨x1,vs1,us,d1,ds,rfl,rfl,c1,q1,h⟩:=zbB.cons (zaZ Tryz.underlying3) h
 obtain⟨x2,vs2,us,d2,ds,rfl,rfl,c2,q2,h⟩:=zbB.cons (zaZ Tryz.underlying3) h
 obtain⟨x3,vs3,us,d3,ds,rfl,rfl,c3,q3,h⟩:=zbB.cons (zaZ Tryz.underlying3) h
 obtain⟨rfl,rfl⟩:=h.nil
 have bb:Rows.uptoBulk (.agg [d0,d1,d2,d3])=Rows.uptoBulk d0+Rows.uptoBulk d1+Rows.uptoBulk d2+Rows.uptoBulk d3+1:=by simp[Rows.uptoBulk,Rows.uptoBulkAll];try omega
 have p0:=zam d0
 have p1:=zam d1
 have p2:=zam d2
 have p3:=zam d3
 have b0:Rows.uptoBulk d0=x0.length+1:=by rw[q0];simp[Rows.uptoBulk]
 clear q0
 refine⟨⟨x0,x1,x2,x3⟩,c0.append (c1.append (c2.append (c3.append zab.nil))),?_⟩
 unfold QSw
 rw[bb]
 show 2+x0.length≤_
 omega
def zm9 (x:zbw) (d:DataW H):Prop:=3+zdM x≤3*Rows.uptoBulk d
theorem zkL:Opn H enc W 71 zbw.cells zm9:=by
 refine za1 [(9,1),(9,1),(3,1),(3,1)] Tryz.underlying71 (by kernel_rfl) (by kernel_rfl) (by kernel_rfl) (fun us ds h=> ?_)
 obtain⟨x0,vs0,us,d0,ds,rfl,rfl,c0,q0,h⟩:=zbB.cons (zbE Tryz.underlying9) h
 obtain⟨x1,vs1,us,d1,ds,rfl,rfl,c1,q1,h⟩:=zbB.cons (zbE Tryz.underlying9) h
 obtain⟨x2,vs2,us,d2,ds,rfl,rfl,c2,q2,h⟩:=zbB.cons (zaZ Tryz.underlying3) h
 obtain⟨x3,vs3,us,d3,ds,rfl,rfl,c3,q3,h⟩:=zbB.cons (zaZ Tryz.underlying3) h
 obtain⟨rfl,rfl⟩:=h.nil
 have bb:Rows.uptoBulk (.agg [d0,d1,d2,d3])=Rows.uptoBulk d0+Rows.uptoBulk d1+Rows.uptoBulk d2+Rows.uptoBulk d3+1:=by simp[Rows.uptoBulk,Rows.uptoBulkAll];try omega
 have p0:=zam d0
 have p1:=zam d1
 have p2:=zam d2
 have p3:=zam d3
 have b0:Rows.uptoBulk d0=x0.length+1:=by rw[q0];simp[Rows.uptoBulk]
 clear q0
 have b1:Rows.uptoBulk d1=x1.length+1:=by rw[q1];simp[Rows.uptoBulk]
 clear q1
 refine⟨⟨x0,x1,x2,x3⟩,c0.append (c1.append (c2.append (c3.append zab.nil))),?_⟩
 unfold zm9
 rw[bb]
 show 3+(x0.length+x1.length)≤_
 omega
def QVl (x:VlD) (d:DataW H):Prop:=(Rows.uptoBulk d≤1048576→x.to.length≤140737488355328)∧vlN x+vlC x≤3*Rows.uptoBulk d
theorem znf:Opn H enc W 61 VlD.cells QVl:=by
 refine za1 [(9,1),(55,3),(3,1),(3,1),(56,1)] Tryz.underlying61 (by kernel_rfl) (by kernel_rfl) (by kernel_rfl) (fun us ds h=> ?_)
 obtain⟨x0,vs0,us,d0,ds,rfl,rfl,c0,q0,h⟩:=zbB.cons (zbE Tryz.underlying9) h
 obtain⟨x1,vs1,us,d1,ds,rfl,rfl,c1,q1,h⟩:=zbB.cons zfI h
 obtain⟨x2,vs2,us,d2,ds,rfl,rfl,c2,q2,h⟩:=zbB.cons (zaZ Tryz.underlying3) h
 obtain⟨x3,vs3,us,d3,ds,rfl,rfl,c3,q3,h⟩:=zbB.cons (zaZ Tryz.underlying3) h
 obtain⟨x4,vs4,us,d4,ds,rfl,rfl,c4,q4,h⟩:=zbB.cons (za0 (size:=3) Tryz.underlying56 (by kernel_rfl) (by decide) (fun _=>rfl) zfI) h
 obtain⟨rfl,rfl⟩:=h.nil
 have bb:Rows.uptoBulk (.agg [d0,d1,d2,d3,d4])=Rows.uptoBulk d0+Rows.uptoBulk d1+Rows.uptoBulk d2+Rows.uptoBulk d3+Rows.uptoBulk d4+1:=by simp[Rows.uptoBulk,Rows.uptoBulkAll];try omega
 have p0:=zam d0
 have p1:=zam d1
 have p2:=zam d2
 have p3:=zam d3
 have p4:=zam d4
 have b0:Rows.uptoBulk d0=x0.length+1:=by rw[q0];simp[Rows.uptoBulk]
 clear q0
 refine⟨⟨x0,x1,x2,x3,x4⟩,c0.append (c1.append (c2.append (c3.append (c4.append zab.nil)))),?_⟩
 have l4:=q4.len
 have s4:=q4.sum (fun y=>zdK y+2) (fun x y h=>h)
 rw[zd8,zbj] at s4
 unfold zoh at q1
 rw[QVl,bb]
 refine⟨fun hb=>by show x4.length≤_;omega,?_⟩
 show 3+2*x4.length+(x0.length+(zdK x1+(x4.map zdK).sum))≤_
 omega
def zjI (x:zaH) (d:DataW H):Prop:=zeQ x∧3+zbY x≤3*Rows.uptoBulk d
theorem zhT:Opn H enc W 73 zaH.cells zjI:=by
 refine za1 [(9,1),(9,1),(5,1),(5,1),(5,1)] Tryz.underlying73 (by kernel_rfl) (by kernel_rfl) (by kernel_rfl) (fun us ds h=> ?_)
 obtain⟨x0,vs0,us,d0,ds,rfl,rfl,c0,q0,h⟩:=zbB.cons (zbE Tryz.underlying9) h
 obtain⟨x1,vs1,us,d1,ds,rfl,rfl,c1,q1,h⟩:=zbB.cons (zbE Tryz.underlying9) h
 obtain⟨x2,vs2,us,d2,ds,rfl,rfl,c2,q2,h⟩:=zbB.cons (zgg Tryz.underlying5) h
 obtain⟨x3,vs3,us,d3,ds,rfl,rfl,c3,q3,h⟩:=zbB.cons (zgg Tryz.underlying5) h
 obtain⟨x4,vs4,us,d4,ds,rfl,rfl,c4,q4,h⟩:=zbB.cons (zgg Tryz.underlying5) h
 obtain⟨rfl,rfl⟩:=h.nil
 have bb:Rows.uptoBulk (.agg [d0,d1,d2,d3,d4])=Rows.uptoBulk d0+Rows.uptoBulk d1+Rows.uptoBulk d2+Rows.uptoBulk d3+Rows.uptoBulk d4+1:=by simp[Rows.uptoBulk,Rows.uptoBulkAll];try omega
 have p0:=zam d0
 have p1:=zam d1
 have p2:=zam d2
 have p3:=zam d3
 have p4:=zam d4
 have b0:Rows.uptoBulk d0=x0.length+1:=by rw[q0];simp[Rows.uptoBulk]
 clear q0
 have b1:Rows.uptoBulk d1=x1.length+1:=by rw[q1];simp[Rows.uptoBulk]
 clear q1
 refine⟨⟨x0,x1,x2,x3,x4⟩,c0.append (c1.append (c2.append (c3.append (c4.append zab.nil)))),?_⟩
 rw[zjI,bb]
 refine⟨⟨q2,q3,q4⟩,?_⟩
 show 3+(x0.length+x1.length)≤_
 omega
def QRep (x:zck) (d:DataW H):Prop:=2+x.unit.length≤3*Rows.uptoBulk d
theorem zmc:Opn H enc W 67 zck.cells QRep:=by
 refine za1 [(9,1),(3,1)] Tryz.underlying67 (by kernel_rfl) (by kernel_rfl) (by kernel_rfl) (fun us ds h=> ?_)
 obtain⟨x0,vs0,us,d0,ds,rfl,rfl,c0,q0,h⟩:=zbB.cons (zbE Tryz.underlying9) h
 obtain⟨x1,vs1,us,d1,ds,rfl,rfl,c1,q1,h⟩:=zbB.cons (zaZ Tryz.underlying3) h
 obtain⟨rfl,rfl⟩:=h.nil
 have bb:Rows.uptoBulk (.agg [d0,d1])=Rows.uptoBulk d0+Rows.uptoBulk d1+1:=by simp[Rows.uptoBulk,Rows.uptoBulkAll];try omega
 have p0:=zam d0
 have p1:=zam d1
 have b0:Rows.uptoBulk d0=x0.length+1:=by rw[q0];simp[Rows.uptoBulk]
 clear q0
 refine⟨⟨x0,x1⟩,c0.append (c1.append zab.nil),?_⟩
 unfold QRep
 rw[bb]
 show 2+x0.length≤_
 omega
def zlE (x:zaN) (d:DataW H):Prop:=(Rows.uptoBulk d≤1048576→zbe x)∧zbS x+zcF x≤3*Rows.uptoBulk d
theorem ziQ:Opn H enc W 65 zaN.cells zlE:=by
 refine za1 [(9,1),(62,1),(63,1)] Tryz.underlying65 (by kernel_rfl) (by kernel_rfl) (by kernel_rfl) (fun us ds h=> ?_)
 obtain⟨x0,vs0,us,d0,ds,rfl,rfl,c0,q0,h⟩:=zbB.cons (zbE Tryz.underlying9) h
 obtain⟨x1,vs1,us,d1,ds,rfl,rfl,c1,q1,h⟩:=zbB.cons (za0 (size:=2) Tryz.underlying62 (by kernel_rfl) (by decide) (fun _=>rfl) zmc) h
 obtain⟨x2,vs2,us,d2,ds,rfl,rfl,c2,q2,h⟩:=zbB.cons (za0 (size:=1) Tryz.underlying63 (by kernel_rfl) (by decide) (fun _=>rfl) (zbE Tryz.underlying9)) h
 obtain⟨rfl,rfl⟩:=h.nil
 have bb:Rows.uptoBulk (.agg [d0,d1,d2])=Rows.uptoBulk d0+Rows.uptoBulk d1+Rows.uptoBulk d2+1:=by simp[Rows.uptoBulk,Rows.uptoBulkAll];try omega
 have p0:=zam d0
 have p1:=zam d1
 have p2:=zam d2
 have b0:Rows.uptoBulk d0=x0.length+1:=by rw[q0];simp[Rows.uptoBulk]
 clear q0
 refine⟨⟨x0,x1,x2⟩,c0.append (c1.append (c2.append zab.nil)),?_⟩
 have l1:=q1.len
 have l2:=q2.len
 have s1:=q1.sum (fun y=>2+y.unit.length) (fun x y h=>h)
 have s2:=q2.sum (fun y=>1+y.length) (fun x y h=>by rw[h];simp[Rows.uptoBulk];omega)
 rw[zd8,zbj] at s1 s2
 rw[zlE,bb]
 refine⟨fun hb=>⟨by show x1.length≤_;omega,by show x2.length<_;omega⟩,?_⟩
 have e2:(x2.map List.length).sum=(x2.map fun y=>y.length).sum:=rfl
 show 1+2*x1.length+x2.length+(x0.length+(x1.map fun y=>y.unit.length).sum+(x2.map fun y=>y.length).sum)≤_
 omega
def QVer (x:zc7) (d:DataW H):Prop:=3+zgI x≤3*Rows.uptoBulk d
theorem zlN:Opn H enc W 75 zc7.cells QVer:=by
 refine za1 [(9,1),(3,1),(9,1),(3,1)] Tryz.underlying75 (by kernel_rfl) (by kernel_rfl) (by kernel_rfl) (fun us ds h=> ?_)
 obtain⟨x0,vs0,us,d0,ds,rfl,rfl,c0,q0,h⟩:=zbB.cons (zbE Tryz.underlying9) h
 obtain⟨x1,vs1,us,d1,ds,rfl,rfl,c1,q1,h⟩:=zbB.cons (zaZ Tryz.underlying3) h
 obtain⟨x2,vs2,us,d2,ds,rfl,rfl,c2,q2,h⟩:=zbB.cons (zbE Tryz.underlying9) h
 obtain⟨x3,vs3,us,d3,ds,rfl,rfl,c3,q3,h⟩:=zbB.cons (zaZ Tryz.underlying3) h
 obtain⟨rfl,rfl⟩:=h.nil
 have bb:Rows.uptoBulk (.agg [d0,d1,d2,d3])=Rows.uptoBulk d0+Rows.uptoBulk d1+Rows.uptoBulk d2+Rows.uptoBulk d3+1:=by simp[Rows.uptoBulk,Rows.uptoBulkAll];try omega
 have p0:=zam d0
 have p1:=zam d1
 have p2:=zam d2
 have p3:=zam d3
 have b0:Rows.uptoBulk d0=x0.length+1:=by rw[q0];simp[Rows.uptoBulk]
 clear q0
 have b2:Rows.uptoBulk d2=x2.length+1:=by rw[q2];simp[Rows.uptoBulk]
 clear q2
 refine⟨⟨x0,x1,x2,x3⟩,c0.append (c1.append (c2.append (c3.append zab.nil))),?_⟩
 unfold QVer
 rw[bb]
 show 3+(x0.length+x2.length)≤_
 omega
def QCfg (x:zbR) (d:DataW H):Prop:=(Rows.uptoBulk d≤1048576→zdE x)∧zeu x+zeJ x≤3*Rows.uptoBulk d
theorem zoN:Opn H enc W 31 zbR.cells QCfg:=by
 refine za1 [(22,1),(23,1),(24,1),(25,1),(26,1),(27,1),(28,1),(29,1)] Tryz.underlying31 (by kernel_rfl) (by kernel_rfl) (by kernel_rfl) (fun us ds h=> ?_)
 obtain⟨x0,vs0,us,d0,ds,rfl,rfl,c0,q0,h⟩:=zbB.cons (za0 (size:=4) Tryz.underlying22 (by kernel_rfl) (by decide) (fun _=>rfl) zlK) h
 obtain⟨x1,vs1,us,d1,ds,rfl,rfl,c1,q1,h⟩:=zbB.cons (za0 (size:=4) Tryz.underlying23 (by kernel_rfl) (by decide) (fun _=>rfl) zkz) h
 obtain⟨x2,vs2,us,d2,ds,rfl,rfl,c2,q2,h⟩:=zbB.cons (za0 (size:=4) Tryz.underlying24 (by kernel_rfl) (by decide) (fun _=>rfl) znJ) h
 obtain⟨x3,vs3,us,d3,ds,rfl,rfl,c3,q3,h⟩:=zbB.cons (za0 (size:=4) Tryz.underlying25 (by kernel_rfl) (by decide) (fun _=>rfl) zkL) h
 obtain⟨x4,vs4,us,d4,ds,rfl,rfl,c4,q4,h⟩:=zbB.cons (za0 (size:=7) Tryz.underlying26 (by kernel_rfl) (by decide) (fun _=>rfl) znf) h
 obtain⟨x5,vs5,us,d5,ds,rfl,rfl,c5,q5,h⟩:=zbB.cons (za0 (size:=5) Tryz.underlying27 (by kernel_rfl) (by decide) (fun _=>rfl) zhT) h
 obtain⟨x6,vs6,us,d6,ds,rfl,rfl,c6,q6,h⟩:=zbB.cons (za0 (size:=3) Tryz.underlying28 (by kernel_rfl) (by decide) (fun _=>rfl) ziQ) h
 obtain⟨x7,vs7,us,d7,ds,rfl,rfl,c7,q7,h⟩:=zbB.cons (za0 (size:=4) Tryz.underlying29 (by kernel_rfl) (by decide) (fun _=>rfl) zlN) h
 obtain⟨rfl,rfl⟩:=h.nil
 have bb:Rows.uptoBulk (.agg [d0,d1,d2,d3,d4,d5,d6,d7])=Rows.uptoBulk d0+Rows.uptoBulk d1+Rows.uptoBulk d2+Rows.uptoBulk d3+Rows.uptoBulk d4+Rows.uptoBulk d5+Rows.uptoBulk d6+Rows.uptoBulk d7+1:=by simp[Rows.uptoBulk,Rows.uptoBulkAll];try omega
 have p0:=zam d0
 have p1:=zam d1
 have p2:=zam d2
 have p3:=zam d3
 have p4:=zam d4
 have p5:=zam d5
 have p6:=zam d6
 have p7:=zam d7
 refine⟨⟨x0,x1,x2,x3,x4,x5,x6,x7⟩,c0.append (c1.append (c2.append (c3.append (c4.append (c5.append (c6.append (c7.append zab.nil))))))),?_⟩
 have l0:=q0.len
 have l1:=q1.len
 have l2:=q2.len
 have l3:=q3.len
 have l4:=q4.len
 have l5:=q5.len
 have l6:=q6.len
 have l7:=q7.len
 have s0:=q0.sum (fun y=>ze6 y+zgq y) (fun x y h=>h.2)
 have s1:=q1.sum (fun y=>zcQ y+zdL y) (fun x y h=>h.2)
 have s2:=q2.sum (fun y=>2+y.name.length) (fun x y h=>h)
 have s3:=q3.sum (fun y=>3+zdM y) (fun x y h=>h)
 have s4:=q4.sum (fun y=>vlN y+vlC y) (fun x y h=>h.2)
 have s5:=q5.sum (fun y=>3+zbY y) (fun x y h=>h.2)
 have s6:=q6.sum (fun y=>zbS y+zcF y) (fun x y h=>h.2)
 have s7:=q7.sum (fun y=>3+zgI y) (fun x y h=>h)
 rw[zd8] at s0 s1 s2 s3 s4 s5 s6 s7
 rw[zbj] at s2 s3 s5 s7
 rw[QCfg,bb]
 refine⟨fun hb=>⟨by show x0.length≤_;omega,fun y hy=> ?_,by show x1.length≤_;omega,fun y hy=> ?_,by show x2.length≤_;omega,by show x3.length≤_;omega,by show x4.length≤_;omega,fun y hy=> ?_,by show x5.length≤_;omega,fun y hy=> ?_,by show x6.length≤_;omega,fun y hy=> ?_,by show x7.length≤_;omega⟩,?_⟩
 ·obtain⟨z,hz,hzb⟩:=q0.each hy
  exact hz.1 (by omega)
 ·obtain⟨z,hz,hzb⟩:=q1.each hy
  exact hz.1 (by omega)
 ·obtain⟨z,hz,hzb⟩:=q4.each hy
  exact hz.1 (by omega)
 ·obtain⟨z,hz,hzb⟩:=q5.each hy
  exact hz.1
 ·obtain⟨z,hz,hzb⟩:=q6.each hy
  exact hz.1 (by omega)
 ·show x3.length*3+x2.length*2+x7.length*3+x5.length*3+(x0.map ze6).sum+(x1.map zcQ).sum+(x4.map vlN).sum+(x6.map zbS).sum+((x0.map zgq).sum+(x1.map zdL).sum+(x4.map vlC).sum+(x6.map zcF).sum+(x2.map fun y=>y.name.length).sum+(x3.map zdM).sum+(x5.map zbY).sum+(x7.map zgI).sum)≤_
  omega
end
end Go.Proofs.YtgbfaompondolaaGreatDoor
namespace Go.Proofs.YtgbfaompondolaaGreatDoor
open Go.RowKit
attribute [local go_sem] zal.cell
theorem za2 {α:Type} (f:α→Nat) {l:List α} {k:Nat} {x:α} (h:l[k]? =some x):((l.take (k+1)).map f).sum=((l.take k).map f).sum+f x:=by
 rw[List.take_add_one,h]
 simp
theorem za7 {α:Type} (f:α→Nat) {l:List α} {k:Nat} {x:α} (h:l[k]? =some x):((l.take k).map f).sum+f x≤(l.map f).sum:=by
 rw[←za2 f h]
 have e:=congrArg (fun m=>(List.map f m).sum) (List.take_append_drop (k+1) l)
 simp only[List.map_append,List.sum_append] at e
 omega
def zfx (s:List UInt8):Prop:=(⟨s.toArray⟩:ByteArray).size=s.length
theorem zcM (s:List UInt8):zfx s:=by simp[zfx,ByteArray.size]
theorem zeK (r:zb2) (v:Value) (l:List zb2) (W:World) (hv:Hid (DAt W (fun _=>True) v (.row 3 (l.map zb2.cells)))) (hn:zdK r+zdV l≤1000000000) (hl:l.length≤1000000000):
 Calls Tryz.prog 17 #[.agg #[zaF r.m,zaF r.p,zaF r.o],v] W fun e w'=>e= .returned (.int .i64 ((zdK r+zdV l:Nat):Int))∧Below W.heap.size W w':=by
 obtain⟨A,c,rfl,hA⟩:=hv.out.slice
 have HA:=zaa hA
 clear hA hv
 rw[List.length_map]
 obtain⟨m,p,o⟩:=r
 unfold zdV at hn ⊢
 rw[show zdK ⟨m,p,o⟩=m.length+p.length+o.length from rfl] at hn ⊢
 have HN:=zaa hn
 have hsm:=zcM m
 have hsp:=zcM p
 have hso:=zcM o
 unfold zfx at *
 simp only[zaF] at *
 generalize(⟨m.toArray⟩:ByteArray)=sm at *
 generalize(⟨p.toArray⟩:ByteArray)=sp at *
 generalize(⟨o.toArray⟩:ByteArray)=so at *
 generalize m.length=lm at *
 generalize p.length=lp at *
 generalize o.length=lo at *
 subst hsm hsp hso
 have HB0:=zaa ((Below.refl W.heap.size W).alloc (Nat.le_refl _) (.cells #[.string sm,.string sp,.string so] 55))
 go_enter Tryz.func17,Tryz.ntmps17
 go_wp2_with fail
 generalize W.alloc _=w0 at *
 go_loopw [5,6] (fun v5 v6 wr=> ∃k:Nat,k≤l.length∧v6= .int .i64 k∧v5= .int .i64 ((sm.size+sp.size+so.size+((l.take k).map zdK).sum:Nat):Int)∧Below W.heap.size W wr) (fun _ v6 _=>l.length-(intOf v6).toNat)
 case atStart=>exact⟨0,by omega,rfl,by simp,HB0.out⟩
 case round=>
  obtain⟨k,hk,rfl,rfl,hbr⟩:=hrel
  have HBR:=zaa hbr
  clear hbr HB0
  by_cases hlt:k<l.length
  rotate_left
  ·obtain rfl:k=l.length:=by omega
   rw[List.take_length]
   clear hlt
   go_wp2_with fail
   go_ret
   exact⟨rfl,HBR.out⟩
  obtain⟨x,hx⟩:=za9 hlt
  obtain⟨bA,oA,rfl,hbA,hcaA⟩:=HA.out.at_ hx
  obtain⟨uA0,a0,gA0⟩:=hcaA 0 _ rfl
  obtain rfl:=gA0.leaf_eq
  obtain⟨uA1,a1,gA1⟩:=hcaA 1 _ rfl
  obtain rfl:=gA1.leaf_eq
  obtain⟨uA2,a2,gA2⟩:=hcaA 2 _ rfl
  obtain rfl:=gA2.leaf_eq
  clear hcaA
  have a0:=zbH HBR.out hbA a0
  have a1:=zat HBR.out hbA a1
  have a2:=zat HBR.out hbA a2
  have HS:=zaa (za2 zdK hx)
  have hp:=za7 zdK hx
  have hc:zdK x=x.m.length+x.p.length+x.o.length:=rfl
  have e0:=zcM x.m
  have e1:=zcM x.p
  have e2:=zcM x.o
  unfold zfx at e0 e1 e2
  rw[hc] at HS hp
  rw[←e0,←e1,←e2] at HS hp
  simp only[zaF] at a0 a1 a2
  clear e0 e1 e2 hc hx
  generalize(⟨x.m.toArray⟩:ByteArray)=ym at *
  generalize(⟨x.p.toArray⟩:ByteArray)=yp at *
  generalize(⟨x.o.toArray⟩:ByteArray)=yo at *
  have hN:=HN.out
  generalize hT:((l.take k).map zdK).sum=T at *
  generalize(l.map zdK).sum=TA at *
  clear hT
  have k0:=kbZ k l.length
  go_wp2_with fail
  go_quiet (fail)
  go_wp2_with fail
  go_roundw
  case rel=>exact⟨k+1,by omega,by go_num,by rw[HS.out];go_num,HBR.out.trans ⟨rfl,rfl,rfl,Nat.le_refl _,fun _ _=>rfl⟩⟩
  case measure=>simp[intOf];omega
end Go.Proofs.YtgbfaompondolaaGreatDoor
