/- Merged texts of the walks and of the plain laws on which the statement leans.-/
import Derived.Test.YtgbfaompondolaaGreatDoorPk19
import Derived.Test.YtgbfaompondolaaGreatDoorRows
import Derived.Test.YtgbfaompondolaaGreatDoorPk8
import Derived.Test.YtgbfaompondolaaGreatDoorPk7
import Derived.Test.YtgbfaompondolaaGreatDoorPk1
import Derived.Test.YtgbfaompondolaaGreatDoorPk13
import Derived.Laws.BytesArg
set_option maxHeartbeats 4000000
set_option maxRecDepth 100000
namespace Go.Proofs.YtgbfaompondolaaGreatDoor
open Go.Proofs.Tryz
open Go.ChangeShapes Go.WideShapes Go.Deep Go.RowKit
section
variable {H:Type} {enc:TypeId×Value→H} {W:World}
theorem zam (d:DataW H):1≤Rows.uptoBulk d:=by
 unfold Rows.uptoBulk
 split<;>omega
theorem zjK {α:Type} {Q:α→DataW H→Prop} (f:α→Nat) (hf: ∀x y,Q x y→f x≤3*Rows.uptoBulk y): ∀(l:List α) (ds:List (DataW H)),ds.length=l.length→(∀(i:Nat) x y,l[i]? =some x→ds[i]? =some y→Q x y)→(l.map f).sum≤3*Rows.uptoBulkAll ds
 |[],ds,_,_=>by simp
 |x::l,[],h,_=>by simp at h
 |x::l,d::ds,h,hq=>by
  have h1:=hf x d (hq 0 x d rfl rfl);have h2:=zjK f hf l ds (by simpa using h) (fun i a b ha hb=>hq (i+1) a b (by simpa using ha) (by simpa using hb));simp only[List.map_cons,List.sum_cons,Rows.uptoBulkAll]
  omega
theorem SlQ.sum {α:Type} {Q:α→DataW H→Prop} {l:List α} {d:DataW H} (h:SlQ Q l d) (f:α→Nat) (hf: ∀x y,Q x y→f x≤3*Rows.uptoBulk y):(l.map f).sum+3≤3*Rows.uptoBulk d:=by
 rcases h.2 with⟨rfl,rfl⟩|⟨ds,spare,rfl,hl,hq⟩
 ·simp[Rows.uptoBulk]
 ·have:=zjK f hf l ds hl hq
  simp only[Rows.uptoBulk]
  omega
theorem SlQ.len {α:Type} {Q:α→DataW H→Prop} {l:List α} {d:DataW H} (h:SlQ Q l d):l.length+1≤Rows.uptoBulk d:=by
 have:=h.sum (fun _=>3) (fun x y _=>by have:=zam y;omega);rw[zbn] at this
 omega
theorem zlc {ds:List (DataW H)} {y:DataW H} (h:y∈ds):Rows.uptoBulk y≤Rows.uptoBulkAll ds:=by
 induction ds with
 |nil=>simp at h
 |cons d ds ih=>
  simp only[Rows.uptoBulkAll];rcases List.mem_cons.1 h with rfl|h
  ·omega
  ·have:=ih h
   omega
theorem SlQ.each {α:Type} {Q:α→DataW H→Prop} {l:List α} {d:DataW H} (h:SlQ Q l d) {x:α} (hx:x∈l): ∃y,Q x y∧Rows.uptoBulk y≤Rows.uptoBulk d:=by
 rcases h.2 with⟨rfl,rfl⟩|⟨ds,spare,rfl,hl,hq⟩
 ·simp at hx
 ·obtain⟨i,hi,e⟩:=List.getElem_of_mem hx
  have hy:ds[i]? =some (ds[i]'(by omega)):=List.getElem?_eq_getElem (by omega);refine⟨_,hq i x _ (by rw[List.getElem?_eq_getElem hi,e]) hy,?_⟩;have:=zlc (List.mem_of_getElem? hy);simp only[Rows.uptoBulk]
  omega
theorem zeB {α:Type} (f g:α→Nat) (l:List α):(l.map fun x=>f x+g x).sum=(l.map f).sum+(l.map g).sum:=by
 induction l with
 |nil=>rfl
 |cons a l ih=>
  simp only[List.map_cons,List.sum_cons] at ih ⊢
  omega
def zoX (x:zb7) (d:DataW H):Prop:=zd9 x+2≤3*Rows.uptoBulk d
theorem zfT:Opn H enc W 55 zb7.cells zoX:=by
 refine za1 [(9,1),(9,1),(9,1)] underlying55 (by kernel_rfl) (by kernel_rfl) (by kernel_rfl) (fun us ds h=> ?_);obtain⟨x0,vs0,us,d0,ds,rfl,rfl,c0,q0,h⟩:=zbG.cons (zbH underlying9) h;obtain⟨x1,vs1,us,d1,ds,rfl,rfl,c1,q1,h⟩:=zbG.cons (zbH underlying9) h;obtain⟨x2,vs2,us,d2,ds,rfl,rfl,c2,q2,h⟩:=zbG.cons (zbH underlying9) h;obtain⟨rfl,rfl⟩:=h.nil;have bb:Rows.uptoBulk (.agg [d0,d1,d2])=Rows.uptoBulk d0+Rows.uptoBulk d1+Rows.uptoBulk d2+1:=by simp[Rows.uptoBulk,Rows.uptoBulkAll];try omega
 have p0:=zam d0;have p1:=zam d1;have p2:=zam d2;have b0:Rows.uptoBulk d0=x0.length+1:=by rw[q0];simp[Rows.uptoBulk]
 clear q0;have b1:Rows.uptoBulk d1=x1.length+1:=by rw[q1];simp[Rows.uptoBulk]
 clear q1;have b2:Rows.uptoBulk d2=x2.length+1:=by rw[q2];simp[Rows.uptoBulk]
 clear q2;refine⟨⟨x0,x1,x2⟩,c0.append (c1.append (c2.append zab.nil)),?_⟩;unfold zoX zd9;rw[bb]
 show x0.length+x1.length+x2.length+2≤_
 omega
def QIns (x:zb3) (_d:DataW H):Prop:=x.op≤255
theorem zmH:Opn H enc W 78 zb3.cells QIns:=by
 refine za1 [(5,1),(3,1),(3,1),(3,1)] underlying78 (by kernel_rfl) (by kernel_rfl) (by kernel_rfl) (fun us ds h=> ?_);obtain⟨x0,vs0,us,d0,ds,rfl,rfl,c0,q0,h⟩:=zbG.cons (zgK underlying5) h;obtain⟨x1,vs1,us,d1,ds,rfl,rfl,c1,q1,h⟩:=zbG.cons (zaX underlying3) h;obtain⟨x2,vs2,us,d2,ds,rfl,rfl,c2,q2,h⟩:=zbG.cons (zaX underlying3) h;obtain⟨x3,vs3,us,d3,ds,rfl,rfl,c3,q3,h⟩:=zbG.cons (zaX underlying3) h;obtain⟨rfl,rfl⟩:=h.nil;have bb:Rows.uptoBulk (.agg [d0,d1,d2,d3])=Rows.uptoBulk d0+Rows.uptoBulk d1+Rows.uptoBulk d2+Rows.uptoBulk d3+1:=by simp[Rows.uptoBulk,Rows.uptoBulkAll];try omega
 have p0:=zam d0;have p1:=zam d1;have p2:=zam d2;have p3:=zam d3;refine⟨⟨x0,x1,x2,x3⟩,c0.append (c1.append (c2.append (c3.append zab.nil))),?_⟩;exact q0
def zop (x:zaT) (d:DataW H):Prop:=2+x.name.length≤3*Rows.uptoBulk d
theorem zlM:Opn H enc W 51 zaT.cells zop:=by
 refine za1 [(9,1),(5,1),(4,1),(3,1),(3,1),(3,1)] underlying51 (by kernel_rfl) (by kernel_rfl) (by kernel_rfl) (fun us ds h=> ?_);obtain⟨x0,vs0,us,d0,ds,rfl,rfl,c0,q0,h⟩:=zbG.cons (zbH underlying9) h;obtain⟨x1,vs1,us,d1,ds,rfl,rfl,c1,q1,h⟩:=zbG.cons (zgK underlying5) h;obtain⟨x2,vs2,us,d2,ds,rfl,rfl,c2,q2,h⟩:=zbG.cons (zls underlying4) h;obtain⟨x3,vs3,us,d3,ds,rfl,rfl,c3,q3,h⟩:=zbG.cons (zaX underlying3) h;obtain⟨x4,vs4,us,d4,ds,rfl,rfl,c4,q4,h⟩:=zbG.cons (zaX underlying3) h;obtain⟨x5,vs5,us,d5,ds,rfl,rfl,c5,q5,h⟩:=zbG.cons (zaX underlying3) h;obtain⟨rfl,rfl⟩:=h.nil;have bb:Rows.uptoBulk (.agg [d0,d1,d2,d3,d4,d5])=Rows.uptoBulk d0+Rows.uptoBulk d1+Rows.uptoBulk d2+Rows.uptoBulk d3+Rows.uptoBulk d4+Rows.uptoBulk d5+1:=by simp[Rows.uptoBulk,Rows.uptoBulkAll];try omega
 have p0:=zam d0;have p1:=zam d1;have p2:=zam d2;have p3:=zam d3;have p4:=zam d4;have p5:=zam d5;have b0:Rows.uptoBulk d0=x0.length+1:=by rw[q0];simp[Rows.uptoBulk]
 clear q0;refine⟨⟨x0,x1,x2,x3,x4,x5⟩,c0.append (c1.append (c2.append (c3.append (c4.append (c5.append zab.nil))))),?_⟩;unfold zop;rw[bb]
 show 2+x0.length≤_
 omega
def zod (x:za0) (d:DataW H):Prop:=(Rows.uptoBulk d≤1048576→zcb x)∧zcV x+x.name.length≤3*Rows.uptoBulk d
theorem zld:Opn H enc W 53 za0.cells zod:=by
 refine za1 [(9,1),(3,1),(3,1),(3,1),(35,1)] underlying53 (by kernel_rfl) (by kernel_rfl) (by kernel_rfl) (fun us ds h=> ?_);obtain⟨x0,vs0,us,d0,ds,rfl,rfl,c0,q0,h⟩:=zbG.cons (zbH underlying9) h;obtain⟨x1,vs1,us,d1,ds,rfl,rfl,c1,q1,h⟩:=zbG.cons (zaX underlying3) h;obtain⟨x2,vs2,us,d2,ds,rfl,rfl,c2,q2,h⟩:=zbG.cons (zaX underlying3) h;obtain⟨x3,vs3,us,d3,ds,rfl,rfl,c3,q3,h⟩:=zbG.cons (zaX underlying3) h;obtain⟨x4,vs4,us,d4,ds,rfl,rfl,c4,q4,h⟩:=zbG.cons (zaY (size:=4) underlying35 (by kernel_rfl) (by decide) (fun _=>rfl) zmH) h;obtain⟨rfl,rfl⟩:=h.nil;have bb:Rows.uptoBulk (.agg [d0,d1,d2,d3,d4])=Rows.uptoBulk d0+Rows.uptoBulk d1+Rows.uptoBulk d2+Rows.uptoBulk d3+Rows.uptoBulk d4+1:=by simp[Rows.uptoBulk,Rows.uptoBulkAll];try omega
 have p0:=zam d0;have p1:=zam d1;have p2:=zam d2;have p3:=zam d3;have p4:=zam d4;have b0:Rows.uptoBulk d0=x0.length+1:=by rw[q0];simp[Rows.uptoBulk]
 clear q0;refine⟨⟨x0,x1,x2,x3,x4⟩,c0.append (c1.append (c2.append (c3.append (c4.append zab.nil)))),?_⟩;have l4:=q4.len;rw[zod,bb];refine⟨fun hb=>⟨by show x4.length≤_;omega,fun z hz=> ?_⟩,by show 2+x4.length+x0.length≤_;omega⟩;obtain⟨y,hy, -⟩:=q4.each hz;exact hy
def zon (x:zaQ) (d:DataW H):Prop:=(Rows.uptoBulk d≤1048576→zb0 x)∧zcM x+zdI x≤3*Rows.uptoBulk d
theorem zlo:Opn H enc W 49 zaQ.cells zon:=by
 refine za1 [(9,1),(3,1),(3,1),(3,1),(45,1),(3,1),(3,1),(45,1),(46,1),(47,1)] underlying49 (by kernel_rfl) (by kernel_rfl) (by kernel_rfl) (fun us ds h=> ?_);obtain⟨x0,vs0,us,d0,ds,rfl,rfl,c0,q0,h⟩:=zbG.cons (zbH underlying9) h;obtain⟨x1,vs1,us,d1,ds,rfl,rfl,c1,q1,h⟩:=zbG.cons (zaX underlying3) h;obtain⟨x2,vs2,us,d2,ds,rfl,rfl,c2,q2,h⟩:=zbG.cons (zaX underlying3) h;obtain⟨x3,vs3,us,d3,ds,rfl,rfl,c3,q3,h⟩:=zbG.cons (zaX underlying3) h;obtain⟨x4,vs4,us,d4,ds,rfl,rfl,c4,q4,h⟩:=zbG.cons (zaY (size:=1) underlying45 (by kernel_rfl) (by decide) (fun _=>rfl) (zaX underlying3)) h;obtain⟨x5,vs5,us,d5,ds,rfl,rfl,c5,q5,h⟩:=zbG.cons (zaX underlying3) h;obtain⟨x6,vs6,us,d6,ds,rfl,rfl,c6,q6,h⟩:=zbG.cons (zaX underlying3) h;obtain⟨x7,vs7,us,d7,ds,rfl,rfl,c7,q7,h⟩:=zbG.cons (zaY (size:=1) underlying45 (by kernel_rfl) (by decide) (fun _=>rfl) (zaX underlying3)) h;obtain⟨x8,vs8,us,d8,ds,rfl,rfl,c8,q8,h⟩:=zbG.cons (zaY (size:=6) underlying46 (by kernel_rfl) (by decide) (fun _=>rfl) zlM) h;obtain⟨x9,vs9,us,d9,ds,rfl,rfl,c9,q9,h⟩:=zbG.cons (zaY (size:=5) underlying47 (by kernel_rfl) (by decide) (fun _=>rfl) zld) h;obtain⟨rfl,rfl⟩:=h.nil;have bb:Rows.uptoBulk (.agg [d0,d1,d2,d3,d4,d5,d6,d7,d8,d9])=Rows.uptoBulk d0+Rows.uptoBulk d1+Rows.uptoBulk d2+Rows.uptoBulk d3+Rows.uptoBulk d4+Rows.uptoBulk d5+Rows.uptoBulk d6+Rows.uptoBulk d7+Rows.uptoBulk d8+Rows.uptoBulk d9+1:=by simp[Rows.uptoBulk,Rows.uptoBulkAll];try omega
 have p0:=zam d0;have p1:=zam d1;have p2:=zam d2;have p3:=zam d3;have p4:=zam d4;have p5:=zam d5;have p6:=zam d6;have p7:=zam d7;have p8:=zam d8;have p9:=zam d9;have b0:Rows.uptoBulk d0=x0.length+1:=by rw[q0];simp[Rows.uptoBulk]
 clear q0;refine⟨⟨x0,x1,x2,x3,x4,x5,x6,x7,x8,x9⟩,c0.append (c1.append (c2.append (c3.append (c4.append (c5.append (c6.append (c7.append (c8.append (c9.append zab.nil))))))))),?_⟩;have l4:=q4.len;have l7:=q7.len;have l8:=q8.len;have l9:=q9.len;have s8:=q8.sum (fun y=>2+y.name.length) (fun x y h=>h);have s9:=q9.sum (fun y=>zcV y+y.name.length) (fun x y h=>h.2);rw[zeB] at s8 s9;rw[zbn] at s8;rw[zon,bb];refine⟨fun hb=>⟨by show x4.length≤_;omega,by show x7.length≤_;omega,by show x8.length≤_;omega,by show x9.length≤_;omega,fun z hz=> ?_⟩,?_⟩
 ·obtain⟨y,hy,hyb⟩:=q9.each hz
  exact hy.1 (by omega)
 ·show 2+x4.length+x7.length+2*x8.length+(x9.map zcV).sum+(x0.length+(x8.map fun y=>y.name.length).sum+(x9.map fun y=>y.name.length).sum)≤_
  omega
def QMod (x:zcy) (d:DataW H):Prop:=(Rows.uptoBulk d≤1048576→zdl x)∧zfh x+zgZ x≤3*Rows.uptoBulk d
theorem zmU:Opn H enc W 44 zcy.cells QMod:=by
 refine za1 [(9,1),(3,1),(3,1),(42,1)] underlying44 (by kernel_rfl) (by kernel_rfl) (by kernel_rfl) (fun us ds h=> ?_);obtain⟨x0,vs0,us,d0,ds,rfl,rfl,c0,q0,h⟩:=zbG.cons (zbH underlying9) h;obtain⟨x1,vs1,us,d1,ds,rfl,rfl,c1,q1,h⟩:=zbG.cons (zaX underlying3) h;obtain⟨x2,vs2,us,d2,ds,rfl,rfl,c2,q2,h⟩:=zbG.cons (zaX underlying3) h;obtain⟨x3,vs3,us,d3,ds,rfl,rfl,c3,q3,h⟩:=zbG.cons (zaY (size:=10) underlying42 (by kernel_rfl) (by decide) (fun _=>rfl) zlo) h;obtain⟨rfl,rfl⟩:=h.nil;have bb:Rows.uptoBulk (.agg [d0,d1,d2,d3])=Rows.uptoBulk d0+Rows.uptoBulk d1+Rows.uptoBulk d2+Rows.uptoBulk d3+1:=by simp[Rows.uptoBulk,Rows.uptoBulkAll];try omega
 have p0:=zam d0;have p1:=zam d1;have p2:=zam d2;have p3:=zam d3;have b0:Rows.uptoBulk d0=x0.length+1:=by rw[q0];simp[Rows.uptoBulk]
 clear q0;refine⟨⟨x0,x1,x2,x3⟩,c0.append (c1.append (c2.append (c3.append zab.nil))),?_⟩;have l3:=q3.len;have s3:=q3.sum (fun y=>zcM y+zdI y) (fun x y h=>h.2);rw[zeB] at s3;rw[QMod,bb];refine⟨fun hb=>⟨by show x3.length≤_;omega,fun z hz=> ?_⟩,?_⟩
 ·obtain⟨y,hy,hyb⟩:=q3.each hz
  exact hy.1 (by omega)
 ·show 1+(x3.map zcM).sum+(x0.length+(x3.map zdI).sum)≤_
  omega
def zof (x:zbi) (d:DataW H):Prop:=(Rows.uptoBulk d≤1048576→x.to.length≤140737488355328)∧zc6 x+zd7 x≤3*Rows.uptoBulk d
theorem zkL:Opn H enc W 58 zbi.cells zof:=by
 refine za1 [(55,3),(56,1)] underlying58 (by kernel_rfl) (by kernel_rfl) (by kernel_rfl) (fun us ds h=> ?_);obtain⟨x0,vs0,us,d0,ds,rfl,rfl,c0,q0,h⟩:=zbG.cons zfT h;obtain⟨x1,vs1,us,d1,ds,rfl,rfl,c1,q1,h⟩:=zbG.cons (zaY (size:=3) underlying56 (by kernel_rfl) (by decide) (fun _=>rfl) zfT) h;obtain⟨rfl,rfl⟩:=h.nil;have bb:Rows.uptoBulk (.agg [d0,d1])=Rows.uptoBulk d0+Rows.uptoBulk d1+1:=by simp[Rows.uptoBulk,Rows.uptoBulkAll];try omega
 have p0:=zam d0;have p1:=zam d1;refine⟨⟨x0,x1⟩,c0.append (c1.append zab.nil),?_⟩;have l1:=q1.len;have s1:=q1.sum (fun y=>zd9 y+2) (fun x y h=>h);rw[zeB,zbn] at s1;unfold zoX at q0;rw[zof,bb];refine⟨fun hb=>by show x1.length≤_;omega,?_⟩
 show 2+2*x1.length+(zd9 x0+(x1.map zd9).sum)≤_
 omega
def QSw (x:SwD) (d:DataW H):Prop:=2+x.name.length≤3*Rows.uptoBulk d
theorem zok:Opn H enc W 69 SwD.cells QSw:=by
 refine za1 [(9,1),(3,1),(3,1),(3,1)] underlying69 (by kernel_rfl) (by kernel_rfl) (by kernel_rfl) (fun us ds h=> ?_);obtain⟨x0,vs0,us,d0,ds,rfl,rfl,c0,q0,h⟩:=zbG.cons (zbH underlying9) h;obtain⟨x1,vs1,us,d1,ds,rfl,rfl,c1,q1,h⟩:=zbG.cons (zaX underlying3) h;obtain⟨x2,vs2,us,d2,ds,rfl,rfl,c2,q2,h⟩:=zbG.cons (zaX underlying3) h;obtain⟨x3,vs3,us,d3,ds,rfl,rfl,c3,q3,h⟩:=zbG.cons (zaX underlying3) h;obtain⟨rfl,rfl⟩:=h.nil;have bb:Rows.uptoBulk (.agg [d0,d1,d2,d3])=Rows.uptoBulk d0+Rows.uptoBulk d1+Rows.uptoBulk d2+Rows.uptoBulk d3+1:=by simp[Rows.uptoBulk,Rows.uptoBulkAll];try omega
 have p0:=zam d0;have p1:=zam d1;have p2:=zam d2;have p3:=zam d3;have b0:Rows.uptoBulk d0=x0.length+1:=by rw[q0];simp[Rows.uptoBulk]
 clear q0;refine⟨⟨x0,x1,x2,x3⟩,c0.append (c1.append (c2.append (c3.append zab.nil))),?_⟩;unfold QSw;rw[bb]
 show 2+x0.length≤_
 omega
def zom (x:zby) (d:DataW H):Prop:=3+zec x≤3*Rows.uptoBulk d
theorem zkT:Opn H enc W 71 zby.cells zom:=by
 refine za1 [(9,1),(9,1),(3,1),(3,1)] underlying71 (by kernel_rfl) (by kernel_rfl) (by kernel_rfl) (fun us ds h=> ?_);obtain⟨x0,vs0,us,d0,ds,rfl,rfl,c0,q0,h⟩:=zbG.cons (zbH underlying9) h;obtain⟨x1,vs1,us,d1,ds,rfl,rfl,c1,q1,h⟩:=zbG.cons (zbH underlying9) h;obtain⟨x2,vs2,us,d2,ds,rfl,rfl,c2,q2,h⟩:=zbG.cons (zaX underlying3) h;obtain⟨x3,vs3,us,d3,ds,rfl,rfl,c3,q3,h⟩:=zbG.cons (zaX underlying3) h;obtain⟨rfl,rfl⟩:=h.nil;have bb:Rows.uptoBulk (.agg [d0,d1,d2,d3])=Rows.uptoBulk d0+Rows.uptoBulk d1+Rows.uptoBulk d2+Rows.uptoBulk d3+1:=by simp[Rows.uptoBulk,Rows.uptoBulkAll];try omega
 have p0:=zam d0;have p1:=zam d1;have p2:=zam d2;have p3:=zam d3;have b0:Rows.uptoBulk d0=x0.length+1:=by rw[q0];simp[Rows.uptoBulk]
 clear q0;have b1:Rows.uptoBulk d1=x1.length+1:=by rw[q1];simp[Rows.uptoBulk]
 clear q1;refine⟨⟨x0,x1,x2,x3⟩,c0.append (c1.append (c2.append (c3.append zab.nil))),?_⟩;unfold zom;rw[bb]
 show 3+(x0.length+x1.length)≤_
 omega
def QVl (x:VlD) (d:DataW H):Prop:=(Rows.uptoBulk d≤1048576→x.to.length≤140737488355328)∧vlN x+vlC x≤3*Rows.uptoBulk d
theorem zoq:Opn H enc W 61 VlD.cells QVl:=by
 refine za1 [(9,1),(55,3),(3,1),(3,1),(56,1)] underlying61 (by kernel_rfl) (by kernel_rfl) (by kernel_rfl) (fun us ds h=> ?_);obtain⟨x0,vs0,us,d0,ds,rfl,rfl,c0,q0,h⟩:=zbG.cons (zbH underlying9) h;obtain⟨x1,vs1,us,d1,ds,rfl,rfl,c1,q1,h⟩:=zbG.cons zfT h;obtain⟨x2,vs2,us,d2,ds,rfl,rfl,c2,q2,h⟩:=zbG.cons (zaX underlying3) h;obtain⟨x3,vs3,us,d3,ds,rfl,rfl,c3,q3,h⟩:=zbG.cons (zaX underlying3) h;obtain⟨x4,vs4,us,d4,ds,rfl,rfl,c4,q4,h⟩:=zbG.cons (zaY (size:=3) underlying56 (by kernel_rfl) (by decide) (fun _=>rfl) zfT) h;obtain⟨rfl,rfl⟩:=h.nil;have bb:Rows.uptoBulk (.agg [d0,d1,d2,d3,d4])=Rows.uptoBulk d0+Rows.uptoBulk d1+Rows.uptoBulk d2+Rows.uptoBulk d3+Rows.uptoBulk d4+1:=by simp[Rows.uptoBulk,Rows.uptoBulkAll];try omega
 have p0:=zam d0;have p1:=zam d1;have p2:=zam d2;have p3:=zam d3;have p4:=zam d4;have b0:Rows.uptoBulk d0=x0.length+1:=by rw[q0];simp[Rows.uptoBulk]
 clear q0;refine⟨⟨x0,x1,x2,x3,x4⟩,c0.append (c1.append (c2.append (c3.append (c4.append zab.nil)))),?_⟩;have l4:=q4.len;have s4:=q4.sum (fun y=>zd9 y+2) (fun x y h=>h);rw[zeB,zbn] at s4;unfold zoX at q1;rw[QVl,bb];refine⟨fun hb=>by show x4.length≤_;omega,?_⟩
 show 3+2*x4.length+(x0.length+(zd9 x1+(x4.map zd9).sum))≤_
 omega
def zjZ (x:zaB) (d:DataW H):Prop:=zdN x∧3+zb1 x≤3*Rows.uptoBulk d
theorem ziY:Opn H enc W 73 zaB.cells zjZ:=by
 refine za1 [(9,1),(9,1),(5,1),(5,1),(5,1)] underlying73 (by kernel_rfl) (by kernel_rfl) (by kernel_rfl) (fun us ds h=> ?_);obtain⟨x0,vs0,us,d0,ds,rfl,rfl,c0,q0,h⟩:=zbG.cons (zbH underlying9) h;obtain⟨x1,vs1,us,d1,ds,rfl,rfl,c1,q1,h⟩:=zbG.cons (zbH underlying9) h;obtain⟨x2,vs2,us,d2,ds,rfl,rfl,c2,q2,h⟩:=zbG.cons (zgK underlying5) h;obtain⟨x3,vs3,us,d3,ds,rfl,rfl,c3,q3,h⟩:=zbG.cons (zgK underlying5) h;obtain⟨x4,vs4,us,d4,ds,rfl,rfl,c4,q4,h⟩:=zbG.cons (zgK underlying5) h;obtain⟨rfl,rfl⟩:=h.nil;have bb:Rows.uptoBulk (.agg [d0,d1,d2,d3,d4])=Rows.uptoBulk d0+Rows.uptoBulk d1+Rows.uptoBulk d2+Rows.uptoBulk d3+Rows.uptoBulk d4+1:=by simp[Rows.uptoBulk,Rows.uptoBulkAll];try omega
 have p0:=zam d0;have p1:=zam d1;have p2:=zam d2;have p3:=zam d3;have p4:=zam d4;have b0:Rows.uptoBulk d0=x0.length+1:=by rw[q0];simp[Rows.uptoBulk]
 clear q0;have b1:Rows.uptoBulk d1=x1.length+1:=by rw[q1];simp[Rows.uptoBulk]
 clear q1;refine⟨⟨x0,x1,x2,x3,x4⟩,c0.append (c1.append (c2.append (c3.append (c4.append zab.nil)))),?_⟩;rw[zjZ,bb];refine⟨⟨q2,q3,q4⟩,?_⟩
 show 3+(x0.length+x1.length)≤_
 omega
def QRep (x:zcu) (d:DataW H):Prop:=2+x.unit.length≤3*Rows.uptoBulk d
theorem zna:Opn H enc W 67 zcu.cells QRep:=by
 refine za1 [(9,1),(3,1)] underlying67 (by kernel_rfl) (by kernel_rfl) (by kernel_rfl) (fun us ds h=> ?_);obtain⟨x0,vs0,us,d0,ds,rfl,rfl,c0,q0,h⟩:=zbG.cons (zbH underlying9) h;obtain⟨x1,vs1,us,d1,ds,rfl,rfl,c1,q1,h⟩:=zbG.cons (zaX underlying3) h;obtain⟨rfl,rfl⟩:=h.nil;have bb:Rows.uptoBulk (.agg [d0,d1])=Rows.uptoBulk d0+Rows.uptoBulk d1+1:=by simp[Rows.uptoBulk,Rows.uptoBulkAll];try omega
 have p0:=zam d0;have p1:=zam d1;have b0:Rows.uptoBulk d0=x0.length+1:=by rw[q0];simp[Rows.uptoBulk]
 clear q0;refine⟨⟨x0,x1⟩,c0.append (c1.append zab.nil),?_⟩;unfold QRep;rw[bb]
 show 2+x0.length≤_
 omega
def zmp (x:zaF) (d:DataW H):Prop:=(Rows.uptoBulk d≤1048576→zbR x)∧zbW x+zcU x≤3*Rows.uptoBulk d
theorem zka:Opn H enc W 65 zaF.cells zmp:=by
 refine za1 [(9,1),(62,1),(63,1)] underlying65 (by kernel_rfl) (by kernel_rfl) (by kernel_rfl) (fun us ds h=> ?_);obtain⟨x0,vs0,us,d0,ds,rfl,rfl,c0,q0,h⟩:=zbG.cons (zbH underlying9) h;obtain⟨x1,vs1,us,d1,ds,rfl,rfl,c1,q1,h⟩:=zbG.cons (zaY (size:=2) underlying62 (by kernel_rfl) (by decide) (fun _=>rfl) zna) h;obtain⟨x2,vs2,us,d2,ds,rfl,rfl,c2,q2,h⟩:=zbG.cons (zaY (size:=1) underlying63 (by kernel_rfl) (by decide) (fun _=>rfl) (zbH underlying9)) h;obtain⟨rfl,rfl⟩:=h.nil;have bb:Rows.uptoBulk (.agg [d0,d1,d2])=Rows.uptoBulk d0+Rows.uptoBulk d1+Rows.uptoBulk d2+1:=by simp[Rows.uptoBulk,Rows.uptoBulkAll];try omega
 have p0:=zam d0;have p1:=zam d1;have p2:=zam d2;have b0:Rows.uptoBulk d0=x0.length+1:=by rw[q0];simp[Rows.uptoBulk]
 clear q0;refine⟨⟨x0,x1,x2⟩,c0.append (c1.append (c2.append zab.nil)),?_⟩;have l1:=q1.len;have l2:=q2.len;have s1:=q1.sum (fun y=>2+y.unit.length) (fun x y h=>h);have s2:=q2.sum (fun y=>1+y.length) (fun x y h=>by rw[h];simp[Rows.uptoBulk];omega);rw[zeB,zbn] at s1 s2;rw[zmp,bb];refine⟨fun hb=>⟨by show x1.length≤_;omega,by show x2.length<_;omega⟩,?_⟩;have e2:(x2.map List.length).sum=(x2.map fun y=>y.length).sum:=rfl
 show 1+2*x1.length+x2.length+(x0.length+(x1.map fun y=>y.unit.length).sum+(x2.map fun y=>y.length).sum)≤_
 omega
def QVer (x:zdt) (d:DataW H):Prop:=3+zg1 x≤3*Rows.uptoBulk d
theorem znB:Opn H enc W 75 zdt.cells QVer:=by
 refine za1 [(9,1),(3,1),(9,1),(3,1)] underlying75 (by kernel_rfl) (by kernel_rfl) (by kernel_rfl) (fun us ds h=> ?_);obtain⟨x0,vs0,us,d0,ds,rfl,rfl,c0,q0,h⟩:=zbG.cons (zbH underlying9) h;obtain⟨x1,vs1,us,d1,ds,rfl,rfl,c1,q1,h⟩:=zbG.cons (zaX underlying3) h;obtain⟨x2,vs2,us,d2,ds,rfl,rfl,c2,q2,h⟩:=zbG.cons (zbH underlying9) h;obtain⟨x3,vs3,us,d3,ds,rfl,rfl,c3,q3,h⟩:=zbG.cons (zaX underlying3) h;obtain⟨rfl,rfl⟩:=h.nil;have bb:Rows.uptoBulk (.agg [d0,d1,d2,d3])=Rows.uptoBulk d0+Rows.uptoBulk d1+Rows.uptoBulk d2+Rows.uptoBulk d3+1:=by simp[Rows.uptoBulk,Rows.uptoBulkAll];try omega
 have p0:=zam d0;have p1:=zam d1;have p2:=zam d2;have p3:=zam d3;have b0:Rows.uptoBulk d0=x0.length+1:=by rw[q0];simp[Rows.uptoBulk]
 clear q0;have b2:Rows.uptoBulk d2=x2.length+1:=by rw[q2];simp[Rows.uptoBulk]
 clear q2;refine⟨⟨x0,x1,x2,x3⟩,c0.append (c1.append (c2.append (c3.append zab.nil))),?_⟩;unfold QVer;rw[bb]
 show 3+(x0.length+x2.length)≤_
 omega
def QCfg (x:zcS) (d:DataW H):Prop:=(Rows.uptoBulk d≤1048576→zdB x)∧zgP x+zh9 x≤3*Rows.uptoBulk d
theorem zpu:Opn H enc W 31 zcS.cells QCfg:=by
 refine za1 [(22,1),(23,1),(24,1),(25,1),(26,1),(27,1),(28,1),(29,1)] underlying31 (by kernel_rfl) (by kernel_rfl) (by kernel_rfl) (fun us ds h=> ?_);obtain⟨x0,vs0,us,d0,ds,rfl,rfl,c0,q0,h⟩:=zbG.cons (zaY (size:=4) underlying22 (by kernel_rfl) (by decide) (fun _=>rfl) zmU) h;obtain⟨x1,vs1,us,d1,ds,rfl,rfl,c1,q1,h⟩:=zbG.cons (zaY (size:=4) underlying23 (by kernel_rfl) (by decide) (fun _=>rfl) zkL) h;obtain⟨x2,vs2,us,d2,ds,rfl,rfl,c2,q2,h⟩:=zbG.cons (zaY (size:=4) underlying24 (by kernel_rfl) (by decide) (fun _=>rfl) zok) h;obtain⟨x3,vs3,us,d3,ds,rfl,rfl,c3,q3,h⟩:=zbG.cons (zaY (size:=4) underlying25 (by kernel_rfl) (by decide) (fun _=>rfl) zkT) h;obtain⟨x4,vs4,us,d4,ds,rfl,rfl,c4,q4,h⟩:=zbG.cons (zaY (size:=7) underlying26 (by kernel_rfl) (by decide) (fun _=>rfl) zoq) h;obtain⟨x5,vs5,us,d5,ds,rfl,rfl,c5,q5,h⟩:=zbG.cons (zaY (size:=5) underlying27 (by kernel_rfl) (by decide) (fun _=>rfl) ziY) h;obtain⟨x6,vs6,us,d6,ds,rfl,rfl,c6,q6,h⟩:=zbG.cons (zaY (size:=3) underlying28 (by kernel_rfl) (by decide) (fun _=>rfl) zka) h;obtain⟨x7,vs7,us,d7,ds,rfl,rfl,c7,q7,h⟩:=zbG.cons (zaY (size:=4) underlying29 (by kernel_rfl) (by decide) (fun _=>rfl) znB) h;obtain⟨rfl,rfl⟩:=h.nil;have bb:Rows.uptoBulk (.agg [d0,d1,d2,d3,d4,d5,d6,d7])=Rows.uptoBulk d0+Rows.uptoBulk d1+Rows.uptoBulk d2+Rows.uptoBulk d3+Rows.uptoBulk d4+Rows.uptoBulk d5+Rows.uptoBulk d6+Rows.uptoBulk d7+1:=by simp[Rows.uptoBulk,Rows.uptoBulkAll];try omega
 have p0:=zam d0;have p1:=zam d1;have p2:=zam d2;have p3:=zam d3;have p4:=zam d4;have p5:=zam d5;have p6:=zam d6;have p7:=zam d7;refine⟨⟨x0,x1,x2,x3,x4,x5,x6,x7⟩,c0.append (c1.append (c2.append (c3.append (c4.append (c5.append (c6.append (c7.append zab.nil))))))),?_⟩;have l0:=q0.len;have l1:=q1.len;have l2:=q2.len;have l3:=q3.len;have l4:=q4.len;have l5:=q5.len;have l6:=q6.len;have l7:=q7.len;have s0:=q0.sum (fun y=>zfh y+zgZ y) (fun x y h=>h.2);have s1:=q1.sum (fun y=>zc6 y+zd7 y) (fun x y h=>h.2);have s2:=q2.sum (fun y=>2+y.name.length) (fun x y h=>h);have s3:=q3.sum (fun y=>3+zec y) (fun x y h=>h);have s4:=q4.sum (fun y=>vlN y+vlC y) (fun x y h=>h.2);have s5:=q5.sum (fun y=>3+zb1 y) (fun x y h=>h.2);have s6:=q6.sum (fun y=>zbW y+zcU y) (fun x y h=>h.2);have s7:=q7.sum (fun y=>3+zg1 y) (fun x y h=>h);rw[zeB] at s0 s1 s2 s3 s4 s5 s6 s7;rw[zbn] at s2 s3 s5 s7;rw[QCfg,bb];refine⟨fun hb=>⟨by show x0.length≤_;omega,fun y hy=> ?_,by show x1.length≤_;omega,fun y hy=> ?_,by show x2.length≤_;omega,by show x3.length≤_;omega,by show x4.length≤_;omega,fun y hy=> ?_,by show x5.length≤_;omega,fun y hy=> ?_,by show x6.length≤_;omega,fun y hy=> ?_,by show x7.length≤_;omega⟩,?_⟩
 ·obtain⟨z,hz,hzb⟩:=q0.each hy
  exact hz.1 (by omega)
 ·obtain⟨z,hz,hzb⟩:=q1.each hy
  exact hz.1 (by omega)
 ·obtain⟨z,hz,hzb⟩:=q4.each hy
  exact hz.1 (by omega)
 ·obtain⟨z,hz,hzb⟩:=q5.each hy
  exact hz.1
 ·obtain⟨z,hz,hzb⟩:=q6.each hy
  exact hz.1 (by omega)
 ·show x3.length*3+x2.length*2+x7.length*3+x5.length*3+(x0.map zfh).sum+(x1.map zc6).sum+(x4.map vlN).sum+(x6.map zbW).sum+((x0.map zgZ).sum+(x1.map zd7).sum+(x4.map vlC).sum+(x6.map zcU).sum+(x2.map fun y=>y.name.length).sum+(x3.map zec).sum+(x5.map zb1).sum+(x7.map zg1).sum)≤_
  omega
end
open Go.RowKit
theorem zho {w:World} {base:Nat} {e:TypeId} {size:Nat} {v:Value} {n:Nat} {xs:List Value} (h:w.ownsRow base e size v n xs): ∃A c,v= .slice A n c:=by
 rcases h.2 with⟨rfl,rfl⟩|⟨g,cap,cur,rfl,_⟩
 ·exact⟨none,0,rfl⟩
 ·exact⟨_,_,rfl⟩
attribute [local go_sem] zaj.cell
def zhq (l:List (List UInt8)):List Value:=l.map fun s=> .string ⟨s.toArray⟩
def SplR (w:World) (l:List (List UInt8)) (e:Ending) (w':World):Prop:= ∃A q,e= .returned (.slice A l.length q)∧w'.ownsRow w.heap.size 9 1 (.slice A l.length q) l.length (zhq l)∧Below w.heap.size w w'
theorem zks (s:ByteArray) (hs:s.size≤1000000) (w:World):Calls prog 274 #[.string s] w (SplR w (zcF s.data.toList)):=by
 obtain⟨i0,hi0,hz0,hz1,hz2⟩:=info_parts zmZ;have hl:s.data.toList.length=s.size:=by simp
 go_enter func274,ntmps274
 go_wp2_with fail
 go_loopw [3,4,5] (fun v3 v4 v5 wr=> ∃(i:Nat) (d:List (List UInt8)) (c:List UInt8) (A:Option Addr) (q:Nat),v5= .int .i64 i∧v4= .int .i64 ((i:Int)-(c.length:Int))∧v3= .slice A d.length q∧wr.ownsRow w.heap.size 9 1 (.slice A d.length q) d.length (zhq d)∧Below w.heap.size w wr∧
  (i≤s.size∧(s.data.toList.take i).foldl zfj ([],[])=(d,c)∨i=s.size+1∧d=zcF s.data.toList)) (fun _ _ v5 _=>s.size+2-(intOf v5).toNat)
 case atStart=>exact⟨0,[],[],none,0,rfl,rfl,rfl,World.ownsRow_nil _ _ _ _,Below.refl _ _,.inl ⟨by omega,rfl⟩⟩
 case round=>
  obtain⟨i,d,c,A,q,rfl,rfl,rfl,ho,hbr,hst⟩:=hrel;have HO:=zaa ho;have HBR:=zaa hbr;clear ho hbr;rcases hst with⟨hi,hf⟩|⟨rfl,rfl⟩
  ·have hlast:=zl9 s.data.toList i (by omega)
   rw[hf] at hlast;dsimp only at hlast;have hfew:=zhd (s.data.toList.take i) ([],[]);rw[hf,List.length_take] at hfew;simp only[List.length_nil,Nat.zero_add] at hfew;by_cases hin:i<s.size
   ·have hb:s.data.toList[i]? =some (s[i]'hin):=by
     rw[List.getElem?_eq_getElem (by omega)];simp
     rfl
    have hnx:=zkY hb;rw[hf] at hnx;have e1:((i:Int)==(s.size:Int))=false:=by simp;omega
    have i1:(i:Int)≤(s.size:Int):=by omega
    have c1:(c.length:Int)≤(i:Int):=by omega
    by_cases h32:(s[i]'hin)=32
    ·have e2:(((s[i]'hin).toNat:Int)==32)=true:=by rw[h32];rfl
     have HNX:=zaa (hnx.trans (show zfj (d,c) (s[i]'hin)=(d++[c],[]) by rw[h32];rfl));have HLC:=zaa hlast;clear hf hnx hb h32 hlast;go_wp2_with(at_builtin;apply Hid.out)
     refine zaa ?_;obtain⟨X,hX⟩: ∃X:ByteArray,s.extract (i-c.length) i=X:=⟨_,rfl⟩;have HXc:=zaa (show X=⟨c.toArray⟩ by
      rw[←hX];apply ByteArray.ext;apply Array.toList_inj.1;rw[Lib.extract_data,←List.drop_take];exact HLC.out.2)
     rw[hX];refine zaw _ rfl _ _ 63 rfl w.heap.size 9 i0 _ 1 16 underlying63 hi0 hz0 hz1 hz2 rfl (by decide) (.slice A d.length q) _ (zhq d) rfl (zaJ HO.out (fun g hg _=>Below.heap_alloc _ _ _ (zas HO.out hg).2)) (wr.heap.size+1) (some ⟨wr.heap.size,0,none⟩) 1 1 [.string X] rfl ⟨rfl,fun _=>⟨_,rfl,Nat.lt_succ_self _,fun j u hu=>World.news_of_block (heap_alloc_new wr _) j u hu⟩⟩ (by simp[Value.oneCell']) (by unfold maxLen;omega) (by omega) (by have:=HBR.out.size;simp;omega) ?_;intro v5 wz hown hg hat;obtain⟨A',q',rfl⟩:=zho hown;have HB2:=zaa ((HBR.out.alloc HBR.out.size (.cells #[.string X] 9)).grown hg (by have:=HBR.out.size;simp;omega) (fun g e=>(zas HO.out e).1));have HO2:=zaa (show wz.ownsRow w.heap.size 9 1 (.slice A' (d++[c]).length q') (d++[c]).length (zhq (d++[c])) by
      have e:zhq (d++[c])=zhq d++[.string X]:=by rw[HXc.out];simp[zhq]
      rw[e,List.length_append];exact hown)
     have hlen:(d++[c]).length=d.length+1:=by simp
     clear hown hg hat;go_wp2_with fail;go_roundw
     case rel=>exact⟨i+1,d++[c],[],A',q',by go_num,by simp,by rw[hlen],HO2.out,HB2.out,.inl ⟨by omega,HNX.out⟩⟩
     case measure=>simp[intOf];omega
    ·have e2:(((s[i]'hin).toNat:Int)==32)=false:=by
      simp;intro h;have h':(s[i]'hin).toNat=32:=by omega
      exact h32 (UInt8.toNat_inj.1 (h'.trans rfl))
     have HNX:=zaa (hnx.trans (show zfj (d,c) (s[i]'hin)=(d,c++[s[i]'hin]) from if_neg h32));clear hf hnx hb h32 hlast;go_wp2_with fail;go_roundw
     case rel=>exact⟨i+1,d,_,A,q,by go_num,by simp;omega,rfl,HO.out,HBR.out,.inl ⟨by omega,HNX.out⟩⟩
     case measure=>simp[intOf];omega
   ·obtain rfl:i=s.size:=by omega
    have HSP:=zaa (show d++[c]=zcF s.data.toList by
     unfold zcF;rw[List.take_of_length_le (by omega)] at hf;rw[hf])
    have c1:(c.length:Int)≤(s.size:Int):=by omega
    have HLC:=zaa hlast;clear hf hlast;go_wp2_with(at_builtin;apply Hid.out)
    refine zaa ?_;obtain⟨X,hX⟩: ∃X:ByteArray,s.extract (s.size-c.length) s.size=X:=⟨_,rfl⟩;have HXc:=zaa (show X=⟨c.toArray⟩ by
     rw[←hX];apply ByteArray.ext;apply Array.toList_inj.1;rw[Lib.extract_data,←List.drop_take];exact HLC.out.2)
    rw[hX];refine zaw _ rfl _ _ 63 rfl w.heap.size 9 i0 _ 1 16 underlying63 hi0 hz0 hz1 hz2 rfl (by decide) (.slice A d.length q) _ (zhq d) rfl (zaJ HO.out (fun g hg _=>Below.heap_alloc _ _ _ (zas HO.out hg).2)) (wr.heap.size+1) (some ⟨wr.heap.size,0,none⟩) 1 1 [.string X] rfl ⟨rfl,fun _=>⟨_,rfl,Nat.lt_succ_self _,fun j u hu=>World.news_of_block (heap_alloc_new wr _) j u hu⟩⟩ (by simp[Value.oneCell']) (by unfold maxLen;omega) (by omega) (by have:=HBR.out.size;simp;omega) ?_;intro v5 wz hown hg hat;obtain⟨A',q',rfl⟩:=zho hown;have HB2:=zaa ((HBR.out.alloc HBR.out.size (.cells #[.string X] 9)).grown hg (by have:=HBR.out.size;simp;omega) (fun g e=>(zas HO.out e).1));have HO2:=zaa (show wz.ownsRow w.heap.size 9 1 (.slice A' (d++[c]).length q') (d++[c]).length (zhq (d++[c])) by
     have e:zhq (d++[c])=zhq d++[.string X]:=by rw[HXc.out];simp[zhq]
     rw[e,List.length_append];exact hown)
    have hlen:(d++[c]).length=d.length+1:=by simp
    clear hown hg hat;rw[HSP.out] at HO2 hlen;go_wp2_with fail;go_roundw
    case rel=>exact⟨s.size+1,zcF s.data.toList,[],A',q',by go_num,by simp,by rw[hlen],HO2.out,HB2.out,.inr ⟨rfl,rfl⟩⟩
    case measure=>simp[intOf]
  ·have e1: ¬(((s.size+1:Nat):Int)≤(s.size:Int)):=by omega
   go_wp2_with fail;go_ret;exact⟨A,q,rfl,HO.out,HBR.out⟩
theorem zoy {w w':World} {base:Nat} {t:TypeId} {l:List (List UInt8)} {A:Option Addr} {q k:Nat} {x:List UInt8} (h:w.ownsRow base t 1 (.slice A l.length q) l.length (zhq l)) (hb:Below w.heap.size w w') (hx:l[k]? =some x):
 ∃b,A=some ⟨b,0,none⟩∧b<w'.heap.size∧w'.cell? ⟨b,k,none⟩=some (.string ⟨x.toArray⟩):=by
 have hk:=(List.getElem?_eq_some_iff.1 hx).1;obtain⟨g,cap,hv,_,hlt⟩:=h.form (by omega);have hA:A=some ⟨g,0,none⟩:=by injection hv
 subst hA;refine⟨g,rfl,Nat.lt_of_lt_of_le hlt hb.size,(hb.cell (p:=⟨g,k,none⟩) hlt).trans ?_⟩;rw[World.ownsRow.cellAt h k (by omega)];unfold zhq;rw[List.getElem?_map,hx]
 rfl
theorem zgq (s:ByteArray) (hs:s.size≤1000000) (z:Int) (hz: -1≤z∧z≤1000000) (w:World):Calls prog 242 #[.string s,.int .i64 z] w fun e w'=>e= .returned (.string ⟨(if z<0 then[] else(zcF s.data.toList).getD z.toNat []).toArray⟩)∧Below w.heap.size w w':=by
 have HS:=zaa (zks s hs w);have hln:(zcF s.data.toList).length≤1000001:=by
  have:=zhd s.data.toList ([],[]);unfold zcF;simp at this ⊢
  omega
 generalize zcF s.data.toList=l at *;have hcase:z<0∨0≤z∧(l.length:Int)≤z∨ ∃k:Nat,z=k∧k<l.length:=by
  by_cases h0:z<0
  ·exact .inl h0
  ·by_cases h1:(l.length:Int)≤z
   ·exact .inr (.inl ⟨by omega,h1⟩)
   ·exact .inr (.inr ⟨z.toNat,by omega,by omega⟩)
 rcases hcase with h|⟨h,h'⟩|⟨k,rfl,hk⟩
 ·rw[if_pos h]
  go_enter func242,ntmps242
  go_wp2_with fail;refine HS.out.mono ?_;rintro e w1 ⟨A,q,rfl, -,hb⟩;have HB:=zaa hb;clear hb;go_wp2_with fail;go_ret;exact⟨rfl,HB.out⟩
 ·rw[if_neg (by omega),show l.getD z.toNat []=[] by rw[List.getD_eq_getElem?_getD,List.getElem?_eq_none (by omega)];rfl]
  go_enter func242,ntmps242
  go_wp2_with fail;refine HS.out.mono ?_;rintro e w1 ⟨A,q,rfl, -,hb⟩;have HB:=zaa hb;clear hb;go_wp2_with fail;go_ret;exact⟨rfl,HB.out⟩
 ·have hx:l[k]? =some (l.getD k []):=by rw[List.getD_eq_getElem?_getD,List.getElem?_eq_getElem hk];rfl
  rw[if_neg (by omega),Int.toNat_natCast];generalize l.getD k []=x at *;have k0:(0:Int)≤(k:Int):=by omega
  have k1:(k:Int)<(l.length:Int):=by omega
  go_enter func242,ntmps242
  go_wp2_with fail;refine HS.out.mono ?_;rintro e w1 ⟨A,q,rfl,ho,hb⟩;obtain⟨b,rfl,hb1,hc⟩:=zoy ho (Below.refl _ _) hx;have HB:=zaa hb;clear hb ho hx;go_wp2_with fail;go_ret;exact⟨rfl,HB.out⟩
theorem zdP (ws:List (List UInt8)) (n:Nat):(if(n:Int)-1<0 then[] else ws.getD ((n:Int)-1).toNat [])=zaf ws n:=by
 unfold zaf;by_cases h:n=0
 ·rw[if_pos h,if_pos (by omega)]
 ·rw[if_neg h,if_neg (by omega),show((n:Int)-1).toNat=n-1 by omega]
theorem zga (n:Nat) (hn:n≤255) (w:World):Calls prog 192 #[.int .u8 (n:Int)] w fun e w'=>e= .returned (.string ⟨(zaf zaA n).toArray⟩)∧Below w.heap.size w w':=by
 have h:=zgq ⟨#[119,111,114,107,32,115,101,116,32,97,100,100,32,115,117,98,32,108,111,97,100,32,115,116,111,114,101,32,115,101,110,100,32,114,101,99,118,32,119,97,105,116,32,115,105,103,110,97,108,32,114,97,105,115,101,32,108,111,119,101,114,32,117,110,116,105,108,32,112,117,116,32,103,101,116,32,115,104,111,119,32,108,111,111,107,32,99,108,101,97,114,32,110,101,120,116,32,106,117,109,112,32,122,101,114,111,32,108,101,115,115,32,100,105,118,32,102,97,117,108,116,32,115,116,111,112]⟩ (by decide) ((n:Int)-1) (by omega) w;rw[show(⟨#[119,111,114,107,32,115,101,116,32,97,100,100,32,115,117,98,32,108,111,97,100,32,115,116,111,114,101,32,115,101,110,100,32,114,101,99,118,32,119,97,105,116,32,115,105,103,110,97,108,32,114,97,105,115,101,32,108,111,119,101,114,32,117,110,116,105,108,32,112,117,116,32,103,101,116,32,115,104,111,119,32,108,111,111,107,32,99,108,101,97,114,32,110,101,120,116,32,106,117,109,112,32,122,101,114,111,32,108,101,115,115,32,100,105,118,32,102,97,117,108,116,32,115,116,111,112]⟩:ByteArray).data.toList=_ from rfl,zhf,zdP] at h;have H:=zaa h;clear h;generalize(⟨(zaf zaA n).toArray⟩:ByteArray)=x at *
 go_enter func192,ntmps192
 go_wp2_with fail;refine H.out.mono ?_;rintro e w1 ⟨rfl,hb⟩;have HB:=zaa hb;clear hb;go_wp2_with fail;go_ret;exact⟨rfl,HB.out⟩
theorem zdi (n:Nat) (hn:n≤255) (w:World):Calls prog 187 #[.int .u8 (n:Int)] w fun e w'=>e= .returned (.string ⟨(zaf zal n).toArray⟩)∧Below w.heap.size w w':=by
 have h:=zgq ⟨#[100,101,97,100,108,105,110,101,32,109,101,109,111,114,121,32,114,97,105,115,101,100,32,110,117,109,101,114,105,99,32,115,116,97,99,107,32,112,111,119,101,114,32,119,105,110,100,111,119]⟩ (by decide) ((n:Int)-1) (by omega) w;rw[show(⟨#[100,101,97,100,108,105,110,101,32,109,101,109,111,114,121,32,114,97,105,115,101,100,32,110,117,109,101,114,105,99,32,115,116,97,99,107,32,112,111,119,101,114,32,119,105,110,100,111,119]⟩:ByteArray).data.toList=_ from rfl,zf8,zdP] at h;have H:=zaa h;clear h;generalize(⟨(zaf zal n).toArray⟩:ByteArray)=x at *
 go_enter func187,ntmps187
 go_wp2_with fail;refine H.out.mono ?_;rintro e w1 ⟨rfl,hb⟩;have HB:=zaa hb;clear hb;go_wp2_with fail;go_ret;exact⟨rfl,HB.out⟩
theorem zdn (n:Nat) (hn:n≤255) (w:World):Calls prog 188 #[.int .u8 (n:Int)] w fun e w'=>e= .returned (.string ⟨(zaf zai n).toArray⟩)∧Below w.heap.size w w':=by
 have h:=zgq ⟨#[112,114,111,99,101,115,115,32,112,97,114,116,32,109,111,100,117,108,101]⟩ (by decide) ((n:Int)-1) (by omega) w;rw[show(⟨#[112,114,111,99,101,115,115,32,112,97,114,116,32,109,111,100,117,108,101]⟩:ByteArray).data.toList=_ from rfl,zgD,zdP] at h;have H:=zaa h;clear h;generalize(⟨(zaf zai n).toArray⟩:ByteArray)=x at *
 go_enter func188,ntmps188
 go_wp2_with fail;refine H.out.mono ?_;rintro e w1 ⟨rfl,hb⟩;have HB:=zaa hb;clear hb;go_wp2_with fail;go_ret;exact⟨rfl,HB.out⟩
theorem zcX (n:Nat) (hn:n≤255) (w:World):Calls prog 189 #[.int .u8 (n:Int)] w fun e w'=>e= .returned (.string ⟨(zaf zag n).toArray⟩)∧Below w.heap.size w w':=by
 have h:=zgq ⟨#[105,103,110,111,114,101,32,115,116,111,112,32,114,101,115,116,97,114,116,32,119,97,114,109,32,99,111,108,100,32,105,100,108,101,32,114,101,115,101,116,32,104,97,108,116]⟩ (by decide) ((n:Int)-1) (by omega) w;rw[show(⟨#[105,103,110,111,114,101,32,115,116,111,112,32,114,101,115,116,97,114,116,32,119,97,114,109,32,99,111,108,100,32,105,100,108,101,32,114,101,115,101,116,32,104,97,108,116]⟩:ByteArray).data.toList=_ from rfl,zfR,zdP] at h;have H:=zaa h;clear h;generalize(⟨(zaf zag n).toArray⟩:ByteArray)=x at *
 go_enter func189,ntmps189
 go_wp2_with fail;refine H.out.mono ?_;rintro e w1 ⟨rfl,hb⟩;have HB:=zaa hb;clear hb;go_wp2_with fail;go_ret;exact⟨rfl,HB.out⟩
theorem zjW (n:Nat) (hn:n≤255):zaf zdw n=[45]∧zaf zaP n=[]∨zaf zdw n≠[45]∧zaf zdw n=zaf zaP n:=by
 have h:((List.range 256).all fun n=>(zaf zdw n==[45]&&zaf zaP n==[])||(zaf zdw n != [45]&&zaf zdw n==zaf zaP n))=true:=by decide +kernel
 have:=List.all_eq_true.1 h n (by simp;omega)
 simpa using this
theorem zhm (n:Nat) (hn:n≤255) (w:World):Calls prog 191 #[.int .u8 (n:Int)] w fun e w'=>e= .returned (.string ⟨(zaf zaP n).toArray⟩)∧Below w.heap.size w w':=by
 have h:=zgq ⟨#[119,32,114,118,32,114,114,32,114,114,32,114,97,114,32,114,97,114,32,111,114,108,32,105,114,114,32,115,32,115,32,101,32,101,32,101,32,98,114,32,98,114,32,100,114,32,100,114,32,100,32,45,32,106,32,114,106,32,114,114,106,32,114,114,32,99,32,45]⟩ (by decide) ((n:Int)-1) (by omega) w;rw[show(⟨#[119,32,114,118,32,114,114,32,114,114,32,114,97,114,32,114,97,114,32,111,114,108,32,105,114,114,32,115,32,115,32,101,32,101,32,101,32,98,114,32,98,114,32,100,114,32,100,114,32,100,32,45,32,106,32,114,106,32,114,114,106,32,114,114,32,99,32,45]⟩:ByteArray).data.toList=_ from rfl,zkv,zdP] at h;have H:=zaa h;clear h;rcases zjW n hn with⟨h1,h2⟩|⟨h1,h2⟩
 ·rw[h2]
  rw[h1] at H;clear h1 h2
  go_enter func191,ntmps191
  go_wp2_with fail;refine H.out.mono ?_;rintro e w1 ⟨rfl,hb⟩;have HB:=zaa hb;clear hb;go_wp2_with fail;go_ret;exact⟨rfl,HB.out⟩
 ·rw[←h2]
  have e1:(zaf zdw n==[45])=false:=by simpa using h1
  clear h2;generalize zaf zdw n=x at *
  go_enter func191,ntmps191
  go_wp2_with fail;refine H.out.mono ?_;rintro e w1 ⟨rfl,hb⟩;have HB:=zaa hb;clear hb;go_wp2_with fail;go_ret;exact⟨rfl,HB.out⟩
theorem zhs (w:World) (n:Nat):(convert 119 9 (.slice (some ⟨w.heap.size,0,none⟩) 1 1)).run prog (w.alloc (.cells #[.int .u8 (48+(n:Int) % 10)] 5))= .ok (.string ⟨#[UInt8.ofNat (48+n % 10)]⟩) (w.alloc (.cells #[.int .u8 (48+(n:Int) % 10)] 5)):=by
 have h:=run_convert_bytes_arg (P:=prog) (w.alloc (.cells #[.int .u8 (48+(n:Int) % 10)] 5)) 119 5 underlying119 underlying5 w.heap.size 0 1 1 [48+(n:Int) % 10] rfl (fun i hi=>by
  obtain rfl:i=0:=by omega
  rw[cell_of_row _ _ _ _ _ _ (heap_alloc_new w _)]
  rfl) 9 underlying9
 have e:strOfNums [48+(n:Int) % 10]=⟨#[UInt8.ofNat (48+n % 10)]⟩:=by
  show(⟨#[UInt8.ofNat (48+(n:Int) % 10).toNat]⟩:ByteArray)=_
  rw[show(48+(n:Int) % 10).toNat=48+n % 10 by omega]
 rw[←e];exact h
theorem zhA {n:Nat} (h:n≤9):Lib.decDigits n=[UInt8.ofNat (48+n % 10)]:=by
 unfold Lib.decDigits;rw[dif_pos (by omega),Nat.mod_eq_of_lt (by omega)]
theorem zox {n:Nat} (h: ¬n≤9):Lib.decDigits n=Lib.decDigits (n/10)++[UInt8.ofNat (48+n % 10)]:=by
 rw[Lib.decDigits,dif_neg (by omega)]
theorem zlL: ∀(f n:Nat),f≤9→n<10 ^ (f+1)→n≤1073741824→ ∀W:World,Calls prog 157 #[.int .i64 (n:Int)] W fun e w'=>e= .returned (.string ⟨(Lib.decDigits n).toArray⟩)∧Below W.heap.size W w':=by
 intro f
 induction f with
 |zero=>
  intro n hf9 h h30 W;have hcv:=zhs W n;obtain⟨D,hD⟩: ∃D:ByteArray,⟨#[UInt8.ofNat (48+n % 10)]⟩=D:=⟨_,rfl⟩;rw[hD] at hcv;have HD:=zaa (show D=⟨(Lib.decDigits n).toArray⟩ by rw[←hD,zhA (by simp at h;omega)]);clear hD;have HB:=zaa ((Below.refl W.heap.size W).alloc (Nat.le_refl _) (.cells #[.int .u8 (48+(n:Int) % 10)] 5));have hn: ¬(9:Int)<(n:Int):=by simp at h;omega
  go_enter func157,ntmps157
  go_wp2_with fail;go_ret;exact⟨congrArg (fun s=>Ending.returned (Value.string s)) HD.out,HB.out⟩
 |succ f ih=>
  intro n hf9 h h30 W;have hcv:=zhs W n;obtain⟨D,hD⟩: ∃D:ByteArray,⟨#[UInt8.ofNat (48+n % 10)]⟩=D:=⟨_,rfl⟩;rw[hD] at hcv;have hDs:D.size=1:=by rw[←hD];rfl
  have HB:=zaa ((Below.refl W.heap.size W).alloc (Nat.le_refl _) (.cells #[.int .u8 (48+(n:Int) % 10)] 5));by_cases h9:n≤9
  ·have HD:=zaa (show D=⟨(Lib.decDigits n).toArray⟩ by rw[←hD,zhA h9])
   have hn: ¬(9:Int)<(n:Int):=by omega
   clear hD
   go_enter func157,ntmps157
   go_wp2_with fail;go_ret;exact⟨congrArg (fun s=>Ending.returned (Value.string s)) HD.out,HB.out⟩
  ·have hd:n/10<10 ^ (f+1):=by
    rw[Nat.div_lt_iff_lt_mul (by decide),←Nat.pow_succ];exact h
   have hI:=fun V=>ih (n/10) (by omega) hd (by omega) V
   rw[show((n/10:Nat):Int)=(n:Int)/10 by omega] at hI;have hl:=zmE f (n/10) hd;rw[←Lib.decDigits_length] at hl;obtain⟨E,hE⟩: ∃E:ByteArray,(⟨(Lib.decDigits (n/10)).toArray⟩:ByteArray)=E:=⟨_,rfl⟩;have hEs:E.size=(Lib.decDigits (n/10)).length:=by rw[←hE];simp[ByteArray.size]
   have HI:=zaa hI;have HD:=zaa (show E++D=⟨(Lib.decDigits n).toArray⟩ by
    rw[←hD,←hE,zox h9];apply ByteArray.ext;simp[ByteArray.data_append])
   rw[hE] at HI;have hs:=smZ (E.size+1);have hn2:(9:Int)<(n:Int):=by omega
   clear hD hI hE hl hEs hd ih
   go_enter func157,ntmps157
   go_wp2_with fail;refine(HI.out _).mono ?_;rintro e w1 ⟨rfl,hb1⟩;have HB1:=zaa (HB.out.trans (hb1.mono (by simp)));clear hb1;go_wp2_with fail;go_ret;exact⟨congrArg (fun s=>Ending.returned (Value.string s)) HD.out,HB1.out⟩
theorem zbJ (n:Int) (h:zbj n=true) (W:World):Calls prog 157 #[.int .i64 n] W fun e w'=>e= .returned (.string ⟨(Lib.itoa n).toArray⟩)∧Below W.heap.size W w':=by
 simp only[zbj,Bool.and_eq_true,decide_eq_true_eq] at h;obtain⟨u,rfl⟩: ∃u:Nat,n=u:=⟨n.toNat,by omega⟩;rw[Lib.itoa_nonneg];exact zlL 9 u (by omega) (by omega) (by omega) W
theorem zbB (v:Value) (l:List Int) (W:World) (hv:Hid (DAt W (fun _=>True) v (.row 1 (zah l)))) (hl:l.length≤140737488355328):
 Calls prog 103 #[v] W fun e w'=>e= .returned (.bool (l.all zbj))∧Below W.heap.size W w':=by
 obtain⟨A,c,rfl,hA⟩:=hv.out.slice;have HA:=zaa hA;clear hA hv;rw[show(zah l).length=l.length by simp[zah]]
 go_enter func103,ntmps103
 go_wp2_with fail
 go_loopw [3] (fun v3 wr=> ∃k:Nat,k≤l.length∧v3= .int .i64 k∧(l.take k).all zbj=true∧Below W.heap.size W wr) (fun v3 _=>l.length-(intOf v3).toNat)
 case atStart=>exact⟨0,by omega,rfl,by simp,Below.refl _ _⟩
 case round=>
  obtain⟨k,hk,rfl,ht,hbr⟩:=hrel;have HT:=zaa ht;have HBR:=zaa hbr;clear ht hbr;by_cases hlt:k<l.length
  rotate_left
  ·obtain rfl:k=l.length:=by omega
   rw[List.take_length] at HT;clear hlt;go_wp2_with fail;go_ret;exact⟨by rw[HT.out];rfl,HBR.out⟩
  obtain⟨x,hx⟩:=zbE hlt;obtain⟨b,off,rfl,hb,hca⟩:=HA.out.at_ (cells:=fun n:Int=>[lI n]) hx;obtain⟨u0,c0,g0⟩:=hca 0 _ rfl;clear hca;obtain rfl:=g0.leaf_eq;rw[Nat.mul_one,Nat.add_zero] at c0;have c0:=zad HBR.out hb (off+k) c0;have k0:=kbZ k l.length;have HX:=zaa hx;clear hx;by_cases hp0:x<0
  ·have HNO:=zaa (zaH HX.out (show zbj x=false by simp[zbj];omega))
   go_wp2_with fail;go_ret;exact⟨by rw[HNO.out];rfl,HBR.out⟩
  ·by_cases hp1:1073741824<x
   ·have HNO:=zaa (zaH HX.out (show zbj x=false by simp[zbj];omega))
    go_wp2_with fail;go_ret;exact⟨by rw[HNO.out];rfl,HBR.out⟩
   ·have HTK:=zaa (zaK HT.out HX.out (show zbj x=true by simp[zbj];omega))
    go_wp2_with fail;go_roundw
    case rel=>exact⟨k+1,by omega,by go_num,HTK.out,HBR.out⟩
    case measure=>simp[intOf];omega
end Go.Proofs.YtgbfaompondolaaGreatDoor
