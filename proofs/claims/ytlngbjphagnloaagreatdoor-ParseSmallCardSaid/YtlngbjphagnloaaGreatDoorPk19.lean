/- Merged texts of the walks and of the plain laws on which the statement leans.-/
import Derived.Test.YtlngbjphagnloaaGreatDoorPk1
import Derived.Test.YtlngbjphagnloaaGreatDoorPk17
import Derived.Test.YtlngbjphagnloaaGreatDoorPk18
set_option maxHeartbeats 4000000
set_option maxRecDepth 100000
namespace Go.Proofs.YtlngbjphagnloaaGreatDoor
open Tryz
open Go.RowKit
open Go.ChangeMaps (setBlock)
attribute [local go_sem] zax.cell
theorem ze3 (w:World) (o o':Obj):setBlock (w.alloc o) w.heap.size o'=w.alloc o':=by
 have h:(w.heap.push o).setIfInBounds w.heap.size o'=w.heap.push o':=by
  refine Array.ext_getElem? fun i=> ?_
  rw[Array.getElem?_setIfInBounds,Array.getElem?_push,Array.getElem?_push];by_cases hi:w.heap.size=i
  ·subst hi;simp
  ·have hi2: ¬i=w.heap.size:=fun e=>hi e.symm
   simp[hi,hi2]
 unfold setBlock
 show({(w.alloc o) with heap:=(w.heap.push o).setIfInBounds w.heap.size o'}:World)=w.alloc o'
 rw[h];rfl
theorem zaX (w:World) (tb:Nat) (htb:tb=w.heap.size) (es:Array MapEntry) (c:Nat) (K:ByteArray) (v:Value) (hf:Instr.findNow .string (.string K) es.toList 0=some none):
 (Instr.mapUpdate 223 (.map (some tb)) (.string K) v).run prog (w.alloc (.map es c))= .ok () (w.alloc (.map (es.push {key:= .string K,val:=v,born:=c}) (c+1))):=by
 subst htb;have hb:=heap_alloc_new w (.map es c);have hs:=ze3 w (.map es c) (.map (es.push {key:= .string K,val:=v,born:=c}) (c+1));unfold setBlock at hs;simp[Instr.mapUpdate,run_underlying underlying223,MapKept.run_getObj_map hb,zdr,Instr.findKey,run_underlying underlying9,hf,MapKept.run_setObj_map _ hb,Result.andThen];exact hs
def znG (v1 v2 v3 v4:Value):Array MapEntry:= #[⟨zbj [115,101,109,97,115],v1,0⟩,⟨zbj [98,117,102,115],v2,1⟩,⟨zbj [101,118,101,110,116,115],v3,2⟩,⟨zbj [98,111,97,114,100,115],v4,3⟩]
def zo0 (v1 v2 v3 v4:Value):List (List UInt8×Value):=[([115,101,109,97,115],v1),([98,117,102,115],v2),([101,118,101,110,116,115],v3),([98,111,97,114,100,115],v4)]
theorem zeroF (w:World):(zeroValue 1).run prog w= .ok .nilFunc w:=by kernel_rfl
theorem zeu {w:World} {tb c:Nat} {v1 v2 v3 v4:Value} (h:w.heap[tb]? =some (.map (znG v1 v2 v3 v4) c)) (K:ByteArray) (v:Value) (hv:(zo0 v1 v2 v3 v4).find? (fun p=>K.data.toList==p.1)=some (K.data.toList,v)):
 (Instr.lookup 223 (.map (some tb)) (.string K) false).run prog w= .ok v w:=by
 obtain⟨n,hn⟩:=(zbP K (znG v1 v2 v3 v4).toList (zo0 v1 v2 v3 v4) 0 rfl).2 v hv;simp[Instr.lookup,run_underlying underlying223,MapKept.run_getObj_map h,zdr,Instr.findKey,run_underlying underlying9,hn,Result.andThen]
theorem zhv {w:World} {tb c:Nat} {v1 v2 v3 v4:Value} (h:w.heap[tb]? =some (.map (znG v1 v2 v3 v4) c)) (K:ByteArray) (hv:K.data.toList∉(zo0 v1 v2 v3 v4).map (·.1)):
 (Instr.lookup 223 (.map (some tb)) (.string K) false).run prog w= .ok .nilFunc w:=by
 have hn:=(zbP K (znG v1 v2 v3 v4).toList (zo0 v1 v2 v3 v4) 0 rfl).1 hv;simp[Instr.lookup,run_underlying underlying223,MapKept.run_getObj_map h,zdr,Instr.findKey,run_underlying underlying9,hn,Result.andThen]
theorem zgz (fn:Fn) (first caps:Array Value) (w:World):(binOp .neq 1 (.func fn first caps) .nilFunc).run prog w= .ok (.bool true) w:=by kernel_rfl
theorem zkU (w:World):(binOp .neq 1 .nilFunc .nilFunc).run prog w= .ok (.bool false) w:=by kernel_rfl
def zgk (f:FuncId) (W:World):Value:= .func (.func f) #[] #[.pointer (some ⟨W.heap.size,0,none⟩),.pointer (some ⟨W.heap.size+1,0,none⟩)]
def ziG (W:World) (pb bb:Nat):World:=((W.alloc (Obj.cells #[Value.pointer (some ⟨pb,0,none⟩)] 85)).alloc (Obj.cells #[Value.pointer (some ⟨bb,0,none⟩)] 201)).alloc (.map (znG (zgk 157 W) (zgk 159 W) (zgk 160 W) (zgk 161 W)) 4)
structure zo9 (W V:World) (pb bb:Nat):Prop where
 below:Below W.heap.size W V
 size:W.heap.size+3≤V.heap.size
 c0:V.cell? ⟨W.heap.size,0,none⟩=some (.pointer (some ⟨pb,0,none⟩))
 c1:V.cell? ⟨W.heap.size+1,0,none⟩=some (.pointer (some ⟨bb,0,none⟩))
 map:V.heap[W.heap.size+1+1]? =some (.map (znG (zgk 157 W) (zgk 159 W) (zgk 160 W) (zgk 161 W)) 4)
theorem zcN (W:World) (pb bb:Nat):zo9 W (ziG W pb bb) pb bb:=by
 unfold ziG;refine⟨(((Below.refl _ _).alloc (Nat.le_refl _) _).alloc (by simp) _).alloc (by simp;omega) _,by simp,by simp[go_sem],by simp[go_sem],?_⟩;have:=heap_alloc_new ((W.alloc (Obj.cells #[Value.pointer (some ⟨pb,0,none⟩)] 85)).alloc (Obj.cells #[Value.pointer (some ⟨bb,0,none⟩)] 201)) (.map (znG (zgk 157 W) (zgk 159 W) (zgk 160 W) (zgk 161 W)) 4)
 simpa using this
theorem zo9.keep {F:Nat→Prop} {W V V':World} {pb bb:Nat} (h:zo9 W V pb bb) (hk:zam F V V') (hF: ∀k,W.heap.size≤k→ ¬F k):V'.cell? ⟨W.heap.size,0,none⟩=some (.pointer (some ⟨pb,0,none⟩))∧V'.cell? ⟨W.heap.size+1,0,none⟩=some (.pointer (some ⟨bb,0,none⟩))∧W.heap.size+3≤V'.heap.size:=by
 have hz:=h.size;exact⟨(hk.cell (p:=⟨W.heap.size,0,none⟩) (Nat.lt_of_lt_of_le (by show W.heap.size<W.heap.size+3;omega) hz) (hF _ (Nat.le_refl _))).trans h.c0,(hk.cell (p:=⟨W.heap.size+1,0,none⟩) (Nat.lt_of_lt_of_le (by show W.heap.size+1<W.heap.size+3;omega) hz) (hF _ (by show W.heap.size≤W.heap.size+1;omega))).trans h.c1,Nat.le_trans hz hk.size⟩
theorem zam.blk (w:World) (mb:Nat) (o:Obj):zam (fun k=>k=mb) w (setBlock w mb o):=⟨rfl,rfl,rfl,by rw[zbT];exact Nat.le_refl _,fun k _ hk=>zaz w mb k o hk⟩
theorem zkR (pb i0 j bb mb B:Nat) (ts:List Tok) (b:zag) (v4 v7 v8 v9:Value) (W0 W:World) (H0:Hid (Cur pb ts i0 W0)) (hts:ts.length≤1000000) (hj:j≤ts.length) (hT:Hid (zbS ts)) (HA:Hid (AtJ pb j W0 W)) (HB:Hid (BSt pb bb mb B b v4 v7 v8 v9 W)) (hpW:pb<W0.heap.size) (hW0:W0.heap.size≤bb) (hW1:W0.heap.size≤mb) (hE:Hid (zci W)) (hpE:3≤pb)(hw:Hid ((hdT (ts.drop j)).text=[115,101,109,97,115])):
 Calls prog 137 #[.pointer (some ⟨pb,0,none⟩),.pointer (some ⟨bb,0,none⟩)] W fun e W'=>zbo pb ts W0 bb mb B (za3 b (ts.drop j)) e W'∧zam (fun k=>k=pb∨k=bb∨k=mb∨B≤k) W W':=by
 have hts':ts.length≤1099511627776:=by omega
 have H:=zaa (H0.out.to HA.out);obtain⟨l1,l2,l3,l4,l5,l6⟩:=HB.out.low;have hgd:=zaa hT.out.good;have hpW':pb<W.heap.size:=by omega
 have ft1:=zbF;have hmm:= @run_makeMap prog;have hmf: ∀(fn:Fn) (first cap:Array Value) (w:World),(Instr.makeFunc fn first cap).run prog w= .ok (.func fn first cap) w:=fun _ _ _ _=>rfl
 have hi1:=fun(v:Value)=>zaX ((W.alloc (Obj.cells #[Value.pointer (some ⟨pb,0,none⟩)] 85)).alloc (Obj.cells #[Value.pointer (some ⟨bb,0,none⟩)] 201)) (W.heap.size+1+1) (by simp) #[] 0 ⟨#[115,101,109,97,115]⟩ v rfl
 have hi2:=fun(v1 v:Value)=>zaX ((W.alloc (Obj.cells #[Value.pointer (some ⟨pb,0,none⟩)] 85)).alloc (Obj.cells #[Value.pointer (some ⟨bb,0,none⟩)] 201)) (W.heap.size+1+1) (by simp) #[⟨.string ⟨#[115,101,109,97,115]⟩,v1,0⟩] 1 ⟨#[98,117,102,115]⟩ v (by kernel_rfl)
 have hi3:=fun(v1 v2 v:Value)=>zaX ((W.alloc (Obj.cells #[Value.pointer (some ⟨pb,0,none⟩)] 85)).alloc (Obj.cells #[Value.pointer (some ⟨bb,0,none⟩)] 201)) (W.heap.size+1+1) (by simp) #[⟨.string ⟨#[115,101,109,97,115]⟩,v1,0⟩,⟨.string ⟨#[98,117,102,115]⟩,v2,1⟩] 2 ⟨#[101,118,101,110,116,115]⟩ v (by kernel_rfl)
 have hi4:=fun(v1 v2 v3 v:Value)=>zaX ((W.alloc (Obj.cells #[Value.pointer (some ⟨pb,0,none⟩)] 85)).alloc (Obj.cells #[Value.pointer (some ⟨bb,0,none⟩)] 201)) (W.heap.size+1+1) (by simp) #[⟨.string ⟨#[115,101,109,97,115]⟩,v1,0⟩,⟨.string ⟨#[98,117,102,115]⟩,v2,1⟩,⟨.string ⟨#[101,118,101,110,116,115]⟩,v3,2⟩] 3 ⟨#[98,111,97,114,100,115]⟩ v (by kernel_rfl)
 go_enter func137,ntmps137
 go_wp2_with fail
 change Calls _ _ _ (ziG W pb bb) _
 have HF:=zaa (zcN W pb bb);generalize ziG W pb bb=V at *;clear hi1 hi2 hi3 hi4 hmm hmf;have HAV:=zaa (HA.out.below hpW HF.out.below);have HBV:=zaa (HB.out.below HF.out.below);have HCV:=zaa (H.out.below HF.out.below);have HEV:=zaa (hE.out.below HF.out.below);have HC:=zaa (zcf pb j ts V HCV hts' hj);generalize ht:hdT (ts.drop j)=t at HC hw;have HT0:=zaa ht;clear ht;obtain⟨κ,tx,ta⟩:=t;unfold zcC at HC;dsimp only at HC hw;generalize(κ:Int)=κz at HC;generalize(ta:Int)=taz at HC;refine(HC.out).mono ?_;rintro e w1 ⟨rfl,hb⟩;have HK1:=zaa ((zam.of_below hb:zam (fun k=>k=pb∨k=bb∨k=mb) V w1));have HA1:=zaa (HAV.out.below hpW hb);have HB1:=zaa (HBV.out.below hb);have HC1:=zaa (HCV.out.below hb);have HE1:=zaa (HEV.out.below hb);have HM1:=zaa ((hb.block _ (by have:=HF.out.size;omega)).trans HF.out.map);clear hb HC HAV HBV HCV HEV;have hjl:j<ts.length:=by
  rcases Nat.lt_or_ge j ts.length with h|h
  ·exact h
  ·have h1:=hw.out
   rw[zbJ ts j h] at HT0;have h2:=congrArg Tok.text HT0.out;simp only at h2;rw[←h2] at h1
   cases h1
 have HTH:=zaa (zhT hT.out j b (by rw[HT0.out];exact hw.out));have hFF: ∀k,W.heap.size≤k→ ¬(k=pb∨k=bb∨k=mb):=fun k hk=>by omega
 have HFF:=zaa hFF;clear hFF;generalize hKK:(⟨tx.toArray⟩:ByteArray)=K at *;have HKW:Hid (K.data.toList=[115,101,109,97,115]):=zaa (by rw[←hKK];exact hw.out);clear hKK hw HT0;have hl:=zeu HM1.out K (zgk 157 W) (by rw[HKW.out];rfl);unfold zgk at hl;have hne:=zgz;go_wp2_with fail;clear hne;obtain⟨hp0,hp1,hz1⟩:=HF.out.keep HK1.out HFF.out;refine zad (S:=fun w'=>w'.cell? ⟨W.heap.size,0,none⟩=some (.pointer (some ⟨pb,0,none⟩))∧w'.cell? ⟨W.heap.size+1,0,none⟩=some (.pointer (some ⟨bb,0,none⟩))∧w'.heap[bb]? =some (zdv b.p mb v4 v7 v8 v9)∧zjl w' mb b.what) 10 (by kernel_rfl) (by kernel_rfl) ⟨hp0,hp1,HB1.out.row,HB1.out.seen⟩ (fun hHeld=> ?_);have HKd:=zaa (HK1.out.drew);have HAd:=zaa (HA1.out.drew);have HBd:=zaa (HB1.out.bare (w':=w1.drew) rfl);have HCd:=zaa (HC1.out.to (AtJ.start HC1.out.now HC1.out.free).drew);have HEd:=zaa (HE1.out.below ((Below.refl w1.heap.size w1).drew));clear HK1 HA1 HB1 HC1 HE1 HM1 hl hp0 hp1 hz1;generalize w1.drew=V2 at *;refine tk 0 37 rfl (by kernel_rfl) (fun _ _ _ h=>h) rfl (fun _ hS=>by have e1:=hS.1;go_simp;with_reducible rfl) hHeld ?_
 (try simp only[pu])
 refine tk 1 38 rfl (by kernel_rfl) (fun _ _ _ h=>h) rfl (fun _ hS=>by skip;go_simp;with_reducible rfl) hHeld ?_
 (try simp only[pu])
 refine tk 2 39 rfl (by kernel_rfl) (fun _ _ _ h=>h) rfl (fun _ hS=>by skip;go_simp;with_reducible rfl) hHeld ?_
 (try simp only[pu])
 refine tk 3 40 rfl (by kernel_rfl) (fun _ _ _ h=>h) rfl (fun _ hS=>by have e1:=hS.2.1;go_simp;with_reducible rfl) hHeld ?_
 (try simp only[pu])
 refine tk 4 41 rfl (by kernel_rfl) (fun _ _ _ h=>h) rfl (fun _ hS=>by skip;go_simp;with_reducible rfl) hHeld ?_
 (try simp only[pu])
 refine tk 5 42 rfl (by kernel_rfl) (fun _ _ _ h=>h) rfl (fun _ hS=>by skip;go_simp;with_reducible rfl) hHeld ?_
 (try simp only[pu])
 refine tk 6 43 rfl (by kernel_rfl) (fun _ _ _ h=>h) rfl (fun _ hS=>by have e1:=cell_of_row _ _ 10 _ _ _ hS.2.2.1;go_simp;with_reducible rfl) hHeld ?_
 (try simp only[pu])
 refine tk 7 44 rfl (by kernel_rfl) (fun _ _ _ h=>h) rfl (fun _ hS=>by skip;go_simp;with_reducible rfl) hHeld ?_
 (try simp only[pu])
 cases hc:b.what.contains K.data.toList with
 |true=>
  have HCN:=zaa hc;clear hc;refine tk 8 45 rfl (by kernel_rfl) (fun _ _ _ h=>h) rfl (fun _ hS=>by have e1:=hS.2.2.2.look K;rw[HCN.out] at e1;simp only[if_true] at e1;go_simp;with_reducible rfl) hHeld ?_
  (try simp only[pu])
  refine tk 9 46 rfl (by kernel_rfl) (fun _ _ _ h=>h) rfl (fun _ hS=>by skip;go_simp;with_reducible rfl) hHeld ?_
  (try simp only[pu])
  refine zae (by kernel_rfl) ?_;simp only[List.drop_succ_cons,List.drop_zero];have HX:=zaa (zbo.mk_bad (bb:=bb) (mb:=mb) (B:=B) (HTH.out.trans (zdR (by rw[←HKW.out];exact HCN.out))) hj HAd.out);have HKX:=zaa (((zam.of_below HF.out.below:zam (fun k=>k=pb∨k=bb∨k=mb) W V).trans HKd.out).mono (G:=fun k=>k=pb∨k=bb∨k=mb∨B≤k) (fun k hk=>by rcases hk with h|h|h<;>simp[h]));clear hHeld;go_wp2_with fail
  ((with_reducible refine(zb6 _ _ _).mono ?_);rintro e w'' ⟨rfl,rfl⟩)
  go_wp2_with fail;exact⟨rfl,HX.out,HKX.out⟩
 |false=>
  have HCN:=zaa hc;clear hc;refine tk 8 45 rfl (by kernel_rfl) (fun _ _ _ h=>h) rfl (fun _ hS=>by have e1:=hS.2.2.2.look K;rw[HCN.out] at e1;simp only[if_false,Bool.false_eq_true] at e1;go_simp;with_reducible rfl) hHeld ?_
  (try simp only[pu])
  refine tk 9 46 rfl (by kernel_rfl) (fun _ _ _ h=>h) rfl (fun _ hS=>by skip;go_simp;with_reducible rfl) hHeld ?_
  (try simp only[pu])
  refine zae (by kernel_rfl) ?_;simp only[List.drop_succ_cons,List.drop_zero];obtain⟨hp0,hp1,hrow,hseen⟩:=hHeld;go_wp2_with fail
  ((with_reducible refine(za1 _ _ _).mono ?_);rintro e w'' ⟨rfl,rfl⟩)
  have hlk:=hseen.look K;rw[HCN.out] at hlk;simp only[if_false,Bool.false_eq_true] at hlk;obtain⟨o,hput,hsn⟩:=hseen.put K HCN.out;have hc10:w''.cell? ⟨bb,10,none⟩=some (.map (some mb)):=cell_of_row _ _ 10 _ _ _ hrow;have hp0':(setBlock w'' mb o).cell? ⟨W.heap.size,0,none⟩=_:=(World.cell?_of_block (a:=⟨W.heap.size,0,none⟩) (zaz w'' mb W.heap.size o (by omega))).trans hp0;have hp1':(setBlock w'' mb o).cell? ⟨W.heap.size+1,0,none⟩=_:=(World.cell?_of_block (a:=⟨W.heap.size+1,0,none⟩) (zaz w'' mb (W.heap.size+1) o (by omega))).trans hp1;have hzs:=zbT w'' mb o;have HA3:=zaa (HAd.out.blk hW1 hpW o);have HB3:Hid (BSt pb bb mb B ⟨b.p,b.what++[K.data.toList]⟩ v4 v7 v8 v9 (setBlock w'' mb o)):=zaa
   ⟨(zaz w'' mb bb o l3).trans hrow,HBd.out.rows.keep (by rw[hzs];exact Nat.le_refl _) (fun k hk _=>zaz w'' mb k o (by omega)),hsn,l1,l2,l3,l4,l5,by rw[hzs];exact HBd.out.low.2.2.2.2.2⟩
  have HC3:=zaa (H0.out.to HA3.out);have HE3:=zaa (HEd.out.keptB ((zam.blk w'' mb o).below (B:=3) HEd.out.big (fun i hi=>by omega)) (Nat.le_refl _));have HK3:=zaa (HKd.out.trans ((zam.blk w'' mb o).mono (G:=fun k=>k=pb∨k=bb∨k=mb) (fun k hk=> .inr (.inr hk))));have e1:(setBlock w'' mb o).cell? ⟨pb,1,none⟩=some (.int .i64 (j:Int)):=HA3.out.here;have e2:=HA3.out.free;have hw3:pb<(setBlock w'' mb o).heap.size:=by rw[hzs];exact HCd.out.lt
  have hz3:W.heap.size+3≤(setBlock w'' mb o).heap.size:=by rw[hzs];have:=HKd.out.size;have:=HF.out.size;omega
  have k1:(j:Int)+1<9223372036854775808:=by omega
  have k2: -9223372036854775808≤(j:Int)+1:=by omega
  have HSN:=zaa hsn;have HROW:=zaa hrow;clear HAd HBd HCd HEd HKd hsn hzs hrow;generalize setBlock w'' mb o=V3 at *;generalize hz:(j:Int)=z at e1 k1 k2;have HZ:=zaa hz;clear hz;go_wp2_with fail;have HA4:=zaa (HA3.out.goto hpW (j+1));rw[show((j+1:Nat):Int)=z+1 from by have:=HZ.out;omega] at HA4;have HK4:=zaa (HK3.out.setCell (p:=⟨pb,1,none⟩) (.inl (.inl rfl)) (.int .i64 (z+1)));have hP4:AtJ pb (j+1) V3 (V3.setCell ⟨pb,1,none⟩ (.int .i64 ((j+1:Nat):Int))):=(AtJ.start HA3.out.here HA3.out.free).goto hw3 (j+1);rw[show((j+1:Nat):Int)=z+1 from by have:=HZ.out;omega] at hP4;have HB4:=zaa (HB3.out.to hP4);have HC4:=zaa (HC3.out.to hP4);have hq0:(V3.setCell ⟨pb,1,none⟩ (.int .i64 (z+1))).cell? ⟨W.heap.size,0,none⟩=_:=(hP4.kept.cell (p:=⟨W.heap.size,0,none⟩) (by show W.heap.size<_;omega) (by show¬W.heap.size=pb;omega)).trans hp0';have hq1:(V3.setCell ⟨pb,1,none⟩ (.int .i64 (z+1))).cell? ⟨W.heap.size+1,0,none⟩=_:=(hP4.kept.cell (p:=⟨W.heap.size+1,0,none⟩) (by show W.heap.size+1<_;omega) (by show¬W.heap.size+1=pb;omega)).trans hp1';have hz4:W.heap.size+3≤(V3.setCell ⟨pb,1,none⟩ (.int .i64 (z+1))).heap.size:=Nat.le_trans hz3 hP4.kept.size;clear hP4 HA3 HB3 HC3 HK3 hp0 hp1 hp0' hp1' hz3 hw3 e1 e2 k1 k2 hput hlk hc10 HSN HROW HE3;generalize V3.setCell ⟨pb,1,none⟩ (.int .i64 (z+1))=V4 at *;have hTAIL:Hid (ts.drop (j+1)=(ts.drop j).tail):=zaa (by simp);refine(zma pb (j+1) bb mb B W.heap.size (W.heap.size+1) ts ⟨b.p,b.what++[K.data.toList]⟩ v4 v7 v8 v9 W0 V4 HC4 hts hjl hT HA4 HB4 hpW hW0 hq0 hq1 (by omega) (by omega)).mono ?_;rintro e w5 ⟨hE5,hk5⟩;have HK5:=zaa (HK4.out.trans (hk5.mono (G:=fun k=>k=pb∨k=bb∨k=mb) (fun k hk=>by rcases hk with h|h<;>simp[h])));have HKF:=zaa (fun(V':World) (hk:zam (fun k=>k=pb∨k=bb∨k=mb) V V')=>((zam.of_below HF.out.below:zam (fun k=>k=pb∨k=bb∨k=mb) W V).trans hk).mono (G:=fun k=>k=pb∨k=bb∨k=mb∨B≤k) (fun k hk=>by rcases hk with h|h|h<;>simp[h]));rcases hE5.split with⟨b5,j5,u4,u7,u8,u9,hr,hj5,hA,hB,rfl⟩|⟨n,jn,hr,hjn,hA,rfl⟩
  rotate_left
  ·have HX:=zaa (zbo.mk_bad (bb:=bb) (mb:=mb) (B:=B) (HTH.out.trans (zep (x:=zdw b.p) (by rw[←HKW.out];exact HCN.out) (by rw[←hTAIL.out,←HKW.out];exact hr))) hjn hA)
   have HKX:=zaa (HKF.out _ HK5.out);clear hE5 hr hA hk5;go_wp2_with fail;exact⟨rfl,HX.out,HKX.out⟩
  have hq0':w5.cell? ⟨W.heap.size,0,none⟩=_:=(hk5.cell (p:=⟨W.heap.size,0,none⟩) (by show W.heap.size<_;omega) (by show¬(W.heap.size=pb∨W.heap.size=bb);omega)).trans hq0;have HA5:=zaa hA;have HB5:=zaa hB;have HR5:=zaa hr;have hp5:pb<w5.heap.size:=Nat.lt_of_lt_of_le HC4.out.lt hk5.size;have HC5:Hid (Cur pb ts j5 w5):=zaa (H0.out.to HA5.out);clear hE5 hr hA hB hk5 hq0 hq1 hz4 HA4 HB4 HC4 HK4;go_wp2_with fail;refine(zat pb j5 _ ts ⟨#[59]⟩ _ HC5 hts' hj5 (by decide) rfl).mono ?_;rintro e w6 hE6;rcases hE6.split with⟨a6,j6,hr,hj6,hA,rfl⟩|⟨n,jn,hr,hjn,hA,rfl⟩
  rotate_left
  ·have HX:=zaa (zbo.mk_bad (bb:=bb) (mb:=mb) (B:=B) (HTH.out.trans (zet (x:=zdw b.p) (by rw[←HKW.out];exact HCN.out) (by rw[←hTAIL.out,←HKW.out];exact HR5.out) hr)) hjn (HA5.out.trans hA))
   have HKX:=zaa (HKF.out _ (HK5.out.trans (hA.kept.mono (G:=fun k=>k=pb∨k=bb∨k=mb) (fun k hk=> .inl hk))));clear hE6 hr hA;go_wp2_with fail;exact⟨rfl,HX.out,HKX.out⟩
  have HX:=zaa (zbo.mk_ok (HTH.out.trans (zgC (x:=zdw b.p) (by rw[←HKW.out];exact HCN.out) (by rw[←hTAIL.out,←HKW.out];exact HR5.out) hr)) hj6 (HA5.out.trans hA) (HB5.out.to hA));have HKX:=zaa (HKF.out _ (HK5.out.trans (hA.kept.mono (G:=fun k=>k=pb∨k=bb∨k=mb) (fun k hk=> .inl hk))));clear hE6 hr hA;go_wp2_with fail
  go_end0
  exact⟨HX.out,HKX.out⟩
theorem zl4 (pb i0 j bb mb B:Nat) (ts:List Tok) (b:zag) (v4 v7 v8 v9:Value) (W0 W:World) (H0:Hid (Cur pb ts i0 W0)) (hts:ts.length≤1000000) (hj:j≤ts.length) (hT:Hid (zbS ts)) (HA:Hid (AtJ pb j W0 W)) (HB:Hid (BSt pb bb mb B b v4 v7 v8 v9 W)) (hpW:pb<W0.heap.size) (hW0:W0.heap.size≤bb) (hW1:W0.heap.size≤mb) (hE:Hid (zci W)) (hpE:3≤pb)(hw:Hid ((hdT (ts.drop j)).text=[98,117,102,115])):
 Calls prog 137 #[.pointer (some ⟨pb,0,none⟩),.pointer (some ⟨bb,0,none⟩)] W fun e W'=>zbo pb ts W0 bb mb B (za3 b (ts.drop j)) e W'∧zam (fun k=>k=pb∨k=bb∨k=mb∨B≤k) W W':=by
 have hts':ts.length≤1099511627776:=by omega
 have H:=zaa (H0.out.to HA.out);obtain⟨l1,l2,l3,l4,l5,l6⟩:=HB.out.low;have hgd:=zaa hT.out.good;have hpW':pb<W.heap.size:=by omega
 have ft1:=zbF;have hmm:= @run_makeMap prog;have hmf: ∀(fn:Fn) (first cap:Array Value) (w:World),(Instr.makeFunc fn first cap).run prog w= .ok (.func fn first cap) w:=fun _ _ _ _=>rfl
 have hi1:=fun(v:Value)=>zaX ((W.alloc (Obj.cells #[Value.pointer (some ⟨pb,0,none⟩)] 85)).alloc (Obj.cells #[Value.pointer (some ⟨bb,0,none⟩)] 201)) (W.heap.size+1+1) (by simp) #[] 0 ⟨#[115,101,109,97,115]⟩ v rfl
 have hi2:=fun(v1 v:Value)=>zaX ((W.alloc (Obj.cells #[Value.pointer (some ⟨pb,0,none⟩)] 85)).alloc (Obj.cells #[Value.pointer (some ⟨bb,0,none⟩)] 201)) (W.heap.size+1+1) (by simp) #[⟨.string ⟨#[115,101,109,97,115]⟩,v1,0⟩] 1 ⟨#[98,117,102,115]⟩ v (by kernel_rfl)
 have hi3:=fun(v1 v2 v:Value)=>zaX ((W.alloc (Obj.cells #[Value.pointer (some ⟨pb,0,none⟩)] 85)).alloc (Obj.cells #[Value.pointer (some ⟨bb,0,none⟩)] 201)) (W.heap.size+1+1) (by simp) #[⟨.string ⟨#[115,101,109,97,115]⟩,v1,0⟩,⟨.string ⟨#[98,117,102,115]⟩,v2,1⟩] 2 ⟨#[101,118,101,110,116,115]⟩ v (by kernel_rfl)
 have hi4:=fun(v1 v2 v3 v:Value)=>zaX ((W.alloc (Obj.cells #[Value.pointer (some ⟨pb,0,none⟩)] 85)).alloc (Obj.cells #[Value.pointer (some ⟨bb,0,none⟩)] 201)) (W.heap.size+1+1) (by simp) #[⟨.string ⟨#[115,101,109,97,115]⟩,v1,0⟩,⟨.string ⟨#[98,117,102,115]⟩,v2,1⟩,⟨.string ⟨#[101,118,101,110,116,115]⟩,v3,2⟩] 3 ⟨#[98,111,97,114,100,115]⟩ v (by kernel_rfl)
 go_enter func137,ntmps137
 go_wp2_with fail
 change Calls _ _ _ (ziG W pb bb) _
 have HF:=zaa (zcN W pb bb);generalize ziG W pb bb=V at *;clear hi1 hi2 hi3 hi4 hmm hmf;have HAV:=zaa (HA.out.below hpW HF.out.below);have HBV:=zaa (HB.out.below HF.out.below);have HCV:=zaa (H.out.below HF.out.below);have HEV:=zaa (hE.out.below HF.out.below);have HC:=zaa (zcf pb j ts V HCV hts' hj);generalize ht:hdT (ts.drop j)=t at HC hw;have HT0:=zaa ht;clear ht;obtain⟨κ,tx,ta⟩:=t;unfold zcC at HC;dsimp only at HC hw;generalize(κ:Int)=κz at HC;generalize(ta:Int)=taz at HC;refine(HC.out).mono ?_;rintro e w1 ⟨rfl,hb⟩;have HK1:=zaa ((zam.of_below hb:zam (fun k=>k=pb∨k=bb∨k=mb) V w1));have HA1:=zaa (HAV.out.below hpW hb);have HB1:=zaa (HBV.out.below hb);have HC1:=zaa (HCV.out.below hb);have HE1:=zaa (HEV.out.below hb);have HM1:=zaa ((hb.block _ (by have:=HF.out.size;omega)).trans HF.out.map);clear hb HC HAV HBV HCV HEV;have hjl:j<ts.length:=by
  rcases Nat.lt_or_ge j ts.length with h|h
  ·exact h
  ·have h1:=hw.out
   rw[zbJ ts j h] at HT0;have h2:=congrArg Tok.text HT0.out;simp only at h2;rw[←h2] at h1
   cases h1
 have HTH:=zaa (zjB hT.out j b (by rw[HT0.out];exact hw.out));have hFF: ∀k,W.heap.size≤k→ ¬(k=pb∨k=bb∨k=mb):=fun k hk=>by omega
 have HFF:=zaa hFF;clear hFF;generalize hKK:(⟨tx.toArray⟩:ByteArray)=K at *;have HKW:Hid (K.data.toList=[98,117,102,115]):=zaa (by rw[←hKK];exact hw.out);clear hKK hw HT0;have hl:=zeu HM1.out K (zgk 159 W) (by rw[HKW.out];rfl);unfold zgk at hl;have hne:=zgz;go_wp2_with fail;clear hne;obtain⟨hp0,hp1,hz1⟩:=HF.out.keep HK1.out HFF.out;refine zad (S:=fun w'=>w'.cell? ⟨W.heap.size,0,none⟩=some (.pointer (some ⟨pb,0,none⟩))∧w'.cell? ⟨W.heap.size+1,0,none⟩=some (.pointer (some ⟨bb,0,none⟩))∧w'.heap[bb]? =some (zdv b.p mb v4 v7 v8 v9)∧zjl w' mb b.what) 10 (by kernel_rfl) (by kernel_rfl) ⟨hp0,hp1,HB1.out.row,HB1.out.seen⟩ (fun hHeld=> ?_);have HKd:=zaa (HK1.out.drew);have HAd:=zaa (HA1.out.drew);have HBd:=zaa (HB1.out.bare (w':=w1.drew) rfl);have HCd:=zaa (HC1.out.to (AtJ.start HC1.out.now HC1.out.free).drew);have HEd:=zaa (HE1.out.below ((Below.refl w1.heap.size w1).drew));clear HK1 HA1 HB1 HC1 HE1 HM1 hl hp0 hp1 hz1;generalize w1.drew=V2 at *;refine tk 0 37 rfl (by kernel_rfl) (fun _ _ _ h=>h) rfl (fun _ hS=>by have e1:=hS.1;go_simp;with_reducible rfl) hHeld ?_
 (try simp only[pu])
 refine tk 1 38 rfl (by kernel_rfl) (fun _ _ _ h=>h) rfl (fun _ hS=>by skip;go_simp;with_reducible rfl) hHeld ?_
 (try simp only[pu])
 refine tk 2 39 rfl (by kernel_rfl) (fun _ _ _ h=>h) rfl (fun _ hS=>by skip;go_simp;with_reducible rfl) hHeld ?_
 (try simp only[pu])
 refine tk 3 40 rfl (by kernel_rfl) (fun _ _ _ h=>h) rfl (fun _ hS=>by have e1:=hS.2.1;go_simp;with_reducible rfl) hHeld ?_
 (try simp only[pu])
 refine tk 4 41 rfl (by kernel_rfl) (fun _ _ _ h=>h) rfl (fun _ hS=>by skip;go_simp;with_reducible rfl) hHeld ?_
 (try simp only[pu])
 refine tk 5 42 rfl (by kernel_rfl) (fun _ _ _ h=>h) rfl (fun _ hS=>by skip;go_simp;with_reducible rfl) hHeld ?_
 (try simp only[pu])
 refine tk 6 43 rfl (by kernel_rfl) (fun _ _ _ h=>h) rfl (fun _ hS=>by have e1:=cell_of_row _ _ 10 _ _ _ hS.2.2.1;go_simp;with_reducible rfl) hHeld ?_
 (try simp only[pu])
 refine tk 7 44 rfl (by kernel_rfl) (fun _ _ _ h=>h) rfl (fun _ hS=>by skip;go_simp;with_reducible rfl) hHeld ?_
 (try simp only[pu])
 cases hc:b.what.contains K.data.toList with
 |true=>
  have HCN:=zaa hc;clear hc;refine tk 8 45 rfl (by kernel_rfl) (fun _ _ _ h=>h) rfl (fun _ hS=>by have e1:=hS.2.2.2.look K;rw[HCN.out] at e1;simp only[if_true] at e1;go_simp;with_reducible rfl) hHeld ?_
  (try simp only[pu])
  refine tk 9 46 rfl (by kernel_rfl) (fun _ _ _ h=>h) rfl (fun _ hS=>by skip;go_simp;with_reducible rfl) hHeld ?_
  (try simp only[pu])
  refine zae (by kernel_rfl) ?_;simp only[List.drop_succ_cons,List.drop_zero];have HX:=zaa (zbo.mk_bad (bb:=bb) (mb:=mb) (B:=B) (HTH.out.trans (zdR (by rw[←HKW.out];exact HCN.out))) hj HAd.out);have HKX:=zaa (((zam.of_below HF.out.below:zam (fun k=>k=pb∨k=bb∨k=mb) W V).trans HKd.out).mono (G:=fun k=>k=pb∨k=bb∨k=mb∨B≤k) (fun k hk=>by rcases hk with h|h|h<;>simp[h]));clear hHeld;go_wp2_with fail
  ((with_reducible refine(zb6 _ _ _).mono ?_);rintro e w'' ⟨rfl,rfl⟩)
  go_wp2_with fail;exact⟨rfl,HX.out,HKX.out⟩
 |false=>
  have HCN:=zaa hc;clear hc;refine tk 8 45 rfl (by kernel_rfl) (fun _ _ _ h=>h) rfl (fun _ hS=>by have e1:=hS.2.2.2.look K;rw[HCN.out] at e1;simp only[if_false,Bool.false_eq_true] at e1;go_simp;with_reducible rfl) hHeld ?_
  (try simp only[pu])
  refine tk 9 46 rfl (by kernel_rfl) (fun _ _ _ h=>h) rfl (fun _ hS=>by skip;go_simp;with_reducible rfl) hHeld ?_
  (try simp only[pu])
  refine zae (by kernel_rfl) ?_;simp only[List.drop_succ_cons,List.drop_zero];obtain⟨hp0,hp1,hrow,hseen⟩:=hHeld;go_wp2_with fail
  ((with_reducible refine(za1 _ _ _).mono ?_);rintro e w'' ⟨rfl,rfl⟩)
  have hlk:=hseen.look K;rw[HCN.out] at hlk;simp only[if_false,Bool.false_eq_true] at hlk;obtain⟨o,hput,hsn⟩:=hseen.put K HCN.out;have hc10:w''.cell? ⟨bb,10,none⟩=some (.map (some mb)):=cell_of_row _ _ 10 _ _ _ hrow;have hp0':(setBlock w'' mb o).cell? ⟨W.heap.size,0,none⟩=_:=(World.cell?_of_block (a:=⟨W.heap.size,0,none⟩) (zaz w'' mb W.heap.size o (by omega))).trans hp0;have hp1':(setBlock w'' mb o).cell? ⟨W.heap.size+1,0,none⟩=_:=(World.cell?_of_block (a:=⟨W.heap.size+1,0,none⟩) (zaz w'' mb (W.heap.size+1) o (by omega))).trans hp1;have hzs:=zbT w'' mb o;have HA3:=zaa (HAd.out.blk hW1 hpW o);have HB3:Hid (BSt pb bb mb B ⟨b.p,b.what++[K.data.toList]⟩ v4 v7 v8 v9 (setBlock w'' mb o)):=zaa
   ⟨(zaz w'' mb bb o l3).trans hrow,HBd.out.rows.keep (by rw[hzs];exact Nat.le_refl _) (fun k hk _=>zaz w'' mb k o (by omega)),hsn,l1,l2,l3,l4,l5,by rw[hzs];exact HBd.out.low.2.2.2.2.2⟩
  have HC3:=zaa (H0.out.to HA3.out);have HE3:=zaa (HEd.out.keptB ((zam.blk w'' mb o).below (B:=3) HEd.out.big (fun i hi=>by omega)) (Nat.le_refl _));have HK3:=zaa (HKd.out.trans ((zam.blk w'' mb o).mono (G:=fun k=>k=pb∨k=bb∨k=mb) (fun k hk=> .inr (.inr hk))));have e1:(setBlock w'' mb o).cell? ⟨pb,1,none⟩=some (.int .i64 (j:Int)):=HA3.out.here;have e2:=HA3.out.free;have hw3:pb<(setBlock w'' mb o).heap.size:=by rw[hzs];exact HCd.out.lt
  have hz3:W.heap.size+3≤(setBlock w'' mb o).heap.size:=by rw[hzs];have:=HKd.out.size;have:=HF.out.size;omega
  have k1:(j:Int)+1<9223372036854775808:=by omega
  have k2: -9223372036854775808≤(j:Int)+1:=by omega
  have HSN:=zaa hsn;have HROW:=zaa hrow;clear HAd HBd HCd HEd HKd hsn hzs hrow;generalize setBlock w'' mb o=V3 at *;generalize hz:(j:Int)=z at e1 k1 k2;have HZ:=zaa hz;clear hz;go_wp2_with fail;have HA4:=zaa (HA3.out.goto hpW (j+1));rw[show((j+1:Nat):Int)=z+1 from by have:=HZ.out;omega] at HA4;have HK4:=zaa (HK3.out.setCell (p:=⟨pb,1,none⟩) (.inl (.inl rfl)) (.int .i64 (z+1)));have hP4:AtJ pb (j+1) V3 (V3.setCell ⟨pb,1,none⟩ (.int .i64 ((j+1:Nat):Int))):=(AtJ.start HA3.out.here HA3.out.free).goto hw3 (j+1);rw[show((j+1:Nat):Int)=z+1 from by have:=HZ.out;omega] at hP4;have HB4:=zaa (HB3.out.to hP4);have HC4:=zaa (HC3.out.to hP4);have hq0:(V3.setCell ⟨pb,1,none⟩ (.int .i64 (z+1))).cell? ⟨W.heap.size,0,none⟩=_:=(hP4.kept.cell (p:=⟨W.heap.size,0,none⟩) (by show W.heap.size<_;omega) (by show¬W.heap.size=pb;omega)).trans hp0';have hq1:(V3.setCell ⟨pb,1,none⟩ (.int .i64 (z+1))).cell? ⟨W.heap.size+1,0,none⟩=_:=(hP4.kept.cell (p:=⟨W.heap.size+1,0,none⟩) (by show W.heap.size+1<_;omega) (by show¬W.heap.size+1=pb;omega)).trans hp1';have hz4:W.heap.size+3≤(V3.setCell ⟨pb,1,none⟩ (.int .i64 (z+1))).heap.size:=Nat.le_trans hz3 hP4.kept.size;clear hP4 HA3 HB3 HC3 HK3 hp0 hp1 hp0' hp1' hz3 hw3 e1 e2 k1 k2 hput hlk hc10 HSN HROW HE3;generalize V3.setCell ⟨pb,1,none⟩ (.int .i64 (z+1))=V4 at *;have hTAIL:Hid (ts.drop (j+1)=(ts.drop j).tail):=zaa (by simp);refine(zmN pb (j+1) bb mb B W.heap.size (W.heap.size+1) ts ⟨b.p,b.what++[K.data.toList]⟩ v4 v7 v8 v9 W0 V4 HC4 hts hjl hT HA4 HB4 hpW hW0 hq0 hq1 (by omega) (by omega)).mono ?_;rintro e w5 ⟨hE5,hk5⟩;have HK5:=zaa (HK4.out.trans (hk5.mono (G:=fun k=>k=pb∨k=bb∨k=mb) (fun k hk=>by rcases hk with h|h<;>simp[h])));have HKF:=zaa (fun(V':World) (hk:zam (fun k=>k=pb∨k=bb∨k=mb) V V')=>((zam.of_below HF.out.below:zam (fun k=>k=pb∨k=bb∨k=mb) W V).trans hk).mono (G:=fun k=>k=pb∨k=bb∨k=mb∨B≤k) (fun k hk=>by rcases hk with h|h|h<;>simp[h]));rcases hE5.split with⟨b5,j5,u4,u7,u8,u9,hr,hj5,hA,hB,rfl⟩|⟨n,jn,hr,hjn,hA,rfl⟩
  rotate_left
  ·have HX:=zaa (zbo.mk_bad (bb:=bb) (mb:=mb) (B:=B) (HTH.out.trans (zep (x:=zfb b.p) (by rw[←HKW.out];exact HCN.out) (by rw[←hTAIL.out,←HKW.out];exact hr))) hjn hA)
   have HKX:=zaa (HKF.out _ HK5.out);clear hE5 hr hA hk5;go_wp2_with fail;exact⟨rfl,HX.out,HKX.out⟩
  have hq0':w5.cell? ⟨W.heap.size,0,none⟩=_:=(hk5.cell (p:=⟨W.heap.size,0,none⟩) (by show W.heap.size<_;omega) (by show¬(W.heap.size=pb∨W.heap.size=bb);omega)).trans hq0;have HA5:=zaa hA;have HB5:=zaa hB;have HR5:=zaa hr;have hp5:pb<w5.heap.size:=Nat.lt_of_lt_of_le HC4.out.lt hk5.size;have HC5:Hid (Cur pb ts j5 w5):=zaa (H0.out.to HA5.out);clear hE5 hr hA hB hk5 hq0 hq1 hz4 HA4 HB4 HC4 HK4;go_wp2_with fail;refine(zat pb j5 _ ts ⟨#[59]⟩ _ HC5 hts' hj5 (by decide) rfl).mono ?_;rintro e w6 hE6;rcases hE6.split with⟨a6,j6,hr,hj6,hA,rfl⟩|⟨n,jn,hr,hjn,hA,rfl⟩
  rotate_left
  ·have HX:=zaa (zbo.mk_bad (bb:=bb) (mb:=mb) (B:=B) (HTH.out.trans (zet (x:=zfb b.p) (by rw[←HKW.out];exact HCN.out) (by rw[←hTAIL.out,←HKW.out];exact HR5.out) hr)) hjn (HA5.out.trans hA))
   have HKX:=zaa (HKF.out _ (HK5.out.trans (hA.kept.mono (G:=fun k=>k=pb∨k=bb∨k=mb) (fun k hk=> .inl hk))));clear hE6 hr hA;go_wp2_with fail;exact⟨rfl,HX.out,HKX.out⟩
  have HX:=zaa (zbo.mk_ok (HTH.out.trans (zgC (x:=zfb b.p) (by rw[←HKW.out];exact HCN.out) (by rw[←hTAIL.out,←HKW.out];exact HR5.out) hr)) hj6 (HA5.out.trans hA) (HB5.out.to hA));have HKX:=zaa (HKF.out _ (HK5.out.trans (hA.kept.mono (G:=fun k=>k=pb∨k=bb∨k=mb) (fun k hk=> .inl hk))));clear hE6 hr hA;go_wp2_with fail
  go_end0
  exact⟨HX.out,HKX.out⟩
theorem zkc (pb i0 j bb mb B:Nat) (ts:List Tok) (b:zag) (v4 v7 v8 v9:Value) (W0 W:World) (H0:Hid (Cur pb ts i0 W0)) (hts:ts.length≤1000000) (hj:j≤ts.length) (hT:Hid (zbS ts)) (HA:Hid (AtJ pb j W0 W)) (HB:Hid (BSt pb bb mb B b v4 v7 v8 v9 W)) (hpW:pb<W0.heap.size) (hW0:W0.heap.size≤bb) (hW1:W0.heap.size≤mb) (hE:Hid (zci W)) (hpE:3≤pb)(hw:Hid ((hdT (ts.drop j)).text=[101,118,101,110,116,115])):
 Calls prog 137 #[.pointer (some ⟨pb,0,none⟩),.pointer (some ⟨bb,0,none⟩)] W fun e W'=>zbo pb ts W0 bb mb B (za3 b (ts.drop j)) e W'∧zam (fun k=>k=pb∨k=bb∨k=mb∨B≤k) W W':=by
 have hts':ts.length≤1099511627776:=by omega
 have H:=zaa (H0.out.to HA.out);obtain⟨l1,l2,l3,l4,l5,l6⟩:=HB.out.low;have hgd:=zaa hT.out.good;have hpW':pb<W.heap.size:=by omega
 have ft1:=zbF;have hmm:= @run_makeMap prog;have hmf: ∀(fn:Fn) (first cap:Array Value) (w:World),(Instr.makeFunc fn first cap).run prog w= .ok (.func fn first cap) w:=fun _ _ _ _=>rfl
 have hi1:=fun(v:Value)=>zaX ((W.alloc (Obj.cells #[Value.pointer (some ⟨pb,0,none⟩)] 85)).alloc (Obj.cells #[Value.pointer (some ⟨bb,0,none⟩)] 201)) (W.heap.size+1+1) (by simp) #[] 0 ⟨#[115,101,109,97,115]⟩ v rfl
 have hi2:=fun(v1 v:Value)=>zaX ((W.alloc (Obj.cells #[Value.pointer (some ⟨pb,0,none⟩)] 85)).alloc (Obj.cells #[Value.pointer (some ⟨bb,0,none⟩)] 201)) (W.heap.size+1+1) (by simp) #[⟨.string ⟨#[115,101,109,97,115]⟩,v1,0⟩] 1 ⟨#[98,117,102,115]⟩ v (by kernel_rfl)
 have hi3:=fun(v1 v2 v:Value)=>zaX ((W.alloc (Obj.cells #[Value.pointer (some ⟨pb,0,none⟩)] 85)).alloc (Obj.cells #[Value.pointer (some ⟨bb,0,none⟩)] 201)) (W.heap.size+1+1) (by simp) #[⟨.string ⟨#[115,101,109,97,115]⟩,v1,0⟩,⟨.string ⟨#[98,117,102,115]⟩,v2,1⟩] 2 ⟨#[101,118,101,110,116,115]⟩ v (by kernel_rfl)
 have hi4:=fun(v1 v2 v3 v:Value)=>zaX ((W.alloc (Obj.cells #[Value.pointer (some ⟨pb,0,none⟩)] 85)).alloc (Obj.cells #[Value.pointer (some ⟨bb,0,none⟩)] 201)) (W.heap.size+1+1) (by simp) #[⟨.string ⟨#[115,101,109,97,115]⟩,v1,0⟩,⟨.string ⟨#[98,117,102,115]⟩,v2,1⟩,⟨.string ⟨#[101,118,101,110,116,115]⟩,v3,2⟩] 3 ⟨#[98,111,97,114,100,115]⟩ v (by kernel_rfl)
 go_enter func137,ntmps137
 go_wp2_with fail
 change Calls _ _ _ (ziG W pb bb) _
 have HF:=zaa (zcN W pb bb);generalize ziG W pb bb=V at *;clear hi1 hi2 hi3 hi4 hmm hmf;have HAV:=zaa (HA.out.below hpW HF.out.below);have HBV:=zaa (HB.out.below HF.out.below);have HCV:=zaa (H.out.below HF.out.below);have HEV:=zaa (hE.out.below HF.out.below);have HC:=zaa (zcf pb j ts V HCV hts' hj);generalize ht:hdT (ts.drop j)=t at HC hw;have HT0:=zaa ht;clear ht;obtain⟨κ,tx,ta⟩:=t;unfold zcC at HC;dsimp only at HC hw;generalize(κ:Int)=κz at HC;generalize(ta:Int)=taz at HC;refine(HC.out).mono ?_;rintro e w1 ⟨rfl,hb⟩;have HK1:=zaa ((zam.of_below hb:zam (fun k=>k=pb∨k=bb∨k=mb) V w1));have HA1:=zaa (HAV.out.below hpW hb);have HB1:=zaa (HBV.out.below hb);have HC1:=zaa (HCV.out.below hb);have HE1:=zaa (HEV.out.below hb);have HM1:=zaa ((hb.block _ (by have:=HF.out.size;omega)).trans HF.out.map);clear hb HC HAV HBV HCV HEV;have hjl:j<ts.length:=by
  rcases Nat.lt_or_ge j ts.length with h|h
  ·exact h
  ·have h1:=hw.out
   rw[zbJ ts j h] at HT0;have h2:=congrArg Tok.text HT0.out;simp only at h2;rw[←h2] at h1
   cases h1
 have HTH:=zaa (zg9 hT.out j b (by rw[HT0.out];exact hw.out));have hFF: ∀k,W.heap.size≤k→ ¬(k=pb∨k=bb∨k=mb):=fun k hk=>by omega
 have HFF:=zaa hFF;clear hFF;generalize hKK:(⟨tx.toArray⟩:ByteArray)=K at *;have HKW:Hid (K.data.toList=[101,118,101,110,116,115]):=zaa (by rw[←hKK];exact hw.out);clear hKK hw HT0;have hl:=zeu HM1.out K (zgk 160 W) (by rw[HKW.out];rfl);unfold zgk at hl;have hne:=zgz;go_wp2_with fail;clear hne;obtain⟨hp0,hp1,hz1⟩:=HF.out.keep HK1.out HFF.out;refine zad (S:=fun w'=>w'.cell? ⟨W.heap.size,0,none⟩=some (.pointer (some ⟨pb,0,none⟩))∧w'.cell? ⟨W.heap.size+1,0,none⟩=some (.pointer (some ⟨bb,0,none⟩))∧w'.heap[bb]? =some (zdv b.p mb v4 v7 v8 v9)∧zjl w' mb b.what) 10 (by kernel_rfl) (by kernel_rfl) ⟨hp0,hp1,HB1.out.row,HB1.out.seen⟩ (fun hHeld=> ?_);have HKd:=zaa (HK1.out.drew);have HAd:=zaa (HA1.out.drew);have HBd:=zaa (HB1.out.bare (w':=w1.drew) rfl);have HCd:=zaa (HC1.out.to (AtJ.start HC1.out.now HC1.out.free).drew);have HEd:=zaa (HE1.out.below ((Below.refl w1.heap.size w1).drew));clear HK1 HA1 HB1 HC1 HE1 HM1 hl hp0 hp1 hz1;generalize w1.drew=V2 at *;refine tk 0 37 rfl (by kernel_rfl) (fun _ _ _ h=>h) rfl (fun _ hS=>by have e1:=hS.1;go_simp;with_reducible rfl) hHeld ?_
 (try simp only[pu])
 refine tk 1 38 rfl (by kernel_rfl) (fun _ _ _ h=>h) rfl (fun _ hS=>by skip;go_simp;with_reducible rfl) hHeld ?_
 (try simp only[pu])
 refine tk 2 39 rfl (by kernel_rfl) (fun _ _ _ h=>h) rfl (fun _ hS=>by skip;go_simp;with_reducible rfl) hHeld ?_
 (try simp only[pu])
 refine tk 3 40 rfl (by kernel_rfl) (fun _ _ _ h=>h) rfl (fun _ hS=>by have e1:=hS.2.1;go_simp;with_reducible rfl) hHeld ?_
 (try simp only[pu])
 refine tk 4 41 rfl (by kernel_rfl) (fun _ _ _ h=>h) rfl (fun _ hS=>by skip;go_simp;with_reducible rfl) hHeld ?_
 (try simp only[pu])
 refine tk 5 42 rfl (by kernel_rfl) (fun _ _ _ h=>h) rfl (fun _ hS=>by skip;go_simp;with_reducible rfl) hHeld ?_
 (try simp only[pu])
 refine tk 6 43 rfl (by kernel_rfl) (fun _ _ _ h=>h) rfl (fun _ hS=>by have e1:=cell_of_row _ _ 10 _ _ _ hS.2.2.1;go_simp;with_reducible rfl) hHeld ?_
 (try simp only[pu])
 refine tk 7 44 rfl (by kernel_rfl) (fun _ _ _ h=>h) rfl (fun _ hS=>by skip;go_simp;with_reducible rfl) hHeld ?_
 (try simp only[pu])
 cases hc:b.what.contains K.data.toList with
 |true=>
  have HCN:=zaa hc;clear hc;refine tk 8 45 rfl (by kernel_rfl) (fun _ _ _ h=>h) rfl (fun _ hS=>by have e1:=hS.2.2.2.look K;rw[HCN.out] at e1;simp only[if_true] at e1;go_simp;with_reducible rfl) hHeld ?_
  (try simp only[pu])
  refine tk 9 46 rfl (by kernel_rfl) (fun _ _ _ h=>h) rfl (fun _ hS=>by skip;go_simp;with_reducible rfl) hHeld ?_
  (try simp only[pu])
  refine zae (by kernel_rfl) ?_;simp only[List.drop_succ_cons,List.drop_zero];have HX:=zaa (zbo.mk_bad (bb:=bb) (mb:=mb) (B:=B) (HTH.out.trans (zdR (by rw[←HKW.out];exact HCN.out))) hj HAd.out);have HKX:=zaa (((zam.of_below HF.out.below:zam (fun k=>k=pb∨k=bb∨k=mb) W V).trans HKd.out).mono (G:=fun k=>k=pb∨k=bb∨k=mb∨B≤k) (fun k hk=>by rcases hk with h|h|h<;>simp[h]));clear hHeld;go_wp2_with fail
  ((with_reducible refine(zb6 _ _ _).mono ?_);rintro e w'' ⟨rfl,rfl⟩)
  go_wp2_with fail;exact⟨rfl,HX.out,HKX.out⟩
 |false=>
  have HCN:=zaa hc;clear hc;refine tk 8 45 rfl (by kernel_rfl) (fun _ _ _ h=>h) rfl (fun _ hS=>by have e1:=hS.2.2.2.look K;rw[HCN.out] at e1;simp only[if_false,Bool.false_eq_true] at e1;go_simp;with_reducible rfl) hHeld ?_
  (try simp only[pu])
  refine tk 9 46 rfl (by kernel_rfl) (fun _ _ _ h=>h) rfl (fun _ hS=>by skip;go_simp;with_reducible rfl) hHeld ?_
  (try simp only[pu])
  refine zae (by kernel_rfl) ?_;simp only[List.drop_succ_cons,List.drop_zero];obtain⟨hp0,hp1,hrow,hseen⟩:=hHeld;go_wp2_with fail
  ((with_reducible refine(za1 _ _ _).mono ?_);rintro e w'' ⟨rfl,rfl⟩)
  have hlk:=hseen.look K;rw[HCN.out] at hlk;simp only[if_false,Bool.false_eq_true] at hlk;obtain⟨o,hput,hsn⟩:=hseen.put K HCN.out;have hc10:w''.cell? ⟨bb,10,none⟩=some (.map (some mb)):=cell_of_row _ _ 10 _ _ _ hrow;have hp0':(setBlock w'' mb o).cell? ⟨W.heap.size,0,none⟩=_:=(World.cell?_of_block (a:=⟨W.heap.size,0,none⟩) (zaz w'' mb W.heap.size o (by omega))).trans hp0;have hp1':(setBlock w'' mb o).cell? ⟨W.heap.size+1,0,none⟩=_:=(World.cell?_of_block (a:=⟨W.heap.size+1,0,none⟩) (zaz w'' mb (W.heap.size+1) o (by omega))).trans hp1;have hzs:=zbT w'' mb o;have HA3:=zaa (HAd.out.blk hW1 hpW o);have HB3:Hid (BSt pb bb mb B ⟨b.p,b.what++[K.data.toList]⟩ v4 v7 v8 v9 (setBlock w'' mb o)):=zaa
   ⟨(zaz w'' mb bb o l3).trans hrow,HBd.out.rows.keep (by rw[hzs];exact Nat.le_refl _) (fun k hk _=>zaz w'' mb k o (by omega)),hsn,l1,l2,l3,l4,l5,by rw[hzs];exact HBd.out.low.2.2.2.2.2⟩
  have HC3:=zaa (H0.out.to HA3.out);have HE3:=zaa (HEd.out.keptB ((zam.blk w'' mb o).below (B:=3) HEd.out.big (fun i hi=>by omega)) (Nat.le_refl _));have HK3:=zaa (HKd.out.trans ((zam.blk w'' mb o).mono (G:=fun k=>k=pb∨k=bb∨k=mb) (fun k hk=> .inr (.inr hk))));have e1:(setBlock w'' mb o).cell? ⟨pb,1,none⟩=some (.int .i64 (j:Int)):=HA3.out.here;have e2:=HA3.out.free;have hw3:pb<(setBlock w'' mb o).heap.size:=by rw[hzs];exact HCd.out.lt
  have hz3:W.heap.size+3≤(setBlock w'' mb o).heap.size:=by rw[hzs];have:=HKd.out.size;have:=HF.out.size;omega
  have k1:(j:Int)+1<9223372036854775808:=by omega
  have k2: -9223372036854775808≤(j:Int)+1:=by omega
  have HSN:=zaa hsn;have HROW:=zaa hrow;clear HAd HBd HCd HEd HKd hsn hzs hrow;generalize setBlock w'' mb o=V3 at *;generalize hz:(j:Int)=z at e1 k1 k2;have HZ:=zaa hz;clear hz;go_wp2_with fail;have HA4:=zaa (HA3.out.goto hpW (j+1));rw[show((j+1:Nat):Int)=z+1 from by have:=HZ.out;omega] at HA4;have HK4:=zaa (HK3.out.setCell (p:=⟨pb,1,none⟩) (.inl (.inl rfl)) (.int .i64 (z+1)));have hP4:AtJ pb (j+1) V3 (V3.setCell ⟨pb,1,none⟩ (.int .i64 ((j+1:Nat):Int))):=(AtJ.start HA3.out.here HA3.out.free).goto hw3 (j+1);rw[show((j+1:Nat):Int)=z+1 from by have:=HZ.out;omega] at hP4;have HB4:=zaa (HB3.out.to hP4);have HC4:=zaa (HC3.out.to hP4);have hq0:(V3.setCell ⟨pb,1,none⟩ (.int .i64 (z+1))).cell? ⟨W.heap.size,0,none⟩=_:=(hP4.kept.cell (p:=⟨W.heap.size,0,none⟩) (by show W.heap.size<_;omega) (by show¬W.heap.size=pb;omega)).trans hp0';have hq1:(V3.setCell ⟨pb,1,none⟩ (.int .i64 (z+1))).cell? ⟨W.heap.size+1,0,none⟩=_:=(hP4.kept.cell (p:=⟨W.heap.size+1,0,none⟩) (by show W.heap.size+1<_;omega) (by show¬W.heap.size+1=pb;omega)).trans hp1';have hz4:W.heap.size+3≤(V3.setCell ⟨pb,1,none⟩ (.int .i64 (z+1))).heap.size:=Nat.le_trans hz3 hP4.kept.size;clear hP4 HA3 HB3 HC3 HK3 hp0 hp1 hp0' hp1' hz3 hw3 e1 e2 k1 k2 hput hlk hc10 HSN HROW HE3;generalize V3.setCell ⟨pb,1,none⟩ (.int .i64 (z+1))=V4 at *;have hTAIL:Hid (ts.drop (j+1)=(ts.drop j).tail):=zaa (by simp);refine(zmF pb (j+1) bb mb B W.heap.size (W.heap.size+1) ts ⟨b.p,b.what++[K.data.toList]⟩ v4 v7 v8 v9 W0 V4 HC4 hts hjl hT HA4 HB4 hpW hW0 hq0 hq1 (by omega) (by omega)).mono ?_;rintro e w5 ⟨hE5,hk5⟩;have HK5:=zaa (HK4.out.trans (hk5.mono (G:=fun k=>k=pb∨k=bb∨k=mb) (fun k hk=>by rcases hk with h|h<;>simp[h])));have HKF:=zaa (fun(V':World) (hk:zam (fun k=>k=pb∨k=bb∨k=mb) V V')=>((zam.of_below HF.out.below:zam (fun k=>k=pb∨k=bb∨k=mb) W V).trans hk).mono (G:=fun k=>k=pb∨k=bb∨k=mb∨B≤k) (fun k hk=>by rcases hk with h|h|h<;>simp[h]));rcases hE5.split with⟨b5,j5,u4,u7,u8,u9,hr,hj5,hA,hB,rfl⟩|⟨n,jn,hr,hjn,hA,rfl⟩
  rotate_left
  ·have HX:=zaa (zbo.mk_bad (bb:=bb) (mb:=mb) (B:=B) (HTH.out.trans (zep (x:=zcw b.p) (by rw[←HKW.out];exact HCN.out) (by rw[←hTAIL.out,←HKW.out];exact hr))) hjn hA)
   have HKX:=zaa (HKF.out _ HK5.out);clear hE5 hr hA hk5;go_wp2_with fail;exact⟨rfl,HX.out,HKX.out⟩
  have hq0':w5.cell? ⟨W.heap.size,0,none⟩=_:=(hk5.cell (p:=⟨W.heap.size,0,none⟩) (by show W.heap.size<_;omega) (by show¬(W.heap.size=pb∨W.heap.size=bb);omega)).trans hq0;have HA5:=zaa hA;have HB5:=zaa hB;have HR5:=zaa hr;have hp5:pb<w5.heap.size:=Nat.lt_of_lt_of_le HC4.out.lt hk5.size;have HC5:Hid (Cur pb ts j5 w5):=zaa (H0.out.to HA5.out);clear hE5 hr hA hB hk5 hq0 hq1 hz4 HA4 HB4 HC4 HK4;go_wp2_with fail;refine(zat pb j5 _ ts ⟨#[59]⟩ _ HC5 hts' hj5 (by decide) rfl).mono ?_;rintro e w6 hE6;rcases hE6.split with⟨a6,j6,hr,hj6,hA,rfl⟩|⟨n,jn,hr,hjn,hA,rfl⟩
  rotate_left
  ·have HX:=zaa (zbo.mk_bad (bb:=bb) (mb:=mb) (B:=B) (HTH.out.trans (zet (x:=zcw b.p) (by rw[←HKW.out];exact HCN.out) (by rw[←hTAIL.out,←HKW.out];exact HR5.out) hr)) hjn (HA5.out.trans hA))
   have HKX:=zaa (HKF.out _ (HK5.out.trans (hA.kept.mono (G:=fun k=>k=pb∨k=bb∨k=mb) (fun k hk=> .inl hk))));clear hE6 hr hA;go_wp2_with fail;exact⟨rfl,HX.out,HKX.out⟩
  have HX:=zaa (zbo.mk_ok (HTH.out.trans (zgC (x:=zcw b.p) (by rw[←HKW.out];exact HCN.out) (by rw[←hTAIL.out,←HKW.out];exact HR5.out) hr)) hj6 (HA5.out.trans hA) (HB5.out.to hA));have HKX:=zaa (HKF.out _ (HK5.out.trans (hA.kept.mono (G:=fun k=>k=pb∨k=bb∨k=mb) (fun k hk=> .inl hk))));clear hE6 hr hA;go_wp2_with fail
  go_end0
  exact⟨HX.out,HKX.out⟩
theorem zjW (pb i0 j bb mb B:Nat) (ts:List Tok) (b:zag) (v4 v7 v8 v9:Value) (W0 W:World) (H0:Hid (Cur pb ts i0 W0)) (hts:ts.length≤1000000) (hj:j≤ts.length) (hT:Hid (zbS ts)) (HA:Hid (AtJ pb j W0 W)) (HB:Hid (BSt pb bb mb B b v4 v7 v8 v9 W)) (hpW:pb<W0.heap.size) (hW0:W0.heap.size≤bb) (hW1:W0.heap.size≤mb) (hE:Hid (zci W)) (hpE:3≤pb)(hw:Hid ((hdT (ts.drop j)).text=[98,111,97,114,100,115])):
 Calls prog 137 #[.pointer (some ⟨pb,0,none⟩),.pointer (some ⟨bb,0,none⟩)] W fun e W'=>zbo pb ts W0 bb mb B (za3 b (ts.drop j)) e W'∧zam (fun k=>k=pb∨k=bb∨k=mb∨B≤k) W W':=by
 have hts':ts.length≤1099511627776:=by omega
 have H:=zaa (H0.out.to HA.out);obtain⟨l1,l2,l3,l4,l5,l6⟩:=HB.out.low;have hgd:=zaa hT.out.good;have hpW':pb<W.heap.size:=by omega
 have ft1:=zbF;have hmm:= @run_makeMap prog;have hmf: ∀(fn:Fn) (first cap:Array Value) (w:World),(Instr.makeFunc fn first cap).run prog w= .ok (.func fn first cap) w:=fun _ _ _ _=>rfl
 have hi1:=fun(v:Value)=>zaX ((W.alloc (Obj.cells #[Value.pointer (some ⟨pb,0,none⟩)] 85)).alloc (Obj.cells #[Value.pointer (some ⟨bb,0,none⟩)] 201)) (W.heap.size+1+1) (by simp) #[] 0 ⟨#[115,101,109,97,115]⟩ v rfl
 have hi2:=fun(v1 v:Value)=>zaX ((W.alloc (Obj.cells #[Value.pointer (some ⟨pb,0,none⟩)] 85)).alloc (Obj.cells #[Value.pointer (some ⟨bb,0,none⟩)] 201)) (W.heap.size+1+1) (by simp) #[⟨.string ⟨#[115,101,109,97,115]⟩,v1,0⟩] 1 ⟨#[98,117,102,115]⟩ v (by kernel_rfl)
 have hi3:=fun(v1 v2 v:Value)=>zaX ((W.alloc (Obj.cells #[Value.pointer (some ⟨pb,0,none⟩)] 85)).alloc (Obj.cells #[Value.pointer (some ⟨bb,0,none⟩)] 201)) (W.heap.size+1+1) (by simp) #[⟨.string ⟨#[115,101,109,97,115]⟩,v1,0⟩,⟨.string ⟨#[98,117,102,115]⟩,v2,1⟩] 2 ⟨#[101,118,101,110,116,115]⟩ v (by kernel_rfl)
 have hi4:=fun(v1 v2 v3 v:Value)=>zaX ((W.alloc (Obj.cells #[Value.pointer (some ⟨pb,0,none⟩)] 85)).alloc (Obj.cells #[Value.pointer (some ⟨bb,0,none⟩)] 201)) (W.heap.size+1+1) (by simp) #[⟨.string ⟨#[115,101,109,97,115]⟩,v1,0⟩,⟨.string ⟨#[98,117,102,115]⟩,v2,1⟩,⟨.string ⟨#[101,118,101,110,116,115]⟩,v3,2⟩] 3 ⟨#[98,111,97,114,100,115]⟩ v (by kernel_rfl)
 go_enter func137,ntmps137
 go_wp2_with fail
 change Calls _ _ _ (ziG W pb bb) _
 have HF:=zaa (zcN W pb bb);generalize ziG W pb bb=V at *;clear hi1 hi2 hi3 hi4 hmm hmf;have HAV:=zaa (HA.out.below hpW HF.out.below);have HBV:=zaa (HB.out.below HF.out.below);have HCV:=zaa (H.out.below HF.out.below);have HEV:=zaa (hE.out.below HF.out.below);have HC:=zaa (zcf pb j ts V HCV hts' hj);generalize ht:hdT (ts.drop j)=t at HC hw;have HT0:=zaa ht;clear ht;obtain⟨κ,tx,ta⟩:=t;unfold zcC at HC;dsimp only at HC hw;generalize(κ:Int)=κz at HC;generalize(ta:Int)=taz at HC;refine(HC.out).mono ?_;rintro e w1 ⟨rfl,hb⟩;have HK1:=zaa ((zam.of_below hb:zam (fun k=>k=pb∨k=bb∨k=mb) V w1));have HA1:=zaa (HAV.out.below hpW hb);have HB1:=zaa (HBV.out.below hb);have HC1:=zaa (HCV.out.below hb);have HE1:=zaa (HEV.out.below hb);have HM1:=zaa ((hb.block _ (by have:=HF.out.size;omega)).trans HF.out.map);clear hb HC HAV HBV HCV HEV;have hjl:j<ts.length:=by
  rcases Nat.lt_or_ge j ts.length with h|h
  ·exact h
  ·have h1:=hw.out
   rw[zbJ ts j h] at HT0;have h2:=congrArg Tok.text HT0.out;simp only at h2;rw[←h2] at h1
   cases h1
 have HTH:=zaa (zhc hT.out j b (by rw[HT0.out];exact hw.out));have hFF: ∀k,W.heap.size≤k→ ¬(k=pb∨k=bb∨k=mb):=fun k hk=>by omega
 have HFF:=zaa hFF;clear hFF;generalize hKK:(⟨tx.toArray⟩:ByteArray)=K at *;have HKW:Hid (K.data.toList=[98,111,97,114,100,115]):=zaa (by rw[←hKK];exact hw.out);clear hKK hw HT0;have hl:=zeu HM1.out K (zgk 161 W) (by rw[HKW.out];rfl);unfold zgk at hl;have hne:=zgz;go_wp2_with fail;clear hne;obtain⟨hp0,hp1,hz1⟩:=HF.out.keep HK1.out HFF.out;refine zad (S:=fun w'=>w'.cell? ⟨W.heap.size,0,none⟩=some (.pointer (some ⟨pb,0,none⟩))∧w'.cell? ⟨W.heap.size+1,0,none⟩=some (.pointer (some ⟨bb,0,none⟩))∧w'.heap[bb]? =some (zdv b.p mb v4 v7 v8 v9)∧zjl w' mb b.what) 10 (by kernel_rfl) (by kernel_rfl) ⟨hp0,hp1,HB1.out.row,HB1.out.seen⟩ (fun hHeld=> ?_);have HKd:=zaa (HK1.out.drew);have HAd:=zaa (HA1.out.drew);have HBd:=zaa (HB1.out.bare (w':=w1.drew) rfl);have HCd:=zaa (HC1.out.to (AtJ.start HC1.out.now HC1.out.free).drew);have HEd:=zaa (HE1.out.below ((Below.refl w1.heap.size w1).drew));clear HK1 HA1 HB1 HC1 HE1 HM1 hl hp0 hp1 hz1;generalize w1.drew=V2 at *;refine tk 0 37 rfl (by kernel_rfl) (fun _ _ _ h=>h) rfl (fun _ hS=>by have e1:=hS.1;go_simp;with_reducible rfl) hHeld ?_
 (try simp only[pu])
 refine tk 1 38 rfl (by kernel_rfl) (fun _ _ _ h=>h) rfl (fun _ hS=>by skip;go_simp;with_reducible rfl) hHeld ?_
 (try simp only[pu])
 refine tk 2 39 rfl (by kernel_rfl) (fun _ _ _ h=>h) rfl (fun _ hS=>by skip;go_simp;with_reducible rfl) hHeld ?_
 (try simp only[pu])
 refine tk 3 40 rfl (by kernel_rfl) (fun _ _ _ h=>h) rfl (fun _ hS=>by have e1:=hS.2.1;go_simp;with_reducible rfl) hHeld ?_
 (try simp only[pu])
 refine tk 4 41 rfl (by kernel_rfl) (fun _ _ _ h=>h) rfl (fun _ hS=>by skip;go_simp;with_reducible rfl) hHeld ?_
 (try simp only[pu])
 refine tk 5 42 rfl (by kernel_rfl) (fun _ _ _ h=>h) rfl (fun _ hS=>by skip;go_simp;with_reducible rfl) hHeld ?_
 (try simp only[pu])
 refine tk 6 43 rfl (by kernel_rfl) (fun _ _ _ h=>h) rfl (fun _ hS=>by have e1:=cell_of_row _ _ 10 _ _ _ hS.2.2.1;go_simp;with_reducible rfl) hHeld ?_
 (try simp only[pu])
 refine tk 7 44 rfl (by kernel_rfl) (fun _ _ _ h=>h) rfl (fun _ hS=>by skip;go_simp;with_reducible rfl) hHeld ?_
 (try simp only[pu])
 cases hc:b.what.contains K.data.toList with
 |true=>
  have HCN:=zaa hc;clear hc;refine tk 8 45 rfl (by kernel_rfl) (fun _ _ _ h=>h) rfl (fun _ hS=>by have e1:=hS.2.2.2.look K;rw[HCN.out] at e1;simp only[if_true] at e1;go_simp;with_reducible rfl) hHeld ?_
  (try simp only[pu])
  refine tk 9 46 rfl (by kernel_rfl) (fun _ _ _ h=>h) rfl (fun _ hS=>by skip;go_simp;with_reducible rfl) hHeld ?_
  (try simp only[pu])
  refine zae (by kernel_rfl) ?_;simp only[List.drop_succ_cons,List.drop_zero];have HX:=zaa (zbo.mk_bad (bb:=bb) (mb:=mb) (B:=B) (HTH.out.trans (zdR (by rw[←HKW.out];exact HCN.out))) hj HAd.out);have HKX:=zaa (((zam.of_below HF.out.below:zam (fun k=>k=pb∨k=bb∨k=mb) W V).trans HKd.out).mono (G:=fun k=>k=pb∨k=bb∨k=mb∨B≤k) (fun k hk=>by rcases hk with h|h|h<;>simp[h]));clear hHeld;go_wp2_with fail
  ((with_reducible refine(zb6 _ _ _).mono ?_);rintro e w'' ⟨rfl,rfl⟩)
  go_wp2_with fail;exact⟨rfl,HX.out,HKX.out⟩
 |false=>
  have HCN:=zaa hc;clear hc;refine tk 8 45 rfl (by kernel_rfl) (fun _ _ _ h=>h) rfl (fun _ hS=>by have e1:=hS.2.2.2.look K;rw[HCN.out] at e1;simp only[if_false,Bool.false_eq_true] at e1;go_simp;with_reducible rfl) hHeld ?_
  (try simp only[pu])
  refine tk 9 46 rfl (by kernel_rfl) (fun _ _ _ h=>h) rfl (fun _ hS=>by skip;go_simp;with_reducible rfl) hHeld ?_
  (try simp only[pu])
  refine zae (by kernel_rfl) ?_;simp only[List.drop_succ_cons,List.drop_zero];obtain⟨hp0,hp1,hrow,hseen⟩:=hHeld;go_wp2_with fail
  ((with_reducible refine(za1 _ _ _).mono ?_);rintro e w'' ⟨rfl,rfl⟩)
  have hlk:=hseen.look K;rw[HCN.out] at hlk;simp only[if_false,Bool.false_eq_true] at hlk;obtain⟨o,hput,hsn⟩:=hseen.put K HCN.out;have hc10:w''.cell? ⟨bb,10,none⟩=some (.map (some mb)):=cell_of_row _ _ 10 _ _ _ hrow;have hp0':(setBlock w'' mb o).cell? ⟨W.heap.size,0,none⟩=_:=(World.cell?_of_block (a:=⟨W.heap.size,0,none⟩) (zaz w'' mb W.heap.size o (by omega))).trans hp0;have hp1':(setBlock w'' mb o).cell? ⟨W.heap.size+1,0,none⟩=_:=(World.cell?_of_block (a:=⟨W.heap.size+1,0,none⟩) (zaz w'' mb (W.heap.size+1) o (by omega))).trans hp1;have hzs:=zbT w'' mb o;have HA3:=zaa (HAd.out.blk hW1 hpW o);have HB3:Hid (BSt pb bb mb B ⟨b.p,b.what++[K.data.toList]⟩ v4 v7 v8 v9 (setBlock w'' mb o)):=zaa
   ⟨(zaz w'' mb bb o l3).trans hrow,HBd.out.rows.keep (by rw[hzs];exact Nat.le_refl _) (fun k hk _=>zaz w'' mb k o (by omega)),hsn,l1,l2,l3,l4,l5,by rw[hzs];exact HBd.out.low.2.2.2.2.2⟩
  have HC3:=zaa (H0.out.to HA3.out);have HE3:=zaa (HEd.out.keptB ((zam.blk w'' mb o).below (B:=3) HEd.out.big (fun i hi=>by omega)) (Nat.le_refl _));have HK3:=zaa (HKd.out.trans ((zam.blk w'' mb o).mono (G:=fun k=>k=pb∨k=bb∨k=mb) (fun k hk=> .inr (.inr hk))));have e1:(setBlock w'' mb o).cell? ⟨pb,1,none⟩=some (.int .i64 (j:Int)):=HA3.out.here;have e2:=HA3.out.free;have hw3:pb<(setBlock w'' mb o).heap.size:=by rw[hzs];exact HCd.out.lt
  have hz3:W.heap.size+3≤(setBlock w'' mb o).heap.size:=by rw[hzs];have:=HKd.out.size;have:=HF.out.size;omega
  have k1:(j:Int)+1<9223372036854775808:=by omega
  have k2: -9223372036854775808≤(j:Int)+1:=by omega
  have HSN:=zaa hsn;have HROW:=zaa hrow;clear HAd HBd HCd HEd HKd hsn hzs hrow;generalize setBlock w'' mb o=V3 at *;generalize hz:(j:Int)=z at e1 k1 k2;have HZ:=zaa hz;clear hz;go_wp2_with fail;have HA4:=zaa (HA3.out.goto hpW (j+1));rw[show((j+1:Nat):Int)=z+1 from by have:=HZ.out;omega] at HA4;have HK4:=zaa (HK3.out.setCell (p:=⟨pb,1,none⟩) (.inl (.inl rfl)) (.int .i64 (z+1)));have hP4:AtJ pb (j+1) V3 (V3.setCell ⟨pb,1,none⟩ (.int .i64 ((j+1:Nat):Int))):=(AtJ.start HA3.out.here HA3.out.free).goto hw3 (j+1);rw[show((j+1:Nat):Int)=z+1 from by have:=HZ.out;omega] at hP4;have HB4:=zaa (HB3.out.to hP4);have HC4:=zaa (HC3.out.to hP4);have hq0:(V3.setCell ⟨pb,1,none⟩ (.int .i64 (z+1))).cell? ⟨W.heap.size,0,none⟩=_:=(hP4.kept.cell (p:=⟨W.heap.size,0,none⟩) (by show W.heap.size<_;omega) (by show¬W.heap.size=pb;omega)).trans hp0';have hq1:(V3.setCell ⟨pb,1,none⟩ (.int .i64 (z+1))).cell? ⟨W.heap.size+1,0,none⟩=_:=(hP4.kept.cell (p:=⟨W.heap.size+1,0,none⟩) (by show W.heap.size+1<_;omega) (by show¬W.heap.size+1=pb;omega)).trans hp1';have hz4:W.heap.size+3≤(V3.setCell ⟨pb,1,none⟩ (.int .i64 (z+1))).heap.size:=Nat.le_trans hz3 hP4.kept.size;clear hP4 HA3 HB3 HC3 HK3 hp0 hp1 hp0' hp1' hz3 hw3 e1 e2 k1 k2 hput hlk hc10 HSN HROW HE3;generalize V3.setCell ⟨pb,1,none⟩ (.int .i64 (z+1))=V4 at *;have hTAIL:Hid (ts.drop (j+1)=(ts.drop j).tail):=zaa (by simp);refine(zmK pb (j+1) bb mb B W.heap.size (W.heap.size+1) ts ⟨b.p,b.what++[K.data.toList]⟩ v4 v7 v8 v9 W0 V4 HC4 hts hjl hT HA4 HB4 hpW hW0 hq0 hq1 (by omega) (by omega)).mono ?_;rintro e w5 ⟨hE5,hk5⟩;have HK5:=zaa (HK4.out.trans (hk5.mono (G:=fun k=>k=pb∨k=bb∨k=mb) (fun k hk=>by rcases hk with h|h<;>simp[h])));have HKF:=zaa (fun(V':World) (hk:zam (fun k=>k=pb∨k=bb∨k=mb) V V')=>((zam.of_below HF.out.below:zam (fun k=>k=pb∨k=bb∨k=mb) W V).trans hk).mono (G:=fun k=>k=pb∨k=bb∨k=mb∨B≤k) (fun k hk=>by rcases hk with h|h|h<;>simp[h]));rcases hE5.split with⟨b5,j5,u4,u7,u8,u9,hr,hj5,hA,hB,rfl⟩|⟨n,jn,hr,hjn,hA,rfl⟩
  rotate_left
  ·have HX:=zaa (zbo.mk_bad (bb:=bb) (mb:=mb) (B:=B) (HTH.out.trans (zep (x:=zcA b.p) (by rw[←HKW.out];exact HCN.out) (by rw[←hTAIL.out,←HKW.out];exact hr))) hjn hA)
   have HKX:=zaa (HKF.out _ HK5.out);clear hE5 hr hA hk5;go_wp2_with fail;exact⟨rfl,HX.out,HKX.out⟩
  have hq0':w5.cell? ⟨W.heap.size,0,none⟩=_:=(hk5.cell (p:=⟨W.heap.size,0,none⟩) (by show W.heap.size<_;omega) (by show¬(W.heap.size=pb∨W.heap.size=bb);omega)).trans hq0;have HA5:=zaa hA;have HB5:=zaa hB;have HR5:=zaa hr;have hp5:pb<w5.heap.size:=Nat.lt_of_lt_of_le HC4.out.lt hk5.size;have HC5:Hid (Cur pb ts j5 w5):=zaa (H0.out.to HA5.out);clear hE5 hr hA hB hk5 hq0 hq1 hz4 HA4 HB4 HC4 HK4;go_wp2_with fail;refine(zat pb j5 _ ts ⟨#[59]⟩ _ HC5 hts' hj5 (by decide) rfl).mono ?_;rintro e w6 hE6;rcases hE6.split with⟨a6,j6,hr,hj6,hA,rfl⟩|⟨n,jn,hr,hjn,hA,rfl⟩
  rotate_left
  ·have HX:=zaa (zbo.mk_bad (bb:=bb) (mb:=mb) (B:=B) (HTH.out.trans (zet (x:=zcA b.p) (by rw[←HKW.out];exact HCN.out) (by rw[←hTAIL.out,←HKW.out];exact HR5.out) hr)) hjn (HA5.out.trans hA))
   have HKX:=zaa (HKF.out _ (HK5.out.trans (hA.kept.mono (G:=fun k=>k=pb∨k=bb∨k=mb) (fun k hk=> .inl hk))));clear hE6 hr hA;go_wp2_with fail;exact⟨rfl,HX.out,HKX.out⟩
  have HX:=zaa (zbo.mk_ok (HTH.out.trans (zgC (x:=zcA b.p) (by rw[←HKW.out];exact HCN.out) (by rw[←hTAIL.out,←HKW.out];exact HR5.out) hr)) hj6 (HA5.out.trans hA) (HB5.out.to hA));have HKX:=zaa (HKF.out _ (HK5.out.trans (hA.kept.mono (G:=fun k=>k=pb∨k=bb∨k=mb) (fun k hk=> .inl hk))));clear hE6 hr hA;go_wp2_with fail
  go_end0
  exact⟨HX.out,HKX.out⟩
end Go.Proofs.YtlngbjphagnloaaGreatDoor
