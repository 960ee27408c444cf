/- Merged texts of the walks and of the plain laws on which the statement leans.-/
import Derived.Test.YtlngbjphagnloaaGreatDoorPk1
import Derived.Test.YtlngbjphagnloaaGreatDoorPk3
import Derived.Test.YtlngbjphagnloaaGreatDoorShelfF
import Derived.Test.YtlngbjphagnloaaGreatDoorPk4
set_option maxHeartbeats 1000000
set_option maxRecDepth 100000
namespace Go.Proofs.YtlngbjphagnloaaGreatDoor
open Tryz
open Go.RowKit
attribute [local go_sem] zax.cell
theorem gSp:prog.globalNamed "strings.asciiSpace" =some 0:=by kernel_rfl
structure zci (w:World):Prop where
 sp:Lib.TabIs prog w "strings.asciiSpace" .u8 Lib.asciiSpaceTab
 mx: ∃m,w.cell? ⟨2,0,none⟩=some (.int .i64 m)
 big:3≤w.heap.size
theorem zci.keptB {B:Nat} {w w':World} (h:zci w) (hb:Below B w w') (hB:3≤B):zci w':=by
 obtain⟨m,hm⟩:=h.mx;refine⟨?_,⟨m,(hb.cell (p:=⟨2,0,none⟩) (by show 2<B;omega)).trans hm⟩,Nat.le_trans h.big hb.size⟩;have ht:=h.sp;unfold Lib.TabIs at ht ⊢;exact var?_below hb gSp (by omega) ht
theorem zci.below {w w':World} (h:zci w) (hb:Below w.heap.size w w'):zci w':=h.keptB hb h.big
theorem zci.to {pb j:Nat} {w w':World} (h:zci w) (hp:3≤pb) (ha:AtJ pb j w w'):zci w':=
 h.keptB (B:=3) (ha.kept.below h.big (fun i hi e=>by omega)) (Nat.le_refl _)
theorem ziL (x:List UInt8): ∀(l:List (List UInt8)) (i:Nat),Lib.idxFromS (l.map fun s=>(⟨s.toArray⟩:ByteArray)) ⟨x.toArray⟩ i=match l.findIdx? (· ==x) with
  |some k=>((i+k:Nat):Int)
  |none=> -1
 |[],i=>rfl
 |s::l,i=>by
  have ih:=ziL x l (i+1);simp only[List.map_cons,Lib.idxFromS,List.findIdx?_cons];by_cases h:s=x
  ·subst h
   simp
  ·have h':(⟨s.toArray⟩:ByteArray)≠⟨x.toArray⟩:=by
    intro e;apply h;have:=congrArg (fun b:ByteArray=>b.data.toList) e
    simpa using this
   rw[if_neg h',ih];have hb:(s==x)=false:=by simpa using h
   rw[hb]
   cases l.findIdx? (· ==x) with
   |none=>rfl
   |some k=>
    show((i+1+k:Nat):Int)=((i+(k+1):Nat):Int)
    omega
theorem zdT (l:List (List UInt8)) (s:List UInt8):zbN l s≤l.length:=by
 unfold zbN
 cases h:l.findIdx? (· ==s) with
 |none=>simp
 |some i=>
  have:=(List.findIdx?_eq_some_iff_getElem.1 h).1
  show i+1≤_
  omega
theorem zh2 (v:ByteArray) (x:List UInt8) (ws:List (List UInt8)) (W:World) (hE:zci W) (hs:v.size<4294967281) (ha:v.data.toList.all (fun b=>decide (b.toNat<128))=true) (hf:Lib.fields v.data.toList=ws) (hl:ws.length≤200):
 Calls prog 138 #[.string v,.string ⟨x.toArray⟩] W fun e W'=>e= .returned (.int .u8 (zbN ws x:Int))∧Below W.heap.size W W':=by
 have ha': ∀(j:Nat) b,v.data.toList[j]? =some b→b.toNat<128:=fun j b hb=>by
  have:=List.all_eq_true.1 ha b (List.mem_of_getElem? hb)
  simpa using this
 have HF:=zaa (Tryz.strings_Fields v W hs ha' hE.sp);rw[hf] at HF;generalize ho:Obj.cells (ws.map fun l=>Value.string ⟨l.toArray⟩).toArray 9=o at HF;have hnew:=heap_alloc_new W o;have HI:=zaa (Tryz.slices_Index_string W.heap.size 0 ws.length ws.length (ws.map fun s=>(⟨s.toArray⟩:ByteArray)) ⟨x.toArray⟩ (W.alloc o) (by simp) (by omega) (fun j hj=>by
  rw[←ho] at hnew ⊢;have hj':j<ws.length:=by simpa using hj
  rw[Nat.zero_add,cell_of_row _ _ j _ _ _ hnew];simp[hj']))
 rw[show(ws.map fun s=>(⟨s.toArray⟩:ByteArray)).take ws.length=ws.map fun s=>(⟨s.toArray⟩:ByteArray) from List.take_of_length_le (by simp)] at HI;have hi:Lib.idxOfS (ws.map fun s=>(⟨s.toArray⟩:ByteArray)) ⟨x.toArray⟩=(zbN ws x:Int)-1:=by
  unfold Lib.idxOfS zbN;rw[ziL]
  cases ws.findIdx? (· ==x) with
  |none=>rfl
  |some k=>
   show((0+k:Nat):Int)=((k+1:Nat):Int)-1
   omega
 rw[hi] at HI;have hle:=zdT ws x;have HB:=zaa ((Below.refl W.heap.size W).alloc (Nat.le_refl _) o);clear ho hnew hi hE;have h0:0≤(zbN ws x:Int):=by omega
 have h1:(zbN ws x:Int)≤200:=by omega
 generalize(zbN ws x:Int)=N at *;generalize(⟨x.toArray⟩:ByteArray)=X at *
 go_enter func138,ntmps138
 go_wp2_with fail;refine(HF.out).mono ?_;rintro e w1 ⟨rfl,rfl⟩;go_wp2_with fail;refine(HI.out).mono ?_;rintro e w2 ⟨rfl,rfl⟩;go_wp2_with fail;go_ret;exact⟨by simp,HB.out⟩
theorem zga (W:World) (a0 a1 a2:Value):(Instr.field 43 (.agg #[a0,a1,a2]) 0).run prog W= .ok a0 W:=by kernel_rfl
theorem zbF (W:World) (a0 a1 a2:Value):(Instr.field 43 (.agg #[a0,a1,a2]) 1).run prog W= .ok a1 W:=by kernel_rfl
structure Voc (v:ByteArray) (ws:List (List UInt8)):Prop where
 small:v.size<4294967281
 ascii:v.data.toList.all (fun b=>decide (b.toNat<128))=true
 words:Lib.fields v.data.toList=ws
 few:ws.length≤200
theorem zdt (pb j:Nat) (ts:List Tok) (v:ByteArray) (ws:List (List UInt8)) (hv:Voc v ws) (W:World) (H:Hid (Cur pb ts j W)) (hE:Hid (zci W)) (hts:ts.length≤1099511627776) (hj:j≤ts.length):
 Calls prog 98 #[.pointer (some ⟨pb,0,none⟩),.string v] W fun e W'=>zcd pb ts W (fun n:Nat=> .int .u8 (n:Int)) (ofP ws (ts.drop j)) e W':=by
 have hpb:=H.out.lt;have HC:=zaa (fun W (H:Hid (Cur pb ts j W))=>zcf pb j ts W H hts hj);have hlt:(hdT (ts.drop j)).kind=1→j<ts.length:=by
  intro h;rcases Nat.lt_or_ge j ts.length with h'|h'
  ·exact h'
  ·rw[zbJ ts j h'] at h
   cases h
 have HLT:=zaa hlt;clear hlt;have hof:ofP ws (ts.drop j)=if zbN ws (hdT (ts.drop j)).text != 0&&(hdT (ts.drop j)).kind==1 then .ok (zbN ws (hdT (ts.drop j)).text) (ts.drop j).tail else .bad 80 (ts.drop j):=rfl
 rw[hof];clear hof;generalize ht:hdT (ts.drop j)=t at HC HLT;clear ht;obtain⟨κ,tx,a⟩:=t;unfold zcC at HC;dsimp only at HC HLT ⊢;have HN:=zaa (fun W hE=>zh2 v tx ws W hE hv.small hv.ascii hv.words hv.few);have hle:=zdT ws tx;have hfew:=hv.few;have HH:=HC.out W H;have HA0:=zaa (AtJ.start H.out.now H.out.free);generalize(⟨tx.toArray⟩:ByteArray)=T at *;generalize zbN ws tx=N at *;by_cases h0:N=0
 ·subst h0
  rw[if_neg (by simp)];have f1:=zbF
  go_enter func98,ntmps98
  go_wp2_with fail;refine HH.mono ?_;rintro e w1 ⟨rfl,hb⟩;have HB:=zaa hb;clear hb;go_wp2_with fail;refine(HN.out w1 (hE.out.below HB.out)).mono ?_;rintro e w2 ⟨rfl,hb⟩;have HB2:=zaa (btZ HB.out hb);clear hb;go_wp2_with(go_at_call 56;refine(zb6 _ _ _).mono ?_;rintro e w'' ⟨rfl,rfl⟩)
  exact⟨rfl,zcd.mk_bad rfl hj (HA0.out.below hpb HB2.out)⟩
 ·have k0:(0:Int)<(N:Int):=by omega
  have f1:=zbF;have f0:=zga;by_cases h1:κ=1
  ·subst h1
   have hlt:=HLT.out rfl;rw[if_pos (by simp[h0])];have HR:=zaa (show(.ok N (ts.drop j).tail:Res Nat)= .ok N (ts.drop (j+1)) by simp)
   go_enter func98,ntmps98
   go_wp2_with fail;refine HH.mono ?_;rintro e w1 ⟨rfl,hb⟩;have HB:=zaa hb;clear hb;go_wp2_with fail;refine(HN.out w1 (hE.out.below HB.out)).mono ?_;rintro e w2 ⟨rfl,hb⟩;have HB2:=zaa (btZ HB.out hb);clear hb;have HC2:=HC.out w2 (zaa (H.out.below HB2.out));go_wp2_with fail;refine HC2.mono ?_;rintro e w3 ⟨rfl,hb⟩;have HB3:=zaa (btZ HB2.out hb);clear hb;have HJ:=zaa (HA0.out.below hpb HB3.out);have e1:=HJ.out.here;have e2:=HJ.out.free;have k1:(j:Int)+1<9223372036854775808:=by omega
   have k2: -9223372036854775808≤(j:Int)+1:=by omega
   have hG:=zaa (HJ.out.goto hpb (j+1));have hz2:((j+1:Nat):Int)=(j:Int)+1:=by omega
   rw[hz2] at hG;clear hz2;generalize(j:Int)=z at *;go_wp2_with(go_at_call 56;refine(za1 _ _ _).mono ?_;rintro e w'' ⟨rfl,rfl⟩)
   go_ret;exact zcd.mk_ok HR.out hlt hG.out rfl
  ·rw[if_neg (by simp[h1])]
   have hd:((κ:Int)==1)=false:=by simp;omega
   go_enter func98,ntmps98
   go_wp2_with fail;refine HH.mono ?_;rintro e w1 ⟨rfl,hb⟩;have HB:=zaa hb;clear hb;go_wp2_with fail;refine(HN.out w1 (hE.out.below HB.out)).mono ?_;rintro e w2 ⟨rfl,hb⟩;have HB2:=zaa (btZ HB.out hb);clear hb;have HC2:=HC.out w2 (zaa (H.out.below HB2.out));go_wp2_with fail;refine HC2.mono ?_;rintro e w3 ⟨rfl,hb⟩;have HB3:=zaa (btZ HB2.out hb);clear hb;go_wp2_with(go_at_call 56;refine(zb6 _ _ _).mono ?_;rintro e w'' ⟨rfl,rfl⟩)
   exact⟨rfl,zcd.mk_bad rfl hj (HA0.out.below hpb HB3.out)⟩
theorem zat (pb j xb:Nat) (ts:List Tok) (s:ByteArray) (W:World) (H:Hid (Cur pb ts j W)) (hts:ts.length≤1099511627776) (hj:j≤ts.length) (hs:s.data.toList≠[]) (hx:xb=W.heap.size):
 Calls prog 82 #[.pointer (some ⟨pb,0,none⟩),.slice (some ⟨xb,0,none⟩) 1 1] (W.alloc (Obj.cells #[Value.string s] 9)) fun e W'=>zcd pb ts W (fun _:Unit=> .tuple #[]) (zbd s.data.toList (ts.drop j)) e W':=by
 subst hx;have hpb:=H.out.lt;have HB:=(Below.refl W.heap.size W).alloc (Nat.le_refl _) (Obj.cells #[Value.string s] 9);exact(ziR pb j W.heap.size 0 1 ts s _ (zaa (H.out.below HB)) hts hj hs (by simp[go_sem]) (by omega)).mono fun e W' h=>h.trans ((AtJ.start H.out.now H.out.free).below hpb HB)
def zbY (r:zeJ):Value:= .agg #[.string ⟨r.m.toArray⟩,.string ⟨r.p.toArray⟩,.string ⟨r.o.toArray⟩]
theorem AtJ.fresh {sb j:Nat} {W w:World} (h:AtJ sb j W w) (_hsb:sb<W.heap.size) {p:Addr} (hp:p.block≠sb) (hp2:W.heap.size≤p.block) (u:Value):AtJ sb j W (w.setCell p u):=by
 refine⟨h.kept.setCell (.inr hp2) u,?_,fun o ho=> ?_,?_,fun o=>by rw[World.frozen?_setCell];exact h.hold o⟩
 ·rw[World.cell?_setCell_other w _ _ _ (fun e=>by have:=congrArg Addr.block e;simp at this;exact hp this)];exact h.here
 ·rw[World.cell?_setCell_other w _ _ _ (fun e=>by have:=congrArg Addr.block e;simp at this;exact hp this)];exact h.rest o ho
 ·rw[World.frozen?_setCell];exact h.free
def zcD (r:zf2):Value:= .agg #[.string ⟨r.unit.toArray⟩,.int .i64 r.code]
theorem zh9 (pb j:Nat) (ts:List Tok) (W:World) (H:Hid (Cur pb ts j W)) (hts:ts.length≤1099511627776) (hj:j≤ts.length):
 Calls prog 95 #[.pointer (some ⟨pb,0,none⟩)] W fun e W'=>zcd pb ts W zbY (zid (ts.drop j)) e W':=by
 have hpb:=H.out.lt;have HA0:=zaa ((AtJ.start H.out.now H.out.free).below hpb ((Below.refl W.heap.size W).alloc (Nat.le_refl _) (Obj.cells #[Value.string ⟨#[]⟩,Value.string ⟨#[]⟩,Value.string ⟨#[]⟩] 130)));have HT0:Hid ((W.alloc (Obj.cells #[Value.string ⟨#[]⟩,Value.string ⟨#[]⟩,Value.string ⟨#[]⟩] 130)).heap[W.heap.size]? =some (Obj.cells #[Value.string ⟨#[]⟩,Value.string ⟨#[]⟩,Value.string ⟨#[]⟩] 130 (0,0))):=zaa (heap_alloc_new W _);have hrb:W.heap.size≠pb:=by omega
 go_enter func95,ntmps95
 go_wp2_with fail;refine(zaU pb j ts _ (zaa (H.out.to HA0.out)) hts hj).mono ?_;rintro e w1 hE1;rcases hE1.split with⟨a1,j1,hr,hj1,hA,rfl⟩|⟨n,j1,hr,hj1,hA,rfl⟩
 rotate_left
 ·have HX:=zaa (zcd.mk_bad (conv:=zbY) ((rfl:zid (ts.drop j)=zid (ts.drop j)).trans (zab hr)) hj1 (HA0.out.trans hA))
  clear hA hr hE1;go_wp2_with fail;exact⟨rfl,HX.out⟩
 have HB1:=zaa (HA0.out.trans hA);have HR1:=zaa ((rfl:zid (ts.drop j)=zid (ts.drop j)).trans (zac hr));have HS1:=zaa ((hA.kept.block _ (zal HT0.out) hrb).trans HT0.out);clear hA hr hE1;have c1_0:w1.cell? ⟨W.heap.size,0,none⟩=some (Value.string ⟨#[]⟩):=cell_of_row _ _ 0 _ _ _ HS1.out;have c1_1:w1.cell? ⟨W.heap.size,1,none⟩=some (Value.string ⟨#[]⟩):=cell_of_row _ _ 1 _ _ _ HS1.out;have c1_2:w1.cell? ⟨W.heap.size,2,none⟩=some (Value.string ⟨#[]⟩):=cell_of_row _ _ 2 _ _ _ HS1.out;have hl1:=(zal HS1.out);have f1_0:w1.frozen? ⟨W.heap.size,0,none⟩=false:=frozen_of_row _ _ 0 _ _ HS1.out;have f1_1:w1.frozen? ⟨W.heap.size,1,none⟩=false:=frozen_of_row _ _ 1 _ _ HS1.out;have f1_2:w1.frozen? ⟨W.heap.size,2,none⟩=false:=frozen_of_row _ _ 2 _ _ HS1.out;have HT1:Hid ((w1.setCell ⟨W.heap.size,0,none⟩ (.string ⟨a1.toArray⟩)).heap[W.heap.size]? =some (Obj.cells #[.string ⟨a1.toArray⟩,Value.string ⟨#[]⟩,Value.string ⟨#[]⟩] 130 (0,0))):=zaa (heap_setCell_same w1 W.heap.size 0 _ _ _ HS1.out);have HA1:=zaa (HB1.out.fresh hpb (p:=⟨W.heap.size,0,none⟩) hrb (Nat.le_refl _) (.string ⟨a1.toArray⟩));go_wp2_with fail;refine(zat pb j1 _ ts ⟨#[46]⟩ _ (zaa (H.out.to HA1.out)) hts hj1 (by decide) (by simp[go_sem])).mono ?_;rintro e w2 hE2;rcases hE2.split with⟨a2,j2,hr,hj2,hA,rfl⟩|⟨n,j2,hr,hj2,hA,rfl⟩
 rotate_left
 ·have HX:=zaa (zcd.mk_bad (conv:=zbY) (HR1.out.trans (zab hr)) hj2 (HA1.out.trans hA))
  clear hA hr hE2;go_wp2_with fail;exact⟨rfl,HX.out⟩
 have HB2:=zaa (HA1.out.trans hA);have HR2:=zaa (HR1.out.trans (zac hr));have HS2:=zaa ((hA.kept.block _ (zal HT1.out) hrb).trans HT1.out);clear hA hr hE2;have c2_0:w2.cell? ⟨W.heap.size,0,none⟩=some (.string ⟨a1.toArray⟩):=cell_of_row _ _ 0 _ _ _ HS2.out;have c2_1:w2.cell? ⟨W.heap.size,1,none⟩=some (Value.string ⟨#[]⟩):=cell_of_row _ _ 1 _ _ _ HS2.out;have c2_2:w2.cell? ⟨W.heap.size,2,none⟩=some (Value.string ⟨#[]⟩):=cell_of_row _ _ 2 _ _ _ HS2.out;have hl2:=(zal HS2.out);have f2_0:w2.frozen? ⟨W.heap.size,0,none⟩=false:=frozen_of_row _ _ 0 _ _ HS2.out;have f2_1:w2.frozen? ⟨W.heap.size,1,none⟩=false:=frozen_of_row _ _ 1 _ _ HS2.out;have f2_2:w2.frozen? ⟨W.heap.size,2,none⟩=false:=frozen_of_row _ _ 2 _ _ HS2.out;have HT2:=zaa HS2.out;have HA2:=zaa HB2.out;go_wp2_with fail;refine(zaU pb j2 ts _ (zaa (H.out.to HA2.out)) hts hj2).mono ?_;rintro e w3 hE3;rcases hE3.split with⟨a3,j3,hr,hj3,hA,rfl⟩|⟨n,j3,hr,hj3,hA,rfl⟩
 rotate_left
 ·have HX:=zaa (zcd.mk_bad (conv:=zbY) (HR2.out.trans (zab hr)) hj3 (HA2.out.trans hA))
  clear hA hr hE3;go_wp2_with fail;exact⟨rfl,HX.out⟩
 have HB3:=zaa (HA2.out.trans hA);have HR3:=zaa (HR2.out.trans (zac hr));have HS3:=zaa ((hA.kept.block _ (zal HT2.out) hrb).trans HT2.out);clear hA hr hE3;have c3_0:w3.cell? ⟨W.heap.size,0,none⟩=some (.string ⟨a1.toArray⟩):=cell_of_row _ _ 0 _ _ _ HS3.out;have c3_1:w3.cell? ⟨W.heap.size,1,none⟩=some (Value.string ⟨#[]⟩):=cell_of_row _ _ 1 _ _ _ HS3.out;have c3_2:w3.cell? ⟨W.heap.size,2,none⟩=some (Value.string ⟨#[]⟩):=cell_of_row _ _ 2 _ _ _ HS3.out;have hl3:=(zal HS3.out);have f3_0:w3.frozen? ⟨W.heap.size,0,none⟩=false:=frozen_of_row _ _ 0 _ _ HS3.out;have f3_1:w3.frozen? ⟨W.heap.size,1,none⟩=false:=frozen_of_row _ _ 1 _ _ HS3.out;have f3_2:w3.frozen? ⟨W.heap.size,2,none⟩=false:=frozen_of_row _ _ 2 _ _ HS3.out;have HT3:Hid ((w3.setCell ⟨W.heap.size,1,none⟩ (.string ⟨a3.toArray⟩)).heap[W.heap.size]? =some (Obj.cells #[.string ⟨a1.toArray⟩,.string ⟨a3.toArray⟩,Value.string ⟨#[]⟩] 130 (0,0))):=zaa (heap_setCell_same w3 W.heap.size 1 _ _ _ HS3.out);have HA3:=zaa (HB3.out.fresh hpb (p:=⟨W.heap.size,1,none⟩) hrb (Nat.le_refl _) (.string ⟨a3.toArray⟩));go_wp2_with fail;refine(zat pb j3 _ ts ⟨#[46]⟩ _ (zaa (H.out.to HA3.out)) hts hj3 (by decide) (by simp[go_sem])).mono ?_;rintro e w4 hE4;rcases hE4.split with⟨a4,j4,hr,hj4,hA,rfl⟩|⟨n,j4,hr,hj4,hA,rfl⟩
 rotate_left
 ·have HX:=zaa (zcd.mk_bad (conv:=zbY) (HR3.out.trans (zab hr)) hj4 (HA3.out.trans hA))
  clear hA hr hE4;go_wp2_with fail;exact⟨rfl,HX.out⟩
 have HB4:=zaa (HA3.out.trans hA);have HR4:=zaa (HR3.out.trans (zac hr));have HS4:=zaa ((hA.kept.block _ (zal HT3.out) hrb).trans HT3.out);clear hA hr hE4;have c4_0:w4.cell? ⟨W.heap.size,0,none⟩=some (.string ⟨a1.toArray⟩):=cell_of_row _ _ 0 _ _ _ HS4.out;have c4_1:w4.cell? ⟨W.heap.size,1,none⟩=some (.string ⟨a3.toArray⟩):=cell_of_row _ _ 1 _ _ _ HS4.out;have c4_2:w4.cell? ⟨W.heap.size,2,none⟩=some (Value.string ⟨#[]⟩):=cell_of_row _ _ 2 _ _ _ HS4.out;have hl4:=(zal HS4.out);have f4_0:w4.frozen? ⟨W.heap.size,0,none⟩=false:=frozen_of_row _ _ 0 _ _ HS4.out;have f4_1:w4.frozen? ⟨W.heap.size,1,none⟩=false:=frozen_of_row _ _ 1 _ _ HS4.out;have f4_2:w4.frozen? ⟨W.heap.size,2,none⟩=false:=frozen_of_row _ _ 2 _ _ HS4.out;have HT4:=zaa HS4.out;have HA4:=zaa HB4.out;go_wp2_with fail;refine(zaU pb j4 ts _ (zaa (H.out.to HA4.out)) hts hj4).mono ?_;rintro e w5 hE5;rcases hE5.split with⟨a5,j5,hr,hj5,hA,rfl⟩|⟨n,j5,hr,hj5,hA,rfl⟩
 rotate_left
 ·have HX:=zaa (zcd.mk_bad (conv:=zbY) (HR4.out.trans (zab hr)) hj5 (HA4.out.trans hA))
  clear hA hr hE5;go_wp2_with fail;exact⟨rfl,HX.out⟩
 have HB5:=zaa (HA4.out.trans hA);have HR5:=zaa (HR4.out.trans (zac hr));have HS5:=zaa ((hA.kept.block _ (zal HT4.out) hrb).trans HT4.out);clear hA hr hE5;have c5_0:w5.cell? ⟨W.heap.size,0,none⟩=some (.string ⟨a1.toArray⟩):=cell_of_row _ _ 0 _ _ _ HS5.out;have c5_1:w5.cell? ⟨W.heap.size,1,none⟩=some (.string ⟨a3.toArray⟩):=cell_of_row _ _ 1 _ _ _ HS5.out;have c5_2:w5.cell? ⟨W.heap.size,2,none⟩=some (Value.string ⟨#[]⟩):=cell_of_row _ _ 2 _ _ _ HS5.out;have hl5:=(zal HS5.out);have f5_0:w5.frozen? ⟨W.heap.size,0,none⟩=false:=frozen_of_row _ _ 0 _ _ HS5.out;have f5_1:w5.frozen? ⟨W.heap.size,1,none⟩=false:=frozen_of_row _ _ 1 _ _ HS5.out;have f5_2:w5.frozen? ⟨W.heap.size,2,none⟩=false:=frozen_of_row _ _ 2 _ _ HS5.out;have HT5:Hid ((w5.setCell ⟨W.heap.size,2,none⟩ (.string ⟨a5.toArray⟩)).heap[W.heap.size]? =some (Obj.cells #[.string ⟨a1.toArray⟩,.string ⟨a3.toArray⟩,.string ⟨a5.toArray⟩] 130 (0,0))):=zaa (heap_setCell_same w5 W.heap.size 2 _ _ _ HS5.out);have HA5:=zaa (HB5.out.fresh hpb (p:=⟨W.heap.size,2,none⟩) hrb (Nat.le_refl _) (.string ⟨a5.toArray⟩));go_wp2_with fail;refine bodyPost_ret (v:=(zbY) ⟨a1,a3,a5⟩) (by simp[results,Tryz.results95,go_sem,c5_0,c5_1,c5_2];rfl) rfl ?_;refine zcd.mk_ok (a:=⟨a1,a3,a5⟩) (HR5.out.trans rfl) hj5 ?_ rfl;exact(((HA5.out).fresh hpb hrb (Nat.le_refl _) _).fresh hpb hrb (Nat.le_refl _) _).fresh hpb hrb (Nat.le_refl _) _
theorem zj1 (pb j:Nat) (ts:List Tok) (W:World) (H:Hid (Cur pb ts j W)) (hts:ts.length≤1099511627776) (hj:j≤ts.length) (hg:Hid (zhA ts)):
 Calls prog 100 #[.pointer (some ⟨pb,0,none⟩)] W fun e W'=>zcd pb ts W zcD (zkh (ts.drop j)) e W':=by
 have hpb:=H.out.lt;have HA0:=zaa ((AtJ.start H.out.now H.out.free).below hpb ((Below.refl W.heap.size W).alloc (Nat.le_refl _) (Obj.cells #[Value.string ⟨#[]⟩,Value.int .i64 0] 79)));have HT0:Hid ((W.alloc (Obj.cells #[Value.string ⟨#[]⟩,Value.int .i64 0] 79)).heap[W.heap.size]? =some (Obj.cells #[Value.string ⟨#[]⟩,Value.int .i64 0] 79 (0,0))):=zaa (heap_alloc_new W _);have hrb:W.heap.size≠pb:=by omega
 go_enter func100,ntmps100
 go_wp2_with fail;refine(zaU pb j ts _ (zaa (H.out.to HA0.out)) hts hj).mono ?_;rintro e w1 hE1;rcases hE1.split with⟨a1,j1,hr,hj1,hA,rfl⟩|⟨n,j1,hr,hj1,hA,rfl⟩
 rotate_left
 ·have HX:=zaa (zcd.mk_bad (conv:=zcD) ((rfl:zkh (ts.drop j)=zkh (ts.drop j)).trans (zab hr)) hj1 (HA0.out.trans hA))
  clear hA hr hE1;go_wp2_with fail;exact⟨rfl,HX.out⟩
 have HB1:=zaa (HA0.out.trans hA);have HR1:=zaa ((rfl:zkh (ts.drop j)=zkh (ts.drop j)).trans (zac hr));have HS1:=zaa ((hA.kept.block _ (zal HT0.out) hrb).trans HT0.out);clear hA hr hE1;have c1_0:w1.cell? ⟨W.heap.size,0,none⟩=some (Value.string ⟨#[]⟩):=cell_of_row _ _ 0 _ _ _ HS1.out;have c1_1:w1.cell? ⟨W.heap.size,1,none⟩=some (Value.int .i64 0):=cell_of_row _ _ 1 _ _ _ HS1.out;have hl1:=(zal HS1.out);have f1_0:w1.frozen? ⟨W.heap.size,0,none⟩=false:=frozen_of_row _ _ 0 _ _ HS1.out;have f1_1:w1.frozen? ⟨W.heap.size,1,none⟩=false:=frozen_of_row _ _ 1 _ _ HS1.out;have HT1:Hid ((w1.setCell ⟨W.heap.size,0,none⟩ (.string ⟨a1.toArray⟩)).heap[W.heap.size]? =some (Obj.cells #[.string ⟨a1.toArray⟩,Value.int .i64 0] 79 (0,0))):=zaa (heap_setCell_same w1 W.heap.size 0 _ _ _ HS1.out);have HA1:=zaa (HB1.out.fresh hpb (p:=⟨W.heap.size,0,none⟩) hrb (Nat.le_refl _) (.string ⟨a1.toArray⟩));go_wp2_with fail;refine(zat pb j1 _ ts ⟨#[58]⟩ _ (zaa (H.out.to HA1.out)) hts hj1 (by decide) (by simp[go_sem])).mono ?_;rintro e w2 hE2;rcases hE2.split with⟨a2,j2,hr,hj2,hA,rfl⟩|⟨n,j2,hr,hj2,hA,rfl⟩
 rotate_left
 ·have HX:=zaa (zcd.mk_bad (conv:=zcD) (HR1.out.trans (zab hr)) hj2 (HA1.out.trans hA))
  clear hA hr hE2;go_wp2_with fail;exact⟨rfl,HX.out⟩
 have HB2:=zaa (HA1.out.trans hA);have HR2:=zaa (HR1.out.trans (zac hr));have HS2:=zaa ((hA.kept.block _ (zal HT1.out) hrb).trans HT1.out);clear hA hr hE2;have c2_0:w2.cell? ⟨W.heap.size,0,none⟩=some (.string ⟨a1.toArray⟩):=cell_of_row _ _ 0 _ _ _ HS2.out;have c2_1:w2.cell? ⟨W.heap.size,1,none⟩=some (Value.int .i64 0):=cell_of_row _ _ 1 _ _ _ HS2.out;have hl2:=(zal HS2.out);have f2_0:w2.frozen? ⟨W.heap.size,0,none⟩=false:=frozen_of_row _ _ 0 _ _ HS2.out;have f2_1:w2.frozen? ⟨W.heap.size,1,none⟩=false:=frozen_of_row _ _ 1 _ _ HS2.out;have HT2:=zaa HS2.out;have HA2:=zaa HB2.out;go_wp2_with fail;refine(zcx pb j2 ts _ (zaa (H.out.to HA2.out)) hts hj2 hg).mono ?_;rintro e w3 hE3;rcases hE3.split with⟨a3,j3,hr,hj3,hA,rfl⟩|⟨n,j3,hr,hj3,hA,rfl⟩
 rotate_left
 ·have HX:=zaa (zcd.mk_bad (conv:=zcD) (HR2.out.trans (zab hr)) hj3 (HA2.out.trans hA))
  clear hA hr hE3;go_wp2_with fail;exact⟨rfl,HX.out⟩
 have HB3:=zaa (HA2.out.trans hA);have HR3:=zaa (HR2.out.trans (zac hr));have HS3:=zaa ((hA.kept.block _ (zal HT2.out) hrb).trans HT2.out);clear hA hr hE3;have c3_0:w3.cell? ⟨W.heap.size,0,none⟩=some (.string ⟨a1.toArray⟩):=cell_of_row _ _ 0 _ _ _ HS3.out;have c3_1:w3.cell? ⟨W.heap.size,1,none⟩=some (Value.int .i64 0):=cell_of_row _ _ 1 _ _ _ HS3.out;have hl3:=(zal HS3.out);have f3_0:w3.frozen? ⟨W.heap.size,0,none⟩=false:=frozen_of_row _ _ 0 _ _ HS3.out;have f3_1:w3.frozen? ⟨W.heap.size,1,none⟩=false:=frozen_of_row _ _ 1 _ _ HS3.out;have HT3:Hid ((w3.setCell ⟨W.heap.size,1,none⟩ (.int .i64 a3)).heap[W.heap.size]? =some (Obj.cells #[.string ⟨a1.toArray⟩,.int .i64 a3] 79 (0,0))):=zaa (heap_setCell_same w3 W.heap.size 1 _ _ _ HS3.out);have HA3:=zaa (HB3.out.fresh hpb (p:=⟨W.heap.size,1,none⟩) hrb (Nat.le_refl _) (.int .i64 a3));go_wp2_with fail;refine bodyPost_ret (v:=(zcD) ⟨a1,a3⟩) (by simp[results,Tryz.results100,go_sem,c3_0,c3_1];rfl) rfl ?_;refine zcd.mk_ok (a:=⟨a1,a3⟩) (HR3.out.trans rfl) hj3 ?_ rfl;exact((HA3.out).fresh hpb hrb (Nat.le_refl _) _).fresh hpb hrb (Nat.le_refl _) _
def zcc {α:Type} (pb:Nat) (ts:List Tok) (W:World) (T:TypeId) (size:Nat) (cells:α→List Value) (res:Res (List α)) (e:Ending) (W':World):Prop:=
 ∃j,j≤ts.length∧AtJ pb j W W'∧match res with
  | .ok l r=>r=ts.drop j∧ ∃v,e= .returned v∧W'.ownsRow W.heap.size T size v l.length (l.flatMap cells)
  | .bad n r=>r=ts.drop j∧e= .panicked [{v:= .iface 122 (.agg #[.int .i64 (n:Int)]),recovered:=false}]
theorem zcc.mk_bad {α:Type} {pb j n:Nat} {ts:List Tok} {W W':World} {T:TypeId} {size:Nat} {cells:α→List Value} {res:Res (List α)} (h:res= .bad n (ts.drop j)) (hj:j≤ts.length) (hA:AtJ pb j W W'):zcc pb ts W T size cells res (.panicked [{v:= .iface 122 (.agg #[.int .i64 (n:Int)]),recovered:=false}]) W':=by
 subst h;exact⟨j,hj,hA,rfl,rfl⟩
theorem zcc.mk_ok {α:Type} {pb j:Nat} {ts:List Tok} {W W':World} {T:TypeId} {size:Nat} {cells:α→List Value} {res:Res (List α)} {l:List α} {v:Value} {e:Ending} (h:res= .ok l (ts.drop j)) (hj:j≤ts.length) (hA:AtJ pb j W W') (he:e= .returned v) (ho:W'.ownsRow W.heap.size T size v l.length (l.flatMap cells)):zcc pb ts W T size cells res e W':=by
 subst h;exact⟨j,hj,hA,rfl,v,he,ho⟩
theorem zem {α:Type} {x:Ps α} {r r':List Tok} {n:Nat} (h:x r= .bad n r'):zde x r= .bad n r':=zab h
theorem zfp {α:Type} {x:Ps α} {r r':List Tok} {a:α} (h:x r= .ok a r'):zde x r=zc8 x (r'.length+1) [a] r':=zac h
theorem zev {α:Type} {x:Ps α} {f:Nat} {acc:List α} {r r':List Tok} (h:zbf [44] r= .ok false r'):zc8 x (f+1) acc r= .ok acc r':=zac h
theorem zft {α:Type} {x:Ps α} {f:Nat} {acc:List α} {r r' r'':List Tok} {a:α} (h:zbf [44] r= .ok true r') (h2:x r'= .ok a r''):zc8 x (f+1) acc r=zc8 x f (acc++[a]) r'':=
 (zac h).trans (zac h2)
theorem zek {α:Type} {x:Ps α} {f n:Nat} {acc:List α} {r r' r'':List Tok} (h:zbf [44] r= .ok true r') (h2:x r'= .bad n r''):zc8 x (f+1) acc r= .bad n r'':=
 (zac h).trans (zab h2)
theorem AtJ.belowW {sb j:Nat} {a b c:World} (h:AtJ sb j a b) (hsb:sb<a.heap.size) (k:Below a.heap.size b c):AtJ sb j a c:=
 ⟨⟨k.os.trans h.kept.os,k.tape.trans h.kept.tape,k.output.trans h.kept.output,Nat.le_trans h.kept.size k.size,fun i hi hf=>(k.block i hi).trans (h.kept.block i hi hf)⟩,
   (k.cell (p:=⟨sb,1,none⟩) hsb).trans h.here,fun o ho=>(k.cell (p:=⟨sb,o,none⟩) hsb).trans (h.rest o ho),(World.frozen?_of_block (w:=b) (a:=⟨sb,1,none⟩) (k.block sb hsb)).trans h.free,fun o=>(World.frozen?_of_block (w:=b) (a:=⟨sb,o,none⟩) (k.block sb hsb)).trans (h.hold o)⟩
theorem LTj {α:Type} {x:Ps α} {ts:List Tok} {j k:Nat} {a:α} (h:x (ts.drop j)= .ok a (ts.drop k)) (hx:LT x) (hk:k≤ts.length):j+1≤k:=by
 have:=hx _ _ _ h;simp only[List.length_drop] at this
 omega
theorem zbh (s:List UInt8) (r:List Tok) {n:Nat} {r':List Tok}:zbf s r≠ .bad n r':=by
 unfold zbf
 split<;>exact fun h=>by cases h
theorem zdm {s:List UInt8} {ts:List Tok} {j k:Nat} (h:zbf s (ts.drop j)= .ok true (ts.drop k)) (hk:k≤ts.length):j+1≤k:=by
 unfold zbf at h
 split at h
 ·rename_i hs
  injection h with _ h
  have hl:=congrArg List.length h;simp only[List.length_tail,List.length_drop] at hl;rcases Nat.lt_or_ge j ts.length with h'|h'
  ·omega
  ·rw[List.drop_eq_nil_of_le h'] at hs
   simp[zaA,hdT] at hs
 ·injection h with h _
  cases h
attribute [local go_sem] zbY zcD
theorem zfj:(prog.info? 9).map (fun i=>(i.zero,i.size,i.bytes))=some (some (.string ⟨#[]⟩),1,16):=by kernel_rfl
theorem ziv (pb j:Nat) (ts:List Tok) (W:World) (H:Hid (Cur pb ts j W)) (hts:ts.length≤1099511627776) (hj:j≤ts.length):
 Calls prog 101 #[.pointer (some ⟨pb,0,none⟩),.func (.func 91) #[.pointer (some ⟨pb,0,none⟩)] #[]] W fun e W'=>zcc pb ts W 9 1 (fun s:List UInt8=>[Value.string ⟨s.toArray⟩]) (zde zcb (ts.drop j)) e W':=by
 have hpb:=H.out.lt;obtain⟨i0,hi0,hz0,hz1,hz2⟩:=info_parts zfj;have HN:=zaa (fun j' W (H:Hid (Cur pb ts j' W)) hj'=>zaU pb j' ts W H hts hj');have HT:=zaa (fun j' W (H:Hid (Cur pb ts j' W)) hj'=>za6 pb j' ts ⟨#[44]⟩ W H hts hj' (by decide));have HA0:=zaa (AtJ.start H.out.now H.out.free)
 go_enter func101,ntmps101
 have HC:=HN.out j W H hj;go_wp2_with fail;refine HC.mono ?_;rintro e w1 hE1;rcases hE1.split with⟨a1,j1,hr,hj1,hA,rfl⟩|⟨n,j1,hr,hj1,hA,rfl⟩
 rotate_left
 ·have HX:=zaa (zcc.mk_bad (T:=9) (size:=1) (cells:=(fun s:List UInt8=>[Value.string ⟨s.toArray⟩])) (zem hr) hj1 (HA0.out.trans hA))
  clear hA hr hE1;go_wp2_with fail;exact⟨rfl,HX.out⟩
 have HA1:=zaa (HA0.out.trans hA);have HR1:=zaa (zfp hr);have hr0:=zaa hr;clear hA hr hE1;have hO0:=World.ownsRow_nil w1 W.heap.size 9 1;go_wp2_with(first
  |(at_builtin;refine wpList_append_own _ rfl _ _ 70 rfl W.heap.size 9 i0 (.string ⟨#[]⟩) 1 16 underlying70 hi0 hz0 hz1 hz2 rfl (by decide) _ _ _ rfl (hO0.alloc _) ⟨w1.heap.size,0,none⟩ 1 1 [.string ⟨a1.toArray⟩] rfl rfl (zbB (by simp)) (by simp[Value.oneCell']) (by unfold maxLen;omega) (by omega) (by simp;exact Nat.le_succ_of_le HA1.out.kept.size) ?_;intro v' w2 hown' hgrow _))
 have hG0:Below W.heap.size w1 w2:=Below.grown ((Below.refl _ w1).alloc HA1.out.kept.size _) hgrow (by simp;exact Nat.le_succ_of_le HA1.out.kept.size) (fun g hg=>by cases hg);have HA2:=zaa (HA1.out.belowW hpb hG0);have HO2:=zaa hown';have hj1':j+1≤j1:=LTj hr0.out zbC hj1;clear hG0 hown' hgrow hO0
 go_loopw [4] (fun v4 wr=> ∃(acc:List (List UInt8)) (k f:Nat),k≤ts.length∧ts.length-k<f∧acc.length≤k∧AtJ pb k W wr∧zde zcb (ts.drop j)=zc8 zcb f acc (ts.drop k)∧wr.ownsRow W.heap.size 9 1 v4 acc.length (acc.flatMap (fun s:List UInt8=>[Value.string ⟨s.toArray⟩]))) (fun _ wr=>ts.length-zbL pb wr)
 case atStart=>exact⟨[a1],j1,_,hj1,by simp,by simp;omega,HA2.out,HR1.out,HO2.out⟩
 case round=>
  obtain⟨acc,k,f,hk,hf,hal,hA,hR,hO⟩:=hrel;have HA:=zaa hA;have HR:=zaa hR;have HO:=zaa hO;clear hA hR hO HA2 HO2 HR1 HA1 HA0;obtain⟨f,rfl⟩: ∃f',f=f'+1:=⟨f-1,by omega⟩;have HM:Hid (zbL pb wr=k):=zaa (by unfold zbL;rw[HA.out.here];simp[intOf]);have HC:=HT.out k wr (zaa (H.out.to HA.out)) hk;go_wp2_with fail;refine HC.mono ?_;rintro e w3 hE3;rcases hE3.split with⟨b,k3,hr3,hk3,hA,rfl⟩|⟨n,k3,hr3,hk3,hA,rfl⟩
  rotate_left
  ·exact absurd hr3 (zbh _ _)
  have HA3:=zaa (HA.out.trans hA);have HO3:=zaa (zai HO.out (fun g hg hb=>hA.kept.block g (zaj HO.out hg).2 (by omega)));have HR3:=zaa hr3;clear hA hr3 hE3
  cases b with
  |false=>
   have HX:=zaa (zcc.mk_ok (v:=u4) (HR.out.trans (zev HR3.out)) hk3 HA3.out rfl HO3.out);go_wp2_with fail;go_ret;exact HX.out
  |true=>
   have HC:=HN.out k3 w3 (zaa (H.out.to HA3.out)) hk3;have hk34:k+1≤k3:=zdm HR3.out hk3;go_wp2_with fail;refine HC.mono ?_;rintro e w4 hE4;rcases hE4.split with⟨a4,k4,hr4,hk4,hA,rfl⟩|⟨n,k4,hr4,hk4,hA,rfl⟩
   rotate_left
   ·have HX:=zaa (zcc.mk_bad (T:=9) (size:=1) (cells:=(fun s:List UInt8=>[Value.string ⟨s.toArray⟩])) (HR.out.trans (zek HR3.out hr4)) hk4 (HA3.out.trans hA))
    clear hA hr4 hE4;go_wp2_with fail;exact⟨rfl,HX.out⟩
   have hk45:k3+1≤k4:=LTj hr4 zbC hk4;have HA4:=zaa (HA3.out.trans hA);have HO4:=zaa (zai HO3.out (fun g hg hb=>hA.kept.block g (zaj HO3.out hg).2 (by omega)));have HR4:=zaa (HR.out.trans (zft HR3.out hr4));clear hA hr4 hE4;go_wp2_with(first
    |(at_builtin;refine wpList_append_own _ rfl _ _ 70 rfl W.heap.size 9 i0 (.string ⟨#[]⟩) 1 16 underlying70 hi0 hz0 hz1 hz2 rfl (by decide) _ _ _ rfl (HO4.out.alloc _) ⟨w4.heap.size,0,none⟩ 1 1 [.string ⟨a4.toArray⟩] rfl rfl (zbB (by simp)) (by simp[Value.oneCell']) (by unfold maxLen;omega) (by omega) (by simp;exact Nat.le_succ_of_le HA4.out.kept.size) ?_;intro v' w5 hown' hgrow _))
   have hG0:Below W.heap.size w4 w5:=Below.grown ((Below.refl _ w4).alloc HA4.out.kept.size _) hgrow (by simp;exact Nat.le_succ_of_le HA4.out.kept.size) (fun g hg=>(zaj HO4.out hg).1);have HA5:=zaa (HA4.out.belowW hpb hG0);have HO5:=zaa hown';have HM5:Hid (zbL pb w5=k4):=zaa (by unfold zbL;rw[HA5.out.here];simp[intOf]);clear hG0 hown' hgrow
   try go_wp2_with fail
   go_roundw
   case rel=>exact⟨acc++[a4],k4,f,hk4,by omega,by simp;omega,HA5.out,HR4.out,by simpa using HO5.out⟩
   case measure=>have:=HM.out;have:=HM5.out;omega
theorem zfc:(prog.info? 3).map (fun i=>(i.zero,i.size,i.bytes))=some (some (.int .i64 0),1,8):=by kernel_rfl
theorem zfQ (pb j:Nat) (ts:List Tok) (W:World) (H:Hid (Cur pb ts j W)) (hts:ts.length≤1099511627776) (hj:j≤ts.length) (hg:Hid (zhA ts)):
 Calls prog 158 #[.pointer (some ⟨pb,0,none⟩),.func (.func 81) #[.pointer (some ⟨pb,0,none⟩)] #[]] W fun e W'=>zcc pb ts W 3 1 (fun n:Int=>[Value.int .i64 n]) (zde zfe (ts.drop j)) e W':=by
 have hpb:=H.out.lt;obtain⟨i0,hi0,hz0,hz1,hz2⟩:=info_parts zfc;have HN:=zaa (fun j' W (H:Hid (Cur pb ts j' W)) hj'=>zcx pb j' ts W H hts hj' hg);have HT:=zaa (fun j' W (H:Hid (Cur pb ts j' W)) hj'=>za6 pb j' ts ⟨#[44]⟩ W H hts hj' (by decide));have HA0:=zaa (AtJ.start H.out.now H.out.free)
 go_enter func158,ntmps158
 have HC:=HN.out j W H hj;go_wp2_with fail;refine HC.mono ?_;rintro e w1 hE1;rcases hE1.split with⟨a1,j1,hr,hj1,hA,rfl⟩|⟨n,j1,hr,hj1,hA,rfl⟩
 rotate_left
 ·have HX:=zaa (zcc.mk_bad (T:=3) (size:=1) (cells:=(fun n:Int=>[Value.int .i64 n])) (zem hr) hj1 (HA0.out.trans hA))
  clear hA hr hE1;go_wp2_with fail;exact⟨rfl,HX.out⟩
 have HA1:=zaa (HA0.out.trans hA);have HR1:=zaa (zfp hr);have hr0:=zaa hr;clear hA hr hE1;have hO0:=World.ownsRow_nil w1 W.heap.size 3 1;go_wp2_with(first
  |(at_builtin;refine wpList_append_own _ rfl _ _ 47 rfl W.heap.size 3 i0 (.int .i64 0) 1 8 underlying47 hi0 hz0 hz1 hz2 rfl (by decide) _ _ _ rfl (hO0.alloc _) ⟨w1.heap.size,0,none⟩ 1 1 [.int .i64 a1] rfl rfl (zbB (by simp)) (by simp[Value.oneCell']) (by unfold maxLen;omega) (by omega) (by simp;exact Nat.le_succ_of_le HA1.out.kept.size) ?_;intro v' w2 hown' hgrow _))
 have hG0:Below W.heap.size w1 w2:=Below.grown ((Below.refl _ w1).alloc HA1.out.kept.size _) hgrow (by simp;exact Nat.le_succ_of_le HA1.out.kept.size) (fun g hg=>by cases hg);have HA2:=zaa (HA1.out.belowW hpb hG0);have HO2:=zaa hown';have hj1':j+1≤j1:=LTj hr0.out zcB hj1;clear hG0 hown' hgrow hO0
 go_loopw [4] (fun v4 wr=> ∃(acc:List Int) (k f:Nat),k≤ts.length∧ts.length-k<f∧acc.length≤k∧AtJ pb k W wr∧zde zfe (ts.drop j)=zc8 zfe f acc (ts.drop k)∧wr.ownsRow W.heap.size 3 1 v4 acc.length (acc.flatMap (fun n:Int=>[Value.int .i64 n]))) (fun _ wr=>ts.length-zbL pb wr)
 case atStart=>exact⟨[a1],j1,_,hj1,by simp,by simp;omega,HA2.out,HR1.out,HO2.out⟩
 case round=>
  obtain⟨acc,k,f,hk,hf,hal,hA,hR,hO⟩:=hrel;have HA:=zaa hA;have HR:=zaa hR;have HO:=zaa hO;clear hA hR hO HA2 HO2 HR1 HA1 HA0;obtain⟨f,rfl⟩: ∃f',f=f'+1:=⟨f-1,by omega⟩;have HM:Hid (zbL pb wr=k):=zaa (by unfold zbL;rw[HA.out.here];simp[intOf]);have HC:=HT.out k wr (zaa (H.out.to HA.out)) hk;go_wp2_with fail;refine HC.mono ?_;rintro e w3 hE3;rcases hE3.split with⟨b,k3,hr3,hk3,hA,rfl⟩|⟨n,k3,hr3,hk3,hA,rfl⟩
  rotate_left
  ·exact absurd hr3 (zbh _ _)
  have HA3:=zaa (HA.out.trans hA);have HO3:=zaa (zai HO.out (fun g hg hb=>hA.kept.block g (zaj HO.out hg).2 (by omega)));have HR3:=zaa hr3;clear hA hr3 hE3
  cases b with
  |false=>
   have HX:=zaa (zcc.mk_ok (v:=u4) (HR.out.trans (zev HR3.out)) hk3 HA3.out rfl HO3.out);go_wp2_with fail;go_ret;exact HX.out
  |true=>
   have HC:=HN.out k3 w3 (zaa (H.out.to HA3.out)) hk3;have hk34:k+1≤k3:=zdm HR3.out hk3;go_wp2_with fail;refine HC.mono ?_;rintro e w4 hE4;rcases hE4.split with⟨a4,k4,hr4,hk4,hA,rfl⟩|⟨n,k4,hr4,hk4,hA,rfl⟩
   rotate_left
   ·have HX:=zaa (zcc.mk_bad (T:=3) (size:=1) (cells:=(fun n:Int=>[Value.int .i64 n])) (HR.out.trans (zek HR3.out hr4)) hk4 (HA3.out.trans hA))
    clear hA hr4 hE4;go_wp2_with fail;exact⟨rfl,HX.out⟩
   have hk45:k3+1≤k4:=LTj hr4 zcB hk4;have HA4:=zaa (HA3.out.trans hA);have HO4:=zaa (zai HO3.out (fun g hg hb=>hA.kept.block g (zaj HO3.out hg).2 (by omega)));have HR4:=zaa (HR.out.trans (zft HR3.out hr4));clear hA hr4 hE4;go_wp2_with(first
    |(at_builtin;refine wpList_append_own _ rfl _ _ 47 rfl W.heap.size 3 i0 (.int .i64 0) 1 8 underlying47 hi0 hz0 hz1 hz2 rfl (by decide) _ _ _ rfl (HO4.out.alloc _) ⟨w4.heap.size,0,none⟩ 1 1 [.int .i64 a4] rfl rfl (zbB (by simp)) (by simp[Value.oneCell']) (by unfold maxLen;omega) (by omega) (by simp;exact Nat.le_succ_of_le HA4.out.kept.size) ?_;intro v' w5 hown' hgrow _))
   have hG0:Below W.heap.size w4 w5:=Below.grown ((Below.refl _ w4).alloc HA4.out.kept.size _) hgrow (by simp;exact Nat.le_succ_of_le HA4.out.kept.size) (fun g hg=>(zaj HO4.out hg).1);have HA5:=zaa (HA4.out.belowW hpb hG0);have HO5:=zaa hown';have HM5:Hid (zbL pb w5=k4):=zaa (by unfold zbL;rw[HA5.out.here];simp[intOf]);clear hG0 hown' hgrow
   try go_wp2_with fail
   go_roundw
   case rel=>exact⟨acc++[a4],k4,f,hk4,by omega,by simp;omega,HA5.out,HR4.out,by simpa using HO5.out⟩
   case measure=>have:=HM.out;have:=HM5.out;omega
theorem zfi:(prog.info? 130).map (fun i=>(i.zero,i.size,i.bytes))=some (some (.agg #[.string ⟨#[]⟩,.string ⟨#[]⟩,.string ⟨#[]⟩]),3,48):=by kernel_rfl
theorem zfU (pb j:Nat) (ts:List Tok) (W:World) (H:Hid (Cur pb ts j W)) (hts:ts.length≤1099511627776) (hj:j≤ts.length):
 Calls prog 96 #[.pointer (some ⟨pb,0,none⟩),.func (.func 95) #[.pointer (some ⟨pb,0,none⟩)] #[]] W fun e W'=>zcc pb ts W 130 3 (fun r:zeJ=>[Value.string ⟨r.m.toArray⟩,Value.string ⟨r.p.toArray⟩,Value.string ⟨r.o.toArray⟩]) (zde zid (ts.drop j)) e W':=by
 have hpb:=H.out.lt;obtain⟨i0,hi0,hz0,hz1,hz2⟩:=info_parts zfi;have HN:=zaa (fun j' W (H:Hid (Cur pb ts j' W)) hj'=>zh9 pb j' ts W H hts hj');have HT:=zaa (fun j' W (H:Hid (Cur pb ts j' W)) hj'=>za6 pb j' ts ⟨#[44]⟩ W H hts hj' (by decide));have HA0:=zaa (AtJ.start H.out.now H.out.free)
 go_enter func96,ntmps96
 have HC:=HN.out j W H hj;go_wp2_with fail;refine HC.mono ?_;rintro e w1 hE1;rcases hE1.split with⟨a1,j1,hr,hj1,hA,rfl⟩|⟨n,j1,hr,hj1,hA,rfl⟩
 rotate_left
 ·have HX:=zaa (zcc.mk_bad (T:=130) (size:=3) (cells:=(fun r:zeJ=>[Value.string ⟨r.m.toArray⟩,Value.string ⟨r.p.toArray⟩,Value.string ⟨r.o.toArray⟩])) (zem hr) hj1 (HA0.out.trans hA))
  clear hA hr hE1;go_wp2_with fail;exact⟨rfl,HX.out⟩
 have HA1:=zaa (HA0.out.trans hA);have HR1:=zaa (zfp hr);have hr0:=zaa hr;clear hA hr hE1;have hO0:=World.ownsRow_nil w1 W.heap.size 130 3;go_wp2_with(first
  |(at_builtin;refine wpList_append_own _ rfl _ _ 131 rfl W.heap.size 130 i0 (.agg #[.string ⟨#[]⟩,.string ⟨#[]⟩,.string ⟨#[]⟩]) 3 48 underlying131 hi0 hz0 hz1 hz2 rfl (by decide) _ _ _ rfl (hO0.alloc _) ⟨w1.heap.size,0,none⟩ 1 1 [.string ⟨a1.m.toArray⟩,.string ⟨a1.p.toArray⟩,.string ⟨a1.o.toArray⟩] rfl rfl (zbB (by simp)) (by simp[Value.oneCell']) (by unfold maxLen;omega) (by omega) (by simp;exact Nat.le_succ_of_le HA1.out.kept.size) ?_;intro v' w2 hown' hgrow _))
 have hG0:Below W.heap.size w1 w2:=Below.grown ((Below.refl _ w1).alloc HA1.out.kept.size _) hgrow (by simp;exact Nat.le_succ_of_le HA1.out.kept.size) (fun g hg=>by cases hg);have HA2:=zaa (HA1.out.belowW hpb hG0);have HO2:=zaa hown';have hj1':j+1≤j1:=LTj hr0.out zeX hj1;clear hG0 hown' hgrow hO0
 go_loopw [4] (fun v4 wr=> ∃(acc:List zeJ) (k f:Nat),k≤ts.length∧ts.length-k<f∧acc.length≤k∧AtJ pb k W wr∧zde zid (ts.drop j)=zc8 zid f acc (ts.drop k)∧wr.ownsRow W.heap.size 130 3 v4 acc.length (acc.flatMap (fun r:zeJ=>[Value.string ⟨r.m.toArray⟩,Value.string ⟨r.p.toArray⟩,Value.string ⟨r.o.toArray⟩]))) (fun _ wr=>ts.length-zbL pb wr)
 case atStart=>exact⟨[a1],j1,_,hj1,by simp,by simp;omega,HA2.out,HR1.out,HO2.out⟩
 case round=>
  obtain⟨acc,k,f,hk,hf,hal,hA,hR,hO⟩:=hrel;have HA:=zaa hA;have HR:=zaa hR;have HO:=zaa hO;clear hA hR hO HA2 HO2 HR1 HA1 HA0;obtain⟨f,rfl⟩: ∃f',f=f'+1:=⟨f-1,by omega⟩;have HM:Hid (zbL pb wr=k):=zaa (by unfold zbL;rw[HA.out.here];simp[intOf]);have HC:=HT.out k wr (zaa (H.out.to HA.out)) hk;go_wp2_with fail;refine HC.mono ?_;rintro e w3 hE3;rcases hE3.split with⟨b,k3,hr3,hk3,hA,rfl⟩|⟨n,k3,hr3,hk3,hA,rfl⟩
  rotate_left
  ·exact absurd hr3 (zbh _ _)
  have HA3:=zaa (HA.out.trans hA);have HO3:=zaa (zai HO.out (fun g hg hb=>hA.kept.block g (zaj HO.out hg).2 (by omega)));have HR3:=zaa hr3;clear hA hr3 hE3
  cases b with
  |false=>
   have HX:=zaa (zcc.mk_ok (v:=u4) (HR.out.trans (zev HR3.out)) hk3 HA3.out rfl HO3.out);go_wp2_with fail;go_ret;exact HX.out
  |true=>
   have HC:=HN.out k3 w3 (zaa (H.out.to HA3.out)) hk3;have hk34:k+1≤k3:=zdm HR3.out hk3;go_wp2_with fail;refine HC.mono ?_;rintro e w4 hE4;rcases hE4.split with⟨a4,k4,hr4,hk4,hA,rfl⟩|⟨n,k4,hr4,hk4,hA,rfl⟩
   rotate_left
   ·have HX:=zaa (zcc.mk_bad (T:=130) (size:=3) (cells:=(fun r:zeJ=>[Value.string ⟨r.m.toArray⟩,Value.string ⟨r.p.toArray⟩,Value.string ⟨r.o.toArray⟩])) (HR.out.trans (zek HR3.out hr4)) hk4 (HA3.out.trans hA))
    clear hA hr4 hE4;go_wp2_with fail;exact⟨rfl,HX.out⟩
   have hk45:k3+1≤k4:=LTj hr4 zeX hk4;have HA4:=zaa (HA3.out.trans hA);have HO4:=zaa (zai HO3.out (fun g hg hb=>hA.kept.block g (zaj HO3.out hg).2 (by omega)));have HR4:=zaa (HR.out.trans (zft HR3.out hr4));clear hA hr4 hE4;go_wp2_with(first
    |(at_builtin;refine wpList_append_own _ rfl _ _ 131 rfl W.heap.size 130 i0 (.agg #[.string ⟨#[]⟩,.string ⟨#[]⟩,.string ⟨#[]⟩]) 3 48 underlying131 hi0 hz0 hz1 hz2 rfl (by decide) _ _ _ rfl (HO4.out.alloc _) ⟨w4.heap.size,0,none⟩ 1 1 [.string ⟨a4.m.toArray⟩,.string ⟨a4.p.toArray⟩,.string ⟨a4.o.toArray⟩] rfl rfl (zbB (by simp)) (by simp[Value.oneCell']) (by unfold maxLen;omega) (by omega) (by simp;exact Nat.le_succ_of_le HA4.out.kept.size) ?_;intro v' w5 hown' hgrow _))
   have hG0:Below W.heap.size w4 w5:=Below.grown ((Below.refl _ w4).alloc HA4.out.kept.size _) hgrow (by simp;exact Nat.le_succ_of_le HA4.out.kept.size) (fun g hg=>(zaj HO4.out hg).1);have HA5:=zaa (HA4.out.belowW hpb hG0);have HO5:=zaa hown';have HM5:Hid (zbL pb w5=k4):=zaa (by unfold zbL;rw[HA5.out.here];simp[intOf]);clear hG0 hown' hgrow
   try go_wp2_with fail
   go_roundw
   case rel=>exact⟨acc++[a4],k4,f,hk4,by omega,by simp;omega,HA5.out,HR4.out,by simpa using HO5.out⟩
   case measure=>have:=HM.out;have:=HM5.out;omega
theorem zff:(prog.info? 79).map (fun i=>(i.zero,i.size,i.bytes))=some (some (.agg #[.string ⟨#[]⟩,.int .i64 0]),2,24):=by kernel_rfl
theorem zhX (pb j:Nat) (ts:List Tok) (W:World) (H:Hid (Cur pb ts j W)) (hts:ts.length≤1099511627776) (hj:j≤ts.length) (hg:Hid (zhA ts)):
 Calls prog 99 #[.pointer (some ⟨pb,0,none⟩),.func (.func 100) #[.pointer (some ⟨pb,0,none⟩)] #[]] W fun e W'=>zcc pb ts W 79 2 (fun r:zf2=>[Value.string ⟨r.unit.toArray⟩,Value.int .i64 r.code]) (zde zkh (ts.drop j)) e W':=by
 have hpb:=H.out.lt;obtain⟨i0,hi0,hz0,hz1,hz2⟩:=info_parts zff;have HN:=zaa (fun j' W (H:Hid (Cur pb ts j' W)) hj'=>zj1 pb j' ts W H hts hj' hg);have HT:=zaa (fun j' W (H:Hid (Cur pb ts j' W)) hj'=>za6 pb j' ts ⟨#[44]⟩ W H hts hj' (by decide));have HA0:=zaa (AtJ.start H.out.now H.out.free)
 go_enter func99,ntmps99
 have HC:=HN.out j W H hj;go_wp2_with fail;refine HC.mono ?_;rintro e w1 hE1;rcases hE1.split with⟨a1,j1,hr,hj1,hA,rfl⟩|⟨n,j1,hr,hj1,hA,rfl⟩
 rotate_left
 ·have HX:=zaa (zcc.mk_bad (T:=79) (size:=2) (cells:=(fun r:zf2=>[Value.string ⟨r.unit.toArray⟩,Value.int .i64 r.code])) (zem hr) hj1 (HA0.out.trans hA))
  clear hA hr hE1;go_wp2_with fail;exact⟨rfl,HX.out⟩
 have HA1:=zaa (HA0.out.trans hA);have HR1:=zaa (zfp hr);have hr0:=zaa hr;clear hA hr hE1;have hO0:=World.ownsRow_nil w1 W.heap.size 79 2;go_wp2_with(first
  |(at_builtin;refine wpList_append_own _ rfl _ _ 80 rfl W.heap.size 79 i0 (.agg #[.string ⟨#[]⟩,.int .i64 0]) 2 24 underlying80 hi0 hz0 hz1 hz2 rfl (by decide) _ _ _ rfl (hO0.alloc _) ⟨w1.heap.size,0,none⟩ 1 1 [.string ⟨a1.unit.toArray⟩,.int .i64 a1.code] rfl rfl (zbB (by simp)) (by simp[Value.oneCell']) (by unfold maxLen;omega) (by omega) (by simp;exact Nat.le_succ_of_le HA1.out.kept.size) ?_;intro v' w2 hown' hgrow _))
 have hG0:Below W.heap.size w1 w2:=Below.grown ((Below.refl _ w1).alloc HA1.out.kept.size _) hgrow (by simp;exact Nat.le_succ_of_le HA1.out.kept.size) (fun g hg=>by cases hg);have HA2:=zaa (HA1.out.belowW hpb hG0);have HO2:=zaa hown';have hj1':j+1≤j1:=LTj hr0.out zlQ hj1;clear hG0 hown' hgrow hO0
 go_loopw [4] (fun v4 wr=> ∃(acc:List zf2) (k f:Nat),k≤ts.length∧ts.length-k<f∧acc.length≤k∧AtJ pb k W wr∧zde zkh (ts.drop j)=zc8 zkh f acc (ts.drop k)∧wr.ownsRow W.heap.size 79 2 v4 acc.length (acc.flatMap (fun r:zf2=>[Value.string ⟨r.unit.toArray⟩,Value.int .i64 r.code]))) (fun _ wr=>ts.length-zbL pb wr)
 case atStart=>exact⟨[a1],j1,_,hj1,by simp,by simp;omega,HA2.out,HR1.out,HO2.out⟩
 case round=>
  obtain⟨acc,k,f,hk,hf,hal,hA,hR,hO⟩:=hrel;have HA:=zaa hA;have HR:=zaa hR;have HO:=zaa hO;clear hA hR hO HA2 HO2 HR1 HA1 HA0;obtain⟨f,rfl⟩: ∃f',f=f'+1:=⟨f-1,by omega⟩;have HM:Hid (zbL pb wr=k):=zaa (by unfold zbL;rw[HA.out.here];simp[intOf]);have HC:=HT.out k wr (zaa (H.out.to HA.out)) hk;go_wp2_with fail;refine HC.mono ?_;rintro e w3 hE3;rcases hE3.split with⟨b,k3,hr3,hk3,hA,rfl⟩|⟨n,k3,hr3,hk3,hA,rfl⟩
  rotate_left
  ·exact absurd hr3 (zbh _ _)
  have HA3:=zaa (HA.out.trans hA);have HO3:=zaa (zai HO.out (fun g hg hb=>hA.kept.block g (zaj HO.out hg).2 (by omega)));have HR3:=zaa hr3;clear hA hr3 hE3
  cases b with
  |false=>
   have HX:=zaa (zcc.mk_ok (v:=u4) (HR.out.trans (zev HR3.out)) hk3 HA3.out rfl HO3.out);go_wp2_with fail;go_ret;exact HX.out
  |true=>
   have HC:=HN.out k3 w3 (zaa (H.out.to HA3.out)) hk3;have hk34:k+1≤k3:=zdm HR3.out hk3;go_wp2_with fail;refine HC.mono ?_;rintro e w4 hE4;rcases hE4.split with⟨a4,k4,hr4,hk4,hA,rfl⟩|⟨n,k4,hr4,hk4,hA,rfl⟩
   rotate_left
   ·have HX:=zaa (zcc.mk_bad (T:=79) (size:=2) (cells:=(fun r:zf2=>[Value.string ⟨r.unit.toArray⟩,Value.int .i64 r.code])) (HR.out.trans (zek HR3.out hr4)) hk4 (HA3.out.trans hA))
    clear hA hr4 hE4;go_wp2_with fail;exact⟨rfl,HX.out⟩
   have hk45:k3+1≤k4:=LTj hr4 zlQ hk4;have HA4:=zaa (HA3.out.trans hA);have HO4:=zaa (zai HO3.out (fun g hg hb=>hA.kept.block g (zaj HO3.out hg).2 (by omega)));have HR4:=zaa (HR.out.trans (zft HR3.out hr4));clear hA hr4 hE4;go_wp2_with(first
    |(at_builtin;refine wpList_append_own _ rfl _ _ 80 rfl W.heap.size 79 i0 (.agg #[.string ⟨#[]⟩,.int .i64 0]) 2 24 underlying80 hi0 hz0 hz1 hz2 rfl (by decide) _ _ _ rfl (HO4.out.alloc _) ⟨w4.heap.size,0,none⟩ 1 1 [.string ⟨a4.unit.toArray⟩,.int .i64 a4.code] rfl rfl (zbB (by simp)) (by simp[Value.oneCell']) (by unfold maxLen;omega) (by omega) (by simp;exact Nat.le_succ_of_le HA4.out.kept.size) ?_;intro v' w5 hown' hgrow _))
   have hG0:Below W.heap.size w4 w5:=Below.grown ((Below.refl _ w4).alloc HA4.out.kept.size _) hgrow (by simp;exact Nat.le_succ_of_le HA4.out.kept.size) (fun g hg=>(zaj HO4.out hg).1);have HA5:=zaa (HA4.out.belowW hpb hG0);have HO5:=zaa hown';have HM5:Hid (zbL pb w5=k4):=zaa (by unfold zbL;rw[HA5.out.here];simp[intOf]);clear hG0 hown' hgrow
   try go_wp2_with fail
   go_roundw
   case rel=>exact⟨acc++[a4],k4,f,hk4,by omega,by simp;omega,HA5.out,HR4.out,by simpa using HO5.out⟩
   case measure=>have:=HM.out;have:=HM5.out;omega
end Go.Proofs.YtlngbjphagnloaaGreatDoor
