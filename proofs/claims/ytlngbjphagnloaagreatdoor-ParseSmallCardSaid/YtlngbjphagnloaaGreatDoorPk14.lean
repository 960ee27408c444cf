/- Merged texts of the walks and of the plain laws on which the statement leans.-/
import Derived.Test.YtlngbjphagnloaaGreatDoorPk1
import Derived.Test.YtlngbjphagnloaaGreatDoorPk13
import Derived.Lib.OthersKept
set_option maxHeartbeats 4000000
set_option maxRecDepth 100000
namespace Go.Proofs.YtlngbjphagnloaaGreatDoor
open Tryz
open Go.RowKit
attribute [local go_sem] zax.cell
def znY (pre:List Int):Res (List Int)→Res (List Int)
 | .ok l r=> .ok (pre++l) r
 | .bad n r=> .bad n r
theorem zlY (x:Res (List Int)):znY [] x=x:=by cases x<;>rfl
theorem zfP {pre:List Int} {m:Nat} {r r':List Tok} {a:Int} (h:zfe r= .ok a r'):znY pre (zi1 (m+1) r)=znY (pre++[a]) (zi1 m r'):=by
 show znY pre ((zfe >>= fun a=>zi1 m >>= fun l=>pure (a::l)) r)=_
 rw[zac h]
 cases hm:zi1 m r' with
 |ok l r''=>
  rw[zac hm]
  show Res.ok (pre++a::l) r''=Res.ok (pre++[a]++l) r''
  simp
 |bad n r''=>rw[zab hm];rfl
theorem zgA {pre:List Int} {m n:Nat} {r r':List Tok} (h:zfe r= .bad n r'):znY pre (zi1 (m+1) r)= .bad n r':=by
 show znY pre ((zfe >>= fun a=>zi1 m >>= fun l=>pure (a::l)) r)=_
 rw[zab h];rfl
theorem AtJ.iter {sb j k:Nat} {W w:World} (h:AtJ sb j W w) (hk:W.heap.size≤k) (hsb:sb<W.heap.size) (s:ByteArray) (pos:Nat):AtJ sb j W (w.iterAt k s pos):=by
 have hb: ∀b,b≠k→(w.iterAt k s pos).heap[b]? =w.heap[b]? :=fun b hb=>by
  simp only[World.iterAt];rw[Array.getElem?_setIfInBounds_ne (fun e=>hb e.symm)]
 have hs:(w.iterAt k s pos).heap.size=w.heap.size:=by simp[World.iterAt]
 have e:=hb sb (by omega);exact⟨⟨h.kept.os,h.kept.tape,h.kept.output,by rw[hs];exact h.kept.size,fun i hi hf=>(hb i (by omega)).trans (h.kept.block i hi hf)⟩,(World.cell?_of_block (w:=w) (a:=⟨sb,1,none⟩) e).trans h.here,
  fun o ho=>(World.cell?_of_block (w:=w) (a:=⟨sb,o,none⟩) e).trans (h.rest o ho),(World.frozen?_of_block (w:=w) (a:=⟨sb,1,none⟩) e).trans h.free,fun o=>(World.frozen?_of_block (w:=w) (a:=⟨sb,o,none⟩) e).trans (h.hold o)⟩
theorem zeH (w:World) (k:Nat) (s:ByteArray) (pos b:Nat) (hb:b≠k):(w.iterAt k s pos).heap[b]? =w.heap[b]? :=by
 simp only[World.iterAt];rw[Array.getElem?_setIfInBounds_ne (fun e=>hb e.symm)]
theorem ziy:(prog.info? 60).map (fun i=>(i.zero,i.size,i.bytes))=some (some (.agg #[.int .u8 0,.int .i64 0,.int .i64 0,.int .i64 0]),4,32):=by kernel_rfl
def za5 (x:zcQ):List Value:=[.int .u8 (x.op:Int),.int .i64 x.a,.int .i64 x.b,.int .i64 x.c]
theorem zhi {f:Nat} {acc:List zcQ} {r:List Tok} (h:((hdT r).kind==1)=false):zbn (f+1) acc r= .ok acc r:=by
 show(if(hdT r).kind==1 then _ else _)=_
 rw[h];rfl
theorem ziq {f:Nat} {acc:List zcQ} {r r':List Tok} {x:zcQ} (h:((hdT r).kind==1)=true) (hx:zjp r= .ok x r'):zbn (f+1) acc r=zbn f (acc++[x]) r':=by
 show(if(hdT r).kind==1 then(zjp >>= fun x=>zbn f (acc++[x])) r else _)=_
 rw[h];exact zac hx
theorem zhu {f n:Nat} {acc:List zcQ} {r r':List Tok} (h:((hdT r).kind==1)=true) (hx:zjp r= .bad n r'):zbn (f+1) acc r= .bad n r':=by
 show(if(hdT r).kind==1 then(zjp >>= fun x=>zbn f (acc++[x])) r else _)=_
 rw[h];exact zab hx
theorem zg5: ∀n,n≤25→(zaB zaN n).length≤3∧(zaB zaN n).all (fun b=>decide (b.toNat<128))=true:=by
 have h: ∀n:Fin 26,(zaB zaN n.val).length≤3∧(zaB zaN n.val).all (fun b=>decide (b.toNat<128))=true:=by decide +kernel
 exact fun n hn=>h ⟨n,by omega⟩
def zlV (zn:Int) (pre:List Int):Obj:=Obj.cells #[Value.int .u8 zn,Value.int .i64 (pre.getD 0 0),Value.int .i64 (pre.getD 1 0),Value.int .i64 (pre.getD 2 0)] 60 (0,0)
def zkj (xb:Nat):Obj:=Obj.cells #[Value.pointer (some ⟨xb,1,none⟩),Value.pointer (some ⟨xb,2,none⟩),Value.pointer (some ⟨xb,3,none⟩)] 150 (0,0)
structure OpR (pb:Nat) (ts:List Tok) (W:World) (k n xb qb ib:Nat) (zn:Int) (S:ByteArray) (v:Value) (acc:List zcQ) (i k':Nat) (pre:List Int) (wr:World):Prop where
 le:i≤n
 len:pre.length=i
 le':k'≤ts.length
 ge:k+1≤k'
 atJ:AtJ pb k' W wr
 run:znY pre (zi1 (n-i) (ts.drop k'))=zi1 n (ts.drop (k+1))
 row:wr.heap[xb]? =some (zlV zn pre)
 ptr:wr.heap[qb]? =some (zkj xb)
 itr:wr.heap[ib]? =some (.stringIter S i)
 own:wr.ownsRow W.heap.size 60 4 v acc.length (acc.flatMap za5)
def zgd:Obj:=Obj.cells (zbx.map fun l=>Value.string ⟨l.toArray⟩).toArray 9 (0,0)
theorem zlq (w:World) (hE:zci w):Calls prog 76 #[.string ⟨#[119,111,114,107,58,119,32,115,101,116,58,114,118,32,97,100,100,58,114,114,32,115,117,98,58,114,114,32,108,111,97,100,58,114,97,114,32,115,116,111,114,101,58,114,97,114,32,115,101,110,100,58,111,114,108,32,114,101,99,118,58,105,114,114,32,119,97,105,116,58,115,32,115,105,103,110,97,108,58,115,32,114,97,105,115,101,58,101,32,108,111,119,101,114,58,101,32,117,110,116,105,108,58,101,32,112,117,116,58,98,114,32,103,101,116,58,98,114,32,115,104,111,119,58,100,114,32,108,111,111,107,58,100,114,32,99,108,101,97,114,58,100,32,110,101,120,116,58,32,106,117,109,112,58,106,32,122,101,114,111,58,114,106,32,108,101,115,115,58,114,114,106,32,100,105,118,58,114,114,32,102,97,117,108,116,58,99,32,115,116,111,112,58]⟩] w fun e w'=>e= .returned (.slice (some ⟨w.heap.size,0,none⟩) 25 25)∧w'=w.alloc zgd:=by
 have ha': ∀(j:Nat) b,(⟨#[119,111,114,107,58,119,32,115,101,116,58,114,118,32,97,100,100,58,114,114,32,115,117,98,58,114,114,32,108,111,97,100,58,114,97,114,32,115,116,111,114,101,58,114,97,114,32,115,101,110,100,58,111,114,108,32,114,101,99,118,58,105,114,114,32,119,97,105,116,58,115,32,115,105,103,110,97,108,58,115,32,114,97,105,115,101,58,101,32,108,111,119,101,114,58,101,32,117,110,116,105,108,58,101,32,112,117,116,58,98,114,32,103,101,116,58,98,114,32,115,104,111,119,58,100,114,32,108,111,111,107,58,100,114,32,99,108,101,97,114,58,100,32,110,101,120,116,58,32,106,117,109,112,58,106,32,122,101,114,111,58,114,106,32,108,101,115,115,58,114,114,106,32,100,105,118,58,114,114,32,102,97,117,108,116,58,99,32,115,116,111,112,58]⟩:ByteArray).data.toList[j]? =some b→b.toNat<128:=fun j b hb=>by
  have:=List.all_eq_true.1 zi8.ascii b (List.mem_of_getElem? hb)
  simpa using this
 have HF:=Tryz.strings_Fields _ w zi8.small ha' hE.sp;rw[zi8.words] at HF;exact HF
theorem ziN (pb j:Nat) (ts:List Tok) (W:World) (H:Hid (Cur pb ts j W)) (hts:ts.length≤1000000) (hj:j≤ts.length) (hg:Hid (zhA ts)) (hE:Hid (zci W)) (hpE:3≤pb) (hsz:Hid (∀t∈ts,t.text.length≤1000000)):
 Calls prog 50 #[.pointer (some ⟨pb,0,none⟩)] W fun e W'=>zcc pb ts W 60 4 za5 (zcs (ts.drop j)) e W':=by
 have hpb:=H.out.lt;obtain⟨i0,hi0,hz0,hz1,hz2⟩:=info_parts ziy;have hts':ts.length≤1099511627776:=by omega
 have HA0:=zaa (AtJ.start H.out.now H.out.free);have HH:=zaa (fun j' W (H:Hid (Cur pb ts j' W)) hj'=>zcf pb j' ts W H hts' hj');have ft0:=zga;have ft1:=zbF
 go_enter func50,ntmps50
 go_wp2_with fail
 go_loopw [2] (fun v2 wr=> ∃(acc:List zcQ) (k f:Nat),k≤ts.length∧ts.length-k<f∧acc.length≤k∧AtJ pb k W wr∧zcs (ts.drop j)=zbn f acc (ts.drop k)∧wr.ownsRow W.heap.size 60 4 v2 acc.length (acc.flatMap za5)) (fun _ wr=>ts.length-zbL pb wr)
 case atStart=>exact⟨[],j,_,hj,by simp,by simp,HA0.out,rfl,World.ownsRow_nil _ _ _ _⟩
 case round=>
  obtain⟨acc,k,f,hk,hf,hal,hA,hR,hO⟩:=hrel;have HA:=zaa hA;have HR:=zaa hR;have HO:=zaa hO;clear hA hR hO HA0;obtain⟨f,rfl⟩: ∃f',f=f'+1:=⟨f-1,by omega⟩;obtain⟨wo,rfl⟩: ∃wo:World,wo=wr:=⟨_,rfl⟩;have HM:Hid (zbL pb wo=k):=zaa (by unfold zbL;rw[HA.out.here];simp[intOf]);have HC:=zaa (fun W (H:Hid (Cur pb ts k W))=>HH.out k W H hk);have hlt0:(hdT (ts.drop k)).kind=1→ ∃h:k<ts.length,hdT (ts.drop k)=ts[k]:=fun h=>by
   rcases Nat.lt_or_ge k ts.length with h'|h'
   ·exact⟨h',ziX ts k h'⟩
   ·rw[zbJ ts k h'] at h;cases h
  have HLT:=zaa hlt0;have HEND:=zaa (fun(h:((hdT (ts.drop k)).kind==1)=false)=>zhi (f:=f) (acc:=acc) h);have HGO:=zaa (fun(x:zcQ) (r:List Tok) (h:((hdT (ts.drop k)).kind==1)=true) (hx:zjp (ts.drop k)= .ok x r)=>ziq (f:=f) (acc:=acc) h hx);have HBD:=zaa (fun(n:Nat) (r:List Tok) (h:((hdT (ts.drop k)).kind==1)=true) (hx:zjp (ts.drop k)= .bad n r)=>zhu (f:=f) (acc:=acc) h hx);have HOF:Hid (ofP zaE (ts.drop k)=if zbN zaE (hdT (ts.drop k)).text != 0&&(hdT (ts.drop k)).kind==1 then .ok (zbN zaE (hdT (ts.drop k)).text) (ts.drop k).tail else .bad 80 (ts.drop k)):=zaa rfl;clear hlt0;generalize ht:hdT (ts.drop k)=t at HC HLT HEND HGO HBD HOF;have HT0:=zaa ht;clear ht;obtain⟨κ,tx,ta⟩:=t;unfold zcC at HC;dsimp only at HC HLT HEND HGO HBD HOF;by_cases hκ:κ=1
  rotate_left
  ·have HX:=zaa (zcc.mk_ok (v:=u2) (HR.out.trans (HEND.out (by simpa using hκ))) hk HA.out rfl HO.out)
   have hκ':((κ:Int)==1)=false:=by simp;omega
   clear hκ;generalize(κ:Int)=z at *;go_wp2_with fail;refine(HC.out _ (zaa (H.out.to HA.out))).mono ?_;rintro e w1 ⟨rfl,hb⟩;have HX2:Hid (zcc pb ts W 60 4 za5 (zcs (ts.drop j)) (.returned u2) w1):=by
    obtain⟨j',hj',hA',hm⟩:=HX.out;exact zaa ⟨j',hj',hA'.belowW hpb (hb.mono HA.out.kept.size),by
     revert hm
     cases zcs (ts.drop j) with
     |ok l r=>rintro⟨h1,v,h2,h3⟩;exact⟨h1,v,h2,zai h3 (fun g hg hb'=>hb.block g (zaj h3 hg).2)⟩
     |bad n r=>rintro⟨h1,h2⟩;cases h2⟩
   clear hb HX;go_wp2_with fail;go_ret;exact HX2.out
  ·subst hκ
   obtain⟨hlt,htk⟩:=HLT.out rfl;have htx:tx.length≤1000000:=by
    have:=hsz.out _ (List.getElem_mem hlt);rw[←htk] at this;exact this
   clear htk;go_wp2_with fail;refine(HC.out _ (zaa (H.out.to HA.out))).mono ?_;rintro e w1 ⟨rfl,hb⟩;have HA1:=zaa (HA.out.belowW hpb (hb.mono HA.out.kept.size));have HO1:=zaa (zai HO.out (fun g hg _=>hb.block g (zaj HO.out hg).2));have hz1:=hb.size;clear hb;go_wp2_with fail;refine(HC.out _ (zaa (H.out.to HA1.out))).mono ?_;rintro e w2 ⟨rfl,hb⟩;have HA2:=zaa (HA1.out.belowW hpb (hb.mono HA1.out.kept.size));have HO2:=zaa (zai HO1.out (fun g hg _=>hb.block g (zaj HO1.out hg).2));have hz2:=hb.size;clear hb HO1 HA1;have HBw:=zaa ((Below.refl w2.heap.size w2).alloc (Nat.le_refl _) (Obj.cells #[Value.string ⟨tx.toArray⟩] 9));have HBf:=zaa (HBw.out.alloc HBw.out.size zgd);have HIF:=zaa (zgE (w2.heap.size+1) w2.heap.size 25 25 zbx ⟨tx.toArray⟩ ((w2.alloc (Obj.cells #[Value.string ⟨tx.toArray⟩] 9)).alloc zgd) (zaa (by decide)) (by decide) (by simp[go_sem]) (by simp[ByteArray.size];omega) (zaa (by
    intro i s hs;have hn:=heap_alloc_new (w2.alloc (Obj.cells #[Value.string ⟨tx.toArray⟩] 9)) zgd;have e:=cell_of_row _ _ i _ _ _ hn;simp only[World.size_alloc] at e;rw[e];simp[hs])))
   rw[show zn2 zbx (⟨tx.toArray⟩:ByteArray).data.toList=(zbN zaE tx:Int)-1 from by simpa using znP tx] at HIF;go_wp2_with fail;refine(zlq _ ((hE.out.to hpE HA2.out).below HBw.out)).mono ?_;rintro e w3 ⟨rfl,rfl⟩;go_wp2_with fail;refine(HIF.out).mono ?_;rintro e w3 ⟨rfl,rfl⟩;have HA3:=zaa (HA2.out.below hpb HBf.out);have HO3:=zaa (zai HO2.out (fun g hg _=>HBf.out.block g (zaj HO2.out hg).2));have hz3:w2.heap.size+2≤((w2.alloc (Obj.cells #[Value.string ⟨tx.toArray⟩] 9)).alloc zgd).heap.size:=by simp
   have hle:=zdT zaE tx;have hle':zaE.length=25:=by decide
   clear HA2 HO2 HIF HBf HBw;generalize(w2.alloc (Obj.cells #[Value.string ⟨tx.toArray⟩] 9)).alloc zgd=w3 at *;generalize zbN zaE tx=N at *;have hN:N≤25:=by omega
   clear hle hle';by_cases hN0:N=0
   ·subst hN0
    have hbad:=HR.out.trans (HBD.out 80 _ rfl (zab (HOF.out.trans rfl)));have HX:=zaa (zcc.mk_bad (T:=60) (size:=4) (cells:=za5) hbad hk HA3.out);clear hbad;go_wp2_with(go_at_call 56;refine(zb6 _ _ _).mono ?_;rintro e w'' ⟨rfl,rfl⟩)
    exact⟨rfl,HX.out⟩
   ·have hop:ofP zaE (ts.drop k)= .ok N (ts.drop (k+1)):=by
     rw[HOF.out,if_pos (by simp;exact hN0)];simp
    have k0:decide ((0:Int)≤(N:Int)-1)=true:=by simp;omega
    have k0':decide ((1:Int)≤(N:Int))=true:=by simp;omega
    have k1:(k:Int)+1<9223372036854775808:=by omega
    have k2: -9223372036854775808≤(k:Int)+1:=by omega
    have k3:(N:Int)-1+1=(N:Int):=by omega
    have k4:(N:Int) % 256=(N:Int):=by omega
    have k5:(0:Int)≤(N:Int):=by omega
    have k6:(N:Int)≤25:=by omega
    have e1:=HA3.out.here;have e2:=HA3.out.free;have hw3:pb<w3.heap.size:=Nat.lt_of_lt_of_le hpb HA3.out.kept.size;have HOP:=zaa (fun W (hE:Hid (zci W))=>ze1 N W hE (by omega));have HZN:=zaa (show((N:Nat):Int).toNat=N by omega);generalize hzn:((N:Nat):Int)=zn at *;generalize hzk:((k:Nat):Int)=zk at *;have HZK:=zaa hzk;have HZN2:=zaa hzn;clear hzk hzn;go_wp2_with fail
    ((with_reducible refine(za1 _ _ _).mono ?_);rintro e w'' ⟨rfl,rfl⟩)
    have HJ4:Hid (AtJ pb (k+1) W (w''.setCell ⟨pb,1,none⟩ (Value.int .i64 (zk+1)))):=zaa (by
     have:=HA3.out.goto hpb (k+1)
     rwa[show((k+1:Nat):Int)=zk+1 from by have:=HZK.out;omega] at this)
    have HA4:=zaa ((HJ4.out.below hpb ((Below.refl _ _).alloc (Nat.le_refl _) (Obj.cells #[Value.int .u8 zn,Value.int .i64 0,Value.int .i64 0,Value.int .i64 0] 60))).below hpb ((Below.refl _ _).alloc (Nat.le_refl _) (zkj w''.heap.size)));have HX0:Hid ((((w''.setCell ⟨pb,1,none⟩ (Value.int .i64 (zk+1))).alloc (Obj.cells #[Value.int .u8 zn,Value.int .i64 0,Value.int .i64 0,Value.int .i64 0] 60)).alloc (zkj w''.heap.size)).heap[w''.heap.size]? =some (zlV zn [])):=zaa (by
     rw[Below.heap_alloc _ _ _ (by simp[World.setCell])];have:=heap_alloc_new (w''.setCell ⟨pb,1,none⟩ (Value.int .i64 (zk+1))) (Obj.cells #[Value.int .u8 zn,Value.int .i64 0,Value.int .i64 0,Value.int .i64 0] 60 (0,0))
     simpa [World.setCell,zlV] using this)
    have HQ0:Hid ((((w''.setCell ⟨pb,1,none⟩ (Value.int .i64 (zk+1))).alloc (Obj.cells #[Value.int .u8 zn,Value.int .i64 0,Value.int .i64 0,Value.int .i64 0] 60)).alloc (zkj w''.heap.size)).heap[w''.heap.size+1]? =some (zkj w''.heap.size)):=zaa (by
     have:=heap_alloc_new ((w''.setCell ⟨pb,1,none⟩ (Value.int .i64 (zk+1))).alloc (Obj.cells #[Value.int .u8 zn,Value.int .i64 0,Value.int .i64 0,Value.int .i64 0] 60 (0,0))) (zkj w''.heap.size)
     simpa [World.setCell] using this)
    have hOg: ∀g,u2.ownBlock=some g→g<w''.heap.size∧W.heap.size≤g:=fun g hg=>⟨(zaj HO3.out hg).2,(zaj HO3.out hg).1⟩
    have HO4:=zaa (zai (w':=((w''.setCell ⟨pb,1,none⟩ (Value.int .i64 (zk+1))).alloc (Obj.cells #[Value.int .u8 zn,Value.int .i64 0,Value.int .i64 0,Value.int .i64 0] 60)).alloc (zkj w''.heap.size)) HO3.out (fun g hg hb=>by
     have h1:=(hOg g hg).1;rw[Below.heap_alloc _ _ _ (by simp[World.setCell];omega),Below.heap_alloc _ _ _ (by simp[World.setCell];omega),Below.heap_setCell _ _ _ _ (by show g≠pb;omega)]))
    have hgx:W.heap.size≤w''.heap.size:=HA3.out.kept.size;have hz4:(((w''.setCell ⟨pb,1,none⟩ (Value.int .i64 (zk+1))).alloc (Obj.cells #[Value.int .u8 zn,Value.int .i64 0,Value.int .i64 0,Value.int .i64 0] 60)).alloc (zkj w''.heap.size)).heap.size=w''.heap.size+2:=by simp[World.setCell]
    have HOg:=zaa hOg;clear hOg HJ4;go_wp2_with fail;unfold zkj at HA4 HX0 HQ0 HO4 hz4;generalize w''.heap.size=xb at *;generalize(((w''.setCell ⟨pb,1,none⟩ (Value.int .i64 (zk+1))).alloc (Obj.cells #[Value.int .u8 zn,Value.int .i64 0,Value.int .i64 0,Value.int .i64 0] 60)).alloc (Obj.cells #[Value.pointer (some ⟨xb,1,none⟩),Value.pointer (some ⟨xb,2,none⟩),Value.pointer (some ⟨xb,3,none⟩)] 150))=w5 at *;clear e1 e2 HA3 HO3;refine(HOP.out w5 (zaa (hE.out.to hpE HA4.out))).mono ?_;rintro e w6 ⟨rfl,hb⟩;obtain⟨hS3,hSa⟩:=zg5 N hN;have HA6:=zaa (HA4.out.below hpb hb);have HX6:=zaa ((hb.block xb (by omega)).trans HX0.out);have HQ6:=zaa ((hb.block (xb+1) (by omega)).trans HQ0.out);have HO6:=zaa (zai HO4.out (fun g hg _=>hb.block g (zaj HO4.out hg).2));have hz6:xb+2≤w6.heap.size:=by have:=hb.size;omega
    clear hb HA4 HX0 HQ0 HO4 hz4;have HSA:=zaa hSa;clear hSa;have HOP1:=zaa hop;clear hop;have HSZ:=zaa (show(⟨(zaB zaN N).toArray⟩:ByteArray).size=(zaB zaN N).length by simp[ByteArray.size]);have HST:Hid (OpR pb ts W k (zaB zaN N).length xb (xb+1) w6.heap.size zn ⟨(zaB zaN N).toArray⟩ u2 acc 0 (k+1) [] (w6.iter ⟨(zaB zaN N).toArray⟩ 0)):=zaa
     ⟨by omega,rfl,by omega,Nat.le_refl _,HA6.out.below hpb ((Below.refl _ _).alloc (Nat.le_refl _) _),zlY _,(Below.heap_alloc _ _ _ (by omega)).trans HX6.out,(Below.heap_alloc _ _ _ (by omega)).trans HQ6.out,World.iter_heap _ _ _,zai HO6.out (fun g hg _=>Below.heap_alloc _ _ _ (zaj HO6.out hg).2)⟩
    clear HA6 HX6 HQ6 HO6;go_wp2_with fail;generalize w6.iter ⟨(zaB zaN N).toArray⟩ 0=w7 at *;generalize w6.heap.size=ib at *;have HBY:Hid (∀(i:Nat) (hi:i<(⟨(zaB zaN N).toArray⟩:ByteArray).size),((⟨(zaB zaN N).toArray⟩:ByteArray)[i]'hi).toNat<128):=zaa (fun i hi=>by
     have hi':i<(zaB zaN N).length:=by rw[←HSZ.out];exact hi
     have:=List.all_eq_true.1 HSA.out _ (List.getElem_mem hi')
     show((zaB zaN N).toArray[i]).toNat<128
     simpa using this)
    generalize(⟨(zaB zaN N).toArray⟩:ByteArray)=S at *
    go_loopw [] (fun wr=> ∃(i k':Nat) (pre:List Int),OpR pb ts W k (zaB zaN N).length xb (xb+1) ib zn S u2 acc i k' pre wr) (fun wr=>ts.length-zbL pb wr)
    case atStart=>exact⟨0,k+1,[],HST.out⟩
    case round=>
     clear HST;obtain⟨i,k',pre,hR⟩:=hrel;obtain⟨hin,hpl,hk',hkk,hA,hrun,hrow,hptr,hitr,hown⟩:=hR;have HAi:=zaa hA;have HRUN:=zaa hrun;have HXi:=zaa hrow;have HQi:=zaa hptr;have HOi:=zaa hown;have HMi:Hid (zbL pb wr=k'):=zaa (by unfold zbL;rw[HAi.out.here];simp[intOf]);clear hA hrun hrow hptr hown;by_cases hlt':i<(zaB zaN N).length
     ·have hiS:i<S.size:=by rw[HSZ.out];exact hlt'
      have hnx:=fun ty=>Lib.run_next_ascii_at (P:=prog) wr ib S i ty hitr hiS (HBY.out i hiS)
      have HIi:=zaa (Lib.iterAt_heap wr ib S i (i+1) hitr);have HAi':=zaa (HAi.out.iter (k:=ib) (by omega) hpb S (i+1));have HXi':=zaa ((zeH wr ib S (i+1) xb (by omega)).trans HXi.out);have HQi':=zaa ((zeH wr ib S (i+1) (xb+1) (by omega)).trans HQi.out);have HOi':=zaa (zai (w':=wr.iterAt ib S (i+1)) HOi.out (fun g hg _=>zeH wr ib S (i+1) g (by have:=(HOg.out g hg).1;omega)));clear HAi HXi HQi HOi hitr hin;have HAi:=HAi';have HXi:=HXi';have HQi:=HQi';have HOi:=HOi';clear HAi' HXi' HQi' HOi';obtain⟨m,hm⟩: ∃m,(zaB zaN N).length-i=m+1:=⟨(zaB zaN N).length-i-1,by omega⟩;rw[hm] at HRUN;rcases pre with _|⟨p0,_|⟨p1,_|⟨p2,_⟩⟩⟩
      ·obtain rfl:i=0:=by simpa using hpl.symm
       obtain rfl:m=(zaB zaN N).length-1:=by omega
       clear hpl hm;go_wp2_with fail;clear hnx;generalize wr.iterAt ib S (0+1)=wi at *;have hQc:wi.cell? ⟨xb+1,0,none⟩=some (Value.pointer (some ⟨xb,1,none⟩)):=(cell_of_row _ _ 0 _ _ _ HQi.out);have kq:(0:Int)≤0∧(0:Int)<3:=by decide
       refine zad (S:=fun w'=>w'.heap[xb+1]? =wi.heap[xb+1]?) 6 (by kernel_rfl) (by kernel_rfl) rfl (fun hHeld=> ?_);have HAd:=zaa HAi.out.drew;clear HAi;have HRd:Hid (wi.drew.heap[xb]? =some (zlV zn [])):=HXi;clear HXi;have HId:Hid (wi.drew.heap[ib]? =some (.stringIter S 1)):=HIi;clear HIi;have HOd:=zaa (zai (w':=wi.drew) HOi.out (fun _ _ _=>rfl));clear HOi;have HQd:Hid (wi.drew.heap[xb+1]? =some (zkj xb)):=HQi;generalize wi.drew=V at *;refine tq 0 44 rfl hHeld ?_;refine tq 1 45 rfl hHeld ?_;refine tq 2 46 rfl hHeld ?_
       (try simp only[pu])
       refine tyZ (v:= ?_) 3 47 rfl hHeld (fun v hS=> ?_) ?_;rotate_left
       ·have e:=(World.cell?_of_block (a:=⟨xb+1,0,none⟩) hS).trans hQc
        go_simp
        with_reducible rfl
       refine tq 4 48 rfl hHeld ?_
       (try simp only[pu])
       refine trZ [5] (zau.cons rfl (fun K hK=> ?_) zau.nil);go_simp;refine(zcx pb k' ts _ (zaa (H.out.to HAd.out)) hts' hk' hg).mono ?_;rintro e w8 hE8;rcases hE8.split with⟨a8,k8,hr,hk8,hA,rfl⟩|⟨m,k8,hr,hk8,hA,rfl⟩
       rotate_left
       ·have hb:=HRUN.out.symm.trans (zgA hr)
        have hbad:=HR.out.trans (HBD.out m _ rfl ((zac HOP1.out).trans (zab hb)));have HX:=zaa (zcc.mk_bad (T:=60) (size:=4) (cells:=za5) hbad hk8 (HAd.out.trans hA));clear hA hr hE8 hb hbad;go_wp2_with fail;exact⟨rfl,HX.out⟩
       have hQ8:=(hA.kept.block (xb+1) (by have:=(zal HQd.out);omega) (by omega));have HX8:=zaa ((hA.kept.block xb (by have:=(zal HRd.out);omega) (by omega)).trans HRd.out);have HI8:=zaa ((hA.kept.block ib (by have:=(zal HId.out);omega) (by omega)).trans HId.out);have HO8:=zaa (zai HOd.out (fun g hg hb=>hA.kept.block g (zaj HOd.out hg).2 (by omega)));have HQ8:=zaa (hQ8.trans HQd.out);have HA8:=zaa (HAd.out.trans hA);have HRUN8:=zaa ((zfP hr).symm.trans HRUN.out);have hk48:k'+1≤k8:=LTj hr zcB hk8;clear hA hr hE8 HAd HRd HId HOd HRUN HQd;go_wp2_with fail;refine hK.out _ _ (hQ8.trans hHeld) (fun _=> ?_);clear hK K hHeld hQ8
       (try simp only[pu])
       refine zae (by kernel_rfl) ?_;simp only[List.drop_succ_cons,List.drop_zero];have c8:w8.cell? ⟨xb,1,none⟩=some (Value.int .i64 0):=cell_of_row _ _ 1 _ _ _ HX8.out;have f8:w8.frozen? ⟨xb,1,none⟩=false:=frozen_of_row _ _ 1 _ _ HX8.out;have hl8:=(zal HX8.out);have HX9:Hid ((w8.setCell ⟨xb,1,none⟩ (Value.int .i64 a8)).heap[xb]? =some (zlV zn [a8])):=zaa (heap_setCell_same w8 xb 1 _ _ _ HX8.out);have HA9:=zaa (AtJ.fresh HA8.out hpb (p:=⟨xb,1,none⟩) (by show xb≠pb;omega) hgx (Value.int .i64 a8));have HI9:=zaa ((Below.heap_setCell w8 ⟨xb,1,none⟩ (Value.int .i64 a8) ib (by show ib≠xb;omega)).trans HI8.out);have HQ9:=zaa ((Below.heap_setCell w8 ⟨xb,1,none⟩ (Value.int .i64 a8) (xb+1) (by show xb+1≠xb;omega)).trans HQ8.out);have HO9:=zaa (zai HO8.out (w':=w8.setCell ⟨xb,1,none⟩ (Value.int .i64 a8)) (fun g hg _=>Below.heap_setCell _ _ _ _ (by have:=(HOg.out g hg).1;show g≠xb;omega)));have HM8:Hid (zbL pb (w8.setCell ⟨xb,1,none⟩ (Value.int .i64 a8))=k8):=zaa (by unfold zbL;rw[HA9.out.here];simp[intOf]);clear HX8 HI8 HO8 HQ8 HA8;go_wp2_with fail;clear c8 f8 hl8;go_roundw
       case rel=>exact⟨1,k8,[a8],⟨by omega,rfl,hk8,by omega,HA9.out,by simpa using HRUN8.out,HX9.out,HQ9.out,HI9.out,HO9.out⟩⟩
       case measure=>have:=HM8.out;have:=HMi.out;omega
      ·obtain rfl:i=1:=by simpa using hpl.symm
       obtain rfl:m=(zaB zaN N).length-2:=by omega
       clear hpl hm;go_wp2_with fail;clear hnx;generalize wr.iterAt ib S (1+1)=wi at *;have hQc:wi.cell? ⟨xb+1,1,none⟩=some (Value.pointer (some ⟨xb,2,none⟩)):=(cell_of_row _ _ 1 _ _ _ HQi.out);have kq:(0:Int)≤1∧(1:Int)<3:=by decide
       refine zad (S:=fun w'=>w'.heap[xb+1]? =wi.heap[xb+1]?) 6 (by kernel_rfl) (by kernel_rfl) rfl (fun hHeld=> ?_);have HAd:=zaa HAi.out.drew;clear HAi;have HRd:Hid (wi.drew.heap[xb]? =some (zlV zn [p0])):=HXi;clear HXi;have HId:Hid (wi.drew.heap[ib]? =some (.stringIter S 2)):=HIi;clear HIi;have HOd:=zaa (zai (w':=wi.drew) HOi.out (fun _ _ _=>rfl));clear HOi;have HQd:Hid (wi.drew.heap[xb+1]? =some (zkj xb)):=HQi;generalize wi.drew=V at *;refine tq 0 44 rfl hHeld ?_;refine tq 1 45 rfl hHeld ?_;refine tq 2 46 rfl hHeld ?_
       (try simp only[pu])
       refine tyZ (v:= ?_) 3 47 rfl hHeld (fun v hS=> ?_) ?_;rotate_left
       ·have e:=(World.cell?_of_block (a:=⟨xb+1,1,none⟩) hS).trans hQc
        go_simp
        with_reducible rfl
       refine tq 4 48 rfl hHeld ?_
       (try simp only[pu])
       refine trZ [5] (zau.cons rfl (fun K hK=> ?_) zau.nil);go_simp;refine(zcx pb k' ts _ (zaa (H.out.to HAd.out)) hts' hk' hg).mono ?_;rintro e w8 hE8;rcases hE8.split with⟨a8,k8,hr,hk8,hA,rfl⟩|⟨m,k8,hr,hk8,hA,rfl⟩
       rotate_left
       ·have hb:=HRUN.out.symm.trans (zgA hr)
        have hbad:=HR.out.trans (HBD.out m _ rfl ((zac HOP1.out).trans (zab hb)));have HX:=zaa (zcc.mk_bad (T:=60) (size:=4) (cells:=za5) hbad hk8 (HAd.out.trans hA));clear hA hr hE8 hb hbad;go_wp2_with fail;exact⟨rfl,HX.out⟩
       have hQ8:=(hA.kept.block (xb+1) (by have:=(zal HQd.out);omega) (by omega));have HX8:=zaa ((hA.kept.block xb (by have:=(zal HRd.out);omega) (by omega)).trans HRd.out);have HI8:=zaa ((hA.kept.block ib (by have:=(zal HId.out);omega) (by omega)).trans HId.out);have HO8:=zaa (zai HOd.out (fun g hg hb=>hA.kept.block g (zaj HOd.out hg).2 (by omega)));have HQ8:=zaa (hQ8.trans HQd.out);have HA8:=zaa (HAd.out.trans hA);have HRUN8:=zaa ((zfP hr).symm.trans HRUN.out);have hk48:k'+1≤k8:=LTj hr zcB hk8;clear hA hr hE8 HAd HRd HId HOd HRUN HQd;go_wp2_with fail;refine hK.out _ _ (hQ8.trans hHeld) (fun _=> ?_);clear hK K hHeld hQ8
       (try simp only[pu])
       refine zae (by kernel_rfl) ?_;simp only[List.drop_succ_cons,List.drop_zero];have c8:w8.cell? ⟨xb,2,none⟩=some (Value.int .i64 0):=cell_of_row _ _ 2 _ _ _ HX8.out;have f8:w8.frozen? ⟨xb,2,none⟩=false:=frozen_of_row _ _ 2 _ _ HX8.out;have hl8:=(zal HX8.out);have HX9:Hid ((w8.setCell ⟨xb,2,none⟩ (Value.int .i64 a8)).heap[xb]? =some (zlV zn [p0,a8])):=zaa (heap_setCell_same w8 xb 2 _ _ _ HX8.out);have HA9:=zaa (AtJ.fresh HA8.out hpb (p:=⟨xb,2,none⟩) (by show xb≠pb;omega) hgx (Value.int .i64 a8));have HI9:=zaa ((Below.heap_setCell w8 ⟨xb,2,none⟩ (Value.int .i64 a8) ib (by show ib≠xb;omega)).trans HI8.out);have HQ9:=zaa ((Below.heap_setCell w8 ⟨xb,2,none⟩ (Value.int .i64 a8) (xb+1) (by show xb+1≠xb;omega)).trans HQ8.out);have HO9:=zaa (zai HO8.out (w':=w8.setCell ⟨xb,2,none⟩ (Value.int .i64 a8)) (fun g hg _=>Below.heap_setCell _ _ _ _ (by have:=(HOg.out g hg).1;show g≠xb;omega)));have HM8:Hid (zbL pb (w8.setCell ⟨xb,2,none⟩ (Value.int .i64 a8))=k8):=zaa (by unfold zbL;rw[HA9.out.here];simp[intOf]);clear HX8 HI8 HO8 HQ8 HA8;go_wp2_with fail;clear c8 f8 hl8;go_roundw
       case rel=>exact⟨2,k8,[p0,a8],⟨by omega,rfl,hk8,by omega,HA9.out,by simpa using HRUN8.out,HX9.out,HQ9.out,HI9.out,HO9.out⟩⟩
       case measure=>have:=HM8.out;have:=HMi.out;omega
      ·obtain rfl:i=2:=by simpa using hpl.symm
       obtain rfl:m=(zaB zaN N).length-3:=by omega
       clear hpl hm;go_wp2_with fail;clear hnx;generalize wr.iterAt ib S (2+1)=wi at *;have hQc:wi.cell? ⟨xb+1,2,none⟩=some (Value.pointer (some ⟨xb,3,none⟩)):=(cell_of_row _ _ 2 _ _ _ HQi.out);have kq:(0:Int)≤2∧(2:Int)<3:=by decide
       refine zad (S:=fun w'=>w'.heap[xb+1]? =wi.heap[xb+1]?) 6 (by kernel_rfl) (by kernel_rfl) rfl (fun hHeld=> ?_);have HAd:=zaa HAi.out.drew;clear HAi;have HRd:Hid (wi.drew.heap[xb]? =some (zlV zn [p0,p1])):=HXi;clear HXi;have HId:Hid (wi.drew.heap[ib]? =some (.stringIter S 3)):=HIi;clear HIi;have HOd:=zaa (zai (w':=wi.drew) HOi.out (fun _ _ _=>rfl));clear HOi;have HQd:Hid (wi.drew.heap[xb+1]? =some (zkj xb)):=HQi;generalize wi.drew=V at *;refine tq 0 44 rfl hHeld ?_;refine tq 1 45 rfl hHeld ?_;refine tq 2 46 rfl hHeld ?_
       (try simp only[pu])
       refine tyZ (v:= ?_) 3 47 rfl hHeld (fun v hS=> ?_) ?_;rotate_left
       ·have e:=(World.cell?_of_block (a:=⟨xb+1,2,none⟩) hS).trans hQc
        go_simp
        with_reducible rfl
       refine tq 4 48 rfl hHeld ?_
       (try simp only[pu])
       refine trZ [5] (zau.cons rfl (fun K hK=> ?_) zau.nil);go_simp;refine(zcx pb k' ts _ (zaa (H.out.to HAd.out)) hts' hk' hg).mono ?_;rintro e w8 hE8;rcases hE8.split with⟨a8,k8,hr,hk8,hA,rfl⟩|⟨m,k8,hr,hk8,hA,rfl⟩
       rotate_left
       ·have hb:=HRUN.out.symm.trans (zgA hr)
        have hbad:=HR.out.trans (HBD.out m _ rfl ((zac HOP1.out).trans (zab hb)));have HX:=zaa (zcc.mk_bad (T:=60) (size:=4) (cells:=za5) hbad hk8 (HAd.out.trans hA));clear hA hr hE8 hb hbad;go_wp2_with fail;exact⟨rfl,HX.out⟩
       have hQ8:=(hA.kept.block (xb+1) (by have:=(zal HQd.out);omega) (by omega));have HX8:=zaa ((hA.kept.block xb (by have:=(zal HRd.out);omega) (by omega)).trans HRd.out);have HI8:=zaa ((hA.kept.block ib (by have:=(zal HId.out);omega) (by omega)).trans HId.out);have HO8:=zaa (zai HOd.out (fun g hg hb=>hA.kept.block g (zaj HOd.out hg).2 (by omega)));have HQ8:=zaa (hQ8.trans HQd.out);have HA8:=zaa (HAd.out.trans hA);have HRUN8:=zaa ((zfP hr).symm.trans HRUN.out);have hk48:k'+1≤k8:=LTj hr zcB hk8;clear hA hr hE8 HAd HRd HId HOd HRUN HQd;go_wp2_with fail;refine hK.out _ _ (hQ8.trans hHeld) (fun _=> ?_);clear hK K hHeld hQ8
       (try simp only[pu])
       refine zae (by kernel_rfl) ?_;simp only[List.drop_succ_cons,List.drop_zero];have c8:w8.cell? ⟨xb,3,none⟩=some (Value.int .i64 0):=cell_of_row _ _ 3 _ _ _ HX8.out;have f8:w8.frozen? ⟨xb,3,none⟩=false:=frozen_of_row _ _ 3 _ _ HX8.out;have hl8:=(zal HX8.out);have HX9:Hid ((w8.setCell ⟨xb,3,none⟩ (Value.int .i64 a8)).heap[xb]? =some (zlV zn [p0,p1,a8])):=zaa (heap_setCell_same w8 xb 3 _ _ _ HX8.out);have HA9:=zaa (AtJ.fresh HA8.out hpb (p:=⟨xb,3,none⟩) (by show xb≠pb;omega) hgx (Value.int .i64 a8));have HI9:=zaa ((Below.heap_setCell w8 ⟨xb,3,none⟩ (Value.int .i64 a8) ib (by show ib≠xb;omega)).trans HI8.out);have HQ9:=zaa ((Below.heap_setCell w8 ⟨xb,3,none⟩ (Value.int .i64 a8) (xb+1) (by show xb+1≠xb;omega)).trans HQ8.out);have HO9:=zaa (zai HO8.out (w':=w8.setCell ⟨xb,3,none⟩ (Value.int .i64 a8)) (fun g hg _=>Below.heap_setCell _ _ _ _ (by have:=(HOg.out g hg).1;show g≠xb;omega)));have HM8:Hid (zbL pb (w8.setCell ⟨xb,3,none⟩ (Value.int .i64 a8))=k8):=zaa (by unfold zbL;rw[HA9.out.here];simp[intOf]);clear HX8 HI8 HO8 HQ8 HA8;go_wp2_with fail;clear c8 f8 hl8;go_roundw
       case rel=>exact⟨3,k8,[p0,p1,a8],⟨by omega,rfl,hk8,by omega,HA9.out,by simpa using HRUN8.out,HX9.out,HQ9.out,HI9.out,HO9.out⟩⟩
       case measure=>have:=HM8.out;have:=HMi.out;omega
      ·exfalso;simp at hpl;omega
     ·obtain rfl:i=(zaB zaN N).length:=by omega
      have hiS: ¬(zaB zaN N).length<S.size:=by rw[HSZ.out];exact hlt'
      have hnx:=fun ty=>Lib.run_next_end_at (P:=prog) wr ib S (zaB zaN N).length ty hitr hiS
      rw[Nat.sub_self] at HRUN;have hops:zi1 (zaB zaN N).length (ts.drop (k+1))= .ok pre (ts.drop k'):=by
       rw[←HRUN.out]
       show Res.ok (pre++[]) (ts.drop k')=_
       rw[List.append_nil]
      have HIN:Hid (zjp (ts.drop k)=(zbd [59] >>= fun _=>pure ⟨N,pre.getD 0 0,pre.getD 1 0,pre.getD 2 0⟩) (ts.drop k')):=zaa ((zac HOP1.out).trans (zac hops));clear hitr hops HRUN hlt' hpl;unfold zlV at HXi;generalize pre.getD 0 0=A0 at *;generalize pre.getD 1 0=A1 at *;generalize pre.getD 2 0=A2 at *;have HMU:=zat pb k' wr.heap.size ts ⟨#[59]⟩ wr (zaa (H.out.to HAi.out)) hts' hk' (by decide) rfl;go_wp2_with fail;clear hnx;refine HMU.mono ?_;rintro e w8 hE8;rcases hE8.split with⟨a8,k8,hr,hk8,hA,rfl⟩|⟨m,k8,hr,hk8,hA,rfl⟩
      rotate_left
      ·have hbad:=HR.out.trans (HBD.out m _ rfl (HIN.out.trans (zab hr)))
       have HX:=zaa (zcc.mk_bad (T:=60) (size:=4) (cells:=za5) hbad hk8 (HAi.out.trans hA));clear hA hr hE8 hbad HMU;go_wp2_with fail;exact⟨rfl,HX.out⟩
      have HX8:=zaa ((hA.kept.block xb (by have:=(zal HXi.out);omega) (by omega)).trans HXi.out);have HO8:=zaa (zai HOi.out (fun g hg hb=>hA.kept.block g (zaj HOi.out hg).2 (by omega)));have HA8:=zaa (HAi.out.trans hA);have HI8:=zaa (HIN.out.trans ((zac hr).trans rfl));have HG8:=zaa (HR.out.trans (HGO.out _ _ rfl HI8.out));have hk8':k'+1≤k8:=LTj hr (zaZ _) hk8;clear hA hr hE8 HMU HXi HOi HAi HIN HR;obtain⟨c0,c1,c2,c3, -⟩:=zfk HX8.out rfl;go_wp2_with(first
       |(at_builtin;refine wpList_append_own _ rfl _ _ 62 rfl W.heap.size 60 i0 (.agg #[.int .u8 0,.int .i64 0,.int .i64 0,.int .i64 0]) 4 32 underlying62 hi0 hz0 (by assumption) (by assumption) rfl (by decide) _ _ _ rfl (HO8.out.alloc _) ⟨w8.heap.size,0,none⟩ 1 1 [.int .u8 zn,.int .i64 A0,.int .i64 A1,.int .i64 A2] rfl rfl (zbB (by simp)) (by simp[Value.oneCell']) (by unfold maxLen;omega) (by omega) (by simp;exact Nat.le_succ_of_le HA8.out.kept.size) ?_;intro v' w9 hown' hgrow _))
      have hG0:Below W.heap.size w8 w9:=Below.grown ((Below.refl _ w8).alloc HA8.out.kept.size _) hgrow (by simp;exact Nat.le_succ_of_le HA8.out.kept.size) (fun g hg=>(zaj HO8.out hg).1);have HA9:=zaa (HA8.out.belowW hpb hG0);have HO9:=zaa hown';have HM9:Hid (zbL pb w9=k8):=zaa (by unfold zbL;rw[HA9.out.here];simp[intOf]);clear hG0 hown' hgrow c0 c1 c2 c3 HX8 HO8 HA8
      try go_wp2_with fail
      go_roundw
      case rel=>exact⟨acc++[⟨N,A0,A1,A2⟩],k8,f,hk8,by omega,by simp;omega,HA9.out,HG8.out,by
       have:=HO9.out;rw[←HZN2.out] at this
       simpa [za5] using this⟩
      case measure=>have:=HM.out;have:=HM9.out;omega
end Go.Proofs.YtlngbjphagnloaaGreatDoor
