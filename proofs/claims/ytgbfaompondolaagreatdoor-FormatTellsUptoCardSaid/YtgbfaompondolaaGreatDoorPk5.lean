/- Merged texts of the walks and of the plain laws on which the statement leans.-/
import Derived.Test.YtgbfaompondolaaGreatDoorPk4
import Derived.Test.YtgbfaompondolaaGreatDoorShelf
import Derived.Laws.EntriesVeiled
import Derived.Test.YtgbfaompondolaaGreatDoorPk1
import Derived.Deep.RegionHeld3
import Derived.Lib.AtoiAll
import Derived.Lib.ItoaNum
import Derived.Shelf.Strconv.ErrVarAll
import Derived.Lib.ItoaLen
set_option maxHeartbeats 1000000
set_option maxRecDepth 100000
namespace Go.Proofs.YtgbfaompondolaaGreatDoor
open Tryz
open Go.RowKit
open Go.MuLone (run_callFunc_enter)
def zfZ (s:ByteArray) (b:UInt8):Bool:=s.data.toList.contains b
theorem UInt8.ofNat_toNat' (b:UInt8):b.toNat.toUInt8=b:=by simp
theorem zeN: ∀(l:List UInt8) (c:UInt8),(-1≤Lib.indexByte l c)∧(decide (0≤Lib.indexByte l c)=l.contains c)
 |[],c=>by simp[Lib.indexByte]
 |b::l,c=>by
  obtain⟨h1,h2⟩:=zeN l c;unfold Lib.indexByte;by_cases hb:b==c
  ·rw[if_pos hb]
   have:b=c:=by simpa using hb
   subst this;simp
  ·rw[if_neg hb]
   have hne: ¬c=b:=fun e=>hb (by simp[e])
   have hc:(b::l).contains c=l.contains c:=by simp[hne]
   rw[hc,←h2];by_cases hm:Lib.indexByte l c== -1
   ·rw[if_pos hm]
    have:Lib.indexByte l c= -1:=by simpa using hm
    rw[this];simp
   ·rw[if_neg hm]
    have:Lib.indexByte l c≠ -1:=by simpa using hm
    exact⟨by omega,by rw[decide_eq_decide];omega⟩
theorem znp (xs:Nat) (s:ByteArray) (b:UInt8) (W:World) (h1:Hid (W.heap[xs]? =some (.cells #[.string s] 9 (0,0)))):
 Calls prog 317 #[.int .u8 (b.toNat:Int),.pointer (some ⟨xs,0,none⟩)] W fun e W'=>e= .returned (.bool (zfZ s b))∧Below W.heap.size W W':=by
 have c1:=cell_of_row W xs 0 _ _ _ h1.out;simp only[List.getElem?_toArray,List.getElem?_cons_zero] at c1;have HI:=zaa (fun w=>Tryz.strings_IndexByte s (b.toNat:Int) w)
 go_enter func317,ntmps317
 go_wp2_with fail;refine(HI.out _).mono ?_;rintro e w' ⟨rfl,rfl⟩;generalize hx:Lib.indexByte s.data.toList ((b.toNat:Int)).toNat.toUInt8=x;have HX:=zaa (show decide (0≤x)=zfZ s b by rw[←hx,(zeN _ _).2,Int.toNat_natCast,UInt8.ofNat_toNat' b];rfl);clear hx;go_wp2_with fail;go_ret;exact⟨by rw[←HX.out];rfl,Below.refl _ _⟩
theorem zfb (s:ByteArray) (w:World):Calls prog 296 #[.string s] w fun e w'=> ∃caps,e= .returned (.func (.func 317) #[] caps)∧IsT (fun k=>k=w.heap.size) w' 317 caps (zfZ s)∧Below w.heap.size w w':=by
 have HT:Hid (∀w':World,w'.heap[w.heap.size]? =some (.cells #[.string s] 9 (0,0))→IsT (fun k=>k=w.heap.size) w' 317 #[.pointer (some ⟨w.heap.size,0,none⟩)] (zfZ s)):=by
  intro w' h1;have hlt:=(zau h1);exact⟨fun k hk=>by omega,fun args W=>run_callFunc_enter (c:=((Tryz.f317).body.getD .skip)) func317 (by kernel_rfl) (by kernel_rfl) args W,fun W hW b=>znp w.heap.size s b W ((hW _ rfl).trans h1)⟩
 go_enter func296,ntmps296
 go_wp2_with fail;go_ret;exact⟨_,rfl,HT.out _ (heap_alloc_new w _),(Below.refl _ _).alloc (Nat.le_refl _) _⟩
attribute [local go_sem] zaj.cell
theorem zhU (sb f k:Nat) (caps:Array Value) (p:UInt8→Bool) (F:Nat→Prop) (src:ByteArray) (W:World) (c0:W.cell? ⟨sb,0,none⟩=some (.string src)) (c1:W.cell? ⟨sb,1,none⟩=some (.int .i64 (k:Int))) (hk:k<src.size) (_hs:src.size≤1099511627776) (hT:Hid (IsT F W f caps p)):
 Calls prog 320 #[.pointer (some ⟨sb,0,none⟩),.func (.func f) #[] caps] W fun e W'=>e= .returned (.bool (p src[k]))∧Below W.heap.size W W':=by
 have hen:=hT.out.enters;have hsb:sb<W.heap.size:=World.block_lt_of_cell? W ⟨sb,0,none⟩ c0;have HC:=zaa (fun s:zaj W=>(hT.out.below s.below).says s.w (fun _ _=>rfl) src[k]);have k0:(0:Int)≤(k:Int):=by omega
 have k1:(k:Int)<(src.size:Int):=by omega
 go_enter func320,ntmps320
 go_wp2_with fail;refine zac (by kernel_rfl) (by kernel_rfl) ?_
 repeat(go_big_quiet_step (exact zaj.call (HC.out _)))
 refine wpQuiet_nil ?_;intro _ hw';obtain⟨nq,hw''⟩:=hw';subst hw'';go_wp2_with fail;go_ret;exact⟨rfl,nq.below⟩
theorem zhI (sb k:Nat) (v:Value) (src:ByteArray) (W:World) (c0:W.cell? ⟨sb,0,none⟩=some (.string src)) (c1:W.cell? ⟨sb,1,none⟩=some (.int .i64 (k:Int))) (hk:src.size≤k) (_hs:src.size≤1099511627776):
 Calls prog 320 #[.pointer (some ⟨sb,0,none⟩),v] W fun e W'=>e= .returned (.bool false)∧Below W.heap.size W W':=by
 have hsb:sb<W.heap.size:=World.block_lt_of_cell? W ⟨sb,0,none⟩ c0;have k1:decide (k<src.size)=false:=by simp;omega
 go_enter func320,ntmps320
 go_wp2_with fail;go_quiet (fail);go_wp2_with fail;go_ret;exact⟨rfl,below_drewN (Below.refl _ _) _⟩
structure AtJ (sb j:Nat) (w w':World):Prop where
 kept:zbu (fun k=>k=sb) w w'
 here:w'.cell? ⟨sb,1,none⟩=some (.int .i64 (j:Int))
 rest: ∀o,o≠1→w'.cell? ⟨sb,o,none⟩=w.cell? ⟨sb,o,none⟩
 free:w'.frozen? ⟨sb,1,none⟩=false
 hold: ∀o,w'.frozen? ⟨sb,o,none⟩=w.frozen? ⟨sb,o,none⟩
theorem AtJ.trans {sb i j:Nat} {a b c:World} (h:AtJ sb i a b) (k:AtJ sb j b c):AtJ sb j a c:=
 ⟨h.kept.trans k.kept,k.here,fun o ho=>(k.rest o ho).trans (h.rest o ho),k.free,fun o=>(k.hold o).trans (h.hold o)⟩
theorem AtJ.below {sb j:Nat} {a b c:World} (h:AtJ sb j a b) (hsb:sb<a.heap.size) (k:Below b.heap.size b c):AtJ sb j a c:=by
 have hb:sb<b.heap.size:=Nat.lt_of_lt_of_le hsb h.kept.size;exact⟨h.kept.trans (.of_below k),(World.cell?_of_block (w:=b) (k.block sb hb)).trans h.here,fun o ho=>(World.cell?_of_block (w:=b) (k.block sb hb)).trans (h.rest o ho),(World.frozen?_of_block (w:=b) (a:=⟨sb,1,none⟩) (k.block sb hb)).trans h.free,fun o=>(World.frozen?_of_block (w:=b) (a:=⟨sb,o,none⟩) (k.block sb hb)).trans (h.hold o)⟩
theorem AtJ.start {sb j:Nat} {w:World} (c1:w.cell? ⟨sb,1,none⟩=some (.int .i64 (j:Int))) (cf:w.frozen? ⟨sb,1,none⟩=false):AtJ sb j w w:=⟨.refl _ _,c1,fun _ _=>rfl,cf,fun _=>rfl⟩
theorem IsT.atJ {F:Nat→Prop} {w w':World} {f:Nat} {caps:Array Value} {p:UInt8→Bool} {sb j:Nat} (h:IsT F w f caps p) (hF: ∀k,F k→k≠sb) (k:AtJ sb j w w'):IsT F w' f caps p:=
 h.keep k.kept.size (fun i hi=>k.kept.block i (h.inn i hi) (hF i hi))
def zax (src:ByteArray):List UInt8:=src.data.toList
theorem zbk (src:ByteArray) (j:Nat) (hj:j<src.size):(zax src).drop j=src[j]::(zax src).drop (j+1):=by
 have hl:j<(zax src).length:=by simpa [zax] using hj
 rw[List.drop_eq_getElem_cons hl]
 rfl
def zbF (p:UInt8→Bool) (src:ByteArray) (j:Nat):Nat:=j+(((zax src).drop j).takeWhile p).length
theorem zgd (p:UInt8→Bool) (src:ByteArray) (j:Nat) (hj:j<src.size) (h:p src[j]=true):zbF p src (j+1)=zbF p src j:=by
 unfold zbF;rw[zbk src j hj,List.takeWhile_cons,if_pos h,List.length_cons]
 omega
theorem zll (p:UInt8→Bool) (src:ByteArray) (j:Nat) (hj:j<src.size) (h:p src[j]=false):zbF p src j=j:=by
 unfold zbF;rw[zbk src j hj,List.takeWhile_cons,if_neg (by simp[h])];simp
theorem zjv (p:UInt8→Bool) (src:ByteArray) (j:Nat) (hj:src.size≤j):zbF p src j=j:=by
 unfold zbF;rw[List.drop_eq_nil_of_le (by simpa [zax] using hj)];simp
def zfo (sb:Nat) (w:World):Nat:=(intOf ((w.cell? ⟨sb,1,none⟩).getD (.int .i64 0))).toNat
theorem zdQ (sb f k:Nat) (caps:Array Value) (p:UInt8→Bool) (F:Nat→Prop) (src:ByteArray) (W:World) (c0:Hid (W.cell? ⟨sb,0,none⟩=some (.string src))) (c1:Hid (W.cell? ⟨sb,1,none⟩=some (.int .i64 (k:Int)))) (cf:Hid (W.frozen? ⟨sb,1,none⟩=false)) (hk:k≤src.size) (hs:src.size≤1099511627776) (hT:Hid (IsT F W f caps p)) (hF:Hid (∀k,F k→k≠sb)):
 Calls prog 319 #[.pointer (some ⟨sb,0,none⟩),.func (.func f) #[] caps] W fun e W'=>e= .returned (.tuple #[])∧AtJ sb (zbF p src k) W W':=by
 have hsb:sb<W.heap.size:=World.block_lt_of_cell? W ⟨sb,0,none⟩ c0.out
 go_enter func319,ntmps319
 go_wp2_with fail
 go_loopw [] (fun wr=> ∃j:Nat,j≤src.size∧zbF p src j=zbF p src k∧AtJ sb j W wr) (fun wr=>src.size-zfo sb wr)
 case atStart=>exact⟨k,hk,rfl,AtJ.start c1.out cf.out⟩
 case round=>
  obtain⟨j,hj,hr,hA⟩:=hrel;have HR:=zaa hr;have HA:=zaa hA;clear hr hA;have d0:=(HA.out.rest 0 (by decide)).trans c0.out;have d1:=HA.out.here;have HT2:=zaa (hT.out.atJ hF.out HA.out);by_cases hjs:j<src.size
  ·have HM:=zaa (zhU sb f j caps p F src _ d0 d1 hjs hs HT2)
   have hwr:sb<wr.heap.size:=World.block_lt_of_cell? wr ⟨sb,1,none⟩ d1
   cases hp:p src[j] with
   |true=>
    have HN:=zaa (zgd p src j hjs hp);rw[hp] at HM;go_wp2_with fail;refine(HM.out).mono ?_;rintro e w' ⟨rfl,hb⟩;have HA2:=zaa (HA.out.below hsb hb);have e1:w'.cell? ⟨sb,1,none⟩=some (.int .i64 (j:Int)):=HA2.out.here;have e2:=HA2.out.free;have e0:=(HA2.out.rest 0 (by decide)).trans c0.out;have k0:(0:Int)≤(j:Int):=by omega
    have k1:(j:Int)+1<9223372036854775808:=by omega
    have k2: -9223372036854775808≤(j:Int)+1:=by omega
    clear d0 d1 hb hp HM e0 hwr;generalize hz:(j:Int)=z at *;have HZ:=zaa hz;clear hz;go_wp2_with fail;have hlt:w'.cell? ⟨sb,1,none⟩≠none:=by rw[e1];exact Option.some_ne_none _
    have hset:AtJ sb (j+1) w' (w'.setCell ⟨sb,1,none⟩ (.int .i64 (z+1))):=by
     refine⟨(zbu.refl (fun k=>k=sb) w').setCell (p:=⟨sb,1,none⟩) (Or.inl rfl) _,?_,?_,?_,fun o=>by rw[World.frozen?_setCell]⟩
     ·rw[←HZ.out];exact World.cell?_setCell_same w' _ _ e1
     ·intro o ho;exact World.cell?_setCell_other w' _ _ _ (fun e=>ho (by injection e with _ e2 _;exact e2.symm))
     ·rw[World.frozen?_setCell];exact e2
    have m1:zfo sb (w'.setCell ⟨sb,1,none⟩ (.int .i64 (z+1)))=j+1:=by unfold zfo;rw[hset.here];simp[intOf]
    have m2:zfo sb wr=j:=by unfold zfo;rw[HA.out.here];simp[intOf]
    have HS:=zaa hset;have HM3:=zaa (show src.size-zfo sb (w'.setCell ⟨sb,1,none⟩ (.int .i64 (z+1)))<src.size-zfo sb wr by rw[m1,m2];omega);clear hset m1 m2 hlt e1 e2;go_roundw
    case rel=>exact⟨j+1,hjs,HN.out.trans HR.out,HA2.out.trans HS.out⟩
    case measure=>exact HM3.out
   |false=>
    have HN:=zaa (zll p src j hjs hp);rw[hp] at HM;go_wp2_with fail;refine(HM.out).mono ?_;rintro e w' ⟨rfl,hb⟩;go_wp2_with fail
    go_end0
    exact⟨rfl,by have:=HA.out.below hsb hb;rwa[←HR.out,HN.out]⟩
  ·have HM:=zaa (zhI sb j (.func (.func f) #[] caps) src _ d0 d1 (by omega) hs)
   have HN:=zaa (zjv p src j (by omega));go_wp2_with fail;refine(HM.out).mono ?_;rintro e w' ⟨rfl,hb⟩;go_wp2_with fail
   go_end0
   exact⟨rfl,by have:=HA.out.below hsb hb;rwa[←HR.out,HN.out]⟩
def zjR:UInt8→Bool:=fun b=>zfi 97 122 b||zfi 65 90 b
theorem IsT.wide {F G:Nat→Prop} {w:World} {f:Nat} {caps:Array Value} {p:UInt8→Bool} (h:IsT F w f caps p) (hG: ∀k,F k→G k) (hb: ∀k,G k→k<w.heap.size):IsT G w f caps p:=
 ⟨hb,h.enters,fun W hW b=>h.says W (fun k hk=>hW k (hG k hk)) b⟩
theorem ziS (w:World):
 Calls prog 262 #[] w fun e w'=>(∃g1 g2 g3 c1 c2 c3,e= .returned (.agg #[.nilFunc,.func (.func g1) #[] c1,.func (.func g2) #[] c2,.func (.func g3) #[] c3])∧IsT (fun k=>w.heap.size<k∧k<w'.heap.size) w' g1 c1 zjR∧IsT (fun k=>w.heap.size<k∧k<w'.heap.size) w' g2 c2 (zfi 48 57)∧IsT (fun k=>w.heap.size<k∧k<w'.heap.size) w' g3 c3 (zfZ ⟨#[123,125,59,44,46,58]⟩))∧Below w.heap.size w w':=by
 have HB:=zaa (fun lo hi w=>zg3 lo hi w);have HA:=zaa (fun s w=>zfb s w)
 go_enter func262,ntmps262
 go_wp2_with fail;have hz0:(w.alloc (.cells #[Value.nilFunc,Value.nilFunc,Value.nilFunc,Value.nilFunc] 257)).heap.size=w.heap.size+1:=by simp
 have hb0:=zaa ((Below.refl w.heap.size w).alloc (Nat.le_refl _) (.cells #[Value.nilFunc,Value.nilFunc,Value.nilFunc,Value.nilFunc] 257));have HX0:=zaa (heap_alloc_new w (.cells #[Value.nilFunc,Value.nilFunc,Value.nilFunc,Value.nilFunc] 257));generalize hw0:w.alloc _=w0 at *;have HW0:=zaa hw0;clear hw0;refine(HB.out 97 122 _).mono ?_;rintro e w1 ⟨k1,rfl,hT1,hb1⟩;have HT1:=zaa hT1;have HB1:=zaa hb1;have hz1:w0.heap.size≤w1.heap.size:=hb1.size;clear hT1 hb1;go_wp2_with fail;refine(HB.out 65 90 _).mono ?_;rintro e w2 ⟨k2,rfl,hT2,hb2⟩;have HT2:=zaa hT2;have HB2:=zaa hb2;have hz2:w1.heap.size≤w2.heap.size:=hb2.size;clear hT2 hb2;go_wp2_with fail;have hb3:Below w2.heap.size w2 (w2.alloc (Obj.cells #[Value.func (Fn.func 316) #[] k1,Value.func (Fn.func 316) #[] k2] 233)):=(Below.refl _ _).alloc (Nat.le_refl _) _;have hE:=zeD w2.heap.size [⟨316,k1,zfi 97 122⟩,⟨316,k2,zfi 65 90⟩] (fun k=>w.heap.size<k∧k<w2.heap.size) (w2.alloc (Obj.cells #[Value.func (Fn.func 316) #[] k1,Value.func (Fn.func 316) #[] k2] 233)) (by simp) (zaa (heap_alloc_new w2 _))
  (zaa (by
    intro t ht;simp only[List.mem_cons,List.not_mem_nil,or_false] at ht;rcases ht with rfl|rfl
    ·exact((HT1.out.below HB2.out).below hb3).wide (fun k hk=>⟨by omega,by have:=((HT1.out.below HB2.out).inn k hk);omega⟩) (fun k hk=>by simp;omega)
    ·exact(HT2.out.below hb3).wide (fun k hk=>⟨by omega,by have:=HT2.out.inn k hk;omega⟩) (fun k hk=>by simp;omega)))
  (fun k hk=>by simp;omega)
 have hw3:(w2.alloc (Obj.cells #[Value.func (Fn.func 316) #[] k1,Value.func (Fn.func 316) #[] k2] 233)).heap.size=w2.heap.size+1:=by simp
 have HE:=zaa hE;have HB3:=zaa hb3;clear hE hb3;generalize w2.alloc (Obj.cells #[Value.func (Fn.func 316) #[] k1,Value.func (Fn.func 316) #[] k2] 233)=W3 at *;refine HE.out.mono ?_;rintro e w4 ⟨k4,rfl,hT4,hb4⟩;have HT4:=zaa (hT4.wide (G:=fun k=>w.heap.size<k∧k<w4.heap.size) (fun k hk=>⟨by rcases hk with hk|hk|hk<;>omega,hT4.inn k hk⟩) (fun k hk=>hk.2));have HB4:=zaa hb4;have hz4:W3.heap.size≤w4.heap.size:=hb4.size;clear hT4 hb4 HE;go_wp2_with fail;refine(HB.out 48 57 _).mono ?_;rintro e w5 ⟨k5,rfl,hT5,hb5⟩;have HT5:=zaa hT5;have HB5:=zaa hb5;have hz5:w4.heap.size≤w5.heap.size:=hb5.size;clear hT5 hb5;go_wp2_with fail;refine(HA.out _ _).mono ?_;rintro e w6 ⟨k6,rfl,hT6,hb6⟩;have HT6:=zaa hT6;have HB6:=zaa hb6;have hz6:w5.heap.size≤w6.heap.size:=hb6.size;clear hT6 hb6;have HBB:=zaa (show Below w0.heap.size w0 w6 from HB1.out.trans ((HB2.out.mono hz1).trans ((HB3.out.mono (by omega)).trans ((HB4.out.mono (by omega)).trans ((HB5.out.mono (by omega)).trans (HB6.out.mono (by omega)))))));have HX:=zaa ((HBB.out.block w.heap.size (by omega)).trans HX0.out);have c0:=cell_of_row w6 w.heap.size 0 _ _ _ HX.out;have c1:=cell_of_row w6 w.heap.size 1 _ _ _ HX.out;have c2:=cell_of_row w6 w.heap.size 2 _ _ _ HX.out;have c3:=cell_of_row w6 w.heap.size 3 _ _ _ HX.out;simp only[List.getElem?_toArray,List.getElem?_cons_zero,List.getElem?_cons_succ] at c0 c1 c2 c3;have f0:=frozen_of_row w6 w.heap.size 0 _ _ HX.out;have f1:=frozen_of_row w6 w.heap.size 1 _ _ HX.out;have f2:=frozen_of_row w6 w.heap.size 2 _ _ HX.out;have f3:=frozen_of_row w6 w.heap.size 3 _ _ HX.out;have hlt:w.heap.size<w6.heap.size:=by omega
 have HP:Hid (∀w7:World,zbu (fun k=>k=w.heap.size) w6 w7→w7.heap.size=w6.heap.size→((∃g1 g2 g3 c1 c2 c3,Ending.returned (Value.agg #[Value.nilFunc,Value.func (Fn.func 315) #[] k4,Value.func (Fn.func 316) #[] k5,Value.func (Fn.func 317) #[] k6])= .returned (.agg #[.nilFunc,.func (.func g1) #[] c1,.func (.func g2) #[] c2,.func (.func g3) #[] c3])∧IsT (fun k=>w.heap.size<k∧k<w7.heap.size) w7 g1 c1 zjR∧IsT (fun k=>w.heap.size<k∧k<w7.heap.size) w7 g2 c2 (zfi 48 57)∧IsT (fun k=>w.heap.size<k∧k<w7.heap.size) w7 g3 c3 (zfZ ⟨#[123,125,59,44,46,58]⟩))∧Below w.heap.size w w7)):=by
  intro w7 hk hz;have tr: ∀{F:Nat→Prop} {f:Nat} {c:Array Value} {p:UInt8→Bool},(∀k,F k→w.heap.size<k)→IsT F w6 f c p→IsT (fun k=>w.heap.size<k∧k<w7.heap.size) w7 f c p:=by
   intro F f c p hF h;exact(h.keep hk.size (fun k hf=>hk.block k (h.inn k hf) (by have:=hF k hf;omega))).wide (fun k hf=>⟨hF k hf,by have:=h.inn k hf;omega⟩) (fun k hf=>hf.2)
  have e4:zgR [⟨316,k1,zfi 97 122⟩,⟨316,k2,zfi 65 90⟩]=zjR:=by funext b;simp[zgR,zjR]
  have t4:=tr (fun k hf=>hf.1) ((HT4.out.below HB5.out).below HB6.out);rw[e4] at t4;exact⟨⟨_,_,_,_,_,_,rfl,t4,tr (fun k hf=>by omega) (HT5.out.below HB6.out),tr (fun k hf=>by omega) HT6.out⟩,hb0.out.trans ((HBB.out.mono (by omega)).trans (hk.below (Nat.le_of_lt hlt) (fun i hi=>by omega)))⟩
 go_wp2_with fail;refine bodyPost_ret (v:= .agg #[Value.nilFunc,Value.func (Fn.func 315) #[] k4,Value.func (Fn.func 316) #[] k5,Value.func (Fn.func 317) #[] k6]) (by simp[results,Tryz.results262,go_sem,c0,c1,c2,c3]) rfl (HP.out _ ?_ ?_)
 ·exact((((zbu.refl (fun k=>k=w.heap.size) w6).setCell (p:=⟨w.heap.size,0,none⟩) (Or.inl rfl) _).setCell (p:=⟨w.heap.size,1,none⟩) (Or.inl rfl) _).setCell (p:=⟨w.heap.size,2,none⟩) (Or.inl rfl) _).setCell (p:=⟨w.heap.size,3,none⟩) (Or.inl rfl) _
 ·simp[World.setCell]
def zdG (p:Nat) (l:List UInt8):List Tok×Nat×Nat:=znP (l.length+1) p l
theorem zen: ∀(c:Bool) (l:List UInt8),zaL c l≤l.length
 |_,[]=>by simp[zaL]
 |true,b::r=>by
  unfold zaL;have h1:=zen false r;have h2:=zen true r
  split<;>simp only[List.length_cons]<;>omega
 |false,b::r=>by
  unfold zaL;have h1:=zen false r;have h2:=zen true r
  split
  ·simp only[List.length_cons];omega
  ·split<;>simp only[List.length_cons]<;>omega
theorem zmD (r:List UInt8):zfg r≤r.length:=by
 unfold zfg;exact(List.takeWhile_prefix _).length_le
theorem zdu (b:UInt8) (r:List UInt8) (h:(zb4 (b::r)).2.2=0):1≤(zb4 (b::r)).2.1:=by
 unfold zb4 at *;simp only at *
 split
 ·split<;>simp only<;>omega
 ·split
  ·split<;>simp only<;>omega
  ·split
   ·simp
   ·rename_i h1 h2 h3
    rw[if_neg h1,if_neg h2,if_neg h3] at h;simp at h
theorem zmT (b:UInt8) (r:List UInt8):(zb4 (b::r)).2.1≤r.length+1:=by
 unfold zb4;have:=zmD r;simp only
 split
 ·split<;>simp only<;>omega
 ·split
  ·split<;>simp only<;>omega
  ·split<;>simp
theorem zgJ: ∀(f g p:Nat) (l:List UInt8),l.length<f→l.length<g→znP f p l=znP g p l
 |0,_,_,_,h,_=>absurd h (by omega)
 |_+1,0,_,_,_,h=>absurd h (by omega)
 |f+1,g+1,p,l,hf,hg=>by
  unfold znP;have hd:(l.drop (zaL false l)).length≤l.length:=by rw[List.length_drop];omega
  cases h:l.drop (zaL false l) with
  |nil=>rfl
  |cons b r=>
   rw[h] at hd;simp only[List.length_cons] at hd;simp only
   split
   ·rename_i h0
    have hp:=zdu b r h0;have hl:((b::r).drop (zb4 (b::r)).2.1).length<l.length:=by rw[List.length_drop,List.length_cons];omega
    rw[zgJ f g _ _ (by omega) (by omega)]
   ·rfl
theorem zee (p:Nat) (l:List UInt8):zdG p l=match l.drop (zaL false l) with
  |[]=>([],0,0)
  |b::r=>
   if(zb4 (b::r)).2.2=0 then
    (⟨(zb4 (b::r)).1,(b::r).take (zb4 (b::r)).2.1,p+zaL false l⟩::(zdG (p+zaL false l+(zb4 (b::r)).2.1) ((b::r).drop (zb4 (b::r)).2.1)).1,(zdG (p+zaL false l+(zb4 (b::r)).2.1) ((b::r).drop (zb4 (b::r)).2.1)).2)
   else([],p+zaL false l,(zb4 (b::r)).2.2):=by
 unfold zdG;have hd:(l.drop (zaL false l)).length≤l.length:=by rw[List.length_drop];omega
 conv=>lhs;unfold znP
 cases h:l.drop (zaL false l) with
 |nil=>rfl
 |cons b r=>
  rw[h] at hd;simp only[List.length_cons] at hd;simp only
  split
  ·rename_i h0
   have hp:=zdu b r h0;have hl:((b::r).drop (zb4 (b::r)).2.1).length<l.length:=by rw[List.length_drop,List.length_cons];omega
   rw[zgJ l.length (((b::r).drop (zb4 (b::r)).2.1).length+1) _ _ (by omega) (by omega)]
  ·rfl
theorem zoY (p:Nat):zdG p []=([],0,0):=by rw[zee];simp
theorem zhb (b:UInt8) (r:List UInt8):zaL true (b::r)=1+(if b==10 then zaL false r else zaL true r):=by
 conv=>lhs;unfold zaL
 split<;>rfl
theorem ze9 (b:UInt8) (r:List UInt8):zaL false (b::r)=if zd3 b then 1+zaL false r else if b==35 then 1+zaL true r else 0:=by
 conv=>lhs;unfold zaL
theorem zcn: ∀(c:Bool) (l:List UInt8),zaL false (l.drop (zaL c l))=0
 |true,[]=>rfl
 |false,[]=>rfl
 |true,b::r=>by
  have h1:=zcn false r;have h2:=zcn true r;rw[zhb,Nat.add_comm 1,List.drop_succ_cons]
  cases hb:b==10
  ·exact h2
  ·exact h1
 |false,b::r=>by
  have h1:=zcn false r;have h2:=zcn true r;have e:=ze9 b r;by_cases hb:zd3 b=true
  ·rw[if_pos hb] at e
   rw[e,Nat.add_comm 1,List.drop_succ_cons];exact h1
  ·rw[if_neg hb] at e
   by_cases hc:(b==35)=true
   ·rw[if_pos hc] at e
    rw[e,Nat.add_comm 1,List.drop_succ_cons];exact h2
   ·rw[if_neg hc] at e
    rw[e,List.drop_zero,e]
theorem zoA (p:Nat) (l:List UInt8):zdG p l=zdG (p+zaL false l) (l.drop (zaL false l)):=by
 have h0:zaL false (l.drop (zaL false l))=0:=zcn false l;rw[zee p l,zee (p+zaL false l),h0];simp
def znM:Nat→Nat→List UInt8→List (Tok×Nat)
 |0,_,_=>[]
 |f+1,p,l=>
  match l.drop (zaL false l) with
  |[]=>[]
  |b::r=>
   (⟨(zb4 (b::r)).1,(b::r).take (zb4 (b::r)).2.1,p+zaL false l⟩,(zb4 (b::r)).2.2)::
     (if(zb4 (b::r)).2.2=0 then znM f (p+zaL false l+(zb4 (b::r)).2.1) ((b::r).drop (zb4 (b::r)).2.1) else[])
def zeM (p:Nat) (l:List UInt8):List (Tok×Nat):=znM (l.length+1) p l
theorem zgj: ∀(f g p:Nat) (l:List UInt8),l.length<f→l.length<g→znM f p l=znM g p l
 |0,_,_,_,h,_=>absurd h (by omega)
 |_+1,0,_,_,_,h=>absurd h (by omega)
 |f+1,g+1,p,l,hf,hg=>by
  unfold znM;have hd:(l.drop (zaL false l)).length≤l.length:=by rw[List.length_drop];omega
  cases h:l.drop (zaL false l) with
  |nil=>rfl
  |cons b r=>
   rw[h] at hd;simp only[List.length_cons] at hd;simp only
   split
   ·rename_i h0
    have hp:=zdu b r h0;have hl:((b::r).drop (zb4 (b::r)).2.1).length<l.length:=by rw[List.length_drop,List.length_cons];omega
    rw[zgj f g _ _ (by omega) (by omega)]
   ·rfl
theorem zew (p:Nat) (l:List UInt8):zeM p l=match l.drop (zaL false l) with
  |[]=>[]
  |b::r=>
   (⟨(zb4 (b::r)).1,(b::r).take (zb4 (b::r)).2.1,p+zaL false l⟩,(zb4 (b::r)).2.2)::
     (if(zb4 (b::r)).2.2=0 then zeM (p+zaL false l+(zb4 (b::r)).2.1) ((b::r).drop (zb4 (b::r)).2.1) else[]):=by
 unfold zeM;have hd:(l.drop (zaL false l)).length≤l.length:=by rw[List.length_drop];omega
 conv=>lhs;unfold znM
 cases h:l.drop (zaL false l) with
 |nil=>rfl
 |cons b r=>
  rw[h] at hd;simp only[List.length_cons] at hd;simp only
  split
  ·rename_i h0
   have hp:=zdu b r h0;have hl:((b::r).drop (zb4 (b::r)).2.1).length<l.length:=by rw[List.length_drop,List.length_cons];omega
   rw[zgj l.length (((b::r).drop (zb4 (b::r)).2.1).length+1) _ _ (by omega) (by omega)]
  ·rfl
theorem zgf (p:Nat) (l:List UInt8):zeM p l=zeM (p+zaL false l) (l.drop (zaL false l)):=by
 have h0:zaL false (l.drop (zaL false l))=0:=zcn false l;rw[zew p l,zew (p+zaL false l),h0];simp
theorem zfI: ∀(n p:Nat) (l:List UInt8),l.length≤n→((zdG p l).2.2=0→zeM p l=(zdG p l).1.map (·,0)∧(zdG p l).2.1=0)∧
 ((zdG p l).2.2≠0→ ∃t:Tok,zeM p l=(zdG p l).1.map (·,0)++[(t,(zdG p l).2.2)]∧t.at_=(zdG p l).2.1)
 |n,p,l,hn=>by
  rw[zee,zew];have hd:(l.drop (zaL false l)).length≤l.length:=by rw[List.length_drop];omega
  cases h:l.drop (zaL false l) with
  |nil=>simp
  |cons b r=>
   rw[h] at hd;simp only[List.length_cons] at hd;simp only;by_cases h0:(zb4 (b::r)).2.2=0
   ·have hp:=zdu b r h0
    have hl:((b::r).drop (zb4 (b::r)).2.1).length<l.length:=by rw[List.length_drop,List.length_cons];omega
    cases n with
    |zero=>omega
    |succ n=>
     have ih:=zfI n (p+zaL false l+(zb4 (b::r)).2.1) ((b::r).drop (zb4 (b::r)).2.1) (by omega);rw[if_pos h0,if_pos h0];refine⟨fun he=> ?_,fun he=> ?_⟩
     ·obtain⟨i1,i2⟩:=ih.1 he
      exact⟨by rw[i1];simp[h0],i2⟩
     ·obtain⟨t,i1,i2⟩:=ih.2 he
      exact⟨t,by rw[i1];simp[h0],i2⟩
   ·rw[if_neg h0,if_neg h0]
    exact⟨fun he=>absurd he h0,fun _=>⟨_,rfl,rfl⟩⟩
theorem zj9: ∀(n p:Nat) (l:List UInt8),l.length≤n→ ∀pre x suf,zeM p l=pre++x::suf→(∀y∈pre,y.2=0)∧(x.2≠0→suf=[])
 |n,p,l,hn,pre,x,suf,he=>by
  have h0:=zfI n p l hn;by_cases hz:(zdG p l).2.2=0
  ·have h1:=(h0.1 hz).1
   rw[h1] at he;have ha: ∀y∈pre++x::suf,y.2=0:=by
    rw[←he];intro y hy;obtain⟨t,_,rfl⟩:=List.mem_map.1 hy
    rfl
   exact⟨fun y hy=>ha y (by simp[hy]),fun hx=>absurd (ha x (by simp)) hx⟩
  ·obtain⟨t,h1,_⟩:=h0.2 hz
   rw[h1] at he;rcases List.eq_nil_or_concat suf with rfl|⟨suf,z,rfl⟩
   ·refine⟨fun y hy=> ?_,fun _=>rfl⟩
    have hi:=List.append_inj' he.symm (by simp);rw[hi.1] at hy;obtain⟨t,_,rfl⟩:=List.mem_map.1 hy
    rfl
   ·have he2:List.map (fun x=>(x,0)) (zdG p l).1++[(t,(zdG p l).2.2)]=(pre++x::suf)++[z]:=by rw[he];simp
    have hi:=(List.append_inj' he2 (by simp)).1;have ha: ∀y∈pre++x::suf,y.2=0:=by
     rw[←hi];intro y hy;obtain⟨t,_,rfl⟩:=List.mem_map.1 hy
     rfl
    exact⟨fun y hy=>ha y (by simp[hy]),fun hx=>absurd (ha x (by simp)) hx⟩
open Go.MuLone (run_callFunc_enter)
def zdC:UInt8→Bool:=zfZ ⟨#[32,9,10,13]⟩
def zkt:UInt8→Bool:=zfZ ⟨#[35]⟩
def zcQ:UInt8→Bool:=fun b=>b != 10
theorem zf4 (b:UInt8):zdC b=zd3 b:=by
 show[32,9,10,13].contains b=zd3 b
 simp only[zd3,List.contains_cons,List.contains_nil,Bool.or_false,Bool.or_assoc]
theorem zhS (b:UInt8):zkt b=(b==35):=by
 show[35].contains b=(b==35)
 simp only[List.contains_cons,List.contains_nil,Bool.or_false]
def zbr (src:ByteArray) (j:Nat):Nat:=j+zaL false ((zax src).drop j)
theorem zlH (p:UInt8→Bool) (l:List UInt8):l.drop (l.takeWhile p).length=l.dropWhile p:=by
 conv=>lhs;arg 2;rw[←List.takeWhile_append_dropWhile (p:=p) (l:=l)]
 rw[List.drop_left]
theorem ze7: ∀l:List UInt8,zaL false l=(l.takeWhile zdC).length+zaL false (l.dropWhile zdC)
 |[]=>rfl
 |b::r=>by
  by_cases hb:zdC b=true
  ·rw[List.takeWhile_cons,if_pos hb,List.dropWhile_cons,if_pos hb,List.length_cons,ze9,if_pos (by rw[←zf4];exact hb),ze7 r]
   omega
  ·rw[List.takeWhile_cons,if_neg hb,List.dropWhile_cons,if_neg hb]
   simp
theorem zf6: ∀l:List UInt8,zaL true l=(l.takeWhile zcQ).length+zaL false (l.dropWhile zcQ)
 |[]=>rfl
 |b::r=>by
  by_cases hb:zcQ b=true
  ·have h10:(b==10)=false:=by simpa [zcQ] using hb
   rw[List.takeWhile_cons,if_pos hb,List.dropWhile_cons,if_pos hb,List.length_cons,zhb,h10,zf6 r];simp;omega
  ·have h10:b=10:=by simpa [zcQ] using hb
   rw[List.takeWhile_cons,if_neg hb,List.dropWhile_cons,if_neg hb,zhb,ze9,h10];simp[zd3]
theorem zc3 (p:UInt8→Bool) (src:ByteArray) (j:Nat) (hj:j≤src.size):j≤zbF p src j∧zbF p src j≤src.size:=by
 unfold zbF;have h:=(List.takeWhile_prefix (l:=(zax src).drop j) p).length_le;have hl:(zax src).length=src.size:=by simp[zax]
 rw[List.length_drop,hl] at h;exact⟨by omega,by omega⟩
theorem zex (p:UInt8→Bool) (src:ByteArray) (j:Nat):(zax src).drop (zbF p src j)=((zax src).drop j).dropWhile p:=by
 unfold zbF;rw[←List.drop_drop,zlH]
theorem zgB (src:ByteArray) (j:Nat):zbr src (zbF zdC src j)=zbr src j:=by
 unfold zbr;rw[zex,ze7 ((zax src).drop j)];unfold zbF
 omega
theorem zgY (src:ByteArray) (j:Nat) (hj:j<src.size) (h:src[j]=35):zbr src (zbF zcQ src j)=zbr src j:=by
 unfold zbr;rw[zex];unfold zbF;rw[zbk src j hj,h,ze9,List.takeWhile_cons,List.dropWhile_cons];simp only[show zd3 35=false from by decide,show zcQ 35=true from by decide,show((35:UInt8)==35)=true from by decide];rw[zf6];simp;omega
theorem zik (p:UInt8→Bool) (src:ByteArray) (j:Nat) (hj:zbF p src j<src.size):p src[zbF p src j]=false:=by
 have h:=zex p src j;rw[zbk src _ hj] at h;have h2:=List.head?_dropWhile_not p ((zax src).drop j);rw[←h] at h2
 simpa using h2
theorem zg9 (src:ByteArray) (j:Nat) (hb:(j<src.size)→ ∃h:j<src.size,zdC src[j]=false∧zkt src[j]=false) (_hj:j≤src.size):zbr src j=j:=by
 unfold zbr;rcases Nat.lt_or_ge j src.size with h|h
 ·obtain⟨_,h1,h2⟩:=hb h
  rw[zbk src j h,ze9,←zf4,h1,←zhS,h2];simp
 ·rw[List.drop_eq_nil_of_le (by simpa [zax] using h)]
  simp[zaL]
theorem zly (b:UInt8) (W:World):Calls prog 321 #[.int .u8 (b.toNat:Int)] W fun e W'=>e= .returned (.bool (zcQ b))∧Below W.heap.size W W':=by
 have HL:Hid (zcQ b= !decide (b.toNat=10)):=by
  show zcQ b=_
  unfold zcQ;rw[Bool.eq_iff_iff];simp[bne_iff_ne,←UInt8.toNat_inj]
 generalize b.toNat=n at *;by_cases h:n=10
 ·have HR:=zaa (show zcQ b=false by rw[HL.out];simp[h])
  have h1:((n:Int) != 10)=false:=by simp;omega
  clear h
  go_enter func321,ntmps321
  go_wp2_with fail;go_ret;exact⟨by rw[HR.out];simp at h1;simp,Below.refl _ _⟩
 ·have HR:=zaa (show zcQ b=true by rw[HL.out];simp[h])
  have h1:((n:Int) != 10)=true:=by simp;omega
  clear h
  go_enter func321,ntmps321
  go_wp2_with fail;go_ret;exact⟨by rw[HR.out];simp at h1;simp,Below.refl _ _⟩
theorem znt (w:World):IsT (fun _=>False) w 321 #[] zcQ:=
 ⟨fun k h=>h.elim,fun args W=>run_callFunc_enter (c:=((Tryz.f321).body.getD .skip)) func321 (by kernel_rfl) (by kernel_rfl) args W,fun W _ b=>zly b W⟩
theorem AtJ.belowD {sb j:Nat} {a b c:World} (h:AtJ sb j a b) (hsb:sb<a.heap.size) (k:Below b.drew.heap.size b.drew c):AtJ sb j a c:=
 h.below hsb (((Below.refl _ _).drew).trans k)
structure SkR (src:ByteArray) (k j:Nat):Prop where
 le:j≤src.size
 to:zbr src j=zbr src k
 stop: ∀h:j<src.size,zdC src[j]=false
theorem SkR.start (src:ByteArray) (k:Nat) (hk:k≤src.size):SkR src k (zbF zdC src k):=
 ⟨(zc3 _ _ _ hk).2,zgB src k,fun h=>zik _ _ _ h⟩
theorem SkR.step {src:ByteArray} {k j:Nat} (h:SkR src k j) (hj:j<src.size) (hh:zkt src[j]=true):SkR src k (zbF zdC src (zbF zcQ src j))∧j<zbF zdC src (zbF zcQ src j):=by
 have e:src[j]=35:=by rw[zhS] at hh;simpa using hh
 have h1:=zgd zcQ src j hj (by rw[e];rfl);have h2:=zc3 zcQ src (j+1) hj;rw[h1] at h2;have h3:=zc3 zdC src (zbF zcQ src j) h2.2;have h4:=SkR.start src (zbF zcQ src j) h2.2;exact⟨⟨h3.2,h4.to.trans ((zgY src j hj e).trans h.to),h4.stop⟩,by omega⟩
theorem SkR.done {src:ByteArray} {k j:Nat} (h:SkR src k j) (hh: ∀hj:j<src.size,zkt src[j]=false):zbr src k=j:=by
 rw[←h.to];exact zg9 src j (fun hj=>⟨hj,h.stop hj,hh hj⟩) h.le
theorem zmr {sb:Nat} {w:World} (h:sb<w.heap.size):Hid (∀i,(fun k=>k=w.heap.size) i→i≠sb):=zaa fun i hi e=>by have hi':i=w.heap.size:=hi;omega
theorem zeJ (sb f k:Nat) (caps:Array Value) (p:UInt8→Bool) (F:Nat→Prop) (src:ByteArray) (W:World) (c0:W.cell? ⟨sb,0,none⟩=some (.string src)) (c1:W.cell? ⟨sb,1,none⟩=some (.int .i64 (k:Int))) (hk:k<src.size) (hs:src.size≤1099511627776) (hT:Hid (IsT F W f caps p)) (v:Bool) (hv:p src[k]=v):
 Calls prog 320 #[.pointer (some ⟨sb,0,none⟩),.func (.func f) #[] caps] W fun e W'=>e= .returned (.bool v)∧Below W.heap.size W W':=by
 subst hv;exact zhU sb f k caps p F src W c0 c1 hk hs hT
theorem zlk (sb k:Nat) (src:ByteArray) (W:World) (c0:Hid (W.cell? ⟨sb,0,none⟩=some (.string src))) (c1:Hid (W.cell? ⟨sb,1,none⟩=some (.int .i64 (k:Int)))) (cf:Hid (W.frozen? ⟨sb,1,none⟩=false)) (hk:k≤src.size) (hs:src.size≤1099511627776):
 Calls prog 298 #[.pointer (some ⟨sb,0,none⟩)] W fun e W'=>e= .returned (.tuple #[])∧AtJ sb (zbr src k) W W':=by
 have hsb:sb<W.heap.size:=World.block_lt_of_cell? W ⟨sb,0,none⟩ c0.out;have HA:=zaa (fun s w=>zfb s w);have HJ0:=zaa (AtJ.start c1.out cf.out)
 go_enter func298,ntmps298
 go_wp2_with fail
 go_region_held3 (fun w'=>True) (trivial)
  (first
    |(go_at_call 296;refine(HA.out _ _).mono ?_;rintro e w1 ⟨k1,rfl,hT1,hb1⟩;have HT1:=zaa hT1;have HJ1:=zaa (HJ0.out.belowD hsb hb1);clear hT1 hb1)
    |(go_at_call 319;refine(zdQ sb _ k _ _ _ src _ (zaa ((HJ1.out.rest 0 (by decide)).trans c0.out)) (zaa HJ1.out.here) (zaa HJ1.out.free) (by assumption) hs HT1 (zmr (Nat.lt_of_lt_of_le hsb HJ0.out.kept.size))).mono ?_;rintro e w2 ⟨rfl,hJ2⟩;have HJ2:=zaa (HJ1.out.trans hJ2);clear hJ2))
 go_wp2_with fail
 go_loopw [] (fun wr=> ∃j:Nat,SkR src k j∧AtJ sb j W wr) (fun wr=>src.size-zfo sb wr)
 case atStart=>exact⟨_,SkR.start src k hk,HJ2.out⟩
 case round=>
  obtain⟨j,hR,hJ⟩:=hrel;have HR:=zaa hR;have HJ:=zaa hJ;have hj:j≤src.size:=hR.le;clear hR hJ;by_cases hlt:j<src.size
  ·cases hh:zkt src[j]
   ·have HD:=zaa (HR.out.done (fun _=>hh))
    have HH:Hid (zfZ ⟨#[35]⟩ src[j]=false):=zaa hh;clear hh;go_wp2_with fail
    go_region_held3 (fun w'=>True) (trivial)
     (first
       |(go_at_call 296;refine(HA.out _ _).mono ?_;rintro e w1 ⟨k1,rfl,hT1,hb1⟩;have HT1:=zaa hT1;have HJ1:=zaa (HJ.out.belowD hsb hb1);clear hT1 hb1)
       |(go_at_call 320;refine(zeJ sb _ j _ _ _ src _ ((HJ1.out.rest 0 (by decide)).trans c0.out) HJ1.out.here hlt hs HT1 false HH.out).mono ?_;rintro e w2 ⟨rfl,hb2⟩;have HJ2:=zaa (HJ1.out.below hsb hb2);clear hb2))
    go_wp2_with fail
    go_end0
    exact⟨rfl,by rw[HD.out];exact HJ2.out⟩
   ·have HS:=zaa (HR.out.step hlt hh)
    have HH:Hid (zfZ ⟨#[35]⟩ src[j]=true):=zaa hh;have hr1:=(zc3 zcQ src j hj).2;clear hh;go_wp2_with fail
    go_region_held3 (fun w'=>True) (trivial)
     (first
       |(go_at_call 296;refine(HA.out _ _).mono ?_;rintro e w1 ⟨k1,rfl,hT1,hb1⟩;have HT1:=zaa hT1;have HJ1:=zaa (HJ.out.belowD hsb hb1);clear hT1 hb1)
       |(go_at_call 320;refine(zeJ sb _ j _ _ _ src _ ((HJ1.out.rest 0 (by decide)).trans c0.out) HJ1.out.here hlt hs HT1 true HH.out).mono ?_;rintro e w2 ⟨rfl,hb2⟩;have HJ2:=zaa (HJ1.out.below hsb hb2);clear hb2))
    clear HJ1 HT1;go_wp2_with fail;refine(zdQ sb _ j _ _ _ src _ (zaa ((HJ2.out.rest 0 (by decide)).trans c0.out)) (zaa HJ2.out.here) (zaa HJ2.out.free) hj hs (zaa (znt _)) (zaa (fun i hi=>hi.elim))).mono ?_;rintro e w3 ⟨rfl,hJ3⟩;have HJ3:=zaa (HJ2.out.trans hJ3);clear hJ3;go_wp2_with fail
    go_region_held3 (fun w'=>True) (trivial)
     (first
       |(go_at_call 296;refine(HA.out _ _).mono ?_;rintro e w1 ⟨k1,rfl,hT1,hb1⟩;have HT1:=zaa hT1;have HJ1:=zaa (HJ3.out.belowD hsb hb1);clear hT1 hb1)
       |(go_at_call 319;refine(zdQ sb _ (zbF zcQ src j) _ _ _ src _ (zaa ((HJ1.out.rest 0 (by decide)).trans c0.out)) (zaa HJ1.out.here) (zaa HJ1.out.free) (by assumption) hs HT1 (zmr (Nat.lt_of_lt_of_le hsb HJ3.out.kept.size))).mono ?_;rintro e w2 ⟨rfl,hJ2⟩;have HJ4:=zaa (HJ1.out.trans hJ2);clear hJ2))
    go_wp2_with fail;have m2:zfo sb wr=j:=by unfold zfo;rw[HJ.out.here];simp[intOf]
    have m1:zfo sb w2=zbF zdC src (zbF zcQ src j):=by unfold zfo;rw[HJ4.out.here];simp[intOf];rfl
    have HM:=zaa (show src.size-zfo sb w2<src.size-zfo sb wr by rw[m1,m2];have:=HS.out.2;omega);clear m1 m2;go_roundw
    case rel=>exact⟨_,HS.out.1,HJ4.out⟩
    case measure=>exact HM.out
  ·have HD:=zaa (HR.out.done (fun h=>absurd h hlt))
   go_wp2_with fail
   go_region_held3 (fun w'=>True) (trivial)
    (first
      |(go_at_call 296;refine(HA.out _ _).mono ?_;rintro e w1 ⟨k1,rfl,hT1,hb1⟩;have HT1:=zaa hT1;have HJ1:=zaa (HJ.out.belowD hsb hb1);clear hT1 hb1)
      |(go_at_call 320;refine(zhI sb j _ src _ ((HJ1.out.rest 0 (by decide)).trans c0.out) HJ1.out.here (Nat.le_of_not_lt hlt) hs).mono ?_;rintro e w2 ⟨rfl,hb2⟩;have HJ2:=zaa (HJ1.out.below hsb hb2);clear hb2))
   go_wp2_with fail
   go_end0
   exact⟨rfl,by rw[HD.out];exact HJ2.out⟩
open Go
def zjx (s:List UInt8):Bool:=match Lib.atoiAll s with
 | .ok v=>decide (v≤1073741824)&&(Lib.itoa v==s)
 |_=>false
def zc9 (a:Nat) (s:List UInt8):Nat:=s.foldl (fun n b=>n*10+zfA b) a
theorem zfQ: ∀(s:List UInt8) (a:Nat),a≤zc9 a s
 |[],a=>Nat.le_refl _
 |b::r,a=>by
  have:=zfQ r (a*10+zfA b)
  show a≤zc9 (a*10+zfA b) r
  omega
theorem zcl (b:UInt8):zbc b=true↔48≤b.toNat∧b.toNat≤57:=by simp[zbc]
theorem zhL: ∀(s:List UInt8) (a u:Nat),Lib.parseUint10 a s= .ok u→s.all zbc=true∧u=zc9 a s
 |[],a,u,h=>by
  simp only[Lib.parseUint10] at h;injection h with h
  exact⟨rfl,h.symm⟩
 |b::r,a,u,h=>by
  simp only[Lib.parseUint10] at h
  split at h
  ·rename_i hd
   split at h
   ·cases h
   ·split at h
    ·cases h
    ·obtain⟨h1,h2⟩:=zhL r _ u h
     exact⟨by rw[List.all_cons,h1,(zcl b).2 hd];rfl,h2⟩
  ·cases h
theorem zhG: ∀(s:List UInt8) (a:Nat),s.all zbc=true→zc9 a s≤1073741824→Lib.parseUint10 a s= .ok (zc9 a s)
 |[],a,_,_=>rfl
 |b::r,a,h,hv=>by
  rw[List.all_cons,Bool.and_eq_true] at h;have hd:=(zcl b).1 h.1;have e:zc9 a (b::r)=zc9 (a*10+zfA b) r:=rfl;rw[e] at hv ⊢;have h2:=zfQ r (a*10+zfA b);have ih:=zhG r (a*10+zfA b) h.2 hv;unfold zfA at *;simp only[Lib.parseUint10];rw[if_pos hd,if_neg (by omega),if_neg (by omega)];exact ih
theorem zf7 (u:Nat):Lib.decDigits u=if u<10 then[(48+u).toUInt8] else Lib.decDigits (u/10)++[(48+u % 10).toUInt8]:=by
 conv=>lhs;unfold Lib.decDigits
 split<;>rfl
theorem zn9 (b:UInt8) (h:zbc b=true):(48+zfA b).toUInt8=b:=by
 have hd:=(zcl b).1 h;unfold zfA;rw[show 48+(b.toNat-48)=b.toNat from by omega];simp
theorem zi5 (b:UInt8) (h:zbc b=true):zfA b<10:=by
 have hd:=(zcl b).1 h;unfold zfA;omega
theorem ziF (a:Nat) (s:List UInt8) (d:UInt8):zc9 a (s++[d])=zc9 a s*10+zfA d:=by simp[zc9]
theorem zj2 (b:UInt8) (r:List UInt8) (hb:zbc b=true) (h0:b≠48):1≤zc9 0 (b::r):=by
 have h:=zfQ r (0*10+zfA b);have hd:=(zcl b).1 hb;have hn:b.toNat≠48:=fun e=>h0 (UInt8.toNat_inj.1 e)
 show 1≤zc9 (0*10+zfA b) r
 unfold zfA at *
 omega
theorem zjH: ∀(n:Nat) (b:UInt8) (r:List UInt8),r.length≤n→(b::r).all zbc=true→(r=[]∨b≠48)→Lib.decDigits (zc9 0 (b::r))=b::r
 |n,b,r,hn,ha,h0=>by
  rcases List.eq_nil_or_concat r with rfl|⟨r',d,rfl⟩
  ·rw[List.all_cons,Bool.and_eq_true] at ha
   have hv:zc9 0 [b]=zfA b:=by simp[zc9]
   have:=zi5 b ha.1;rw[hv,zf7,if_pos this,zn9 b ha.1]
  ·cases n with
   |zero=>simp at hn
   |succ n=>
    have hb:b≠48:=by rcases h0 with h0|h0;simp at h0;exact h0
    have ha2:(b::r').all zbc=true∧zbc d=true:=by simpa [List.all_cons,List.all_append,Bool.and_eq_true,and_assoc] using ha
    have hbd:zbc b=true:=by have:=ha2.1;rw[List.all_cons,Bool.and_eq_true] at this;exact this.1
    have ih:=zjH n b r' (by simp at hn;omega) ha2.1 (.inr hb);have hp:=zj2 b r' hbd hb;have hd:=zi5 d ha2.2;have e:b::r'.concat d=(b::r')++[d]:=by rw[List.concat_eq_append];rfl
    rw[e,ziF,zf7,if_neg (by omega),show(zc9 0 (b::r')*10+zfA d)/10=zc9 0 (b::r') from by omega,show(zc9 0 (b::r')*10+zfA d) % 10=zfA d from by omega,ih,zn9 d ha2.2]
theorem zhn: ∀(n u:Nat),u≤n→0<u→ ∃b r,Lib.decDigits u=b::r∧b≠48
 |n,u,hn,h=>by
  by_cases h10:u<10
  ·refine⟨_,_,by rw[zf7,if_pos h10],fun e=> ?_⟩
   have:=congrArg UInt8.toNat e;simp at this
   omega
  ·cases n with
   |zero=>omega
   |succ n=>
    obtain⟨b,r,e,hb⟩:=zhn n (u/10) (by omega) (by omega);exact⟨b,r++[(48+u % 10).toUInt8],by rw[zf7,if_neg h10,e];rfl,hb⟩
theorem zht (b:UInt8) (r:List UInt8) (hb:zbc b=true) (v:Int) (h:Lib.atoiAll (b::r)= .ok v): ∃u:Nat,Lib.parseUint10 0 (b::r)= .ok u∧v=u:=by
 have hd:=(zcl b).1 hb;have h1: ¬(b.toNat=43∨b.toNat=45):=by omega
 have h2: ¬b.toNat=45:=by omega
 unfold Lib.atoiAll Lib.parseMag at h;simp only[h1,if_false,reduceCtorEq] at h
 cases hp:Lib.parseUint10 0 (b::r) with
 |ok u=>
  rw[hp] at h;simp only[h2,not_false_eq_true,true_and,false_and,if_false] at h
  split at h
  ·cases h
  ·injection h with h
   exact⟨u,rfl,h.symm⟩
 |_=>rw[hp] at h;cases h
theorem zkS (b:UInt8) (r:List UInt8) (hb:zbc b=true) (u:Nat) (hp:Lib.parseUint10 0 (b::r)= .ok u) (hu:u<9223372036854775808):Lib.atoiAll (b::r)= .ok (u:Int):=by
 have hd:=(zcl b).1 hb;have h1: ¬(b.toNat=43∨b.toNat=45):=by omega
 have h2: ¬b.toNat=45:=by omega
 unfold Lib.atoiAll Lib.parseMag;simp only[h1,if_false,reduceCtorEq];rw[hp];simp only[h2,not_false_eq_true,true_and,false_and,if_false];rw[if_neg (by omega)]
theorem zne (b:UInt8) (r:List UInt8) (hb:zbc b=true):zjx (b::r)=zns (b::r):=by
 rw[Bool.eq_iff_iff];have hv:zpn (b::r)=zc9 0 (b::r):=rfl
 constructor
 ·intro h
  unfold zjx at h
  cases hx:Lib.atoiAll (b::r) with
  |ok v=>
   rw[hx] at h;obtain⟨u,hp,rfl⟩:=zht b r hb v hx;obtain⟨h1,h2⟩:=zhL _ _ _ hp;simp only[Bool.and_eq_true,decide_eq_true_eq,beq_iff_eq] at h;have hi:Lib.itoa (u:Int)=Lib.decDigits u:=by unfold Lib.itoa;rw[if_neg (by omega)];simp
   rw[hi] at h;unfold zns;rw[h1,hv,←h2];have hu:u≤1073741824:=by omega
   cases r with
   |nil=>simp[hu]
   |cons c r=>
    have hz:b≠48:=by
     intro e;subst e;by_cases hu0:u=0
     ·subst hu0
      have:=h.2;rw[zf7,if_pos (by decide)] at this;simp at this
     ·obtain⟨b',r',e,hb'⟩:=zhn u u (Nat.le_refl _) (by omega)
      rw[e] at h;exact hb' (by have:=h.2;injection this)
    simp[hu,hz]
  |_=>rw[hx] at h;cases h
 ·intro h
  unfold zns at h;simp only[Bool.and_eq_true,decide_eq_true_eq] at h;obtain⟨⟨h1,h2⟩,h3⟩:=h;rw[hv] at h3;have hp:=zhG (b::r) 0 h1 h3;unfold zjx;rw[zkS b r hb _ hp (by omega)];simp only[Bool.and_eq_true,decide_eq_true_eq,beq_iff_eq];refine⟨by omega,?_⟩;have hi:Lib.itoa (zc9 0 (b::r):Int)=Lib.decDigits (zc9 0 (b::r)):=by unfold Lib.itoa;rw[if_neg (by omega)];simp
  rw[hi];refine zjH r.length b r (Nat.le_refl _) h1 ?_
  cases r with
  |nil=>exact .inl rfl
  |cons c r=>right;simpa using h2
theorem zo6:prog.globalNamed "internal/strconv.uint64pow10" =some 3:=by kernel_rfl
theorem zlD:prog.globalNamed "strconv.ErrSyntax" =some 6:=by kernel_rfl
theorem zma:prog.globalNamed "strconv.ErrRange" =some 7:=by kernel_rfl
structure Env (w:World):Prop where
 tab:Lib.TabIs prog w "internal/strconv.uint64pow10" .u64 Lib.pow10Tab
 errS: ∃tp p,w.var? prog "strconv.ErrSyntax" =some #[.iface tp p]
 errR: ∃tp p,w.var? prog "strconv.ErrRange" =some #[.iface tp p]
 big:3<w.heap.size∧6<w.heap.size∧7<w.heap.size
theorem Env.keptB {B:Nat} {w w':World} (h:Env w) (hb:Below B w w') (hB:8≤B):Env w':=by
 obtain⟨t1,p1,h1⟩:=h.errS;obtain⟨t2,p2,h2⟩:=h.errR;obtain⟨b1,b2,b3⟩:=h.big;refine⟨?_,⟨t1,p1,var?_below hb zlD (by omega) h1⟩,⟨t2,p2,var?_below hb zma (by omega) h2⟩,Nat.lt_of_lt_of_le b1 hb.size,Nat.lt_of_lt_of_le b2 hb.size,Nat.lt_of_lt_of_le b3 hb.size⟩;have ht:=h.tab;unfold Lib.TabIs at ht ⊢;exact var?_below hb zo6 (by omega) ht
theorem Env.kept {w w':World} (h:Env w) (hb:Below w.heap.size w w'):Env w':=by
 obtain⟨t1,p1,h1⟩:=h.errS;obtain⟨t2,p2,h2⟩:=h.errR;obtain⟨b1,b2,b3⟩:=h.big;refine⟨?_,⟨t1,p1,var?_below hb zlD b2 h1⟩,⟨t2,p2,var?_below hb zma b3 h2⟩,Nat.lt_of_lt_of_le b1 hb.size,Nat.lt_of_lt_of_le b2 hb.size,Nat.lt_of_lt_of_le b3 hb.size⟩;have ht:=h.tab;unfold Lib.TabIs at ht ⊢;exact var?_below hb zo6 b1 ht
theorem ziA {w:World} (k:Nat) (os:Array Obj):Below w.heap.size w (Go.Sort.grow (w.drewN k) os):=by
 refine⟨rfl,rfl,rfl,?_,fun i hi=> ?_⟩
 ·show _≤(w.heap++os).size;simp
 ·show(w.heap++os)[i]? =_;rw[Array.getElem?_append_left hi]
theorem zdY (n:Int) (w:World) (hE:Env w) (h0: -9223372036854775808≤n) (h1:n≤9223372036854775807):Calls prog 142 #[.int .i64 n] w fun e w'=>e= .returned (.string ⟨(Lib.itoa n).toArray⟩)∧Below w.heap.size w w':=
 (Tryz.strconv_Itoa n h0 h1 w hE.tab).mono fun _ _ ⟨h,k,os,hw⟩=>⟨h,by rw[hw];exact ziA k os⟩
theorem znA (s:ByteArray) (hs:s.size≤1099511627776) (w:World) (hE:Env w) (hno: ∀v,Lib.atoiAll s.data.toList≠ .ok v):
 Calls prog 332 #[.string s] w fun e w'=> ∃v N,e= .returned (.tuple #[.int .i64 v,.iface 334 (.pointer (some ⟨N,0,none⟩))])∧Below w.heap.size w w':=by
 obtain⟨t1,p1,h1⟩:=hE.errS;obtain⟨t2,p2,h2⟩:=hE.errR
 cases hx:Lib.atoiAll s.data.toList with
 |ok v=>exact absurd hx (hno v)
 |range=>exact(Any.strconv_Atoi_range_var Tryz.laysC172 s (by omega) hx t2 p2 w h2).mono fun e w' ⟨N,he,_,_,hb⟩=>⟨_,N,he,hb⟩
 |_=>exact(Any.strconv_Atoi_syntax_var Tryz.laysC172 s (by omega) hx t1 p1 w h1).mono fun e w' ⟨N,he,_,_,hb⟩=>⟨_,N,he,hb⟩
theorem zlI (s:ByteArray) (hs:s.size≤1099511627776) (w:World) (v:Int) (hv:Lib.atoiAll s.data.toList= .ok v):
 Calls prog 332 #[.string s] w fun e w'=>e= .returned (.tuple #[.int .i64 v,.nilIface])∧Below w.heap.size w w':=
 (Tryz.strconv_Atoi_ok s (by omega) v hv w).mono fun e w' ⟨he,hw⟩=>⟨he,by
   rcases hw with rfl|⟨t,rfl⟩
   ·exact Below.refl _ _
   ·exact⟨rfl,rfl,rfl,by rw[Lib.bytesWorld_size];omega,fun j hj=>Lib.bytesWorld_at_old _ _ _ j hj⟩⟩
theorem ziz (s:ByteArray) (w:World) (hs:s.size≤1099511627776) (hE:Hid (Env w)) (hd:Hid (∃b r,s.data.toList=b::r∧zbc b=true)):Calls prog 322 #[.string s] w fun e w'=>e= .returned (.bool (zjx s.data.toList))∧Below w.heap.size w w':=by
 by_cases hno: ∀v,Lib.atoiAll s.data.toList≠ .ok v
 ·have HR:=zaa (show zjx s.data.toList=false by
   unfold zjx
   cases hx:Lib.atoiAll s.data.toList with
   |ok v=>exact absurd hx (hno v)
   |_=>rfl)
  have HA:=zaa (znA s hs w hE.out hno);clear hno
  go_enter func322,ntmps322
  go_wp2_with fail;refine HA.out.mono ?_;rintro e w1 ⟨v,N,rfl,hb⟩;have HB:=zaa hb;clear hb;go_wp2_with fail;go_ret;exact⟨by rw[HR.out];rfl,HB.out⟩
 ·have hyes: ∃v,Lib.atoiAll s.data.toList= .ok v:=by
   by_cases h: ∃v,Lib.atoiAll s.data.toList= .ok v
   ·exact h
   ·exact absurd (fun v hv=>h ⟨v,hv⟩) hno
  obtain⟨v,hv⟩:=hyes;clear hno;have HC:=zaa (show zjx s.data.toList=(decide (v≤1073741824)&&(Lib.itoa v==s.data.toList)) by unfold zjx;rw[hv]);have HA:=zaa (zlI s hs w v hv);have hv0:0≤v:=by
   obtain⟨b,r,e,hb⟩:=hd.out;rw[e] at hv;obtain⟨u,_,rfl⟩:=zht b r hb v hv
   omega
  clear hv;by_cases hle:v≤1073741824
  ·have HC2:=zaa (show zjx s.data.toList=(Lib.itoa v==s.data.toList) by rw[HC.out];simp[hle])
   have HI:=zaa (fun w (hE:Env w)=>zdY v w hE (by omega) (by omega));have hle2:decide (v≤1073741824)=true:=by simp;omega
   go_enter func322,ntmps322
   go_wp2_with fail;refine HA.out.mono ?_;rintro e w1 ⟨rfl,hb⟩;have HB:=zaa hb;clear hb;go_wp2_with fail;refine(HI.out _ (hE.out.kept HB.out)).mono ?_;rintro e w2 ⟨rfl,hb⟩;have HB2:=zaa (btZ HB.out hb);clear hb;go_wp2_with fail;go_ret;exact⟨by rw[HC2.out,←ByteArray.toList_eq];rfl,HB2.out⟩
  ·have HR:=zaa (show zjx s.data.toList=false by rw[HC.out];simp[hle])
   have hd:decide (v≤1073741824)=false:=by simp;omega
   go_enter func322,ntmps322
   go_wp2_with fail;refine HA.out.mono ?_;rintro e w1 ⟨rfl,hb⟩;have HB:=zaa hb;clear hb;go_wp2_with fail;go_ret;exact⟨by rw[HR.out];rfl,HB.out⟩
end Go.Proofs.YtgbfaompondolaaGreatDoor
