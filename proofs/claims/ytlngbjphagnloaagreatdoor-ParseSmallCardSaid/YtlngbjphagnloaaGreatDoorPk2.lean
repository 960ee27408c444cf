/- Merged texts of the walks and of the plain laws on which the statement leans.-/
import Derived.Test.YtlngbjphagnloaaGreatDoorPk1
import Derived.Test.YtlngbjphagnloaaGreatDoorShelf
import Derived.Maps.AppendAt
import Derived.Deep.AppendLies
import Derived.Lib.Join
import Derived.WalkLawsBesides
import Derived.Laws.EntriesVeiled
set_option maxHeartbeats 1000000
set_option maxRecDepth 100000
namespace Go.Proofs.YtlngbjphagnloaaGreatDoor
open Tryz
open Go.RowKit
open Go.MuLone (run_callFunc_enter)
def zgw (s:ByteArray) (b:UInt8):Bool:=s.data.toList.contains b
theorem UInt8.ofNat_toNat' (b:UInt8):b.toNat.toUInt8=b:=by simp
theorem ze8: ∀(l:List UInt8) (c:UInt8),(-1≤Lib.indexByte l c)∧(decide (0≤Lib.indexByte l c)=l.contains c)
 |[],c=>by simp[Lib.indexByte]
 |b::l,c=>by
  obtain⟨h1,h2⟩:=ze8 l c;unfold Lib.indexByte;by_cases hb:b==c
  ·rw[if_pos hb]
   have:b=c:=by simpa using hb
   subst this;simp
  ·rw[if_neg hb]
   have hne: ¬c=b:=fun e=>hb (by simp[e])
   have hc:(b::l).contains c=l.contains c:=by simp[hne]
   rw[hc,←h2];by_cases hm:Lib.indexByte l c== -1
   ·rw[if_pos hm]
    have:Lib.indexByte l c= -1:=by simpa using hm
    rw[this];simp
   ·rw[if_neg hm]
    have:Lib.indexByte l c≠ -1:=by simpa using hm
    exact⟨by omega,by rw[decide_eq_decide];omega⟩
theorem znx (xs:Nat) (s:ByteArray) (b:UInt8) (W:World) (h1:Hid (W.heap[xs]? =some (.cells #[.string s] 9 (0,0)))):
 Calls prog 108 #[.int .u8 (b.toNat:Int),.pointer (some ⟨xs,0,none⟩)] W fun e W'=>e= .returned (.bool (zgw s b))∧Below W.heap.size W W':=by
 have c1:=cell_of_row W xs 0 _ _ _ h1.out;simp only[List.getElem?_toArray,List.getElem?_cons_zero] at c1;have HI:=zaa (fun w=>Tryz.strings_IndexByte s (b.toNat:Int) w)
 go_enter func108,ntmps108
 go_wp2_with fail;refine(HI.out _).mono ?_;rintro e w' ⟨rfl,rfl⟩;generalize hx:Lib.indexByte s.data.toList ((b.toNat:Int)).toNat.toUInt8=x;have HX:=zaa (show decide (0≤x)=zgw s b by rw[←hx,(ze8 _ _).2,Int.toNat_natCast,UInt8.ofNat_toNat' b];rfl);clear hx;go_wp2_with fail;go_ret;exact⟨by rw[←HX.out];rfl,Below.refl _ _⟩
theorem zfJ (s:ByteArray) (w:World):Calls prog 72 #[.string s] w fun e w'=> ∃caps,e= .returned (.func (.func 108) #[] caps)∧IsT (fun k=>k=w.heap.size) w' 108 caps (zgw s)∧Below w.heap.size w w':=by
 have HT:Hid (∀w':World,w'.heap[w.heap.size]? =some (.cells #[.string s] 9 (0,0))→IsT (fun k=>k=w.heap.size) w' 108 #[.pointer (some ⟨w.heap.size,0,none⟩)] (zgw s)):=by
  intro w' h1;have hlt:=(zal h1);exact⟨fun k hk=>by omega,fun args W=>run_callFunc_enter (c:=((Tryz.f108).body.getD .skip)) func108 (by kernel_rfl) (by kernel_rfl) args W,fun W hW b=>znx w.heap.size s b W ((hW _ rfl).trans h1)⟩
 go_enter func72,ntmps72
 go_wp2_with fail;go_ret;exact⟨_,rfl,HT.out _ (heap_alloc_new w _),(Below.refl _ _).alloc (Nat.le_refl _) _⟩
attribute [local go_sem] zax.cell
theorem zi0 (sb f k:Nat) (caps:Array Value) (p:UInt8→Bool) (F:Nat→Prop) (src:ByteArray) (W:World) (c0:W.cell? ⟨sb,0,none⟩=some (.string src)) (c1:W.cell? ⟨sb,1,none⟩=some (.int .i64 (k:Int))) (hk:k<src.size) (_hs:src.size≤1099511627776) (hT:Hid (IsT F W f caps p)):
 Calls prog 111 #[.pointer (some ⟨sb,0,none⟩),.func (.func f) #[] caps] W fun e W'=>e= .returned (.bool (p src[k]))∧Below W.heap.size W W':=by
 have hen:=hT.out.enters;have hsb:sb<W.heap.size:=World.block_lt_of_cell? W ⟨sb,0,none⟩ c0;have HC:=zaa (fun s:zax W=>(hT.out.below s.below).says s.w (fun _ _=>rfl) src[k]);have k0:(0:Int)≤(k:Int):=by omega
 have k1:(k:Int)<(src.size:Int):=by omega
 go_enter func111,ntmps111
 go_wp2_with fail;refine zaq (by kernel_rfl) (by kernel_rfl) ?_
 repeat(go_big_quiet_step (exact zax.call (HC.out _)))
 refine wpQuiet_nil ?_;intro _ hw';obtain⟨nq,hw''⟩:=hw';subst hw'';go_wp2_with fail;go_ret;exact⟨rfl,nq.below⟩
theorem ziA (sb k:Nat) (v:Value) (src:ByteArray) (W:World) (c0:W.cell? ⟨sb,0,none⟩=some (.string src)) (c1:W.cell? ⟨sb,1,none⟩=some (.int .i64 (k:Int))) (hk:src.size≤k) (_hs:src.size≤1099511627776):
 Calls prog 111 #[.pointer (some ⟨sb,0,none⟩),v] W fun e W'=>e= .returned (.bool false)∧Below W.heap.size W W':=by
 have hsb:sb<W.heap.size:=World.block_lt_of_cell? W ⟨sb,0,none⟩ c0;have k1:decide (k<src.size)=false:=by simp;omega
 go_enter func111,ntmps111
 go_wp2_with fail;go_quiet (fail);go_wp2_with fail;go_ret;exact⟨rfl,below_drewN (Below.refl _ _) _⟩
structure AtJ (sb j:Nat) (w w':World):Prop where
 kept:zam (fun k=>k=sb) w w'
 here:w'.cell? ⟨sb,1,none⟩=some (.int .i64 (j:Int))
 rest: ∀o,o≠1→w'.cell? ⟨sb,o,none⟩=w.cell? ⟨sb,o,none⟩
 free:w'.frozen? ⟨sb,1,none⟩=false
 hold: ∀o,w'.frozen? ⟨sb,o,none⟩=w.frozen? ⟨sb,o,none⟩
theorem AtJ.trans {sb i j:Nat} {a b c:World} (h:AtJ sb i a b) (k:AtJ sb j b c):AtJ sb j a c:=
 ⟨h.kept.trans k.kept,k.here,fun o ho=>(k.rest o ho).trans (h.rest o ho),k.free,fun o=>(k.hold o).trans (h.hold o)⟩
theorem AtJ.below {sb j:Nat} {a b c:World} (h:AtJ sb j a b) (hsb:sb<a.heap.size) (k:Below b.heap.size b c):AtJ sb j a c:=by
 have hb:sb<b.heap.size:=Nat.lt_of_lt_of_le hsb h.kept.size;exact⟨h.kept.trans (.of_below k),(World.cell?_of_block (w:=b) (k.block sb hb)).trans h.here,fun o ho=>(World.cell?_of_block (w:=b) (k.block sb hb)).trans (h.rest o ho),(World.frozen?_of_block (w:=b) (a:=⟨sb,1,none⟩) (k.block sb hb)).trans h.free,fun o=>(World.frozen?_of_block (w:=b) (a:=⟨sb,o,none⟩) (k.block sb hb)).trans (h.hold o)⟩
theorem AtJ.start {sb j:Nat} {w:World} (c1:w.cell? ⟨sb,1,none⟩=some (.int .i64 (j:Int))) (cf:w.frozen? ⟨sb,1,none⟩=false):AtJ sb j w w:=⟨.refl _ _,c1,fun _ _=>rfl,cf,fun _=>rfl⟩
theorem IsT.atJ {F:Nat→Prop} {w w':World} {f:Nat} {caps:Array Value} {p:UInt8→Bool} {sb j:Nat} (h:IsT F w f caps p) (hF: ∀k,F k→k≠sb) (k:AtJ sb j w w'):IsT F w' f caps p:=
 h.keep k.kept.size (fun i hi=>k.kept.block i (h.inn i hi) (hF i hi))
def zan (src:ByteArray):List UInt8:=src.data.toList
theorem zaO (src:ByteArray) (j:Nat) (hj:j<src.size):(zan src).drop j=src[j]::(zan src).drop (j+1):=by
 have hl:j<(zan src).length:=by simpa [zan] using hj
 rw[List.drop_eq_getElem_cons hl]
 rfl
def za7 (p:UInt8→Bool) (src:ByteArray) (j:Nat):Nat:=j+(((zan src).drop j).takeWhile p).length
theorem zdk (p:UInt8→Bool) (src:ByteArray) (j:Nat) (hj:j<src.size) (h:p src[j]=true):za7 p src (j+1)=za7 p src j:=by
 unfold za7;rw[zaO src j hj,List.takeWhile_cons,if_pos h,List.length_cons]
 omega
theorem ziY (p:UInt8→Bool) (src:ByteArray) (j:Nat) (hj:j<src.size) (h:p src[j]=false):za7 p src j=j:=by
 unfold za7;rw[zaO src j hj,List.takeWhile_cons,if_neg (by simp[h])];simp
theorem zhD (p:UInt8→Bool) (src:ByteArray) (j:Nat) (hj:src.size≤j):za7 p src j=j:=by
 unfold za7;rw[List.drop_eq_nil_of_le (by simpa [zan] using hj)];simp
def zbL (sb:Nat) (w:World):Nat:=(intOf ((w.cell? ⟨sb,1,none⟩).getD (.int .i64 0))).toNat
theorem zdH (sb f k:Nat) (caps:Array Value) (p:UInt8→Bool) (F:Nat→Prop) (src:ByteArray) (W:World) (c0:Hid (W.cell? ⟨sb,0,none⟩=some (.string src))) (c1:Hid (W.cell? ⟨sb,1,none⟩=some (.int .i64 (k:Int)))) (cf:Hid (W.frozen? ⟨sb,1,none⟩=false)) (hk:k≤src.size) (hs:src.size≤1099511627776) (hT:Hid (IsT F W f caps p)) (hF:Hid (∀k,F k→k≠sb)):
 Calls prog 110 #[.pointer (some ⟨sb,0,none⟩),.func (.func f) #[] caps] W fun e W'=>e= .returned (.tuple #[])∧AtJ sb (za7 p src k) W W':=by
 have hsb:sb<W.heap.size:=World.block_lt_of_cell? W ⟨sb,0,none⟩ c0.out
 go_enter func110,ntmps110
 go_wp2_with fail
 go_loopw [] (fun wr=> ∃j:Nat,j≤src.size∧za7 p src j=za7 p src k∧AtJ sb j W wr) (fun wr=>src.size-zbL sb wr)
 case atStart=>exact⟨k,hk,rfl,AtJ.start c1.out cf.out⟩
 case round=>
  obtain⟨j,hj,hr,hA⟩:=hrel;have HR:=zaa hr;have HA:=zaa hA;clear hr hA;have d0:=(HA.out.rest 0 (by decide)).trans c0.out;have d1:=HA.out.here;have HT2:=zaa (hT.out.atJ hF.out HA.out);by_cases hjs:j<src.size
  ·have HM:=zaa (zi0 sb f j caps p F src _ d0 d1 hjs hs HT2)
   have hwr:sb<wr.heap.size:=World.block_lt_of_cell? wr ⟨sb,1,none⟩ d1
   cases hp:p src[j] with
   |true=>
    have HN:=zaa (zdk p src j hjs hp);rw[hp] at HM;go_wp2_with fail;refine(HM.out).mono ?_;rintro e w' ⟨rfl,hb⟩;have HA2:=zaa (HA.out.below hsb hb);have e1:w'.cell? ⟨sb,1,none⟩=some (.int .i64 (j:Int)):=HA2.out.here;have e2:=HA2.out.free;have e0:=(HA2.out.rest 0 (by decide)).trans c0.out;have k0:(0:Int)≤(j:Int):=by omega
    have k1:(j:Int)+1<9223372036854775808:=by omega
    have k2: -9223372036854775808≤(j:Int)+1:=by omega
    clear d0 d1 hb hp HM e0 hwr;generalize hz:(j:Int)=z at *;have HZ:=zaa hz;clear hz;go_wp2_with fail;have hlt:w'.cell? ⟨sb,1,none⟩≠none:=by rw[e1];exact Option.some_ne_none _
    have hset:AtJ sb (j+1) w' (w'.setCell ⟨sb,1,none⟩ (.int .i64 (z+1))):=by
     refine⟨(zam.refl (fun k=>k=sb) w').setCell (p:=⟨sb,1,none⟩) (Or.inl rfl) _,?_,?_,?_,fun o=>by rw[World.frozen?_setCell]⟩
     ·rw[←HZ.out];exact World.cell?_setCell_same w' _ _ e1
     ·intro o ho;exact World.cell?_setCell_other w' _ _ _ (fun e=>ho (by injection e with _ e2 _;exact e2.symm))
     ·rw[World.frozen?_setCell];exact e2
    have m1:zbL sb (w'.setCell ⟨sb,1,none⟩ (.int .i64 (z+1)))=j+1:=by unfold zbL;rw[hset.here];simp[intOf]
    have m2:zbL sb wr=j:=by unfold zbL;rw[HA.out.here];simp[intOf]
    have HS:=zaa hset;have HM3:=zaa (show src.size-zbL sb (w'.setCell ⟨sb,1,none⟩ (.int .i64 (z+1)))<src.size-zbL sb wr by rw[m1,m2];omega);clear hset m1 m2 hlt e1 e2;go_roundw
    case rel=>exact⟨j+1,hjs,HN.out.trans HR.out,HA2.out.trans HS.out⟩
    case measure=>exact HM3.out
   |false=>
    have HN:=zaa (ziY p src j hjs hp);rw[hp] at HM;go_wp2_with fail;refine(HM.out).mono ?_;rintro e w' ⟨rfl,hb⟩;go_wp2_with fail
    go_end0
    exact⟨rfl,by have:=HA.out.below hsb hb;rwa[←HR.out,HN.out]⟩
  ·have HM:=zaa (ziA sb j (.func (.func f) #[] caps) src _ d0 d1 (by omega) hs)
   have HN:=zaa (zhD p src j (by omega));go_wp2_with fail;refine(HM.out).mono ?_;rintro e w' ⟨rfl,hb⟩;go_wp2_with fail
   go_end0
   exact⟨rfl,by have:=HA.out.below hsb hb;rwa[←HR.out,HN.out]⟩
structure zfx where
 kind:Int
 text:ByteArray
 at_:Int
def Tok.toZ (t:Tok):zfx:=⟨(t.kind:Int),⟨t.text.toArray⟩,(t.at_:Int)⟩
def zfx.cells (K:IntKind) (t:zfx):List Value:=[.int K t.kind,.string t.text,.int .i64 t.at_]
def zf3 (K:IntKind) (ts:List zfx):List Value:=ts.flatMap (zfx.cells K)
theorem zeK (K:IntKind) (ts:List zfx) (t:zfx):zf3 K (ts++[t])=zf3 K ts++t.cells K:=by simp[zf3]
theorem zm3 (K:IntKind) (ts:List zfx) (i:Nat) (t:zfx) (h:ts[i]? =some t) (j:Nat) (hj:j<3):(zf3 K ts)[i*3+j]? =(t.cells K)[j]? :=by
 induction ts generalizing i with
 |nil=>simp at h
 |cons x ts ih=>
  have hx:(x.cells K).length=3:=rfl
  show(x.cells K++zf3 K ts)[i*3+j]? =_
  cases i with
  |zero=>
   simp only[List.getElem?_cons_zero,Option.some.injEq] at h;subst h;rw[List.getElem?_append_left (by omega)];simp
  |succ i=>
   rw[List.getElem?_append_right (by omega)];have:(i+1)*3+j-(x.cells K).length=i*3+j:=by omega
   rw[this];exact ih i (by simpa using h)
theorem zoa (K:IntKind) (ts:List zfx) (k:Nat) (t:zfx) (h:ts[k]? =some t):zf3 K (ts.take k)++t.cells K=zf3 K (ts.take (k+1)):=by
 obtain⟨hk,rfl⟩:=List.getElem?_eq_some_iff.1 h;rw[←zeK,List.take_succ_eq_append_getElem hk]
def zey (K:IntKind) (w:World) (A:Option Addr) (ts:List zfx):Prop:=
 ts=[]∨ ∃b off,A=some ⟨b,off,none⟩∧b<w.heap.size∧ ∀i t,ts[i]? =some t→w.cell? ⟨b,off+i*3,none⟩=some (.int K t.kind)∧w.cell? ⟨b,off+i*3+1,none⟩=some (.string t.text)∧w.cell? ⟨b,off+i*3+2,none⟩=some (.int .i64 t.at_)
theorem zey.below {K:IntKind} {w w':World} {A:Option Addr} {ts:List zfx} (h:zey K w A ts) (hb:Below w.heap.size w w'):zey K w' A ts:=by
 rcases h with h|⟨b,off,e,hlt,hc⟩
 ·exact .inl h
 ·refine .inr ⟨b,off,e,Nat.lt_of_lt_of_le hlt hb.size,fun i t ht=> ?_⟩
  obtain⟨h0,h1,h2⟩:=hc i t ht;exact⟨(hb.cell (p:=⟨b,off+i*3,none⟩) hlt).trans h0,(hb.cell (p:=⟨b,off+i*3+1,none⟩) hlt).trans h1,(hb.cell (p:=⟨b,off+i*3+2,none⟩) hlt).trans h2⟩
theorem zhq {K:IntKind} {w:World} {base n:Nat} {e:TypeId} {v:Value} {ts:List zfx} (h:w.ownsRow base e 3 v n (zf3 K ts)) (hl:ts.length=n):
 ∃a cap,v= .slice a n cap∧zey K w a ts:=by
 rcases h.2 with⟨rfl,rfl⟩|⟨g,cap,cur,rfl,_,hg,_⟩
 ·exact⟨none,0,rfl,.inl (List.eq_nil_of_length_eq_zero hl)⟩
 ·refine⟨some ⟨g,0,none⟩,cap,rfl,.inr ⟨g,0,rfl,(zal hg),fun i t ht=> ?_⟩⟩
  have hi:i<n:=by rw[←hl];exact(List.getElem?_eq_some_iff.1 ht).1
  have hc: ∀j,j<3→w.cell? ⟨g,i*3+j,none⟩=(t.cells K)[j]? :=fun j hj=>by
   rw[World.ownsRow.cellAt h (i*3+j) (by omega),zm3 K ts i t ht j hj]
  refine⟨?_,?_,?_⟩
  ·have h1:=hc 0 (by omega)
   simp[zfx.cells] at h1 ⊢ <;>exact h1
  ·have h1:=hc 1 (by omega)
   simp[zfx.cells] at h1 ⊢ <;>exact h1
  ·have h1:=hc 2 (by omega)
   simp[zfx.cells] at h1 ⊢ <;>exact h1
theorem zig {K:IntKind} {w w':World} {A:Option Addr} {ts:List zfx} {n k:Nat} (HL:Hid (ts.length=n)) (h:Hid (zey K w A ts)) (hb:Below w.heap.size w w') (hk:k<n):
 ∃b off t,A=some ⟨b,off,none⟩∧b<w.heap.size∧Hid (ts[k]? =some t)∧w'.cell? ⟨b,off+k*3,none⟩=some (.int K t.kind)∧w'.cell? ⟨b,off+k*3+1,none⟩=some (.string t.text)∧w'.cell? ⟨b,off+k*3+2,none⟩=some (.int .i64 t.at_):=by
 rcases h.out with h0|⟨b,off,e,hlt,hc⟩
 ·have:=HL.out;rw[h0] at this;simp at this;omega
 ·have hkl:k<ts.length:=by rw[HL.out];exact hk
  obtain⟨h0,h1,h2⟩:=hc k ts[k] (List.getElem?_eq_getElem hkl);exact⟨b,off,ts[k],e,hlt,List.getElem?_eq_getElem hkl,(hb.cell (p:=⟨b,off+k*3,none⟩) hlt).trans h0,(hb.cell (p:=⟨b,off+k*3+1,none⟩) hlt).trans h1,(hb.cell (p:=⟨b,off+k*3+2,none⟩) hlt).trans h2⟩
theorem zbB {W:World} {t:TypeId} {cs:Array Value} {b:Nat} (hb:b=W.heap.size): ∀j u,cs.toList[j]? =some u→(W.alloc (.cells cs t)).cell? ((⟨b,0,none⟩:Addr).add j)=some u:=by
 subst hb;exact World.news_of_block (cs:=cs) (t:=t) (fr:=(0,0)) (heap_alloc_new W _)
theorem znH:(prog.info? 9).map (fun i=>(i.zero,i.size,i.bytes))=some (some (.string ⟨#[]⟩),1,16):=by kernel_rfl
theorem znB:(prog.info? 43).map (fun i=>(i.zero,i.size,i.bytes))=some (some (.agg #[.int .u8 0,.string ⟨#[]⟩,.int .i64 0]),3,32):=by kernel_rfl
theorem zml:(prog.info? 192).map (fun i=>(i.zero,i.size,i.bytes))=some (some (.agg #[.int .i64 0,.string ⟨#[]⟩,.int .i64 0]),3,32):=by kernel_rfl
def zg4 (ts:List zfx):List UInt8:=Lib.join (ts.map (·.text.data.toList)) [32]
theorem zj3 (ts:List zfx) (t:zfx):zg4 (ts++[t])=(if ts=[] then[] else zg4 ts++[32])++t.text.data.toList:=by
 unfold zg4 Lib.join;rw[List.map_append]
 induction ts with
 |nil=>simp
 |cons x r ih=>
  cases r with
  |nil=>simp[List.intercalate,List.intersperse]
  |cons y r=>
   simp only[List.cons_append,List.map_cons,List.map_nil,reduceCtorEq,if_false] at ih ⊢;simp only[List.intercalate,List.intersperse,List.flatten_cons,List.append_assoc] at ih ⊢;rw[ih]
theorem zl2 (ts:List zfx): ∀k,(zg4 (ts.take k)).length≤(zg4 ts).length:=by
 have h1: ∀(a b:List zfx),(zg4 a).length≤(zg4 (a++b)).length:=by
  intro a b;obtain⟨n,hn⟩: ∃n,b.length=n:=⟨_,rfl⟩
  induction n generalizing b with
  |zero=>rw[List.eq_nil_of_length_eq_zero hn];simp
  |succ n ih=>
   rcases List.eq_nil_or_concat b with rfl|⟨b,t,rfl⟩
   ·simp
   ·have:=ih b (by simpa using hn)
    rw[List.concat_eq_append,←List.append_assoc,zj3]
    split
    ·rename_i h;simp at h;rw[h.1];simp[zg4,Lib.join,List.intercalate]
    ·simp;omega
 intro k;have:=h1 (ts.take k) (ts.drop k)
 rwa[List.take_append_drop] at this
inductive Res (α:Type) where
 |ok (a:α) (r:List Tok)
 |bad (e:Nat) (r:List Tok)
def Ps (α:Type):=List Tok→Res α
def Ps.ret {α:Type} (a:α):Ps α:=fun r=> .ok a r
def Ps.bnd {α β:Type} (m:Ps α) (f:α→Ps β):Ps β:=fun r=>match m r with
 | .ok a r'=>f a r'
 | .bad e r'=> .bad e r'
instance:Monad Ps where
 pure:=Ps.ret
 bind:=Ps.bnd
theorem zac {α β:Type} {m:Ps α} {f:α→Ps β} {r r':List Tok} {a:α} (h:m r= .ok a r'):(m >>= f) r=f a r':=by
 show Ps.bnd m f r=_
 unfold Ps.bnd;rw[h]
theorem zab {α β:Type} {m:Ps α} {f:α→Ps β} {r r':List Tok} {e:Nat} (h:m r= .bad e r'):(m >>= f) r= .bad e r':=by
 show Ps.bnd m f r=_
 unfold Ps.bnd;rw[h]
structure zeJ where
 m:List UInt8
 p:List UInt8
 o:List UInt8
structure zcQ where
 op:Nat
 a:Int
 b:Int
 c:Int
structure zcp where
 name:List UInt8
 kind:Nat
 out:Bool
 size:Int
 depth:Int
 refresh:Int
structure zca where
 name:List UInt8
 prio:Int
 period:Int
 limit:Int
 code:List zcQ
structure zas where
 name:List UInt8
 period:Int
 length:Int
 mem:Int
 semas:List Int
 events:Int
 boards:Int
 bufs:List Int
 ports:List zcp
 procs:List zca
structure zdZ where
 name:List UInt8
 mem:Int
 frame:Int
 parts:List zas
structure zcU where
 from_:zeJ
 to:List zeJ
structure SwD where
 name:List UInt8
 net:Int
 delay:Int
 store:Int
structure zc6 where
 a:List UInt8
 b:List UInt8
 net:Int
 slow:Int
structure VlD where
 name:List UInt8
 from_:zeJ
 bag:Int
 max:Int
 to:List zeJ
structure zaI where
 module:List UInt8
 part:List UInt8
 fault:Nat
 level:Nat
 do_:Nat
structure zf2 where
 unit:List UInt8
 code:Int
structure zbl where
 unit:List UInt8
 needs:List zf2
 but:List (List UInt8)
structure zgD where
 a:List UInt8
 va:Int
 b:List UInt8
 vb:Int
structure zaK where
 modules:List zdZ
 channels:List zcU
 switches:List SwD
 links:List zc6
 vls:List VlD
 health:List zaI
 causes:List zbl
 versions:List zgD
def zaK.none:zaK:=⟨[],[],[],[],[],[],[],[]⟩
def zaE:List (List UInt8):=[[119,111,114,107],[115,101,116],[97,100,100],[115,117,98],[108,111,97,100],[115,116,111,114,101],[115,101,110,100],[114,101,99,118],[119,97,105,116],[115,105,103,110,97,108],[114,97,105,115,101],[108,111,119,101,114],[117,110,116,105,108],[112,117,116],[103,101,116],[115,104,111,119],[108,111,111,107],[99,108,101,97,114],[110,101,120,116],[106,117,109,112],[122,101,114,111],[108,101,115,115],[100,105,118],[102,97,117,108,116],[115,116,111,112]]
def zaN:List (List UInt8):=[[119],[114,118],[114,114],[114,114],[114,97,114],[114,97,114],[111,114,108],[105,114,114],[115],[115],[101],[101],[101],[98,114],[98,114],[100,114],[100,114],[100],[],[106],[114,106],[114,114,106],[114,114],[99],[]]
def zbG:List (List UInt8):=[[100,101,97,100,108,105,110,101],[109,101,109,111,114,121],[114,97,105,115,101,100],[110,117,109,101,114,105,99],[115,116,97,99,107],[112,111,119,101,114],[119,105,110,100,111,119]]
def zbH:List (List UInt8):=[[112,114,111,99,101,115,115],[112,97,114,116],[109,111,100,117,108,101]]
def zbu:List (List UInt8):=[[105,103,110,111,114,101],[115,116,111,112],[114,101,115,116,97,114,116],[119,97,114,109],[99,111,108,100],[105,100,108,101],[114,101,115,101,116],[104,97,108,116]]
def zcG:List (List UInt8):=[[97],[98]]
def zbO:List (List UInt8):=[[115,97,109,112,108,105,110,103],[113,117,101,117,105,110,103]]
def zaB (l:List (List UInt8)) (n:Nat):List UInt8:=if n=0 then[] else l.getD (n-1) []
def zbN (l:List (List UInt8)) (s:List UInt8):Nat:=match l.findIdx? (· ==s) with
 |some i=>i+1
 |none=>0
def hdT (r:List Tok):Tok:=r.headD ⟨0,[],0⟩
def zaA (s:List UInt8) (r:List Tok):Bool:=(hdT r).text==s&&((hdT r).kind==1||(hdT r).kind==3)
def zbf (s:List UInt8):Ps Bool:=fun r=>if zaA s r then .ok true r.tail else .ok false r
def failP {α:Type} (e:Nat):Ps α:=fun r=> .bad e r
def zbd (s:List UInt8):Ps Unit:=fun r=>if zaA s r then .ok () r.tail else .bad 80 r
def zd5 (k:Nat):Ps (List UInt8):=fun r=>if(hdT r).kind==k then .ok (hdT r).text r.tail else .bad 80 r
def zcb:Ps (List UInt8):=zd5 1
def zfe:Ps Int:=do
 let t←zd5 2
 pure ((zdg t:Nat):Int)
def zb0 (s:List UInt8):Ps Int:=do
 zbd s
 zfe
def ofP (l:List (List UInt8)):Ps Nat:=fun r=>if zbN l (hdT r).text != 0&&(hdT r).kind==1 then .ok (zbN l (hdT r).text) r.tail else .bad 80 r
def zc8 {α:Type} (x:Ps α):Nat→List α→Ps (List α)
 |0,acc=>pure acc
 |f+1,acc=>do
  let b←zbf [44]
  if b then do
   let a←x
   zc8 x f (acc++[a])
  else pure acc
def zde {α:Type} (x:Ps α):Ps (List α):=do
 let a←x
 fun r=>zc8 x (r.length+1) [a] r
def zid:Ps zeJ:=do
 let m←zcb
 zbd [46]
 let p←zcb
 zbd [46]
 let o←zcb
 pure ⟨m,p,o⟩
def zki:Ps Int:=do
 zbd [110,101,116]
 let n←ofP zcG
 pure ((n:Int)-1)
def zi1:Nat→Ps (List Int)
 |0=>pure []
 |n+1=>do
  let a←zfe
  let l←zi1 n
  pure (a::l)
def zjp:Ps zcQ:=do
 let op←ofP zaE
 let l←zi1 (zaB zaN op).length
 zbd [59]
 pure ⟨op,l.getD 0 0,l.getD 1 0,l.getD 2 0⟩
def zbn:Nat→List zcQ→Ps (List zcQ)
 |0,acc=>pure acc
 |f+1,acc=>fun r=>if(hdT r).kind==1 then(do
   let x←zjp
   zbn f (acc++[x])) r
  else .ok acc r
def zcs:Ps (List zcQ):=fun r=>zbn (r.length+1) [] r
def zj7:Ps Bool:=fun r=>if zaA [105,110] r then .ok false r.tail else if zaA [111,117,116] r then .ok true r.tail else .bad 80 r
def zei:Ps zcp:=do
 let out←zj7
 let name←zcb
 let kind←ofP zbO
 let size←zb0 [115,105,122,101]
 if kind=1 then do
  let x←zb0 [114,101,102,114,101,115,104]
  zbd [59]
  pure ⟨name,kind,out,size,0,x⟩
 else do
  let x←zb0 [100,101,112,116,104]
  zbd [59]
  pure ⟨name,kind,out,size,x,0⟩
def zfh:Ps zca:=do
 let name←zcb
 let prio←zb0 [112,114,105,111]
 let period←zb0 [112,101,114,105,111,100]
 let limit←zb0 [108,105,109,105,116]
 zbd [123]
 let code←zcs
 zbd [125]
 pure ⟨name,prio,period,limit,code⟩
structure zag where
 p:zas
 what:List (List UInt8)
def zb2:Ps Unit:=fun r=> .ok () r.tail
def zcE (w:List UInt8) (b:zag) (x:Ps zas):Ps zag:=fun r=>if b.what.contains w then .bad 81 r else(do
 zb2
 let p←x
 zbd [59]
 pure (zag.mk p (b.what++[w]))) r
def zdw (p:zas):Ps zas:=do
 let l←zde zfe
 pure {p with semas:=l}
def zfb (p:zas):Ps zas:=do
 let l←zde zfe
 pure {p with bufs:=l}
def zcw (p:zas):Ps zas:=do
 let n←zfe
 pure {p with events:=n}
def zcA (p:zas):Ps zas:=do
 let n←zfe
 pure {p with boards:=n}
def za3 (b:zag):Ps zag:=fun r=>
 if zaA [115,101,109,97,115] r then zcE [115,101,109,97,115] b (zdw b.p) r
 else if zaA [98,117,102,115] r then zcE [98,117,102,115] b (zfb b.p) r
 else if zaA [101,118,101,110,116,115] r then zcE [101,118,101,110,116,115] b (zcw b.p) r
 else if zaA [98,111,97,114,100,115] r then zcE [98,111,97,114,100,115] b (zcA b.p) r
 else if zaA [112,114,111,99] r then(do
  zb2
  let x←zfh
  pure (zag.mk {b.p with procs:=b.p.procs++[x]} b.what)) r
 else(do
  let x←zei
  pure (zag.mk {b.p with ports:=b.p.ports++[x]} b.what)) r
def zav:Nat→zag→Ps zag
 |0,b=>pure b
 |f+1,b=>fun r=>if zaA [125] r then .ok b r.tail else(do
   let b'←za3 b
   zav f b') r
def zdX:Ps zas:=do
 let name←zcb
 let period←zb0 [112,101,114,105,111,100]
 let length←zb0 [108,101,110,103,116,104]
 let mem←zb0 [109,101,109]
 zbd [123]
 let b←fun r=>zav (r.length+1) ⟨⟨name,period,length,mem,[],0,0,[],[],[]⟩,[]⟩ r
 pure b.p
def zaS:Nat→List zas→Ps (List zas)
 |0,acc=>pure acc
 |f+1,acc=>do
  let b←zbf [112,97,114,116]
  if b then do
   let x←zdX
   zaS f (acc++[x])
  else pure acc
def zf9:Ps zdZ:=do
 let name←zcb
 let mem←zb0 [109,101,109]
 let frame←zb0 [102,114,97,109,101]
 zbd [123]
 let parts←fun r=>zaS (r.length+1) [] r
 zbd [125]
 pure ⟨name,mem,frame,parts⟩
def zdW:Ps zcU:=do
 let f←zid
 zbd [116,111]
 let to←zde zid
 zbd [59]
 pure ⟨f,to⟩
def swP:Ps SwD:=do
 let name←zcb
 let net←zki
 let delay←zb0 [100,101,108,97,121]
 let store←zb0 [115,116,111,114,101]
 zbd [59]
 pure ⟨name,net,delay,store⟩
def zbc:Ps zc6:=do
 let a←zcb
 let b←zcb
 let net←zki
 let slow←zb0 [115,108,111,119]
 zbd [59]
 pure ⟨a,b,net,slow⟩
def vlP:Ps VlD:=do
 let name←zcb
 zbd [102,114,111,109]
 let f←zid
 let bag←zb0 [98,97,103]
 let max←zb0 [109,97,120]
 zbd [116,111]
 let to←zde zid
 zbd [59]
 pure ⟨name,f,bag,max,to⟩
def zoK (s:List UInt8):Ps (List UInt8):=do
 let b←zbf s
 if b then zcb else pure []
def zaD:Ps zaI:=do
 let f←ofP zbG
 let m←zoK [109,111,100,117,108,101]
 let p←zoK [112,97,114,116]
 zbd [108,101,118,101,108]
 let l←ofP zbH
 zbd [100,111]
 let d←ofP zbu
 zbd [59]
 pure ⟨m,p,f,l,d⟩
def zkh:Ps zf2:=do
 let u←zcb
 zbd [58]
 let c←zfe
 pure ⟨u,c⟩
def zgL:Ps (List (List UInt8)):=do
 let b←zbf [117,110,108,101,115,115]
 if b then zde zcb else pure []
def zcg:Ps zbl:=do
 let u←zcb
 zbd [110,101,101,100,115]
 let n←zde zkh
 let un←zgL
 zbd [59]
 pure ⟨u,n,un⟩
def zbq:Ps zgD:=do
 let a←zcb
 let va←zfe
 zbd [119,105,116,104]
 let b←zcb
 let vb←zfe
 zbd [59]
 pure ⟨a,va,b,vb⟩
def zb1 (c:zaK):Ps zaK:=fun r=>
 if zaA [109,111,100,117,108,101] r then(do zb2;let x←zf9;pure {c with modules:=c.modules++[x]}) r
 else if zaA [99,104,97,110,110,101,108] r then(do zb2;let x←zdW;pure {c with channels:=c.channels++[x]}) r
 else if zaA [115,119,105,116,99,104] r then(do zb2;let x←swP;pure {c with switches:=c.switches++[x]}) r
 else if zaA [108,105,110,107] r then(do zb2;let x←zbc;pure {c with links:=c.links++[x]}) r
 else if zaA [118,108] r then(do zb2;let x←vlP;pure {c with vls:=c.vls++[x]}) r
 else if zaA [111,110] r then(do zb2;let x←zaD;pure {c with health:=c.health++[x]}) r
 else if zaA [99,97,117,115,101] r then(do zb2;let x←zcg;pure {c with causes:=c.causes++[x]}) r
 else if zaA [119,111,114,107,115] r then(do zb2;let x←zbq;pure {c with versions:=c.versions++[x]}) r
 else .bad 80 r
def zbp:Nat→zaK→Ps zaK
 |0,c=>pure c
 |f+1,c=>fun r=>match r with
  |[]=> .ok c []
  |_::_=>(do
   let c'←zb1 c
   zbp f c') r
def zgN:Ps zaK:=fun r=>zbp (r.length+1) zaK.none r
structure Cur (pb:Nat) (ts:List Tok) (j:Nat) (w:World):Prop where
 toks: ∃A c,w.cell? ⟨pb,0,none⟩=some (.slice A ts.length c)∧zey .u8 w A (ts.map Tok.toZ)∧ ∀a,A=some a→a.block≠pb
 now:w.cell? ⟨pb,1,none⟩=some (.int .i64 (j:Int))
 free:w.frozen? ⟨pb,1,none⟩=false
theorem zey.kept {K:IntKind} {F:Nat→Prop} {w w':World} {A:Option Addr} {ts:List zfx} (h:zey K w A ts) (hb:zam F w w') (hF: ∀a,A=some a→ ¬F a.block):zey K w' A ts:=by
 rcases h with h|⟨b,off,e,hlt,hc⟩
 ·exact .inl h
 ·have hf:=hF _ e
  refine .inr ⟨b,off,e,Nat.lt_of_lt_of_le hlt hb.size,fun i t ht=> ?_⟩;obtain⟨h0,h1,h2⟩:=hc i t ht;exact⟨(hb.cell (p:=⟨b,off+i*3,none⟩) hlt hf).trans h0,(hb.cell (p:=⟨b,off+i*3+1,none⟩) hlt hf).trans h1,(hb.cell (p:=⟨b,off+i*3+2,none⟩) hlt hf).trans h2⟩
theorem Cur.lt {pb j:Nat} {ts:List Tok} {w:World} (h:Cur pb ts j w):pb<w.heap.size:=World.block_lt_of_cell? w ⟨pb,1,none⟩ h.now
theorem Cur.to {pb j k:Nat} {ts:List Tok} {w w':World} (h:Cur pb ts j w) (a:AtJ pb k w w'):Cur pb ts k w':=by
 obtain⟨A,c,h0,hr,hA⟩:=h.toks;exact⟨⟨A,c,(a.rest 0 (by decide)).trans h0,hr.kept a.kept (fun x hx=>hA x hx),hA⟩,a.here,a.free⟩
theorem Cur.below {pb j:Nat} {ts:List Tok} {w w':World} (h:Cur pb ts j w) (hb:Below w.heap.size w w'):Cur pb ts j w':=h.to ((AtJ.start h.now h.free).below h.lt hb)
def zcC (t:Tok):Value:= .agg #[.int .u8 (t.kind:Int),.string ⟨t.text.toArray⟩,.int .i64 (t.at_:Int)]
theorem ziX (ts:List Tok) (j:Nat) (hj:j<ts.length):hdT (ts.drop j)=ts[j]:=by
 rw[List.drop_eq_getElem_cons hj];rfl
theorem zbJ (ts:List Tok) (j:Nat) (hj:ts.length≤j):hdT (ts.drop j)=⟨0,[],0⟩:=by
 rw[List.drop_eq_nil_of_le hj];rfl
theorem zcf (pb j:Nat) (ts:List Tok) (W:World) (H:Hid (Cur pb ts j W)) (_hts:ts.length≤1099511627776) (hj:j≤ts.length):
 Calls prog 65 #[.pointer (some ⟨pb,0,none⟩)] W fun e W'=>e= .returned (zcC (hdT (ts.drop j)))∧Below W.heap.size W W':=by
 obtain⟨A,c,h0,hr,hA⟩:=H.out.toks;have h1:=H.out.now;have hpb:=H.out.lt;by_cases hjs:j<ts.length
 ·have hL:=zaa (show(ts.map Tok.toZ).length=ts.length by simp)
  have HR:=zaa hr;obtain⟨b,off,t,rfl,hlt,ht,d0,d1,d2⟩:=zig (w':=W) hL HR (Below.refl _ _) hjs;have htt:t=(ts[j]).toZ:=by
   have:=ht.out;simp[hjs] at this;exact this.symm
  subst htt;have k1:decide (j<ts.length)=true:=by simp;exact hjs
  have k2:=kbZ j ts.length;have hh:=zaa (ziX ts j hjs);clear hr hA;simp only[Tok.toZ] at d0 d1 d2
  go_enter func65,ntmps65
  go_wp2_with fail;go_quiet (fail);go_wp2_with fail
  go_region
  go_wp2_with fail;refine bodyPost_ret (v:=zcC ts[j]) (by simp[results,Tryz.results65,go_sem,zcC]) rfl ?_;refine⟨by rw[hh.out],?_⟩;exact(((zam.alloc (F:=fun _=>False) (zam.refl _ W) _).drewN _).setCell (.inr (Nat.le_refl _)) _ |>.setCell (.inr (Nat.le_refl _)) _ |>.setCell (.inr (Nat.le_refl _)) _).below (Nat.le_refl _) (fun _ _=>not_false)
 ·have k1:decide (j<ts.length)=false:=by simp;omega
  have hh:=zaa (zbJ ts j (by omega));clear hr hA
  go_enter func65,ntmps65
  go_wp2_with fail;go_quiet (fail);go_wp2_with fail;refine bodyPost_ret (v:=zcC ⟨0,[],0⟩) (by simp[results,Tryz.results65,go_sem,zcC]) rfl ?_;refine⟨by rw[hh.out],?_⟩;exact(((zam.alloc (F:=fun _=>False) (zam.refl _ W) _).drewN _).setCell (.inr (Nat.le_refl _)) _ |>.setCell (.inr (Nat.le_refl _)) _ |>.setCell (.inr (Nat.le_refl _)) _).below (Nat.le_refl _) (fun _ _=>not_false)
def zcd {α:Type} (pb:Nat) (ts:List Tok) (W:World) (conv:α→Value) (res:Res α) (e:Ending) (W':World):Prop:=
 ∃j,j≤ts.length∧AtJ pb j W W'∧match res with
  | .ok a r=>r=ts.drop j∧e= .returned (conv a)
  | .bad n r=>r=ts.drop j∧e= .panicked [{v:= .iface 122 (.agg #[.int .i64 (n:Int)]),recovered:=false}]
theorem AtJ.goto {sb i:Nat} {W w:World} (h:AtJ sb i W w) (_hsb:sb<W.heap.size) (j:Nat):AtJ sb j W (w.setCell ⟨sb,1,none⟩ (.int .i64 (j:Int))):=by
 refine⟨h.kept.setCell (p:=⟨sb,1,none⟩) (Or.inl rfl) _,World.cell?_setCell_same w _ _ h.here,fun o ho=> ?_,by rw[World.frozen?_setCell];exact h.free,fun o=>by rw[World.frozen?_setCell];exact h.hold o⟩;rw[World.cell?_setCell_other w _ _ _ (fun e=>ho (by injection e with _ e2 _;exact e2.symm))];exact h.rest o ho
theorem wrap_j (j:Nat) (h:j≤1099511627776):IntKind.i64.wrap ((j:Int)+1)=((j+1:Nat):Int):=by
 rw[IntKind.wrap_i64];omega
theorem zfr (pb j:Nat) (ts:List Tok) (s:ByteArray) (W:World) (H:Hid (Cur pb ts j W)) (hts:ts.length≤1099511627776) (hj:j≤ts.length):
 Calls prog 136 #[.pointer (some ⟨pb,0,none⟩),.string s] W fun e W'=>e= .returned (.bool (zaA s.data.toList (ts.drop j)))∧Below W.heap.size W W':=by
 have HC:=zaa (zcf pb j ts W H hts hj);generalize ht:hdT (ts.drop j)=t at HC;have hS:zaA s.data.toList (ts.drop j)=(t.text==s.data.toList&&(t.kind==1||t.kind==3)):=by unfold zaA;rw[ht]
 rw[hS];clear hS ht;obtain⟨κ,tx,a⟩:=t;unfold zcC at HC;dsimp only at HC ⊢;have hS:(tx==s.data.toList)=((⟨tx.toArray⟩:ByteArray).toList==s.toList):=by rw[ByteArray.toList_eq,ByteArray.toList_eq]
 have hK1:(κ==1)=((κ:Int)==1):=by rw[Bool.eq_iff_iff];simp only[beq_iff_eq];omega
 have hK3:(κ==3)=((κ:Int)==3):=by rw[Bool.eq_iff_iff];simp only[beq_iff_eq];omega
 rw[hS,hK1,hK3];clear hS hK1 hK3;generalize(⟨tx.toArray⟩:ByteArray)=t at *;generalize(κ:Int)=κ at *
 go_enter func136,ntmps136
 go_wp2_with fail;refine(HC.out).mono ?_;rintro e w' ⟨rfl,hb⟩;have HB:=zaa (hb.trans ((Below.refl w'.heap.size w').alloc (Nat.le_refl _) (Obj.cells #[Value.int IntKind.u8 κ,Value.string t,Value.int IntKind.i64 a] 43) |>.mono hb.size));clear hb;by_cases h1:t.toList=s.toList
 ·by_cases h2:κ=1
  ·subst h2
   go_wp2_with fail;go_ret;exact⟨by simp[h1],HB.out⟩
  ·go_wp2_with fail
   go_ret;exact⟨by simp[h1],HB.out⟩
 ·go_wp2_with fail
  go_ret;exact⟨by simp[h1],HB.out⟩
theorem za6 (pb j:Nat) (ts:List Tok) (s:ByteArray) (W:World) (H:Hid (Cur pb ts j W)) (hts:ts.length≤1099511627776) (hj:j≤ts.length) (_hs:s.data.toList≠[]):
 Calls prog 93 #[.pointer (some ⟨pb,0,none⟩),.string s] W fun e W'=>zcd pb ts W (fun b:Bool=> .bool b) (zbf s.data.toList (ts.drop j)) e W':=by
 have HC:=zaa (zfr pb j ts s W H hts hj);have hpb:=H.out.lt;unfold zbf
 cases hS:zaA s.data.toList (ts.drop j) with
 |false=>
  rw[hS] at HC
  go_enter func93,ntmps93
  go_wp2_with fail;refine(HC.out).mono ?_;rintro e w' ⟨rfl,hb⟩;go_wp2_with fail;go_ret;exact⟨j,hj,(AtJ.start H.out.now H.out.free).below hpb hb,rfl,rfl⟩
 |true=>
  rw[hS] at HC;have hlt:j<ts.length:=by
   rcases Nat.lt_or_ge j ts.length with h|h
   ·exact h
   ·rw[List.drop_eq_nil_of_le h] at hS
    simp[zaA,hdT] at hS
  go_enter func93,ntmps93
  go_wp2_with fail;refine(HC.out).mono ?_;rintro e w' ⟨rfl,hb⟩;have HJ:=zaa ((AtJ.start H.out.now H.out.free).below hpb hb);have e1:=HJ.out.here;have e2:=HJ.out.free;have hw:=Nat.lt_of_lt_of_le hpb hb.size;have k1:(j:Int)+1<9223372036854775808:=by omega
  have k2: -9223372036854775808≤(j:Int)+1:=by omega
  clear hb;generalize hz:(j:Int)=z at *;have HZ:=zaa hz;clear hz;go_wp2_with fail;go_ret;refine⟨j+1,hlt,?_,by simp,rfl⟩;have:=HJ.out.goto hpb (j+1)
  rwa[show((j+1:Nat):Int)=z+1 from by have:=HZ.out;omega] at this
theorem za1 (v:Value) (n:Int) (W:World):Calls prog 56 #[v,.bool true,.int .i64 n] W fun e W'=>e= .returned (.tuple #[])∧W'=W:=by
 go_enter func56,ntmps56
 go_wp2_with fail
 go_end0
 exact⟨rfl,rfl⟩
theorem zb6 (v:Value) (n:Int) (W:World):Calls prog 56 #[v,.bool false,.int .i64 n] W fun e W'=>e= .panicked [{v:= .iface 122 (.agg #[.int .i64 n]),recovered:=false}]∧W'=W:=by
 go_enter func56,ntmps56
 go_wp2_with fail;exact⟨rfl,rfl,rfl⟩
theorem ziF (pb j:Nat) (κ:Nat) (ts:List Tok) (W:World) (H:Hid (Cur pb ts j W)) (hts:ts.length≤1099511627776) (hj:j≤ts.length) (hκ:κ≠0):
 Calls prog 119 #[.pointer (some ⟨pb,0,none⟩),.int .u8 (κ:Int)] W fun e W'=>zcd pb ts W (fun s:List UInt8=> .string ⟨s.toArray⟩) (zd5 κ (ts.drop j)) e W':=by
 have HC:=zaa (zcf pb j ts W H hts hj);have hpb:=H.out.lt;unfold zd5;have hlt:(hdT (ts.drop j)).kind=κ→j<ts.length:=by
  intro h;rcases Nat.lt_or_ge j ts.length with h'|h'
  ·exact h'
  ·rw[zbJ ts j h'] at h
   exact absurd h.symm hκ
 have HLT:=zaa hlt;clear hlt;generalize ht:hdT (ts.drop j)=t at HC HLT;clear ht;obtain⟨κ',tx,a⟩:=t;unfold zcC at HC;dsimp only at HC HLT ⊢;generalize htx:(⟨tx.toArray⟩:ByteArray)=t at *;have HTX:=zaa htx;clear htx;by_cases hκ':κ'=κ
 ·subst hκ'
  have hlt:=HLT.out rfl;rw[if_pos (by simp)]
  go_enter func119,ntmps119
  go_wp2_with fail;refine(HC.out).mono ?_;rintro e w' ⟨rfl,hb⟩;have HJ0:=zaa ((AtJ.start H.out.now H.out.free).below hpb hb);have e1:=HJ0.out.here;have e2:=HJ0.out.free;have hw:=Nat.lt_of_lt_of_le hpb hb.size;have k1:(j:Int)+1<9223372036854775808:=by omega
  have k2: -9223372036854775808≤(j:Int)+1:=by omega
  clear hb;generalize hz:(j:Int)=z at *;have HZ:=zaa hz;clear hz;go_wp2_with(go_at_call 56;refine(za1 _ _ _).mono ?_;rintro e w'' ⟨rfl,rfl⟩)
  go_ret;refine⟨j+1,hlt,?_,by simp,congrArg (fun x=>Ending.returned (Value.string x)) HTX.out.symm⟩;have:=(HJ0.out.goto hpb (j+1)).below hpb ((Below.refl _ _).alloc (Nat.le_refl _) (Obj.cells #[Value.int IntKind.u8 κ',Value.string t,Value.int IntKind.i64 a] 43))
  rwa[show((j+1:Nat):Int)=z+1 from by have:=HZ.out;omega] at this
 ·rw[if_neg (by simpa using hκ')]
  have hd:((κ':Int)==(κ:Int))=false:=by simp;omega
  go_enter func119,ntmps119
  go_wp2_with fail;refine(HC.out).mono ?_;rintro e w' ⟨rfl,hb⟩;have HJ0:=zaa ((AtJ.start H.out.now H.out.free).below hpb hb);have HJ:=zaa (HJ0.out.below hpb ((Below.refl w'.heap.size w').alloc (Nat.le_refl _) (Obj.cells #[Value.int IntKind.u8 κ',Value.string t,Value.int IntKind.i64 a] 43)));clear hb;go_wp2_with(go_at_call 56;refine(zb6 _ _ _).mono ?_;rintro e w'' ⟨rfl,rfl⟩)
  exact⟨rfl,j,hj,HJ.out,rfl,rfl⟩
theorem zaU (pb j:Nat) (ts:List Tok) (W:World) (H:Hid (Cur pb ts j W)) (hts:ts.length≤1099511627776) (hj:j≤ts.length):
 Calls prog 91 #[.pointer (some ⟨pb,0,none⟩)] W fun e W'=>zcd pb ts W (fun s:List UInt8=> .string ⟨s.toArray⟩) (zcb (ts.drop j)) e W':=by
 have HC:=zaa (ziF pb j 1 ts W H hts hj (by decide));unfold zcb
 cases hr:zd5 1 (ts.drop j) with
 |ok a r=>
  rw[hr] at HC
  go_enter func91,ntmps91
  go_wp2_with fail;refine(HC.out).mono ?_;rintro e w' ⟨j',hj',hA,hr',rfl⟩;have HA:=zaa hA;clear hA;go_wp2_with fail;go_ret;exact⟨j',hj',HA.out,hr',rfl⟩
 |bad n r=>
  rw[hr] at HC
  go_enter func91,ntmps91
  go_wp2_with fail;refine(HC.out).mono ?_;rintro e w' ⟨j',hj',hA,hr',rfl⟩;have HA:=zaa hA;clear hA;go_wp2_with fail;exact⟨rfl,j',hj',HA.out,hr',rfl⟩
theorem ziR (pb j xb xo c:Nat) (ts:List Tok) (s:ByteArray) (W:World) (H:Hid (Cur pb ts j W)) (hts:ts.length≤1099511627776) (hj:j≤ts.length) (hs:s.data.toList≠[]) (hx:W.cell? ⟨xb,xo,none⟩=some (.string s)) (_hxb:xb≠pb):
 Calls prog 82 #[.pointer (some ⟨pb,0,none⟩),.slice (some ⟨xb,xo,none⟩) 1 c] W fun e W'=>zcd pb ts W (fun _:Unit=> .tuple #[]) (zbd s.data.toList (ts.drop j)) e W':=by
 have hpb:=H.out.lt;have HC:=zaa (za6 pb j ts s W H hts hj hs);unfold zbf at HC;unfold zbd
 cases hS:zaA s.data.toList (ts.drop j) with
 |false=>
  simp only[if_false,Bool.false_eq_true];simp only[hS,if_false,Bool.false_eq_true] at HC
  go_enter func82,ntmps82
  go_wp2_with fail
  go_loopw [8] (fun v8 wr=>v8= .int .i64 0∧wr=W) (fun _ _=>0)
  case atStart=>exact⟨rfl,rfl⟩
  case round=>
   obtain⟨rfl,rfl⟩:=hrel;go_wp2_with fail;refine(HC.out).mono ?_;rintro e w' ⟨j',hj',hA,hr',rfl⟩;have HA:=zaa hA;clear hA;go_wp2_with(go_at_call 56;refine(zb6 _ _ _).mono ?_;rintro e w'' ⟨rfl,rfl⟩)
   exact⟨rfl,j',hj',HA.out,hr',rfl⟩
 |true=>
  simp only[if_true];simp only[hS,if_true] at HC
  go_enter func82,ntmps82
  go_wp2_with fail
  go_loopw [8] (fun v8 wr=>(v8= .int .i64 0∧wr=W)∨(v8= .int .i64 1∧ ∃j',j'≤ts.length∧AtJ pb j' W wr∧(ts.drop j).tail=ts.drop j')) (fun v8 _=>1-(intOf v8).toNat)
  case atStart=>exact .inl ⟨rfl,rfl⟩
  case round=>
   rcases hrel with⟨rfl,rfl⟩|⟨rfl,j',hj',hA,hr'⟩
   ·go_wp2_with fail
    refine(HC.out).mono ?_;rintro e w' ⟨j',hj',hA,hr',rfl⟩;have HA:=zaa hA;clear hA;go_wp2_with(go_at_call 56;refine(za1 _ _ _).mono ?_;rintro e w'' ⟨rfl,rfl⟩)
    go_roundw
    case rel=>exact .inr ⟨rfl,j',hj',HA.out,hr'⟩
    case measure=>simp[intOf]
   ·have HA:=zaa hA
    clear hA;go_wp2_with fail
    go_end0
    exact⟨j',hj',HA.out,hr',rfl⟩
def zkI:UInt8→Bool:=fun b=>zfW 97 122 b||zfW 65 90 b
theorem IsT.wide {F G:Nat→Prop} {w:World} {f:Nat} {caps:Array Value} {p:UInt8→Bool} (h:IsT F w f caps p) (hG: ∀k,F k→G k) (hb: ∀k,G k→k<w.heap.size):IsT G w f caps p:=
 ⟨hb,h.enters,fun W hW b=>h.says W (fun k hk=>hW k (hG k hk)) b⟩
theorem zjz (w:World):
 Calls prog 45 #[] w fun e w'=>(∃g1 g2 g3 c1 c2 c3,e= .returned (.agg #[.nilFunc,.func (.func g1) #[] c1,.func (.func g2) #[] c2,.func (.func g3) #[] c3])∧IsT (fun k=>w.heap.size<k∧k<w'.heap.size) w' g1 c1 zkI∧IsT (fun k=>w.heap.size<k∧k<w'.heap.size) w' g2 c2 (zfW 48 57)∧IsT (fun k=>w.heap.size<k∧k<w'.heap.size) w' g3 c3 (zgw ⟨#[123,125,59,44,46,58]⟩))∧Below w.heap.size w w':=by
 have HB:=zaa (fun lo hi w=>zin lo hi w);have HA:=zaa (fun s w=>zfJ s w)
 go_enter func45,ntmps45
 go_wp2_with fail;have hz0:(w.alloc (.cells #[Value.nilFunc,Value.nilFunc,Value.nilFunc,Value.nilFunc] 103)).heap.size=w.heap.size+1:=by simp
 have hb0:=zaa ((Below.refl w.heap.size w).alloc (Nat.le_refl _) (.cells #[Value.nilFunc,Value.nilFunc,Value.nilFunc,Value.nilFunc] 103));have HX0:=zaa (heap_alloc_new w (.cells #[Value.nilFunc,Value.nilFunc,Value.nilFunc,Value.nilFunc] 103));generalize hw0:w.alloc _=w0 at *;have HW0:=zaa hw0;clear hw0;refine(HB.out 97 122 _).mono ?_;rintro e w1 ⟨k1,rfl,hT1,hb1⟩;have HT1:=zaa hT1;have HB1:=zaa hb1;have hz1:w0.heap.size≤w1.heap.size:=hb1.size;clear hT1 hb1;go_wp2_with fail;refine(HB.out 65 90 _).mono ?_;rintro e w2 ⟨k2,rfl,hT2,hb2⟩;have HT2:=zaa hT2;have HB2:=zaa hb2;have hz2:w1.heap.size≤w2.heap.size:=hb2.size;clear hT2 hb2;go_wp2_with fail;have hb3:Below w2.heap.size w2 (w2.alloc (Obj.cells #[Value.func (Fn.func 107) #[] k1,Value.func (Fn.func 107) #[] k2] 102)):=(Below.refl _ _).alloc (Nat.le_refl _) _;have hE:=zeD w2.heap.size [⟨107,k1,zfW 97 122⟩,⟨107,k2,zfW 65 90⟩] (fun k=>w.heap.size<k∧k<w2.heap.size) (w2.alloc (Obj.cells #[Value.func (Fn.func 107) #[] k1,Value.func (Fn.func 107) #[] k2] 102)) (by simp) (zaa (heap_alloc_new w2 _))
  (zaa (by
    intro t ht;simp only[List.mem_cons,List.not_mem_nil,or_false] at ht;rcases ht with rfl|rfl
    ·exact((HT1.out.below HB2.out).below hb3).wide (fun k hk=>⟨by omega,by have:=((HT1.out.below HB2.out).inn k hk);omega⟩) (fun k hk=>by simp;omega)
    ·exact(HT2.out.below hb3).wide (fun k hk=>⟨by omega,by have:=HT2.out.inn k hk;omega⟩) (fun k hk=>by simp;omega)))
  (fun k hk=>by simp;omega)
 have hw3:(w2.alloc (Obj.cells #[Value.func (Fn.func 107) #[] k1,Value.func (Fn.func 107) #[] k2] 102)).heap.size=w2.heap.size+1:=by simp
 have HE:=zaa hE;have HB3:=zaa hb3;clear hE hb3;generalize w2.alloc (Obj.cells #[Value.func (Fn.func 107) #[] k1,Value.func (Fn.func 107) #[] k2] 102)=W3 at *;refine HE.out.mono ?_;rintro e w4 ⟨k4,rfl,hT4,hb4⟩;have HT4:=zaa (hT4.wide (G:=fun k=>w.heap.size<k∧k<w4.heap.size) (fun k hk=>⟨by rcases hk with hk|hk|hk<;>omega,hT4.inn k hk⟩) (fun k hk=>hk.2));have HB4:=zaa hb4;have hz4:W3.heap.size≤w4.heap.size:=hb4.size;clear hT4 hb4 HE;go_wp2_with fail;refine(HB.out 48 57 _).mono ?_;rintro e w5 ⟨k5,rfl,hT5,hb5⟩;have HT5:=zaa hT5;have HB5:=zaa hb5;have hz5:w4.heap.size≤w5.heap.size:=hb5.size;clear hT5 hb5;go_wp2_with fail;refine(HA.out _ _).mono ?_;rintro e w6 ⟨k6,rfl,hT6,hb6⟩;have HT6:=zaa hT6;have HB6:=zaa hb6;have hz6:w5.heap.size≤w6.heap.size:=hb6.size;clear hT6 hb6;have HBB:=zaa (show Below w0.heap.size w0 w6 from HB1.out.trans ((HB2.out.mono hz1).trans ((HB3.out.mono (by omega)).trans ((HB4.out.mono (by omega)).trans ((HB5.out.mono (by omega)).trans (HB6.out.mono (by omega)))))));have HX:=zaa ((HBB.out.block w.heap.size (by omega)).trans HX0.out);have c0:=cell_of_row w6 w.heap.size 0 _ _ _ HX.out;have c1:=cell_of_row w6 w.heap.size 1 _ _ _ HX.out;have c2:=cell_of_row w6 w.heap.size 2 _ _ _ HX.out;have c3:=cell_of_row w6 w.heap.size 3 _ _ _ HX.out;simp only[List.getElem?_toArray,List.getElem?_cons_zero,List.getElem?_cons_succ] at c0 c1 c2 c3;have f0:=frozen_of_row w6 w.heap.size 0 _ _ HX.out;have f1:=frozen_of_row w6 w.heap.size 1 _ _ HX.out;have f2:=frozen_of_row w6 w.heap.size 2 _ _ HX.out;have f3:=frozen_of_row w6 w.heap.size 3 _ _ HX.out;have hlt:w.heap.size<w6.heap.size:=by omega
 have HP:Hid (∀w7:World,zam (fun k=>k=w.heap.size) w6 w7→w7.heap.size=w6.heap.size→((∃g1 g2 g3 c1 c2 c3,Ending.returned (Value.agg #[Value.nilFunc,Value.func (Fn.func 106) #[] k4,Value.func (Fn.func 107) #[] k5,Value.func (Fn.func 108) #[] k6])= .returned (.agg #[.nilFunc,.func (.func g1) #[] c1,.func (.func g2) #[] c2,.func (.func g3) #[] c3])∧IsT (fun k=>w.heap.size<k∧k<w7.heap.size) w7 g1 c1 zkI∧IsT (fun k=>w.heap.size<k∧k<w7.heap.size) w7 g2 c2 (zfW 48 57)∧IsT (fun k=>w.heap.size<k∧k<w7.heap.size) w7 g3 c3 (zgw ⟨#[123,125,59,44,46,58]⟩))∧Below w.heap.size w w7)):=by
  intro w7 hk hz;have tr: ∀{F:Nat→Prop} {f:Nat} {c:Array Value} {p:UInt8→Bool},(∀k,F k→w.heap.size<k)→IsT F w6 f c p→IsT (fun k=>w.heap.size<k∧k<w7.heap.size) w7 f c p:=by
   intro F f c p hF h;exact(h.keep hk.size (fun k hf=>hk.block k (h.inn k hf) (by have:=hF k hf;omega))).wide (fun k hf=>⟨hF k hf,by have:=h.inn k hf;omega⟩) (fun k hf=>hf.2)
  have e4:zhS [⟨107,k1,zfW 97 122⟩,⟨107,k2,zfW 65 90⟩]=zkI:=by funext b;simp[zhS,zkI]
  have t4:=tr (fun k hf=>hf.1) ((HT4.out.below HB5.out).below HB6.out);rw[e4] at t4;exact⟨⟨_,_,_,_,_,_,rfl,t4,tr (fun k hf=>by omega) (HT5.out.below HB6.out),tr (fun k hf=>by omega) HT6.out⟩,hb0.out.trans ((HBB.out.mono (by omega)).trans (hk.below (Nat.le_of_lt hlt) (fun i hi=>by omega)))⟩
 go_wp2_with fail;refine bodyPost_ret (v:= .agg #[Value.nilFunc,Value.func (Fn.func 106) #[] k4,Value.func (Fn.func 107) #[] k5,Value.func (Fn.func 108) #[] k6]) (by simp[results,Tryz.results45,go_sem,c0,c1,c2,c3]) rfl (HP.out _ ?_ ?_)
 ·exact((((zam.refl (fun k=>k=w.heap.size) w6).setCell (p:=⟨w.heap.size,0,none⟩) (Or.inl rfl) _).setCell (p:=⟨w.heap.size,1,none⟩) (Or.inl rfl) _).setCell (p:=⟨w.heap.size,2,none⟩) (Or.inl rfl) _).setCell (p:=⟨w.heap.size,3,none⟩) (Or.inl rfl) _
 ·simp[World.setCell]
end Go.Proofs.YtlngbjphagnloaaGreatDoor
