/- Merged texts of the walks and of the plain laws on which the statement leans.-/
import Derived.Test.YtgbfaompondolaaGreatDoorPk4
import Derived.Test.YtgbfaompondolaaGreatDoorShelf
import Derived.Laws.EntriesVeiled
import Derived.Test.YtgbfaompondolaaGreatDoorPk1
import Derived.Deep.RegionHeld3
import Derived.Lib.AtoiAll
import Derived.Lib.ItoaNum
import Derived.Shelf.Strconv.ErrVarAll
import Derived.Lib.ItoaLen
set_option maxHeartbeats 1000000
set_option maxRecDepth 100000
namespace Go.Proofs.YtgbfaompondolaaGreatDoor
open Go.RowKit
open Go.MuLone (run_callFunc_enter)
def zfz (s:ByteArray) (b:UInt8):Bool:=s.data.toList.contains b
theorem UInt8.ofNat_toNat' (b:UInt8):b.toNat.toUInt8=b:=by simp
theorem zej: ∀(l:List UInt8) (c:UInt8),(-1≤Lib.indexByte l c)∧(decide (0≤Lib.indexByte l c)=l.contains c)
 |[],c=>by simp[Lib.indexByte]
 |b::l,c=>by
  obtain⟨h1,h2⟩:=zej l c
  unfold Lib.indexByte
  by_cases hb:b==c
  ·rw[if_pos hb]
   have:b=c:=by simpa using hb
   subst this
   simp
  ·rw[if_neg hb]
   have hne: ¬c=b:=fun e=>hb (by simp[e])
   have hc:(b::l).contains c=l.contains c:=by simp[hne]
   rw[hc,←h2]
   by_cases hm:Lib.indexByte l c== -1
   ·rw[if_pos hm]
    have:Lib.indexByte l c= -1:=by simpa using hm
    rw[this];simp
   ·rw[if_neg hm]
    have:Lib.indexByte l c≠ -1:=by simpa using hm
    exact⟨by omega,by rw[decide_eq_decide];omega⟩
theorem zmo (xs:Nat) (s:ByteArray) (b:UInt8) (W:World) (h1:Hid (W.heap[xs]? =some (.cells #[.string s] 9 (0,0)))):
 Calls Tryz.prog 317 #[.int .u8 (b.toNat:Int),.pointer (some ⟨xs,0,none⟩)] W fun e W'=>e= .returned (.bool (zfz s b))∧Below W.heap.size W W':=by
 have c1:=cell_of_row W xs 0 _ _ _ h1.out
 simp only[List.getElem?_toArray,List.getElem?_cons_zero] at c1
 have HI:=zaa (fun w=>Tryz.strings_IndexByte s (b.toNat:Int) w)
 go_enter Tryz.func317,Tryz.ntmps317
 go_wp2_with fail
 refine(HI.out _).mono ?_
 rintro e w' ⟨rfl,rfl⟩
 generalize hx:Lib.indexByte s.data.toList ((b.toNat:Int)).toNat.toUInt8=x
 have HX:=zaa (show decide (0≤x)=zfz s b by rw[←hx,(zej _ _).2,Int.toNat_natCast,UInt8.ofNat_toNat' b];rfl)
 clear hx
 go_wp2_with fail
 go_ret
 exact⟨by rw[←HX.out];rfl,Below.refl _ _⟩
theorem zeZ (s:ByteArray) (w:World):Calls Tryz.prog 296 #[.string s] w fun e w'=> ∃caps,e= .returned (.func (.func 317) #[] caps)∧IsT (fun k=>k=w.heap.size) w' 317 caps (zfz s)∧Below w.heap.size w w':=by
 have HT:Hid (∀w':World,w'.heap[w.heap.size]? =some (.cells #[.string s] 9 (0,0))→IsT (fun k=>k=w.heap.size) w' 317 #[.pointer (some ⟨w.heap.size,0,none⟩)] (zfz s)):=by
  intro w' h1
  have hlt:=(zaJ h1)
  exact⟨fun k hk=>by omega,fun args W=>run_callFunc_enter (c:=((Tryz.f317).body.getD .skip)) Tryz.func317 (by kernel_rfl) (by kernel_rfl) args W,fun W hW b=>zmo w.heap.size s b W ((hW _ rfl).trans h1)⟩
 go_enter Tryz.func296,Tryz.ntmps296
 go_wp2_with fail
 go_ret
 exact⟨_,rfl,HT.out _ (heap_alloc_new w _),(Below.refl _ _).alloc (Nat.le_refl _) _⟩
end Go.Proofs.YtgbfaompondolaaGreatDoor
namespace Go.Proofs.YtgbfaompondolaaGreatDoor
open Go.RowKit
attribute [local go_sem] zal.cell
theorem zhe (sb f k:Nat) (caps:Array Value) (p:UInt8→Bool) (F:Nat→Prop) (src:ByteArray) (W:World) (c0:W.cell? ⟨sb,0,none⟩=some (.string src)) (c1:W.cell? ⟨sb,1,none⟩=some (.int .i64 (k:Int))) (hk:k<src.size) (_hs:src.size≤1099511627776) (hT:Hid (IsT F W f caps p)):
 Calls Tryz.prog 320 #[.pointer (some ⟨sb,0,none⟩),.func (.func f) #[] caps] W fun e W'=>e= .returned (.bool (p src[k]))∧Below W.heap.size W W':=by
 have hen:=hT.out.enters
 have hsb:sb<W.heap.size:=World.block_lt_of_cell? W ⟨sb,0,none⟩ c0
 have HC:=zaa (fun s:zal W=>(hT.out.below s.below).says s.w (fun _ _=>rfl) src[k])
 have k0:(0:Int)≤(k:Int):=by omega
 have k1:(k:Int)<(src.size:Int):=by omega
 go_enter Tryz.func320,Tryz.ntmps320
 go_wp2_with fail
 refine zaf (by kernel_rfl) (by kernel_rfl) ?_
 repeat(go_big_quiet_step (exact zal.call (HC.out _)))
 refine wpQuiet_nil ?_
 intro _ hw'
 obtain⟨nq,hw''⟩:=hw'
 subst hw''
 go_wp2_with fail
 go_ret
 exact⟨rfl,nq.below⟩
theorem zhd (sb k:Nat) (v:Value) (src:ByteArray) (W:World) (c0:W.cell? ⟨sb,0,none⟩=some (.string src)) (c1:W.cell? ⟨sb,1,none⟩=some (.int .i64 (k:Int))) (hk:src.size≤k) (_hs:src.size≤1099511627776):
 Calls Tryz.prog 320 #[.pointer (some ⟨sb,0,none⟩),v] W fun e W'=>e= .returned (.bool false)∧Below W.heap.size W W':=by
 have hsb:sb<W.heap.size:=World.block_lt_of_cell? W ⟨sb,0,none⟩ c0
 have k1:decide (k<src.size)=false:=by simp;omega
 go_enter Tryz.func320,Tryz.ntmps320
 go_wp2_with fail
 go_quiet (fail)
 go_wp2_with fail
 go_ret
 exact⟨rfl,below_drewN (Below.refl _ _) _⟩
end Go.Proofs.YtgbfaompondolaaGreatDoor
namespace Go.Proofs.YtgbfaompondolaaGreatDoor
open Go.RowKit
attribute [local go_sem] zal.cell
structure AtJ (sb j:Nat) (w w':World):Prop where
 kept:zbq (fun k=>k=sb) w w'
 here:w'.cell? ⟨sb,1,none⟩=some (.int .i64 (j:Int))
 rest: ∀o,o≠1→w'.cell? ⟨sb,o,none⟩=w.cell? ⟨sb,o,none⟩
 free:w'.frozen? ⟨sb,1,none⟩=false
 hold: ∀o,w'.frozen? ⟨sb,o,none⟩=w.frozen? ⟨sb,o,none⟩
theorem AtJ.trans {sb i j:Nat} {a b c:World} (h:AtJ sb i a b) (k:AtJ sb j b c):AtJ sb j a c:=
 ⟨h.kept.trans k.kept,k.here,fun o ho=>(k.rest o ho).trans (h.rest o ho),k.free,fun o=>(k.hold o).trans (h.hold o)⟩
theorem AtJ.below {sb j:Nat} {a b c:World} (h:AtJ sb j a b) (hsb:sb<a.heap.size) (k:Below b.heap.size b c):AtJ sb j a c:=by
 have hb:sb<b.heap.size:=Nat.lt_of_lt_of_le hsb h.kept.size
 exact⟨h.kept.trans (.of_below k),(World.cell?_of_block (w:=b) (k.block sb hb)).trans h.here,fun o ho=>(World.cell?_of_block (w:=b) (k.block sb hb)).trans (h.rest o ho),(World.frozen?_of_block (w:=b) (a:=⟨sb,1,none⟩) (k.block sb hb)).trans h.free,fun o=>(World.frozen?_of_block (w:=b) (a:=⟨sb,o,none⟩) (k.block sb hb)).trans (h.hold o)⟩
theorem AtJ.start {sb j:Nat} {w:World} (c1:w.cell? ⟨sb,1,none⟩=some (.int .i64 (j:Int))) (cf:w.frozen? ⟨sb,1,none⟩=false):AtJ sb j w w:=⟨.refl _ _,c1,fun _ _=>rfl,cf,fun _=>rfl⟩
theorem IsT.atJ {F:Nat→Prop} {w w':World} {f:Nat} {caps:Array Value} {p:UInt8→Bool} {sb j:Nat} (h:IsT F w f caps p) (hF: ∀k,F k→k≠sb) (k:AtJ sb j w w'):IsT F w' f caps p:=
 h.keep k.kept.size (fun i hi=>k.kept.block i (h.inn i hi) (hF i hi))
def zaA (src:ByteArray):List UInt8:=src.data.toList
theorem zbg (src:ByteArray) (j:Nat) (hj:j<src.size):(zaA src).drop j=src[j]::(zaA src).drop (j+1):=by
 have hl:j<(zaA src).length:=by simpa [zaA] using hj
 rw[List.drop_eq_getElem_cons hl]
 rfl
def zbF (p:UInt8→Bool) (src:ByteArray) (j:Nat):Nat:=j+(((zaA src).drop j).takeWhile p).length
theorem zfX (p:UInt8→Bool) (src:ByteArray) (j:Nat) (hj:j<src.size) (h:p src[j]=true):zbF p src (j+1)=zbF p src j:=by
 unfold zbF
 rw[zbg src j hj,List.takeWhile_cons,if_pos h,List.length_cons]
 omega
theorem zlc (p:UInt8→Bool) (src:ByteArray) (j:Nat) (hj:j<src.size) (h:p src[j]=false):zbF p src j=j:=by
 unfold zbF
 rw[zbg src j hj,List.takeWhile_cons,if_neg (by simp[h])]
 simp
theorem zim (p:UInt8→Bool) (src:ByteArray) (j:Nat) (hj:src.size≤j):zbF p src j=j:=by
 unfold zbF
 rw[List.drop_eq_nil_of_le (by simpa [zaA] using hj)]
 simp
def zfa (sb:Nat) (w:World):Nat:=(intOf ((w.cell? ⟨sb,1,none⟩).getD (.int .i64 0))).toNat
theorem zdu (sb f k:Nat) (caps:Array Value) (p:UInt8→Bool) (F:Nat→Prop) (src:ByteArray) (W:World) (c0:Hid (W.cell? ⟨sb,0,none⟩=some (.string src))) (c1:Hid (W.cell? ⟨sb,1,none⟩=some (.int .i64 (k:Int)))) (cf:Hid (W.frozen? ⟨sb,1,none⟩=false)) (hk:k≤src.size) (hs:src.size≤1099511627776) (hT:Hid (IsT F W f caps p)) (hF:Hid (∀k,F k→k≠sb)):
 Calls Tryz.prog 319 #[.pointer (some ⟨sb,0,none⟩),.func (.func f) #[] caps] W fun e W'=>e= .returned (.tuple #[])∧AtJ sb (zbF p src k) W W':=by
 have hsb:sb<W.heap.size:=World.block_lt_of_cell? W ⟨sb,0,none⟩ c0.out
 go_enter Tryz.func319,Tryz.ntmps319
 go_wp2_with fail
 go_loopw [] (fun wr=> ∃j:Nat,j≤src.size∧zbF p src j=zbF p src k∧AtJ sb j W wr) (fun wr=>src.size-zfa sb wr)
 case atStart=>exact⟨k,hk,rfl,AtJ.start c1.out cf.out⟩
 case round=>
  obtain⟨j,hj,hr,hA⟩:=hrel
  have HR:=zaa hr
  have HA:=zaa hA
  clear hr hA
  have d0:=(HA.out.rest 0 (by decide)).trans c0.out
  have d1:=HA.out.here
  have HT2:=zaa (hT.out.atJ hF.out HA.out)
  by_cases hjs:j<src.size
  ·have HM:=zaa (zhe sb f j caps p F src _ d0 d1 hjs hs HT2)
   have hwr:sb<wr.heap.size:=World.block_lt_of_cell? wr ⟨sb,1,none⟩ d1
   cases hp:p src[j] with
   |true=>
    have HN:=zaa (zfX p src j hjs hp)
    rw[hp] at HM
    go_wp2_with fail
    refine(HM.out).mono ?_
    rintro e w' ⟨rfl,hb⟩
    have HA2:=zaa (HA.out.below hsb hb)
    have e1:w'.cell? ⟨sb,1,none⟩=some (.int .i64 (j:Int)):=HA2.out.here
    have e2:=HA2.out.free
    have e0:=(HA2.out.rest 0 (by decide)).trans c0.out
    have k0:(0:Int)≤(j:Int):=by omega
    have k1:(j:Int)+1<9223372036854775808:=by omega
    have k2: -9223372036854775808≤(j:Int)+1:=by omega
    clear d0 d1 hb hp HM e0 hwr
    generalize hz:(j:Int)=z at *
    have HZ:=zaa hz
    clear hz
    go_wp2_with fail
    have hlt:w'.cell? ⟨sb,1,none⟩≠none:=by rw[e1];exact Option.some_ne_none _
    have hset:AtJ sb (j+1) w' (w'.setCell ⟨sb,1,none⟩ (.int .i64 (z+1))):=by
     refine⟨(zbq.refl (fun k=>k=sb) w').setCell (p:=⟨sb,1,none⟩) (Or.inl rfl) _,?_,?_,?_,fun o=>by rw[World.frozen?_setCell]⟩
     ·rw[←HZ.out];exact World.cell?_setCell_same w' _ _ e1
     ·intro o ho;exact World.cell?_setCell_other w' _ _ _ (fun e=>ho (by injection e with _ e2 _;exact e2.symm))
     ·rw[World.frozen?_setCell];exact e2
    have m1:zfa sb (w'.setCell ⟨sb,1,none⟩ (.int .i64 (z+1)))=j+1:=by unfold zfa;rw[hset.here];simp[intOf]
    have m2:zfa sb wr=j:=by unfold zfa;rw[HA.out.here];simp[intOf]
    have HS:=zaa hset
    have HM3:=zaa (show src.size-zfa sb (w'.setCell ⟨sb,1,none⟩ (.int .i64 (z+1)))<src.size-zfa sb wr by rw[m1,m2];omega)
    clear hset m1 m2 hlt e1 e2
    go_roundw
    case rel=>exact⟨j+1,hjs,HN.out.trans HR.out,HA2.out.trans HS.out⟩
    case measure=>exact HM3.out
   |false=>
    have HN:=zaa (zlc p src j hjs hp)
    rw[hp] at HM
    go_wp2_with fail
    refine(HM.out).mono ?_
    rintro e w' ⟨rfl,hb⟩
    go_wp2_with fail
    go_end0
    exact⟨rfl,by have:=HA.out.below hsb hb;rwa[←HR.out,HN.out]⟩
  ·have HM:=zaa (zhd sb j (.func (.func f) #[] caps) src _ d0 d1 (by omega) hs)
   have HN:=zaa (zim p src j (by omega))
   go_wp2_with fail
   refine(HM.out).mono ?_
   rintro e w' ⟨rfl,hb⟩
   go_wp2_with fail
   go_end0
   exact⟨rfl,by have:=HA.out.below hsb hb;rwa[←HR.out,HN.out]⟩
end Go.Proofs.YtgbfaompondolaaGreatDoor
namespace Go.Proofs.YtgbfaompondolaaGreatDoor
open Go.RowKit
def ziv:UInt8→Bool:=fun b=>ze1 97 122 b||ze1 65 90 b
theorem IsT.wide {F G:Nat→Prop} {w:World} {f:Nat} {caps:Array Value} {p:UInt8→Bool} (h:IsT F w f caps p) (hG: ∀k,F k→G k) (hb: ∀k,G k→k<w.heap.size):IsT G w f caps p:=
 ⟨hb,h.enters,fun W hW b=>h.says W (fun k hk=>hW k (hG k hk)) b⟩
theorem zhK (w:World):
 Calls Tryz.prog 262 #[] w fun e w'=>(∃g1 g2 g3 c1 c2 c3,e= .returned (.agg #[.nilFunc,.func (.func g1) #[] c1,.func (.func g2) #[] c2,.func (.func g3) #[] c3])∧IsT (fun k=>w.heap.size<k∧k<w'.heap.size) w' g1 c1 ziv∧IsT (fun k=>w.heap.size<k∧k<w'.heap.size) w' g2 c2 (ze1 48 57)∧IsT (fun k=>w.heap.size<k∧k<w'.heap.size) w' g3 c3 (zfz ⟨#[123,125,59,44,46,58]⟩))∧Below w.heap.size w w':=by
 have HB:=zaa (fun lo hi w=>zgt lo hi w)
 have HA:=zaa (fun s w=>zeZ s w)
 go_enter Tryz.func262,Tryz.ntmps262
 go_wp2_with fail
 have hz0:(w.alloc (.cells #[Value.nilFunc,Value.nilFunc,Value.nilFunc,Value.nilFunc] 257)).heap.size=w.heap.size+1:=by simp
 have hb0:=zaa ((Below.refl w.heap.size w).alloc (Nat.le_refl _) (.cells #[Value.nilFunc,Value.nilFunc,Value.nilFunc,Value.nilFunc] 257))
 have HX0:=zaa (heap_alloc_new w (.cells #[Value.nilFunc,Value.nilFunc,Value.nilFunc,Value.nilFunc] 257))
 generalize hw0:w.alloc _=w0 at *
 have HW0:=zaa hw0
 clear hw0
 refine(HB.out 97 122 _).mono ?_
 rintro e w1 ⟨k1,rfl,hT1,hb1⟩
 have HT1:=zaa hT1
 have HB1:=zaa hb1
 have hz1:w0.heap.size≤w1.heap.size:=hb1.size
 clear hT1 hb1
 go_wp2_with fail
 refine(HB.out 65 90 _).mono ?_
 rintro e w2 ⟨k2,rfl,hT2,hb2⟩
 have HT2:=zaa hT2
 have HB2:=zaa hb2
 have hz2:w1.heap.size≤w2.heap.size:=hb2.size
 clear hT2 hb2
 go_wp2_with fail
 have hb3:Below w2.heap.size w2 (w2.alloc (Obj.cells #[Value.func (Fn.func 316) #[] k1,Value.func (Fn.func 316) #[] k2] 233)):=(Below.refl _ _).alloc (Nat.le_refl _) _
 have hE:=zeb w2.heap.size [⟨316,k1,ze1 97 122⟩,⟨316,k2,ze1 65 90⟩] (fun k=>w.heap.size<k∧k<w2.heap.size) (w2.alloc (Obj.cells #[Value.func (Fn.func 316) #[] k1,Value.func (Fn.func 316) #[] k2] 233)) (by simp) (zaa (heap_alloc_new w2 _))
  (zaa (by
    intro t ht
    simp only[List.mem_cons,List.not_mem_nil,or_false] at ht
    rcases ht with rfl|rfl
    ·exact((HT1.out.below HB2.out).below hb3).wide (fun k hk=>⟨by omega,by have:=((HT1.out.below HB2.out).inn k hk);omega⟩) (fun k hk=>by simp;omega)
    ·exact(HT2.out.below hb3).wide (fun k hk=>⟨by omega,by have:=HT2.out.inn k hk;omega⟩) (fun k hk=>by simp;omega)))
  (fun k hk=>by simp;omega)
 have hw3:(w2.alloc (Obj.cells #[Value.func (Fn.func 316) #[] k1,Value.func (Fn.func 316) #[] k2] 233)).heap.size=w2.heap.size+1:=by simp
 have HE:=zaa hE
 have HB3:=zaa hb3
 clear hE hb3
 generalize w2.alloc (Obj.cells #[Value.func (Fn.func 316) #[] k1,Value.func (Fn.func 316) #[] k2] 233)=W3 at *
 refine HE.out.mono ?_
 rintro e w4 ⟨k4,rfl,hT4,hb4⟩
 have HT4:=zaa (hT4.wide (G:=fun k=>w.heap.size<k∧k<w4.heap.size) (fun k hk=>⟨by rcases hk with hk|hk|hk<;>omega,hT4.inn k hk⟩) (fun k hk=>hk.2))
 have HB4:=zaa hb4
 have hz4:W3.heap.size≤w4.heap.size:=hb4.size
 clear hT4 hb4 HE
 go_wp2_with fail
 refine(HB.out 48 57 _).mono ?_
 rintro e w5 ⟨k5,rfl,hT5,hb5⟩
 have HT5:=zaa hT5
 have HB5:=zaa hb5
 have hz5:w4.heap.size≤w5.heap.size:=hb5.size
 clear hT5 hb5
 go_wp2_with fail
 refine(HA.out _ _).mono ?_
 rintro e w6 ⟨k6,rfl,hT6,hb6⟩
 have HT6:=zaa hT6
 have HB6:=zaa hb6
 have hz6:w5.heap.size≤w6.heap.size:=hb6.size
 clear hT6 hb6
 have HBB:=zaa (show Below w0.heap.size w0 w6 from HB1.out.trans ((HB2.out.mono hz1).trans ((HB3.out.mono (by omega)).trans ((HB4.out.mono (by omega)).trans ((HB5.out.mono (by omega)).trans (HB6.out.mono (by omega)))))))
 have HX:=zaa ((HBB.out.block w.heap.size (by omega)).trans HX0.out)
 have c0:=cell_of_row w6 w.heap.size 0 _ _ _ HX.out
 have c1:=cell_of_row w6 w.heap.size 1 _ _ _ HX.out
 have c2:=cell_of_row w6 w.heap.size 2 _ _ _ HX.out
 have c3:=cell_of_row w6 w.heap.size 3 _ _ _ HX.out
 simp only[List.getElem?_toArray,List.getElem?_cons_zero,List.getElem?_cons_succ] at c0 c1 c2 c3
 have f0:=frozen_of_row w6 w.heap.size 0 _ _ HX.out
 have f1:=frozen_of_row w6 w.heap.size 1 _ _ HX.out
 have f2:=frozen_of_row w6 w.heap.size 2 _ _ HX.out
 have f3:=frozen_of_row w6 w.heap.size 3 _ _ HX.out
 have hlt:w.heap.size<w6.heap.size:=by omega
 have HP:Hid (∀w7:World,zbq (fun k=>k=w.heap.size) w6 w7→w7.heap.size=w6.heap.size→((∃g1 g2 g3 c1 c2 c3,Ending.returned (Value.agg #[Value.nilFunc,Value.func (Fn.func 315) #[] k4,Value.func (Fn.func 316) #[] k5,Value.func (Fn.func 317) #[] k6])= .returned (.agg #[.nilFunc,.func (.func g1) #[] c1,.func (.func g2) #[] c2,.func (.func g3) #[] c3])∧IsT (fun k=>w.heap.size<k∧k<w7.heap.size) w7 g1 c1 ziv∧IsT (fun k=>w.heap.size<k∧k<w7.heap.size) w7 g2 c2 (ze1 48 57)∧IsT (fun k=>w.heap.size<k∧k<w7.heap.size) w7 g3 c3 (zfz ⟨#[123,125,59,44,46,58]⟩))∧Below w.heap.size w w7)):=by
  intro w7 hk hz
  have tr: ∀{F:Nat→Prop} {f:Nat} {c:Array Value} {p:UInt8→Bool},(∀k,F k→w.heap.size<k)→IsT F w6 f c p→IsT (fun k=>w.heap.size<k∧k<w7.heap.size) w7 f c p:=by
   intro F f c p hF h
   exact(h.keep hk.size (fun k hf=>hk.block k (h.inn k hf) (by have:=hF k hf;omega))).wide (fun k hf=>⟨hF k hf,by have:=h.inn k hf;omega⟩) (fun k hf=>hf.2)
  have e4:zgn [⟨316,k1,ze1 97 122⟩,⟨316,k2,ze1 65 90⟩]=ziv:=by funext b;simp[zgn,ziv]
  have t4:=tr (fun k hf=>hf.1) ((HT4.out.below HB5.out).below HB6.out)
  rw[e4] at t4
  exact⟨⟨_,_,_,_,_,_,rfl,t4,tr (fun k hf=>by omega) (HT5.out.below HB6.out),tr (fun k hf=>by omega) HT6.out⟩,hb0.out.trans ((HBB.out.mono (by omega)).trans (hk.below (Nat.le_of_lt hlt) (fun i hi=>by omega)))⟩
 go_wp2_with fail
 refine bodyPost_ret (v:= .agg #[Value.nilFunc,Value.func (Fn.func 315) #[] k4,Value.func (Fn.func 316) #[] k5,Value.func (Fn.func 317) #[] k6]) (by simp[results,Tryz.results262,go_sem,c0,c1,c2,c3]) rfl (HP.out _ ?_ ?_)
 ·exact((((zbq.refl (fun k=>k=w.heap.size) w6).setCell (p:=⟨w.heap.size,0,none⟩) (Or.inl rfl) _).setCell (p:=⟨w.heap.size,1,none⟩) (Or.inl rfl) _).setCell (p:=⟨w.heap.size,2,none⟩) (Or.inl rfl) _).setCell (p:=⟨w.heap.size,3,none⟩) (Or.inl rfl) _
 ·simp[World.setCell]
end Go.Proofs.YtgbfaompondolaaGreatDoor
namespace Go.Proofs.YtgbfaompondolaaGreatDoor
def zdA (p:Nat) (l:List UInt8):List Tok×Nat×Nat:=zmX (l.length+1) p l
theorem zdW: ∀(c:Bool) (l:List UInt8),zaS c l≤l.length
 |_,[]=>by simp[zaS]
 |true,b::r=>by
  unfold zaS
  have h1:=zdW false r
  have h2:=zdW true r
  split<;>simp only[List.length_cons]<;>omega
 |false,b::r=>by
  unfold zaS
  have h1:=zdW false r
  have h2:=zdW true r
  split
  ·simp only[List.length_cons];omega
  ·split<;>simp only[List.length_cons]<;>omega
theorem zmh (r:List UInt8):zgp r≤r.length:=by
 unfold zgp
 exact(List.takeWhile_prefix _).length_le
theorem zc3 (b:UInt8) (r:List UInt8) (h:(zca (b::r)).2.2=0):1≤(zca (b::r)).2.1:=by
 unfold zca at *
 simp only at *
 split
 ·split<;>simp only<;>omega
 ·split
  ·split<;>simp only<;>omega
  ·split
   ·simp
   ·rename_i h1 h2 h3
    rw[if_neg h1,if_neg h2,if_neg h3] at h
    simp at h
theorem zmJ (b:UInt8) (r:List UInt8):(zca (b::r)).2.1≤r.length+1:=by
 unfold zca
 have:=zmh r
 simp only
 split
 ·split<;>simp only<;>omega
 ·split
  ·split<;>simp only<;>omega
  ·split<;>simp
theorem zfQ: ∀(f g p:Nat) (l:List UInt8),l.length<f→l.length<g→zmX f p l=zmX g p l
 |0,_,_,_,h,_=>absurd h (by omega)
 |_+1,0,_,_,_,h=>absurd h (by omega)
 |f+1,g+1,p,l,hf,hg=>by
  unfold zmX
  have hd:(l.drop (zaS false l)).length≤l.length:=by rw[List.length_drop];omega
  cases h:l.drop (zaS false l) with
  |nil=>rfl
  |cons b r=>
   rw[h] at hd
   simp only[List.length_cons] at hd
   simp only
   split
   ·rename_i h0
    have hp:=zc3 b r h0
    have hl:((b::r).drop (zca (b::r)).2.1).length<l.length:=by rw[List.length_drop,List.length_cons];omega
    rw[zfQ f g _ _ (by omega) (by omega)]
   ·rfl
theorem zfy (p:Nat) (l:List UInt8):zdA p l=match l.drop (zaS false l) with
  |[]=>([],0,0)
  |b::r=>
   if(zca (b::r)).2.2=0 then
    (⟨(zca (b::r)).1,(b::r).take (zca (b::r)).2.1,p+zaS false l⟩::(zdA (p+zaS false l+(zca (b::r)).2.1) ((b::r).drop (zca (b::r)).2.1)).1,(zdA (p+zaS false l+(zca (b::r)).2.1) ((b::r).drop (zca (b::r)).2.1)).2)
   else([],p+zaS false l,(zca (b::r)).2.2):=by
 unfold zdA
 have hd:(l.drop (zaS false l)).length≤l.length:=by rw[List.length_drop];omega
 conv=>lhs;unfold zmX
 cases h:l.drop (zaS false l) with
 |nil=>rfl
 |cons b r=>
  rw[h] at hd
  simp only[List.length_cons] at hd
  simp only
  split
  ·rename_i h0
   have hp:=zc3 b r h0
   have hl:((b::r).drop (zca (b::r)).2.1).length<l.length:=by rw[List.length_drop,List.length_cons];omega
   rw[zfQ l.length (((b::r).drop (zca (b::r)).2.1).length+1) _ _ (by omega) (by omega)]
  ·rfl
theorem zoe (p:Nat):zdA p []=([],0,0):=by rw[zfy];simp
theorem zgu (b:UInt8) (r:List UInt8):zaS true (b::r)=1+(if b==10 then zaS false r else zaS true r):=by
 conv=>lhs;unfold zaS
 split<;>rfl
theorem ze0 (b:UInt8) (r:List UInt8):zaS false (b::r)=if zep b then 1+zaS false r else if b==35 then 1+zaS true r else 0:=by
 conv=>lhs;unfold zaS
theorem zcf: ∀(c:Bool) (l:List UInt8),zaS false (l.drop (zaS c l))=0
 |true,[]=>rfl
 |false,[]=>rfl
 |true,b::r=>by
  have h1:=zcf false r
  have h2:=zcf true r
  rw[zgu,Nat.add_comm 1,List.drop_succ_cons]
  cases hb:b==10
  ·exact h2
  ·exact h1
 |false,b::r=>by
  have h1:=zcf false r
  have h2:=zcf true r
  have e:=ze0 b r
  by_cases hb:zep b=true
  ·rw[if_pos hb] at e
   rw[e,Nat.add_comm 1,List.drop_succ_cons];exact h1
  ·rw[if_neg hb] at e
   by_cases hc:(b==35)=true
   ·rw[if_pos hc] at e
    rw[e,Nat.add_comm 1,List.drop_succ_cons];exact h2
   ·rw[if_neg hc] at e
    rw[e,List.drop_zero,e]
theorem znz (p:Nat) (l:List UInt8):zdA p l=zdA (p+zaS false l) (l.drop (zaS false l)):=by
 have h0:zaS false (l.drop (zaS false l))=0:=zcf false l
 rw[zfy p l,zfy (p+zaS false l),h0]
 simp
def zm3:Nat→Nat→List UInt8→List (Tok×Nat)
 |0,_,_=>[]
 |f+1,p,l=>
  match l.drop (zaS false l) with
  |[]=>[]
  |b::r=>
   (⟨(zca (b::r)).1,(b::r).take (zca (b::r)).2.1,p+zaS false l⟩,(zca (b::r)).2.2)::
     (if(zca (b::r)).2.2=0 then zm3 f (p+zaS false l+(zca (b::r)).2.1) ((b::r).drop (zca (b::r)).2.1) else[])
def zel (p:Nat) (l:List UInt8):List (Tok×Nat):=zm3 (l.length+1) p l
theorem zfR: ∀(f g p:Nat) (l:List UInt8),l.length<f→l.length<g→zm3 f p l=zm3 g p l
 |0,_,_,_,h,_=>absurd h (by omega)
 |_+1,0,_,_,_,h=>absurd h (by omega)
 |f+1,g+1,p,l,hf,hg=>by
  unfold zm3
  have hd:(l.drop (zaS false l)).length≤l.length:=by rw[List.length_drop];omega
  cases h:l.drop (zaS false l) with
  |nil=>rfl
  |cons b r=>
   rw[h] at hd
   simp only[List.length_cons] at hd
   simp only
   split
   ·rename_i h0
    have hp:=zc3 b r h0
    have hl:((b::r).drop (zca (b::r)).2.1).length<l.length:=by rw[List.length_drop,List.length_cons];omega
    rw[zfR f g _ _ (by omega) (by omega)]
   ·rfl
theorem zd7 (p:Nat) (l:List UInt8):zel p l=match l.drop (zaS false l) with
  |[]=>[]
  |b::r=>
   (⟨(zca (b::r)).1,(b::r).take (zca (b::r)).2.1,p+zaS false l⟩,(zca (b::r)).2.2)::
     (if(zca (b::r)).2.2=0 then zel (p+zaS false l+(zca (b::r)).2.1) ((b::r).drop (zca (b::r)).2.1) else[]):=by
 unfold zel
 have hd:(l.drop (zaS false l)).length≤l.length:=by rw[List.length_drop];omega
 conv=>lhs;unfold zm3
 cases h:l.drop (zaS false l) with
 |nil=>rfl
 |cons b r=>
  rw[h] at hd
  simp only[List.length_cons] at hd
  simp only
  split
  ·rename_i h0
   have hp:=zc3 b r h0
   have hl:((b::r).drop (zca (b::r)).2.1).length<l.length:=by rw[List.length_drop,List.length_cons];omega
   rw[zfR l.length (((b::r).drop (zca (b::r)).2.1).length+1) _ _ (by omega) (by omega)]
  ·rfl
theorem zgf (p:Nat) (l:List UInt8):zel p l=zel (p+zaS false l) (l.drop (zaS false l)):=by
 have h0:zaS false (l.drop (zaS false l))=0:=zcf false l
 rw[zd7 p l,zd7 (p+zaS false l),h0]
 simp
theorem zfE: ∀(n p:Nat) (l:List UInt8),l.length≤n→((zdA p l).2.2=0→zel p l=(zdA p l).1.map (·,0)∧(zdA p l).2.1=0)∧
 ((zdA p l).2.2≠0→ ∃t:Tok,zel p l=(zdA p l).1.map (·,0)++[(t,(zdA p l).2.2)]∧t.at_=(zdA p l).2.1)
 |n,p,l,hn=>by
  rw[zfy,zd7]
  have hd:(l.drop (zaS false l)).length≤l.length:=by rw[List.length_drop];omega
  cases h:l.drop (zaS false l) with
  |nil=>simp
  |cons b r=>
   rw[h] at hd
   simp only[List.length_cons] at hd
   simp only
   by_cases h0:(zca (b::r)).2.2=0
   ·have hp:=zc3 b r h0
    have hl:((b::r).drop (zca (b::r)).2.1).length<l.length:=by rw[List.length_drop,List.length_cons];omega
    cases n with
    |zero=>omega
    |succ n=>
     have ih:=zfE n (p+zaS false l+(zca (b::r)).2.1) ((b::r).drop (zca (b::r)).2.1) (by omega)
     rw[if_pos h0,if_pos h0]
     refine⟨fun he=> ?_,fun he=> ?_⟩
     ·obtain⟨i1,i2⟩:=ih.1 he
      exact⟨by rw[i1];simp[h0],i2⟩
     ·obtain⟨t,i1,i2⟩:=ih.2 he
      exact⟨t,by rw[i1];simp[h0],i2⟩
   ·rw[if_neg h0,if_neg h0]
    exact⟨fun he=>absurd he h0,fun _=>⟨_,rfl,rfl⟩⟩
theorem ziW: ∀(n p:Nat) (l:List UInt8),l.length≤n→ ∀pre x suf,zel p l=pre++x::suf→(∀y∈pre,y.2=0)∧(x.2≠0→suf=[])
 |n,p,l,hn,pre,x,suf,he=>by
  have h0:=zfE n p l hn
  by_cases hz:(zdA p l).2.2=0
  ·have h1:=(h0.1 hz).1
   rw[h1] at he
   have ha: ∀y∈pre++x::suf,y.2=0:=by
    rw[←he];intro y hy
    obtain⟨t,_,rfl⟩:=List.mem_map.1 hy
    rfl
   exact⟨fun y hy=>ha y (by simp[hy]),fun hx=>absurd (ha x (by simp)) hx⟩
  ·obtain⟨t,h1,_⟩:=h0.2 hz
   rw[h1] at he
   rcases List.eq_nil_or_concat suf with rfl|⟨suf,z,rfl⟩
   ·refine⟨fun y hy=> ?_,fun _=>rfl⟩
    have hi:=List.append_inj' he.symm (by simp)
    rw[hi.1] at hy
    obtain⟨t,_,rfl⟩:=List.mem_map.1 hy
    rfl
   ·have he2:List.map (fun x=>(x,0)) (zdA p l).1++[(t,(zdA p l).2.2)]=(pre++x::suf)++[z]:=by rw[he];simp
    have hi:=(List.append_inj' he2 (by simp)).1
    have ha: ∀y∈pre++x::suf,y.2=0:=by
     rw[←hi];intro y hy
     obtain⟨t,_,rfl⟩:=List.mem_map.1 hy
     rfl
    exact⟨fun y hy=>ha y (by simp[hy]),fun hx=>absurd (ha x (by simp)) hx⟩
end Go.Proofs.YtgbfaompondolaaGreatDoor
namespace Go.Proofs.YtgbfaompondolaaGreatDoor
open Go.RowKit
open Go.MuLone (run_callFunc_enter)
def zda:UInt8→Bool:=zfz ⟨#[32,9,10,13]⟩
def zjd:UInt8→Bool:=zfz ⟨#[35]⟩
def zcJ:UInt8→Bool:=fun b=>b != 10
theorem zgd (b:UInt8):zda b=zep b:=by
 show[32,9,10,13].contains b=zep b
 simp only[zep,List.contains_cons,List.contains_nil,Bool.or_false,Bool.or_assoc]
theorem zgY (b:UInt8):zjd b=(b==35):=by
 show[35].contains b=(b==35)
 simp only[List.contains_cons,List.contains_nil,Bool.or_false]
def zbn (src:ByteArray) (j:Nat):Nat:=j+zaS false ((zaA src).drop j)
theorem zkY (p:UInt8→Bool) (l:List UInt8):l.drop (l.takeWhile p).length=l.dropWhile p:=by
 conv=>lhs;arg 2;rw[←List.takeWhile_append_dropWhile (p:=p) (l:=l)]
 rw[List.drop_left]
theorem zeP: ∀l:List UInt8,zaS false l=(l.takeWhile zda).length+zaS false (l.dropWhile zda)
 |[]=>rfl
 |b::r=>by
  by_cases hb:zda b=true
  ·rw[List.takeWhile_cons,if_pos hb,List.dropWhile_cons,if_pos hb,List.length_cons,ze0,if_pos (by rw[←zgd];exact hb),zeP r]
   omega
  ·rw[List.takeWhile_cons,if_neg hb,List.dropWhile_cons,if_neg hb]
   simp
theorem zgb: ∀l:List UInt8,zaS true l=(l.takeWhile zcJ).length+zaS false (l.dropWhile zcJ)
 |[]=>rfl
 |b::r=>by
  by_cases hb:zcJ b=true
  ·have h10:(b==10)=false:=by simpa [zcJ] using hb
   rw[List.takeWhile_cons,if_pos hb,List.dropWhile_cons,if_pos hb,List.length_cons,zgu,h10,zgb r]
   simp;omega
  ·have h10:b=10:=by simpa [zcJ] using hb
   rw[List.takeWhile_cons,if_neg hb,List.dropWhile_cons,if_neg hb,zgu,ze0,h10]
   simp[zep]
theorem zcP (p:UInt8→Bool) (src:ByteArray) (j:Nat) (hj:j≤src.size):j≤zbF p src j∧zbF p src j≤src.size:=by
 unfold zbF
 have h:=(List.takeWhile_prefix (l:=(zaA src).drop j) p).length_le
 have hl:(zaA src).length=src.size:=by simp[zaA]
 rw[List.length_drop,hl] at h
 exact⟨by omega,by omega⟩
theorem zd9 (p:UInt8→Bool) (src:ByteArray) (j:Nat):(zaA src).drop (zbF p src j)=((zaA src).drop j).dropWhile p:=by
 unfold zbF
 rw[←List.drop_drop,zkY]
theorem zf8 (src:ByteArray) (j:Nat):zbn src (zbF zda src j)=zbn src j:=by
 unfold zbn
 rw[zd9,zeP ((zaA src).drop j)]
 unfold zbF
 omega
theorem zgz (src:ByteArray) (j:Nat) (hj:j<src.size) (h:src[j]=35):zbn src (zbF zcJ src j)=zbn src j:=by
 unfold zbn
 rw[zd9]
 unfold zbF
 rw[zbg src j hj,h,ze0,List.takeWhile_cons,List.dropWhile_cons]
 simp only[show zep 35=false from by decide,show zcJ 35=true from by decide,show((35:UInt8)==35)=true from by decide]
 rw[zgb]
 simp;omega
theorem zhL (p:UInt8→Bool) (src:ByteArray) (j:Nat) (hj:zbF p src j<src.size):p src[zbF p src j]=false:=by
 have h:=zd9 p src j
 rw[zbg src _ hj] at h
 have h2:=List.head?_dropWhile_not p ((zaA src).drop j)
 rw[←h] at h2
 simpa using h2
theorem zgL (src:ByteArray) (j:Nat) (hb:(j<src.size)→ ∃h:j<src.size,zda src[j]=false∧zjd src[j]=false) (_hj:j≤src.size):zbn src j=j:=by
 unfold zbn
 rcases Nat.lt_or_ge j src.size with h|h
 ·obtain⟨_,h1,h2⟩:=hb h
  rw[zbg src j h,ze0,←zgd,h1,←zgY,h2]
  simp
 ·rw[List.drop_eq_nil_of_le (by simpa [zaA] using h)]
  simp[zaS]
theorem zkt (b:UInt8) (W:World):Calls Tryz.prog 321 #[.int .u8 (b.toNat:Int)] W fun e W'=>e= .returned (.bool (zcJ b))∧Below W.heap.size W W':=by
 have HL:Hid (zcJ b= !decide (b.toNat=10)):=by
  show zcJ b=_
  unfold zcJ
  rw[Bool.eq_iff_iff]
  simp[bne_iff_ne,←UInt8.toNat_inj]
 generalize b.toNat=n at *
 by_cases h:n=10
 ·have HR:=zaa (show zcJ b=false by rw[HL.out];simp[h])
  have h1:((n:Int) != 10)=false:=by simp;omega
  clear h
  go_enter Tryz.func321,Tryz.ntmps321
  go_wp2_with fail
  go_ret
  exact⟨by rw[HR.out];simp at h1;simp,Below.refl _ _⟩
 ·have HR:=zaa (show zcJ b=true by rw[HL.out];simp[h])
  have h1:((n:Int) != 10)=true:=by simp;omega
  clear h
  go_enter Tryz.func321,Tryz.ntmps321
  go_wp2_with fail
  go_ret
  exact⟨by rw[HR.out];simp at h1;simp,Below.refl _ _⟩
theorem zmj (w:World):IsT (fun _=>False) w 321 #[] zcJ:=
 ⟨fun k h=>h.elim,fun args W=>run_callFunc_enter (c:=((Tryz.f321).body.getD .skip)) Tryz.func321 (by kernel_rfl) (by kernel_rfl) args W,fun W _ b=>zkt b W⟩
theorem AtJ.belowD {sb j:Nat} {a b c:World} (h:AtJ sb j a b) (hsb:sb<a.heap.size) (k:Below b.drew.heap.size b.drew c):AtJ sb j a c:=
 h.below hsb (((Below.refl _ _).drew).trans k)
structure SkR (src:ByteArray) (k j:Nat):Prop where
 le:j≤src.size
 to:zbn src j=zbn src k
 stop: ∀h:j<src.size,zda src[j]=false
theorem SkR.start (src:ByteArray) (k:Nat) (hk:k≤src.size):SkR src k (zbF zda src k):=
 ⟨(zcP _ _ _ hk).2,zf8 src k,fun h=>zhL _ _ _ h⟩
theorem SkR.step {src:ByteArray} {k j:Nat} (h:SkR src k j) (hj:j<src.size) (hh:zjd src[j]=true):SkR src k (zbF zda src (zbF zcJ src j))∧j<zbF zda src (zbF zcJ src j):=by
 have e:src[j]=35:=by rw[zgY] at hh;simpa using hh
 have h1:=zfX zcJ src j hj (by rw[e];rfl)
 have h2:=zcP zcJ src (j+1) hj
 rw[h1] at h2
 have h3:=zcP zda src (zbF zcJ src j) h2.2
 have h4:=SkR.start src (zbF zcJ src j) h2.2
 exact⟨⟨h3.2,h4.to.trans ((zgz src j hj e).trans h.to),h4.stop⟩,by omega⟩
theorem SkR.done {src:ByteArray} {k j:Nat} (h:SkR src k j) (hh: ∀hj:j<src.size,zjd src[j]=false):zbn src k=j:=by
 rw[←h.to]
 exact zgL src j (fun hj=>⟨hj,h.stop hj,hh hj⟩) h.le
theorem zlD {sb:Nat} {w:World} (h:sb<w.heap.size):Hid (∀i,(fun k=>k=w.heap.size) i→i≠sb):=zaa fun i hi e=>by have hi':i=w.heap.size:=hi;omega
theorem zeq (sb f k:Nat) (caps:Array Value) (p:UInt8→Bool) (F:Nat→Prop) (src:ByteArray) (W:World) (c0:W.cell? ⟨sb,0,none⟩=some (.string src)) (c1:W.cell? ⟨sb,1,none⟩=some (.int .i64 (k:Int))) (hk:k<src.size) (hs:src.size≤1099511627776) (hT:Hid (IsT F W f caps p)) (v:Bool) (hv:p src[k]=v):
 Calls Tryz.prog 320 #[.pointer (some ⟨sb,0,none⟩),.func (.func f) #[] caps] W fun e W'=>e= .returned (.bool v)∧Below W.heap.size W W':=by
 subst hv
 exact zhe sb f k caps p F src W c0 c1 hk hs hT
theorem zla (sb k:Nat) (src:ByteArray) (W:World) (c0:Hid (W.cell? ⟨sb,0,none⟩=some (.string src))) (c1:Hid (W.cell? ⟨sb,1,none⟩=some (.int .i64 (k:Int)))) (cf:Hid (W.frozen? ⟨sb,1,none⟩=false)) (hk:k≤src.size) (hs:src.size≤1099511627776):
 Calls Tryz.prog 298 #[.pointer (some ⟨sb,0,none⟩)] W fun e W'=>e= .returned (.tuple #[])∧AtJ sb (zbn src k) W W':=by
 have hsb:sb<W.heap.size:=World.block_lt_of_cell? W ⟨sb,0,none⟩ c0.out
 have HA:=zaa (fun s w=>zeZ s w)
 have HJ0:=zaa (AtJ.start c1.out cf.out)
 go_enter Tryz.func298,Tryz.ntmps298
 go_wp2_with fail
 go_region_held3 (fun w'=>True) (trivial)
  (first
    |(go_at_call 296;refine(HA.out _ _).mono ?_;rintro e w1 ⟨k1,rfl,hT1,hb1⟩;have HT1:=zaa hT1;have HJ1:=zaa (HJ0.out.belowD hsb hb1);clear hT1 hb1)
    |(go_at_call 319;refine(zdu sb _ k _ _ _ src _ (zaa ((HJ1.out.rest 0 (by decide)).trans c0.out)) (zaa HJ1.out.here) (zaa HJ1.out.free) (by assumption) hs HT1 (zlD (Nat.lt_of_lt_of_le hsb HJ0.out.kept.size))).mono ?_;rintro e w2 ⟨rfl,hJ2⟩;have HJ2:=zaa (HJ1.out.trans hJ2);clear hJ2))
 go_wp2_with fail
 go_loopw [] (fun wr=> ∃j:Nat,SkR src k j∧AtJ sb j W wr) (fun wr=>src.size-zfa sb wr)
 case atStart=>exact⟨_,SkR.start src k hk,HJ2.out⟩
 case round=>
  obtain⟨j,hR,hJ⟩:=hrel
  have HR:=zaa hR
  have HJ:=zaa hJ
  have hj:j≤src.size:=hR.le
  clear hR hJ
  by_cases hlt:j<src.size
  ·cases hh:zjd src[j]
   ·have HD:=zaa (HR.out.done (fun _=>hh))
    have HH:Hid (zfz ⟨#[35]⟩ src[j]=false):=zaa hh
    clear hh
    go_wp2_with fail
    go_region_held3 (fun w'=>True) (trivial)
     (first
       |(go_at_call 296;refine(HA.out _ _).mono ?_;rintro e w1 ⟨k1,rfl,hT1,hb1⟩;have HT1:=zaa hT1;have HJ1:=zaa (HJ.out.belowD hsb hb1);clear hT1 hb1)
       |(go_at_call 320;refine(zeq sb _ j _ _ _ src _ ((HJ1.out.rest 0 (by decide)).trans c0.out) HJ1.out.here hlt hs HT1 false HH.out).mono ?_;rintro e w2 ⟨rfl,hb2⟩;have HJ2:=zaa (HJ1.out.below hsb hb2);clear hb2))
    go_wp2_with fail
    go_end0
    exact⟨rfl,by rw[HD.out];exact HJ2.out⟩
   ·have HS:=zaa (HR.out.step hlt hh)
    have HH:Hid (zfz ⟨#[35]⟩ src[j]=true):=zaa hh
    have hr1:=(zcP zcJ src j hj).2
    clear hh
    go_wp2_with fail
    go_region_held3 (fun w'=>True) (trivial)
     (first
       |(go_at_call 296;refine(HA.out _ _).mono ?_;rintro e w1 ⟨k1,rfl,hT1,hb1⟩;have HT1:=zaa hT1;have HJ1:=zaa (HJ.out.belowD hsb hb1);clear hT1 hb1)
       |(go_at_call 320;refine(zeq sb _ j _ _ _ src _ ((HJ1.out.rest 0 (by decide)).trans c0.out) HJ1.out.here hlt hs HT1 true HH.out).mono ?_;rintro e w2 ⟨rfl,hb2⟩;have HJ2:=zaa (HJ1.out.below hsb hb2);clear hb2))
    clear HJ1 HT1
    go_wp2_with fail
    refine(zdu sb _ j _ _ _ src _ (zaa ((HJ2.out.rest 0 (by decide)).trans c0.out)) (zaa HJ2.out.here) (zaa HJ2.out.free) hj hs (zaa (zmj _)) (zaa (fun i hi=>hi.elim))).mono ?_
    rintro e w3 ⟨rfl,hJ3⟩
    have HJ3:=zaa (HJ2.out.trans hJ3)
    clear hJ3
    go_wp2_with fail
    go_region_held3 (fun w'=>True) (trivial)
     (first
       |(go_at_call 296;refine(HA.out _ _).mono ?_;rintro e w1 ⟨k1,rfl,hT1,hb1⟩;have HT1:=zaa hT1;have HJ1:=zaa (HJ3.out.belowD hsb hb1);clear hT1 hb1)
       |(go_at_call 319;refine(zdu sb _ (zbF zcJ src j) _ _ _ src _ (zaa ((HJ1.out.rest 0 (by decide)).trans c0.out)) (zaa HJ1.out.here) (zaa HJ1.out.free) (by assumption) hs HT1 (zlD (Nat.lt_of_lt_of_le hsb HJ3.out.kept.size))).mono ?_;rintro e w2 ⟨rfl,hJ2⟩;have HJ4:=zaa (HJ1.out.trans hJ2);clear hJ2))
    go_wp2_with fail
    have m2:zfa sb wr=j:=by unfold zfa;rw[HJ.out.here];simp[intOf]
    have m1:zfa sb w2=zbF zda src (zbF zcJ src j):=by unfold zfa;rw[HJ4.out.here];simp[intOf];rfl
    have HM:=zaa (show src.size-zfa sb w2<src.size-zfa sb wr by rw[m1,m2];have:=HS.out.2;omega)
    clear m1 m2
    go_roundw
    case rel=>exact⟨_,HS.out.1,HJ4.out⟩
    case measure=>exact HM.out
  ·have HD:=zaa (HR.out.done (fun h=>absurd h hlt))
   go_wp2_with fail
   go_region_held3 (fun w'=>True) (trivial)
    (first
      |(go_at_call 296;refine(HA.out _ _).mono ?_;rintro e w1 ⟨k1,rfl,hT1,hb1⟩;have HT1:=zaa hT1;have HJ1:=zaa (HJ.out.belowD hsb hb1);clear hT1 hb1)
      |(go_at_call 320;refine(zhd sb j _ src _ ((HJ1.out.rest 0 (by decide)).trans c0.out) HJ1.out.here (Nat.le_of_not_lt hlt) hs).mono ?_;rintro e w2 ⟨rfl,hb2⟩;have HJ2:=zaa (HJ1.out.below hsb hb2);clear hb2))
   go_wp2_with fail
   go_end0
   exact⟨rfl,by rw[HD.out];exact HJ2.out⟩
end Go.Proofs.YtgbfaompondolaaGreatDoor
namespace Go.Proofs.YtgbfaompondolaaGreatDoor
open Go
def zjp (s:List UInt8):Bool:=match Lib.atoiAll s with
 | .ok v=>decide (v≤1073741824)&&(Lib.itoa v==s)
 |_=>false
def zcS (a:Nat) (s:List UInt8):Nat:=s.foldl (fun n b=>n*10+zfq b) a
theorem zfA: ∀(s:List UInt8) (a:Nat),a≤zcS a s
 |[],a=>Nat.le_refl _
 |b::r,a=>by
  have:=zfA r (a*10+zfq b)
  show a≤zcS (a*10+zfq b) r
  omega
theorem zcd (b:UInt8):zbt b=true↔48≤b.toNat∧b.toNat≤57:=by simp[zbt]
theorem zg7: ∀(s:List UInt8) (a u:Nat),Lib.parseUint10 a s= .ok u→s.all zbt=true∧u=zcS a s
 |[],a,u,h=>by
  simp only[Lib.parseUint10] at h
  injection h with h
  exact⟨rfl,h.symm⟩
 |b::r,a,u,h=>by
  simp only[Lib.parseUint10] at h
  split at h
  ·rename_i hd
   split at h
   ·cases h
   ·split at h
    ·cases h
    ·obtain⟨h1,h2⟩:=zg7 r _ u h
     exact⟨by rw[List.all_cons,h1,(zcd b).2 hd];rfl,h2⟩
  ·cases h
theorem zgQ: ∀(s:List UInt8) (a:Nat),s.all zbt=true→zcS a s≤1073741824→Lib.parseUint10 a s= .ok (zcS a s)
 |[],a,_,_=>rfl
 |b::r,a,h,hv=>by
  rw[List.all_cons,Bool.and_eq_true] at h
  have hd:=(zcd b).1 h.1
  have e:zcS a (b::r)=zcS (a*10+zfq b) r:=rfl
  rw[e] at hv ⊢
  have h2:=zfA r (a*10+zfq b)
  have ih:=zgQ r (a*10+zfq b) h.2 hv
  unfold zfq at *
  simp only[Lib.parseUint10]
  rw[if_pos hd,if_neg (by omega),if_neg (by omega)]
  exact ih
theorem zfO (u:Nat):Lib.decDigits u=if u<10 then[(48+u).toUInt8] else Lib.decDigits (u/10)++[(48+u % 10).toUInt8]:=by
 conv=>lhs;unfold Lib.decDigits
 split<;>rfl
theorem znt (b:UInt8) (h:zbt b=true):(48+zfq b).toUInt8=b:=by
 have hd:=(zcd b).1 h
 unfold zfq
 rw[show 48+(b.toNat-48)=b.toNat from by omega]
 simp
theorem zi1 (b:UInt8) (h:zbt b=true):zfq b<10:=by
 have hd:=(zcd b).1 h
 unfold zfq;omega
theorem zhE (a:Nat) (s:List UInt8) (d:UInt8):zcS a (s++[d])=zcS a s*10+zfq d:=by simp[zcS]
theorem zi5 (b:UInt8) (r:List UInt8) (hb:zbt b=true) (h0:b≠48):1≤zcS 0 (b::r):=by
 have h:=zfA r (0*10+zfq b)
 have hd:=(zcd b).1 hb
 have hn:b.toNat≠48:=fun e=>h0 (UInt8.toNat_inj.1 e)
 show 1≤zcS (0*10+zfq b) r
 unfold zfq at *
 omega
theorem zjr: ∀(n:Nat) (b:UInt8) (r:List UInt8),r.length≤n→(b::r).all zbt=true→(r=[]∨b≠48)→Lib.decDigits (zcS 0 (b::r))=b::r
 |n,b,r,hn,ha,h0=>by
  rcases List.eq_nil_or_concat r with rfl|⟨r',d,rfl⟩
  ·rw[List.all_cons,Bool.and_eq_true] at ha
   have hv:zcS 0 [b]=zfq b:=by simp[zcS]
   have:=zi1 b ha.1
   rw[hv,zfO,if_pos this,znt b ha.1]
  ·cases n with
   |zero=>simp at hn
   |succ n=>
    have hb:b≠48:=by rcases h0 with h0|h0;simp at h0;exact h0
    have ha2:(b::r').all zbt=true∧zbt d=true:=by simpa [List.all_cons,List.all_append,Bool.and_eq_true,and_assoc] using ha
    have hbd:zbt b=true:=by have:=ha2.1;rw[List.all_cons,Bool.and_eq_true] at this;exact this.1
    have ih:=zjr n b r' (by simp at hn;omega) ha2.1 (.inr hb)
    have hp:=zi5 b r' hbd hb
    have hd:=zi1 d ha2.2
    have e:b::r'.concat d=(b::r')++[d]:=by rw[List.concat_eq_append];rfl
    rw[e,zhE,zfO,if_neg (by omega),show(zcS 0 (b::r')*10+zfq d)/10=zcS 0 (b::r') from by omega,show(zcS 0 (b::r')*10+zfq d) % 10=zfq d from by omega,ih,znt d ha2.2]
theorem zhx: ∀(n u:Nat),u≤n→0<u→ ∃b r,Lib.decDigits u=b::r∧b≠48
 |n,u,hn,h=>by
  by_cases h10:u<10
  ·refine⟨_,_,by rw[zfO,if_pos h10],fun e=> ?_⟩
   have:=congrArg UInt8.toNat e
   simp at this
   omega
  ·cases n with
   |zero=>omega
   |succ n=>
    obtain⟨b,r,e,hb⟩:=zhx n (u/10) (by omega) (by omega)
    exact⟨b,r++[(48+u % 10).toUInt8],by rw[zfO,if_neg h10,e];rfl,hb⟩
theorem zgU (b:UInt8) (r:List UInt8) (hb:zbt b=true) (v:Int) (h:Lib.atoiAll (b::r)= .ok v): ∃u:Nat,Lib.parseUint10 0 (b::r)= .ok u∧v=u:=by
 have hd:=(zcd b).1 hb
 have h1: ¬(b.toNat=43∨b.toNat=45):=by omega
 have h2: ¬b.toNat=45:=by omega
 unfold Lib.atoiAll Lib.parseMag at h
 simp only[h1,if_false,reduceCtorEq] at h
 cases hp:Lib.parseUint10 0 (b::r) with
 |ok u=>
  rw[hp] at h
  simp only[h2,not_false_eq_true,true_and,false_and,if_false] at h
  split at h
  ·cases h
  ·injection h with h
   exact⟨u,rfl,h.symm⟩
 |_=>rw[hp] at h;cases h
theorem zkv (b:UInt8) (r:List UInt8) (hb:zbt b=true) (u:Nat) (hp:Lib.parseUint10 0 (b::r)= .ok u) (hu:u<9223372036854775808):Lib.atoiAll (b::r)= .ok (u:Int):=by
 have hd:=(zcd b).1 hb
 have h1: ¬(b.toNat=43∨b.toNat=45):=by omega
 have h2: ¬b.toNat=45:=by omega
 unfold Lib.atoiAll Lib.parseMag
 simp only[h1,if_false,reduceCtorEq]
 rw[hp]
 simp only[h2,not_false_eq_true,true_and,false_and,if_false]
 rw[if_neg (by omega)]
theorem zmk (b:UInt8) (r:List UInt8) (hb:zbt b=true):zjp (b::r)=zmK (b::r):=by
 rw[Bool.eq_iff_iff]
 have hv:zoD (b::r)=zcS 0 (b::r):=rfl
 constructor
 ·intro h
  unfold zjp at h
  cases hx:Lib.atoiAll (b::r) with
  |ok v=>
   rw[hx] at h
   obtain⟨u,hp,rfl⟩:=zgU b r hb v hx
   obtain⟨h1,h2⟩:=zg7 _ _ _ hp
   simp only[Bool.and_eq_true,decide_eq_true_eq,beq_iff_eq] at h
   have hi:Lib.itoa (u:Int)=Lib.decDigits u:=by unfold Lib.itoa;rw[if_neg (by omega)];simp
   rw[hi] at h
   unfold zmK
   rw[h1,hv,←h2]
   have hu:u≤1073741824:=by omega
   cases r with
   |nil=>simp[hu]
   |cons c r=>
    have hz:b≠48:=by
     intro e
     subst e
     by_cases hu0:u=0
     ·subst hu0
      have:=h.2
      rw[zfO,if_pos (by decide)] at this
      simp at this
     ·obtain⟨b',r',e,hb'⟩:=zhx u u (Nat.le_refl _) (by omega)
      rw[e] at h
      exact hb' (by have:=h.2;injection this)
    simp[hu,hz]
  |_=>rw[hx] at h;cases h
 ·intro h
  unfold zmK at h
  simp only[Bool.and_eq_true,decide_eq_true_eq] at h
  obtain⟨⟨h1,h2⟩,h3⟩:=h
  rw[hv] at h3
  have hp:=zgQ (b::r) 0 h1 h3
  unfold zjp
  rw[zkv b r hb _ hp (by omega)]
  simp only[Bool.and_eq_true,decide_eq_true_eq,beq_iff_eq]
  refine⟨by omega,?_⟩
  have hi:Lib.itoa (zcS 0 (b::r):Int)=Lib.decDigits (zcS 0 (b::r)):=by unfold Lib.itoa;rw[if_neg (by omega)];simp
  rw[hi]
  refine zjr r.length b r (Nat.le_refl _) h1 ?_
  cases r with
  |nil=>exact .inl rfl
  |cons c r=>right;simpa using h2
end Go.Proofs.YtgbfaompondolaaGreatDoor
namespace Go.Proofs.YtgbfaompondolaaGreatDoor
open Go.RowKit
theorem zok:Tryz.prog.globalNamed "internal/strconv.uint64pow10" =some 3:=by kernel_rfl
theorem zjZ:Tryz.prog.globalNamed "strconv.ErrSyntax" =some 6:=by kernel_rfl
theorem zkT:Tryz.prog.globalNamed "strconv.ErrRange" =some 7:=by kernel_rfl
structure Env (w:World):Prop where
 tab:Lib.TabIs Tryz.prog w "internal/strconv.uint64pow10" .u64 Lib.pow10Tab
 errS: ∃tp p,w.var? Tryz.prog "strconv.ErrSyntax" =some #[.iface tp p]
 errR: ∃tp p,w.var? Tryz.prog "strconv.ErrRange" =some #[.iface tp p]
 big:3<w.heap.size∧6<w.heap.size∧7<w.heap.size
theorem Env.keptB {B:Nat} {w w':World} (h:Env w) (hb:Below B w w') (hB:8≤B):Env w':=by
 obtain⟨t1,p1,h1⟩:=h.errS
 obtain⟨t2,p2,h2⟩:=h.errR
 obtain⟨b1,b2,b3⟩:=h.big
 refine⟨?_,⟨t1,p1,var?_below hb zjZ (by omega) h1⟩,⟨t2,p2,var?_below hb zkT (by omega) h2⟩,Nat.lt_of_lt_of_le b1 hb.size,Nat.lt_of_lt_of_le b2 hb.size,Nat.lt_of_lt_of_le b3 hb.size⟩
 have ht:=h.tab
 unfold Lib.TabIs at ht ⊢
 exact var?_below hb zok (by omega) ht
theorem Env.kept {w w':World} (h:Env w) (hb:Below w.heap.size w w'):Env w':=by
 obtain⟨t1,p1,h1⟩:=h.errS
 obtain⟨t2,p2,h2⟩:=h.errR
 obtain⟨b1,b2,b3⟩:=h.big
 refine⟨?_,⟨t1,p1,var?_below hb zjZ b2 h1⟩,⟨t2,p2,var?_below hb zkT b3 h2⟩,Nat.lt_of_lt_of_le b1 hb.size,Nat.lt_of_lt_of_le b2 hb.size,Nat.lt_of_lt_of_le b3 hb.size⟩
 have ht:=h.tab
 unfold Lib.TabIs at ht ⊢
 exact var?_below hb zok b1 ht
theorem zhG {w:World} (k:Nat) (os:Array Obj):Below w.heap.size w (Go.Sort.grow (w.drewN k) os):=by
 refine⟨rfl,rfl,rfl,?_,fun i hi=> ?_⟩
 ·show _≤(w.heap++os).size;simp
 ·show(w.heap++os)[i]? =_;rw[Array.getElem?_append_left hi]
theorem zdy (n:Int) (w:World) (hE:Env w) (h0: -9223372036854775808≤n) (h1:n≤9223372036854775807):Calls Tryz.prog 142 #[.int .i64 n] w fun e w'=>e= .returned (.string ⟨(Lib.itoa n).toArray⟩)∧Below w.heap.size w w':=
 (Tryz.strconv_Itoa n h0 h1 w hE.tab).mono fun _ _ ⟨h,k,os,hw⟩=>⟨h,by rw[hw];exact zhG k os⟩
theorem zmt (s:ByteArray) (hs:s.size≤1099511627776) (w:World) (hE:Env w) (hno: ∀v,Lib.atoiAll s.data.toList≠ .ok v):
 Calls Tryz.prog 332 #[.string s] w fun e w'=> ∃v N,e= .returned (.tuple #[.int .i64 v,.iface 334 (.pointer (some ⟨N,0,none⟩))])∧Below w.heap.size w w':=by
 obtain⟨t1,p1,h1⟩:=hE.errS
 obtain⟨t2,p2,h2⟩:=hE.errR
 cases hx:Lib.atoiAll s.data.toList with
 |ok v=>exact absurd hx (hno v)
 |range=>exact(Any.strconv_Atoi_range_var Tryz.laysC172 s (by omega) hx t2 p2 w h2).mono fun e w' ⟨N,he,_,_,hb⟩=>⟨_,N,he,hb⟩
 |_=>exact(Any.strconv_Atoi_syntax_var Tryz.laysC172 s (by omega) hx t1 p1 w h1).mono fun e w' ⟨N,he,_,_,hb⟩=>⟨_,N,he,hb⟩
theorem zk2 (s:ByteArray) (hs:s.size≤1099511627776) (w:World) (v:Int) (hv:Lib.atoiAll s.data.toList= .ok v):
 Calls Tryz.prog 332 #[.string s] w fun e w'=>e= .returned (.tuple #[.int .i64 v,.nilIface])∧Below w.heap.size w w':=
 (Tryz.strconv_Atoi_ok s (by omega) v hv w).mono fun e w' ⟨he,hw⟩=>⟨he,by
   rcases hw with rfl|⟨t,rfl⟩
   ·exact Below.refl _ _
   ·exact⟨rfl,rfl,rfl,by rw[Lib.bytesWorld_size];omega,fun j hj=>Lib.bytesWorld_at_old _ _ _ j hj⟩⟩
theorem zhJ (s:ByteArray) (w:World) (hs:s.size≤1099511627776) (hE:Hid (Env w)) (hd:Hid (∃b r,s.data.toList=b::r∧zbt b=true)):Calls Tryz.prog 322 #[.string s] w fun e w'=>e= .returned (.bool (zjp s.data.toList))∧Below w.heap.size w w':=by
 by_cases hno: ∀v,Lib.atoiAll s.data.toList≠ .ok v
 ·have HR:=zaa (show zjp s.data.toList=false by
   unfold zjp
   cases hx:Lib.atoiAll s.data.toList with
   |ok v=>exact absurd hx (hno v)
   |_=>rfl)
  have HA:=zaa (zmt s hs w hE.out hno)
  clear hno
  go_enter Tryz.func322,Tryz.ntmps322
  go_wp2_with fail
  refine HA.out.mono ?_
  rintro e w1 ⟨v,N,rfl,hb⟩
  have HB:=zaa hb
  clear hb
  go_wp2_with fail
  go_ret
  exact⟨by rw[HR.out];rfl,HB.out⟩
 ·have hyes: ∃v,Lib.atoiAll s.data.toList= .ok v:=by
   by_cases h: ∃v,Lib.atoiAll s.data.toList= .ok v
   ·exact h
   ·exact absurd (fun v hv=>h ⟨v,hv⟩) hno
  obtain⟨v,hv⟩:=hyes
  clear hno
  have HC:=zaa (show zjp s.data.toList=(decide (v≤1073741824)&&(Lib.itoa v==s.data.toList)) by unfold zjp;rw[hv])
  have HA:=zaa (zk2 s hs w v hv)
  have hv0:0≤v:=by
   obtain⟨b,r,e,hb⟩:=hd.out
   rw[e] at hv
   obtain⟨u,_,rfl⟩:=zgU b r hb v hv
   omega
  clear hv
  by_cases hle:v≤1073741824
  ·have HC2:=zaa (show zjp s.data.toList=(Lib.itoa v==s.data.toList) by rw[HC.out];simp[hle])
   have HI:=zaa (fun w (hE:Env w)=>zdy v w hE (by omega) (by omega))
   have hle2:decide (v≤1073741824)=true:=by simp;omega
   go_enter Tryz.func322,Tryz.ntmps322
   go_wp2_with fail
   refine HA.out.mono ?_
   rintro e w1 ⟨rfl,hb⟩
   have HB:=zaa hb
   clear hb
   go_wp2_with fail
   refine(HI.out _ (hE.out.kept HB.out)).mono ?_
   rintro e w2 ⟨rfl,hb⟩
   have HB2:=zaa (btZ HB.out hb)
   clear hb
   go_wp2_with fail
   go_ret
   exact⟨by rw[HC2.out,←ByteArray.toList_eq];rfl,HB2.out⟩
  ·have HR:=zaa (show zjp s.data.toList=false by rw[HC.out];simp[hle])
   have hd:decide (v≤1073741824)=false:=by simp;omega
   go_enter Tryz.func322,Tryz.ntmps322
   go_wp2_with fail
   refine HA.out.mono ?_
   rintro e w1 ⟨rfl,hb⟩
   have HB:=zaa hb
   clear hb
   go_wp2_with fail
   go_ret
   exact⟨by rw[HR.out];rfl,HB.out⟩
end Go.Proofs.YtgbfaompondolaaGreatDoor
