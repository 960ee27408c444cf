/-
  parse: ParseSmall: things, names.-/
import Derived.Test.YtlngbjphagnloaaGreatDoorSmA
set_option maxHeartbeats 4000000
set_option maxRecDepth 100000
namespace Go.Proofs.YtlngbjphagnloaaGreatDoor
open Go.RowKit
attribute [local go_sem] zax.cell
theorem blk_txt {w w':World} {b:Nat} {T:TypeId} {l:List (List UInt8)} (h:w.heap[b]? =some (.cells (ziI l).toArray T (0,0))) (hb:Below w.heap.size w w') {k:Nat} (hk:k<l.length):
 b<w'.heap.size∧ ∃x,x∈l∧w'.cell? ⟨b,k,none⟩=some (.string ⟨x.toArray⟩):=by
 have hlt:=(zal h);refine⟨Nat.lt_of_lt_of_le hlt hb.size,l[k],List.getElem_mem hk,(hb.cell (p:=⟨b,k,none⟩) hlt).trans ?_⟩;rw[cell_of_row _ _ k _ _ _ h];simp[ziI,hk]
theorem things_any (W:World) (hE:Hid (Env W)) (hP:Hid (zci W)):Calls Tryz.prog 31 #[] W fun e w'=>e= .returned (.bool true)∧Below W.heap.size W w':=by
 have HPA:=zaa (fun src V h1 h2=>parses_any src V h1 h2);obtain⟨L,hL⟩: ∃L:List (List UInt8),L=[[115,101,109,97,115,32,49,59],[98,117,102,115,32,50,44,32,51,59],[101,118,101,110,116,115,32,49,59],[98,111,97,114,100,115,32,48,59],[105,110,32,105,32,113,117,101,117,105,110,103,32,115,105,122,101,32,49,32,100,101,112,116,104,32,49,59],[111,117,116,32,111,32,115,97,109,112,108,105,110,103,32,115,105,122,101,32,49,32,114,101,102,114,101,115,104,32,48,59],[112,114,111,99,32,112,32,112,114,105,111,32,49,32,112,101,114,105,111,100,32,48,32,108,105,109,105,116,32,48,32,123,32,125]]:=⟨_,rfl⟩;have hx: ∀x∈L,x.length≤500:=by rw[hL];decide
 have hn:L.length=7:=by rw[hL];rfl
 have HT:Hid ((#[.string ⟨#[115,101,109,97,115,32,49,59]⟩,.string ⟨#[98,117,102,115,32,50,44,32,51,59]⟩,.string ⟨#[101,118,101,110,116,115,32,49,59]⟩,.string ⟨#[98,111,97,114,100,115,32,48,59]⟩,.string ⟨#[105,110,32,105,32,113,117,101,117,105,110,103,32,115,105,122,101,32,49,32,100,101,112,116,104,32,49,59]⟩,.string ⟨#[111,117,116,32,111,32,115,97,109,112,108,105,110,103,32,115,105,122,101,32,49,32,114,101,102,114,101,115,104,32,48,59]⟩,.string ⟨#[112,114,111,99,32,112,32,112,114,105,111,32,49,32,112,101,114,105,111,100,32,48,32,108,105,109,105,116,32,48,32,123,32,125]⟩]:Array Value)=(ziI L).toArray):=zaa (by rw[hL];rfl);have HR:=zaa (heap_alloc_new W (.cells #[.string ⟨#[115,101,109,97,115,32,49,59]⟩,.string ⟨#[98,117,102,115,32,50,44,32,51,59]⟩,.string ⟨#[101,118,101,110,116,115,32,49,59]⟩,.string ⟨#[98,111,97,114,100,115,32,48,59]⟩,.string ⟨#[105,110,32,105,32,113,117,101,117,105,110,103,32,115,105,122,101,32,49,32,100,101,112,116,104,32,49,59]⟩,.string ⟨#[111,117,116,32,111,32,115,97,109,112,108,105,110,103,32,115,105,122,101,32,49,32,114,101,102,114,101,115,104,32,48,59]⟩,.string ⟨#[112,114,111,99,32,112,32,112,114,105,111,32,49,32,112,101,114,105,111,100,32,48,32,108,105,109,105,116,32,48,32,123,32,125]⟩] 9));have HB:=zaa ((Below.refl W.heap.size W).alloc (Nat.le_refl _) (.cells #[.string ⟨#[115,101,109,97,115,32,49,59]⟩,.string ⟨#[98,117,102,115,32,50,44,32,51,59]⟩,.string ⟨#[101,118,101,110,116,115,32,49,59]⟩,.string ⟨#[98,111,97,114,100,115,32,48,59]⟩,.string ⟨#[105,110,32,105,32,113,117,101,117,105,110,103,32,115,105,122,101,32,49,32,100,101,112,116,104,32,49,59]⟩,.string ⟨#[111,117,116,32,111,32,115,97,109,112,108,105,110,103,32,115,105,122,101,32,49,32,114,101,102,114,101,115,104,32,48,59]⟩,.string ⟨#[112,114,111,99,32,112,32,112,114,105,111,32,49,32,112,101,114,105,111,100,32,48,32,108,105,109,105,116,32,48,32,123,32,125]⟩] 9));have HX:=zaa hx;clear hL hx
 go_enter Tryz.func31,Tryz.ntmps31
 go_wp2_with fail;generalize W.alloc _=V at *
 go_loopw [2] (fun v2 wr=> ∃i:Nat,v2= .int .i64 i∧i≤7∧Below W.heap.size W wr∧wr.heap[W.heap.size]? =some (.cells (ziI L).toArray 9 (0,0))) (fun v2 _=>7-(intOf v2).toNat)
 case atStart=>exact⟨0,rfl,by omega,HB.out,by rw[←HT.out];exact HR.out⟩
 case round=>
  clear HB HR HT;obtain⟨i,rfl,hi,hb,hr⟩:=hrel;obtain⟨w1,rfl⟩: ∃w1,w1=wr:=⟨_,rfl⟩;have HB:=zaa hb;have HR:=zaa hr;clear hb hr;by_cases hi7:i<7
  case neg=>
   obtain rfl:i=7:=by omega
   go_wp2_with fail;go_ret;exact⟨rfl,HB.out⟩
  case pos=>
   have e7:decide ((i:Int)<7)=true:=by simp;omega
   go_wp2_with fail
   go_loopw [3] (fun v3 wr=> ∃k:Nat,v3= .int .i64 k∧k≤7∧Below W.heap.size W wr∧wr.heap[W.heap.size]? =some (.cells (ziI L).toArray 9 (0,0))) (fun v3 _=>7-(intOf v3).toNat)
   case atStart=>exact⟨0,rfl,by omega,HB.out,HR.out⟩
   case round=>
    clear HB HR;obtain⟨k,rfl,hk,hb,hr⟩:=hrel;obtain⟨w2,rfl⟩: ∃w2,w2=wr:=⟨_,rfl⟩;have HB:=zaa hb;have HR:=zaa hr;clear hb hr;by_cases hk7:k<7
    case neg=>
     obtain rfl:k=7:=by omega
     go_wp2_with fail;go_roundw
     case rel=>exact⟨i+1,by go_num,by omega,HB.out,HR.out⟩
     case measure=>simp[intOf];omega
    case pos=>
     obtain⟨hlw,x,hxm,c1⟩:=blk_txt HR.out (Below.refl _ _) (k:=i) (by omega);obtain⟨-,y,hym,c2⟩:=blk_txt HR.out (Below.refl _ _) (k:=k) (by omega);have hxz:(⟨x.toArray⟩:ByteArray).size≤500:=by show x.toArray.size≤500;simpa using HX.out x hxm
     have hyz:(⟨y.toArray⟩:ByteArray).size≤500:=by show y.toArray.size≤500;simpa using HX.out y hym
     clear hxm hym;generalize(⟨x.toArray⟩:ByteArray)=X at *;generalize(⟨y.toArray⟩:ByteArray)=Y at *;have i0:(0:Int)≤(i:Int):=by omega
     have i1:(i:Int)<7:=by omega
     have k0:(0:Int)≤(k:Int):=by omega
     have k1:(k:Int)<7:=by omega
     have e8:decide ((k:Int)<7)=true:=by simp;omega
     go_wp2_with fail;go_quiet (fail)
     rename_i nq
     have HB2:=zaa (HB.out.trans (((zam.refl (fun _=>False) w2).drewN nq).below HB.out.size (fun _ _=>not_false)));have HR2:=zaa (show(w2.drewN nq).heap[W.heap.size]? =_ from HR.out);have hlw2:W.heap.size<(w2.drewN nq).heap.size:=hlw;clear HB HR hlw c1 c2;generalize w2.drewN nq=w3 at *;generalize hS:(⟨#[109,111,100,117,108,101,32,109,32,109,101,109,32,49,32,102,114,97,109,101,32,49,32,123,32,112,97,114,116,32,112,32,112,101,114,105,111,100,32,49,32,108,101,110,103,116,104,32,49,32,109,101,109,32,49,32,123,32]⟩++X++Y++⟨#[32,125,32,112,97,114,116,32,113,32,112,101,114,105,111,100,32,49,32,108,101,110,103,116,104,32,49,32,109,101,109,32,49,32,123]⟩++Y++⟨#[125,32,125]⟩:ByteArray)=S;have hSz: ¬9223372036854775807<S.size+S.size:=by
      have z1:(⟨#[109,111,100,117,108,101,32,109,32,109,101,109,32,49,32,102,114,97,109,101,32,49,32,123,32,112,97,114,116,32,112,32,112,101,114,105,111,100,32,49,32,108,101,110,103,116,104,32,49,32,109,101,109,32,49,32,123,32]⟩:ByteArray).size=58:=rfl;have z2:(⟨#[32,125,32,112,97,114,116,32,113,32,112,101,114,105,111,100,32,49,32,108,101,110,103,116,104,32,49,32,109,101,109,32,49,32,123]⟩:ByteArray).size=35:=rfl;have z3:(⟨#[125,32,125]⟩:ByteArray).size=3:=rfl;rw[←hS,ByteArray.size_append,ByteArray.size_append,ByteArray.size_append,ByteArray.size_append,ByteArray.size_append,z1,z2,z3]
      omega
     clear hS;go_wp2_with fail;refine(HPA.out _ w3 (zaa (hE.out.kept HB2.out)) (zaa (hP.out.below HB2.out))).mono ?_;rintro e w4 ⟨rfl,hb⟩;replace HR2:=zaa ((hb.block _ hlw2).trans HR2.out);replace HB2:=zaa (btZ HB2.out hb);have hlw4:=Nat.lt_of_lt_of_le hlw2 hb.size;clear hb hlw2;go_wp2_with fail;refine(HPA.out _ w4 (zaa (hE.out.kept HB2.out)) (zaa (hP.out.below HB2.out))).mono ?_;rintro e w5 ⟨rfl,hb⟩;replace HR2:=zaa ((hb.block _ hlw4).trans HR2.out);replace HB2:=zaa (btZ HB2.out hb);clear hb hlw4;go_wp2_with fail;go_roundw
     case rel=>exact⟨k+1,by go_num,by omega,HB2.out,HR2.out⟩
     case measure=>simp[intOf];omega
end Go.Proofs.YtlngbjphagnloaaGreatDoor
