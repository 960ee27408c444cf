/-
  parse: ParseSmall returns true.-/
import Derived.Test.YtlngbjphagnloaaGreatDoorSmN
set_option maxHeartbeats 20000000
set_option maxRecDepth 100000
namespace Go.Proofs.YtlngbjphagnloaaGreatDoor
open Go.RowKit
attribute [local go_sem] zax.cell
def smallL:List (List UInt8):=[[109,111,100,117,108,101,32,109,32,109,101,109,32,54,52,32,102,114,97,109,101,32,49,48,48,32,123,32,112,97,114,116,32,112,32,112,101,114,105,111,100,32,53,48,32,108,101,110,103,116,104,32,49,48,32,109,101,109,32,56,32,123,32,115,101,109,97,115,32,49,32,44,32,48,32,59,32,101,118,101,110,116,115,32,50,32,59,32,105,110,32,105,32,113,117,101,117,105,110,103,32,115,105,122,101,32,52,32,100,101,112,116,104,32,50,32,59,32,125,32,112,97,114,116,32,113,32,112,101,114,105,111,100,32,49,32,108,101,110,103,116,104,32,49,32,109,101,109,32,48,32,123,32,125,32,125],[109,111,100,117,108,101,32,109,32,109,101,109,32,49,32,102,114,97,109,101,32,50,32,123,32,112,97,114,116,32,112,32,112,101,114,105,111,100,32,53,32,108,101,110,103,116,104,32,49,32,109,101,109,32,56,32,123,32,112,114,111,99,32,97,32,112,114,105,111,32,51,32,112,101,114,105,111,100,32,48,32,108,105,109,105,116,32,52,48,32,123,32,115,101,116,32,48,32,53,32,59,32,110,101,120,116,32,59,32,125,32,111,117,116,32,111,32,115,97,109,112,108,105,110,103,32,115,105,122,101,32,49,32,114,101,102,114,101,115,104,32,57,32,59,32,98,111,97,114,100,115,32,49,32,59,32,98,117,102,115,32,49,32,59,32,125,32,125],[99,104,97,110,110,101,108,32,109,32,46,32,112,32,46,32,111,32,116,111,32,109,32,46,32,113,32,46,32,105,32,44,32,109,32,46,32,114,32,46,32,105,32,59],[115,119,105,116,99,104,32,115,32,110,101,116,32,97,32,100,101,108,97,121,32,49,54,32,115,116,111,114,101,32,52,48,48,32,59,32,108,105,110,107,32,109,32,115,32,110,101,116,32,98,32,115,108,111,119,32,50,32,59],[118,108,32,118,32,102,114,111,109,32,109,32,46,32,112,32,46,32,111,32,98,97,103,32,50,48,48,32,109,97,120,32,52,48,32,116,111,32,110,32,46,32,113,32,46,32,105,32,44,32,107,32,46,32,114,32,46,32,105,32,59],[111,110,32,100,101,97,100,108,105,110,101,32,109,111,100,117,108,101,32,109,32,112,97,114,116,32,112,32,108,101,118,101,108,32,112,114,111,99,101,115,115,32,100,111,32,115,116,111,112,32,59,32,111,110,32,112,111,119,101,114,32,108,101,118,101,108,32,109,111,100,117,108,101,32,100,111,32,114,101,115,101,116,32,59],[99,97,117,115,101,32,117,32,110,101,101,100,115,32,120,32,58,32,49,32,44,32,121,32,58,32,50,32,117,110,108,101,115,115,32,122,32,44,32,119,32,59,32,99,97,117,115,101,32,118,32,110,101,101,100,115,32,120,32,58,32,51,32,59],[119,111,114,107,115,32,109,32,49,32,119,105,116,104,32,110,32,50,32,59]]
def smallA:List (List UInt8):=[[97],[49],[123],[125],[59],[44],[46],[58],[109,111,100,117,108,101],[112,97,114,116],[105,110],[111,117,116],[115,101,109,97,115],[112,114,111,99],[116,111],[110,101,101,100,115],[117,110,108,101,115,115],[108,101,118,101,108],[112,114,111,99,101,115,115],[110,101,116],[115,116,111,112],[110,101,120,116]]
theorem smallL_ok:smallL.length=8∧ ∀x∈smallL,x.length≤1000∧(zbZ x).length≤500∧ ∀y∈zbZ x,y.length≤500:=by decide +kernel
theorem smallA_ok:smallA.length=22∧ ∀y∈smallA,y.length≤500:=by decide +kernel
theorem words_few (n:Nat) (hn:n≤255):(zaB zaE n).length≤500:=by
 have h:((List.range 256).all fun n=>decide ((zaB zaE n).length≤500))=true:=by decide +kernel
 have:=List.all_eq_true.1 h n (by simp;omega)
 simpa using this
structure SmS (W w:World):Prop where
 b:Below W.heap.size W w
 l:w.heap[W.heap.size]? =some (.cells (ziI smallL).toArray 9 (0,0))
 a:w.heap[W.heap.size+1]? =some (.cells (ziI smallA).toArray 9 (0,0))
theorem SmS.later {W w w':World} (h:SmS W w) (hb:Below w.heap.size w w'):SmS W w':=
 ⟨h.b.trans (hb.mono h.b.size),(hb.block _ (zal h.l)).trans h.l,(hb.block _ (zal h.a)).trans h.a⟩
theorem parseSmall_true (W:World) (hE:Hid (Env W)) (hP:Hid (zci W)):Calls Tryz.prog 8 #[] W fun e w'=>e= .returned (.bool true)∧Below W.heap.size W w':=by
 have HPA:=zaa (fun src V h1 h2=>parses_any src V h1 h2);have HCO:=zaa (fun src V h1 h2=>zkx src V h1 h2)
 go_enter Tryz.func8,Tryz.ntmps8
 go_wp2_with fail
 go_loopw [3] (fun v3 wr=> ∃i:Nat,v3= .int .i64 i∧i≤8∧SmS W wr) (fun v3 _=>8-(intOf v3).toNat)
 case atStart=>exact⟨0,rfl,by omega,((Below.refl _ _).alloc (Nat.le_refl _) _).alloc (by simp) _,((Below.heap_alloc _ _ _ (by simp)).trans (heap_alloc_new W _)).trans (by kernel_rfl),(heap_alloc2_new W _ _).trans (by kernel_rfl)⟩
 case round=>
  obtain⟨i,rfl,hi,hS⟩:=hrel;obtain⟨w1,rfl⟩: ∃w1,w1=wr:=⟨_,rfl⟩;have HS:=zaa hS;clear hS;by_cases hi8:i<8
  case pos=>
   as_aux_lemma=>
    obtain⟨hlw,x,hxm,c1⟩:=blk_txt HS.out.l (Below.refl _ _) (k:=i) (by rw[smallL_ok.1];exact hi8);obtain⟨hx1,hx2,hx3⟩:=smallL_ok.2 x hxm;have HSP:=zaa (psplit_any ⟨x.toArray⟩ (by show x.toArray.size≤_;simp;omega) w1);rw[show(⟨x.toArray⟩:ByteArray).data.toList=x by simp] at HSP;unfold SplR at HSP;have HX:=zaa hx3;clear hxm hx1 hx3;generalize zbZ x=l at *;generalize(⟨x.toArray⟩:ByteArray)=X at *;have e7:decide ((i:Int)<8)=true:=by simp;omega
    have i0:(0:Int)≤(i:Int):=by omega
    have i1:(i:Int)<8:=by omega
    go_wp2_with fail;refine HSP.out.mono ?_;rintro e w2 ⟨A,q,rfl,ho,hb⟩;have HO:=zaa ho;replace HS:=zaa (HS.out.later hb);clear ho hb HSP c1 hlw;generalize w1.heap.size=base at *;go_wp2_with fail
    go_loopw [5] (fun v5 wr=> ∃k:Nat,v5= .int .i64 k∧k≤l.length+1∧SmS W wr∧wr.ownsRow base 9 1 (.slice A l.length q) l.length (ziI l)) (fun v5 _=>l.length+1-(intOf v5).toNat)
    case atStart=>exact⟨0,rfl,by omega,HS.out,HO.out⟩
    case round=>
     clear HS HO;obtain⟨k,rfl,hk,hS,ho⟩:=hrel;obtain⟨w3,rfl⟩: ∃w3,w3=wr:=⟨_,rfl⟩;have HS:=zaa hS;have HO:=zaa ho;clear hS ho;by_cases hkl:k≤l.length
     case neg=>
      have k1: ¬((k:Int)≤(l.length:Int)):=by omega
      go_wp2_with fail;go_roundw
      case rel=>exact⟨i+1,by go_num,by omega,HS.out⟩
      case measure=>simp[intOf];omega
     case pos=>
      have k1:(k:Int)≤(l.length:Int):=by omega
      go_wp2_with fail;refine(joined_any l hx2 HX A q base w3 HO (k:Int) 0 ⟨#[]⟩ (by decide)).mono ?_;rintro e w4 ⟨⟨S,rfl⟩,rfl⟩;go_wp2_with fail;refine(HPA.out S w3 (zaa (hE.out.kept HS.out.b)) (zaa (hP.out.below HS.out.b))).mono ?_;rintro e w9 ⟨rfl,hb⟩;replace HO:=zaa (zai HO.out (fun g hg _=>hb.block g (zaj HO.out hg).2));replace HS:=zaa (HS.out.later hb);clear hb;go_wp2_with fail
      go_loopw [6] (fun v6 wr=> ∃n:Nat,v6= .int .i64 n∧n≤22∧SmS W wr∧wr.ownsRow base 9 1 (.slice A l.length q) l.length (ziI l)) (fun v6 _=>22-(intOf v6).toNat)
      case atStart=>exact⟨0,rfl,by omega,HS.out,HO.out⟩
      case round=>
       clear HS HO;obtain⟨n,rfl,hn,hS,ho⟩:=hrel;obtain⟨w5,rfl⟩: ∃w5,w5=wr:=⟨_,rfl⟩;have HS:=zaa hS;have HO:=zaa ho;clear hS ho;by_cases hn22:n<22
       case neg=>
        obtain rfl:n=22:=by omega
        go_wp2_with fail;go_roundw
        case rel=>exact⟨k+1,by go_num,by omega,HS.out,HO.out⟩
        case measure=>simp[intOf];omega
       case pos=>
        have e8:decide ((n:Int)<22)=true:=by simp;omega
        have n0:(0:Int)≤(n:Int):=by omega
        have n1:(n:Int)<22:=by omega
        obtain⟨hlw,y,hym,c1⟩:=blk_txt HS.out.a (Below.refl _ _) (k:=n) (by rw[smallA_ok.1];exact hn22);have hyz:(⟨y.toArray⟩:ByteArray).size≤500:=by show y.toArray.size≤500;simpa using smallA_ok.2 y hym
        clear hym;generalize(⟨y.toArray⟩:ByteArray)=Y at *;go_wp2_with fail;refine(joined_any l hx2 HX A q base w5 HO (k:Int) 1 Y hyz).mono ?_;rintro e w6 ⟨⟨S1,rfl⟩,rfl⟩;go_wp2_with fail;refine(HPA.out S1 w5 (zaa (hE.out.kept HS.out.b)) (zaa (hP.out.below HS.out.b))).mono ?_;rintro e w9 ⟨rfl,hb⟩;replace HO:=zaa (zai HO.out (fun g hg _=>hb.block g (zaj HO.out hg).2));replace HS:=zaa (HS.out.later hb);clear hb;clear hlw c1 hyz;obtain⟨hlw,y,hym,c1⟩:=blk_txt HS.out.a (Below.refl _ _) (k:=n) (by rw[smallA_ok.1];exact hn22);have hyz:(⟨y.toArray⟩:ByteArray).size≤500:=by show y.toArray.size≤500;simpa using smallA_ok.2 y hym
        clear hym;generalize(⟨y.toArray⟩:ByteArray)=Y2 at *;go_wp2_with fail;refine(joined_any l hx2 HX A q base w9 HO (k:Int) 2 Y2 hyz).mono ?_;rintro e w7 ⟨⟨S2,rfl⟩,rfl⟩;go_wp2_with fail;obtain⟨wb,rfl⟩: ∃wb,wb=w9:=⟨_,rfl⟩;refine(HPA.out S2 wb (zaa (hE.out.kept HS.out.b)) (zaa (hP.out.below HS.out.b))).mono ?_;rintro e w9 ⟨rfl,hb⟩;replace HO:=zaa (zai HO.out (fun g hg _=>hb.block g (zaj HO.out hg).2));replace HS:=zaa (HS.out.later hb);clear hb;go_wp2_with fail;go_roundw
        case rel=>exact⟨n+1,by go_num,by omega,HS.out,HO.out⟩
        case measure=>simp[intOf];omega
  case neg=>
   obtain rfl:i=8:=by omega
   rw[show((8:Nat):Int)=8 from rfl];have HB:=zaa HS.out.b;clear HS;go_wp2_with fail
   go_loopw [7] (fun v7 wr=> ∃o:Nat,v7= .int .i64 o∧o≤256∧Below W.heap.size W wr) (fun v7 _=>256-(intOf v7).toNat)
   case atStart=>exact⟨0,rfl,by omega,HB.out⟩
   case round=>
    clear HB;obtain⟨o,rfl,ho,hb⟩:=hrel;obtain⟨w2,rfl⟩: ∃w2,w2=wr:=⟨_,rfl⟩;have HB:=zaa hb;clear hb;by_cases ho6:o<256
    case neg=>
     obtain rfl:o=256:=by omega
     go_wp2_with fail;refine(things_any _ (zaa (hE.out.kept HB.out)) (zaa (hP.out.below HB.out))).mono ?_;rintro e w3 ⟨rfl,hb⟩;replace HB:=zaa (btZ HB.out hb);clear hb;go_wp2_with fail;refine(names_any _ (zaa (hE.out.kept HB.out)) (zaa (hP.out.below HB.out))).mono ?_;rintro e w4 ⟨rfl,hb⟩;replace HB:=zaa (btZ HB.out hb);clear hb;go_wp2_with fail;refine(zlJ _ (zaa (hE.out.kept HB.out)) (zaa (hP.out.below HB.out))).mono ?_;rintro e w5 ⟨rfl,hb⟩;replace HB:=zaa (btZ HB.out hb);clear hb;go_wp2_with fail;go_ret;exact⟨rfl,HB.out⟩
    case pos=>
     have e7:decide ((o:Int)<256)=true:=by simp;omega
     have hu:IntKind.u8.wrap (o:Int)=(o:Int):=by apply IntWalk.u8_in<;>omega
     have HW:=zaa (fun V h=>zlv o V h (by omega));have hwz:(⟨(zaB zaE o).toArray⟩:ByteArray).size≤500:=by show(zaB zaE o).toArray.size≤500;simpa using words_few o (by omega)
     generalize(⟨(zaB zaE o).toArray⟩:ByteArray)=X at *;go_wp2_with fail;refine(HW.out _ (zaa (hP.out.below HB.out))).mono ?_;rintro e w3 ⟨rfl,hb⟩;replace HB:=zaa (btZ HB.out hb);clear hb HW;go_wp2_with fail
     go_loopw [8,9] (fun v8 v9 wr=> ∃(n:Nat) (S:ByteArray),v9= .int .i64 n∧v8= .string S∧n≤5∧S.size≤500+2*n∧Below W.heap.size W wr) (fun _ v9 _=>5-(intOf v9).toNat)
     case atStart=>exact⟨0,X,rfl,rfl,by omega,by omega,HB.out⟩
     case round=>
      clear HB;obtain⟨n,S,rfl,rfl,hn,hS,hb⟩:=hrel;obtain⟨w4,rfl⟩: ∃w4,w4=wr:=⟨_,rfl⟩;have HB:=zaa hb;clear hb;by_cases hgo:n<5∧S.toList.isEmpty=false
      ·obtain⟨hn5,hne⟩:=hgo
       have e8:decide ((n:Int)<5)=true:=by simp;omega
       have n1:(n:Int)<5:=by omega
       have e10:(!S.toList.isEmpty)=true:=by rw[hne];rfl
       have p1:=smZ (S.size+1);have p2:=smZ (6+S.size);have p3:=smZ (6+S.size+6);have p4:=smZ (S.size+2);clear hne;go_wp2_with fail;refine(HCO.out _ _ (zaa (hE.out.kept HB.out)) (zaa (hP.out.below HB.out))).mono ?_;rintro e w5 ⟨rfl,hb⟩;replace HB:=zaa (btZ HB.out hb);clear hb;go_wp2_with fail;refine(HCO.out _ _ (zaa (hE.out.kept HB.out)) (zaa (hP.out.below HB.out))).mono ?_;rintro e w6 ⟨rfl,hb⟩;replace HB:=zaa (btZ HB.out hb);clear hb;go_wp2_with fail;go_roundw
       case rel=>exact⟨n+1,_,by go_num,rfl,by omega,by have m1:(⟨#[32,55]⟩:ByteArray).size=2:=rfl;simp;omega,HB.out⟩
       case measure=>simp[intOf];omega
      ·have HPC:=zaa (fun V h1 h2=>zlX ⟨#[115,116,111,112]⟩ (o:Int) (by omega) (by omega) V h1 h2)
       by_cases hn5:n<5
       ·have hS0:S.toList.isEmpty=true:=by
         cases h:S.toList.isEmpty with
         |true=>rfl
         |false=>exact absurd ⟨hn5,h⟩ hgo
        have e8:decide ((n:Int)<5)=true:=by simp;omega
        have n1:(n:Int)<5:=by omega
        have e10:(!S.toList.isEmpty)=false:=by rw[hS0];rfl
        clear hS0 hgo;go_wp2_with fail;refine(HPC.out _ (zaa (hE.out.kept HB.out)) (zaa (hP.out.below HB.out))).mono ?_;rintro e w5 ⟨rfl,hb⟩;replace HB:=zaa (btZ HB.out hb);clear hb;go_wp2_with fail;go_roundw
        case rel=>exact⟨o+1,by go_num,by omega,HB.out⟩
        case measure=>simp[intOf];omega
       ·have e8:decide ((n:Int)<5)=false:=by simp;omega
        have n1: ¬(n:Int)<5:=by omega
        clear hgo;go_wp2_with fail;refine(HPC.out _ (zaa (hE.out.kept HB.out)) (zaa (hP.out.below HB.out))).mono ?_;rintro e w5 ⟨rfl,hb⟩;replace HB:=zaa (btZ HB.out hb);clear hb;go_wp2_with fail;go_roundw
        case rel=>exact⟨o+1,by go_num,by omega,HB.out⟩
        case measure=>simp[intOf];omega
end Go.Proofs.YtlngbjphagnloaaGreatDoor
