/-
  parse: ParseSmall: the law's split and joined; parses.-/
import Derived.Test.YtlngbjphagnloaaGreatDoorRPs
import Derived.Test.YtlngbjphagnloaaGreatDoorPk30
import Derived.Test.YtlngbjphagnloaaGreatDoorFit
import Derived.Test.YtlngbjphagnloaaGreatDoorPk31
set_option maxHeartbeats 4000000
set_option maxRecDepth 100000
namespace Go.Proofs.YtlngbjphagnloaaGreatDoor
open Go.RowKit
attribute [local go_sem] zax.cell
theorem psplit_any (s:ByteArray) (hs:s.size≤1000000) (w:World):Calls Tryz.prog 28 #[.string s] w (SplR w (zbZ s.data.toList)):=by
 obtain⟨i0,hi0,hz0,hz1,hz2⟩:=info_parts znH;have hl:s.data.toList.length=s.size:=by simp
 go_enter Tryz.func28,Tryz.ntmps28
 go_wp2_with fail
 go_loopw [3,4,5] (fun v3 v4 v5 wr=> ∃(i:Nat) (d:List (List UInt8)) (c:List UInt8) (A:Option Addr) (q:Nat),v5= .int .i64 i∧v4= .int .i64 ((i:Int)-(c.length:Int))∧v3= .slice A d.length q∧wr.ownsRow w.heap.size 9 1 (.slice A d.length q) d.length (ziI d)∧Below w.heap.size w wr∧
  (i≤s.size∧(s.data.toList.take i).foldl zeN ([],[])=(d,c)∨i=s.size+1∧d=zbZ s.data.toList)) (fun _ _ v5 _=>s.size+2-(intOf v5).toNat)
 case atStart=>exact⟨0,[],[],none,0,rfl,rfl,rfl,World.ownsRow_nil _ _ _ _,Below.refl _ _,.inl ⟨by omega,rfl⟩⟩
 case round=>
  obtain⟨i,d,c,A,q,rfl,rfl,rfl,ho,hbr,hst⟩:=hrel;have HO:=zaa ho;have HBR:=zaa hbr;clear ho hbr;rcases hst with⟨hi,hf⟩|⟨rfl,rfl⟩
  ·have hlast:=zmb s.data.toList i (by omega)
   rw[hf] at hlast;dsimp only at hlast;have hfew:=zh5 (s.data.toList.take i) ([],[]);rw[hf,List.length_take] at hfew;simp only[List.length_nil,Nat.zero_add] at hfew;by_cases hin:i<s.size
   ·have hb:s.data.toList[i]? =some (s[i]'hin):=by
     rw[List.getElem?_eq_getElem (by omega)];simp
     rfl
    have hnx:=zmn hb;rw[hf] at hnx;have e1:((i:Int)==(s.size:Int))=false:=by simp;omega
    have i1:(i:Int)≤(s.size:Int):=by omega
    have c1:(c.length:Int)≤(i:Int):=by omega
    by_cases h32:(s[i]'hin)=32
    ·have e2:(((s[i]'hin).toNat:Int)==32)=true:=by rw[h32];rfl
     have HNX:=zaa (hnx.trans (show zeN (d,c) (s[i]'hin)=(d++[c],[]) by rw[h32];rfl));have HLC:=zaa hlast;clear hf hnx hb h32 hlast;go_wp2_with(at_builtin;apply Hid.out)
     refine zaa ?_;obtain⟨X,hX⟩: ∃X:ByteArray,s.extract (i-c.length) i=X:=⟨_,rfl⟩;have HXc:=zaa (show X=⟨c.toArray⟩ by
      rw[←hX];apply ByteArray.ext;apply Array.toList_inj.1;rw[Lib.extract_data,←List.drop_take];exact HLC.out.2)
     rw[hX];refine zdl _ rfl _ _ 70 rfl w.heap.size 9 i0 _ 1 16 Tryz.underlying70 hi0 hz0 hz1 hz2 rfl (by decide) (.slice A d.length q) _ (ziI d) rfl (zai HO.out (fun g hg _=>Below.heap_alloc _ _ _ (zaj HO.out hg).2)) (wr.heap.size+1) (some ⟨wr.heap.size,0,none⟩) 1 1 [.string X] rfl ⟨rfl,fun _=>⟨_,rfl,Nat.lt_succ_self _,fun j u hu=>World.news_of_block (heap_alloc_new wr _) j u hu⟩⟩ (by simp[Value.oneCell']) (by unfold maxLen;omega) (by omega) (by have:=HBR.out.size;simp;omega) ?_;intro v5 wz hown hg hat;obtain⟨A',q',rfl⟩:=zah hown;have HB2:=zaa ((HBR.out.alloc HBR.out.size (.cells #[.string X] 9)).grown hg (by have:=HBR.out.size;simp;omega) (fun g e=>(zaj HO.out e).1));have HO2:=zaa (show wz.ownsRow w.heap.size 9 1 (.slice A' (d++[c]).length q') (d++[c]).length (ziI (d++[c])) by
      have e:ziI (d++[c])=ziI d++[.string X]:=by rw[HXc.out];simp[ziI]
      rw[e,List.length_append];exact hown)
     have hlen:(d++[c]).length=d.length+1:=by simp
     clear hown hg hat;go_wp2_with fail;go_roundw
     case rel=>exact⟨i+1,d++[c],[],A',q',by go_num,by simp,by rw[hlen],HO2.out,HB2.out,.inl ⟨by omega,HNX.out⟩⟩
     case measure=>simp[intOf];omega
    ·have e2:(((s[i]'hin).toNat:Int)==32)=false:=by
      simp;intro h;have h':(s[i]'hin).toNat=32:=by omega
      exact h32 (UInt8.toNat_inj.1 (h'.trans rfl))
     have HNX:=zaa (hnx.trans (show zeN (d,c) (s[i]'hin)=(d,c++[s[i]'hin]) from if_neg h32));clear hf hnx hb h32 hlast;go_wp2_with fail;go_roundw
     case rel=>exact⟨i+1,d,_,A,q,by go_num,by simp;omega,rfl,HO.out,HBR.out,.inl ⟨by omega,HNX.out⟩⟩
     case measure=>simp[intOf];omega
   ·obtain rfl:i=s.size:=by omega
    have HSP:=zaa (show d++[c]=zbZ s.data.toList by
     unfold zbZ;rw[List.take_of_length_le (by omega)] at hf;rw[hf])
    have c1:(c.length:Int)≤(s.size:Int):=by omega
    have HLC:=zaa hlast;clear hf hlast;go_wp2_with(at_builtin;apply Hid.out)
    refine zaa ?_;obtain⟨X,hX⟩: ∃X:ByteArray,s.extract (s.size-c.length) s.size=X:=⟨_,rfl⟩;have HXc:=zaa (show X=⟨c.toArray⟩ by
     rw[←hX];apply ByteArray.ext;apply Array.toList_inj.1;rw[Lib.extract_data,←List.drop_take];exact HLC.out.2)
    rw[hX];refine zdl _ rfl _ _ 70 rfl w.heap.size 9 i0 _ 1 16 Tryz.underlying70 hi0 hz0 hz1 hz2 rfl (by decide) (.slice A d.length q) _ (ziI d) rfl (zai HO.out (fun g hg _=>Below.heap_alloc _ _ _ (zaj HO.out hg).2)) (wr.heap.size+1) (some ⟨wr.heap.size,0,none⟩) 1 1 [.string X] rfl ⟨rfl,fun _=>⟨_,rfl,Nat.lt_succ_self _,fun j u hu=>World.news_of_block (heap_alloc_new wr _) j u hu⟩⟩ (by simp[Value.oneCell']) (by unfold maxLen;omega) (by omega) (by have:=HBR.out.size;simp;omega) ?_;intro v5 wz hown hg hat;obtain⟨A',q',rfl⟩:=zah hown;have HB2:=zaa ((HBR.out.alloc HBR.out.size (.cells #[.string X] 9)).grown hg (by have:=HBR.out.size;simp;omega) (fun g e=>(zaj HO.out e).1));have HO2:=zaa (show wz.ownsRow w.heap.size 9 1 (.slice A' (d++[c]).length q') (d++[c]).length (ziI (d++[c])) by
     have e:ziI (d++[c])=ziI d++[.string X]:=by rw[HXc.out];simp[ziI]
     rw[e,List.length_append];exact hown)
    have hlen:(d++[c]).length=d.length+1:=by simp
    clear hown hg hat;rw[HSP.out] at HO2 hlen;go_wp2_with fail;go_roundw
    case rel=>exact⟨s.size+1,zbZ s.data.toList,[],A',q',by go_num,by simp,by rw[hlen],HO2.out,HB2.out,.inr ⟨rfl,rfl⟩⟩
    case measure=>simp[intOf]
  ·have e1: ¬(((s.size+1:Nat):Int)≤(s.size:Int)):=by omega
   go_wp2_with fail;go_ret;exact⟨A,q,rfl,HO.out,HBR.out⟩
theorem joined_any (l:List (List UInt8)) (hl:l.length≤500) (hx:Hid (∀x∈l,x.length≤500)) (A:Option Addr) (q base:Nat) (w:World) (HO:Hid (w.ownsRow base 9 1 (.slice A l.length q) l.length (ziI l))) (k what:Int) (O:ByteArray) (hO:O.size≤500):
 Calls Tryz.prog 30 #[.slice A l.length q,.int .i64 k,.int .i64 what,.string O] w fun e w'=>(∃S:ByteArray,e= .returned (.string S))∧w=w':=by
 go_enter Tryz.func30,Tryz.ntmps30
 go_wp2_with fail
 go_loopw [9,10] (fun v9 v10 wr=> ∃(i:Nat) (S:ByteArray),v10= .int .i64 i∧v9= .string S∧i≤l.length∧S.size≤i*1010∧w=wr) (fun _ v10 _=>l.length-(intOf v10).toNat)
 case atStart=>exact⟨0,⟨#[]⟩,rfl,rfl,Nat.zero_le _,by decide,rfl⟩
 case round=>
  obtain⟨i,S,rfl,rfl,hi,hS,rfl⟩:=hrel;by_cases hlt:i<l.length
  case neg=>
   obtain rfl:i=l.length:=by omega
   go_wp2_with fail;go_ret;exact⟨⟨S,rfl⟩,rfl⟩
  case pos=>
   obtain⟨x,hxx⟩:=zhG hlt;obtain⟨b,rfl,hb1,hc⟩:=zna HO.out (Below.refl _ _) hxx;have hxl:=hx.out x (List.mem_of_getElem? hxx);have hxs:(⟨x.toArray⟩:ByteArray).size≤500:=by show x.toArray.size≤500;simpa using hxl
   clear hxx;generalize(⟨x.toArray⟩:ByteArray)=X at *;have k0:(0:Int)≤(i:Int):=by omega
   have k1:(i:Int)<(l.length:Int):=by omega
   have p1:=smZ (S.size+O.size);have p2:=smZ (S.size+O.size+1);have p3:=smZ (S.size+X.size);have p4:=smZ (S.size+X.size+1);have p5:=smZ (S.size+O.size+1+X.size);have p6:=smZ (S.size+O.size+1+X.size+1);by_cases hik:(i:Int)=k
   ·have e1:((i:Int)==k)=true:=by simpa using hik
    have e1':((i:Int) != k)=false:=by simpa using hik
    clear hik;by_cases h0:what=0
    ·have e2:(what != 0)=false:=by simpa using h0
     have e3:(what==2)=false:=by rw[h0];rfl
     clear h0;go_wp2_with fail;go_roundw
     case rel=>exact⟨i+1,S,by go_num,rfl,by omega,by omega,trivial⟩
     case measure=>simp[intOf];omega
    ·have e2:(what != 0)=true:=by simpa using h0
     by_cases h2:what=2
     ·have e3:(what==2)=true:=by simpa using h2
      clear h0 h2;go_wp2_with fail;go_roundw
      case rel=>exact⟨i+1,_,by go_num,rfl,by omega,by have m1:(⟨#[32]⟩:ByteArray).size=1:=rfl;simp;omega,trivial⟩
      case measure=>simp[intOf];omega
     ·have e3:(what==2)=false:=by simpa using h2
      clear h0 h2;go_wp2_with fail;go_roundw
      case rel=>exact⟨i+1,_,by go_num,rfl,by omega,by have m1:(⟨#[32]⟩:ByteArray).size=1:=rfl;simp;omega,trivial⟩
      case measure=>simp[intOf];omega
   ·have e1:((i:Int)==k)=false:=by simpa using hik
    have e1':((i:Int) != k)=true:=by simpa using hik
    clear hik;go_wp2_with fail;go_roundw
    case rel=>exact⟨i+1,_,by go_num,rfl,by omega,by have m1:(⟨#[32]⟩:ByteArray).size=1:=rfl;simp;omega,trivial⟩
    case measure=>simp[intOf];omega
theorem parsed_sm (src:ByteArray):(zdb (zbr src.data.toList) src.size).1.sm:=by
 have hfew:=(zfC src.data.toList).2;unfold zdb
 split
 ·cases h:zgN (zbr src.data.toList).1 with
  |ok c r=>exact(cfg_fit (N:=65536) hfew h).sm (by decide)
  |bad n r=>exact(zaK.none_fit (N:=0)).sm (by decide)
 ·exact(zaK.none_fit (N:=0)).sm (by decide)
theorem parses_any (src:ByteArray) (W:World) (hE:Hid (Env W)) (hP:Hid (zci W)):Calls Tryz.prog 29 #[.string src] W fun e w'=>e= .returned (.bool true)∧Below W.heap.size W w':=by
 have HC:=zaa (zdS src (zdb (zbr src.data.toList) src.size).1 (zdb (zbr src.data.toList) src.size).2.1 (zdb (zbr src.data.toList) src.size).2.2 rfl W hE hP);have HD:=zaa (fun V=>rparse_any src V);have HSM:=zaa (parsed_sm src);generalize zdb (zbr src.data.toList) src.size=R at *;obtain⟨c,p,er⟩:=R;dsimp only at HC HD HSM
 go_enter Tryz.func29,Tryz.ntmps29
 go_wp2_with fail;refine HC.out.mono ?_;clear HC;rintro e w1 ⟨A,q,rfl,hb,hd⟩;have hba:=(Below.refl w1.heap.size w1).alloc (Nat.le_refl _) (Obj.cells (zeV A q c).toArray 32);have HX:=zaa (heap_alloc_new w1 (.cells (zeV A q c).toArray 32));have HB:=zaa (btZ hb hba);have HDa:=zaa ((hd.mono (H:=fun _=>True) (fun _ _ _=>trivial)).below hba);have hxs:w1.heap.size<(w1.alloc (.cells (zeV A q c).toArray 32)).heap.size:=by simp
 clear hb hd hba;dsimp only[zeV] at HDa HX HB hxs ⊢;generalize A 0=A0,A 1=A1,A 2=A2,A 3=A3,A 4=A4,A 5=A5,A 6=A6,A 7=A7,q 0=q0,q 1=q1,q 2=q2,q 3=q3,q 4=q4,q 5=q5,q 6=q6,q 7=q7 at *;go_wp2_with fail;generalize w1.alloc _=V1 at *;generalize w1.heap.size=xb at *;refine(HD.out V1).mono ?_;clear HD;rintro e w2 ⟨A',q',rfl,hb,hd⟩;have hba:=(Below.refl w2.heap.size w2).alloc (Nat.le_refl _) (Obj.cells (zeV A' q' c).toArray 32);have HY:=zaa (heap_alloc_new w2 (.cells (zeV A' q' c).toArray 32));have HX2:=zaa (((btZ hb hba).block xb hxs).trans HX.out);have HB2:=zaa (HB.out.trans ((btZ hb hba).mono HB.out.size));have HDb:=zaa ((hd.mono (H:=fun _=>True) (fun _ _ _=>trivial)).below hba);have HDc:=zaa (HDa.out.below (btZ hb hba));clear hb hd hba HX HB HDa hxs;dsimp only[zeV] at HDb HDc HX2 HY HB2 ⊢;generalize A' 0=B0,A' 1=B1,A' 2=B2,A' 3=B3,A' 4=B4,A' 5=B5,A' 6=B6,A' 7=B7,q' 0=p0,q' 1=p1,q' 2=p2,q' 3=p3,q' 4=p4,q' 5=p5,q' 6=p6,q' 7=p7 at *;go_upto_region 3 with fail
 generalize w2.alloc _=V2 at *;generalize w2.heap.size=yb at *;have r1:V2.rangeAt xb 0 [.slice A0 c.modules.length q0,.slice A1 c.channels.length q1,.slice A2 c.switches.length q2,.slice A3 c.links.length q3,.slice A4 c.vls.length q4,.slice A5 c.health.length q5,.slice A6 c.causes.length q6,.slice A7 c.versions.length q7]:=fun j v hv=>by rw[Nat.zero_add,cell_of_row _ _ j _ _ _ HX2.out];simpa using hv
 have r2:V2.rangeAt yb 0 [.slice B0 c.modules.length p0,.slice B1 c.channels.length p1,.slice B2 c.switches.length p2,.slice B3 c.links.length p3,.slice B4 c.vls.length p4,.slice B5 c.health.length p5,.slice B6 c.causes.length p6,.slice B7 c.versions.length p7]:=fun j v hv=>by rw[Nat.zero_add,cell_of_row _ _ j _ _ _ HY.out];simpa using hv
 have HSC:=zaa (ziP c c (.slice A0 c.modules.length q0) (.slice A1 c.channels.length q1) (.slice A2 c.switches.length q2) (.slice A3 c.links.length q3) (.slice A4 c.vls.length q4) (.slice A5 c.health.length q5) (.slice A6 c.causes.length q6) (.slice A7 c.versions.length q7) (.slice B0 c.modules.length p0) (.slice B1 c.channels.length p1) (.slice B2 c.switches.length p2) (.slice B3 c.links.length p3) (.slice B4 c.vls.length p4) (.slice B5 c.health.length p5) (.slice B6 c.causes.length p6) (.slice B7 c.versions.length p7) V2 HDc.out HDb.out HSM.out HSM.out);rw[zbW] at HSC;refine wp_region_lit ?_;refine wpList_load_mid rfl 32 (.tmp 3) rfl xb 0 rfl _ _ r1 Tryz.underlying32 rfl (by kernel_rfl) ?_;refine wpList_load_mid rfl 32 (.tmp 6) rfl yb 0 rfl _ _ r2 Tryz.underlying32 rfl (by kernel_rfl) ?_;clear r1 r2 HDb HDc HX2 HY;go_wp2_with fail;refine HSC.out.mono ?_;rintro e w3 ⟨rfl,hb⟩;have HB3:=zaa (btZ HB2.out hb);clear hb HSC HB2;go_wp2_with fail;go_ret;exact⟨rfl,HB3.out⟩
end Go.Proofs.YtlngbjphagnloaaGreatDoor
