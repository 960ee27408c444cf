/- Merged texts of the walks and of the plain laws on which the statement leans.-/
import Derived.Test.YtlngbjphagnloaaGreatDoorPk9
import Derived.Test.YtlngbjphagnloaaGreatDoorPk4
import Derived.Test.YtlngbjphagnloaaGreatDoorPk2
import Derived.Test.YtlngbjphagnloaaGreatDoorPk1
import Derived.Test.YtlngbjphagnloaaGreatDoorPk13
import Derived.Test.YtlngbjphagnloaaGreatDoorPk10
import Derived.Test.YtlngbjphagnloaaGreatDoorPk14
set_option maxHeartbeats 4000000
set_option maxRecDepth 100000
namespace Go.Proofs.YtlngbjphagnloaaGreatDoor
open Tryz
open Go.RowKit
attribute [local go_sem] zax.cell
def ziI (l:List (List UInt8)):List Value:=l.map fun s=> .string ⟨s.toArray⟩
def SplR (w:World) (l:List (List UInt8)) (e:Ending) (w':World):Prop:= ∃A q,e= .returned (.slice A l.length q)∧w'.ownsRow w.heap.size 9 1 (.slice A l.length q) l.length (ziI l)∧Below w.heap.size w w'
theorem zg1 (s:ByteArray) (hs:s.size≤1000000) (w:World):Calls prog 83 #[.string s] w (SplR w (zbZ s.data.toList)):=by
 obtain⟨i0,hi0,hz0,hz1,hz2⟩:=info_parts znH;have hl:s.data.toList.length=s.size:=by simp
 go_enter func83,ntmps83
 go_wp2_with fail
 go_loopw [3,4,5] (fun v3 v4 v5 wr=> ∃(i:Nat) (d:List (List UInt8)) (c:List UInt8) (A:Option Addr) (q:Nat),v5= .int .i64 i∧v4= .int .i64 ((i:Int)-(c.length:Int))∧v3= .slice A d.length q∧wr.ownsRow w.heap.size 9 1 (.slice A d.length q) d.length (ziI d)∧Below w.heap.size w wr∧
  (i≤s.size∧(s.data.toList.take i).foldl zeN ([],[])=(d,c)∨i=s.size+1∧d=zbZ s.data.toList)) (fun _ _ v5 _=>s.size+2-(intOf v5).toNat)
 case atStart=>exact⟨0,[],[],none,0,rfl,rfl,rfl,World.ownsRow_nil _ _ _ _,Below.refl _ _,.inl ⟨by omega,rfl⟩⟩
 case round=>
  obtain⟨i,d,c,A,q,rfl,rfl,rfl,ho,hbr,hst⟩:=hrel;have HO:=zaa ho;have HBR:=zaa hbr;clear ho hbr;rcases hst with⟨hi,hf⟩|⟨rfl,rfl⟩
  ·have hlast:=zmb s.data.toList i (by omega)
   rw[hf] at hlast;dsimp only at hlast;have hfew:=zh5 (s.data.toList.take i) ([],[]);rw[hf,List.length_take] at hfew;simp only[List.length_nil,Nat.zero_add] at hfew;by_cases hin:i<s.size
   ·have hb:s.data.toList[i]? =some (s[i]'hin):=by
     rw[List.getElem?_eq_getElem (by omega)];simp
     rfl
    have hnx:=zmn hb;rw[hf] at hnx;have e1:((i:Int)==(s.size:Int))=false:=by simp;omega
    have i1:(i:Int)≤(s.size:Int):=by omega
    have c1:(c.length:Int)≤(i:Int):=by omega
    by_cases h32:(s[i]'hin)=32
    ·have e2:(((s[i]'hin).toNat:Int)==32)=true:=by rw[h32];rfl
     have HNX:=zaa (hnx.trans (show zeN (d,c) (s[i]'hin)=(d++[c],[]) by rw[h32];rfl));have HLC:=zaa hlast;clear hf hnx hb h32 hlast;go_wp2_with(at_builtin;apply Hid.out)
     refine zaa ?_;obtain⟨X,hX⟩: ∃X:ByteArray,s.extract (i-c.length) i=X:=⟨_,rfl⟩;have HXc:=zaa (show X=⟨c.toArray⟩ by
      rw[←hX];apply ByteArray.ext;apply Array.toList_inj.1;rw[Lib.extract_data,←List.drop_take];exact HLC.out.2)
     rw[hX];refine zdl _ rfl _ _ 70 rfl w.heap.size 9 i0 _ 1 16 underlying70 hi0 hz0 hz1 hz2 rfl (by decide) (.slice A d.length q) _ (ziI d) rfl (zai HO.out (fun g hg _=>Below.heap_alloc _ _ _ (zaj HO.out hg).2)) (wr.heap.size+1) (some ⟨wr.heap.size,0,none⟩) 1 1 [.string X] rfl ⟨rfl,fun _=>⟨_,rfl,Nat.lt_succ_self _,fun j u hu=>World.news_of_block (heap_alloc_new wr _) j u hu⟩⟩ (by simp[Value.oneCell']) (by unfold maxLen;omega) (by omega) (by have:=HBR.out.size;simp;omega) ?_;intro v5 wz hown hg hat;obtain⟨A',q',rfl⟩:=zah hown;have HB2:=zaa ((HBR.out.alloc HBR.out.size (.cells #[.string X] 9)).grown hg (by have:=HBR.out.size;simp;omega) (fun g e=>(zaj HO.out e).1));have HO2:=zaa (show wz.ownsRow w.heap.size 9 1 (.slice A' (d++[c]).length q') (d++[c]).length (ziI (d++[c])) by
      have e:ziI (d++[c])=ziI d++[.string X]:=by rw[HXc.out];simp[ziI]
      rw[e,List.length_append];exact hown)
     have hlen:(d++[c]).length=d.length+1:=by simp
     clear hown hg hat;go_wp2_with fail;go_roundw
     case rel=>exact⟨i+1,d++[c],[],A',q',by go_num,by simp,by rw[hlen],HO2.out,HB2.out,.inl ⟨by omega,HNX.out⟩⟩
     case measure=>simp[intOf];omega
    ·have e2:(((s[i]'hin).toNat:Int)==32)=false:=by
      simp;intro h;have h':(s[i]'hin).toNat=32:=by omega
      exact h32 (UInt8.toNat_inj.1 (h'.trans rfl))
     have HNX:=zaa (hnx.trans (show zeN (d,c) (s[i]'hin)=(d,c++[s[i]'hin]) from if_neg h32));clear hf hnx hb h32 hlast;go_wp2_with fail;go_roundw
     case rel=>exact⟨i+1,d,_,A,q,by go_num,by simp;omega,rfl,HO.out,HBR.out,.inl ⟨by omega,HNX.out⟩⟩
     case measure=>simp[intOf];omega
   ·obtain rfl:i=s.size:=by omega
    have HSP:=zaa (show d++[c]=zbZ s.data.toList by
     unfold zbZ;rw[List.take_of_length_le (by omega)] at hf;rw[hf])
    have c1:(c.length:Int)≤(s.size:Int):=by omega
    have HLC:=zaa hlast;clear hf hlast;go_wp2_with(at_builtin;apply Hid.out)
    refine zaa ?_;obtain⟨X,hX⟩: ∃X:ByteArray,s.extract (s.size-c.length) s.size=X:=⟨_,rfl⟩;have HXc:=zaa (show X=⟨c.toArray⟩ by
     rw[←hX];apply ByteArray.ext;apply Array.toList_inj.1;rw[Lib.extract_data,←List.drop_take];exact HLC.out.2)
    rw[hX];refine zdl _ rfl _ _ 70 rfl w.heap.size 9 i0 _ 1 16 underlying70 hi0 hz0 hz1 hz2 rfl (by decide) (.slice A d.length q) _ (ziI d) rfl (zai HO.out (fun g hg _=>Below.heap_alloc _ _ _ (zaj HO.out hg).2)) (wr.heap.size+1) (some ⟨wr.heap.size,0,none⟩) 1 1 [.string X] rfl ⟨rfl,fun _=>⟨_,rfl,Nat.lt_succ_self _,fun j u hu=>World.news_of_block (heap_alloc_new wr _) j u hu⟩⟩ (by simp[Value.oneCell']) (by unfold maxLen;omega) (by omega) (by have:=HBR.out.size;simp;omega) ?_;intro v5 wz hown hg hat;obtain⟨A',q',rfl⟩:=zah hown;have HB2:=zaa ((HBR.out.alloc HBR.out.size (.cells #[.string X] 9)).grown hg (by have:=HBR.out.size;simp;omega) (fun g e=>(zaj HO.out e).1));have HO2:=zaa (show wz.ownsRow w.heap.size 9 1 (.slice A' (d++[c]).length q') (d++[c]).length (ziI (d++[c])) by
     have e:ziI (d++[c])=ziI d++[.string X]:=by rw[HXc.out];simp[ziI]
     rw[e,List.length_append];exact hown)
    have hlen:(d++[c]).length=d.length+1:=by simp
    clear hown hg hat;rw[HSP.out] at HO2 hlen;go_wp2_with fail;go_roundw
    case rel=>exact⟨s.size+1,zbZ s.data.toList,[],A',q',by go_num,by simp,by rw[hlen],HO2.out,HB2.out,.inr ⟨rfl,rfl⟩⟩
    case measure=>simp[intOf]
  ·have e1: ¬(((s.size+1:Nat):Int)≤(s.size:Int)):=by omega
   go_wp2_with fail;go_ret;exact⟨A,q,rfl,HO.out,HBR.out⟩
theorem zna {w w':World} {base:Nat} {t:TypeId} {l:List (List UInt8)} {A:Option Addr} {q k:Nat} {x:List UInt8} (h:w.ownsRow base t 1 (.slice A l.length q) l.length (ziI l)) (hb:Below w.heap.size w w') (hx:l[k]? =some x):
 ∃b,A=some ⟨b,0,none⟩∧b<w'.heap.size∧w'.cell? ⟨b,k,none⟩=some (.string ⟨x.toArray⟩):=by
 have hk:=(List.getElem?_eq_some_iff.1 hx).1;obtain⟨g,cap,hv,_,hlt⟩:=h.form (by omega);have hA:A=some ⟨g,0,none⟩:=by injection hv
 subst hA;refine⟨g,rfl,Nat.lt_of_lt_of_le hlt hb.size,(hb.cell (p:=⟨g,k,none⟩) hlt).trans ?_⟩;rw[World.ownsRow.cellAt h k (by omega)];unfold ziI;rw[List.getElem?_map,hx]
 rfl
theorem zgP (s:ByteArray) (hs:s.size≤1000000) (z:Int) (hz: -1≤z∧z≤1000000) (w:World):Calls prog 51 #[.string s,.int .i64 z] w fun e w'=>e= .returned (.string ⟨(if z<0 then[] else(zbZ s.data.toList).getD z.toNat []).toArray⟩)∧Below w.heap.size w w':=by
 have HS:=zaa (zg1 s hs w);have hln:(zbZ s.data.toList).length≤1000001:=by
  have:=zh5 s.data.toList ([],[]);unfold zbZ;simp at this ⊢
  omega
 generalize zbZ s.data.toList=l at *;have hcase:z<0∨0≤z∧(l.length:Int)≤z∨ ∃k:Nat,z=k∧k<l.length:=by
  by_cases h0:z<0
  ·exact .inl h0
  ·by_cases h1:(l.length:Int)≤z
   ·exact .inr (.inl ⟨by omega,h1⟩)
   ·exact .inr (.inr ⟨z.toNat,by omega,by omega⟩)
 rcases hcase with h|⟨h,h'⟩|⟨k,rfl,hk⟩
 ·rw[if_pos h]
  go_enter func51,ntmps51
  go_wp2_with fail;refine HS.out.mono ?_;rintro e w1 ⟨A,q,rfl, -,hb⟩;have HB:=zaa hb;clear hb;go_wp2_with fail;go_ret;exact⟨rfl,HB.out⟩
 ·rw[if_neg (by omega),show l.getD z.toNat []=[] by rw[List.getD_eq_getElem?_getD,List.getElem?_eq_none (by omega)];rfl]
  go_enter func51,ntmps51
  go_wp2_with fail;refine HS.out.mono ?_;rintro e w1 ⟨A,q,rfl, -,hb⟩;have HB:=zaa hb;clear hb;go_wp2_with fail;go_ret;exact⟨rfl,HB.out⟩
 ·have hx:l[k]? =some (l.getD k []):=by rw[List.getD_eq_getElem?_getD,List.getElem?_eq_getElem hk];rfl
  rw[if_neg (by omega),Int.toNat_natCast];generalize l.getD k []=x at *;have k0:(0:Int)≤(k:Int):=by omega
  have k1:(k:Int)<(l.length:Int):=by omega
  go_enter func51,ntmps51
  go_wp2_with fail;refine HS.out.mono ?_;rintro e w1 ⟨A,q,rfl,ho,hb⟩;obtain⟨b,rfl,hb1,hc⟩:=zna ho (Below.refl _ _) hx;have HB:=zaa hb;clear hb ho hx;go_wp2_with fail;go_ret;exact⟨rfl,HB.out⟩
theorem zkd {l:List (List UInt8)} {x:List UInt8} (h: ∀(i:Nat) y,l[i]? =some y→y≠x):zbN l x=0:=by
 unfold zbN;rw[List.findIdx?_eq_none_iff.2 (fun y hy=> ?_)];obtain⟨i,hi⟩:=List.mem_iff_getElem?.1 hy
 simpa using h i y hi
theorem zmh {l:List (List UInt8)} {x:List UInt8} {k:Nat} (hk:l[k]? =some x) (h: ∀(i:Nat) y,i<k→l[i]? =some y→y≠x):zbN l x=k+1:=by
 unfold zbN;obtain⟨hl,he⟩:=List.getElem?_eq_some_iff.1 hk;rw[List.findIdx?_eq_some_iff_getElem.2 ⟨hl,by simpa using he,fun j hj=>by have:=h j _ hj (List.getElem?_eq_getElem (by omega));simpa using this⟩]
theorem zmt (s x:ByteArray) (hs:s.size≤1000000) (hl:(zbZ s.data.toList).length≤250) (w:World):Calls prog 152 #[.string s,.string x] w fun e w'=>e= .returned (.int .u8 ((zbN (zbZ s.data.toList) x.data.toList:Nat):Int))∧Below w.heap.size w w':=by
 have HS:=zaa (zg1 s hs w);generalize zbZ s.data.toList=l at *;have hxx:x=⟨x.data.toList.toArray⟩:=by simp
 obtain⟨y,hy⟩: ∃y,x.data.toList=y:=⟨_,rfl⟩;rw[hy] at hxx ⊢;subst hxx;clear hy
 go_enter func152,ntmps152
 go_wp2_with fail;refine HS.out.mono ?_;rintro e w1 ⟨A,q,rfl,ho,hb⟩;have HO:=zaa ho;have HB:=zaa hb;clear hb ho HS;go_wp2_with fail
 go_loopw [6] (fun v6 wr=> ∃k:Nat,k≤l.length∧v6= .int .i64 k∧(∀(i:Nat) z,i<k→l[i]? =some z→z≠y)∧Below w1.heap.size w1 wr) (fun v6 _=>l.length-(intOf v6).toNat)
 case atStart=>exact⟨0,by omega,rfl,fun i z h=>by omega,Below.refl _ _⟩
 case round=>
  obtain⟨k,hk,rfl,hno,hbr⟩:=hrel;have HBR:=zaa hbr;have HNO:=zaa hno;clear hbr hno;by_cases hlt:k<l.length
  case neg=>
   obtain rfl:k=l.length:=by omega
   have HF:=zaa (zkd (l:=l) (x:=y) (fun i z h=>HNO.out i z (List.getElem?_eq_some_iff.1 h).1 h));go_wp2_with fail;go_ret;exact⟨by rw[HF.out];rfl,HB.out.trans (HBR.out.mono HB.out.size)⟩
  case pos=>
   obtain⟨z,hz⟩:=zhG hlt;obtain⟨b,rfl,hb1,hc⟩:=zna HO.out HBR.out hz;have k0:(0:Int)≤(k:Int):=by omega
   have k1:(k:Int)<(l.length:Int):=by omega
   by_cases hzy:z=y
   ·subst hzy
    have HF:=zaa (zmh hz HNO.out);clear hz;go_wp2_with fail;go_ret;exact⟨by rw[HF.out];rfl,HB.out.trans (HBR.out.mono HB.out.size)⟩
   ·have e1:(z==y)=false:=by simpa using hzy
    have HNO2:=zaa (show∀(i:Nat) z,i<k+1→l[i]? =some z→z≠y from fun i z' hi h=>by
     by_cases hik:i=k
     ·subst hik
      rw[hz] at h;injection h with h
      rw[←h];exact hzy
     ·exact HNO.out i z' (by omega) h)
    clear hz hzy;go_wp2_with fail;go_roundw
    case rel=>exact⟨k+1,by omega,by go_num,HNO2.out,HBR.out⟩
    case measure=>simp[intOf];omega
theorem zdC (ws:List (List UInt8)) (n:Nat):(if(n:Int)-1<0 then[] else ws.getD ((n:Int)-1).toNat [])=zaB ws n:=by
 unfold zaB;by_cases h:n=0
 ·rw[if_pos h,if_pos (by omega)]
 ·rw[if_neg h,if_neg (by omega),show((n:Int)-1).toNat=n-1 by omega]
theorem zkW (n:Nat) (hn:n≤255) (w:World):Calls prog 22 #[.int .u8 (n:Int)] w fun e w'=>e= .returned (.string ⟨(zaB zaE n).toArray⟩)∧Below w.heap.size w w':=by
 have h:=zgP ⟨#[119,111,114,107,32,115,101,116,32,97,100,100,32,115,117,98,32,108,111,97,100,32,115,116,111,114,101,32,115,101,110,100,32,114,101,99,118,32,119,97,105,116,32,115,105,103,110,97,108,32,114,97,105,115,101,32,108,111,119,101,114,32,117,110,116,105,108,32,112,117,116,32,103,101,116,32,115,104,111,119,32,108,111,111,107,32,99,108,101,97,114,32,110,101,120,116,32,106,117,109,112,32,122,101,114,111,32,108,101,115,115,32,100,105,118,32,102,97,117,108,116,32,115,116,111,112]⟩ (by decide) ((n:Int)-1) (by omega) w;rw[show(⟨#[119,111,114,107,32,115,101,116,32,97,100,100,32,115,117,98,32,108,111,97,100,32,115,116,111,114,101,32,115,101,110,100,32,114,101,99,118,32,119,97,105,116,32,115,105,103,110,97,108,32,114,97,105,115,101,32,108,111,119,101,114,32,117,110,116,105,108,32,112,117,116,32,103,101,116,32,115,104,111,119,32,108,111,111,107,32,99,108,101,97,114,32,110,101,120,116,32,106,117,109,112,32,122,101,114,111,32,108,101,115,115,32,100,105,118,32,102,97,117,108,116,32,115,116,111,112]⟩:ByteArray).data.toList=_ from rfl,zfL,zdC] at h;have H:=zaa h;clear h;generalize(⟨(zaB zaE n).toArray⟩:ByteArray)=x at *
 go_enter func22,ntmps22
 go_wp2_with fail;refine H.out.mono ?_;rintro e w1 ⟨rfl,hb⟩;have HB:=zaa hb;clear hb;go_wp2_with fail;go_ret;exact⟨rfl,HB.out⟩
theorem zjY (n:Nat) (hn:n≤255) (w:World):Calls prog 24 #[.int .u8 (n:Int)] w fun e w'=>e= .returned (.string ⟨(zaB zbG n).toArray⟩)∧Below w.heap.size w w':=by
 have h:=zgP ⟨#[100,101,97,100,108,105,110,101,32,109,101,109,111,114,121,32,114,97,105,115,101,100,32,110,117,109,101,114,105,99,32,115,116,97,99,107,32,112,111,119,101,114,32,119,105,110,100,111,119]⟩ (by decide) ((n:Int)-1) (by omega) w;rw[show(⟨#[100,101,97,100,108,105,110,101,32,109,101,109,111,114,121,32,114,97,105,115,101,100,32,110,117,109,101,114,105,99,32,115,116,97,99,107,32,112,111,119,101,114,32,119,105,110,100,111,119]⟩:ByteArray).data.toList=_ from rfl,ze9,zdC] at h;have H:=zaa h;clear h;generalize(⟨(zaB zbG n).toArray⟩:ByteArray)=x at *
 go_enter func24,ntmps24
 go_wp2_with fail;refine H.out.mono ?_;rintro e w1 ⟨rfl,hb⟩;have HB:=zaa hb;clear hb;go_wp2_with fail;go_ret;exact⟨rfl,HB.out⟩
theorem zjC (n:Nat) (hn:n≤255) (w:World):Calls prog 25 #[.int .u8 (n:Int)] w fun e w'=>e= .returned (.string ⟨(zaB zbH n).toArray⟩)∧Below w.heap.size w w':=by
 have h:=zgP ⟨#[112,114,111,99,101,115,115,32,112,97,114,116,32,109,111,100,117,108,101]⟩ (by decide) ((n:Int)-1) (by omega) w;rw[show(⟨#[112,114,111,99,101,115,115,32,112,97,114,116,32,109,111,100,117,108,101]⟩:ByteArray).data.toList=_ from rfl,zeY,zdC] at h;have H:=zaa h;clear h;generalize(⟨(zaB zbH n).toArray⟩:ByteArray)=x at *
 go_enter func25,ntmps25
 go_wp2_with fail;refine H.out.mono ?_;rintro e w1 ⟨rfl,hb⟩;have HB:=zaa hb;clear hb;go_wp2_with fail;go_ret;exact⟨rfl,HB.out⟩
theorem zh3 (n:Nat) (hn:n≤255) (w:World):Calls prog 26 #[.int .u8 (n:Int)] w fun e w'=>e= .returned (.string ⟨(zaB zbu n).toArray⟩)∧Below w.heap.size w w':=by
 have h:=zgP ⟨#[105,103,110,111,114,101,32,115,116,111,112,32,114,101,115,116,97,114,116,32,119,97,114,109,32,99,111,108,100,32,105,100,108,101,32,114,101,115,101,116,32,104,97,108,116]⟩ (by decide) ((n:Int)-1) (by omega) w;rw[show(⟨#[105,103,110,111,114,101,32,115,116,111,112,32,114,101,115,116,97,114,116,32,119,97,114,109,32,99,111,108,100,32,105,100,108,101,32,114,101,115,101,116,32,104,97,108,116]⟩:ByteArray).data.toList=_ from rfl,zeo,zdC] at h;have H:=zaa h;clear h;generalize(⟨(zaB zbu n).toArray⟩:ByteArray)=x at *
 go_enter func26,ntmps26
 go_wp2_with fail;refine H.out.mono ?_;rintro e w1 ⟨rfl,hb⟩;have HB:=zaa hb;clear hb;go_wp2_with fail;go_ret;exact⟨rfl,HB.out⟩
theorem zlb (n:Nat) (hn:n≤255):zaB zdo n=[45]∧zaB zaN n=[]∨zaB zdo n≠[45]∧zaB zdo n=zaB zaN n:=by
 have h:((List.range 256).all fun n=>(zaB zdo n==[45]&&zaB zaN n==[])||(zaB zdo n != [45]&&zaB zdo n==zaB zaN n))=true:=by decide +kernel
 have:=List.all_eq_true.1 h n (by simp;omega)
 simpa using this
theorem zjd (n:Nat) (hn:n≤255) (w:World):Calls prog 23 #[.int .u8 (n:Int)] w fun e w'=>e= .returned (.string ⟨(zaB zaN n).toArray⟩)∧Below w.heap.size w w':=by
 have h:=zgP ⟨#[119,32,114,118,32,114,114,32,114,114,32,114,97,114,32,114,97,114,32,111,114,108,32,105,114,114,32,115,32,115,32,101,32,101,32,101,32,98,114,32,98,114,32,100,114,32,100,114,32,100,32,45,32,106,32,114,106,32,114,114,106,32,114,114,32,99,32,45]⟩ (by decide) ((n:Int)-1) (by omega) w;rw[show(⟨#[119,32,114,118,32,114,114,32,114,114,32,114,97,114,32,114,97,114,32,111,114,108,32,105,114,114,32,115,32,115,32,101,32,101,32,101,32,98,114,32,98,114,32,100,114,32,100,114,32,100,32,45,32,106,32,114,106,32,114,114,106,32,114,114,32,99,32,45]⟩:ByteArray).data.toList=_ from rfl,zkp,zdC] at h;have H:=zaa h;clear h;rcases zlb n hn with⟨h1,h2⟩|⟨h1,h2⟩
 ·rw[h2]
  rw[h1] at H;clear h1 h2
  go_enter func23,ntmps23
  go_wp2_with fail;refine H.out.mono ?_;rintro e w1 ⟨rfl,hb⟩;have HB:=zaa hb;clear hb;go_wp2_with fail;go_ret;exact⟨rfl,HB.out⟩
 ·rw[←h2]
  have e1:(zaB zdo n==[45])=false:=by simpa using h1
  clear h2;generalize zaB zdo n=x at *
  go_enter func23,ntmps23
  go_wp2_with fail;refine H.out.mono ?_;rintro e w1 ⟨rfl,hb⟩;have HB:=zaa hb;clear hb;go_wp2_with fail;go_ret;exact⟨rfl,HB.out⟩
def zhK (ts:List Tok):Prop:= ∀t∈ts,t.kind=2→zd6 t.text=true∧0<t.text.length∧t.text.length≤1000000
theorem zgs {rb:Nat} {ts:List Tok} {s:InS} {w:World} (h:RIn rb ts s w) (hk:s.here.kind≠0):s.here∈ts∧s.r≠[]:=by
 obtain⟨j,hj,hd,_⟩:=h.now;unfold InS.here at hk ⊢
 split at hk
 ·rename_i he
  rw[if_pos he]
  cases hr:s.r with
  |nil=>rw[hr] at hk;exact absurd rfl hk
  |cons t r=>
   rw[hr] at hd;refine⟨List.mem_of_mem_drop (i:=j) (by rw[←hd];simp),by simp⟩
 ·exact absurd rfl hk
theorem zcJ (rb:Nat) (ts:List Tok) (s:InS) (W:World) (H:Hid (RIn rb ts s W)) (hts:ts.length≤1000000) (HT:Hid (zhK ts)):
 Calls prog 123 #[.pointer (some ⟨rb,0,none⟩)] W fun e W'=>e= .returned (.int .i64 (zcW s).1)∧RIn rb ts (zcW s).2 W'∧zam (fun k=>k=rb) W W':=by
 have HH:=zaa (zdc rb ts s W H hts);by_cases hk:s.here.kind=2
 ·obtain⟨hm,hr⟩:=zgs H.out (by omega)
  obtain⟨n1,n2,n3⟩:=HT.out _ hm hk;have HN:=zaa (show zcW s=(((zdg s.here.text:Nat):Int),s.step) from if_pos (by simpa using hk));rw[HN.out];have HV:=zaa (fun V=>zfS ⟨s.here.text.toArray⟩ V (by show s.here.text.toArray.size≤_;simp;omega) (by show 0<s.here.text.toArray.size;simpa using n2));have HB:=zaa n1;have HR:=zaa hr;clear hm hr n1 n2 n3;generalize s.here=t at *;obtain⟨tk,tx,ta⟩:=t;dsimp only at hk HV HB ⊢;subst hk;unfold zbI at HH
  go_enter func123,ntmps123
  go_wp2_with fail;refine HH.out.mono ?_;rintro e w1 ⟨rfl,hb⟩;have hb2:=hb.alloc hb.size (.cells #[.int .i64 2,.string ⟨tx.toArray⟩,.int .i64 (ta:Int)] 192);obtain⟨j,hj,c1, -⟩:=(H.out.below hb2).step HR.out;obtain⟨j',hj',c1',hR⟩:=(H.out.below hb).step HR.out;have hjj:j'=j:=by
   have:=(World.cell?_alloc_lt w1 (.cells #[.int .i64 2,.string ⟨tx.toArray⟩,.int .i64 (ta:Int)] 192) ⟨rb,1,none⟩ (H.out.below hb).lt).symm.trans c1;rw[c1'] at this;injection this with this
   injection this with _ this
   omega
  rw[hjj] at hR;clear c1' hj' hjj;have hK:=(zbQ (F:=fun k=>k=rb) hb).trans ((zam.refl (fun k=>k=rb) w1).setCell (p:=⟨rb,1,none⟩) (.inl rfl) (.int .i64 ((j:Int)+1)));have HK:=zaa hK;clear hK;have f1:=(H.out.below hb2).free 1 (by decide);have l1:=(H.out.below hb2).lt;have l2:=(H.out.below hb).lt;have c5:((w1.alloc (.cells #[.int .i64 2,.string ⟨tx.toArray⟩,.int .i64 (ta:Int)] 192)).setCell ⟨rb,1,none⟩ (.int .i64 ((j:Int)+1))).cell? ⟨w1.heap.size,1,none⟩=some (.string ⟨tx.toArray⟩):=by
   rw[World.cell?_setCell_other _ _ _ _ (fun e=>by injection e with e _ _;omega),cell_of_row _ _ _ _ _ _ (heap_alloc_new w1 _)]
   rfl
  have HR2:=zaa hR;have HB2:=zaa hb2;clear hR hb hb2;go_wp2_with fail;refine(HV.out _).mono ?_;rintro e w2 ⟨n,rfl,rfl,hn⟩;obtain rfl:=hn HB.out;rw[HB.out];go_wp2_with fail;go_ret;exact⟨rfl,HR2.out.below ((Below.refl _ _).alloc (Nat.le_refl _) _),HK.out.trans (zbQ ((Below.refl _ _).alloc (Nat.le_refl _) _))⟩
 ·have HN:=zaa (show zcW s=(0,(zb9 80 s).2) from if_neg (by simpa using hk))
  rw[HN.out];have e1:((s.here.kind:Int) != 2)=true:=by simp;omega
  clear hk;unfold zbI at HH
  go_enter func123,ntmps123
  go_wp2_with fail;refine HH.out.mono ?_;rintro e w1 ⟨rfl,hb⟩;have hb2:=hb.alloc hb.size (.cells #[.int .i64 (s.here.kind:Int),.string ⟨s.here.text.toArray⟩,.int .i64 (s.here.at_:Int)] 192);have H1:=zaa (H.out.below hb2);have HB:=zaa hb2;clear hb hb2;go_wp2_with fail;refine(zdh rb 80 ts s _ H1 hts).mono ?_;rintro e w2 ⟨rfl,h1,h2⟩;have H3:=zaa h1;have H4:=zaa h2;clear h1 h2;go_wp2_with fail;go_ret;exact⟨rfl,H3.out,(zbQ HB.out).trans H4.out⟩
theorem zb7 (rb:Nat) (x:ByteArray) (l:List (List UInt8)) (hx:zbZ x.data.toList=l) (hz:x.size≤1000000) (hl:l.length≤250) (ts:List Tok) (s:InS) (W:World) (H:Hid (RIn rb ts s W)) (hts:ts.length≤1000000):
 Calls prog 122 #[.pointer (some ⟨rb,0,none⟩),.string x] W fun e W'=>e= .returned (.int .u8 (((zba l s).1:Nat):Int))∧RIn rb ts (zba l s).2 W'∧zam (fun k=>k=rb) W W':=by
 have HH:=zaa (fun w1 h1=>zdc rb ts s w1 h1 hts);have HF:=zaa (fun(y:ByteArray) V=>zmt x y hz (by rw[hx];exact hl) V);rw[hx] at HF;have hfn:zbN l s.here.text≤250:=by
  unfold zbN
  split
  ·rename_i i hi
   have:=(List.findIdx?_eq_some_iff_getElem.1 hi).1
   omega
  ·omega
 by_cases hk:s.here.kind=1
 ·obtain⟨_,hr⟩:=zgs H.out (by omega)
  have HR:=zaa hr;by_cases hf:zbN l s.here.text=0
  ·have HN:=zaa (show zba l s=(0,(zb9 80 s).2) from if_neg (by simp[hf]))
   rw[HN.out];have HY:=zaa (fun V=>HF.out ⟨s.here.text.toArray⟩ V);have e1:((s.here.kind:Int)==1)=true:=by rw[hk];rfl
   rw[show(⟨s.here.text.toArray⟩:ByteArray).data.toList=s.here.text by simp,hf] at HY;clear hr hf hk HF hfn;unfold zbI at HH;have hfl:=fun a b c w=>zcL a b c w
   have hf1:=fun a b c w=>(hfl a b c w).2.1
   have hf0:=fun a b c w=>(hfl a b c w).2.2
   clear hfl
   go_enter func122,ntmps122
   go_wp2_with fail;refine(HH.out W H).mono ?_;rintro e w1 ⟨rfl,hb⟩;have H1:=zaa (H.out.below hb);have HB:=zaa hb;clear hb;go_wp2_with fail;refine(HH.out w1 H1).mono ?_;rintro e w2 ⟨rfl,hb⟩;have H2:=zaa (H1.out.below hb);have HB2:=zaa (btZ HB.out hb);clear hb;go_wp2_with fail;refine(HY.out w2).mono ?_;rintro e w3 ⟨rfl,hb⟩;have H3:=zaa (H2.out.below hb);have HB3:=zaa (btZ HB2.out hb);clear hb;go_wp2_with fail;refine(zdh rb 80 ts s w3 H3 hts).mono ?_;rintro e w4 ⟨rfl,h1,h2⟩;have H4:=zaa h1;have H5:=zaa h2;clear h1 h2;go_wp2_with fail;go_ret;exact⟨rfl,H4.out,(zbQ HB3.out).trans H5.out⟩
  ·have HN:=zaa (show zba l s=(zbN l s.here.text,s.step) from if_pos (by simp[hf,hk]))
   rw[HN.out];have HY:=zaa (fun V=>HF.out ⟨s.here.text.toArray⟩ V);have e1:((s.here.kind:Int)==1)=true:=by rw[hk];rfl
   rw[show(⟨s.here.text.toArray⟩:ByteArray).data.toList=s.here.text by simp] at HY;generalize zbN l s.here.text=n at *;have e2:((n:Int)==0)=false:=by simp;omega
   clear hr hf hk HF;unfold zbI at HH;have hf1:=fun a b c w=>(zcL a b c w).2.1
   have hf0:=fun a b c w=>(zcL a b c w).2.2
   go_enter func122,ntmps122
   go_wp2_with fail;refine(HH.out W H).mono ?_;rintro e w1 ⟨rfl,hb⟩;have H1:=zaa (H.out.below hb);have HB:=zaa hb;clear hb;go_wp2_with fail;refine(HH.out w1 H1).mono ?_;rintro e w2 ⟨rfl,hb⟩;have H2:=zaa (H1.out.below hb);have HB2:=zaa (btZ HB.out hb);clear hb;go_wp2_with fail;refine(HY.out w2).mono ?_;rintro e w3 ⟨rfl,hb⟩;have H3:=zaa (H2.out.below hb);have HB3:=zaa (btZ HB2.out hb);clear hb;obtain⟨j,hj,c1,hR⟩:=H3.out.step HR.out;have f1:=H3.out.free 1 (by decide);have l1:=H3.out.lt;have HR2:=zaa hR;clear hR;go_wp2_with fail;go_ret;exact⟨rfl,HR2.out,(zbQ HB3.out).trans ((zam.refl (fun k=>k=rb) w3).setCell (p:=⟨rb,1,none⟩) (.inl rfl) _)⟩
 ·have HN:=zaa (show zba l s=(0,(zb9 80 s).2) from if_neg (by simp[hk]))
  rw[HN.out];have e1:((s.here.kind:Int)==1)=false:=by simp;omega
  clear hk HF hfn;unfold zbI at HH;have hf0:=fun a b c w=>(zcL a b c w).2.2
  go_enter func122,ntmps122
  go_wp2_with fail;refine(HH.out W H).mono ?_;rintro e w1 ⟨rfl,hb⟩;have H1:=zaa (H.out.below hb);have HB:=zaa hb;clear hb;go_wp2_with fail;refine(zdh rb 80 ts s w1 H1 hts).mono ?_;rintro e w4 ⟨rfl,h1,h2⟩;have H4:=zaa h1;have H5:=zaa h2;clear h1 h2;go_wp2_with fail;go_ret;exact⟨rfl,H4.out,(zbQ HB.out).trans H5.out⟩
theorem znF (s:InS):zji s=(fun c:Nat×InS=>(fun o:List Int×InS=>((⟨c.1,o.1.getD 0 0,o.1.getD 1 0,o.1.getD 2 0⟩:zcQ),(zaR [59] o.2).2)) (zm6 (zaB zaN c.1).length c.2)) (zba zaE s):=rfl
theorem zoG (s:InS):zm6 0 s=([],s):=rfl
theorem zoA (s:InS):zm6 1 s=([(zcW s).1],(zcW s).2):=rfl
theorem zok (s:InS):zm6 2 s=([(zcW s).1,(zcW (zcW s).2).1],(zcW (zcW s).2).2):=rfl
theorem zox (s:InS):zm6 3 s=([(zcW s).1,(zcW (zcW s).2).1,(zcW (zcW (zcW s).2).2).1],(zcW (zcW (zcW s).2).2).2):=rfl
theorem zen (s:InS) (hs:s.err=0):(zji s).2.err≠0∨(zji s).2.err=0∧(zji s).2.r.length<s.r.length:=by
 have h:=zhM.fine s hs
 cases hp:zjp s.r with
 |ok a r=>
  rw[hp] at h;have h:zji s=(a,⟨r,s.size,s.at_,0⟩):=h;rw[h];exact .inr ⟨rfl,zlC _ _ _ hp⟩
 |bad e r=>
  rw[hp] at h;obtain⟨h1,h2,_⟩:=h;exact .inl (by rw[h2];exact h1)
theorem zcq {f:Nat} {acc:List zcQ} {s:InS} (h:s.here.kind=1):zb3 (f+1) acc s=zb3 f (acc++[(zji s).1]) (zji s).2:=by
 show(if s.here.kind==1 then _ else _)=_
 rw[if_pos (by simpa using h)]
 rfl
theorem zfX {f:Nat} {acc:List zcQ} {s:InS} (h:s.here.kind≠1):zb3 f acc s=(acc,s):=by
 cases f with
 |zero=>rfl
 |succ f=>
  show(if s.here.kind==1 then _ else _)=_
  rw[if_neg (by simpa using h)]
theorem zeq {s:InS} (h:s.here.kind=1):s.err=0:=by
 unfold InS.here at h
 split at h
 ·assumption
 ·cases h
theorem zkP {s:InS} (h:s.here.kind=1):0<s.r.length:=by
 unfold InS.here at h
 split at h
 ·cases hr:s.r with
  |nil=>rw[hr] at h;cases h
  |cons t r=>simp
 ·cases h
theorem RIn.kept {F:Nat→Prop} {rb:Nat} {ts:List Tok} {s:InS} {w w':World} (h:RIn rb ts s w) (hk:zam F w w') (hF: ∀b,b≤rb→ ¬F b):RIn rb ts s w':=by
 have hb:=hk.block rb h.lt (hF rb (Nat.le_refl _));have hc: ∀o,w'.cell? ⟨rb,o,none⟩=w.cell? ⟨rb,o,none⟩:=fun o=>World.cell?_of_block (w:=w) (a:=⟨rb,o,none⟩) hb
 obtain⟨A,c,h0,hr,hA⟩:=h.toks;obtain⟨j,hj,hd,h1⟩:=h.now;exact⟨Nat.lt_of_lt_of_le h.lt hk.size,⟨A,c,(hc 0).trans h0,hr.kept hk (fun a ha=>hF _ (Nat.le_of_lt (hA a ha))),hA⟩,⟨j,hj,hd,(hc 1).trans h1⟩,(hc 2).trans h.size,(hc 3).trans h.at_,(hc 4).trans h.err,fun o ho=>(World.frozen?_of_block (a:=⟨rb,o,none⟩) hb).trans (h.free o ho)⟩
theorem RIn.far {rb:Nat} {ts:List Tok} {s:InS} {w:World} (h:RIn rb ts s w) {p:Addr} (hp:rb<p.block) (v:Value):RIn rb ts s (w.setCell p v):=
 h.kept ((zam.refl (fun b=>b=p.block) w).setCell (.inl rfl) v) (fun b hb e=>by omega)
def zlg:Value→Nat
 | .slice _ n _=>n
 |_=>0
theorem RIn.few {rb:Nat} {ts:List Tok} {s:InS} {w:World} (h:RIn rb ts s w):s.r.length≤ts.length:=by
 obtain⟨j,_,hd,_⟩:=h.now;rw[hd,List.length_drop]
 omega
theorem zgW (rb:Nat) (ts:List Tok) (s:InS) (W:World) (H:Hid (RIn rb ts s W)) (hts:ts.length≤1000000) (HT:Hid (zhK ts)):
 Calls prog 85 #[.pointer (some ⟨rb,0,none⟩)] W fun e W'=> ∃v,e= .returned v∧RIn rb ts (zdy s).2 W'∧zam (fun k=>k=rb) W W'∧W'.ownsRow W.heap.size 60 4 v (zdy s).1.length ((zdy s).1.flatMap za5):=by
 obtain⟨i0,hi0,hz0,hz1,hz2⟩:=info_parts ziy;have hrb:=H.out.lt;have hf0:=fun a b c w=>(zcL a b c w).2.2
 go_enter func85,ntmps85
 go_wp2_with fail
 go_loopw [3] (fun v3 wr=> ∃(acc:List zcQ) (s1:InS) (f:Nat),(s1.err=0→s1.r.length<f∧acc.length+s1.r.length≤ts.length)∧acc.length≤ts.length∧zb3 f acc s1=zdy s∧RIn rb ts s1 wr∧zam (fun k=>k=rb) W wr∧wr.ownsRow W.heap.size 60 4 v3 acc.length (acc.flatMap za5)) (fun v3 _=>ts.length-zlg v3)
 case atStart=>exact⟨[],s,s.r.length+1,fun _=>⟨by omega,by simpa using H.out.few⟩,by simp,rfl,H.out,zam.refl _ _,World.ownsRow_nil _ _ _ _⟩
 case round=>
  obtain⟨acc,s1,f,hf,hal,hC,hR,hK,hO⟩:=hrel;obtain⟨Q,qc,rfl⟩:=zah hO;have HH:=zaa (zdc rb ts s1 wr (zaa hR) hts);by_cases hk1:s1.here.kind=1
  rotate_left
  ·rw[zfX hk1] at hC
   have e1:((s1.here.kind:Int)==1)=false:=by simp;omega
   have HR:=zaa hR;have HK:=zaa hK;have HO:=zaa hO;have HC:=zaa hC;clear hk1 hR hK hO hf hC;unfold zbI at HH;go_wp2_with fail;refine HH.out.mono ?_;rintro e w1 ⟨rfl,hb⟩;have HB:=zaa hb;clear hb;go_wp2_with fail;refine bodyPost_ret (v:= .slice Q acc.length qc) (by simp[results,Tryz.results85,go_sem]) rfl ?_;rw[←HC.out];exact⟨_,rfl,HR.out.below HB.out,HK.out.trans (zbQ HB.out),zai HO.out (fun g hg _=>HB.out.block g (zaj HO.out hg).2)⟩
  ·obtain⟨hf1,hf2⟩:=hf (zeq hk1)
   have hpos:=zkP hk1;obtain⟨f,rfl⟩: ∃f',f=f'+1:=⟨f-1,by omega⟩;have e1:((s1.here.kind:Int)==1)=true:=by rw[hk1];rfl
   have HK1:=zaa hk1;have HC0:=zaa hC;have HCH:=zaa (fun V h=>zb7 rb ⟨#[119,111,114,107,32,115,101,116,32,97,100,100,32,115,117,98,32,108,111,97,100,32,115,116,111,114,101,32,115,101,110,100,32,114,101,99,118,32,119,97,105,116,32,115,105,103,110,97,108,32,114,97,105,115,101,32,108,111,119,101,114,32,117,110,116,105,108,32,112,117,116,32,103,101,116,32,115,104,111,119,32,108,111,111,107,32,99,108,101,97,114,32,110,101,120,116,32,106,117,109,112,32,122,101,114,111,32,108,101,115,115,32,100,105,118,32,102,97,117,108,116,32,115,116,111,112]⟩ zaE zfL (by decide) (by decide) ts s1 V h hts);have hI:=znF s1;have hN:(zba zaE s1).1≤25:=by
    unfold zba
    split
    ·exact zdT zaE _
    ·exact Nat.zero_le _
   obtain⟨⟨N,s2⟩,hc⟩: ∃p,zba zaE s1=p:=⟨_,rfl⟩;simp only[hc] at HCH hI hN;have HR:=zaa hR;have HK:=zaa hK;have HO:=zaa hO;clear hk1 hR hK hO hf hC hc;unfold zbI at HH;go_wp2_with fail;refine HH.out.mono ?_;rintro e w1 ⟨rfl,hb⟩;have H1:=zaa (HR.out.below hb);have HK0:=zaa (HK.out.trans (zbQ hb));have HO0:=zaa (zai HO.out (fun g hg _=>hb.block g (zaj HO.out hg).2));clear hb HR HK HO HH;go_wp2_with fail;refine(HCH.out w1 H1).mono ?_;rintro e w2 ⟨rfl,hr,hk⟩;have HX:=zaa (heap_alloc_new w2 (.cells #[.int .u8 (N:Int),.int .i64 0,.int .i64 0,.int .i64 0] 60));have hba:=(Below.refl w2.heap.size w2).alloc (Nat.le_refl _) (.cells #[.int .u8 (N:Int),.int .i64 0,.int .i64 0,.int .i64 0] 60);have HR:=zaa (hr.below hba);have ho:=zai HO0.out (fun g hg _=>hk.block g (zaj HO0.out hg).2 (by have:=zaj HO0.out hg;omega));have HOg:=zaa (fun(g:Nat) (hg:(Value.slice Q acc.length qc).ownBlock=some g)=>(zaj ho hg).2);have HO:=zaa (zai ho (fun g hg _=>hba.block g (zaj ho hg).2));have HK:=zaa ((HK0.out.trans hk).trans (zbQ hba));have hxW:W.heap.size≤w2.heap.size:=(HK0.out.trans hk).size;have hrx:rb<w2.heap.size:=hr.lt;clear hr hk ho hba H1 HK0 HO0 HCH;have HOP:=zaa (fun V=>zjd N (by omega) V);have h3:=(zg5 N hN).1;obtain⟨O,hO⟩: ∃O:ByteArray,(⟨(zaB zaN N).toArray⟩:ByteArray)=O:=⟨_,rfl⟩;have hOs:O.size=(zaB zaN N).length:=by rw[←hO];simp[ByteArray.size]
   rw[hO] at HOP;clear hO;go_wp2_with fail;refine(HOP.out _).mono ?_;rintro e w3 ⟨rfl,hb⟩;have HX3:=zaa ((hb.block w2.heap.size (zal HX.out)).trans HX.out);have HR3:=zaa (HR.out.below hb);have HK3:=zaa (HK.out.trans (zbQ hb));have HO3:=zaa (zai HO.out (fun g hg _=>hb.block g (zaj HO.out hg).2));clear hb HX HR HK HO HOP;have HX:=HX3;have HR:=HR3;have HK:=HK3;have HO:=HO3;clear HX3 HR3 HK3 HO3;generalize w2.heap.size=xb at *;generalize(zaB zaN N).length=n at *;rcases(by omega:n=0∨n=1∨n=2∨n=3) with rfl|rfl|rfl|rfl
   ·rw[zoG] at hI
    have g0: ¬(0:Int)<(O.size:Int):=by omega
    have g1: ¬(1:Int)<(O.size:Int):=by omega
    have g2: ¬(2:Int)<(O.size:Int):=by omega
    clear hOs;go_wp2_with fail;obtain⟨⟨_,s9⟩,h9⟩: ∃p,zaR [59] s2=p:=⟨_,rfl⟩;have HC:=zaa (zc9 rb ⟨#[59]⟩ ts s2 _ HR hts);rw[show(⟨#[59]⟩:ByteArray).data.toList=[59] from rfl,h9] at HC;rw[h9] at hI;dsimp only at HC hI;refine HC.out.mono ?_;clear HC;rintro e wd ⟨rfl,hr,hk⟩;have hx:=(hk.block xb (zal HX.out) (by omega)).trans HX.out;have ho:=zai HO.out (fun g hg _=>hk.block g (zaj HO.out hg).2 (by have:=zaj HO.out hg;omega));have HK9:=zaa (HK.out.trans hk);have HO9:=zaa ho;have HR9:=zaa hr;have hsz:=HK9.out.size;obtain⟨c0,c1,c2,c3, -⟩:=zfk hx rfl;have HI:=zaa hI;clear hr hk hx ho HK HX HO HR h9 hI;go_wp2_with(first
     |(at_builtin;refine wpList_append_own _ rfl _ _ 62 rfl W.heap.size 60 i0 (.agg #[.int .u8 0,.int .i64 0,.int .i64 0,.int .i64 0]) 4 32 underlying62 hi0 hz0 (by assumption) (by assumption) rfl (by decide) _ _ _ rfl (HO9.out.alloc _) ⟨wd.heap.size,0,none⟩ 1 1 [.int .u8 (N:Int),.int .i64 0,.int .i64 0,.int .i64 0] rfl rfl (zbB (by simp)) (by simp[Value.oneCell']) (by unfold maxLen;omega) (by omega) (by simp;omega) ?_;intro v' w9 hown' hgrow _))
    have hG0:Below W.heap.size wd w9:=Below.grown ((Below.refl _ wd).alloc hsz _) hgrow (by simp;omega) (fun g hg=>(zaj HO9.out hg).1);have hG1:zam (fun b=>W.heap.size≤b) wd w9:=⟨hG0.os,hG0.tape,hG0.output,hG0.size,fun i _ hn=>hG0.block i (by omega)⟩;have HRn:=zaa (HR9.out.kept hG1 (fun b hb=>by omega));have HKn:=zaa (HK9.out.trans2 hG1 (fun i hi h=>by omega));have HOn:=zaa hown';clear hG0 hG1 hown' hgrow c0 c1 c2 c3 HR9 HK9 HO9
    try go_wp2_with fail
    go_roundw
    case rel=>
     have hins:zji s1=(⟨N,0,0,0⟩,s9):=HI.out;refine⟨acc++[⟨N,0,0,0⟩],s9,f,fun h0=> ?_,by simp;omega,?_,HRn.out,HKn.out,by simpa [za5] using HOn.out⟩
     ·rcases zen s1 (zeq HK1.out) with h|⟨_,h⟩
      ·rw[hins] at h;exact absurd h0 h
      ·rw[hins] at h
       dsimp only at h;simp
       omega
     ·rw[←HC0.out,zcq HK1.out,hins]
    case measure=>
     obtain⟨_,_,rfl⟩:=zah HOn.out;simp[zlg]
     omega
   ·rw[zoA] at hI
    have g0:(0:Int)<(O.size:Int):=by omega
    have g1: ¬(1:Int)<(O.size:Int):=by omega
    have g2: ¬(2:Int)<(O.size:Int):=by omega
    clear hOs;go_wp2_with fail;obtain⟨⟨a,s3⟩,h3⟩: ∃p,zcW s2=p:=⟨_,rfl⟩;have HC:=zaa (zcJ rb ts s2 _ HR hts HT);rw[h3] at HC;rw[h3] at hI;dsimp only at HC hI;refine HC.out.mono ?_;clear HC;rintro e wd ⟨rfl,hr,hk⟩;have hx:=(hk.block xb (zal HX.out) (by omega)).trans HX.out;have ho:=zai HO.out (fun g hg _=>hk.block g (zaj HO.out hg).2 (by have:=zaj HO.out hg;omega));have hd:=(HK.out.trans hk).setCell (p:=⟨xb,1,none⟩) (.inr hxW) (.int .i64 a);have ci:=cell_of_row _ _ 1 _ _ _ hx;have fi:=frozen_of_row _ _ 1 _ _ hx;have hl:=(zal hx);have ho:=zai ho (w':=wd.setCell ⟨xb,1,none⟩ (.int .i64 a)) (fun g hg _=>Below.heap_setCell _ _ _ _ (by have:=HOg.out g hg;show g≠xb;omega));have hr:=hr.far (p:=⟨xb,1,none⟩) hrx (.int .i64 a);have hx:=heap_setCell_same wd xb 1 _ _ (.int .i64 a) hx;clear HX HO HK HR hk;have HX:=zaa hx;have HO:=zaa ho;have HK:=zaa hd;have HR:=zaa hr;clear hx ho hd hr h3;go_wp2_with fail;clear ci fi hl;obtain⟨⟨_,s9⟩,h9⟩: ∃p,zaR [59] s3=p:=⟨_,rfl⟩;have HC:=zaa (zc9 rb ⟨#[59]⟩ ts s3 _ HR hts);rw[show(⟨#[59]⟩:ByteArray).data.toList=[59] from rfl,h9] at HC;rw[h9] at hI;dsimp only at HC hI;refine HC.out.mono ?_;clear HC;rintro e wd ⟨rfl,hr,hk⟩;have hx:=(hk.block xb (zal HX.out) (by omega)).trans HX.out;have ho:=zai HO.out (fun g hg _=>hk.block g (zaj HO.out hg).2 (by have:=zaj HO.out hg;omega));have HK9:=zaa (HK.out.trans hk);have HO9:=zaa ho;have HR9:=zaa hr;have hsz:=HK9.out.size;obtain⟨c0,c1,c2,c3, -⟩:=zfk hx rfl;have HI:=zaa hI;clear hr hk hx ho HK HX HO HR h9 hI;go_wp2_with(first
     |(at_builtin;refine wpList_append_own _ rfl _ _ 62 rfl W.heap.size 60 i0 (.agg #[.int .u8 0,.int .i64 0,.int .i64 0,.int .i64 0]) 4 32 underlying62 hi0 hz0 (by assumption) (by assumption) rfl (by decide) _ _ _ rfl (HO9.out.alloc _) ⟨wd.heap.size,0,none⟩ 1 1 [.int .u8 (N:Int),.int .i64 a,.int .i64 0,.int .i64 0] rfl rfl (zbB (by simp)) (by simp[Value.oneCell']) (by unfold maxLen;omega) (by omega) (by simp;omega) ?_;intro v' w9 hown' hgrow _))
    have hG0:Below W.heap.size wd w9:=Below.grown ((Below.refl _ wd).alloc hsz _) hgrow (by simp;omega) (fun g hg=>(zaj HO9.out hg).1);have hG1:zam (fun b=>W.heap.size≤b) wd w9:=⟨hG0.os,hG0.tape,hG0.output,hG0.size,fun i _ hn=>hG0.block i (by omega)⟩;have HRn:=zaa (HR9.out.kept hG1 (fun b hb=>by omega));have HKn:=zaa (HK9.out.trans2 hG1 (fun i hi h=>by omega));have HOn:=zaa hown';clear hG0 hG1 hown' hgrow c0 c1 c2 c3 HR9 HK9 HO9
    try go_wp2_with fail
    go_roundw
    case rel=>
     have hins:zji s1=(⟨N,a,0,0⟩,s9):=HI.out;refine⟨acc++[⟨N,a,0,0⟩],s9,f,fun h0=> ?_,by simp;omega,?_,HRn.out,HKn.out,by simpa [za5] using HOn.out⟩
     ·rcases zen s1 (zeq HK1.out) with h|⟨_,h⟩
      ·rw[hins] at h;exact absurd h0 h
      ·rw[hins] at h
       dsimp only at h;simp
       omega
     ·rw[←HC0.out,zcq HK1.out,hins]
    case measure=>
     obtain⟨_,_,rfl⟩:=zah HOn.out;simp[zlg]
     omega
   ·rw[zok] at hI
    have g0:(0:Int)<(O.size:Int):=by omega
    have g1:(1:Int)<(O.size:Int):=by omega
    have g2: ¬(2:Int)<(O.size:Int):=by omega
    clear hOs;go_wp2_with fail;obtain⟨⟨a,s3⟩,h3⟩: ∃p,zcW s2=p:=⟨_,rfl⟩;have HC:=zaa (zcJ rb ts s2 _ HR hts HT);rw[h3] at HC;rw[h3] at hI;dsimp only at HC hI;refine HC.out.mono ?_;clear HC;rintro e wd ⟨rfl,hr,hk⟩;have hx:=(hk.block xb (zal HX.out) (by omega)).trans HX.out;have ho:=zai HO.out (fun g hg _=>hk.block g (zaj HO.out hg).2 (by have:=zaj HO.out hg;omega));have hd:=(HK.out.trans hk).setCell (p:=⟨xb,1,none⟩) (.inr hxW) (.int .i64 a);have ci:=cell_of_row _ _ 1 _ _ _ hx;have fi:=frozen_of_row _ _ 1 _ _ hx;have hl:=(zal hx);have ho:=zai ho (w':=wd.setCell ⟨xb,1,none⟩ (.int .i64 a)) (fun g hg _=>Below.heap_setCell _ _ _ _ (by have:=HOg.out g hg;show g≠xb;omega));have hr:=hr.far (p:=⟨xb,1,none⟩) hrx (.int .i64 a);have hx:=heap_setCell_same wd xb 1 _ _ (.int .i64 a) hx;clear HX HO HK HR hk;have HX:=zaa hx;have HO:=zaa ho;have HK:=zaa hd;have HR:=zaa hr;clear hx ho hd hr h3;go_wp2_with fail;clear ci fi hl;obtain⟨⟨b,s4⟩,h4⟩: ∃p,zcW s3=p:=⟨_,rfl⟩;have HC:=zaa (zcJ rb ts s3 _ HR hts HT);rw[h4] at HC;rw[h4] at hI;dsimp only at HC hI;refine HC.out.mono ?_;clear HC;rintro e wd ⟨rfl,hr,hk⟩;have hx:=(hk.block xb (zal HX.out) (by omega)).trans HX.out;have ho:=zai HO.out (fun g hg _=>hk.block g (zaj HO.out hg).2 (by have:=zaj HO.out hg;omega));have hd:=(HK.out.trans hk).setCell (p:=⟨xb,2,none⟩) (.inr hxW) (.int .i64 b);have ci:=cell_of_row _ _ 2 _ _ _ hx;have fi:=frozen_of_row _ _ 2 _ _ hx;have hl:=(zal hx);have ho:=zai ho (w':=wd.setCell ⟨xb,2,none⟩ (.int .i64 b)) (fun g hg _=>Below.heap_setCell _ _ _ _ (by have:=HOg.out g hg;show g≠xb;omega));have hr:=hr.far (p:=⟨xb,2,none⟩) hrx (.int .i64 b);have hx:=heap_setCell_same wd xb 2 _ _ (.int .i64 b) hx;clear HX HO HK HR hk;have HX:=zaa hx;have HO:=zaa ho;have HK:=zaa hd;have HR:=zaa hr;clear hx ho hd hr h4;go_wp2_with fail;clear ci fi hl;obtain⟨⟨_,s9⟩,h9⟩: ∃p,zaR [59] s4=p:=⟨_,rfl⟩;have HC:=zaa (zc9 rb ⟨#[59]⟩ ts s4 _ HR hts);rw[show(⟨#[59]⟩:ByteArray).data.toList=[59] from rfl,h9] at HC;rw[h9] at hI;dsimp only at HC hI;refine HC.out.mono ?_;clear HC;rintro e wd ⟨rfl,hr,hk⟩;have hx:=(hk.block xb (zal HX.out) (by omega)).trans HX.out;have ho:=zai HO.out (fun g hg _=>hk.block g (zaj HO.out hg).2 (by have:=zaj HO.out hg;omega));have HK9:=zaa (HK.out.trans hk);have HO9:=zaa ho;have HR9:=zaa hr;have hsz:=HK9.out.size;obtain⟨c0,c1,c2,c3, -⟩:=zfk hx rfl;have HI:=zaa hI;clear hr hk hx ho HK HX HO HR h9 hI;go_wp2_with(first
     |(at_builtin;refine wpList_append_own _ rfl _ _ 62 rfl W.heap.size 60 i0 (.agg #[.int .u8 0,.int .i64 0,.int .i64 0,.int .i64 0]) 4 32 underlying62 hi0 hz0 (by assumption) (by assumption) rfl (by decide) _ _ _ rfl (HO9.out.alloc _) ⟨wd.heap.size,0,none⟩ 1 1 [.int .u8 (N:Int),.int .i64 a,.int .i64 b,.int .i64 0] rfl rfl (zbB (by simp)) (by simp[Value.oneCell']) (by unfold maxLen;omega) (by omega) (by simp;omega) ?_;intro v' w9 hown' hgrow _))
    have hG0:Below W.heap.size wd w9:=Below.grown ((Below.refl _ wd).alloc hsz _) hgrow (by simp;omega) (fun g hg=>(zaj HO9.out hg).1);have hG1:zam (fun b=>W.heap.size≤b) wd w9:=⟨hG0.os,hG0.tape,hG0.output,hG0.size,fun i _ hn=>hG0.block i (by omega)⟩;have HRn:=zaa (HR9.out.kept hG1 (fun b hb=>by omega));have HKn:=zaa (HK9.out.trans2 hG1 (fun i hi h=>by omega));have HOn:=zaa hown';clear hG0 hG1 hown' hgrow c0 c1 c2 c3 HR9 HK9 HO9
    try go_wp2_with fail
    go_roundw
    case rel=>
     have hins:zji s1=(⟨N,a,b,0⟩,s9):=HI.out;refine⟨acc++[⟨N,a,b,0⟩],s9,f,fun h0=> ?_,by simp;omega,?_,HRn.out,HKn.out,by simpa [za5] using HOn.out⟩
     ·rcases zen s1 (zeq HK1.out) with h|⟨_,h⟩
      ·rw[hins] at h;exact absurd h0 h
      ·rw[hins] at h
       dsimp only at h;simp
       omega
     ·rw[←HC0.out,zcq HK1.out,hins]
    case measure=>
     obtain⟨_,_,rfl⟩:=zah HOn.out;simp[zlg]
     omega
   ·rw[zox] at hI
    have g0:(0:Int)<(O.size:Int):=by omega
    have g1:(1:Int)<(O.size:Int):=by omega
    have g2:(2:Int)<(O.size:Int):=by omega
    clear hOs;go_wp2_with fail;obtain⟨⟨a,s3⟩,h3⟩: ∃p,zcW s2=p:=⟨_,rfl⟩;have HC:=zaa (zcJ rb ts s2 _ HR hts HT);rw[h3] at HC;rw[h3] at hI;dsimp only at HC hI;refine HC.out.mono ?_;clear HC;rintro e wd ⟨rfl,hr,hk⟩;have hx:=(hk.block xb (zal HX.out) (by omega)).trans HX.out;have ho:=zai HO.out (fun g hg _=>hk.block g (zaj HO.out hg).2 (by have:=zaj HO.out hg;omega));have hd:=(HK.out.trans hk).setCell (p:=⟨xb,1,none⟩) (.inr hxW) (.int .i64 a);have ci:=cell_of_row _ _ 1 _ _ _ hx;have fi:=frozen_of_row _ _ 1 _ _ hx;have hl:=(zal hx);have ho:=zai ho (w':=wd.setCell ⟨xb,1,none⟩ (.int .i64 a)) (fun g hg _=>Below.heap_setCell _ _ _ _ (by have:=HOg.out g hg;show g≠xb;omega));have hr:=hr.far (p:=⟨xb,1,none⟩) hrx (.int .i64 a);have hx:=heap_setCell_same wd xb 1 _ _ (.int .i64 a) hx;clear HX HO HK HR hk;have HX:=zaa hx;have HO:=zaa ho;have HK:=zaa hd;have HR:=zaa hr;clear hx ho hd hr h3;go_wp2_with fail;clear ci fi hl;obtain⟨⟨b,s4⟩,h4⟩: ∃p,zcW s3=p:=⟨_,rfl⟩;have HC:=zaa (zcJ rb ts s3 _ HR hts HT);rw[h4] at HC;rw[h4] at hI;dsimp only at HC hI;refine HC.out.mono ?_;clear HC;rintro e wd ⟨rfl,hr,hk⟩;have hx:=(hk.block xb (zal HX.out) (by omega)).trans HX.out;have ho:=zai HO.out (fun g hg _=>hk.block g (zaj HO.out hg).2 (by have:=zaj HO.out hg;omega));have hd:=(HK.out.trans hk).setCell (p:=⟨xb,2,none⟩) (.inr hxW) (.int .i64 b);have ci:=cell_of_row _ _ 2 _ _ _ hx;have fi:=frozen_of_row _ _ 2 _ _ hx;have hl:=(zal hx);have ho:=zai ho (w':=wd.setCell ⟨xb,2,none⟩ (.int .i64 b)) (fun g hg _=>Below.heap_setCell _ _ _ _ (by have:=HOg.out g hg;show g≠xb;omega));have hr:=hr.far (p:=⟨xb,2,none⟩) hrx (.int .i64 b);have hx:=heap_setCell_same wd xb 2 _ _ (.int .i64 b) hx;clear HX HO HK HR hk;have HX:=zaa hx;have HO:=zaa ho;have HK:=zaa hd;have HR:=zaa hr;clear hx ho hd hr h4;go_wp2_with fail;clear ci fi hl;obtain⟨⟨c,s5⟩,h5⟩: ∃p,zcW s4=p:=⟨_,rfl⟩;have HC:=zaa (zcJ rb ts s4 _ HR hts HT);rw[h5] at HC;rw[h5] at hI;dsimp only at HC hI;refine HC.out.mono ?_;clear HC;rintro e wd ⟨rfl,hr,hk⟩;have hx:=(hk.block xb (zal HX.out) (by omega)).trans HX.out;have ho:=zai HO.out (fun g hg _=>hk.block g (zaj HO.out hg).2 (by have:=zaj HO.out hg;omega));have hd:=(HK.out.trans hk).setCell (p:=⟨xb,3,none⟩) (.inr hxW) (.int .i64 c);have ci:=cell_of_row _ _ 3 _ _ _ hx;have fi:=frozen_of_row _ _ 3 _ _ hx;have hl:=(zal hx);have ho:=zai ho (w':=wd.setCell ⟨xb,3,none⟩ (.int .i64 c)) (fun g hg _=>Below.heap_setCell _ _ _ _ (by have:=HOg.out g hg;show g≠xb;omega));have hr:=hr.far (p:=⟨xb,3,none⟩) hrx (.int .i64 c);have hx:=heap_setCell_same wd xb 3 _ _ (.int .i64 c) hx;clear HX HO HK HR hk;have HX:=zaa hx;have HO:=zaa ho;have HK:=zaa hd;have HR:=zaa hr;clear hx ho hd hr h5;go_wp2_with fail;clear ci fi hl;obtain⟨⟨_,s9⟩,h9⟩: ∃p,zaR [59] s5=p:=⟨_,rfl⟩;have HC:=zaa (zc9 rb ⟨#[59]⟩ ts s5 _ HR hts);rw[show(⟨#[59]⟩:ByteArray).data.toList=[59] from rfl,h9] at HC;rw[h9] at hI;dsimp only at HC hI;refine HC.out.mono ?_;clear HC;rintro e wd ⟨rfl,hr,hk⟩;have hx:=(hk.block xb (zal HX.out) (by omega)).trans HX.out;have ho:=zai HO.out (fun g hg _=>hk.block g (zaj HO.out hg).2 (by have:=zaj HO.out hg;omega));have HK9:=zaa (HK.out.trans hk);have HO9:=zaa ho;have HR9:=zaa hr;have hsz:=HK9.out.size;obtain⟨c0,c1,c2,c3, -⟩:=zfk hx rfl;have HI:=zaa hI;clear hr hk hx ho HK HX HO HR h9 hI;go_wp2_with(first
     |(at_builtin;refine wpList_append_own _ rfl _ _ 62 rfl W.heap.size 60 i0 (.agg #[.int .u8 0,.int .i64 0,.int .i64 0,.int .i64 0]) 4 32 underlying62 hi0 hz0 (by assumption) (by assumption) rfl (by decide) _ _ _ rfl (HO9.out.alloc _) ⟨wd.heap.size,0,none⟩ 1 1 [.int .u8 (N:Int),.int .i64 a,.int .i64 b,.int .i64 c] rfl rfl (zbB (by simp)) (by simp[Value.oneCell']) (by unfold maxLen;omega) (by omega) (by simp;omega) ?_;intro v' w9 hown' hgrow _))
    have hG0:Below W.heap.size wd w9:=Below.grown ((Below.refl _ wd).alloc hsz _) hgrow (by simp;omega) (fun g hg=>(zaj HO9.out hg).1);have hG1:zam (fun b=>W.heap.size≤b) wd w9:=⟨hG0.os,hG0.tape,hG0.output,hG0.size,fun i _ hn=>hG0.block i (by omega)⟩;have HRn:=zaa (HR9.out.kept hG1 (fun b hb=>by omega));have HKn:=zaa (HK9.out.trans2 hG1 (fun i hi h=>by omega));have HOn:=zaa hown';clear hG0 hG1 hown' hgrow c0 c1 c2 c3 HR9 HK9 HO9
    try go_wp2_with fail
    go_roundw
    case rel=>
     have hins:zji s1=(⟨N,a,b,c⟩,s9):=HI.out;refine⟨acc++[⟨N,a,b,c⟩],s9,f,fun h0=> ?_,by simp;omega,?_,HRn.out,HKn.out,by simpa [za5] using HOn.out⟩
     ·rcases zen s1 (zeq HK1.out) with h|⟨_,h⟩
      ·rw[hins] at h;exact absurd h0 h
      ·rw[hins] at h
       dsimp only at h;simp
       omega
     ·rw[←HC0.out,zcq HK1.out,hins]
    case measure=>
     obtain⟨_,_,rfl⟩:=zah HOn.out;simp[zlg]
     omega
end Go.Proofs.YtlngbjphagnloaaGreatDoor
