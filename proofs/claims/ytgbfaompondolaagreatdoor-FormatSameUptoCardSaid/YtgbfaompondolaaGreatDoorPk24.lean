/- Merged texts of the walks and of the plain laws on which the statement leans.-/
import Derived.Test.YtgbfaompondolaaGreatDoorPk8
import Derived.Test.YtgbfaompondolaaGreatDoorPk7
import Derived.Test.YtgbfaompondolaaGreatDoorPk1
import Derived.Test.YtgbfaompondolaaGreatDoorPk15
import Derived.Laws.BytesArg
set_option maxHeartbeats 4000000
set_option maxRecDepth 100000
namespace Go.Proofs.YtgbfaompondolaaGreatDoor
open Go.RowKit
theorem zhi {w:World} {base:Nat} {e:TypeId} {size:Nat} {v:Value} {n:Nat} {xs:List Value} (h:w.ownsRow base e size v n xs): ∃A c,v= .slice A n c:=by
 rcases h.2 with⟨rfl,rfl⟩|⟨g,cap,cur,rfl,_⟩
 ·exact⟨none,0,rfl⟩
 ·exact⟨_,_,rfl⟩
attribute [local go_sem] zal.cell
def zg6 (l:List (List UInt8)):List Value:=l.map fun s=> .string ⟨s.toArray⟩
def SplR (w:World) (l:List (List UInt8)) (e:Ending) (w':World):Prop:= ∃A q,e= .returned (.slice A l.length q)∧w'.ownsRow w.heap.size 9 1 (.slice A l.length q) l.length (zg6 l)∧Below w.heap.size w w'
theorem zis (s:ByteArray) (hs:s.size≤1000000) (w:World):Calls Tryz.prog 274 #[.string s] w (SplR w (zcy s.data.toList)):=by
 obtain⟨i0,hi0,hz0,hz1,hz2⟩:=info_parts zlX
 have hl:s.data.toList.length=s.size:=by simp
 go_enter Tryz.func274,Tryz.ntmps274
 go_wp2_with fail
 go_loopw [3,4,5] (fun v3 v4 v5 wr=> ∃(i:Nat) (d:List (List UInt8)) (c:List UInt8) (A:Option Addr) (q:Nat),v5= .int .i64 i∧v4= .int .i64 ((i:Int)-(c.length:Int))∧v3= .slice A d.length q∧wr.ownsRow w.heap.size 9 1 (.slice A d.length q) d.length (zg6 d)∧Below w.heap.size w wr∧
  (i≤s.size∧(s.data.toList.take i).foldl ze4 ([],[])=(d,c)∨i=s.size+1∧d=zcy s.data.toList)) (fun _ _ v5 _=>s.size+2-(intOf v5).toNat)
 case atStart=>exact⟨0,[],[],none,0,rfl,rfl,rfl,World.ownsRow_nil _ _ _ _,Below.refl _ _,.inl ⟨by omega,rfl⟩⟩
 case round=>
  obtain⟨i,d,c,A,q,rfl,rfl,rfl,ho,hbr,hst⟩:=hrel
  have HO:=zaa ho
  have HBR:=zaa hbr
  clear ho hbr
  rcases hst with⟨hi,hf⟩|⟨rfl,rfl⟩
  ·have hlast:=zk4 s.data.toList i (by omega)
   rw[hf] at hlast
   dsimp only at hlast
   have hfew:=zgE (s.data.toList.take i) ([],[])
   rw[hf,List.length_take] at hfew
   simp only[List.length_nil,Nat.zero_add] at hfew
   by_cases hin:i<s.size
   ·have hb:s.data.toList[i]? =some (s[i]'hin):=by
     rw[List.getElem?_eq_getElem (by omega)]
     simp
     rfl
    have hnx:=zlb hb
    rw[hf] at hnx
    have e1:((i:Int)==(s.size:Int))=false:=by simp;omega
    have i1:(i:Int)≤(s.size:Int):=by omega
    have c1:(c.length:Int)≤(i:Int):=by omega
    by_cases h32:(s[i]'hin)=32
    ·have e2:(((s[i]'hin).toNat:Int)==32)=true:=by rw[h32];rfl
     have HNX:=zaa (hnx.trans (show ze4 (d,c) (s[i]'hin)=(d++[c],[]) by rw[h32];rfl))
     have HLC:=zaa hlast
     clear hf hnx hb h32 hlast
     go_wp2_with(at_builtin;apply Hid.out)
     refine zaa ?_
     obtain⟨X,hX⟩: ∃X:ByteArray,s.extract (i-c.length) i=X:=⟨_,rfl⟩
     have HXc:=zaa (show X=⟨c.toArray⟩ by
      rw[←hX]
      apply ByteArray.ext
      apply Array.toList_inj.1
      rw[Lib.extract_data,←List.drop_take]
      exact HLC.out.2)
     rw[hX]
     refine zay _ rfl _ _ 63 rfl w.heap.size 9 i0 _ 1 16 Tryz.underlying63 hi0 hz0 hz1 hz2 rfl (by decide) (.slice A d.length q) _ (zg6 d) rfl (zaO HO.out (fun g hg _=>Below.heap_alloc _ _ _ (zav HO.out hg).2)) (wr.heap.size+1) (some ⟨wr.heap.size,0,none⟩) 1 1 [.string X] rfl ⟨rfl,fun _=>⟨_,rfl,Nat.lt_succ_self _,fun j u hu=>World.news_of_block (heap_alloc_new wr _) j u hu⟩⟩ (by simp[Value.oneCell']) (by unfold maxLen;omega) (by omega) (by have:=HBR.out.size;simp;omega) ?_
     intro v5 wz hown hg hat
     obtain⟨A',q',rfl⟩:=zhi hown
     have HB2:=zaa ((HBR.out.alloc HBR.out.size (.cells #[.string X] 9)).grown hg (by have:=HBR.out.size;simp;omega) (fun g e=>(zav HO.out e).1))
     have HO2:=zaa (show wz.ownsRow w.heap.size 9 1 (.slice A' (d++[c]).length q') (d++[c]).length (zg6 (d++[c])) by
      have e:zg6 (d++[c])=zg6 d++[.string X]:=by rw[HXc.out];simp[zg6]
      rw[e,List.length_append]
      exact hown)
     have hlen:(d++[c]).length=d.length+1:=by simp
     clear hown hg hat
     go_wp2_with fail
     go_roundw
     case rel=>exact⟨i+1,d++[c],[],A',q',by go_num,by simp,by rw[hlen],HO2.out,HB2.out,.inl ⟨by omega,HNX.out⟩⟩
     case measure=>simp[intOf];omega
    ·have e2:(((s[i]'hin).toNat:Int)==32)=false:=by
      simp
      intro h
      have h':(s[i]'hin).toNat=32:=by omega
      exact h32 (UInt8.toNat_inj.1 (h'.trans rfl))
     have HNX:=zaa (hnx.trans (show ze4 (d,c) (s[i]'hin)=(d,c++[s[i]'hin]) from if_neg h32))
     clear hf hnx hb h32 hlast
     go_wp2_with fail
     go_roundw
     case rel=>exact⟨i+1,d,_,A,q,by go_num,by simp;omega,rfl,HO.out,HBR.out,.inl ⟨by omega,HNX.out⟩⟩
     case measure=>simp[intOf];omega
   ·obtain rfl:i=s.size:=by omega
    have HSP:=zaa (show d++[c]=zcy s.data.toList by
     unfold zcy
     rw[List.take_of_length_le (by omega)] at hf
     rw[hf])
    have c1:(c.length:Int)≤(s.size:Int):=by omega
    have HLC:=zaa hlast
    clear hf hlast
    go_wp2_with(at_builtin;apply Hid.out)
    refine zaa ?_
    obtain⟨X,hX⟩: ∃X:ByteArray,s.extract (s.size-c.length) s.size=X:=⟨_,rfl⟩
    have HXc:=zaa (show X=⟨c.toArray⟩ by
     rw[←hX]
     apply ByteArray.ext
     apply Array.toList_inj.1
     rw[Lib.extract_data,←List.drop_take]
     exact HLC.out.2)
    rw[hX]
    refine zay _ rfl _ _ 63 rfl w.heap.size 9 i0 _ 1 16 Tryz.underlying63 hi0 hz0 hz1 hz2 rfl (by decide) (.slice A d.length q) _ (zg6 d) rfl (zaO HO.out (fun g hg _=>Below.heap_alloc _ _ _ (zav HO.out hg).2)) (wr.heap.size+1) (some ⟨wr.heap.size,0,none⟩) 1 1 [.string X] rfl ⟨rfl,fun _=>⟨_,rfl,Nat.lt_succ_self _,fun j u hu=>World.news_of_block (heap_alloc_new wr _) j u hu⟩⟩ (by simp[Value.oneCell']) (by unfold maxLen;omega) (by omega) (by have:=HBR.out.size;simp;omega) ?_
    intro v5 wz hown hg hat
    obtain⟨A',q',rfl⟩:=zhi hown
    have HB2:=zaa ((HBR.out.alloc HBR.out.size (.cells #[.string X] 9)).grown hg (by have:=HBR.out.size;simp;omega) (fun g e=>(zav HO.out e).1))
    have HO2:=zaa (show wz.ownsRow w.heap.size 9 1 (.slice A' (d++[c]).length q') (d++[c]).length (zg6 (d++[c])) by
     have e:zg6 (d++[c])=zg6 d++[.string X]:=by rw[HXc.out];simp[zg6]
     rw[e,List.length_append]
     exact hown)
    have hlen:(d++[c]).length=d.length+1:=by simp
    clear hown hg hat
    rw[HSP.out] at HO2 hlen
    go_wp2_with fail
    go_roundw
    case rel=>exact⟨s.size+1,zcy s.data.toList,[],A',q',by go_num,by simp,by rw[hlen],HO2.out,HB2.out,.inr ⟨rfl,rfl⟩⟩
    case measure=>simp[intOf]
  ·have e1: ¬(((s.size+1:Nat):Int)≤(s.size:Int)):=by omega
   go_wp2_with fail
   go_ret
   exact⟨A,q,rfl,HO.out,HBR.out⟩
theorem zn3 {w w':World} {base:Nat} {t:TypeId} {l:List (List UInt8)} {A:Option Addr} {q k:Nat} {x:List UInt8} (h:w.ownsRow base t 1 (.slice A l.length q) l.length (zg6 l)) (hb:Below w.heap.size w w') (hx:l[k]? =some x):
 ∃b,A=some ⟨b,0,none⟩∧b<w'.heap.size∧w'.cell? ⟨b,k,none⟩=some (.string ⟨x.toArray⟩):=by
 have hk:=(List.getElem?_eq_some_iff.1 hx).1
 obtain⟨g,cap,hv,_,hlt⟩:=h.form (by omega)
 have hA:A=some ⟨g,0,none⟩:=by injection hv
 subst hA
 refine⟨g,rfl,Nat.lt_of_lt_of_le hlt hb.size,(hb.cell (p:=⟨g,k,none⟩) hlt).trans ?_⟩
 rw[World.ownsRow.cellAt h k (by omega)]
 unfold zg6
 rw[List.getElem?_map,hx]
 rfl
theorem zga (s:ByteArray) (hs:s.size≤1000000) (z:Int) (hz: -1≤z∧z≤1000000) (w:World):Calls Tryz.prog 242 #[.string s,.int .i64 z] w fun e w'=>e= .returned (.string ⟨(if z<0 then[] else(zcy s.data.toList).getD z.toNat []).toArray⟩)∧Below w.heap.size w w':=by
 have HS:=zaa (zis s hs w)
 have hln:(zcy s.data.toList).length≤1000001:=by
  have:=zgE s.data.toList ([],[])
  unfold zcy
  simp at this ⊢
  omega
 generalize zcy s.data.toList=l at *
 have hcase:z<0∨0≤z∧(l.length:Int)≤z∨ ∃k:Nat,z=k∧k<l.length:=by
  by_cases h0:z<0
  ·exact .inl h0
  ·by_cases h1:(l.length:Int)≤z
   ·exact .inr (.inl ⟨by omega,h1⟩)
   ·exact .inr (.inr ⟨z.toNat,by omega,by omega⟩)
 rcases hcase with h|⟨h,h'⟩|⟨k,rfl,hk⟩
 ·rw[if_pos h]
  go_enter Tryz.func242,Tryz.ntmps242
  go_wp2_with fail
  refine HS.out.mono ?_
  rintro e w1 ⟨A,q,rfl, -,hb⟩
  have HB:=zaa hb
  clear hb
  go_wp2_with fail
  go_ret
  exact⟨rfl,HB.out⟩
 ·rw[if_neg (by omega),show l.getD z.toNat []=[] by rw[List.getD_eq_getElem?_getD,List.getElem?_eq_none (by omega)];rfl]
  go_enter Tryz.func242,Tryz.ntmps242
  go_wp2_with fail
  refine HS.out.mono ?_
  rintro e w1 ⟨A,q,rfl, -,hb⟩
  have HB:=zaa hb
  clear hb
  go_wp2_with fail
  go_ret
  exact⟨rfl,HB.out⟩
 ·have hx:l[k]? =some (l.getD k []):=by rw[List.getD_eq_getElem?_getD,List.getElem?_eq_getElem hk];rfl
  rw[if_neg (by omega),Int.toNat_natCast]
  generalize l.getD k []=x at *
  have k0:(0:Int)≤(k:Int):=by omega
  have k1:(k:Int)<(l.length:Int):=by omega
  go_enter Tryz.func242,Tryz.ntmps242
  go_wp2_with fail
  refine HS.out.mono ?_
  rintro e w1 ⟨A,q,rfl,ho,hb⟩
  obtain⟨b,rfl,hb1,hc⟩:=zn3 ho (Below.refl _ _) hx
  have HB:=zaa hb
  clear hb ho hx
  go_wp2_with fail
  go_ret
  exact⟨rfl,HB.out⟩
end Go.Proofs.YtgbfaompondolaaGreatDoor
namespace Go.Proofs.YtgbfaompondolaaGreatDoor
open Go.RowKit
attribute [local go_sem] zal.cell
theorem zdq (ws:List (List UInt8)) (n:Nat):(if(n:Int)-1<0 then[] else ws.getD ((n:Int)-1).toNat [])=zaj ws n:=by
 unfold zaj
 by_cases h:n=0
 ·rw[if_pos h,if_pos (by omega)]
 ·rw[if_neg h,if_neg (by omega),show((n:Int)-1).toNat=n-1 by omega]
theorem zf3 (n:Nat) (hn:n≤255) (w:World):Calls Tryz.prog 192 #[.int .u8 (n:Int)] w fun e w'=>e= .returned (.string ⟨(zaj zaD n).toArray⟩)∧Below w.heap.size w w':=by
 have h:=zga ⟨#[119,111,114,107,32,115,101,116,32,97,100,100,32,115,117,98,32,108,111,97,100,32,115,116,111,114,101,32,115,101,110,100,32,114,101,99,118,32,119,97,105,116,32,115,105,103,110,97,108,32,114,97,105,115,101,32,108,111,119,101,114,32,117,110,116,105,108,32,112,117,116,32,103,101,116,32,115,104,111,119,32,108,111,111,107,32,99,108,101,97,114,32,110,101,120,116,32,106,117,109,112,32,122,101,114,111,32,108,101,115,115,32,100,105,118,32,102,97,117,108,116,32,115,116,111,112]⟩ (by decide) ((n:Int)-1) (by omega) w
 rw[show(⟨#[119,111,114,107,32,115,101,116,32,97,100,100,32,115,117,98,32,108,111,97,100,32,115,116,111,114,101,32,115,101,110,100,32,114,101,99,118,32,119,97,105,116,32,115,105,103,110,97,108,32,114,97,105,115,101,32,108,111,119,101,114,32,117,110,116,105,108,32,112,117,116,32,103,101,116,32,115,104,111,119,32,108,111,111,107,32,99,108,101,97,114,32,110,101,120,116,32,106,117,109,112,32,122,101,114,111,32,108,101,115,115,32,100,105,118,32,102,97,117,108,116,32,115,116,111,112]⟩:ByteArray).data.toList=_ from rfl,zgH,zdq] at h
 have H:=zaa h
 clear h
 generalize(⟨(zaj zaD n).toArray⟩:ByteArray)=x at *
 go_enter Tryz.func192,Tryz.ntmps192
 go_wp2_with fail
 refine H.out.mono ?_
 rintro e w1 ⟨rfl,hb⟩
 have HB:=zaa hb
 clear hb
 go_wp2_with fail
 go_ret
 exact⟨rfl,HB.out⟩
theorem zm5 (n:Nat) (hn:n≤255) (w:World):Calls Tryz.prog 187 #[.int .u8 (n:Int)] w fun e w'=>e= .returned (.string ⟨(zaj zax n).toArray⟩)∧Below w.heap.size w w':=by
 have h:=zga ⟨#[100,101,97,100,108,105,110,101,32,109,101,109,111,114,121,32,114,97,105,115,101,100,32,110,117,109,101,114,105,99,32,115,116,97,99,107,32,112,111,119,101,114,32,119,105,110,100,111,119]⟩ (by decide) ((n:Int)-1) (by omega) w
 rw[show(⟨#[100,101,97,100,108,105,110,101,32,109,101,109,111,114,121,32,114,97,105,115,101,100,32,110,117,109,101,114,105,99,32,115,116,97,99,107,32,112,111,119,101,114,32,119,105,110,100,111,119]⟩:ByteArray).data.toList=_ from rfl,zfZ,zdq] at h
 have H:=zaa h
 clear h
 generalize(⟨(zaj zax n).toArray⟩:ByteArray)=x at *
 go_enter Tryz.func187,Tryz.ntmps187
 go_wp2_with fail
 refine H.out.mono ?_
 rintro e w1 ⟨rfl,hb⟩
 have HB:=zaa hb
 clear hb
 go_wp2_with fail
 go_ret
 exact⟨rfl,HB.out⟩
theorem zm0 (n:Nat) (hn:n≤255) (w:World):Calls Tryz.prog 188 #[.int .u8 (n:Int)] w fun e w'=>e= .returned (.string ⟨(zaj zas n).toArray⟩)∧Below w.heap.size w w':=by
 have h:=zga ⟨#[112,114,111,99,101,115,115,32,112,97,114,116,32,109,111,100,117,108,101]⟩ (by decide) ((n:Int)-1) (by omega) w
 rw[show(⟨#[112,114,111,99,101,115,115,32,112,97,114,116,32,109,111,100,117,108,101]⟩:ByteArray).data.toList=_ from rfl,zgc,zdq] at h
 have H:=zaa h
 clear h
 generalize(⟨(zaj zas n).toArray⟩:ByteArray)=x at *
 go_enter Tryz.func188,Tryz.ntmps188
 go_wp2_with fail
 refine H.out.mono ?_
 rintro e w1 ⟨rfl,hb⟩
 have HB:=zaa hb
 clear hb
 go_wp2_with fail
 go_ret
 exact⟨rfl,HB.out⟩
theorem zl4 (n:Nat) (hn:n≤255) (w:World):Calls Tryz.prog 189 #[.int .u8 (n:Int)] w fun e w'=>e= .returned (.string ⟨(zaj zap n).toArray⟩)∧Below w.heap.size w w':=by
 have h:=zga ⟨#[105,103,110,111,114,101,32,115,116,111,112,32,114,101,115,116,97,114,116,32,119,97,114,109,32,99,111,108,100,32,105,100,108,101,32,114,101,115,101,116,32,104,97,108,116]⟩ (by decide) ((n:Int)-1) (by omega) w
 rw[show(⟨#[105,103,110,111,114,101,32,115,116,111,112,32,114,101,115,116,97,114,116,32,119,97,114,109,32,99,111,108,100,32,105,100,108,101,32,114,101,115,101,116,32,104,97,108,116]⟩:ByteArray).data.toList=_ from rfl,zft,zdq] at h
 have H:=zaa h
 clear h
 generalize(⟨(zaj zap n).toArray⟩:ByteArray)=x at *
 go_enter Tryz.func189,Tryz.ntmps189
 go_wp2_with fail
 refine H.out.mono ?_
 rintro e w1 ⟨rfl,hb⟩
 have HB:=zaa hb
 clear hb
 go_wp2_with fail
 go_ret
 exact⟨rfl,HB.out⟩
theorem ziL (n:Nat) (hn:n≤255):zaj zc4 n=[45]∧zaj zaR n=[]∨zaj zc4 n≠[45]∧zaj zc4 n=zaj zaR n:=by
 have h:((List.range 256).all fun n=>(zaj zc4 n==[45]&&zaj zaR n==[])||(zaj zc4 n != [45]&&zaj zc4 n==zaj zaR n))=true:=by decide +kernel
 have:=List.all_eq_true.1 h n (by simp;omega)
 simpa using this
theorem zg3 (n:Nat) (hn:n≤255) (w:World):Calls Tryz.prog 191 #[.int .u8 (n:Int)] w fun e w'=>e= .returned (.string ⟨(zaj zaR n).toArray⟩)∧Below w.heap.size w w':=by
 have h:=zga ⟨#[119,32,114,118,32,114,114,32,114,114,32,114,97,114,32,114,97,114,32,111,114,108,32,105,114,114,32,115,32,115,32,101,32,101,32,101,32,98,114,32,98,114,32,100,114,32,100,114,32,100,32,45,32,106,32,114,106,32,114,114,106,32,114,114,32,99,32,45]⟩ (by decide) ((n:Int)-1) (by omega) w
 rw[show(⟨#[119,32,114,118,32,114,114,32,114,114,32,114,97,114,32,114,97,114,32,111,114,108,32,105,114,114,32,115,32,115,32,101,32,101,32,101,32,98,114,32,98,114,32,100,114,32,100,114,32,100,32,45,32,106,32,114,106,32,114,114,106,32,114,114,32,99,32,45]⟩:ByteArray).data.toList=_ from rfl,zjb,zdq] at h
 have H:=zaa h
 clear h
 rcases ziL n hn with⟨h1,h2⟩|⟨h1,h2⟩
 ·rw[h2]
  rw[h1] at H
  clear h1 h2
  go_enter Tryz.func191,Tryz.ntmps191
  go_wp2_with fail
  refine H.out.mono ?_
  rintro e w1 ⟨rfl,hb⟩
  have HB:=zaa hb
  clear hb
  go_wp2_with fail
  go_ret
  exact⟨rfl,HB.out⟩
 ·rw[←h2]
  have e1:(zaj zc4 n==[45])=false:=by simpa using h1
  clear h2
  generalize zaj zc4 n=x at *
  go_enter Tryz.func191,Tryz.ntmps191
  go_wp2_with fail
  refine H.out.mono ?_
  rintro e w1 ⟨rfl,hb⟩
  have HB:=zaa hb
  clear hb
  go_wp2_with fail
  go_ret
  exact⟨rfl,HB.out⟩
end Go.Proofs.YtgbfaompondolaaGreatDoor
namespace Go.Proofs.YtgbfaompondolaaGreatDoor
open Go.RowKit
attribute [local go_sem] zal.cell
theorem zhc (w:World) (n:Nat):(convert 119 9 (.slice (some ⟨w.heap.size,0,none⟩) 1 1)).run Tryz.prog (w.alloc (.cells #[.int .u8 (48+(n:Int) % 10)] 5))= .ok (.string ⟨#[UInt8.ofNat (48+n % 10)]⟩) (w.alloc (.cells #[.int .u8 (48+(n:Int) % 10)] 5)):=by
 have h:=run_convert_bytes_arg (P:=Tryz.prog) (w.alloc (.cells #[.int .u8 (48+(n:Int) % 10)] 5)) 119 5 Tryz.underlying119 Tryz.underlying5 w.heap.size 0 1 1 [48+(n:Int) % 10] rfl (fun i hi=>by
  obtain rfl:i=0:=by omega
  rw[cell_of_row _ _ _ _ _ _ (heap_alloc_new w _)]
  rfl) 9 Tryz.underlying9
 have e:strOfNums [48+(n:Int) % 10]=⟨#[UInt8.ofNat (48+n % 10)]⟩:=by
  show(⟨#[UInt8.ofNat (48+(n:Int) % 10).toNat]⟩:ByteArray)=_
  rw[show(48+(n:Int) % 10).toNat=48+n % 10 by omega]
 rw[←e]
 exact h
theorem zhf {n:Nat} (h:n≤9):Lib.decDigits n=[UInt8.ofNat (48+n % 10)]:=by
 unfold Lib.decDigits
 rw[dif_pos (by omega),Nat.mod_eq_of_lt (by omega)]
theorem znP {n:Nat} (h: ¬n≤9):Lib.decDigits n=Lib.decDigits (n/10)++[UInt8.ofNat (48+n % 10)]:=by
 rw[Lib.decDigits,dif_neg (by omega)]
theorem zkm: ∀(f n:Nat),f≤9→n<10 ^ (f+1)→n≤1073741824→ ∀W:World,Calls Tryz.prog 157 #[.int .i64 (n:Int)] W fun e w'=>e= .returned (.string ⟨(Lib.decDigits n).toArray⟩)∧Below W.heap.size W w':=by
 intro f
 induction f with
 |zero=>
  intro n hf9 h h30 W
  have hcv:=zhc W n
  obtain⟨D,hD⟩: ∃D:ByteArray,⟨#[UInt8.ofNat (48+n % 10)]⟩=D:=⟨_,rfl⟩
  rw[hD] at hcv
  have HD:=zaa (show D=⟨(Lib.decDigits n).toArray⟩ by rw[←hD,zhf (by simp at h;omega)])
  clear hD
  have HB:=zaa ((Below.refl W.heap.size W).alloc (Nat.le_refl _) (.cells #[.int .u8 (48+(n:Int) % 10)] 5))
  have hn: ¬(9:Int)<(n:Int):=by simp at h;omega
  go_enter Tryz.func157,Tryz.ntmps157
  go_wp2_with fail
  go_ret
  exact⟨congrArg (fun s=>Ending.returned (Value.string s)) HD.out,HB.out⟩
 |succ f ih=>
  intro n hf9 h h30 W
  have hcv:=zhc W n
  obtain⟨D,hD⟩: ∃D:ByteArray,⟨#[UInt8.ofNat (48+n % 10)]⟩=D:=⟨_,rfl⟩
  rw[hD] at hcv
  have hDs:D.size=1:=by rw[←hD];rfl
  have HB:=zaa ((Below.refl W.heap.size W).alloc (Nat.le_refl _) (.cells #[.int .u8 (48+(n:Int) % 10)] 5))
  by_cases h9:n≤9
  ·have HD:=zaa (show D=⟨(Lib.decDigits n).toArray⟩ by rw[←hD,zhf h9])
   have hn: ¬(9:Int)<(n:Int):=by omega
   clear hD
   go_enter Tryz.func157,Tryz.ntmps157
   go_wp2_with fail
   go_ret
   exact⟨congrArg (fun s=>Ending.returned (Value.string s)) HD.out,HB.out⟩
  ·have hd:n/10<10 ^ (f+1):=by
    rw[Nat.div_lt_iff_lt_mul (by decide),←Nat.pow_succ]
    exact h
   have hI:=fun V=>ih (n/10) (by omega) hd (by omega) V
   rw[show((n/10:Nat):Int)=(n:Int)/10 by omega] at hI
   have hl:=zmL f (n/10) hd
   rw[←Lib.decDigits_length] at hl
   obtain⟨E,hE⟩: ∃E:ByteArray,(⟨(Lib.decDigits (n/10)).toArray⟩:ByteArray)=E:=⟨_,rfl⟩
   have hEs:E.size=(Lib.decDigits (n/10)).length:=by rw[←hE];simp[ByteArray.size]
   have HI:=zaa hI
   have HD:=zaa (show E++D=⟨(Lib.decDigits n).toArray⟩ by
    rw[←hD,←hE,znP h9]
    apply ByteArray.ext
    simp[ByteArray.data_append])
   rw[hE] at HI
   have hs: ¬9223372036854775807<E.size+1:=by omega
   have hn2:(9:Int)<(n:Int):=by omega
   clear hD hI hE hl hEs hd ih
   go_enter Tryz.func157,Tryz.ntmps157
   go_wp2_with fail
   refine(HI.out _).mono ?_
   rintro e w1 ⟨rfl,hb1⟩
   have HB1:=zaa (HB.out.trans (hb1.mono (by simp)))
   clear hb1
   go_wp2_with fail
   go_ret
   exact⟨congrArg (fun s=>Ending.returned (Value.string s)) HD.out,HB1.out⟩
theorem zdw (n:Int) (h:zbQ n=true) (W:World):Calls Tryz.prog 157 #[.int .i64 n] W fun e w'=>e= .returned (.string ⟨(Lib.itoa n).toArray⟩)∧Below W.heap.size W w':=by
 simp only[zbQ,Bool.and_eq_true,decide_eq_true_eq] at h
 obtain⟨u,rfl⟩: ∃u:Nat,n=u:=⟨n.toNat,by omega⟩
 rw[Lib.itoa_nonneg]
 exact zkm 9 u (by omega) (by omega) (by omega) W
theorem zio (v:Value) (l:List Int) (W:World) (hv:Hid (DAt W (fun _=>True) v (.row 1 (zah l)))) (hl:l.length≤140737488355328):
 Calls Tryz.prog 103 #[v] W fun e w'=>e= .returned (.bool (l.all zbQ))∧Below W.heap.size W w':=by
 obtain⟨A,c,rfl,hA⟩:=hv.out.slice
 have HA:=zaa hA
 clear hA hv
 rw[show(zah l).length=l.length by simp[zah]]
 go_enter Tryz.func103,Tryz.ntmps103
 go_wp2_with fail
 go_loopw [3] (fun v3 wr=> ∃k:Nat,k≤l.length∧v3= .int .i64 k∧(l.take k).all zbQ=true∧Below W.heap.size W wr) (fun v3 _=>l.length-(intOf v3).toNat)
 case atStart=>exact⟨0,by omega,rfl,by simp,Below.refl _ _⟩
 case round=>
  obtain⟨k,hk,rfl,ht,hbr⟩:=hrel
  have HT:=zaa ht
  have HBR:=zaa hbr
  clear ht hbr
  by_cases hlt:k<l.length
  rotate_left
  ·obtain rfl:k=l.length:=by omega
   rw[List.take_length] at HT
   clear hlt
   go_wp2_with fail
   go_ret
   exact⟨by rw[HT.out];rfl,HBR.out⟩
  obtain⟨x,hx⟩:=za9 hlt
  obtain⟨b,off,rfl,hb,hca⟩:=HA.out.at_ (cells:=fun n:Int=>[lI n]) hx
  obtain⟨u0,c0,g0⟩:=hca 0 _ rfl
  clear hca
  obtain rfl:=g0.leaf_eq
  rw[Nat.mul_one,Nat.add_zero] at c0
  have c0:=zan HBR.out hb (off+k) c0
  have k0:=kbZ k l.length
  have HX:=zaa hx
  clear hx
  by_cases hp0:x<0
  ·have HNO:=zaa (za3 HX.out (show zbQ x=false by simp[zbQ];omega))
   go_wp2_with fail
   go_ret
   exact⟨by rw[HNO.out];rfl,HBR.out⟩
  ·by_cases hp1:1073741824<x
   ·have HNO:=zaa (za3 HX.out (show zbQ x=false by simp[zbQ];omega))
    go_wp2_with fail
    go_ret
    exact⟨by rw[HNO.out];rfl,HBR.out⟩
   ·have HTK:=zaa (zbb HT.out HX.out (show zbQ x=true by simp[zbQ];omega))
    go_wp2_with fail
    go_roundw
    case rel=>exact⟨k+1,by omega,by go_num,HTK.out,HBR.out⟩
    case measure=>simp[intOf];omega
end Go.Proofs.YtgbfaompondolaaGreatDoor
namespace Go.Proofs.YtgbfaompondolaaGreatDoor
open Go.RowKit
attribute [local go_sem] zal.cell
theorem zjv {x:zbU} {z:Int} (h:z∈zcz x) (hF:zed x=true):zbQ z=true:=by
 simp only[zed,Bool.and_eq_true] at hF
 exact List.all_eq_true.1 hF.2.1 z h
theorem zjB (x:zbU) (hop:x.op≤255) (W:World) (hF:zed x=true):
 Calls Tryz.prog 111 #[.agg #[.int .u8 (x.op:Int),.int .i64 x.a,.int .i64 x.b,.int .i64 x.c]] W fun e w'=>e= .returned (.string ⟨(zex x).toArray⟩)∧Below W.heap.size W w':=by
 have h3:=zdj x.op hop
 have hw6:=zeY (k:=6) (l:=zaD) (by decide) x.op
 have HO:=zaa (fun V=>zg3 x.op hop V)
 have HW:=zaa (fun V=>zf3 x.op hop V)
 have hnum:=fun z (h:z∈zcz x)=>zjv h hF
 obtain⟨O,hO⟩: ∃O:ByteArray,(⟨(zaj zaR x.op).toArray⟩:ByteArray)=O:=⟨_,rfl⟩
 obtain⟨S,hS⟩: ∃S:ByteArray,(⟨(zaj zaD x.op).toArray⟩:ByteArray)=S:=⟨_,rfl⟩
 have hOs:O.size=(zaj zaR x.op).length:=by rw[←hO];simp[ByteArray.size]
 have hSs:S.size=(zaj zaD x.op).length:=by rw[←hS];simp[ByteArray.size]
 have hSz:S.size≤6:=by omega
 have HSt:=zaa (show S.data.toList=zaj zaD x.op by rw[←hS])
 have hT:(zex x)=zaj zaD x.op++za4 opT ([x.a,x.b,x.c].take (zaj zaR x.op).length)++[59]:=rfl
 have hops:zcz x=[x.a,x.b,x.c].take (zaj zaR x.op).length:=rfl
 rw[hO] at HO
 rw[hS] at HW
 clear hO hS hSs hw6
 have HX:=zaa (heap_alloc_new W (.cells #[.int .u8 (x.op:Int),.int .i64 x.a,.int .i64 x.b,.int .i64 x.c] 78))
 have HB:=zaa ((Below.refl W.heap.size W).alloc (Nat.le_refl _) (.cells #[.int .u8 (x.op:Int),.int .i64 x.a,.int .i64 x.b,.int .i64 x.c] 78))
 go_enter Tryz.func111,Tryz.ntmps111
 go_wp2_with fail
 generalize W.alloc _=w0 at *
 rcases(by omega:(zaj zaR x.op).length=0∨(zaj zaR x.op).length=1∨(zaj zaR x.op).length=2∨(zaj zaR x.op).length=3) with hn|hn|hn|hn
 ·rw[hn] at hOs hT hops
  have HT:=zaa hT
  have k1: ¬9223372036854775807<S.size+1:=by omega
  clear hT hops hn hnum h3
  refine(HO.out w0).mono ?_
  rintro e w1 ⟨rfl,hb⟩
  have HBn:=zaa (btZ HB.out hb)
  have HXn:=zaa (bkZ hb HX.out)
  clear HB HX hb
  have HB:=HBn
  have HX:=HXn
  clear HBn HXn
  have c0:=cell_of_row _ _ 0 _ _ _ HX.out
  have c1:=cell_of_row _ _ 1 _ _ _ HX.out
  have c2:=cell_of_row _ _ 2 _ _ _ HX.out
  have c3:=cell_of_row _ _ 3 _ _ _ HX.out
  go_wp2_with fail
  clear c0 c1 c2 c3
  refine(HW.out w1).mono ?_
  rintro e w2 ⟨rfl,hb⟩
  have HBn:=zaa (btZ HB.out hb)
  have HXn:=zaa (bkZ hb HX.out)
  clear HB HX hb
  have HB:=HBn
  have HX:=HXn
  clear HBn HXn
  have c0:=cell_of_row _ _ 0 _ _ _ HX.out
  have c1:=cell_of_row _ _ 1 _ _ _ HX.out
  have c2:=cell_of_row _ _ 2 _ _ _ HX.out
  have c3:=cell_of_row _ _ 3 _ _ _ HX.out
  go_wp2_with fail
  clear c0 c1 c2 c3
  go_ret
  refine⟨congrArg (fun s=>Ending.returned (Value.string s)) ?_,HB.out⟩
  apply ByteArray.ext
  apply Array.toList_inj.1
  rw[ByteArray.data_append,Array.toList_append,HSt.out,HT.out]
  simp[za4]
 ·rw[hn] at hOs hT hops
  have HT:=zaa hT
  have n0:=hnum x.a (by rw[hops];simp)
  have d0:=zb1 n0
  have HD0:=zaa (fun V=>zdw x.a n0 V)
  obtain⟨D0,e0⟩: ∃D:ByteArray,(⟨(Lib.itoa x.a).toArray⟩:ByteArray)=D:=⟨_,rfl⟩
  have s0:D0.size≤10:=by rw[←e0];simpa [ByteArray.size] using d0
  have t0:=zaa (show D0.data.toList=Lib.itoa x.a by rw[←e0])
  rw[e0] at HD0
  have k1: ¬9223372036854775807<S.size+1:=by omega
  have k2: ¬9223372036854775807<S.size+1+D0.size:=by omega
  have k3: ¬9223372036854775807<S.size+1+D0.size+1:=by omega
  clear hT hops hn hnum h3 n0 d0 e0
  refine(HO.out w0).mono ?_
  rintro e w1 ⟨rfl,hb⟩
  have HBn:=zaa (btZ HB.out hb)
  have HXn:=zaa (bkZ hb HX.out)
  clear HB HX hb
  have HB:=HBn
  have HX:=HXn
  clear HBn HXn
  have c0:=cell_of_row _ _ 0 _ _ _ HX.out
  have c1:=cell_of_row _ _ 1 _ _ _ HX.out
  have c2:=cell_of_row _ _ 2 _ _ _ HX.out
  have c3:=cell_of_row _ _ 3 _ _ _ HX.out
  go_wp2_with fail
  clear c0 c1 c2 c3
  refine(HW.out w1).mono ?_
  rintro e w2 ⟨rfl,hb⟩
  have HBn:=zaa (btZ HB.out hb)
  have HXn:=zaa (bkZ hb HX.out)
  clear HB HX hb
  have HB:=HBn
  have HX:=HXn
  clear HBn HXn
  have c0:=cell_of_row _ _ 0 _ _ _ HX.out
  have c1:=cell_of_row _ _ 1 _ _ _ HX.out
  have c2:=cell_of_row _ _ 2 _ _ _ HX.out
  have c3:=cell_of_row _ _ 3 _ _ _ HX.out
  go_wp2_with fail
  clear c0 c1 c2 c3
  refine(HD0.out w2).mono ?_
  rintro e w3 ⟨rfl,hb⟩
  have HBn:=zaa (btZ HB.out hb)
  have HXn:=zaa (bkZ hb HX.out)
  clear HB HX hb
  have HB:=HBn
  have HX:=HXn
  clear HBn HXn
  have c0:=cell_of_row _ _ 0 _ _ _ HX.out
  have c1:=cell_of_row _ _ 1 _ _ _ HX.out
  have c2:=cell_of_row _ _ 2 _ _ _ HX.out
  have c3:=cell_of_row _ _ 3 _ _ _ HX.out
  go_wp2_with fail
  clear c0 c1 c2 c3
  go_ret
  refine⟨congrArg (fun s=>Ending.returned (Value.string s)) ?_,HB.out⟩
  apply ByteArray.ext
  apply Array.toList_inj.1
  simp only[ByteArray.data_append,Array.toList_append]
  rw[HSt.out,HT.out,t0.out]
  simp[za4,opT]
 ·rw[hn] at hOs hT hops
  have HT:=zaa hT
  have n0:=hnum x.a (by rw[hops];simp)
  have n1:=hnum x.b (by rw[hops];simp)
  have d0:=zb1 n0
  have d1:=zb1 n1
  have HD0:=zaa (fun V=>zdw x.a n0 V)
  have HD1:=zaa (fun V=>zdw x.b n1 V)
  obtain⟨D0,e0⟩: ∃D:ByteArray,(⟨(Lib.itoa x.a).toArray⟩:ByteArray)=D:=⟨_,rfl⟩
  obtain⟨D1,e1⟩: ∃D:ByteArray,(⟨(Lib.itoa x.b).toArray⟩:ByteArray)=D:=⟨_,rfl⟩
  have s0:D0.size≤10:=by rw[←e0];simpa [ByteArray.size] using d0
  have s1:D1.size≤10:=by rw[←e1];simpa [ByteArray.size] using d1
  have t0:=zaa (show D0.data.toList=Lib.itoa x.a by rw[←e0])
  have t1:=zaa (show D1.data.toList=Lib.itoa x.b by rw[←e1])
  rw[e0] at HD0
  rw[e1] at HD1
  have k1: ¬9223372036854775807<S.size+1:=by omega
  have k2: ¬9223372036854775807<S.size+1+D0.size:=by omega
  have k3: ¬9223372036854775807<S.size+1+D0.size+1:=by omega
  have k4: ¬9223372036854775807<S.size+1+D0.size+1+D1.size:=by omega
  have k5: ¬9223372036854775807<S.size+1+D0.size+1+D1.size+1:=by omega
  clear hT hops hn hnum h3 n0 d0 e0 n1 d1 e1
  refine(HO.out w0).mono ?_
  rintro e w1 ⟨rfl,hb⟩
  have HBn:=zaa (btZ HB.out hb)
  have HXn:=zaa (bkZ hb HX.out)
  clear HB HX hb
  have HB:=HBn
  have HX:=HXn
  clear HBn HXn
  have c0:=cell_of_row _ _ 0 _ _ _ HX.out
  have c1:=cell_of_row _ _ 1 _ _ _ HX.out
  have c2:=cell_of_row _ _ 2 _ _ _ HX.out
  have c3:=cell_of_row _ _ 3 _ _ _ HX.out
  go_wp2_with fail
  clear c0 c1 c2 c3
  refine(HW.out w1).mono ?_
  rintro e w2 ⟨rfl,hb⟩
  have HBn:=zaa (btZ HB.out hb)
  have HXn:=zaa (bkZ hb HX.out)
  clear HB HX hb
  have HB:=HBn
  have HX:=HXn
  clear HBn HXn
  have c0:=cell_of_row _ _ 0 _ _ _ HX.out
  have c1:=cell_of_row _ _ 1 _ _ _ HX.out
  have c2:=cell_of_row _ _ 2 _ _ _ HX.out
  have c3:=cell_of_row _ _ 3 _ _ _ HX.out
  go_wp2_with fail
  clear c0 c1 c2 c3
  refine(HD0.out w2).mono ?_
  rintro e w3 ⟨rfl,hb⟩
  have HBn:=zaa (btZ HB.out hb)
  have HXn:=zaa (bkZ hb HX.out)
  clear HB HX hb
  have HB:=HBn
  have HX:=HXn
  clear HBn HXn
  have c0:=cell_of_row _ _ 0 _ _ _ HX.out
  have c1:=cell_of_row _ _ 1 _ _ _ HX.out
  have c2:=cell_of_row _ _ 2 _ _ _ HX.out
  have c3:=cell_of_row _ _ 3 _ _ _ HX.out
  go_wp2_with fail
  clear c0 c1 c2 c3
  refine(HD1.out w3).mono ?_
  rintro e w4 ⟨rfl,hb⟩
  have HBn:=zaa (btZ HB.out hb)
  have HXn:=zaa (bkZ hb HX.out)
  clear HB HX hb
  have HB:=HBn
  have HX:=HXn
  clear HBn HXn
  have c0:=cell_of_row _ _ 0 _ _ _ HX.out
  have c1:=cell_of_row _ _ 1 _ _ _ HX.out
  have c2:=cell_of_row _ _ 2 _ _ _ HX.out
  have c3:=cell_of_row _ _ 3 _ _ _ HX.out
  go_wp2_with fail
  clear c0 c1 c2 c3
  go_ret
  refine⟨congrArg (fun s=>Ending.returned (Value.string s)) ?_,HB.out⟩
  apply ByteArray.ext
  apply Array.toList_inj.1
  simp only[ByteArray.data_append,Array.toList_append]
  rw[HSt.out,HT.out,t0.out,t1.out]
  simp[za4,opT]
 ·rw[hn] at hOs hT hops
  have HT:=zaa hT
  have n0:=hnum x.a (by rw[hops];simp)
  have n1:=hnum x.b (by rw[hops];simp)
  have n2:=hnum x.c (by rw[hops];simp)
  have d0:=zb1 n0
  have d1:=zb1 n1
  have d2:=zb1 n2
  have HD0:=zaa (fun V=>zdw x.a n0 V)
  have HD1:=zaa (fun V=>zdw x.b n1 V)
  have HD2:=zaa (fun V=>zdw x.c n2 V)
  obtain⟨D0,e0⟩: ∃D:ByteArray,(⟨(Lib.itoa x.a).toArray⟩:ByteArray)=D:=⟨_,rfl⟩
  obtain⟨D1,e1⟩: ∃D:ByteArray,(⟨(Lib.itoa x.b).toArray⟩:ByteArray)=D:=⟨_,rfl⟩
  obtain⟨D2,e2⟩: ∃D:ByteArray,(⟨(Lib.itoa x.c).toArray⟩:ByteArray)=D:=⟨_,rfl⟩
  have s0:D0.size≤10:=by rw[←e0];simpa [ByteArray.size] using d0
  have s1:D1.size≤10:=by rw[←e1];simpa [ByteArray.size] using d1
  have s2:D2.size≤10:=by rw[←e2];simpa [ByteArray.size] using d2
  have t0:=zaa (show D0.data.toList=Lib.itoa x.a by rw[←e0])
  have t1:=zaa (show D1.data.toList=Lib.itoa x.b by rw[←e1])
  have t2:=zaa (show D2.data.toList=Lib.itoa x.c by rw[←e2])
  rw[e0] at HD0
  rw[e1] at HD1
  rw[e2] at HD2
  have k1: ¬9223372036854775807<S.size+1:=by omega
  have k2: ¬9223372036854775807<S.size+1+D0.size:=by omega
  have k3: ¬9223372036854775807<S.size+1+D0.size+1:=by omega
  have k4: ¬9223372036854775807<S.size+1+D0.size+1+D1.size:=by omega
  have k5: ¬9223372036854775807<S.size+1+D0.size+1+D1.size+1:=by omega
  have k6: ¬9223372036854775807<S.size+1+D0.size+1+D1.size+1+D2.size:=by omega
  have k7: ¬9223372036854775807<S.size+1+D0.size+1+D1.size+1+D2.size+1:=by omega
  clear hT hops hn hnum h3 n0 d0 e0 n1 d1 e1 n2 d2 e2
  refine(HO.out w0).mono ?_
  rintro e w1 ⟨rfl,hb⟩
  have HBn:=zaa (btZ HB.out hb)
  have HXn:=zaa (bkZ hb HX.out)
  clear HB HX hb
  have HB:=HBn
  have HX:=HXn
  clear HBn HXn
  have c0:=cell_of_row _ _ 0 _ _ _ HX.out
  have c1:=cell_of_row _ _ 1 _ _ _ HX.out
  have c2:=cell_of_row _ _ 2 _ _ _ HX.out
  have c3:=cell_of_row _ _ 3 _ _ _ HX.out
  go_wp2_with fail
  clear c0 c1 c2 c3
  refine(HW.out w1).mono ?_
  rintro e w2 ⟨rfl,hb⟩
  have HBn:=zaa (btZ HB.out hb)
  have HXn:=zaa (bkZ hb HX.out)
  clear HB HX hb
  have HB:=HBn
  have HX:=HXn
  clear HBn HXn
  have c0:=cell_of_row _ _ 0 _ _ _ HX.out
  have c1:=cell_of_row _ _ 1 _ _ _ HX.out
  have c2:=cell_of_row _ _ 2 _ _ _ HX.out
  have c3:=cell_of_row _ _ 3 _ _ _ HX.out
  go_wp2_with fail
  clear c0 c1 c2 c3
  refine(HD0.out w2).mono ?_
  rintro e w3 ⟨rfl,hb⟩
  have HBn:=zaa (btZ HB.out hb)
  have HXn:=zaa (bkZ hb HX.out)
  clear HB HX hb
  have HB:=HBn
  have HX:=HXn
  clear HBn HXn
  have c0:=cell_of_row _ _ 0 _ _ _ HX.out
  have c1:=cell_of_row _ _ 1 _ _ _ HX.out
  have c2:=cell_of_row _ _ 2 _ _ _ HX.out
  have c3:=cell_of_row _ _ 3 _ _ _ HX.out
  go_wp2_with fail
  clear c0 c1 c2 c3
  refine(HD1.out w3).mono ?_
  rintro e w4 ⟨rfl,hb⟩
  have HBn:=zaa (btZ HB.out hb)
  have HXn:=zaa (bkZ hb HX.out)
  clear HB HX hb
  have HB:=HBn
  have HX:=HXn
  clear HBn HXn
  have c0:=cell_of_row _ _ 0 _ _ _ HX.out
  have c1:=cell_of_row _ _ 1 _ _ _ HX.out
  have c2:=cell_of_row _ _ 2 _ _ _ HX.out
  have c3:=cell_of_row _ _ 3 _ _ _ HX.out
  go_wp2_with fail
  clear c0 c1 c2 c3
  refine(HD2.out w4).mono ?_
  rintro e w5 ⟨rfl,hb⟩
  have HBn:=zaa (btZ HB.out hb)
  have HXn:=zaa (bkZ hb HX.out)
  clear HB HX hb
  have HB:=HBn
  have HX:=HXn
  clear HBn HXn
  have c0:=cell_of_row _ _ 0 _ _ _ HX.out
  have c1:=cell_of_row _ _ 1 _ _ _ HX.out
  have c2:=cell_of_row _ _ 2 _ _ _ HX.out
  have c3:=cell_of_row _ _ 3 _ _ _ HX.out
  go_wp2_with fail
  clear c0 c1 c2 c3
  go_ret
  refine⟨congrArg (fun s=>Ending.returned (Value.string s)) ?_,HB.out⟩
  apply ByteArray.ext
  apply Array.toList_inj.1
  simp only[ByteArray.data_append,Array.toList_append]
  rw[HSt.out,HT.out,t0.out,t1.out,t2.out]
  simp[za4,opT]
end Go.Proofs.YtgbfaompondolaaGreatDoor
namespace Go.Proofs.YtgbfaompondolaaGreatDoor
open Go.RowKit
attribute [local go_sem] zal.cell
theorem zlk {n:Int} (h:zc6 n=true):zbQ n=true:=by
 simp[zc6] at h
 subst h
 decide
theorem zkZ {x:zbU} (h:zed x=true):[x.a,x.b,x.c].all zbQ=true:=by
 simp only[zed,Bool.and_eq_true] at h
 have e:=List.take_append_drop (zaj zaR x.op).length [x.a,x.b,x.c]
 rw[←e,List.all_append,Bool.and_eq_true]
 exact⟨h.2.1,List.all_eq_true.2 (fun z hz=>zlk (List.all_eq_true.1 h.2.2 z hz))⟩
theorem eq0 (n:Int):((n==0)=true∧zc6 n=true)∨((n==0)=false∧zc6 n=false):=by
 by_cases h:n=0
 ·exact .inl ⟨by simp[h],by simp[zc6,h]⟩
 ·exact .inr ⟨by simp[h],by simp[zc6,h]⟩
theorem zkS (x:zbU) (hop:x.op≤255) (W:World):
 Calls Tryz.prog 110 #[.agg #[.int .u8 (x.op:Int),.int .i64 x.a,.int .i64 x.b,.int .i64 x.c]] W fun e w'=>e= .returned (.bool (zed x))∧Below W.heap.size W w':=by
 have h3:=zdj x.op hop
 have HO:=zaa (fun V=>zg3 x.op hop V)
 have HW:=zaa (fun V=>zf3 x.op hop V)
 obtain⟨O,hO⟩: ∃O:ByteArray,(⟨(zaj zaR x.op).toArray⟩:ByteArray)=O:=⟨_,rfl⟩
 have hOs:O.size=(zaj zaR x.op).length:=by rw[←hO];simp[ByteArray.size]
 rw[hO] at HO
 have hI:zed x=((zaj zaD x.op != [])&&(([x.a,x.b,x.c].take (zaj zaR x.op).length).all zbQ&&([x.a,x.b,x.c].drop (zaj zaR x.op).length).all zc6)):=rfl
 have hw:=zc9 (zaj zaD x.op)
 have HNO:=zaa (fun h:[x.a,x.b,x.c].all zbQ=false=>show zed x=false by
  cases hf:zed x with
  |false=>rfl
  |true=>rw[zkZ hf] at h;cases h)
 generalize(zaj zaD x.op != [])=z0 at *
 generalize hS:(⟨(zaj zaD x.op).toArray⟩:ByteArray)=S at *
 clear hO hS
 have HX:=zaa (heap_alloc_new W (.cells #[.int .u8 (x.op:Int),.int .i64 x.a,.int .i64 x.b,.int .i64 x.c] 78))
 have HB:=zaa ((Below.refl W.heap.size W).alloc (Nat.le_refl _) (.cells #[.int .u8 (x.op:Int),.int .i64 x.a,.int .i64 x.b,.int .i64 x.c] 78))
 go_enter Tryz.func110,Tryz.ntmps110
 go_wp2_with fail
 generalize W.alloc _=w0 at *
 refine(HO.out w0).mono ?_
 rintro e w1 ⟨rfl,hb⟩
 have HBn:=zaa (btZ HB.out hb)
 have HXn:=zaa (bkZ hb HX.out)
 clear HB HX hb
 have HB:=HBn
 have HX:=HXn
 clear HBn HXn
 have HI:=zaa hI
 clear hI
 rcases hw with⟨hw,hz⟩|⟨hw,hz⟩
 ·subst hz
  rw[hw] at HW
  clear hw hOs h3
  have c0:=cell_of_row _ _ 0 _ _ _ HX.out
  have c1:=cell_of_row _ _ 1 _ _ _ HX.out
  have c2:=cell_of_row _ _ 2 _ _ _ HX.out
  have c3:=cell_of_row _ _ 3 _ _ _ HX.out
  go_wp2_with fail
  clear c0 c1 c2 c3
  refine(HW.out w1).mono ?_
  rintro e w2 ⟨rfl,hb⟩
  have HBn:=zaa (btZ HB.out hb)
  have HXn:=zaa (bkZ hb HX.out)
  clear HB HX hb
  have HB:=HBn
  have HX:=HXn
  clear HBn HXn
  have c0:=cell_of_row _ _ 0 _ _ _ HX.out
  have c1:=cell_of_row _ _ 1 _ _ _ HX.out
  have c2:=cell_of_row _ _ 2 _ _ _ HX.out
  have c3:=cell_of_row _ _ 3 _ _ _ HX.out
  go_wp2_with fail
  clear c0 c1 c2 c3
  go_ret
  exact⟨by rw[HI.out];rfl,HB.out⟩
 subst hz
 have c0:=cell_of_row _ _ 0 _ _ _ HX.out
 have c1:=cell_of_row _ _ 1 _ _ _ HX.out
 have c2:=cell_of_row _ _ 2 _ _ _ HX.out
 have c3:=cell_of_row _ _ 3 _ _ _ HX.out
 go_wp2_with fail
 clear c0 c1 c2 c3
 refine(HW.out w1).mono ?_
 rintro e w2 ⟨rfl,hb⟩
 have HBn:=zaa (btZ HB.out hb)
 have HXn:=zaa (bkZ hb HX.out)
 clear HB HX hb
 have HB:=HBn
 have HX:=HXn
 clear HBn HXn
 have c0:=cell_of_row _ _ 0 _ _ _ HX.out
 have c1:=cell_of_row _ _ 1 _ _ _ HX.out
 have c2:=cell_of_row _ _ 2 _ _ _ HX.out
 have c3:=cell_of_row _ _ 3 _ _ _ HX.out
 go_wp2_with fail
 clear c0 c1 c2 c3
 have HBa:=zaa (HB.out.alloc HB.out.size (.cells #[.int .i64 x.a,.int .i64 x.b,.int .i64 x.c] 3))
 have HXa:=zaa ((Below.heap_alloc w2 (.cells #[.int .i64 x.a,.int .i64 x.b,.int .i64 x.c] 3) _ (zaJ HX.out)).trans HX.out)
 have HC:=zaa (zio (.slice (some ⟨w2.heap.size,0,none⟩) 3 3) [x.a,x.b,x.c] (w2.alloc (.cells #[.int .i64 x.a,.int .i64 x.b,.int .i64 x.c] 3)) (zaa (zb4 w2 [x.a,x.b,x.c] 3)) (by simp))
 clear HX HB
 have HX:=HXa
 have HB:=HBa
 clear HXa HBa
 cases hal:[x.a,x.b,x.c].all zbQ with
 |false=>
  have HNI:=zaa (HNO.out hal)
  rw[hal] at HC
  clear hal HNO HI hOs h3
  refine HC.out.mono ?_
  rintro e w3 ⟨rfl,hb⟩
  have HBn:=zaa (btZ HB.out hb)
  have HXn:=zaa (bkZ hb HX.out)
  clear HB HX hb
  have HB:=HBn
  have HX:=HXn
  clear HBn HXn
  have c0:=cell_of_row _ _ 0 _ _ _ HX.out
  have c1:=cell_of_row _ _ 1 _ _ _ HX.out
  have c2:=cell_of_row _ _ 2 _ _ _ HX.out
  have c3:=cell_of_row _ _ 3 _ _ _ HX.out
  go_wp2_with fail
  clear c0 c1 c2 c3
  go_ret
  exact⟨by rw[HNI.out];rfl,HB.out⟩
 |true=>
  have HA:=zaa (show zbQ x.a=true∧zbQ x.b=true∧zbQ x.c=true by simpa using hal)
  rw[hal] at HC
  clear hal HNO
  refine HC.out.mono ?_
  rintro e w3 ⟨rfl,hb⟩
  have HBn:=zaa (btZ HB.out hb)
  have HXn:=zaa (bkZ hb HX.out)
  clear HB HX hb
  have HB:=HBn
  have HX:=HXn
  clear HBn HXn
  rcases(by omega:(zaj zaR x.op).length=0∨(zaj zaR x.op).length=1∨(zaj zaR x.op).length=2∨(zaj zaR x.op).length=3) with hn|hn|hn|hn
  ·rw[hn] at hOs HI
   clear h3
   rcases eq0 x.a with⟨ea,fa⟩|⟨ea,fa⟩
   ·rcases eq0 x.b with⟨eb,fb⟩|⟨eb,fb⟩
    ·rcases eq0 x.c with⟨ec,fc⟩|⟨ec,fc⟩
     ·skip
      have c0:=cell_of_row _ _ 0 _ _ _ HX.out
      have c1:=cell_of_row _ _ 1 _ _ _ HX.out
      have c2:=cell_of_row _ _ 2 _ _ _ HX.out
      have c3:=cell_of_row _ _ 3 _ _ _ HX.out
      go_wp2_with fail
      clear c0 c1 c2 c3
      go_ret
      exact⟨by rw[HI.out];have:=HA.out;simp[*],HB.out⟩
     ·skip
      have c0:=cell_of_row _ _ 0 _ _ _ HX.out
      have c1:=cell_of_row _ _ 1 _ _ _ HX.out
      have c2:=cell_of_row _ _ 2 _ _ _ HX.out
      have c3:=cell_of_row _ _ 3 _ _ _ HX.out
      go_wp2_with fail
      clear c0 c1 c2 c3
      go_ret
      exact⟨by rw[HI.out];have:=HA.out;simp[*],HB.out⟩
    ·skip
     have c0:=cell_of_row _ _ 0 _ _ _ HX.out
     have c1:=cell_of_row _ _ 1 _ _ _ HX.out
     have c2:=cell_of_row _ _ 2 _ _ _ HX.out
     have c3:=cell_of_row _ _ 3 _ _ _ HX.out
     go_wp2_with fail
     clear c0 c1 c2 c3
     go_ret
     exact⟨by rw[HI.out];have:=HA.out;simp[*],HB.out⟩
   ·skip
    have c0:=cell_of_row _ _ 0 _ _ _ HX.out
    have c1:=cell_of_row _ _ 1 _ _ _ HX.out
    have c2:=cell_of_row _ _ 2 _ _ _ HX.out
    have c3:=cell_of_row _ _ 3 _ _ _ HX.out
    go_wp2_with fail
    clear c0 c1 c2 c3
    go_ret
    exact⟨by rw[HI.out];have:=HA.out;simp[*],HB.out⟩
  ·rw[hn] at hOs HI
   clear h3
   rcases eq0 x.b with⟨eb,fb⟩|⟨eb,fb⟩
   ·rcases eq0 x.c with⟨ec,fc⟩|⟨ec,fc⟩
    ·skip
     have c0:=cell_of_row _ _ 0 _ _ _ HX.out
     have c1:=cell_of_row _ _ 1 _ _ _ HX.out
     have c2:=cell_of_row _ _ 2 _ _ _ HX.out
     have c3:=cell_of_row _ _ 3 _ _ _ HX.out
     go_wp2_with fail
     clear c0 c1 c2 c3
     go_ret
     exact⟨by rw[HI.out];have:=HA.out;simp[*],HB.out⟩
    ·skip
     have c0:=cell_of_row _ _ 0 _ _ _ HX.out
     have c1:=cell_of_row _ _ 1 _ _ _ HX.out
     have c2:=cell_of_row _ _ 2 _ _ _ HX.out
     have c3:=cell_of_row _ _ 3 _ _ _ HX.out
     go_wp2_with fail
     clear c0 c1 c2 c3
     go_ret
     exact⟨by rw[HI.out];have:=HA.out;simp[*],HB.out⟩
   ·skip
    have c0:=cell_of_row _ _ 0 _ _ _ HX.out
    have c1:=cell_of_row _ _ 1 _ _ _ HX.out
    have c2:=cell_of_row _ _ 2 _ _ _ HX.out
    have c3:=cell_of_row _ _ 3 _ _ _ HX.out
    go_wp2_with fail
    clear c0 c1 c2 c3
    go_ret
    exact⟨by rw[HI.out];have:=HA.out;simp[*],HB.out⟩
  ·rw[hn] at hOs HI
   clear h3
   rcases eq0 x.c with⟨ec,fc⟩|⟨ec,fc⟩
   ·skip
    have c0:=cell_of_row _ _ 0 _ _ _ HX.out
    have c1:=cell_of_row _ _ 1 _ _ _ HX.out
    have c2:=cell_of_row _ _ 2 _ _ _ HX.out
    have c3:=cell_of_row _ _ 3 _ _ _ HX.out
    go_wp2_with fail
    clear c0 c1 c2 c3
    go_ret
    exact⟨by rw[HI.out];have:=HA.out;simp[*],HB.out⟩
   ·skip
    have c0:=cell_of_row _ _ 0 _ _ _ HX.out
    have c1:=cell_of_row _ _ 1 _ _ _ HX.out
    have c2:=cell_of_row _ _ 2 _ _ _ HX.out
    have c3:=cell_of_row _ _ 3 _ _ _ HX.out
    go_wp2_with fail
    clear c0 c1 c2 c3
    go_ret
    exact⟨by rw[HI.out];have:=HA.out;simp[*],HB.out⟩
  ·rw[hn] at hOs HI
   clear h3
   have c0:=cell_of_row _ _ 0 _ _ _ HX.out
   have c1:=cell_of_row _ _ 1 _ _ _ HX.out
   have c2:=cell_of_row _ _ 2 _ _ _ HX.out
   have c3:=cell_of_row _ _ 3 _ _ _ HX.out
   go_wp2_with fail
   clear c0 c1 c2 c3
   go_ret
   exact⟨by rw[HI.out];have:=HA.out;simp[*],HB.out⟩
theorem zi4 {α:Type} (f:α→List UInt8) (l:List α) (k:Nat) (x:α) (h:l[k]? =some x):Lib.join ((l.take (k+1)).map f) [32]=Lib.join ((l.take k).map f) [32]++(if k=0 then[] else[32])++f x:=by
 cases l with
 |nil=>simp at h
 |cons a l=>
  cases k with
  |zero=>
   simp only[List.getElem?_cons_zero,Option.some.injEq] at h
   subst h
   simp[Lib.join_nil,Lib.join_one]
  |succ k=>
   simp only[List.getElem?_cons_succ] at h
   rw[List.take_succ_cons,List.take_succ_cons,List.map_cons,List.map_cons,Lib.join_cons,Lib.join_cons,List.map_take,List.map_take,Lib.joinTail_take_succ [32] (l.map f) k (f x) (by rw[List.getElem?_map,h];rfl)]
   simp
end Go.Proofs.YtgbfaompondolaaGreatDoor
namespace Go.Proofs.YtgbfaompondolaaGreatDoor
open Go.RowKit
attribute [local go_sem] zal.cell
theorem zk7 {l:List zbU} {k:Nat} {x:zbU} (h:l[k]? =some x) (hF:zed x=false):codeE l= .tuple #[.string ⟨#[]⟩,.int .i64 2]:=by
 unfold codeE
 rw[if_neg (by rw[za3 h hF];decide)]
theorem zm1 (v:Value) (l:List zbU) (W:World) (hv:Hid (DAt W (fun _=>True) v (.row 4 (l.map zbU.cells)))) (hop: ∀x∈l,x.op≤255) (hn:l.length≤1000000):
 Calls Tryz.prog 23 #[v] W fun e w'=>e= .returned (codeE l)∧Below W.heap.size W w':=by
 obtain⟨A,c,rfl,hA⟩:=hv.out.slice
 have HA:=zaa hA
 clear hA hv
 rw[List.length_map]
 go_enter Tryz.func23,Tryz.ntmps23
 go_wp2_with fail
 go_loopw [4,5] (fun v4 v5 wr=> ∃(k:Nat) (S:ByteArray),k≤l.length∧v5= .int .i64 k∧v4= .string S∧S.data.toList=Lib.join ((l.take k).map zex) [32]∧S.size≤51*k∧(l.take k).all zed=true∧Below W.heap.size W wr) (fun _ v5 _=>l.length-(intOf v5).toNat)
 case atStart=>exact⟨0,_,by omega,rfl,rfl,by simp[Lib.join_nil],by decide,by simp,Below.refl _ _⟩
 case round=>
  obtain⟨k,S,hk,rfl,rfl,hS,hsz,ht,hbr⟩:=hrel
  have HS:=zaa hS
  have HT:=zaa ht
  have HBR:=zaa hbr
  clear hS ht hbr
  by_cases hlt:k<l.length
  rotate_left
  ·obtain rfl:k=l.length:=by omega
   rw[List.take_length] at HS HT
   have hE:codeE l=zdC S:=by
    unfold codeE
    rw[if_pos HT.out]
    congr 1
    apply ByteArray.ext
    apply Array.toList_inj.1
    rw[HS.out]
    rfl
   have HE:=zaa hE
   clear hE hlt
   by_cases h:65536<S.size
   ·have h1:(65536:Int)<(S.size:Int):=by omega
    have HX:=zaa (HE.out.trans (show zdC S= .tuple #[.string ⟨#[]⟩,.int .i64 3] from if_pos h))
    clear h
    go_wp2_with fail
    go_ret2
    exact⟨by rw[HX.out];rfl,HBR.out⟩
   ·have h1: ¬(65536:Int)<(S.size:Int):=by omega
    have HX:=zaa (HE.out.trans (show zdC S= .tuple #[.string S,.int .i64 0] from if_neg h))
    clear h
    go_wp2_with fail
    go_ret2
    exact⟨by rw[HX.out];rfl,HBR.out⟩
  obtain⟨x,hx⟩:=za9 hlt
  obtain⟨b,off,rfl,hb,hca⟩:=HA.out.at_ hx
  obtain⟨u0,c0,g0⟩:=hca 0 _ rfl
  obtain⟨u1,c1,g1⟩:=hca 1 _ rfl
  obtain⟨u2,c2,g2⟩:=hca 2 _ rfl
  obtain⟨u3,c3,g3⟩:=hca 3 _ rfl
  clear hca
  obtain rfl:=g0.leaf_eq
  obtain rfl:=g1.leaf_eq
  obtain rfl:=g2.leaf_eq
  obtain rfl:=g3.leaf_eq
  have HC0:=zaa c0
  have HC1:=zaa c1
  have HC2:=zaa c2
  have HC3:=zaa c3
  have c0:=zbH HBR.out hb HC0.out
  have c1:=zat HBR.out hb HC1.out
  have c2:=zat HBR.out hb HC2.out
  have c3:=zat HBR.out hb HC3.out
  have k0:=kbZ k l.length
  have hopx:=hop x (List.mem_of_getElem? hx)
  have HX:=zaa hx
  have HI:=zaa (zkS x hopx wr)
  clear hx
  go_wp2_with fail
  clear c0 c1 c2 c3
  cases hF:zed x with
  |false=>
   have HN:=zaa (zk7 HX.out hF)
   rw[hF] at HI
   clear hF
   refine HI.out.mono ?_
   rintro e w1 ⟨rfl,hb1⟩
   have HB1:=zaa (btZ HBR.out hb1)
   clear hb1 HI
   go_wp2_with fail
   go_ret2
   exact⟨by rw[HN.out];rfl,HB1.out⟩
  |true=>
   have HFx:=zaa hF
   have hln:=zeF hF
   have HTK:=zaa (zbb HT.out HX.out hF)
   rw[hF] at HI
   clear hF
   refine HI.out.mono ?_
   rintro e w1 ⟨rfl,hb1⟩
   have HB1:=zaa (btZ HBR.out hb1)
   clear hb1 HI
   have c0:=zbH HB1.out hb HC0.out
   have c1:=zat HB1.out hb HC1.out
   have c2:=zat HB1.out hb HC2.out
   have c3:=zat HB1.out hb HC3.out
   have HL:=zaa (zjB x hopx w1 HFx.out)
   have HJ:=zaa (zi4 zex l k x HX.out)
   by_cases hk0:k=0
   ·subst hk0
    have hs1: ¬9223372036854775807<S.size+(zex x).length:=by omega
    simp only[Nat.zero_mul,Nat.add_zero] at c0 c1 c2 c3
    go_wp2_with fail
    clear c0 c1 c2 c3
    refine HL.out.mono ?_
    rintro e w2 ⟨rfl,hb2⟩
    have HB2:=zaa (btZ HB1.out hb2)
    clear hb2 HL
    go_wp2_with fail
    go_roundw
    case rel=>exact⟨1,_,by omega,by go_num,rfl,by rw[ByteArray.data_append,Array.toList_append,HS.out,show(1:Nat)=0+1 from rfl,HJ.out];simp,by rw[ByteArray.size_append];show _+(zex x).length≤_;omega,HTK.out,HB2.out⟩
    case measure=>simp[intOf];omega
   ·have hk1:(0:Int)<(k:Int):=by omega
    have hs0: ¬9223372036854775807<S.size+1:=by omega
    have hs1: ¬9223372036854775807<S.size+1+(zex x).length:=by omega
    go_wp2_with fail
    clear c0 c1 c2 c3
    refine HL.out.mono ?_
    rintro e w2 ⟨rfl,hb2⟩
    have HB2:=zaa (btZ HB1.out hb2)
    clear hb2 HL
    go_wp2_with fail
    go_roundw
    case rel=>exact⟨k+1,_,by omega,by go_num,rfl,by rw[ByteArray.data_append,ByteArray.data_append,Array.toList_append,Array.toList_append,HS.out,HJ.out,if_neg hk0],by rw[ByteArray.size_append,ByteArray.size_append];show _+1+(zex x).length≤_;omega,HTK.out,HB2.out⟩
    case measure=>simp[intOf];omega
end Go.Proofs.YtgbfaompondolaaGreatDoor
