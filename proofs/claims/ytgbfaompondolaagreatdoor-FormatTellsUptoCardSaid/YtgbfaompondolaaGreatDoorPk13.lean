/- Merged texts of the walks and of the plain laws on which the statement leans.-/
import Derived.Test.YtgbfaompondolaaGreatDoorPk1
import Derived.Test.YtgbfaompondolaaGreatDoorPk12
import Derived.Test.YtgbfaompondolaaGreatDoorPk11
set_option maxHeartbeats 4000000
set_option maxRecDepth 100000
namespace Go.Proofs.YtgbfaompondolaaGreatDoor
open Tryz
open Go.RowKit
attribute [local go_sem] zaj.cell
theorem zeo {α:Type} {f:α→List UInt8} {l:List α} {k:Nat} {x:α} (h:l[k]? =some x):zh2 ((l.take (k+1)).map f)=zh2 ((l.take k).map f)++[.string ⟨(f x).toArray⟩]:=by
 rw[List.take_add_one,h];simp[zh2]
theorem zek {w:World} {v:Value} {l:List (List UInt8)} (sep:List UInt8) (h:DAt w (fun _=>True) v (.row 1 (zao l))) (hn:l.length≤140737488355328) (hlen:(Lib.join l sep).length≤140737488355328):
 Calls prog 84 #[v,.string ⟨sep.toArray⟩] w fun e w'=>e= .returned (.string ⟨(Lib.join l sep).toArray⟩)∧Below w.heap.size w w':=by
 obtain⟨A,c,rfl,hr⟩:=h.slice;have hcap:=h.cap;rw[show(zao l).length=l.length by simp[zao]] at hcap ⊢;rcases hr with hr|⟨b,off,rfl,hb,hc⟩
 ·have:l=[]:=by simpa [zao] using hr
  subst this;exact(Tryz.strings_Join_none A c ⟨sep.toArray⟩ w).mono fun e w' ⟨he,hw⟩=>⟨he,hw ▸ Below.refl _ _⟩
 ·have e1:(l.map fun s=>(⟨s.toArray⟩:ByteArray)).map (·.data.toList)=l:=by simp[Function.comp_def]
  have:=Tryz.strings_Join b off c (l.map fun s=>(⟨s.toArray⟩:ByteArray)) ⟨sep.toArray⟩ w (fun j x hx=>by
   rw[List.getElem?_map] at hx;obtain⟨s,hs,rfl⟩:=Option.map_eq_some_iff.1 hx;obtain⟨u,h1,h2⟩:=hc j 0 [lS s] (lS s) (by unfold zao;rw[List.getElem?_map,hs];rfl) rfl;rw[Nat.mul_one,Nat.add_zero] at h1;rw[h1,h2.leaf_eq]
   rfl) hb (by simpa using hn) (by simpa using hcap) (by rw[e1];exact hlen)
  rw[e1,List.length_map] at this;exact this
theorem ze6 {x:zb7} (h:(zdv x).length≤1000000):x.m.length≤1000000∧x.p.length≤1000000∧x.o.length≤1000000:=by
 simp[zdv] at h
 omega
theorem zkK (x:zcu) (W:World) (hl:(zeP x).length≤1000000) (hn: -9223372036854775808≤x.code∧x.code≤9223372036854775807) (_hGB:8≤W.heap.size) (hE:Hid (Env W)):
 Calls prog 141 #[.agg #[.string ⟨x.unit.toArray⟩,.int .i64 x.code]] W fun e w'=>e= .returned (.string ⟨(zeP x).toArray⟩)∧Below W.heap.size W w':=by
 have HB:=zaa ((Below.refl W.heap.size W).alloc (Nat.le_refl _) (.cells #[.string ⟨x.unit.toArray⟩,.int .i64 x.code] 67));have HXb:=zaa (heap_alloc_new W (.cells #[.string ⟨x.unit.toArray⟩,.int .i64 x.code] 67));have hxl:W.heap.size<(W.alloc (.cells #[.string ⟨x.unit.toArray⟩,.int .i64 x.code] 67)).heap.size:=by simp
 have HT:(⟨x.unit.toArray⟩++⟨#[58]⟩++⟨(Lib.itoa x.code).toArray⟩:ByteArray)=⟨(zeP x).toArray⟩:=by
  apply ByteArray.ext;simp[zeP,ByteArray.data_append]
 have hl2:x.unit.length+1+(Lib.itoa x.code).length≤1000000:=by simp[zeP] at hl;omega
 have k1:=smZ (x.unit.length+1);have k2:=smZ (x.unit.length+1+(Lib.itoa x.code).length)
 go_enter func141,ntmps141
 go_wp2_with fail;generalize W.alloc _=w0 at *;have x0:=cell_of_row _ _ 0 _ _ _ HXb.out;have x1:=cell_of_row _ _ 1 _ _ _ HXb.out;refine zak (S:=fun w'=>Below w0.heap.size w0 w') 6 (by kernel_rfl) (by kernel_rfl) (Below.refl _ _).drew (fun hHeld=> ?_);generalize w0.drew=U at *;refine tq 0 3 rfl hHeld ?_
 (try simp only[pu])
 refine tyZ (v:= ?_) 1 4 rfl hHeld (fun v hS=> ?_) ?_;rotate_left
 ·have e0:=zad hS hxl 0 x0
  go_simp
  with_reducible rfl
 refine tq 2 5 rfl hHeld ?_;refine tq 3 6 rfl hHeld ?_
 (try simp only[pu])
 refine tyZ (v:= ?_) 4 7 rfl hHeld (fun v hS=> ?_) ?_;rotate_left
 ·have e0:=zad hS hxl 1 x1
  go_simp
  with_reducible rfl
 (try simp only[pu])
 refine trZ [5] (zaN.cons rfl (fun K hK=> ?_) zaN.nil);go_simp;have HI:=zaa (zdY x.code U (hE.out.kept (btZ HB.out hHeld)) hn.1 hn.2);refine HI.out.mono ?_;rintro e w2 ⟨rfl,hb⟩;have hS:=hHeld.trans (hb.mono hHeld.size);have HB2:=zaa (btZ HB.out hS);clear hb HI hHeld;go_wp2_with fail;refine hK.out _ _ hS (fun hHeld=> ?_);clear hK K hS hHeld
 (try simp only[pu])
 refine zan (by kernel_rfl) ?_;simp only[List.drop_succ_cons,List.drop_zero];go_wp2_with fail;go_ret;exact⟨by rw[←HT];rfl,HB2.out⟩
theorem zgy (v:Value) (l:List zb7) (W:World) (hv:Hid (DAt W (fun _=>True) v (.row 3 (l.map zb7.cells)))) (hlen:(zcL l).length≤1000000):
 Calls prog 135 #[v,.func (.func 134) #[] #[]] W fun e w'=>e= .returned (.string ⟨(zcL l).toArray⟩)∧Below W.heap.size W w':=by
 obtain⟨i0,hi0,hz0,hz1,hz2⟩:=info_parts zcs;have hnl:l.length≤1000001:=by
  have:=ze4 (l.map zdv);rw[List.length_map] at this;have h2:Lib.join (l.map zdv) zcZ=zcL l:=rfl;rw[h2] at this
  omega
 obtain⟨A,c,rfl,hA⟩:=hv.out.slice;have HA:=zaa hA;clear hA hv;rw[List.length_map]
 go_enter func135,ntmps135
 go_wp2_with fail
 go_loopw [5,10] (fun v5 v10 wr=> ∃k:Nat,k≤l.length∧v10= .int .i64 k∧wr.ownsRow W.heap.size 9 1 v5 k (zh2 ((l.take k).map zdv))∧Below W.heap.size W wr) (fun _ v10 _=>l.length-(intOf v10).toNat)
 case atStart=>exact⟨0,by omega,rfl,World.ownsRow_nil _ _ _ _,Below.refl _ _⟩
 case round=>
  obtain⟨k,hk,rfl,ho,hbr⟩:=hrel;have HO:=zaa ho;have HBR:=zaa hbr;clear ho hbr;by_cases hlt:k<l.length
  rotate_left
  ·obtain rfl:k=l.length:=by omega
   rw[List.take_length] at HO;have HJ:=zaa (zek zcZ (zfc HO.out) (by rw[List.length_map];omega) (by show(zcL l).length≤_;omega));clear hlt;go_wp2_with fail;refine HJ.out.mono ?_;rintro e w2 ⟨rfl,hb⟩;have HB2:=zaa (btZ HBR.out hb);clear hb HJ;go_wp2_with fail;go_ret;exact⟨rfl,HB2.out⟩
  obtain⟨x,hx⟩:=zbE hlt;obtain⟨b,off,rfl,hb,hca⟩:=HA.out.at_ hx;have c0:=zad HBR.out hb (off+k*3) (hca 0 _ rfl).leafc;have c1:=zad HBR.out hb (off+k*3+1) (hca 1 _ rfl).leafc;have c2:=zad HBR.out hb (off+k*3+2) (hca 2 _ rfl).leafc;clear hca;simp only[zav] at c0 c1 c2;have k0:=kbZ k l.length;have HX:=zaa hx;have HS:=zaa (zeo (f:=zdv) hx);have hlx:(zdv x).length≤1000000:=Nat.le_trans (zfW (List.mem_map.2 ⟨x,List.mem_of_getElem? hx,rfl⟩)) hlen;clear hx;have HBA:=zaa (HBR.out.alloc HBR.out.size (.cells #[.string ⟨x.m.toArray⟩,.string ⟨x.p.toArray⟩,.string ⟨x.o.toArray⟩] 55));have HBX:=zaa ((Below.refl wr.heap.size wr).alloc (Nat.le_refl _) (.cells #[.string ⟨x.m.toArray⟩,.string ⟨x.p.toArray⟩,.string ⟨x.o.toArray⟩] 55));have r0:=ze6 (x:=x) hlx;go_wp2_with fail;have HC:=zaa (zfN x [.string ⟨x.m.toArray⟩,.string ⟨x.p.toArray⟩,.string ⟨x.o.toArray⟩] (wr.alloc (.cells #[.string ⟨x.m.toArray⟩,.string ⟨x.p.toArray⟩,.string ⟨x.o.toArray⟩] 55)) r0.1 r0.2.1 r0.2.2 (zaa (zab.cons (.leaf _) (zab.cons (.leaf _) (zab.cons (.leaf _) zab.nil)))));refine HC.out.mono ?_;rintro e w3 ⟨rfl,hb3⟩;have HB3:=zaa (btZ HBA.out hb3);have HO3:=zaa (zaJ HO.out (fun g hg hbg=>((btZ HBX.out hb3).block g (zas HO.out hg).2)));have hz3:=HB3.out.size;clear hb3 HC;go_wp2_with(first
   |(at_builtin;refine wpList_append_own _ rfl _ _ 63 rfl W.heap.size 9 i0 (.string ⟨#[]⟩) 1 16 underlying63 hi0 hz0 hz1 hz2 rfl (by decide) _ _ _ rfl (HO3.out.alloc _) ⟨w3.heap.size,0,none⟩ 1 1 [.string ⟨(zdv x).toArray⟩] rfl rfl (zaS (by simp)) (by simp[Value.oneCell']) (by unfold maxLen;omega) (by omega) (by simp;exact Nat.le_succ_of_le hz3) ?_;intro v' w5 hown' hgrow _))
  have HB5:=zaa (HB3.out.trans (Below.grown ((Below.refl _ w3).alloc hz3 _) hgrow (by simp;exact Nat.le_succ_of_le hz3) (fun g hg=>(zas HO3.out hg).1)));have HO5:=zaa hown';clear hown' hgrow;go_wp2_with fail;go_roundw
  case rel=>exact⟨k+1,by omega,by go_num,by rw[HS.out];exact HO5.out,HB5.out⟩
  case measure=>simp[intOf];omega
theorem zja (v:Value) (l:List zcu) (W:World) (hv:Hid (DAt W (fun _=>True) v (.row 2 (l.map zcu.cells)))) (hlen:(zdk l).length≤1000000) (hF:Hid (l.all zf1=true)) (hGB:8≤W.heap.size) (hE:Hid (Env W)):
 Calls prog 140 #[v,.func (.func 141) #[] #[]] W fun e w'=>e= .returned (.string ⟨(zdk l).toArray⟩)∧Below W.heap.size W w':=by
 obtain⟨i0,hi0,hz0,hz1,hz2⟩:=info_parts zcs;have hnl:l.length≤1000001:=by
  have:=ze4 (l.map zeP);rw[List.length_map] at this;have h2:Lib.join (l.map zeP) zcZ=zdk l:=rfl;rw[h2] at this
  omega
 obtain⟨A,c,rfl,hA⟩:=hv.out.slice;have HA:=zaa hA;clear hA hv;rw[List.length_map]
 go_enter func140,ntmps140
 go_wp2_with fail
 go_loopw [5,10] (fun v5 v10 wr=> ∃k:Nat,k≤l.length∧v10= .int .i64 k∧wr.ownsRow W.heap.size 9 1 v5 k (zh2 ((l.take k).map zeP))∧Below W.heap.size W wr) (fun _ v10 _=>l.length-(intOf v10).toNat)
 case atStart=>exact⟨0,by omega,rfl,World.ownsRow_nil _ _ _ _,Below.refl _ _⟩
 case round=>
  obtain⟨k,hk,rfl,ho,hbr⟩:=hrel;have HO:=zaa ho;have HBR:=zaa hbr;clear ho hbr;by_cases hlt:k<l.length
  rotate_left
  ·obtain rfl:k=l.length:=by omega
   rw[List.take_length] at HO;have HJ:=zaa (zek zcZ (zfc HO.out) (by rw[List.length_map];omega) (by show(zdk l).length≤_;omega));clear hlt;go_wp2_with fail;refine HJ.out.mono ?_;rintro e w2 ⟨rfl,hb⟩;have HB2:=zaa (btZ HBR.out hb);clear hb HJ;go_wp2_with fail;go_ret;exact⟨rfl,HB2.out⟩
  obtain⟨x,hx⟩:=zbE hlt;obtain⟨b,off,rfl,hb,hca⟩:=HA.out.at_ hx;have c0:=zad HBR.out hb (off+k*2) (hca 0 _ rfl).leafc;have c1:=zad HBR.out hb (off+k*2+1) (hca 1 _ rfl).leafc;clear hca;simp only[zav] at c0 c1;have k0:=kbZ k l.length;have HX:=zaa hx;have HS:=zaa (zeo (f:=zeP) hx);have hlx:(zeP x).length≤1000000:=Nat.le_trans (zfW (List.mem_map.2 ⟨x,List.mem_of_getElem? hx,rfl⟩)) hlen;clear hx;have HBA:=zaa (HBR.out.alloc HBR.out.size (.cells #[.string ⟨x.unit.toArray⟩,.int .i64 x.code] 67));have HBX:=zaa ((Below.refl wr.heap.size wr).alloc (Nat.le_refl _) (.cells #[.string ⟨x.unit.toArray⟩,.int .i64 x.code] 67));have hnx: -9223372036854775808≤x.code∧x.code≤9223372036854775807:=by
   have:=List.all_eq_true.1 hF.out x (List.mem_of_getElem? HX.out);simp[zf1,zbj] at this
   omega
  go_wp2_with fail;have HC:=zaa (zkK x (wr.alloc (.cells #[.string ⟨x.unit.toArray⟩,.int .i64 x.code] 67)) hlx hnx (Nat.le_trans hGB HBA.out.size) (zaa (hE.out.kept HBA.out)));refine HC.out.mono ?_;rintro e w3 ⟨rfl,hb3⟩;have HB3:=zaa (btZ HBA.out hb3);have HO3:=zaa (zaJ HO.out (fun g hg hbg=>((btZ HBX.out hb3).block g (zas HO.out hg).2)));have hz3:=HB3.out.size;clear hb3 HC;go_wp2_with(first
   |(at_builtin;refine wpList_append_own _ rfl _ _ 63 rfl W.heap.size 9 i0 (.string ⟨#[]⟩) 1 16 underlying63 hi0 hz0 hz1 hz2 rfl (by decide) _ _ _ rfl (HO3.out.alloc _) ⟨w3.heap.size,0,none⟩ 1 1 [.string ⟨(zeP x).toArray⟩] rfl rfl (zaS (by simp)) (by simp[Value.oneCell']) (by unfold maxLen;omega) (by omega) (by simp;exact Nat.le_succ_of_le hz3) ?_;intro v' w5 hown' hgrow _))
  have HB5:=zaa (HB3.out.trans (Below.grown ((Below.refl _ w3).alloc hz3 _) hgrow (by simp;exact Nat.le_succ_of_le hz3) (fun g hg=>(zas HO3.out hg).1)));have HO5:=zaa hown';clear hown' hgrow;go_wp2_with fail;go_roundw
  case rel=>exact⟨k+1,by omega,by go_num,by rw[HS.out];exact HO5.out,HB5.out⟩
  case measure=>simp[intOf];omega
theorem zgC (v:Value) (l:List Int) (W:World) (hv:Hid (DAt W (fun _=>True) v (.row 1 (zah l)))) (hlen:(zcp l).length≤1000000) (hF:Hid (l.all zbj=true)) (_hGB:8≤W.heap.size) (hE:Hid (Env W)):
 Calls prog 208 #[v,.func (.func 142) #[] #[]] W fun e w'=>e= .returned (.string ⟨(zcp l).toArray⟩)∧Below W.heap.size W w':=by
 obtain⟨i0,hi0,hz0,hz1,hz2⟩:=info_parts zcs;have hnl:l.length≤1000001:=by
  have:=ze4 (l.map Lib.itoa);rw[List.length_map] at this;have h2:Lib.join (l.map Lib.itoa) zcZ=zcp l:=rfl;rw[h2] at this
  omega
 obtain⟨A,c,rfl,hA⟩:=hv.out.slice;have HA:=zaa hA;clear hA hv;rw[show(zah l).length=l.length by simp[zah]]
 go_enter func208,ntmps208
 go_wp2_with fail
 go_loopw [5,10] (fun v5 v10 wr=> ∃k:Nat,k≤l.length∧v10= .int .i64 k∧wr.ownsRow W.heap.size 9 1 v5 k (zh2 ((l.take k).map Lib.itoa))∧Below W.heap.size W wr) (fun _ v10 _=>l.length-(intOf v10).toNat)
 case atStart=>exact⟨0,by omega,rfl,World.ownsRow_nil _ _ _ _,Below.refl _ _⟩
 case round=>
  obtain⟨k,hk,rfl,ho,hbr⟩:=hrel;have HO:=zaa ho;have HBR:=zaa hbr;clear ho hbr;by_cases hlt:k<l.length
  rotate_left
  ·obtain rfl:k=l.length:=by omega
   rw[List.take_length] at HO;have HJ:=zaa (zek zcZ (zfc HO.out) (by rw[List.length_map];omega) (by show(zcp l).length≤_;omega));clear hlt;go_wp2_with fail;refine HJ.out.mono ?_;rintro e w2 ⟨rfl,hb⟩;have HB2:=zaa (btZ HBR.out hb);clear hb HJ;go_wp2_with fail;go_ret;exact⟨rfl,HB2.out⟩
  obtain⟨x,hx⟩:=zbE hlt;obtain⟨b,off,rfl,hb,hca⟩:=HA.out.at_ (cells:=fun n:Int=>[lI n]) hx;obtain⟨u0,c0,g0⟩:=hca 0 _ rfl;clear hca;obtain rfl:=g0.leaf_eq;rw[Nat.mul_one,Nat.add_zero] at c0;have c0:=zad HBR.out hb (off+k) c0;have k0:=kbZ k l.length;have HX:=zaa hx;have HS:=zaa (zeo (f:=Lib.itoa) hx);have hlx:(Lib.itoa x).length≤1000000:=Nat.le_trans (zfW (List.mem_map.2 ⟨x,List.mem_of_getElem? hx,rfl⟩)) hlen;clear hx;have HBA:=HBR;have HBX:=zaa (Below.refl wr.heap.size wr);have hnx: -9223372036854775808≤x∧x≤9223372036854775807:=by
   have:=List.all_eq_true.1 hF.out x (List.mem_of_getElem? HX.out);simp[zbj] at this
   omega
  go_wp2_with fail;have HC:=zaa (zdY x wr (zaa (hE.out.kept HBR.out)).out hnx.1 hnx.2);refine HC.out.mono ?_;rintro e w3 ⟨rfl,hb3⟩;have HB3:=zaa (btZ HBA.out hb3);have HO3:=zaa (zaJ HO.out (fun g hg hbg=>((btZ HBX.out hb3).block g (zas HO.out hg).2)));have hz3:=HB3.out.size;clear hb3 HC;go_wp2_with(first
   |(at_builtin;refine wpList_append_own _ rfl _ _ 63 rfl W.heap.size 9 i0 (.string ⟨#[]⟩) 1 16 underlying63 hi0 hz0 hz1 hz2 rfl (by decide) _ _ _ rfl (HO3.out.alloc _) ⟨w3.heap.size,0,none⟩ 1 1 [.string ⟨(Lib.itoa x).toArray⟩] rfl rfl (zaS (by simp)) (by simp[Value.oneCell']) (by unfold maxLen;omega) (by omega) (by simp;exact Nat.le_succ_of_le hz3) ?_;intro v' w5 hown' hgrow _))
  have HB5:=zaa (HB3.out.trans (Below.grown ((Below.refl _ w3).alloc hz3 _) hgrow (by simp;exact Nat.le_succ_of_le hz3) (fun g hg=>(zas HO3.out hg).1)));have HO5:=zaa hown';clear hown' hgrow;go_wp2_with fail;go_roundw
  case rel=>exact⟨k+1,by omega,by go_num,by rw[HS.out];exact HO5.out,HB5.out⟩
  case measure=>simp[intOf];omega
theorem zmE: ∀(k u:Nat),u<10 ^ (k+1)→Lib.nDigits u≤k+1
 |0,u,h=>by
  rw[Lib.nDigits_small (by simpa using h)]
  omega
 |k+1,u,h=>by
  by_cases h1:u<10
  ·rw[Lib.nDigits_small h1]
   omega
  ·rw[Lib.nDigits_big h1]
   have:=zmE k (u/10) (by rw[Nat.pow_succ] at h;omega)
   omega
theorem zb5 {n:Int} (h:zbj n=true):(Lib.itoa n).length≤10:=by
 simp[zbj] at h;obtain⟨u,rfl⟩: ∃u:Nat,n=u:=⟨n.toNat,by omega⟩;rw[Lib.itoa_nonneg,Lib.decDigits_length];exact zmE 9 u (by omega)
theorem zdH {k:Nat} {l:List (List UInt8)} (h:(l.all fun s=>decide (s.length≤k))=true) (n:Nat):(zaf l n).length≤k:=by
 unfold zaf
 split
 ·simp
 ·rw[List.getD_eq_getElem?_getD]
  cases e:l[n-1]? with
  |none=>simp
  |some s=>simpa using List.all_eq_true.1 h s (List.mem_of_getElem? e)
theorem zaz (t:Nat) (en:List UInt8) (l:List Arg):(lnT t en l).length=t+(zbK l).length+(en.length+1):=by
 simp[lnT,Lib.repeatL_length]
 omega
theorem zeA {α:Type} (f:α→List UInt8) (c n:α→Nat) (K:Nat) (l:List α) (h: ∀x∈l,(f x).length≤c x+K*n x):(zap f l).length≤(l.map c).sum+K*(l.map n).sum:=by
 induction l with
 |nil=>simp[zap]
 |cons a l ih=>
  have h1:=h a (by simp);have h2:=ih (fun x hx=>h x (by simp[hx]));simp only[zap,List.map_cons,List.flatten_cons,List.length_append,List.sum_cons,Nat.mul_add] at h2 ⊢
  omega
theorem zmn {α:Type} (f:α→List UInt8) (c:α→Nat) (k:Nat) (l:List α) (h: ∀x∈l,(f x).length≤c x+k):Lib.lens (l.map f)≤(l.map c).sum+k*l.length:=by
 induction l with
 |nil=>simp[Lib.lens]
 |cons a l ih=>
  have h1:=h a (by simp);have h2:=ih (fun x hx=>h x (by simp[hx]));simp only[Lib.lens,List.map_cons,List.sum_cons,List.length_cons,Nat.mul_add,Nat.mul_one] at h2 ⊢
  omega
theorem zh1 {α:Type} (f:α→List UInt8) (c:α→Nat) (k:Nat) (l:List α) (h: ∀x∈l,(f x).length≤c x+k):(Lib.join (l.map f) zcZ).length≤(l.map c).sum+k*l.length+2*l.length:=by
 have h1:=zmn f c k l h
 cases l with
 |nil=>simp[Lib.join_nil]
 |cons a l=>
  rw[List.map_cons,Lib.join_length,List.length_map];rw[List.map_cons] at h1;have h3:zcZ.length=2:=rfl;rw[h3];simp only[List.length_cons] at h1 ⊢
  omega
theorem zbn {α:Type} (k:Nat) (l:List α):(l.map fun _=>k).sum=k*l.length:=by
 induction l with
 |nil=>simp
 |cons a l ih=>
  simp only[List.map_cons,List.sum_cons,List.length_cons,Nat.mul_add,Nat.mul_one] at ih ⊢
  omega
def zd9 (x:zb7):Nat:=x.m.length+x.p.length+x.o.length
def zer (l:List zb7):Nat:=(l.map zd9).sum
theorem zfY (x:zb7):(zdv x).length=zd9 x+2:=by
 simp[zdv,zd9]
 omega
theorem zgE (l:List zb7):(zcL l).length≤zer l+2*l.length+2*l.length:=zh1 zdv zd9 2 l (fun x _=>by rw[zfY];omega)
theorem zge {l:List Int} (h:l.all zbj=true):(zcp l).length≤12*l.length:=by
 have:=zh1 Lib.itoa (fun _=>0) 10 l (fun x hx=>by have:=zb5 (List.all_eq_true.1 h x hx);omega);rw[zbn] at this;unfold zcp
 omega
def zei {α:Type} (f:α→List UInt8) (l:List α):Nat:=(l.map fun x=>(f x).length).sum
def zcV (x:za0):Nat:=2+x.code.length
def zcM (x:zaQ):Nat:=2+x.semas.length+x.bufs.length+2*x.ports.length+(x.procs.map zcV).sum
def zdI (x:zaQ):Nat:=x.name.length+zei zaT.name x.ports+zei za0.name x.procs
def zfh (x:zcy):Nat:=1+(x.parts.map zcM).sum
def zgZ (x:zcy):Nat:=x.name.length+(x.parts.map zdI).sum
def zc6 (x:zbi):Nat:=2+2*x.to.length
def zd7 (x:zbi):Nat:=zd9 x.from_+zer x.to
def vlN (x:VlD):Nat:=3+2*x.to.length
def vlC (x:VlD):Nat:=x.name.length+(zd9 x.from_+zer x.to)
def zbW (x:zaF):Nat:=1+2*x.needs.length+x.but.length
def zcU (x:zaF):Nat:=x.unit.length+zei zcu.unit x.needs+zei id x.but
def zec (x:zby):Nat:=x.a.length+x.b.length
def zb1 (x:zaB):Nat:=x.module.length+x.part.length
def zg1 (x:zdt):Nat:=x.a.length+x.b.length
def zgP (x:zcS):Nat:=x.links.length*3+x.switches.length*2+x.versions.length*3+x.health.length*3+(x.modules.map zfh).sum+(x.channels.map zc6).sum+(x.vls.map vlN).sum+(x.causes.map zbW).sum
def zh9 (x:zcS):Nat:=(x.modules.map zgZ).sum+(x.channels.map zd7).sum+(x.vls.map vlC).sum+(x.causes.map zcU).sum+zei SwD.name x.switches+(x.links.map zec).sum+(x.health.map zb1).sum+(x.versions.map zg1).sum
theorem zh8 (n:Int):(ziZ n).length=1:=by
 unfold ziZ
 split<;>rfl
theorem znk {x:SwD} (h:swF x=true):(swT x).length≤x.name.length+160*2:=by
 simp[swF] at h;have h1:=zb5 h.2.2.1;have h2:=zb5 h.2.2.2;have h3:=zh8 x.net;rw[swT,zaz];simp[zbK,Arg.txt]
 omega
theorem zjN {x:zby} (h:zdc x=true):(zb9 x).length≤zec x+160*3:=by
 simp[zdc] at h;have h1:=zb5 h.2.2;have h3:=zh8 x.net;rw[zb9,zaz];simp[zbK,Arg.txt,zec]
 omega
theorem zl1 {x:zdt} (h:zgN x=true):(zf2 x).length≤zg1 x+160*3:=by
 simp[zgN] at h;have h1:=zb5 h.2.1;have h2:=zb5 h.2.2;rw[zf2,zaz];simp[zbK,Arg.txt,zg1]
 omega
theorem zj4 {x:zbi}:(zbI x).length≤zd7 x+160*zc6 x:=by
 have h1:=zfY x.from_;have h2:=zgE x.to;rw[zbI,zaz];simp[zbK,Arg.txt,zd7,zc6]
 omega
theorem zmN {x:VlD} (h:vlF x=true):(vlT x).length≤vlC x+160*vlN x:=by
 simp[vlF] at h;have h1:=zfY x.from_;have h2:=zgE x.to;have h3:=zb5 h.2.2.1;have h4:=zb5 h.2.2.2;rw[vlT,zaz];simp[zbK,Arg.txt,vlC,vlN]
 omega
theorem zhc {x:zaB}:(zaC x).length≤zb1 x+160*3:=by
 have h1:=zdH (k:=8) (l:=zal) (by decide) x.fault;have h2:=zdH (k:=8) (l:=zai) (by decide) x.level;have h3:=zdH (k:=8) (l:=zag) (by decide) x.do_;rw[zaC,zaz];unfold zef zb1
 split<;>split<;>simp[zbK,Arg.txt]<;>omega
theorem zib {x:zaF} (h:zch x=true):(zbg x).length≤zcU x+160*zbW x:=by
 simp only[zch,Bool.and_eq_true,List.all_eq_true] at h;have h1:(zdk x.needs).length≤zei zcu.unit x.needs+11*x.needs.length+2*x.needs.length:=zh1 zeP (fun r=>r.unit.length) 11 x.needs (fun r hr=>by
  have h4:=h.2.2 r hr;simp[zf1] at h4;have:=zb5 h4.2;simp[zeP]
  omega)
 have h2:(Lib.join x.but zcZ).length≤zei id x.but+0*x.but.length+2*x.but.length:=by
  have:=zh1 id (fun r:List UInt8=>r.length) 0 x.but (fun r _=>by simp);rw[List.map_id] at this;exact this
 rw[zbg,zaz];unfold zes zcU zbW
 split<;>simp[zbK,Arg.txt]<;>omega
theorem zi2 {x:zaT} (h:zc5 x=true):(zbP x).length≤x.name.length+160*2:=by
 simp[zc5] at h;have h1:=zb5 h.2.2.1;have h2:=zb5 h.2.2.2.1;have h3:=zb5 h.2.2.2.2;have h4:(zfJ x).length≤3:=by unfold zfJ;split<;>decide
 unfold zbP
 split<;>rw[zaz]<;>simp[zbK,Arg.txt]<;>omega
theorem zeX {x:zb3} (h:zeg x=true):(zep x).length≤50:=by
 simp only[zeg,Bool.and_eq_true] at h;have h1:=zdH (k:=6) (l:=zaA) (by decide) x.op;have h2:=zeA (fun n:Int=>32::Lib.itoa n) (fun _=>0) (fun _=>1) 11 (zcK x) (fun n hn=>by
  have:=zb5 (List.all_eq_true.1 h.2.1 n hn);simp
  omega)
 rw[zbn,zbn] at h2;have h3:(zcK x).length≤3:=by
  unfold zcK;rw[List.length_take];simp
  omega
 simp[zep]
 omega
theorem zjG {x:zb3} (h:zeg x=true):(zeb x).length≤0+160*1:=by
 have h1:=zeX h;rw[zeb,zaz];simp[zbK,Arg.txt]
 omega
theorem zky {x:za0} (h:zdE x=true):(zcB x).length≤x.name.length+160*zcV x:=by
 simp only[zdE,Bool.and_eq_true,List.all_eq_true] at h;have h1:=zb5 (h.2.1 x.prio (by simp));have h2:=zb5 (h.2.1 x.period (by simp));have h3:=zb5 (h.2.1 x.limit (by simp));have h4:=zeA zeb (fun _=>0) (fun _=>1) 160 x.code (fun z hz=>zjG (h.2.2 z hz));rw[zbn,zbn] at h4;rw[zcB,zeE,List.length_append,List.length_append,zaz,zaz];simp[zbK,Arg.txt,zcV]
 omega
theorem zjS {x:zaQ} (h:zc0 x=true):(zcq x).length≤zdI x+160*zcM x:=by
 simp only[zc0,Bool.and_eq_true] at h;obtain⟨-,hn,hs,hb,hp,hq⟩:=h;simp only[List.all_eq_true] at hn hp hq;have h1:=zb5 (hn x.period (by simp));have h2:=zb5 (hn x.length (by simp));have h3:=zb5 (hn x.mem (by simp));have h4:=zb5 (hn x.events (by simp));have h5:=zb5 (hn x.boards (by simp));have h6:=zge hs;have h7:=zge hb;have h8:=zeA zbP (fun y=>y.name.length) (fun _=>2) 160 x.ports (fun z hz=>zi2 (hp z hz));have h9:=zeA zcB (fun y=>y.name.length) zcV 160 x.procs (fun z hz=>zky (hq z hz));rw[zbn] at h8;have a1:(za7 x).length≤20+12*x.semas.length:=by
  unfold za7
  split
  ·simp
  ·rw[zaz];simp[zbK,Arg.txt];omega
 have a2:(zcA x).length≤20+12*x.bufs.length:=by
  unfold zcA
  split
  ·simp
  ·rw[zaz];simp[zbK,Arg.txt];omega
 have a3:(zaR x).length≤30:=by
  unfold zaR
  split
  ·rw[zaz];simp[zbK,Arg.txt];omega
  ·simp
 have a4:(zaW x).length≤30:=by
  unfold zaW
  split
  ·rw[zaz];simp[zbK,Arg.txt];omega
  ·simp
 have a5:(zbM x).length≤80+x.name.length:=by
  rw[zbM,zaz];simp[zbK,Arg.txt];omega
 have a6:(lnT 1 [125] []).length=3:=by rw[zaz];rfl
 unfold zcq zdI zcM zei;simp only[List.length_append]
 omega
theorem zlW {x:zcy} (h:zeQ x=true):(zcO x).length≤zgZ x+160*zfh x:=by
 simp only[zeQ,Bool.and_eq_true,List.all_eq_true] at h;obtain⟨-,hn,hp⟩:=h;have h1:=zb5 (hn x.mem (by simp));have h2:=zb5 (hn x.frame (by simp));have h3:=zeA zcq zdI zcM 160 x.parts (fun z hz=>zjS (hp z hz));have a5:(zhl x).length≤60+x.name.length:=by
  rw[zhl,zaz];simp[zbK,Arg.txt];omega
 have a6:(lnT 0 [125] []).length=2:=by rw[zaz];rfl
 unfold zcO zgZ zfh;simp only[List.length_append]
 omega
theorem zmb {x:zcS} (h:zev x=true):(zfq x).length≤zh9 x+160*zgP x:=by
 simp only[zev,Bool.and_eq_true,List.all_eq_true] at h;obtain⟨h1,h2,h3,h4,h5,h6,h7,h8⟩:=h;have k1:=zeA zcO zgZ zfh 160 x.modules (fun z hz=>zlW (h1 z hz));have k2:=zeA zbI zd7 zc6 160 x.channels (fun z hz=>zj4);have k3:=zeA swT (fun y=>y.name.length) (fun _=>2) 160 x.switches (fun z hz=>znk (h3 z hz));have k4:=zeA zb9 zec (fun _=>3) 160 x.links (fun z hz=>zjN (h4 z hz));have k5:=zeA vlT vlC vlN 160 x.vls (fun z hz=>zmN (h5 z hz));have k6:=zeA zaC zb1 (fun _=>3) 160 x.health (fun z hz=>zhc);have k7:=zeA zbg zcU zbW 160 x.causes (fun z hz=>zib (h7 z hz));have k8:=zeA zf2 zg1 (fun _=>3) 160 x.versions (fun z hz=>zl1 (h8 z hz));rw[zbn] at k3 k4 k6 k8;unfold zfq zh9 zgP zei;simp only[List.length_append]
 omega
theorem zjb {x:zcS} (h:zev x=true) (hs:zgP x+zh9 x/8≤400):(zfq x).length≤65536:=by
 have:=zmb h
 omega
def opT (n:Int):List UInt8:=32::Lib.itoa n
theorem zfO (x:zb3):zep x=zaf zaA x.op++zap opT (zcK x)++[59]:=rfl
theorem zh4 (x:zb3) (hop:x.op≤255) (W:World) (hF:zeg x=true) (hE:Hid (Env W)) (hP:Hid (zcT W)):
 Calls prog 83 #[.agg #[.int .u8 (x.op:Int),.int .i64 x.a,.int .i64 x.b,.int .i64 x.c]] W fun e w'=>e= .returned (.string ⟨(zep x).toArray⟩)∧Below W.heap.size W w':=by
 have hnum: ∀z∈zcK x,zbj z=true:=by
  simp only[zeg,Bool.and_eq_true] at hF;exact List.all_eq_true.1 hF.2.1
 have HN:=zaa hnum;have h3:=zdR x.op hop;have hol:(zaf zaP x.op).length=(zcK x).length:=by
  unfold zcK;rw[List.length_take];simp
  omega
 have hil:=zeX hF;rw[zfO,List.length_append,List.length_append] at hil;simp only[List.length_cons,List.length_nil] at hil;rw[hol] at h3;clear hnum hF;have HW:=zaa (fun V h=>zgp x.op V h hop);have HOP:=zaa (fun V h=>zeK x hop V h);rw[hol] at HOP;clear hol;have hget: ∀(k:Nat) z,(zcK x)[k]? =some z→(#[Value.int .i64 x.a,.int .i64 x.b,.int .i64 x.c])[k]? =some (.int .i64 z):=by
  intro k z h;unfold zcK at h;rw[List.getElem?_take] at h
  split at h
  ·match k,h with
   |0,h=>simpa using h
   |1,h=>simpa using h
   |2,h=>simpa using h
   |k+3,h=>simp at h
  ·cases h
 have HG:=zaa hget;clear hget;have HB:=zaa ((Below.refl W.heap.size W).alloc (Nat.le_refl _) (.cells #[.int .u8 (x.op:Int),.int .i64 x.a,.int .i64 x.b,.int .i64 x.c] 78));have HX:=zaa (heap_alloc_new W (.cells #[.int .u8 (x.op:Int),.int .i64 x.a,.int .i64 x.b,.int .i64 x.c] 78))
 go_enter func83,ntmps83
 go_wp2_with fail;generalize W.alloc _=w0 at *;refine(HW.out w0 (zaa (hP.out.below HB.out))).mono ?_;rintro e w1 ⟨rfl,hb⟩;have HB1:=zaa (btZ HB.out hb);have HX1:=zaa (bkZ hb HX.out);clear hb HX HB HW;obtain⟨c0,c1,c2,c3⟩:=zc1 HX1.out rfl;go_wp2_with fail;clear c0 c1 c2 c3;refine(HOP.out w1 (zaa (hP.out.below HB1.out))).mono ?_;rintro e w2 ⟨ob,rfl,ho,hb⟩;have HB2:=zaa (btZ HB1.out hb);have HO:=zaa ho;have hob:=(zau ho);clear ho hb HOP HX1;go_wp2_with fail
 go_loopw [3,12] (fun v3 v12 wr=> ∃(k:Nat) (S:ByteArray),k≤(zcK x).length∧v12= .int .i64 k∧v3= .string S∧S.data.toList=zaf zaA x.op++zap opT ((zcK x).take k)∧Below W.heap.size W wr∧wr.heap[ob]? =w2.heap[ob]?) (fun _ v12 _=>(zcK x).length-(intOf v12).toNat)
 case atStart=>exact⟨0,_,by omega,rfl,rfl,by rw[zbl,List.append_nil],HB2.out,rfl⟩
 case round=>
  obtain⟨k,S,hk,rfl,rfl,hS,hbr,hor⟩:=hrel;have HS:=zaa hS;have HBR:=zaa hbr;have HOR:=zaa hor;have hsz:S.size≤60:=by
   have e:S.size=S.data.toList.length:=by simp
   have:=zje (f:=opT) (l:=zcK x) (k:=k);rw[e,hS,List.length_append]
   omega
  clear hS hbr hor;by_cases hlt:k<(zcK x).length
  rotate_left
  ·obtain rfl:k=(zcK x).length:=by omega
   rw[List.take_length] at HS;have k1:=smZ (S.size+1);have HT:(S++⟨#[59]⟩:ByteArray)=⟨(zep x).toArray⟩:=by
    apply ByteArray.ext;rw[ByteArray.data_append];apply Array.toList_inj.1;rw[Array.toList_append,HS.out];simp[zfO]
   clear hlt;go_wp2_with fail;go_ret;exact⟨by first|rfl|(rw[←HT];rfl),HBR.out⟩
  obtain⟨z,hz⟩: ∃z,(zcK x)[k]? =some z:=⟨_,List.getElem?_eq_getElem hlt⟩;have cz:wr.cell? ⟨ob,k,none⟩=some (.int .i64 z):=by
   rw[cell_of_row _ _ k _ _ _ (HOR.out.trans HO.out)];exact HG.out k z hz
  have hd:=zb5 (HN.out z (List.mem_of_getElem? hz));have hnz:=HN.out z (List.mem_of_getElem? hz);simp only[zbj,Bool.and_eq_true,decide_eq_true_eq] at hnz;have k0:(0:Int)≤(k:Int)∧(k:Int)<(((zcK x).length:Nat):Int):=by omega
  have k1:=smZ (1+(Lib.itoa z).length);have k2:=smZ (S.size+(1+(Lib.itoa z).length));have HZ:=zaa (zaq (f:=opT) hz);have HI:=zaa (zdY z wr (hE.out.kept HBR.out) (by omega) (by omega));clear hz hd hnz;go_wp2_with fail;refine HI.out.mono ?_;rintro e w3 ⟨rfl,hb⟩;have HB3:=zaa (btZ HBR.out hb);have HO3:=zaa ((hb.block ob (by have:=(zau (HOR.out.trans HO.out));exact this)).trans HOR.out);have HT:(S++(⟨#[32]⟩++⟨(Lib.itoa z).toArray⟩):ByteArray).data.toList=zaf zaA x.op++zap opT ((zcK x).take (k+1)):=by
   rw[ByteArray.data_append,Array.toList_append,HS.out,HZ.out];simp[opT,ByteArray.data_append]
  have HTT:=zaa HT;clear hb HI cz HT;go_wp2_with fail;go_roundw
  case rel=>exact⟨k+1,_,by omega,by go_num,rfl,HTT.out,HB3.out,HO3.out⟩
  case measure=>simp[intOf];omega
def zd5 (l:List zb3):List UInt8:=Lib.join (l.map zep) [32]
noncomputable def codeE (l:List zb3):Value:=if l.all zeg=true then zdj ⟨(zd5 l).toArray⟩ else .tuple #[.string ⟨#[]⟩,.int .i64 2]
theorem ziT {l:List zb3} (h:l.all zeg=true):(zd5 l).length≤51*l.length:=by
 have h1:=zmn zep (fun _=>0) 50 l (fun x hx=>by have:=zeX (List.all_eq_true.1 h x hx);omega);rw[zbn] at h1;unfold zd5
 cases l with
 |nil=>simp[Lib.join_nil]
 |cons a l=>
  rw[List.map_cons] at h1 ⊢;rw[Lib.join_length,List.length_map];simp only[List.length_cons,List.length_nil] at h1 ⊢
  omega
theorem zhj (v:Value) (l:List zb3) (W:World) (hv:Hid (DAt W (fun _=>True) v (.row 4 (l.map zb3.cells)))) (hop: ∀x∈l,x.op≤255) (hn:l.length≤1000000) (hE:Hid (Env W)) (hP:Hid (zcT W)):
 Calls prog 18 #[v] W fun e w'=>e= .returned (codeE l)∧Below W.heap.size W w':=by
 obtain⟨i0,hi0,hz0,hz1,hz2⟩:=info_parts zcs;have HAL:=zaa (zjX v l zeg W hv (by omega) (zaa (fun x hx us w' hb hd=>zoM x (hop x hx) us w' (zaa (hP.out.below hb)) (zaa hd))));obtain⟨A,c,rfl,hA⟩:=hv.out.slice;have HA:=zaa hA;clear hA hv;rw[List.length_map] at HAL ⊢
 go_enter func18,ntmps18
 go_wp2_with fail
 cases hz:l.all zeg with
 |false=>
  have HX:=zaa (show codeE l= .tuple #[.string ⟨#[]⟩,.int .i64 2] by unfold codeE;rw[hz];rfl);rw[hz] at HAL;clear hz;refine HAL.out.mono ?_;rintro e w1 ⟨rfl,hb⟩;have HB1:=zaa hb;clear hb HAL;go_wp2_with fail;go_ret2;exact⟨by rw[HX.out];rfl,HB1.out⟩
 |true=>
  have HX:=zaa (show codeE l=zdj ⟨(zd5 l).toArray⟩ by unfold codeE;rw[hz];rfl);have HF:=zaa hz;have HLN:=zaa (ziT hz);rw[hz] at HAL;clear hz;refine HAL.out.mono ?_;rintro e w1 ⟨rfl,hb⟩;have HB1:=zaa hb;clear hb HAL;go_wp2_with fail
  go_loopw [4,12] (fun v4 v12 wr=> ∃k:Nat,k≤l.length∧v12= .int .i64 k∧wr.ownsRow W.heap.size 9 1 v4 k (zh2 ((l.take k).map zep))∧Below W.heap.size W wr) (fun _ v12 _=>l.length-(intOf v12).toNat)
  case atStart=>exact⟨0,by omega,rfl,World.ownsRow_nil _ _ _ _,HB1.out⟩
  case round=>
   obtain⟨k,hk,rfl,ho,hbr⟩:=hrel;have HO:=zaa ho;have HBR:=zaa hbr;clear ho hbr;by_cases hlt:k<l.length
   rotate_left
   ·obtain rfl:k=l.length:=by omega
    rw[List.take_length] at HO;have hL:=HLN.out;have HJ:=zaa (zek [32] (zfc HO.out) (by rw[List.length_map];omega) (by show(zd5 l).length≤_;omega));clear hlt;go_wp2_with fail;refine HJ.out.mono ?_;rintro e w2 ⟨rfl,hb⟩;have HB2:=zaa (btZ HBR.out hb);clear hb HJ;go_wp2_with fail;refine(zhZ ⟨(zd5 l).toArray⟩ w2 (by show(zd5 l).length≤_;omega)).mono ?_;rintro e w5 ⟨rfl,rfl⟩;rcases(by unfold zdj;split<;>exact⟨_,_,rfl⟩: ∃p q,zdj ⟨(zd5 l).toArray⟩= .tuple #[p,q]) with⟨p,q,hpq⟩
    have HE:=zaa (HX.out.trans hpq);rw[hpq];clear hpq;go_wp2_with fail;go_ret2;exact⟨by rw[HE.out];rfl,HB2.out⟩
   obtain⟨x,hx⟩:=zbE hlt;obtain⟨b,off,rfl,hb,hca⟩:=HA.out.at_ hx;have c0:=zad HBR.out hb (off+k*4) (hca 0 _ rfl).leafc;have c1:=zad HBR.out hb (off+k*4+1) (hca 1 _ rfl).leafc;have c2:=zad HBR.out hb (off+k*4+2) (hca 2 _ rfl).leafc;have c3:=zad HBR.out hb (off+k*4+3) (hca 3 _ rfl).leafc;clear hca;have k0:=kbZ k l.length;have hmem:=List.mem_of_getElem? hx;have hFx:=List.all_eq_true.1 HF.out x hmem;have HS:=zaa (zeo (f:=zep) hx);have HBA:=zaa (HBR.out.alloc HBR.out.size (.cells #[.int .u8 (x.op:Int),.int .i64 x.a,.int .i64 x.b,.int .i64 x.c] 78));have HBX:=zaa ((Below.refl wr.heap.size wr).alloc (Nat.le_refl _) (.cells #[.int .u8 (x.op:Int),.int .i64 x.a,.int .i64 x.b,.int .i64 x.c] 78));have HC:=zaa (zh4 x (hop x hmem) (wr.alloc (.cells #[.int .u8 (x.op:Int),.int .i64 x.a,.int .i64 x.b,.int .i64 x.c] 78)) hFx (zaa (hE.out.kept HBA.out)) (zaa (hP.out.below HBA.out)));clear hx hmem hFx;go_wp2_with fail;refine HC.out.mono ?_;rintro e w3 ⟨rfl,hb3⟩;have HB3:=zaa (btZ HBA.out hb3);have HO3:=zaa (zaJ HO.out (fun g hg hbg=>((btZ HBX.out hb3).block g (zas HO.out hg).2)));have hz3:=HB3.out.size;clear hb3 HC;go_wp2_with(first
    |(at_builtin;refine wpList_append_own _ rfl _ _ 63 rfl W.heap.size 9 i0 (.string ⟨#[]⟩) 1 16 underlying63 hi0 hz0 hz1 hz2 rfl (by decide) _ _ _ rfl (HO3.out.alloc _) ⟨w3.heap.size,0,none⟩ 1 1 [.string ⟨(zep x).toArray⟩] rfl rfl (zaS (by simp)) (by simp[Value.oneCell']) (by unfold maxLen;omega) (by omega) (by simp;exact Nat.le_succ_of_le hz3) ?_;intro v' w5 hown' hgrow _))
   have HB5:=zaa (HB3.out.trans (Below.grown ((Below.refl _ w3).alloc hz3 _) hgrow (by simp;exact Nat.le_succ_of_le hz3) (fun g hg=>(zas HO3.out hg).1)));have HO5:=zaa hown';clear hown' hgrow;go_wp2_with fail;go_roundw
   case rel=>exact⟨k+1,by omega,by go_num,by rw[HS.out];exact HO5.out,HB5.out⟩
   case measure=>simp[intOf];omega
end Go.Proofs.YtgbfaompondolaaGreatDoor
