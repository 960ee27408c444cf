/- Merged texts of the walks and of the plain laws on which the statement leans.-/
import Derived.Test.YtlngbjphagnloaaGreatDoorPk1
import Derived.Test.YtlngbjphagnloaaGreatDoorPk30
import Derived.Test.YtlngbjphagnloaaGreatDoorPk10
import Derived.Test.YtlngbjphagnloaaGreatDoorPk29
set_option maxHeartbeats 4000000
set_option maxRecDepth 100000
namespace Go.Proofs.YtlngbjphagnloaaGreatDoor
open Go.Proofs.Tryz
open Go.RowKit
attribute [local go_sem] zax.cell
theorem zmA {ts:List Tok} (h:zbS ts):zhK ts:=fun t ht hk=>⟨(h.good t ht hk).1,by
 have:=(h.good t ht hk).1
 cases hx:t.text with
 |nil=>rw[hx] at this;simp[zd6] at this
 |cons b r=>simp,h.size t ht⟩
theorem znu (src:ByteArray) (W:World):Calls prog 84 #[.string src] W fun e W'=> ∃rb,e= .returned (.pointer (some ⟨rb,0,none⟩))∧W.heap.size≤rb∧Below W.heap.size W W'∧RIn rb (zbr src.data.toList).1 (zaW (zbr src.data.toList) src.size) W':=by
 have hl:=zmU src W;unfold zjZ at hl;unfold zaW;generalize zbr src.data.toList=x at *;obtain⟨ts,p,er⟩:=x;dsimp only at hl ⊢;have HL:=zaa hl;clear hl
 go_enter func84,ntmps84
 go_wp2_with fail;refine HL.out.mono ?_;rintro e w1 ⟨v,rfl,ho,hb⟩;obtain⟨A,c,rfl,hT⟩:=zhq ho (by simp);have hA: ∀a,A=some a→a.block<w1.heap.size:=fun a ha=>(zaj ho (by rw[ha];rfl)).2
 have HX:=zaa (heap_alloc_new w1 (.cells #[.slice A ts.length c,.int .i64 0,.int .i64 (src.size:Int),.int .i64 (p:Int),.int .i64 (er:Int)] 158));have hba:=(Below.refl w1.heap.size w1).alloc (Nat.le_refl _) (.cells #[.slice A ts.length c,.int .i64 0,.int .i64 (src.size:Int),.int .i64 (p:Int),.int .i64 (er:Int)] 158);have HB:=zaa (btZ hb hba);have HR:=zaa (show RIn w1.heap.size ts ⟨ts,src.size,p,er⟩ (w1.alloc (.cells #[.slice A ts.length c,.int .i64 0,.int .i64 (src.size:Int),.int .i64 (p:Int),.int .i64 (er:Int)] 158)) from by
  obtain⟨c0,c1,c2,c3,c4,f0,f1,f2,f3,f4⟩:=zfy HX.out rfl;refine⟨by simp,⟨A,c,c0,hT.below hba,hA⟩,⟨0,Nat.zero_le _,rfl,c1⟩,c2,c3,c4,fun o ho=>frozen_of_row _ _ o _ _ HX.out⟩)
 have hsz:=hb.size;clear ho hT hA hb hba HX;go_wp2_with fail;go_ret;exact⟨_,rfl,hsz,HB.out,HR.out⟩
theorem zgS (src:ByteArray) (W:World):Calls prog 52 #[.string src] W (zjN W src):=by
 obtain⟨hok,hfew⟩:=zfC src.data.toList;have HT:=zaa (zmA hok);have hts:(zbr src.data.toList).1.length≤1000000:=by omega
 have hrc:=zl9 (zbr src.data.toList) src.size;have HOF:=zaa (znu src W);unfold zeQ at hrc;obtain⟨⟨l,s1⟩,h1⟩: ∃p,zdy (zaW (zbr src.data.toList) src.size)=p:=⟨_,rfl⟩;rw[h1] at hrc;dsimp only at hrc;unfold zjN;generalize zez (zbr src.data.toList) src.size=R at *;generalize zaW (zbr src.data.toList) src.size=s at *;generalize(zbr src.data.toList).1=ts at *;clear hok hfew;have H1:=zaa h1;replace hrc:=zaa hrc
 go_enter func52,ntmps52
 go_wp2_with fail;refine HOF.out.mono ?_;clear HOF;rintro e w1 ⟨rb,rfl,hrb,hb,hr⟩;have HB:=zaa hb;have HC:=zaa (zgW rb ts s w1 (zaa hr) hts HT);have hlt:=hr.lt;have hsz:=hb.size;rw[H1.out] at HC;dsimp only at HC;clear hb hr;go_wp2_with fail;refine HC.out.mono ?_;clear HC;rintro e w2 ⟨v,rfl,hr,hk,ho⟩;obtain⟨A,q,rfl⟩:=zah ho;have HB:=zaa (HB.out.trans (hk.below HB.out.size (fun i hi e=>by omega)));have HR:=zaa hr;have HO0:=zaa ho;clear hr hk ho H1;obtain⟨B,cc,c0, -, -⟩:=HR.out.toks;obtain⟨j,hj,hd,c1⟩:=HR.out.now;have l1:=HR.out.lt;by_cases hjs:j<ts.length
 ·have he:s1.r.isEmpty=false:=by
   rw[hd]
   cases h:ts.drop j with
   |nil=>have:=congrArg List.length h;simp at this;omega
   |cons t r=>rfl
  have hrd:=hrc.out;simp only[he,Bool.false_eq_true,if_false] at hrd;have HRC:=zaa hrd;clear hrd;have k1:decide (j<ts.length)=true:=by simp;exact hjs
  clear hrc hd he;go_wp2_with fail;go_quiet (fail);go_wp2_with fail;refine(zdh rb 80 ts s1 _ (zaa (HR.out.kept ((zam.refl (fun _=>False) w2).drewN _) (fun _ _=>not_false))) hts).mono ?_;rintro e w3 ⟨rfl,hr,hk⟩;have hk2:zam (fun k=>k=rb) w2 w3:=((zam.refl (fun k=>k=rb) w2).drewN _).trans hk;have HB:=zaa (HB.out.trans (hk2.below HB.out.size (fun i hi e=>by omega)));have HO:=zaa (zdP (zai HO0.out (fun g hg hb=>hk2.block g (zaj HO0.out hg).2 (by omega))) hsz);have HR:=zaa hr;clear hr hk hk2 c0 c1 l1 k1;generalize(zb9 80 s1).2=s2 at *;have c3:=HR.out.at_;have c4:=HR.out.err;have l4:=HR.out.lt;by_cases h0:s2.err=0
  ·have e0:=HRC.out
   rw[if_pos h0] at e0;have E0:=zaa e0;rw[h0] at c4;clear e0 h0 c3;go_wp2_with fail;refine bodyPost_ret (v:= .tuple #[.slice A l.length q,.int .i64 0,.int .i64 0]) (by simp[results,Tryz.results52,go_sem]) rfl ?_;exact⟨.slice A l.length q,by rw[←E0.out];rfl,HB.out,by rw[←E0.out];exact HO.out⟩
  ·have e0:=HRC.out
   rw[if_neg h0] at e0;have E0:=zaa e0;have e1:((s2.err:Int) != 0)=true:=by simp;omega
   clear e0 h0;go_wp2_with fail;go_quiet (fail);go_wp2_with fail;refine bodyPost_ret (v:= .tuple #[.slice none 0 0,.int .i64 (s2.at_:Int),.int .i64 (s2.err:Int)]) (by simp[results,Tryz.results52,go_sem]) rfl ?_;exact⟨.slice none 0 0,by rw[←E0.out],HB.out.trans (((zam.refl (fun _=>False) w3).drewN _).below HB.out.size (fun _ _=>not_false)),by rw[←E0.out];exact World.ownsRow_nil _ _ _ _⟩
 ·have he:s1.r.isEmpty=true:=by rw[hd,List.drop_eq_nil_of_le (by omega)];rfl
  have hrd:=hrc.out;simp only[he,if_true] at hrd;have HRC:=zaa hrd;clear hrd;have k1:decide (j<ts.length)=false:=by simp;omega
  have HO:=zaa (zdP HO0.out hsz);clear hrc hd he;go_wp2_with fail;go_quiet (fail)
  rename_i nq
  have HR:=zaa (HR.out.kept ((zam.refl (fun _=>False) w2).drewN nq) (fun _ _=>not_false));have HB:=zaa (HB.out.trans (((zam.refl (fun _=>False) w2).drewN nq).below HB.out.size (fun _ _=>not_false)));have HO:=zaa (show(w2.drewN nq).ownsRow _ _ _ _ _ _ from HO.out);clear c0 c1 l1 k1;obtain⟨s2,rfl⟩: ∃s2,s2=s1:=⟨_,rfl⟩;generalize w2.drewN nq=w3 at *;have c3:=HR.out.at_;have c4:=HR.out.err;have l4:=HR.out.lt;by_cases h0:s2.err=0
  ·have e0:=HRC.out
   rw[if_pos h0] at e0;have E0:=zaa e0;rw[h0] at c4;clear e0 h0 c3;go_wp2_with fail;refine bodyPost_ret (v:= .tuple #[.slice A l.length q,.int .i64 0,.int .i64 0]) (by simp[results,Tryz.results52,go_sem]) rfl ?_;exact⟨.slice A l.length q,by rw[←E0.out];rfl,HB.out,by rw[←E0.out];exact HO.out⟩
  ·have e0:=HRC.out
   rw[if_neg h0] at e0;have E0:=zaa e0;have e1:((s2.err:Int) != 0)=true:=by simp;omega
   clear e0 h0;go_wp2_with fail;go_quiet (fail);go_wp2_with fail;refine bodyPost_ret (v:= .tuple #[.slice none 0 0,.int .i64 (s2.at_:Int),.int .i64 (s2.err:Int)]) (by simp[results,Tryz.results52,go_sem]) rfl ?_;exact⟨.slice none 0 0,by rw[←E0.out],HB.out.trans (((zam.refl (fun _=>False) w3).drewN _).below HB.out.size (fun _ _=>not_false)),by rw[←E0.out];exact World.ownsRow_nil _ _ _ _⟩
theorem zjc: ∀(f:Nat) (acc:List zcQ) (r:List Tok) (a:List zcQ) (r':List Tok),zbn f acc r= .ok a r'→a.length+r'.length≤acc.length+r.length
 |0,acc,r,a,r',e=>by
  injection e with e1 e2
  subst e1 e2;exact Nat.le_refl _
 |f+1,acc,r,a,r',e=>by
  unfold zbn at e
  split at e
  ·cases hi:zjp r with
   |ok x r1=>
    have:=zjc f (acc++[x]) r1 a r' ((zac hi).symm.trans e);have:=zlC _ _ _ hi;simp at *
    omega
   |bad n r1=>exact absurd ((zab hi).symm.trans e) (fun h=>by cases h)
  ·injection e with e1 e2
   subst e1 e2;exact Nat.le_refl _
theorem zll (x:List Tok×Nat×Nat) (size:Nat):(zez x size).1.length≤x.1.length:=by
 unfold zez
 split
 ·unfold zes
  cases h:zcs x.1 with
  |ok l r=>
   have h2:=zjc _ [] _ _ _ h;rw[zac h]
   cases r with
   |nil=>simpa [zpr] using h2
   |cons t r=>exact Nat.zero_le _
  |bad n r=>rw[zab h];exact Nat.zero_le _
 ·exact Nat.zero_le _
theorem zkx (src:ByteArray) (W:World) (hE:Hid (Env W)) (hP:Hid (zci W)):Calls prog 27 #[.string src] W fun e w'=>e= .returned (.bool true)∧Below W.heap.size W w':=by
 have HC:=zaa (zgV src W hE hP);have HD:=zaa (fun V=>zgS src V);have hfew:=zll (zbr src.data.toList) src.size;have:=(zfC src.data.toList).2;unfold zjN at HC HD;generalize zez (zbr src.data.toList) src.size=R at *;obtain⟨l,p,er⟩:=R;dsimp only at HC HD hfew;have hl:l.length≤1099511627776:=by omega
 clear hfew this
 go_enter func27,ntmps27
 go_wp2_with fail;refine HC.out.mono ?_;clear HC;rintro e w1 ⟨v1,rfl,hb,ho⟩;obtain⟨A1,q1,rfl⟩:=zah ho;have HB:=zaa hb;have HO:=zaa ho;clear hb ho;go_wp2_with fail;refine(HD.out w1).mono ?_;clear HD;rintro e w2 ⟨v2,rfl,hb,ho⟩;obtain⟨A2,q2,rfl⟩:=zah ho;have h1:=((zcY (cells:=za5) (fun _=>rfl) HO.out).mono (H:=fun _=>True) (fun _ _ _=>trivial)).later hb;have h2:=(zcY (cells:=za5) (fun _=>rfl) ho).mono (H:=fun _=>True) (fun _ _ _=>trivial);have HS:=zaa (zhF _ _ l l w2 (zaa h1) (zaa h2) hl hl);rw[zbW] at HS;replace HB:=zaa (btZ HB.out hb);clear hb ho h1 h2 HO;go_wp2_with fail;refine HS.out.mono ?_;rintro e w3 ⟨rfl,hb⟩;replace HB:=zaa (btZ HB.out hb);clear hb HS;go_wp2_with fail;go_ret;exact⟨rfl,HB.out⟩
theorem zlX (src:ByteArray) (n:Int) (n0:0≤n) (n1:n≤255) (W:World) (hE:Hid (Env W)) (hP:Hid (zci W)):Calls prog 7 #[.string src,.int .u8 n] W fun e w'=>e= .returned (.bool true)∧Below W.heap.size W w':=by
 obtain⟨k,rfl⟩: ∃k:Nat,n=(k:Int):=⟨n.toNat,by omega⟩;have hk:k≤255:=by omega
 have HA0:=zaa (fun V (h:Hid (zci V))=>zlv k V h hk);have HA1:=zaa (fun V (h:Hid (zci V))=>ze1 k V h hk);have HA2:=zaa (fun V (h:Hid (zci V))=>zlx k V h.out hk);have HA3:=zaa (fun V (h:Hid (zci V))=>zlI k V h.out hk);have HA4:=zaa (fun V (h:Hid (zci V))=>zjR k V h.out hk);have HB0:=zaa (fun V=>zkW k hk V);have HB1:=zaa (fun V=>zjd k hk V);have HB2:=zaa (fun V=>zjY k hk V);have HB3:=zaa (fun V=>zjC k hk V);have HB4:=zaa (fun V=>zh3 k hk V);generalize(⟨(zaB zaE k).toArray⟩:ByteArray)=x0 at *;generalize(⟨(zaB zaN k).toArray⟩:ByteArray)=x1 at *;generalize(⟨(zaB zbG k).toArray⟩:ByteArray)=x2 at *;generalize(⟨(zaB zbH k).toArray⟩:ByteArray)=x3 at *;generalize(⟨(zaB zbu k).toArray⟩:ByteArray)=x4 at *;have HB:=zaa (Below.refl W.heap.size W);have HP:=hP;have HC:=zaa (fun V h1 h2=>zkx src V h1 h2);have HW:=zaa (fun V h1 h2=>zlJ V h1 h2);by_cases hs:5000<src.size
 ·have s1:(5000:Int)<(src.size:Int):=by omega
  clear hs
  go_enter func7,ntmps7
  go_wp2_with fail;refine(HA0.out _ (HP)).mono ?_;rintro e w1 ⟨rfl,hb⟩;replace HP:=zaa (HP.out.below hb);replace HB:=zaa (btZ HB.out hb);clear hb;go_wp2_with fail;refine(HB0.out _).mono ?_;rintro e w1 ⟨rfl,hb⟩;replace HP:=zaa (HP.out.below hb);replace HB:=zaa (btZ HB.out hb);clear hb;go_wp2_with fail;refine(HA1.out _ (HP)).mono ?_;rintro e w1 ⟨rfl,hb⟩;replace HP:=zaa (HP.out.below hb);replace HB:=zaa (btZ HB.out hb);clear hb;go_wp2_with fail;refine(HB1.out _).mono ?_;rintro e w1 ⟨rfl,hb⟩;replace HP:=zaa (HP.out.below hb);replace HB:=zaa (btZ HB.out hb);clear hb;go_wp2_with fail;refine(HA2.out _ (HP)).mono ?_;rintro e w1 ⟨rfl,hb⟩;replace HP:=zaa (HP.out.below hb);replace HB:=zaa (btZ HB.out hb);clear hb;go_wp2_with fail;refine(HB2.out _).mono ?_;rintro e w1 ⟨rfl,hb⟩;replace HP:=zaa (HP.out.below hb);replace HB:=zaa (btZ HB.out hb);clear hb;go_wp2_with fail;refine(HA3.out _ (HP)).mono ?_;rintro e w1 ⟨rfl,hb⟩;replace HP:=zaa (HP.out.below hb);replace HB:=zaa (btZ HB.out hb);clear hb;go_wp2_with fail;refine(HB3.out _).mono ?_;rintro e w1 ⟨rfl,hb⟩;replace HP:=zaa (HP.out.below hb);replace HB:=zaa (btZ HB.out hb);clear hb;go_wp2_with fail;refine(HA4.out _ (HP)).mono ?_;rintro e w1 ⟨rfl,hb⟩;replace HP:=zaa (HP.out.below hb);replace HB:=zaa (btZ HB.out hb);clear hb;go_wp2_with fail;refine(HB4.out _).mono ?_;rintro e w1 ⟨rfl,hb⟩;replace HP:=zaa (HP.out.below hb);replace HB:=zaa (btZ HB.out hb);clear hb;go_wp2_with fail;refine(HW.out _ (zaa (hE.out.kept HB.out)) HP).mono ?_;rintro e w1 ⟨rfl,hb⟩;replace HB:=zaa (btZ HB.out hb);clear hb;go_wp2_with fail;go_ret;exact⟨rfl,HB.out⟩
 ·have s1: ¬(5000:Int)<(src.size:Int):=by omega
  clear hs
  go_enter func7,ntmps7
  go_wp2_with fail;refine(HA0.out _ (HP)).mono ?_;rintro e w1 ⟨rfl,hb⟩;replace HP:=zaa (HP.out.below hb);replace HB:=zaa (btZ HB.out hb);clear hb;go_wp2_with fail;refine(HB0.out _).mono ?_;rintro e w1 ⟨rfl,hb⟩;replace HP:=zaa (HP.out.below hb);replace HB:=zaa (btZ HB.out hb);clear hb;go_wp2_with fail;refine(HA1.out _ (HP)).mono ?_;rintro e w1 ⟨rfl,hb⟩;replace HP:=zaa (HP.out.below hb);replace HB:=zaa (btZ HB.out hb);clear hb;go_wp2_with fail;refine(HB1.out _).mono ?_;rintro e w1 ⟨rfl,hb⟩;replace HP:=zaa (HP.out.below hb);replace HB:=zaa (btZ HB.out hb);clear hb;go_wp2_with fail;refine(HA2.out _ (HP)).mono ?_;rintro e w1 ⟨rfl,hb⟩;replace HP:=zaa (HP.out.below hb);replace HB:=zaa (btZ HB.out hb);clear hb;go_wp2_with fail;refine(HB2.out _).mono ?_;rintro e w1 ⟨rfl,hb⟩;replace HP:=zaa (HP.out.below hb);replace HB:=zaa (btZ HB.out hb);clear hb;go_wp2_with fail;refine(HA3.out _ (HP)).mono ?_;rintro e w1 ⟨rfl,hb⟩;replace HP:=zaa (HP.out.below hb);replace HB:=zaa (btZ HB.out hb);clear hb;go_wp2_with fail;refine(HB3.out _).mono ?_;rintro e w1 ⟨rfl,hb⟩;replace HP:=zaa (HP.out.below hb);replace HB:=zaa (btZ HB.out hb);clear hb;go_wp2_with fail;refine(HA4.out _ (HP)).mono ?_;rintro e w1 ⟨rfl,hb⟩;replace HP:=zaa (HP.out.below hb);replace HB:=zaa (btZ HB.out hb);clear hb;go_wp2_with fail;refine(HB4.out _).mono ?_;rintro e w1 ⟨rfl,hb⟩;replace HP:=zaa (HP.out.below hb);replace HB:=zaa (btZ HB.out hb);clear hb;go_wp2_with fail;refine(HC.out _ (zaa (hE.out.kept HB.out)) HP).mono ?_;rintro e w1 ⟨rfl,hb⟩;replace HP:=zaa (HP.out.below hb);replace HB:=zaa (btZ HB.out hb);clear hb;go_wp2_with fail;refine(HW.out _ (zaa (hE.out.kept HB.out)) HP).mono ?_;rintro e w1 ⟨rfl,hb⟩;replace HB:=zaa (btZ HB.out hb);clear hb;go_wp2_with fail;go_ret;exact⟨rfl,HB.out⟩
theorem zcv {α β:Type} {m:Rf α} {f:α→Rf β} {s t:InS} {a:α} (h:m s=(a,t)):(m >>= f) s=f a t:=by
 show f (m s).1 (m s).2=_
 rw[h]
structure zdA (rb:Nat) (W:World) (xb:Nat) (T:TypeId) (row:List Value) (w:World):Prop where
 at_:w.heap[xb]? =some (.cells row.toArray T (0,0))
 big:W.heap.size≤xb
 low:rb<xb
theorem zdA.lt {rb xb:Nat} {W w:World} {T:TypeId} {row:List Value} (h:zdA rb W xb T row w):xb<w.heap.size:=(zal h.at_)
theorem zdA.call {rb xb:Nat} {W w w':World} {T:TypeId} {row:List Value} (h:zdA rb W xb T row w) (hk:zam (fun k=>k=rb) w w'):zdA rb W xb T row w':=
 ⟨(hk.block xb h.lt (by have:=h.low;omega)).trans h.at_,h.big,h.low⟩
theorem zdA.fact {rb xb:Nat} {W w:World} {T:TypeId} {row:List Value} (h:zdA rb W xb T row w) (i:Nat) {u:Value} (hu:row[i]? =some u):w.cell? ⟨xb,i,none⟩=some u∧w.frozen? ⟨xb,i,none⟩=false∧xb<w.heap.size:=
 ⟨(cell_of_row _ _ i _ _ _ h.at_).trans (by simpa using hu),frozen_of_row _ _ i _ _ h.at_,h.lt⟩
theorem zdA.put {rb xb:Nat} {W w:World} {T:TypeId} {row:List Value} (h:zdA rb W xb T row w) (i:Nat) (v:Value):zdA rb W xb T (row.set i v) (w.setCell ⟨xb,i,none⟩ v):=
 ⟨by have:=heap_setCell_same w xb i _ _ v h.at_;simpa using this,h.big,h.low⟩
theorem zdA.far {rb xb:Nat} {W w:World} {T:TypeId} {row:List Value} (h:zdA rb W xb T row w) {p:Addr} (hp:p.block≠xb) (v:Value):zdA rb W xb T row (w.setCell p v):=
 ⟨(Below.heap_setCell _ _ _ _ (fun e=>hp e.symm)).trans h.at_,h.big,h.low⟩
theorem zdA.below {rb xb:Nat} {W w w':World} {T:TypeId} {row:List Value} (h:zdA rb W xb T row w) (hb:Below w.heap.size w w'):zdA rb W xb T row w':=⟨(hb.block xb h.lt).trans h.at_,h.big,h.low⟩
theorem zdA.new {rb:Nat} {W w:World} {ts:List Tok} {s:InS} (hr:RIn rb ts s w) (hk:zam (fun k=>k=rb) W w) (T:TypeId) (row:List Value):zdA rb W w.heap.size T row (w.alloc (.cells row.toArray T)):=
 ⟨heap_alloc_new w _,hk.size,hr.lt⟩
theorem RIn.alloc {rb:Nat} {ts:List Tok} {s:InS} {w:World} (h:RIn rb ts s w) (o:Obj):RIn rb ts s (w.alloc o):=h.below ((Below.refl _ _).alloc (Nat.le_refl _) o)
theorem zfv {rb:Nat} {W w w':World} {T:TypeId} {size n:Nat} {v:Value} {xs:List Value} (h:w.ownsRow W.heap.size T size v n xs) (hl:rb<W.heap.size) (hk:zam (fun k=>k=rb) w w'):w'.ownsRow W.heap.size T size v n xs:=
 zai h (fun g hg hb=>hk.block g (zaj h hg).2 (by omega))
theorem zco (rb:Nat) (x:ByteArray) (t:List UInt8) (hx:x.data.toList=t) (ts:List Tok) (s:InS) (W:World) (H:Hid (RIn rb ts s W)) (hts:ts.length≤1000000):
 Calls prog 124 #[.pointer (some ⟨rb,0,none⟩),.string x] W fun e W'=>e= .returned (.tuple #[])∧RIn rb ts (zaR t s).2 W'∧zam (fun k=>k=rb) W W':=by subst hx;exact zc9 rb x ts s W H hts
theorem zkt (rb:Nat) (x:ByteArray) (t:List UInt8) (hx:x.data.toList=t) (ts:List Tok) (s:InS) (W:World) (H:Hid (RIn rb ts s W)) (hts:ts.length≤1000000):
 Calls prog 125 #[.pointer (some ⟨rb,0,none⟩),.string x] W fun e W'=>e= .returned (.bool (isR t s).1)∧RIn rb ts (isR t s).2 W'∧zam (fun k=>k=rb) W W':=by subst hx;exact zlH rb x ts s W H hts
theorem zdI (rb:Nat) (ts:List Tok) (s:InS) (W:World) (H:Hid (RIn rb ts s W)) (hts:ts.length≤1000000):
 Calls prog 129 #[.pointer (some ⟨rb,0,none⟩)] W fun e W'=>e= .returned (.string ⟨(zb4 s).1.toArray⟩)∧RIn rb ts (zb4 s).2 W'∧zam (fun k=>k=rb) W W':=by
 have HH:=zaa (zdc rb ts s W H hts);by_cases hk:s.here.kind=1
 ·obtain⟨_,hr⟩:=zgs H.out (by omega)
  have HN:=zaa (show zb4 s=(s.here.text,s.step) from if_pos (by simpa using hk));rw[HN.out];have HR:=zaa hr;clear hr HN;generalize s.here=t at *;obtain⟨tk,tx,ta⟩:=t;dsimp only at hk ⊢;subst hk;unfold zbI at HH
  go_enter func129,ntmps129
  go_wp2_with fail;refine HH.out.mono ?_;rintro e w1 ⟨rfl,hb⟩;have hb2:=hb.alloc hb.size (.cells #[.int .i64 1,.string ⟨tx.toArray⟩,.int .i64 (ta:Int)] 192);obtain⟨j,hj,c1, -⟩:=(H.out.below hb2).step HR.out;obtain⟨j',hj',c1',hR⟩:=(H.out.below hb).step HR.out;have hjj:j'=j:=by
   have:=(World.cell?_alloc_lt w1 (.cells #[.int .i64 1,.string ⟨tx.toArray⟩,.int .i64 (ta:Int)] 192) ⟨rb,1,none⟩ (H.out.below hb).lt).symm.trans c1;rw[c1'] at this;injection this with this
   injection this with _ this
   omega
  rw[hjj] at hR;clear c1' hj' hjj;have HK:=zaa ((zbQ (F:=fun k=>k=rb) hb).trans ((zam.refl (fun k=>k=rb) w1).setCell (p:=⟨rb,1,none⟩) (.inl rfl) (.int .i64 ((j:Int)+1))));have f1:=(H.out.below hb2).free 1 (by decide);have l1:=(H.out.below hb2).lt;have l2:=(H.out.below hb).lt;have c5:((w1.alloc (.cells #[.int .i64 1,.string ⟨tx.toArray⟩,.int .i64 (ta:Int)] 192)).setCell ⟨rb,1,none⟩ (.int .i64 ((j:Int)+1))).cell? ⟨w1.heap.size,1,none⟩=some (.string ⟨tx.toArray⟩):=by
   rw[World.cell?_setCell_other _ _ _ _ (fun e=>by injection e with e _ _;omega),cell_of_row _ _ _ _ _ _ (heap_alloc_new w1 _)]
   rfl
  have HR2:=zaa hR;clear hR hb hb2;go_wp2_with fail;go_ret;exact⟨rfl,HR2.out.below ((Below.refl _ _).alloc (Nat.le_refl _) _),HK.out.trans (zbQ ((Below.refl _ _).alloc (Nat.le_refl _) _))⟩
 ·have HN:=zaa (show zb4 s=([],(zb9 80 s).2) from if_neg (by simpa using hk))
  rw[HN.out];have e1:((s.here.kind:Int) != 1)=true:=by simp;omega
  clear hk;unfold zbI at HH
  go_enter func129,ntmps129
  go_wp2_with fail;refine HH.out.mono ?_;rintro e w1 ⟨rfl,hb⟩;have hb2:=hb.alloc hb.size (.cells #[.int .i64 (s.here.kind:Int),.string ⟨s.here.text.toArray⟩,.int .i64 (s.here.at_:Int)] 192);have H1:=zaa (H.out.below hb2);have HB:=zaa hb2;clear hb hb2;go_wp2_with fail;refine(zdh rb 80 ts s _ H1 hts).mono ?_;rintro e w2 ⟨rfl,h1,h2⟩;have H3:=zaa h1;have H4:=zaa h2;clear h1 h2;go_wp2_with fail;go_ret;exact⟨rfl,H3.out,(zbQ HB.out).trans H4.out⟩
theorem zj2 (rb:Nat) (x:ByteArray) (ts:List Tok) (s:InS) (W:World) (H:Hid (RIn rb ts s W)) (hts:ts.length≤1000000) (HT:Hid (zhK ts)):
 Calls prog 131 #[.pointer (some ⟨rb,0,none⟩),.string x] W fun e W'=>e= .returned (.int .i64 (zbi x.data.toList s).1)∧RIn rb ts (zbi x.data.toList s).2 W'∧zam (fun k=>k=rb) W W':=by
 obtain⟨⟨u,s1⟩,h1⟩: ∃p,zaR x.data.toList s=p:=⟨_,rfl⟩;have HC:=zaa (zc9 rb x ts s W H hts);rw[h1] at HC;dsimp only at HC;rw[show zbi x.data.toList s=zcW s1 from zcv h1]
 go_enter func131,ntmps131
 go_wp2_with fail;refine HC.out.mono ?_;rintro e w1 ⟨rfl,hr,hk⟩;have HR:=zaa hr;have HK:=zaa hk;clear hr hk;go_wp2_with fail;refine(zcJ rb ts s1 w1 HR hts HT).mono ?_;rintro e w2 ⟨rfl,hr,hk⟩;have HR:=zaa hr;have HK:=zaa (HK.out.trans hk);clear hr hk;go_wp2_with fail;go_ret;exact⟨rfl,HR.out,HK.out⟩
theorem zcI (rb:Nat) (x:ByteArray) (t:List UInt8) (hx:x.data.toList=t) (ts:List Tok) (s:InS) (W:World) (H:Hid (RIn rb ts s W)) (hts:ts.length≤1000000) (HT:Hid (zhK ts)):
 Calls prog 131 #[.pointer (some ⟨rb,0,none⟩),.string x] W fun e W'=>e= .returned (.int .i64 (zbi t s).1)∧RIn rb ts (zbi t s).2 W'∧zam (fun k=>k=rb) W W':=by subst hx;exact zj2 rb x ts s W H hts HT
theorem zoZ (rb:Nat) (ts:List Tok) (s:InS) (W:World) (H:Hid (RIn rb ts s W)) (hts:ts.length≤1000000):
 Calls prog 130 #[.pointer (some ⟨rb,0,none⟩)] W fun e W'=>e= .returned (.int .i64 (zn7 s).1)∧RIn rb ts (zn7 s).2 W'∧zam (fun k=>k=rb) W W':=by
 obtain⟨⟨u,s1⟩,h1⟩: ∃p,zaR [110,101,116] s=p:=⟨_,rfl⟩;have HC:=zaa (zco rb ⟨#[110,101,116]⟩ [110,101,116] rfl ts s W H hts);rw[h1] at HC;have hN:(zba zcG s1).1≤2:=by
  unfold zba
  split
  ·exact zdT zcG _
  ·exact Nat.zero_le _
 obtain⟨⟨n,s2⟩,h2⟩: ∃p,zba zcG s1=p:=⟨_,rfl⟩;rw[h2] at hN;dsimp only at hN HC;have n0:(n:Int)≤2:=by omega
 have n1:(0:Int)≤(n:Int):=by omega
 have HC2:=zaa (fun V h=>zb7 rb ⟨#[97,32,98]⟩ zcG zke (by decide) (by decide) ts s1 V h hts);simp only[h2] at HC2;rw[show zn7 s=((n:Int)-1,s2) from(zcv h1).trans (zcv h2)]
 go_enter func130,ntmps130
 go_wp2_with fail;refine HC.out.mono ?_;rintro e w1 ⟨rfl,hr,hk⟩;have HR:=zaa hr;have HK:=zaa hk;clear hr hk;go_wp2_with fail;refine(HC2.out w1 HR).mono ?_;rintro e w2 ⟨rfl,hr,hk⟩;have HR:=zaa hr;have HK:=zaa (HK.out.trans hk);clear hr hk;go_wp2_with fail;go_ret;exact⟨rfl,HR.out,HK.out⟩
theorem zjf (rb:Nat) (ts:List Tok) (s:InS) (W:World) (H:Hid (RIn rb ts s W)) (hts:ts.length≤1000000):
 Calls prog 127 #[.pointer (some ⟨rb,0,none⟩)] W fun e W'=>e= .returned (zbY (zhQ s).1)∧RIn rb ts (zhQ s).2 W'∧zam (fun k=>k=rb) W W':=by
 have HX:=zaa (zdA.new H.out (zam.refl _ _) 130 [.string ⟨#[]⟩,.string ⟨#[]⟩,.string ⟨#[]⟩]);have HR:=zaa (H.out.alloc (.cells #[.string ⟨#[]⟩,.string ⟨#[]⟩,.string ⟨#[]⟩] 130));have HK:=zaa ((zam.refl (fun k=>k=rb) W).alloc (.cells #[.string ⟨#[]⟩,.string ⟨#[]⟩,.string ⟨#[]⟩] 130))
 go_enter func127,ntmps127
 go_wp2_with fail;obtain⟨⟨a,s1⟩,h⟩: ∃p,zb4 s=p:=⟨_,rfl⟩;have HC:=zaa (zdI rb ts s _ HR hts);rw[h] at HC;dsimp only at HC;refine HC.out.mono ?_;clear HC;rintro e w1 ⟨rfl,hr,hk⟩;replace HP:=zaa (zcv h:zhQ s=_);replace HX:=zaa (HX.out.call hk);replace HR:=zaa hr;replace HK:=zaa (HK.out.trans hk);clear hr hk h;go_wp2_with fail;obtain⟨⟨u,s2⟩,h⟩: ∃p,zaR [46] s1=p:=⟨_,rfl⟩;have HC:=zaa (zco rb ⟨#[46]⟩ [46] rfl ts s1 _ HR hts);rw[h] at HC;dsimp only at HC;refine HC.out.mono ?_;clear HC;rintro e w1 ⟨rfl,hr,hk⟩;replace HP:=zaa (HP.out.trans (zcv h));replace HX:=zaa (HX.out.call hk);replace HR:=zaa hr;replace HK:=zaa (HK.out.trans hk);clear hr hk h;go_wp2_with fail;obtain⟨⟨b,s3⟩,h⟩: ∃p,zb4 s2=p:=⟨_,rfl⟩;have HC:=zaa (zdI rb ts s2 _ HR hts);rw[h] at HC;dsimp only at HC;refine HC.out.mono ?_;clear HC;rintro e w1 ⟨rfl,hr,hk⟩;replace HP:=zaa (HP.out.trans (zcv h));replace HX:=zaa (HX.out.call hk);replace HR:=zaa hr;replace HK:=zaa (HK.out.trans hk);clear hr hk h;go_wp2_with fail;obtain⟨⟨u',s4⟩,h⟩: ∃p,zaR [46] s3=p:=⟨_,rfl⟩;have HC:=zaa (zco rb ⟨#[46]⟩ [46] rfl ts s3 _ HR hts);rw[h] at HC;dsimp only at HC;refine HC.out.mono ?_;clear HC;rintro e w1 ⟨rfl,hr,hk⟩;replace HP:=zaa (HP.out.trans (zcv h));replace HX:=zaa (HX.out.call hk);replace HR:=zaa hr;replace HK:=zaa (HK.out.trans hk);clear hr hk h;go_wp2_with fail;obtain⟨⟨c,s5⟩,h⟩: ∃p,zb4 s4=p:=⟨_,rfl⟩;have HC:=zaa (zdI rb ts s4 _ HR hts);rw[h] at HC;dsimp only at HC;refine HC.out.mono ?_;clear HC;rintro e w1 ⟨rfl,hr,hk⟩;replace HP:=zaa (HP.out.trans (zcv h));replace HX:=zaa (HX.out.call hk);replace HR:=zaa hr;replace HK:=zaa (HK.out.trans hk);clear hr hk h;obtain⟨c0,c1,c2,f0,f1,f2⟩:=zoT HX.out.at_ rfl;have hl:=HX.out.lt;go_wp2_with fail;refine bodyPost_ret (v:=zbY ⟨a,b,c⟩) (by simp[results,Tryz.results127,go_sem,zbY,c0,c1,c2]) rfl ?_;rw[show zhQ s=(⟨a,b,c⟩,s5) from HP.out];exact⟨rfl,((HR.out.far HX.out.low _).far HX.out.low _).far HX.out.low _,((HK.out.setCell (.inr HX.out.big) _).setCell (.inr HX.out.big) _).setCell (.inr HX.out.big) _⟩
attribute [local go_sem] zax.cell zbY
def znk {α:Type} (rb:Nat) (ts:List Tok) (W:World) (T:TypeId) (size:Nat) (cells:α→List Value) (x:List α×InS) (e:Ending) (W':World):Prop:=
 ∃v,e= .returned v∧RIn rb ts x.2 W'∧zam (fun k=>k=rb) W W'∧W'.ownsRow W.heap.size T size v x.1.length (x.1.flatMap cells)
theorem ziE {α:Type} {x:Rf α} {f:Nat} {acc:List α} {s s1 s2:InS} {a:α} (h:isR [44] s=(true,s1)) (h2:x s1=(a,s2)):zfz x (f+1) acc s=zfz x f (acc++[a]) s2:=(zcv h).trans (zcv h2)
theorem zoC {t:List UInt8} {s s1:InS} (h:isR t s=(false,s1)):s1=s:=by
 unfold isR at h
 split at h
 ·injection h with h _;cases h
 ·injection h with _ h;exact h.symm
theorem zk6 {t:List UInt8} {s s1:InS} (h:isR t s=(true,s1)):s.err=0∧s1.err=0∧s1.r.length<s.r.length:=by
 unfold isR at h
 split at h
 ·rename_i hs
  injection h with _ h
  have he:s.err=0:=by
   by_cases e:s.err=0
   ·exact e
   ·rw[InS.sees_no e] at hs;cases hs
  have:=zgO hs;subst h;refine⟨he,he,?_⟩
  show s.r.tail.length<_
  cases hr:s.r with
  |nil=>exact absurd hr this
  |cons t r=>simp
 ·injection h with h _;cases h
theorem zge {α:Type} {x:Rf α} {f:Nat} {acc:List α} {s s1:InS} (h:isR [44] s=(false,s1)):zfz x f acc s=(acc,s1):=by
 cases f with
 |zero=>rw[zoC h];rfl
 |succ f=>exact zcv h
theorem zdM {α:Type} {m:Ps α} {n:Rf α} (ha:zaY m n) (hl:LT m) {s s1:InS} {a:α} (h:n s=(a,s1)) (hs:s.err=0):s1.err=0→s1.r.length<s.r.length:=by
 intro h1;have hf:=ha.fine s hs;rw[h] at hf
 cases hp:m s.r with
 |ok a r=>
  rw[hp] at hf;injection hf with _ e
  rw[e];exact hl _ _ _ hp
 |bad e r=>
  rw[hp] at hf;exact absurd h1 (by rw[hf.2.1];exact hf.1)
theorem zeA:(prog.info? 3).map (fun i=>(i.zero,i.size,i.bytes))=some (some (.int .i64 0),1,8):=by kernel_rfl
theorem zne (rb:Nat) (ts:List Tok) (s:InS) (W:World) (H:Hid (RIn rb ts s W)) (hts:ts.length≤1000000)(HT:Hid (zhK ts)):
 Calls prog 181 #[.pointer (some ⟨rb,0,none⟩)] W (znk rb ts W 3 1 (fun n:Int=>[Value.int .i64 n]) (zeM zcW s)):=by
 obtain⟨i0,hi0,hz0,hz1,hz2⟩:=info_parts zeA;have hrb:=H.out.lt;obtain⟨⟨a,s1⟩,h1⟩: ∃p,zcW s=p:=⟨_,rfl⟩;have hL:zeM zcW s=zfz zcW (s1.r.length+1) [a] s1:=zcv h1;have hf:s1.err=0→s1.r.length<ts.length:=fun h0=>by
  have h00:s.err=0:=by
   by_cases e:s.err=0
   ·exact e
   ·have:=zbD.stay s e;rw[h1] at this;dsimp only at this;rw[this] at h0;exact h0
  have:=zdM zbD zcB h1 h00 h0;have:=H.out.few
  omega
 have HC:=zaa (zcJ rb ts s W H hts HT);rw[h1] at HC;dsimp only at HC
 go_enter func181,ntmps181
 go_wp2_with fail;refine HC.out.mono ?_;clear HC;rintro e w1 ⟨rfl,hr,hk⟩;have hsz:=hk.size;have HR:=zaa (hr.alloc (.cells #[.int .i64 a] 3));have HK:=zaa (hk.alloc (.cells #[.int .i64 a] 3));have HO:=zaa (World.ownsRow_lit (base:=W.heap.size) (e:=3) (size:=1) w1 #[.int .i64 a] 1 hsz (by decide) (by simp));clear hr hk h1;go_wp2_with fail
 go_loopw [3] (fun v3 wr=> ∃(acc:List _) (s1:InS) (f:Nat),(s1.err=0→s1.r.length<f∧acc.length+s1.r.length≤ts.length)∧acc.length≤ts.length+1∧zeM zcW s=zfz zcW f acc s1∧RIn rb ts s1 wr∧zam (fun k=>k=rb) W wr∧wr.ownsRow W.heap.size 3 1 v3 acc.length (acc.flatMap (fun n:Int=>[Value.int .i64 n]))) (fun v3 _=>ts.length+1-zlg v3)
 case atStart=>exact⟨[a],s1,_,fun h0=>⟨Nat.lt_succ_self _,by have:=hf h0;simp;omega⟩,by simp,hL,HR.out,HK.out,HO.out⟩
 case round=>
  clear HR HK HO hL hf;obtain⟨acc,s1,f,hf,hal,hC,hR,hK,hO⟩:=hrel;obtain⟨Q,qc,rfl⟩:=zah hO;have HC:=zaa (zkt rb ⟨#[44]⟩ [44] rfl ts s1 wr (zaa hR) hts);obtain⟨⟨b,s2⟩,h2⟩: ∃p,isR [44] s1=p:=⟨_,rfl⟩;rw[h2] at HC;dsimp only at HC;have HK:=zaa hK;have HO:=zaa hO;have HE:=zaa hC;clear hR hK hO hC;go_wp2_with fail;refine HC.out.mono ?_;clear HC;rintro e w2 ⟨rfl,hr,hk⟩;have HR:=zaa hr;have HO:=zaa (zfv HO.out hrb hk);have HK:=zaa (HK.out.trans hk);clear hr hk
  cases b with
  |false=>
   have HE:=zaa (HE.out.trans (zge h2));clear h2 hf;go_wp2_with fail;refine bodyPost_ret (v:= .slice Q acc.length qc) (by simp[results,Tryz.results181,go_sem]) rfl ?_;rw[HE.out];exact⟨_,rfl,HR.out,HK.out,HO.out⟩
  |true=>
   obtain⟨e0,e1,e2⟩:=zk6 h2;obtain⟨f0,f1⟩:=hf e0;obtain⟨f,rfl⟩: ∃f',f=f'+1:=⟨f-1,by omega⟩;have HC:=zaa (zcJ rb ts s2 w2 HR hts HT);obtain⟨⟨a,s3⟩,h3⟩: ∃p,zcW s2=p:=⟨_,rfl⟩;rw[h3] at HC;dsimp only at HC;have HE:=zaa (HE.out.trans (ziE h2 h3));have hl3:=zdM zbD zcB h3 e1;clear h2 h3 hf;go_wp2_with fail;refine HC.out.mono ?_;clear HC;rintro e w3 ⟨rfl,hr,hk⟩;have HR:=zaa hr;have HO:=zaa (zfv HO.out hrb hk);have HK:=zaa (HK.out.trans hk);clear hr hk;have hsz:=HK.out.size;go_wp2_with(first
    |(at_builtin;refine wpList_append_own _ rfl _ _ 47 rfl W.heap.size 3 i0 (.int .i64 0) 1 8 underlying47 hi0 hz0 hz1 hz2 rfl (by decide) _ _ _ rfl (HO.out.alloc _) ⟨w3.heap.size,0,none⟩ 1 1 [.int .i64 a] rfl rfl (zbB (by simp)) (by simp[Value.oneCell']) (by unfold maxLen;omega) (by omega) (by simp;omega) ?_;intro v' w9 hown' hgrow _))
   have hG0:Below W.heap.size w3 w9:=Below.grown ((Below.refl _ w3).alloc hsz _) hgrow (by simp;omega) (fun g hg=>(zaj HO.out hg).1);have hG1:zam (fun b=>W.heap.size≤b) w3 w9:=⟨hG0.os,hG0.tape,hG0.output,hG0.size,fun i _ hn=>hG0.block i (by omega)⟩;have HRn:=zaa (HR.out.kept hG1 (fun b hb=>by omega));have HKn:=zaa (HK.out.trans2 hG1 (fun i hi h=>by omega));have HOn:=zaa hown';clear hG0 hG1 hown' hgrow HR HK HO
   try go_wp2_with fail
   go_roundw
   case rel=>exact⟨acc++[a],s3,f,fun h0=>by have:=hl3 h0;simp;omega,by simp;omega,HE.out,HRn.out,HKn.out,by simpa using HOn.out⟩
   case measure=>
    obtain⟨_,_,rfl⟩:=zah HOn.out;simp[zlg]
    omega
theorem zfY:(prog.info? 130).map (fun i=>(i.zero,i.size,i.bytes))=some (some (.agg #[.string ⟨#[]⟩,.string ⟨#[]⟩,.string ⟨#[]⟩]),3,48):=by kernel_rfl
theorem zoz (rb:Nat) (ts:List Tok) (s:InS) (W:World) (H:Hid (RIn rb ts s W)) (hts:ts.length≤1000000):
 Calls prog 128 #[.pointer (some ⟨rb,0,none⟩)] W (znk rb ts W 130 3 (fun r:zeJ=>[Value.string ⟨r.m.toArray⟩,Value.string ⟨r.p.toArray⟩,Value.string ⟨r.o.toArray⟩]) (zeM zhQ s)):=by
 obtain⟨i0,hi0,hz0,hz1,hz2⟩:=info_parts zfY;have hrb:=H.out.lt;obtain⟨⟨a,s1⟩,h1⟩: ∃p,zhQ s=p:=⟨_,rfl⟩;have hL:zeM zhQ s=zfz zhQ (s1.r.length+1) [a] s1:=zcv h1;have hf:s1.err=0→s1.r.length<ts.length:=fun h0=>by
  have h00:s.err=0:=by
   by_cases e:s.err=0
   ·exact e
   ·have:=zcR.stay s e;rw[h1] at this;dsimp only at this;rw[this] at h0;exact h0
  have:=zdM zcR zeX h1 h00 h0;have:=H.out.few
  omega
 have HC:=zaa (zjf rb ts s W H hts);rw[h1] at HC;dsimp only at HC
 go_enter func128,ntmps128
 go_wp2_with fail;refine HC.out.mono ?_;clear HC;rintro e w1 ⟨rfl,hr,hk⟩;have hsz:=hk.size;have HR:=zaa (hr.alloc (.cells #[.string ⟨a.m.toArray⟩,.string ⟨a.p.toArray⟩,.string ⟨a.o.toArray⟩] 130));have HK:=zaa (hk.alloc (.cells #[.string ⟨a.m.toArray⟩,.string ⟨a.p.toArray⟩,.string ⟨a.o.toArray⟩] 130));have HO:=zaa (World.ownsRow_lit (base:=W.heap.size) (e:=130) (size:=3) w1 #[.string ⟨a.m.toArray⟩,.string ⟨a.p.toArray⟩,.string ⟨a.o.toArray⟩] 1 hsz (by decide) (by simp));clear hr hk h1;go_wp2_with fail
 go_loopw [3] (fun v3 wr=> ∃(acc:List _) (s1:InS) (f:Nat),(s1.err=0→s1.r.length<f∧acc.length+s1.r.length≤ts.length)∧acc.length≤ts.length+1∧zeM zhQ s=zfz zhQ f acc s1∧RIn rb ts s1 wr∧zam (fun k=>k=rb) W wr∧wr.ownsRow W.heap.size 130 3 v3 acc.length (acc.flatMap (fun r:zeJ=>[Value.string ⟨r.m.toArray⟩,Value.string ⟨r.p.toArray⟩,Value.string ⟨r.o.toArray⟩]))) (fun v3 _=>ts.length+1-zlg v3)
 case atStart=>exact⟨[a],s1,_,fun h0=>⟨Nat.lt_succ_self _,by have:=hf h0;simp;omega⟩,by simp,hL,HR.out,HK.out,HO.out⟩
 case round=>
  clear HR HK HO hL hf;obtain⟨acc,s1,f,hf,hal,hC,hR,hK,hO⟩:=hrel;obtain⟨Q,qc,rfl⟩:=zah hO;have HC:=zaa (zkt rb ⟨#[44]⟩ [44] rfl ts s1 wr (zaa hR) hts);obtain⟨⟨b,s2⟩,h2⟩: ∃p,isR [44] s1=p:=⟨_,rfl⟩;rw[h2] at HC;dsimp only at HC;have HK:=zaa hK;have HO:=zaa hO;have HE:=zaa hC;clear hR hK hO hC;go_wp2_with fail;refine HC.out.mono ?_;clear HC;rintro e w2 ⟨rfl,hr,hk⟩;have HR:=zaa hr;have HO:=zaa (zfv HO.out hrb hk);have HK:=zaa (HK.out.trans hk);clear hr hk
  cases b with
  |false=>
   have HE:=zaa (HE.out.trans (zge h2));clear h2 hf;go_wp2_with fail;refine bodyPost_ret (v:= .slice Q acc.length qc) (by simp[results,Tryz.results128,go_sem]) rfl ?_;rw[HE.out];exact⟨_,rfl,HR.out,HK.out,HO.out⟩
  |true=>
   obtain⟨e0,e1,e2⟩:=zk6 h2;obtain⟨f0,f1⟩:=hf e0;obtain⟨f,rfl⟩: ∃f',f=f'+1:=⟨f-1,by omega⟩;have HC:=zaa (zjf rb ts s2 w2 HR hts);obtain⟨⟨a,s3⟩,h3⟩: ∃p,zhQ s2=p:=⟨_,rfl⟩;rw[h3] at HC;dsimp only at HC;have HE:=zaa (HE.out.trans (ziE h2 h3));have hl3:=zdM zcR zeX h3 e1;clear h2 h3 hf;go_wp2_with fail;refine HC.out.mono ?_;clear HC;rintro e w3 ⟨rfl,hr,hk⟩;have HR:=zaa hr;have HO:=zaa (zfv HO.out hrb hk);have HK:=zaa (HK.out.trans hk);clear hr hk;have hsz:=HK.out.size;go_wp2_with(first
    |(at_builtin;refine wpList_append_own _ rfl _ _ 131 rfl W.heap.size 130 i0 (.agg #[.string ⟨#[]⟩,.string ⟨#[]⟩,.string ⟨#[]⟩]) 3 48 underlying131 hi0 hz0 hz1 hz2 rfl (by decide) _ _ _ rfl (HO.out.alloc _) ⟨w3.heap.size,0,none⟩ 1 1 [.string ⟨a.m.toArray⟩,.string ⟨a.p.toArray⟩,.string ⟨a.o.toArray⟩] rfl rfl (zbB (by simp)) (by simp[Value.oneCell']) (by unfold maxLen;omega) (by omega) (by simp;omega) ?_;intro v' w9 hown' hgrow _))
   have hG0:Below W.heap.size w3 w9:=Below.grown ((Below.refl _ w3).alloc hsz _) hgrow (by simp;omega) (fun g hg=>(zaj HO.out hg).1);have hG1:zam (fun b=>W.heap.size≤b) w3 w9:=⟨hG0.os,hG0.tape,hG0.output,hG0.size,fun i _ hn=>hG0.block i (by omega)⟩;have HRn:=zaa (HR.out.kept hG1 (fun b hb=>by omega));have HKn:=zaa (HK.out.trans2 hG1 (fun i hi h=>by omega));have HOn:=zaa hown';clear hG0 hG1 hown' hgrow HR HK HO
   try go_wp2_with fail
   go_roundw
   case rel=>exact⟨acc++[a],s3,f,fun h0=>by have:=hl3 h0;simp;omega,by simp;omega,HE.out,HRn.out,HKn.out,by simpa using HOn.out⟩
   case measure=>
    obtain⟨_,_,rfl⟩:=zah HOn.out;simp[zlg]
    omega
end Go.Proofs.YtlngbjphagnloaaGreatDoor
