/-
  parse: ParseSmall: names.-/
import Derived.Test.YtlngbjphagnloaaGreatDoorSmB
set_option maxHeartbeats 4000000
set_option maxRecDepth 100000
namespace Go.Proofs.YtlngbjphagnloaaGreatDoor
open Go.RowKit
attribute [local go_sem] zax.cell
theorem exec_cat {ρ:Operand→Value} {o:Oper} {x y:Operand} {X Y:ByteArray} {w:World} (ho:o.op= .binOp .add 9 x y 9) (hx:ρ x= .string X) (hy:ρ y= .string Y) (hz: ¬9223372036854775807<X.size+Y.size):(execOp ρ o).run Tryz.prog w= .ok (.value (.string (X++Y))) w:=by
 unfold execOp;rw[ho];simp[hx,hy,hz,go_sem]
theorem wpl_cat {ops:Array Oper} {rest:List Oper} {o:Oper} {a:Act} {w:World} {Q:Exit→Act→World→Prop} {x y:Operand} {X Y:ByteArray} {n m:Nat} (hg:o.guard=none) (ho:o.op= .binOp .add 9 x y 9) (hx:a.eval x= .string X) (hy:a.eval y= .string Y) (hn:X.size≤n) (hm:Y.size≤m) (hz:n+m≤1000000)
 (h: ∀S:ByteArray,S.size≤n+m→wpList Tryz.prog ops Q rest (a.put o.dst (.string S)) w):wpList Tryz.prog ops Q (o::rest) a w:=
 wpList_plain hg fun _ hK=>wp_valR (exec_cat ho hx hy (by omega)) (hK _ _ (h _ (by rw[ByteArray.size_append];omega)))
theorem wpl_move {ops:Array Oper} {rest:List Oper} {o:Oper} {a:Act} {w:World} {Q:Exit→Act→World→Prop} {x:Operand} {v:Value} (hg:o.guard=none) (ho:o.op= .move x) (hx:a.eval x=v)
 (h:wpList Tryz.prog ops Q rest (a.put o.dst v) w):wpList Tryz.prog ops Q (o::rest) a w:=
 wpList_plain hg fun _ hK=>wp_valR (by unfold execOp;rw[ho];simp[hx]) (hK _ _ h)
theorem names_len:(zbZ [109,111,100,117,108,101,32,112,97,114,116,32,105,110,32,111,117,116,32,115,101,109,97,115,32,112,114,111,99,32,116,111,32,110,101,101,100,115,32,117,110,108,101,115,115,32,108,101,118,101,108,32,112,114,111,99,101,115,115,32,110,101,116,32,115,116,111,112,32,110,101,120,116,32,111,110,32,99,97,117,115,101,32,119,111,114,107,115,32,119,105,116,104,32,102,114,111,109,32,115,119,105,116,99,104,32,108,105,110,107,32,118,108,32,99,104,97,110,110,101,108,32,109,101,109,32,97,32,98,32,100,111]).length=27∧ ∀x∈zbZ [109,111,100,117,108,101,32,112,97,114,116,32,105,110,32,111,117,116,32,115,101,109,97,115,32,112,114,111,99,32,116,111,32,110,101,101,100,115,32,117,110,108,101,115,115,32,108,101,118,101,108,32,112,114,111,99,101,115,115,32,110,101,116,32,115,116,111,112,32,110,101,120,116,32,111,110,32,99,97,117,115,101,32,119,111,114,107,115,32,119,105,116,104,32,102,114,111,109,32,115,119,105,116,99,104,32,108,105,110,107,32,118,108,32,99,104,97,110,110,101,108,32,109,101,109,32,97,32,98,32,100,111],x.length≤500:=by decide +kernel
theorem names_any (W:World) (hE:Hid (Env W)) (hP:Hid (zci W)):Calls Tryz.prog 32 #[] W fun e w'=>e= .returned (.bool true)∧Below W.heap.size W w':=by
 have HPA:=zaa (fun src V h1 h2=>parses_any src V h1 h2);have HSP:=zaa (psplit_any ⟨#[109,111,100,117,108,101,32,112,97,114,116,32,105,110,32,111,117,116,32,115,101,109,97,115,32,112,114,111,99,32,116,111,32,110,101,101,100,115,32,117,110,108,101,115,115,32,108,101,118,101,108,32,112,114,111,99,101,115,115,32,110,101,116,32,115,116,111,112,32,110,101,120,116,32,111,110,32,99,97,117,115,101,32,119,111,114,107,115,32,119,105,116,104,32,102,114,111,109,32,115,119,105,116,99,104,32,108,105,110,107,32,118,108,32,99,104,97,110,110,101,108,32,109,101,109,32,97,32,98,32,100,111]⟩ (by decide) W);have hn:(zbZ (⟨#[109,111,100,117,108,101,32,112,97,114,116,32,105,110,32,111,117,116,32,115,101,109,97,115,32,112,114,111,99,32,116,111,32,110,101,101,100,115,32,117,110,108,101,115,115,32,108,101,118,101,108,32,112,114,111,99,101,115,115,32,110,101,116,32,115,116,111,112,32,110,101,120,116,32,111,110,32,99,97,117,115,101,32,119,111,114,107,115,32,119,105,116,104,32,102,114,111,109,32,115,119,105,116,99,104,32,108,105,110,107,32,118,108,32,99,104,97,110,110,101,108,32,109,101,109,32,97,32,98,32,100,111]⟩:ByteArray).data.toList).length=27:=names_len.1;have hx: ∀x∈zbZ (⟨#[109,111,100,117,108,101,32,112,97,114,116,32,105,110,32,111,117,116,32,115,101,109,97,115,32,112,114,111,99,32,116,111,32,110,101,101,100,115,32,117,110,108,101,115,115,32,108,101,118,101,108,32,112,114,111,99,101,115,115,32,110,101,116,32,115,116,111,112,32,110,101,120,116,32,111,110,32,99,97,117,115,101,32,119,111,114,107,115,32,119,105,116,104,32,102,114,111,109,32,115,119,105,116,99,104,32,108,105,110,107,32,118,108,32,99,104,97,110,110,101,108,32,109,101,109,32,97,32,98,32,100,111]⟩:ByteArray).data.toList,x.length≤500:=names_len.2;unfold SplR at HSP;generalize zbZ (⟨#[109,111,100,117,108,101,32,112,97,114,116,32,105,110,32,111,117,116,32,115,101,109,97,115,32,112,114,111,99,32,116,111,32,110,101,101,100,115,32,117,110,108,101,115,115,32,108,101,118,101,108,32,112,114,111,99,101,115,115,32,110,101,116,32,115,116,111,112,32,110,101,120,116,32,111,110,32,99,97,117,115,101,32,119,111,114,107,115,32,119,105,116,104,32,102,114,111,109,32,115,119,105,116,99,104,32,108,105,110,107,32,118,108,32,99,104,97,110,110,101,108,32,109,101,109,32,97,32,98,32,100,111]⟩:ByteArray).data.toList=l at *;have HX:=zaa hx;clear hx
 go_enter Tryz.func32,Tryz.ntmps32
 go_wp2_with fail;refine HSP.out.mono ?_;rintro e w0 ⟨A,q,rfl,ho,hb⟩;have HO:=zaa ho;have HB:=zaa hb;clear ho hb HSP;go_wp2_with fail
 go_loopw [2] (fun v2 wr=> ∃i:Nat,v2= .int .i64 i∧i≤l.length∧Below W.heap.size W wr∧wr.ownsRow W.heap.size 9 1 (.slice A l.length q) l.length (ziI l)) (fun v2 _=>l.length-(intOf v2).toNat)
 case atStart=>exact⟨0,rfl,Nat.zero_le _,HB.out,HO.out⟩
 case round=>
  clear HB HO;obtain⟨i,rfl,hi,hb,ho⟩:=hrel;obtain⟨w1,rfl⟩: ∃w1,w1=wr:=⟨_,rfl⟩;have HB:=zaa hb;have HO:=zaa ho;clear hb ho;by_cases hlt:i<l.length
  case neg=>
   obtain rfl:i=l.length:=by omega
   go_wp2_with fail;go_ret;exact⟨rfl,HB.out⟩
  case pos=>
   obtain⟨x,hxx⟩:=zhG hlt;obtain⟨b,rfl,hb1,hc⟩:=zna HO.out (Below.refl _ _) hxx;have hxz:(⟨x.toArray⟩:ByteArray).size≤500:=by show x.toArray.size≤500;simpa using HX.out x (List.mem_of_getElem? hxx)
   clear hxx;generalize(⟨x.toArray⟩:ByteArray)=X at *;have k0:(0:Int)≤(i:Int):=by omega
   have k1:(i:Int)<(l.length:Int):=by omega
   have p42:=smZ (14+X.size);have p43:=smZ (14+X.size+5);have p44:=smZ (14+X.size+5+X.size);have p45:=smZ (14+X.size+5+X.size+4);have p46:=smZ (10+X.size);have p47:=smZ (10+X.size+1);have p48:=smZ (10+X.size+1+X.size);have p49:=smZ (10+X.size+1+X.size+26);go_upto_region 6 with fail
   refine wp_region_lit ?_;have hA:(⟨#[109,111,100,117,108,101,32]⟩:ByteArray).size≤600:=by decide
   refine wpl_move rfl rfl rfl ?_;simp only[Act.put,putA,putB,putC];refine wpl_cat rfl rfl rfl rfl hA hxz (by omega) (fun S hS=> ?_);simp only[Act.put,putA,putB,putC];refine wpl_cat (m:=600) rfl rfl rfl rfl hS (by decide) (by omega) (fun S hS=> ?_);simp only[Act.put,putA,putB,putC]
   iterate 20
    refine wpl_move rfl rfl rfl ?_;simp only[Act.put,putA,putB,putC];refine wpl_cat rfl rfl rfl rfl hS hxz (by omega) (fun S hS=> ?_);simp only[Act.put,putA,putB,putC];refine wpl_cat (m:=600) rfl rfl rfl rfl hS (by decide) (by omega) (fun S hS=> ?_);simp only[Act.put,putA,putB,putC]
   clear hS hA;go_wp2_with fail;refine(HPA.out _ w1 (zaa (hE.out.kept HB.out)) (zaa (hP.out.below HB.out))).mono ?_;rintro e w2 ⟨rfl,hb⟩;replace HO:=zaa (zai HO.out (fun g hg _=>hb.block g (zaj HO.out hg).2));replace HB:=zaa (btZ HB.out hb);clear hb;go_wp2_with fail;refine(HPA.out _ w2 (zaa (hE.out.kept HB.out)) (zaa (hP.out.below HB.out))).mono ?_;rintro e w3 ⟨rfl,hb⟩;replace HO:=zaa (zai HO.out (fun g hg _=>hb.block g (zaj HO.out hg).2));replace HB:=zaa (btZ HB.out hb);clear hb;go_wp2_with fail;refine(HPA.out _ w3 (zaa (hE.out.kept HB.out)) (zaa (hP.out.below HB.out))).mono ?_;rintro e w4 ⟨rfl,hb⟩;replace HO:=zaa (zai HO.out (fun g hg _=>hb.block g (zaj HO.out hg).2));replace HB:=zaa (btZ HB.out hb);clear hb;go_wp2_with fail;go_roundw
   case rel=>exact⟨i+1,by go_num,by omega,HB.out,HO.out⟩
   case measure=>simp[intOf];omega
end Go.Proofs.YtlngbjphagnloaaGreatDoor
