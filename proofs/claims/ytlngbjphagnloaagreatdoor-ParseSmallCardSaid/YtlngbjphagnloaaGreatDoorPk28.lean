/- Merged texts of the walks and of the plain laws on which the statement leans.-/
import Derived.Test.YtlngbjphagnloaaGreatDoorPk22
import Derived.Test.YtlngbjphagnloaaGreatDoorPk23
import Derived.Test.YtlngbjphagnloaaGreatDoorPk24
import Derived.Test.YtlngbjphagnloaaGreatDoorPk25
import Derived.Test.YtlngbjphagnloaaGreatDoorPk26
import Derived.Test.YtlngbjphagnloaaGreatDoorPk27
import Derived.Test.YtlngbjphagnloaaGreatDoorPk4
import Derived.Test.YtlngbjphagnloaaGreatDoorPk1
import Derived.Test.YtlngbjphagnloaaGreatDoorPk17
import Derived.Test.YtlngbjphagnloaaGreatDoorPk6
set_option maxHeartbeats 40000000
set_option maxRecDepth 100000
namespace Go.Proofs.YtlngbjphagnloaaGreatDoor
open Tryz
open Go.RowKit
open Go.ChangeMaps (setBlock)
attribute [local go_sem] zax.cell
def zfw:List (List UInt8):=[[109,111,100,117,108,101],[99,104,97,110,110,101,108],[115,119,105,116,99,104],[108,105,110,107],[118,108],[111,110],[99,97,117,115,101],[119,111,114,107,115]]
theorem zjq {ts:List Tok} (hT:zbS ts) (j:Nat) (c:zaK) (hw:(hdT (ts.drop j)).text=[109,111,100,117,108,101]):zb1 c (ts.drop j)=(zf9 >>= fun x=>pure {c with modules:=c.modules++[x]}) (ts.drop (j+1)):=by
 unfold zb1;rw[zak hT j 109 [111,100,117,108,101] (by decide),hw];exact zac (show zb2 (ts.drop j)= .ok () (ts.drop (j+1)) from congrArg (Res.ok ()) (by simp))
theorem zie {ts:List Tok} (hT:zbS ts) (j:Nat) (c:zaK) (hw:(hdT (ts.drop j)).text=[99,104,97,110,110,101,108]):zb1 c (ts.drop j)=(zdW >>= fun x=>pure {c with channels:=c.channels++[x]}) (ts.drop (j+1)):=by
 unfold zb1;rw[zak hT j 109 [111,100,117,108,101] (by decide),zak hT j 99 [104,97,110,110,101,108] (by decide),hw];exact zac (show zb2 (ts.drop j)= .ok () (ts.drop (j+1)) from congrArg (Res.ok ()) (by simp))
theorem zjP {ts:List Tok} (hT:zbS ts) (j:Nat) (c:zaK) (hw:(hdT (ts.drop j)).text=[115,119,105,116,99,104]):zb1 c (ts.drop j)=(swP >>= fun x=>pure {c with switches:=c.switches++[x]}) (ts.drop (j+1)):=by
 unfold zb1;rw[zak hT j 109 [111,100,117,108,101] (by decide),zak hT j 99 [104,97,110,110,101,108] (by decide),zak hT j 115 [119,105,116,99,104] (by decide),hw];exact zac (show zb2 (ts.drop j)= .ok () (ts.drop (j+1)) from congrArg (Res.ok ()) (by simp))
theorem zl7 {ts:List Tok} (hT:zbS ts) (j:Nat) (c:zaK) (hw:(hdT (ts.drop j)).text=[108,105,110,107]):zb1 c (ts.drop j)=(zbc >>= fun x=>pure {c with links:=c.links++[x]}) (ts.drop (j+1)):=by
 unfold zb1;rw[zak hT j 109 [111,100,117,108,101] (by decide),zak hT j 99 [104,97,110,110,101,108] (by decide),zak hT j 115 [119,105,116,99,104] (by decide),zak hT j 108 [105,110,107] (by decide),hw];exact zac (show zb2 (ts.drop j)= .ok () (ts.drop (j+1)) from congrArg (Res.ok ()) (by simp))
theorem zoo {ts:List Tok} (hT:zbS ts) (j:Nat) (c:zaK) (hw:(hdT (ts.drop j)).text=[118,108]):zb1 c (ts.drop j)=(vlP >>= fun x=>pure {c with vls:=c.vls++[x]}) (ts.drop (j+1)):=by
 unfold zb1;rw[zak hT j 109 [111,100,117,108,101] (by decide),zak hT j 99 [104,97,110,110,101,108] (by decide),zak hT j 115 [119,105,116,99,104] (by decide),zak hT j 108 [105,110,107] (by decide),zak hT j 118 [108] (by decide),hw];exact zac (show zb2 (ts.drop j)= .ok () (ts.drop (j+1)) from congrArg (Res.ok ()) (by simp))
theorem zoN {ts:List Tok} (hT:zbS ts) (j:Nat) (c:zaK) (hw:(hdT (ts.drop j)).text=[111,110]):zb1 c (ts.drop j)=(zaD >>= fun x=>pure {c with health:=c.health++[x]}) (ts.drop (j+1)):=by
 unfold zb1;rw[zak hT j 109 [111,100,117,108,101] (by decide),zak hT j 99 [104,97,110,110,101,108] (by decide),zak hT j 115 [119,105,116,99,104] (by decide),zak hT j 108 [105,110,107] (by decide),zak hT j 118 [108] (by decide),zak hT j 111 [110] (by decide),hw];exact zac (show zb2 (ts.drop j)= .ok () (ts.drop (j+1)) from congrArg (Res.ok ()) (by simp))
theorem zkL {ts:List Tok} (hT:zbS ts) (j:Nat) (c:zaK) (hw:(hdT (ts.drop j)).text=[99,97,117,115,101]):zb1 c (ts.drop j)=(zcg >>= fun x=>pure {c with causes:=c.causes++[x]}) (ts.drop (j+1)):=by
 unfold zb1;rw[zak hT j 109 [111,100,117,108,101] (by decide),zak hT j 99 [104,97,110,110,101,108] (by decide),zak hT j 115 [119,105,116,99,104] (by decide),zak hT j 108 [105,110,107] (by decide),zak hT j 118 [108] (by decide),zak hT j 111 [110] (by decide),zak hT j 99 [97,117,115,101] (by decide),hw];exact zac (show zb2 (ts.drop j)= .ok () (ts.drop (j+1)) from congrArg (Res.ok ()) (by simp))
theorem zlu {ts:List Tok} (hT:zbS ts) (j:Nat) (c:zaK) (hw:(hdT (ts.drop j)).text=[119,111,114,107,115]):zb1 c (ts.drop j)=(zbq >>= fun x=>pure {c with versions:=c.versions++[x]}) (ts.drop (j+1)):=by
 unfold zb1;rw[zak hT j 109 [111,100,117,108,101] (by decide),zak hT j 99 [104,97,110,110,101,108] (by decide),zak hT j 115 [119,105,116,99,104] (by decide),zak hT j 108 [105,110,107] (by decide),zak hT j 118 [108] (by decide),zak hT j 111 [110] (by decide),zak hT j 99 [97,117,115,101] (by decide),zak hT j 119 [111,114,107,115] (by decide),hw];exact zac (show zb2 (ts.drop j)= .ok () (ts.drop (j+1)) from congrArg (Res.ok ()) (by simp))
theorem zms {ts:List Tok} (hT:zbS ts) (j:Nat) (c:zaK) (hw:(hdT (ts.drop j)).text∉zfw):zb1 c (ts.drop j)= .bad 80 (ts.drop j):=by
 simp only[zfw,List.mem_cons,List.not_mem_nil,or_false,not_or] at hw;obtain⟨h0,h1,h2,h3,h4,h5,h6,h7⟩:=hw;unfold zb1;rw[zak hT j 109 [111,100,117,108,101] (by decide),zak hT j 99 [104,97,110,110,101,108] (by decide),zak hT j 115 [119,105,116,99,104] (by decide),zak hT j 108 [105,110,107] (by decide),zak hT j 118 [108] (by decide),zak hT j 111 [110] (by decide),zak hT j 99 [97,117,115,101] (by decide),zak hT j 119 [111,114,107,115] (by decide),beq_eq_false_iff_ne.2 h0,beq_eq_false_iff_ne.2 h1,beq_eq_false_iff_ne.2 h2,beq_eq_false_iff_ne.2 h3,beq_eq_false_iff_ne.2 h4,beq_eq_false_iff_ne.2 h5,beq_eq_false_iff_ne.2 h6,beq_eq_false_iff_ne.2 h7]
 rfl
theorem zlo {c c':zaK} {r r':List Tok} (e:zb1 c r= .ok c' r'):c'.count≤c.count+1:=by
 have hs: ∀{α:Type} (m:Ps α) (g:α→zaK),(∀a,(g a).count≤c.count+1)→(zb2 >>= fun _=>m >>= fun x=>pure (g x)) r= .ok c' r'→c'.count≤c.count+1:=fun m g hg e=>(zck.then (Q:=fun a:zaK=>a.count≤c.count+1) fun _=> .then fun x=> .ret (hg x)) r c' r' e
 unfold zb1 at e
 split at e
 ·exact hs zf9 (fun x=>{c with modules:=c.modules++[x]}) (fun a=>by simp[zaK.count];omega) e
 split at e
 ·exact hs zdW (fun x=>{c with channels:=c.channels++[x]}) (fun a=>by simp[zaK.count];omega) e
 split at e
 ·exact hs swP (fun x=>{c with switches:=c.switches++[x]}) (fun a=>by simp[zaK.count];omega) e
 split at e
 ·exact hs zbc (fun x=>{c with links:=c.links++[x]}) (fun a=>by simp[zaK.count];omega) e
 split at e
 ·exact hs vlP (fun x=>{c with vls:=c.vls++[x]}) (fun a=>by simp[zaK.count];omega) e
 split at e
 ·exact hs zaD (fun x=>{c with health:=c.health++[x]}) (fun a=>by simp[zaK.count];omega) e
 split at e
 ·exact hs zcg (fun x=>{c with causes:=c.causes++[x]}) (fun a=>by simp[zaK.count];omega) e
 split at e
 ·exact hs zbq (fun x=>{c with versions:=c.versions++[x]}) (fun a=>by simp[zaK.count];omega) e
 ·cases e
theorem zc3 (w:World) (tb:Nat) (htb:tb=w.heap.size) (es:Array MapEntry) (c:Nat) (K:ByteArray) (v:Value) (hf:Instr.findNow .string (.string K) es.toList 0=some none):
 (Instr.mapUpdate 125 (.map (some tb)) (.string K) v).run prog (w.alloc (.map es c))= .ok () (w.alloc (.map (es.push {key:= .string K,val:=v,born:=c}) (c+1))):=by
 subst htb;have hb:=heap_alloc_new w (.map es c);have hs:=ze3 w (.map es c) (.map (es.push {key:= .string K,val:=v,born:=c}) (c+1));unfold setBlock at hs;simp[Instr.mapUpdate,run_underlying underlying125,MapKept.run_getObj_map hb,zdr,Instr.findKey,run_underlying underlying9,hf,MapKept.run_setObj_map _ hb,Result.andThen];exact hs
def znj:Array MapEntry:= #[⟨.string ⟨#[109,111,100,117,108,101]⟩,.func (.func 57) #[] #[],0⟩,⟨.string ⟨#[99,104,97,110,110,101,108]⟩,.func (.func 58) #[] #[],1⟩,⟨.string ⟨#[115,119,105,116,99,104]⟩,.func (.func 59) #[] #[],2⟩,⟨.string ⟨#[108,105,110,107]⟩,.func (.func 60) #[] #[],3⟩,⟨.string ⟨#[118,108]⟩,.func (.func 61) #[] #[],4⟩,⟨.string ⟨#[111,110]⟩,.func (.func 62) #[] #[],5⟩,⟨.string ⟨#[99,97,117,115,101]⟩,.func (.func 63) #[] #[],6⟩,⟨.string ⟨#[119,111,114,107,115]⟩,.func (.func 64) #[] #[],7⟩]
def zo2:List (List UInt8×Value):=[([109,111,100,117,108,101],.func (.func 57) #[] #[]),([99,104,97,110,110,101,108],.func (.func 58) #[] #[]),([115,119,105,116,99,104],.func (.func 59) #[] #[]),([108,105,110,107],.func (.func 60) #[] #[]),([118,108],.func (.func 61) #[] #[]),([111,110],.func (.func 62) #[] #[]),([99,97,117,115,101],.func (.func 63) #[] #[]),([119,111,114,107,115],.func (.func 64) #[] #[])]
theorem zeroG (w:World):(zeroValue 90).run prog w= .ok .nilFunc w:=by kernel_rfl
theorem zct {w:World} {tb c:Nat} (h:w.heap[tb]? =some (.map znj c)) (K:ByteArray) (v:Value) (hv:zo2.find? (fun p=>K.data.toList==p.1)=some (K.data.toList,v)):
 (Instr.lookup 125 (.map (some tb)) (.string K) false).run prog w= .ok v w:=by
 obtain⟨n,hn⟩:=(zbP K znj.toList zo2 0 rfl).2 v hv;simp[Instr.lookup,run_underlying underlying125,MapKept.run_getObj_map h,zdr,Instr.findKey,run_underlying underlying9,hn,Result.andThen]
theorem zjA {w:World} {tb c:Nat} (h:w.heap[tb]? =some (.map znj c)) (K:ByteArray) (hv:K.data.toList∉zo2.map (·.1)):
 (Instr.lookup 125 (.map (some tb)) (.string K) false).run prog w= .ok .nilFunc w:=by
 have hn:=(zbP K znj.toList zo2 0 rfl).1 hv;simp[Instr.lookup,run_underlying underlying125,MapKept.run_getObj_map h,zdr,Instr.findKey,run_underlying underlying9,hn,Result.andThen]
theorem zc1 (fn:Fn) (first caps:Array Value) (w:World):(binOp .neq 90 (.func fn first caps) .nilFunc).run prog w= .ok (.bool true) w:=by kernel_rfl
theorem zmi (w:World):(binOp .neq 90 .nilFunc .nilFunc).run prog w= .ok (.bool false) w:=by kernel_rfl
theorem zmO (pb j B:Nat) (ts:List Tok) (c:zaK) (W:World) (H:Hid (PSt pb ts j c B W)) (hts:ts.length≤1000000) (hj:j≤ts.length) (hT:Hid (zbS ts)) (hE:Hid (zci W)) (hpE:3≤pb) (hfew:c.count≤ts.length):
 Calls prog 36 #[.pointer (some ⟨pb,0,none⟩)] W fun e W'=>zao pb ts W B (zb1 c (ts.drop j)) e W':=by
 have hpb:=H.out.cur.lt;have hts':ts.length≤1099511627776:=by omega
 have hg:=zaa hT.out.good;have ft1:=zbF;have hmm:= @run_makeMap prog;have hi0:=fun(v:Value)=>zc3 W W.heap.size rfl #[] 0 ⟨#[109,111,100,117,108,101]⟩ v (by kernel_rfl)
 have hi1:=fun(v:Value)=>zc3 W W.heap.size rfl #[⟨.string ⟨#[109,111,100,117,108,101]⟩,.func (.func 57) #[] #[],0⟩] 1 ⟨#[99,104,97,110,110,101,108]⟩ v (by kernel_rfl)
 have hi2:=fun(v:Value)=>zc3 W W.heap.size rfl #[⟨.string ⟨#[109,111,100,117,108,101]⟩,.func (.func 57) #[] #[],0⟩,⟨.string ⟨#[99,104,97,110,110,101,108]⟩,.func (.func 58) #[] #[],1⟩] 2 ⟨#[115,119,105,116,99,104]⟩ v (by kernel_rfl)
 have hi3:=fun(v:Value)=>zc3 W W.heap.size rfl #[⟨.string ⟨#[109,111,100,117,108,101]⟩,.func (.func 57) #[] #[],0⟩,⟨.string ⟨#[99,104,97,110,110,101,108]⟩,.func (.func 58) #[] #[],1⟩,⟨.string ⟨#[115,119,105,116,99,104]⟩,.func (.func 59) #[] #[],2⟩] 3 ⟨#[108,105,110,107]⟩ v (by kernel_rfl)
 have hi4:=fun(v:Value)=>zc3 W W.heap.size rfl #[⟨.string ⟨#[109,111,100,117,108,101]⟩,.func (.func 57) #[] #[],0⟩,⟨.string ⟨#[99,104,97,110,110,101,108]⟩,.func (.func 58) #[] #[],1⟩,⟨.string ⟨#[115,119,105,116,99,104]⟩,.func (.func 59) #[] #[],2⟩,⟨.string ⟨#[108,105,110,107]⟩,.func (.func 60) #[] #[],3⟩] 4 ⟨#[118,108]⟩ v (by kernel_rfl)
 have hi5:=fun(v:Value)=>zc3 W W.heap.size rfl #[⟨.string ⟨#[109,111,100,117,108,101]⟩,.func (.func 57) #[] #[],0⟩,⟨.string ⟨#[99,104,97,110,110,101,108]⟩,.func (.func 58) #[] #[],1⟩,⟨.string ⟨#[115,119,105,116,99,104]⟩,.func (.func 59) #[] #[],2⟩,⟨.string ⟨#[108,105,110,107]⟩,.func (.func 60) #[] #[],3⟩,⟨.string ⟨#[118,108]⟩,.func (.func 61) #[] #[],4⟩] 5 ⟨#[111,110]⟩ v (by kernel_rfl)
 have hi6:=fun(v:Value)=>zc3 W W.heap.size rfl #[⟨.string ⟨#[109,111,100,117,108,101]⟩,.func (.func 57) #[] #[],0⟩,⟨.string ⟨#[99,104,97,110,110,101,108]⟩,.func (.func 58) #[] #[],1⟩,⟨.string ⟨#[115,119,105,116,99,104]⟩,.func (.func 59) #[] #[],2⟩,⟨.string ⟨#[108,105,110,107]⟩,.func (.func 60) #[] #[],3⟩,⟨.string ⟨#[118,108]⟩,.func (.func 61) #[] #[],4⟩,⟨.string ⟨#[111,110]⟩,.func (.func 62) #[] #[],5⟩] 6 ⟨#[99,97,117,115,101]⟩ v (by kernel_rfl)
 have hi7:=fun(v:Value)=>zc3 W W.heap.size rfl #[⟨.string ⟨#[109,111,100,117,108,101]⟩,.func (.func 57) #[] #[],0⟩,⟨.string ⟨#[99,104,97,110,110,101,108]⟩,.func (.func 58) #[] #[],1⟩,⟨.string ⟨#[115,119,105,116,99,104]⟩,.func (.func 59) #[] #[],2⟩,⟨.string ⟨#[108,105,110,107]⟩,.func (.func 60) #[] #[],3⟩,⟨.string ⟨#[118,108]⟩,.func (.func 61) #[] #[],4⟩,⟨.string ⟨#[111,110]⟩,.func (.func 62) #[] #[],5⟩,⟨.string ⟨#[99,97,117,115,101]⟩,.func (.func 63) #[] #[],6⟩] 7 ⟨#[119,111,114,107,115]⟩ v (by kernel_rfl)
 have HA0:=zaa (AtJ.start H.out.cur.now H.out.cur.free);have HV:=zaa ((Below.refl W.heap.size W).alloc (Nat.le_refl _) (.map znj 8));have HMp:=zaa (heap_alloc_new W (.map znj 8))
 go_enter func36,ntmps36
 go_wp2_with fail
 change Calls _ _ _ (W.alloc (.map znj 8)) _
 generalize W.alloc (.map znj 8)=V at *;clear hi0 hi1 hi2 hi3 hi4 hi5 hi6 hi7 hmm;have HAV:=zaa (HA0.out.below hpb HV.out);have HC:=zaa (zcf pb j ts V (zaa (H.out.cur.to HAV.out)) hts' hj);generalize ht:hdT (ts.drop j)=t at HC;have HT0:=zaa ht;clear ht;obtain⟨κ,tx,ta⟩:=t;unfold zcC at HC;dsimp only at HC;generalize(κ:Int)=κz at HC;generalize(ta:Int)=taz at HC;refine(HC.out).mono ?_;rintro e w1 ⟨rfl,hb⟩;have HA1:=zaa (HAV.out.below hpb hb);have hml:=(zal HMp.out);have HM1:=zaa ((hb.block _ hml).trans HMp.out);clear hb HC HAV HA0 hml;generalize hKK:(⟨tx.toArray⟩:ByteArray)=K at *;by_cases hw:tx=[109,111,100,117,108,101]
 ·as_aux_lemma=>
   have HKW:Hid (K.data.toList=[109,111,100,117,108,101]):=zaa (by rw[←hKK];exact hw);clear hKK;have hjl:j<ts.length:=by
    rcases Nat.lt_or_ge j ts.length with h|h
    ·exact h
    ·have h1:=hw
     rw[zbJ ts j h] at HT0;have h2:=congrArg Tok.text HT0.out;simp only at h2;rw[←h2] at h1
     cases h1
   have HTH:=zaa (zjq hT.out j c (by rw[HT0.out];exact hw));clear hw HT0;have hl:=zct HM1.out K (.func (.func 57) #[] #[]) (by rw[HKW.out];rfl);have hne:=zc1;go_wp2_with fail
   ((with_reducible refine(za1 _ _ _).mono ?_);rintro e w'' ⟨rfl,rfl⟩)
   clear hl hne;have hw3:pb<w''.heap.size:=Nat.lt_of_lt_of_le hpb HA1.out.kept.size;have e1:w''.cell? ⟨pb,1,none⟩=some (.int .i64 (j:Int)):=HA1.out.here;have e2:=HA1.out.free;have k1:(j:Int)+1<9223372036854775808:=by omega
   have k2: -9223372036854775808≤(j:Int)+1:=by omega
   generalize hz:(j:Int)=z at e1 k1 k2;have HZ:=zaa hz;clear hz;go_wp2_with fail;have HA4:=zaa (HA1.out.goto hpb (j+1));rw[show((j+1:Nat):Int)=z+1 from by have:=HZ.out;omega] at HA4;clear HA1 HM1 HMp HV e1 e2 k1 k2 hw3;generalize w''.setCell ⟨pb,1,none⟩ (.int .i64 (z+1))=V4 at *;have HS4:=zaa (H.out.to HA4.out);have HE4:=zaa (hE.out.to hpE HA4.out);refine(zkg pb (j+1) B ts c V4 HS4 hts hjl hT HE4 hpE (by unfold zaK.count at hfew;omega)).mono ?_;rintro e w5 hE5;rcases hE5.split with⟨c5,j5,hr,hj5,hK,hP,rfl⟩|⟨n,jn,hr,hjn,hK,hC,rfl⟩
   rotate_left
   ·have HX:=zaa (zao.mk_bad (HTH.out.trans hr) hjn (HA4.out.kp.trans hK) hC)
    clear hE5 hr hK hC;go_wp2_with fail;exact⟨rfl,HX.out⟩
   have HX:=zaa (zao.mk_ok (HTH.out.trans hr) hj5 (HA4.out.kp.trans hK) hP);clear hE5 hr hK hP;go_wp2_with fail
   go_end0
   exact HX.out
 have h0:=hw;clear hw;by_cases hw:tx=[99,104,97,110,110,101,108]
 ·as_aux_lemma=>
   have HKW:Hid (K.data.toList=[99,104,97,110,110,101,108]):=zaa (by rw[←hKK];exact hw);clear hKK;have hjl:j<ts.length:=by
    rcases Nat.lt_or_ge j ts.length with h|h
    ·exact h
    ·have h1:=hw
     rw[zbJ ts j h] at HT0;have h2:=congrArg Tok.text HT0.out;simp only at h2;rw[←h2] at h1
     cases h1
   have HTH:=zaa (zie hT.out j c (by rw[HT0.out];exact hw));clear hw HT0;have hl:=zct HM1.out K (.func (.func 58) #[] #[]) (by rw[HKW.out];rfl);have hne:=zc1;go_wp2_with fail
   ((with_reducible refine(za1 _ _ _).mono ?_);rintro e w'' ⟨rfl,rfl⟩)
   clear hl hne;have hw3:pb<w''.heap.size:=Nat.lt_of_lt_of_le hpb HA1.out.kept.size;have e1:w''.cell? ⟨pb,1,none⟩=some (.int .i64 (j:Int)):=HA1.out.here;have e2:=HA1.out.free;have k1:(j:Int)+1<9223372036854775808:=by omega
   have k2: -9223372036854775808≤(j:Int)+1:=by omega
   generalize hz:(j:Int)=z at e1 k1 k2;have HZ:=zaa hz;clear hz;go_wp2_with fail;have HA4:=zaa (HA1.out.goto hpb (j+1));rw[show((j+1:Nat):Int)=z+1 from by have:=HZ.out;omega] at HA4;clear HA1 HM1 HMp HV e1 e2 k1 k2 hw3;generalize w''.setCell ⟨pb,1,none⟩ (.int .i64 (z+1))=V4 at *;have HS4:=zaa (H.out.to HA4.out);have HE4:=zaa (hE.out.to hpE HA4.out);refine(zif pb (j+1) B ts c V4 HS4 hts hjl hg HE4 hpE (by unfold zaK.count at hfew;omega)).mono ?_;rintro e w5 hE5;rcases hE5.split with⟨c5,j5,hr,hj5,hK,hP,rfl⟩|⟨n,jn,hr,hjn,hK,hC,rfl⟩
   rotate_left
   ·have HX:=zaa (zao.mk_bad (HTH.out.trans hr) hjn (HA4.out.kp.trans hK) hC)
    clear hE5 hr hK hC;go_wp2_with fail;exact⟨rfl,HX.out⟩
   have HX:=zaa (zao.mk_ok (HTH.out.trans hr) hj5 (HA4.out.kp.trans hK) hP);clear hE5 hr hK hP;go_wp2_with fail
   go_end0
   exact HX.out
 have h1:=hw;clear hw;by_cases hw:tx=[115,119,105,116,99,104]
 ·as_aux_lemma=>
   have HKW:Hid (K.data.toList=[115,119,105,116,99,104]):=zaa (by rw[←hKK];exact hw);clear hKK;have hjl:j<ts.length:=by
    rcases Nat.lt_or_ge j ts.length with h|h
    ·exact h
    ·have h1:=hw
     rw[zbJ ts j h] at HT0;have h2:=congrArg Tok.text HT0.out;simp only at h2;rw[←h2] at h1
     cases h1
   have HTH:=zaa (zjP hT.out j c (by rw[HT0.out];exact hw));clear hw HT0;have hl:=zct HM1.out K (.func (.func 59) #[] #[]) (by rw[HKW.out];rfl);have hne:=zc1;go_wp2_with fail
   ((with_reducible refine(za1 _ _ _).mono ?_);rintro e w'' ⟨rfl,rfl⟩)
   clear hl hne;have hw3:pb<w''.heap.size:=Nat.lt_of_lt_of_le hpb HA1.out.kept.size;have e1:w''.cell? ⟨pb,1,none⟩=some (.int .i64 (j:Int)):=HA1.out.here;have e2:=HA1.out.free;have k1:(j:Int)+1<9223372036854775808:=by omega
   have k2: -9223372036854775808≤(j:Int)+1:=by omega
   generalize hz:(j:Int)=z at e1 k1 k2;have HZ:=zaa hz;clear hz;go_wp2_with fail;have HA4:=zaa (HA1.out.goto hpb (j+1));rw[show((j+1:Nat):Int)=z+1 from by have:=HZ.out;omega] at HA4;clear HA1 HM1 HMp HV e1 e2 k1 k2 hw3;generalize w''.setCell ⟨pb,1,none⟩ (.int .i64 (z+1))=V4 at *;have HS4:=zaa (H.out.to HA4.out);have HE4:=zaa (hE.out.to hpE HA4.out);refine(zm1 pb (j+1) B ts c V4 HS4 hts hjl hg HE4 hpE (by unfold zaK.count at hfew;omega)).mono ?_;rintro e w5 hE5;rcases hE5.split with⟨c5,j5,hr,hj5,hK,hP,rfl⟩|⟨n,jn,hr,hjn,hK,hC,rfl⟩
   rotate_left
   ·have HX:=zaa (zao.mk_bad (HTH.out.trans hr) hjn (HA4.out.kp.trans hK) hC)
    clear hE5 hr hK hC;go_wp2_with fail;exact⟨rfl,HX.out⟩
   have HX:=zaa (zao.mk_ok (HTH.out.trans hr) hj5 (HA4.out.kp.trans hK) hP);clear hE5 hr hK hP;go_wp2_with fail
   go_end0
   exact HX.out
 have h2:=hw;clear hw;by_cases hw:tx=[108,105,110,107]
 ·as_aux_lemma=>
   have HKW:Hid (K.data.toList=[108,105,110,107]):=zaa (by rw[←hKK];exact hw);clear hKK;have hjl:j<ts.length:=by
    rcases Nat.lt_or_ge j ts.length with h|h
    ·exact h
    ·have h1:=hw
     rw[zbJ ts j h] at HT0;have h2:=congrArg Tok.text HT0.out;simp only at h2;rw[←h2] at h1
     cases h1
   have HTH:=zaa (zl7 hT.out j c (by rw[HT0.out];exact hw));clear hw HT0;have hl:=zct HM1.out K (.func (.func 60) #[] #[]) (by rw[HKW.out];rfl);have hne:=zc1;go_wp2_with fail
   ((with_reducible refine(za1 _ _ _).mono ?_);rintro e w'' ⟨rfl,rfl⟩)
   clear hl hne;have hw3:pb<w''.heap.size:=Nat.lt_of_lt_of_le hpb HA1.out.kept.size;have e1:w''.cell? ⟨pb,1,none⟩=some (.int .i64 (j:Int)):=HA1.out.here;have e2:=HA1.out.free;have k1:(j:Int)+1<9223372036854775808:=by omega
   have k2: -9223372036854775808≤(j:Int)+1:=by omega
   generalize hz:(j:Int)=z at e1 k1 k2;have HZ:=zaa hz;clear hz;go_wp2_with fail;have HA4:=zaa (HA1.out.goto hpb (j+1));rw[show((j+1:Nat):Int)=z+1 from by have:=HZ.out;omega] at HA4;clear HA1 HM1 HMp HV e1 e2 k1 k2 hw3;generalize w''.setCell ⟨pb,1,none⟩ (.int .i64 (z+1))=V4 at *;have HS4:=zaa (H.out.to HA4.out);have HE4:=zaa (hE.out.to hpE HA4.out);refine(zl1 pb (j+1) B ts c V4 HS4 hts hjl hg HE4 hpE (by unfold zaK.count at hfew;omega)).mono ?_;rintro e w5 hE5;rcases hE5.split with⟨c5,j5,hr,hj5,hK,hP,rfl⟩|⟨n,jn,hr,hjn,hK,hC,rfl⟩
   rotate_left
   ·have HX:=zaa (zao.mk_bad (HTH.out.trans hr) hjn (HA4.out.kp.trans hK) hC)
    clear hE5 hr hK hC;go_wp2_with fail;exact⟨rfl,HX.out⟩
   have HX:=zaa (zao.mk_ok (HTH.out.trans hr) hj5 (HA4.out.kp.trans hK) hP);clear hE5 hr hK hP;go_wp2_with fail
   go_end0
   exact HX.out
 have h3:=hw;clear hw;by_cases hw:tx=[118,108]
 ·as_aux_lemma=>
   have HKW:Hid (K.data.toList=[118,108]):=zaa (by rw[←hKK];exact hw);clear hKK;have hjl:j<ts.length:=by
    rcases Nat.lt_or_ge j ts.length with h|h
    ·exact h
    ·have h1:=hw
     rw[zbJ ts j h] at HT0;have h2:=congrArg Tok.text HT0.out;simp only at h2;rw[←h2] at h1
     cases h1
   have HTH:=zaa (zoo hT.out j c (by rw[HT0.out];exact hw));clear hw HT0;have hl:=zct HM1.out K (.func (.func 61) #[] #[]) (by rw[HKW.out];rfl);have hne:=zc1;go_wp2_with fail
   ((with_reducible refine(za1 _ _ _).mono ?_);rintro e w'' ⟨rfl,rfl⟩)
   clear hl hne;have hw3:pb<w''.heap.size:=Nat.lt_of_lt_of_le hpb HA1.out.kept.size;have e1:w''.cell? ⟨pb,1,none⟩=some (.int .i64 (j:Int)):=HA1.out.here;have e2:=HA1.out.free;have k1:(j:Int)+1<9223372036854775808:=by omega
   have k2: -9223372036854775808≤(j:Int)+1:=by omega
   generalize hz:(j:Int)=z at e1 k1 k2;have HZ:=zaa hz;clear hz;go_wp2_with fail;have HA4:=zaa (HA1.out.goto hpb (j+1));rw[show((j+1:Nat):Int)=z+1 from by have:=HZ.out;omega] at HA4;clear HA1 HM1 HMp HV e1 e2 k1 k2 hw3;generalize w''.setCell ⟨pb,1,none⟩ (.int .i64 (z+1))=V4 at *;have HS4:=zaa (H.out.to HA4.out);have HE4:=zaa (hE.out.to hpE HA4.out);refine(zos pb (j+1) B ts c V4 HS4 hts hjl hg HE4 hpE (by unfold zaK.count at hfew;omega)).mono ?_;rintro e w5 hE5;rcases hE5.split with⟨c5,j5,hr,hj5,hK,hP,rfl⟩|⟨n,jn,hr,hjn,hK,hC,rfl⟩
   rotate_left
   ·have HX:=zaa (zao.mk_bad (HTH.out.trans hr) hjn (HA4.out.kp.trans hK) hC)
    clear hE5 hr hK hC;go_wp2_with fail;exact⟨rfl,HX.out⟩
   have HX:=zaa (zao.mk_ok (HTH.out.trans hr) hj5 (HA4.out.kp.trans hK) hP);clear hE5 hr hK hP;go_wp2_with fail
   go_end0
   exact HX.out
 have h4:=hw;clear hw;by_cases hw:tx=[111,110]
 ·as_aux_lemma=>
   have HKW:Hid (K.data.toList=[111,110]):=zaa (by rw[←hKK];exact hw);clear hKK;have hjl:j<ts.length:=by
    rcases Nat.lt_or_ge j ts.length with h|h
    ·exact h
    ·have h1:=hw
     rw[zbJ ts j h] at HT0;have h2:=congrArg Tok.text HT0.out;simp only at h2;rw[←h2] at h1
     cases h1
   have HTH:=zaa (zoN hT.out j c (by rw[HT0.out];exact hw));clear hw HT0;have hl:=zct HM1.out K (.func (.func 62) #[] #[]) (by rw[HKW.out];rfl);have hne:=zc1;go_wp2_with fail
   ((with_reducible refine(za1 _ _ _).mono ?_);rintro e w'' ⟨rfl,rfl⟩)
   clear hl hne;have hw3:pb<w''.heap.size:=Nat.lt_of_lt_of_le hpb HA1.out.kept.size;have e1:w''.cell? ⟨pb,1,none⟩=some (.int .i64 (j:Int)):=HA1.out.here;have e2:=HA1.out.free;have k1:(j:Int)+1<9223372036854775808:=by omega
   have k2: -9223372036854775808≤(j:Int)+1:=by omega
   generalize hz:(j:Int)=z at e1 k1 k2;have HZ:=zaa hz;clear hz;go_wp2_with fail;have HA4:=zaa (HA1.out.goto hpb (j+1));rw[show((j+1:Nat):Int)=z+1 from by have:=HZ.out;omega] at HA4;clear HA1 HM1 HMp HV e1 e2 k1 k2 hw3;generalize w''.setCell ⟨pb,1,none⟩ (.int .i64 (z+1))=V4 at *;have HS4:=zaa (H.out.to HA4.out);have HE4:=zaa (hE.out.to hpE HA4.out);refine(zjo pb (j+1) B ts c V4 HS4 hts hjl hg HE4 hpE (by unfold zaK.count at hfew;omega)).mono ?_;rintro e w5 hE5;rcases hE5.split with⟨c5,j5,hr,hj5,hK,hP,rfl⟩|⟨n,jn,hr,hjn,hK,hC,rfl⟩
   rotate_left
   ·have HX:=zaa (zao.mk_bad (HTH.out.trans hr) hjn (HA4.out.kp.trans hK) hC)
    clear hE5 hr hK hC;go_wp2_with fail;exact⟨rfl,HX.out⟩
   have HX:=zaa (zao.mk_ok (HTH.out.trans hr) hj5 (HA4.out.kp.trans hK) hP);clear hE5 hr hK hP;go_wp2_with fail
   go_end0
   exact HX.out
 have h5:=hw;clear hw;by_cases hw:tx=[99,97,117,115,101]
 ·as_aux_lemma=>
   have HKW:Hid (K.data.toList=[99,97,117,115,101]):=zaa (by rw[←hKK];exact hw);clear hKK;have hjl:j<ts.length:=by
    rcases Nat.lt_or_ge j ts.length with h|h
    ·exact h
    ·have h1:=hw
     rw[zbJ ts j h] at HT0;have h2:=congrArg Tok.text HT0.out;simp only at h2;rw[←h2] at h1
     cases h1
   have HTH:=zaa (zkL hT.out j c (by rw[HT0.out];exact hw));clear hw HT0;have hl:=zct HM1.out K (.func (.func 63) #[] #[]) (by rw[HKW.out];rfl);have hne:=zc1;go_wp2_with fail
   ((with_reducible refine(za1 _ _ _).mono ?_);rintro e w'' ⟨rfl,rfl⟩)
   clear hl hne;have hw3:pb<w''.heap.size:=Nat.lt_of_lt_of_le hpb HA1.out.kept.size;have e1:w''.cell? ⟨pb,1,none⟩=some (.int .i64 (j:Int)):=HA1.out.here;have e2:=HA1.out.free;have k1:(j:Int)+1<9223372036854775808:=by omega
   have k2: -9223372036854775808≤(j:Int)+1:=by omega
   generalize hz:(j:Int)=z at e1 k1 k2;have HZ:=zaa hz;clear hz;go_wp2_with fail;have HA4:=zaa (HA1.out.goto hpb (j+1));rw[show((j+1:Nat):Int)=z+1 from by have:=HZ.out;omega] at HA4;clear HA1 HM1 HMp HV e1 e2 k1 k2 hw3;generalize w''.setCell ⟨pb,1,none⟩ (.int .i64 (z+1))=V4 at *;have HS4:=zaa (H.out.to HA4.out);have HE4:=zaa (hE.out.to hpE HA4.out);refine(zlr pb (j+1) B ts c V4 HS4 hts hjl hg HE4 hpE (by unfold zaK.count at hfew;omega)).mono ?_;rintro e w5 hE5;rcases hE5.split with⟨c5,j5,hr,hj5,hK,hP,rfl⟩|⟨n,jn,hr,hjn,hK,hC,rfl⟩
   rotate_left
   ·have HX:=zaa (zao.mk_bad (HTH.out.trans hr) hjn (HA4.out.kp.trans hK) hC)
    clear hE5 hr hK hC;go_wp2_with fail;exact⟨rfl,HX.out⟩
   have HX:=zaa (zao.mk_ok (HTH.out.trans hr) hj5 (HA4.out.kp.trans hK) hP);clear hE5 hr hK hP;go_wp2_with fail
   go_end0
   exact HX.out
 have h6:=hw;clear hw;by_cases hw:tx=[119,111,114,107,115]
 ·as_aux_lemma=>
   have HKW:Hid (K.data.toList=[119,111,114,107,115]):=zaa (by rw[←hKK];exact hw);clear hKK;have hjl:j<ts.length:=by
    rcases Nat.lt_or_ge j ts.length with h|h
    ·exact h
    ·have h1:=hw
     rw[zbJ ts j h] at HT0;have h2:=congrArg Tok.text HT0.out;simp only at h2;rw[←h2] at h1
     cases h1
   have HTH:=zaa (zlu hT.out j c (by rw[HT0.out];exact hw));clear hw HT0;have hl:=zct HM1.out K (.func (.func 64) #[] #[]) (by rw[HKW.out];rfl);have hne:=zc1;go_wp2_with fail
   ((with_reducible refine(za1 _ _ _).mono ?_);rintro e w'' ⟨rfl,rfl⟩)
   clear hl hne;have hw3:pb<w''.heap.size:=Nat.lt_of_lt_of_le hpb HA1.out.kept.size;have e1:w''.cell? ⟨pb,1,none⟩=some (.int .i64 (j:Int)):=HA1.out.here;have e2:=HA1.out.free;have k1:(j:Int)+1<9223372036854775808:=by omega
   have k2: -9223372036854775808≤(j:Int)+1:=by omega
   generalize hz:(j:Int)=z at e1 k1 k2;have HZ:=zaa hz;clear hz;go_wp2_with fail;have HA4:=zaa (HA1.out.goto hpb (j+1));rw[show((j+1:Nat):Int)=z+1 from by have:=HZ.out;omega] at HA4;clear HA1 HM1 HMp HV e1 e2 k1 k2 hw3;generalize w''.setCell ⟨pb,1,none⟩ (.int .i64 (z+1))=V4 at *;have HS4:=zaa (H.out.to HA4.out);have HE4:=zaa (hE.out.to hpE HA4.out);refine(zlR pb (j+1) B ts c V4 HS4 hts hjl hg HE4 hpE (by unfold zaK.count at hfew;omega)).mono ?_;rintro e w5 hE5;rcases hE5.split with⟨c5,j5,hr,hj5,hK,hP,rfl⟩|⟨n,jn,hr,hjn,hK,hC,rfl⟩
   rotate_left
   ·have HX:=zaa (zao.mk_bad (HTH.out.trans hr) hjn (HA4.out.kp.trans hK) hC)
    clear hE5 hr hK hC;go_wp2_with fail;exact⟨rfl,HX.out⟩
   have HX:=zaa (zao.mk_ok (HTH.out.trans hr) hj5 (HA4.out.kp.trans hK) hP);clear hE5 hr hK hP;go_wp2_with fail
   go_end0
   exact HX.out
 have h7:=hw;clear hw;have hw:tx∉zfw:=by simp[zfw,h0,h1,h2,h3,h4,h5,h6,h7]
 clear h0 h1 h2 h3 h4 h5 h6 h7;have HTH:=zaa (zms hT.out j c (by rw[HT0.out];exact hw));have hl:=zjA HM1.out K (by rw[←hKK];exact hw);clear hKK hw HT0;have hne:=zmi;have HX:=zaa (zao.mk_bad (B:=B) HTH.out hj HA1.out.kp (H.out.cur.to HA1.out));go_wp2_with fail
 ((with_reducible refine(zb6 _ _ _).mono ?_);rintro e w'' ⟨rfl,rfl⟩)
 go_wp2_with fail;exact⟨rfl,HX.out⟩
def zcz:Obj:= .cells (List.replicate 8 (Value.slice none 0 0)).toArray 32 (0,0)
theorem zkk (w:World) (B:Nat):zbb w B (List.replicate 8 (.slice none 0 0)) (zaM zaK.none):=by
 refine⟨rfl,fun k r hr e he=> ?_,fun k v r hv hr=> ?_,fun k l u v g hu hv hug=> ?_⟩
 ·rcases(by have:=(List.getElem?_eq_some_iff.1 hr).1;simp[zaM] at this;omega:k=0∨k=1∨k=2∨k=3∨k=4∨k=5∨k=6∨k=7) with rfl|rfl|rfl|rfl|rfl|rfl|rfl|rfl
  all_goals
   simp[zaM,zaK.none] at hr;subst hr;simp at he
 ·have hv':v= .slice none 0 0:=by
   have:=List.mem_of_getElem? hv;rw[List.mem_replicate] at this;exact this.2
  subst hv';rcases(by have:=(List.getElem?_eq_some_iff.1 hr).1;simp[zaM] at this;omega:k=0∨k=1∨k=2∨k=3∨k=4∨k=5∨k=6∨k=7) with rfl|rfl|rfl|rfl|rfl|rfl|rfl|rfl
  all_goals
   simp[zaM,zaK.none] at hr;subst hr;exact⟨[],World.ownsRow_nil _ _ _ _,zaf.nil⟩
 ·have:=List.mem_of_getElem? hu
  rw[List.mem_replicate] at this;rw[this.2] at hug
  cases hug
def zeP (cb B:Nat) (oc:Option zaK) (w:World):Prop:=match oc with
 |none=>w.heap[cb]? =some zcz
 |some c=> ∃vs,zbb w B vs (zaM c)∧w.heap[cb]? =some (.cells vs.toArray 32 (0,0))
theorem zeP.keep {cb B:Nat} {oc:Option zaK} {w w':World} (h:zeP cb B oc w) (hk:zam (fun b=>b≠cb∧b<B) w w'):zeP cb B oc w':=by
 cases oc with
 |none=>
  have h:w.heap[cb]? =some zcz:=h;exact(hk.block cb (zal h) (fun e=>e.1 rfl)).trans h
 |some c=>
  obtain⟨vs,h1,h2⟩:=h;exact⟨vs,h1.kept hk (fun b hb e=>by omega),(hk.block cb (zal h2) (fun e=>e.1 rfl)).trans h2⟩
theorem zeP.keep2 {cb B pb:Nat} {w w':World} (h:zeP cb B none w) (hk:zam (fun b=>b=pb∨B≤b) w w') (hpb:pb<B) (hc:cb<pb):zeP cb B none w':=by
 have h:w.heap[cb]? =some zcz:=h;exact(hk.block cb (zal h) (by omega)).trans h
theorem zeP.get {cb B:Nat} {oc:Option zaK} {w:World} (h:zeP cb B oc w): ∃vs,zbb w B vs (zaM (oc.getD zaK.none))∧w.heap[cb]? =some (.cells vs.toArray 32 (0,0)):=by
 cases oc with
 |none=>exact⟨_,zkk w B,h⟩
 |some c=>exact h
theorem AtJ.drewN {pb j:Nat} {w w':World} (h:AtJ pb j w w') (n:Nat):AtJ pb j w (w'.drewN n):=⟨h.kept.drewN n,h.here,h.rest,h.free,h.hold⟩
theorem Cur.off {pb cb j:Nat} {ts:List Tok} {w w':World} (h:Cur pb ts j w) (hz: ∀o n,w.cell? ⟨cb,o,none⟩≠some (.int .u8 n)) (hk:zam (fun k=>k=cb) w w') (hp:pb≠cb):Cur pb ts j w':=by
 have hl:=h.lt;have hb:=hk.block pb hl hp;obtain⟨A,c,h0,hr,hA⟩:=h.toks;refine⟨⟨A,c,(World.cell?_of_block (a:=⟨pb,0,none⟩) hb).trans h0,?_,hA⟩,(World.cell?_of_block (a:=⟨pb,1,none⟩) hb).trans h.now,(World.frozen?_of_block (a:=⟨pb,1,none⟩) hb).trans h.free⟩;have hr0:=hr;rcases hr with hr|⟨b,off,rfl,hbl,hc⟩
 ·exact .inl hr
 ·by_cases hn:ts.map Tok.toZ=[]
  ·exact .inl hn
  ·refine hr0.kept hk (fun a ha=> ?_)
   injection ha with ha
   subst ha
   show¬b=cb
   rintro rfl;obtain⟨t,l,he⟩:=List.exists_cons_of_ne_nil hn;obtain⟨e1,_,_⟩:=hc 0 t (by rw[he];rfl);exact hz _ _ e1
theorem zjI {w:World} {cb:Nat} (h:w.heap[cb]? =some zcz) (o:Nat) (n:Int):w.cell? ⟨cb,o,none⟩≠some (.int .u8 n):=by
 intro e;unfold zcz at h;have h1:=cell_of_row w cb o _ _ _ h;rw[e] at h1;have h2:=Array.mem_of_getElem? h1.symm;simp at h2
theorem zgF {α:Type} {l:List α} (h:l.length=8): ∃a b c d e f g i,l=[a,b,c,d,e,f,g,i]:=by
 rcases l with _|⟨a,_|⟨b,_|⟨c,_|⟨d,_|⟨e,_|⟨f,_|⟨g,_|⟨i,_|⟨k,l⟩⟩⟩⟩⟩⟩⟩⟩⟩
 all_goals simp at h
 exact⟨a,b,c,d,e,f,g,i,rfl⟩
theorem zhL {f:Nat} {c c':zaK} {r r':List Tok} (hr:r≠[]) (h:zb1 c r= .ok c' r'):zbp (f+1) c r=zbp f c' r':=by
 cases r with
 |nil=>exact absurd rfl hr
 |cons t r=>exact zac h
theorem zgo {f n:Nat} {c:zaK} {r r':List Tok} (hr:r≠[]) (h:zb1 c r= .bad n r'):zbp (f+1) c r= .bad n r':=by
 cases r with
 |nil=>exact absurd rfl hr
 |cons t r=>exact zab h
theorem zhd (args:Array Value) (w:World):(callFunc 35 args).run prog w= .ok (.enter 35 args) w:=by
 simp[go_sem]
def zpe (pb B cb:Nat) (ts:List Tok) (W:World) (e:Ending) (W':World):Prop:=
 ∃j,j≤ts.length∧zam (fun b=>b=pb∨b=cb∨B≤b) W W'∧Cur pb ts j W'∧match zgN ts with
  | .ok a r=>r=ts.drop j∧e= .returned (.tuple #[])∧zeP cb B (some a) W'
  | .bad n r=>r=ts.drop j∧e= .panicked [{v:=zdj n,recovered:=false}]∧zeP cb B none W'
theorem zjK (pb B cb:Nat) (ts:List Tok) (W:World) (H:Hid (PSt pb ts 0 zaK.none B W)) (hT:Hid (zbS ts)) (hts:ts.length≤1000000) (hE:Hid (zci W)) (hpE:3≤pb) (hcp:cb<pb) (hR:zeP cb B none W):
 Calls prog 35 #[.pointer (some ⟨pb,0,none⟩),.pointer (some ⟨cb,0,none⟩)] W (zpe pb B cb ts W):=by
 have HR:=zaa hR;clear hR
 go_enter func35,ntmps35
 go_wp2_with fail
 go_loopw [] (fun wr=> ∃(c:zaK) (k f:Nat),k≤ts.length∧ts.length-k<f∧c.count≤k∧PSt pb ts k c B wr∧zam (fun b=>b=pb∨B≤b) W wr∧zgN ts=zbp f c (ts.drop k)) (fun wr=>ts.length-zbL pb wr)
 case atStart=>exact⟨zaK.none,0,_,by omega,by omega,by decide,H.out,zam.refl _ _,rfl⟩
 case round=>
  obtain⟨c,k,f,hk,hf,hc,hP,hK,hL⟩:=hrel;have HP:=zaa hP;have HK:=zaa hK;have HL:=zaa hL;clear hP hK hL;obtain⟨f,rfl⟩: ∃f',f=f'+1:=⟨f-1,by omega⟩;obtain⟨A,cc,h0, -, -⟩:=HP.out.cur.toks;have h1:=HP.out.cur.now;by_cases hkl:k<ts.length
  ·have k1:decide (k<ts.length)=true:=by simp;exact hkl
   have HM:Hid (zbL pb wr=k):=zaa (by unfold zbL;rw[h1];simp[intOf]);have hne:ts.drop k≠[]:=by rw[List.drop_eq_getElem_cons hkl];exact List.cons_ne_nil _ _
   have HNE:=zaa hne;clear hne;go_wp2_with fail;go_quiet (fail);go_wp2_with fail;have HP2:=zaa (HP.out.to ((AtJ.start HP.out.cur.now HP.out.cur.free).drewN nq));have HK2:=zaa (HK.out.drewN nq);have hE2:zam (fun b=>b=pb∨B≤b) W (wr.drewN nq):=HK2.out;have HE2:=zaa (hE.out.keptB (hE2.below hE.out.big (fun i hi e=>by have:=H.out.low;omega)) (Nat.le_refl _));clear hE2 h0 h1;generalize wr.drewN nq=V at *;refine(zmO pb k B ts c V HP2 hts hk hT HE2 hpE (by omega)).mono ?_;rintro e w5 hE5;rcases hE5.split with⟨c5,j5,hr,hj5,hK5,hP5,rfl⟩|⟨n,jn,hr,hjn,hK5,hC5,rfl⟩
   rotate_left
   ·have hX:zpe pb B cb ts W (.panicked [{v:= .iface 122 (.agg #[.int .i64 (n:Int)]),recovered:=false}]) w5:=by
     have hk9:zam (fun b=>b=pb∨B≤b) W w5:=HK2.out.trans hK5;refine⟨jn,hjn,hk9.mono (fun i hi=>by rcases hi with h|h<;>simp[h]),hC5,?_⟩;rw[HL.out.trans (zgo HNE.out hr)];have hlow:=H.out.low;exact⟨rfl,rfl,HR.out.keep2 hk9 (by omega) hcp⟩
    have HX:=zaa hX;clear hX hE5 hr hK5 hC5;go_wp2_with fail;exact⟨rfl,HX.out⟩
   have hlt:=LTj hr (zkw c) hj5;have HM5:=zaa (show ts.length-zbL pb w5<ts.length-zbL pb wr by rw[HM.out];unfold zbL;rw[hP5.cur.now];simp[intOf];omega);have HL5:=zaa (HL.out.trans (zhL HNE.out hr));have hgr:=zlo hr;have HP5:=zaa hP5;have HK5:=zaa (HK2.out.trans hK5);clear hE5 hr hK5 hP5;go_wp2_with fail;go_roundw
   case rel=>exact⟨c5,j5,f,hj5,by omega,by omega,HP5.out,HK5.out,HL5.out⟩
   case measure=>exact HM5.out
  ·have k1:decide (k<ts.length)=false:=by simp;exact Nat.le_of_not_lt hkl
   obtain rfl:k=ts.length:=by omega
   go_wp2_with fail;go_quiet (fail);have HP2:=zaa (HP.out.to ((AtJ.start HP.out.cur.now HP.out.cur.free).drewN nq));have HK2:=zaa (HK.out.drewN nq);clear HP HK h0 h1;have HP:=HP2;have HK:=HK2;clear HP2 HK2;generalize wr.drewN nq=V at *;have h1:=HP.out.cur.now;obtain⟨A,cc,h0, -, -⟩:=HP.out.cur.toks;have hL2:zgN ts= .ok c []:=by rw[HL.out,List.drop_length];rfl
   have HL2:=zaa hL2;clear hL2;obtain⟨vs,hvs,hcell⟩:=HP.out.at_;obtain⟨v0,v1,v2,v3,v4,v5,v6,v7,rfl⟩:=zgF hvs.len;obtain⟨A0,q0,h10⟩:=zah (hvs.own 0 v0 _ rfl rfl).choose_spec.1;dsimp only at h10;subst h10;obtain⟨A1,q1,h11⟩:=zah (hvs.own 1 v1 _ rfl rfl).choose_spec.1;dsimp only at h11;subst h11;obtain⟨A2,q2,h12⟩:=zah (hvs.own 2 v2 _ rfl rfl).choose_spec.1;dsimp only at h12;subst h12;obtain⟨A3,q3,h13⟩:=zah (hvs.own 3 v3 _ rfl rfl).choose_spec.1;dsimp only at h13;subst h13;obtain⟨A4,q4,h14⟩:=zah (hvs.own 4 v4 _ rfl rfl).choose_spec.1;dsimp only at h14;subst h14;obtain⟨A5,q5,h15⟩:=zah (hvs.own 5 v5 _ rfl rfl).choose_spec.1;dsimp only at h15;subst h15;obtain⟨A6,q6,h16⟩:=zah (hvs.own 6 v6 _ rfl rfl).choose_spec.1;dsimp only at h16;subst h16;obtain⟨A7,q7,h17⟩:=zah (hvs.own 7 v7 _ rfl rfl).choose_spec.1;dsimp only at h17;subst h17;generalize(c.modules.map zdZ.cells).length=n0 at *;generalize(c.channels.map zcU.cells).length=n1 at *;generalize(c.switches.map SwD.cells).length=n2 at *;generalize(c.links.map zc6.cells).length=n3 at *;generalize(c.vls.map VlD.cells).length=n4 at *;generalize(c.health.map zaI.cells).length=n5 at *;generalize(c.causes.map zbl.cells).length=n6 at *;generalize(c.versions.map zgD.cells).length=n7 at *;have c0:=hcell 0 _ rfl;have c1:=hcell 1 _ rfl;have c2:=hcell 2 _ rfl;have c3:=hcell 3 _ rfl;have c4:=hcell 4 _ rfl;have c5:=hcell 5 _ rfl;have c6:=hcell 6 _ rfl;have c7:=hcell 7 _ rfl;simp only[Nat.add_zero,Nat.reduceAdd] at c0 c1 c2 c3 c4 c5 c6 c7;have hcb:W.heap[cb]? =some zcz:=HR.out;have hlow:=H.out.low;have hbig:=H.out.big;have hcl:=(zal hcb);have hcb2:=(HK.out.block cb hcl (by omega)).trans hcb;obtain⟨d0,d1,d2,d3,d4,d5,d6,d7,g0,g1,g2,g3,g4,g5,g6,g7⟩:=row8 hcb2 rfl;have hlc:=(zal hcb2);have hKc:=(((((((((zam.refl (fun k=>k=cb) V).setCell (p:=⟨cb,0,none⟩) (.inl rfl) (Value.slice A0 n0 q0)).setCell (p:=⟨cb,1,none⟩) (.inl rfl) (Value.slice A1 n1 q1)).setCell (p:=⟨cb,2,none⟩) (.inl rfl) (Value.slice A2 n2 q2)).setCell (p:=⟨cb,3,none⟩) (.inl rfl) (Value.slice A3 n3 q3)).setCell (p:=⟨cb,4,none⟩) (.inl rfl) (Value.slice A4 n4 q4)).setCell (p:=⟨cb,5,none⟩) (.inl rfl) (Value.slice A5 n5 q5)).setCell (p:=⟨cb,6,none⟩) (.inl rfl) (Value.slice A6 n6 q6)).setCell (p:=⟨cb,7,none⟩) (.inl rfl) (Value.slice A7 n7 q7));have hrw:=(heap_setCell_same _ cb 7 _ _ (Value.slice A7 n7 q7) (heap_setCell_same _ cb 6 _ _ (Value.slice A6 n6 q6) (heap_setCell_same _ cb 5 _ _ (Value.slice A5 n5 q5) (heap_setCell_same _ cb 4 _ _ (Value.slice A4 n4 q4) (heap_setCell_same _ cb 3 _ _ (Value.slice A3 n3 q3) (heap_setCell_same _ cb 2 _ _ (Value.slice A2 n2 q2) (heap_setCell_same _ cb 1 _ _ (Value.slice A1 n1 q1) (heap_setCell_same _ cb 0 _ _ (Value.slice A0 n0 q0) hcb2))))))));have hX:zpe pb B cb ts W (.returned (.tuple #[])) ((((((((V.setCell ⟨cb,0,none⟩ (Value.slice A0 n0 q0)).setCell ⟨cb,1,none⟩ (Value.slice A1 n1 q1)).setCell ⟨cb,2,none⟩ (Value.slice A2 n2 q2)).setCell ⟨cb,3,none⟩ (Value.slice A3 n3 q3)).setCell ⟨cb,4,none⟩ (Value.slice A4 n4 q4)).setCell ⟨cb,5,none⟩ (Value.slice A5 n5 q5)).setCell ⟨cb,6,none⟩ (Value.slice A6 n6 q6)).setCell ⟨cb,7,none⟩ (Value.slice A7 n7 q7)):=by
    refine⟨ts.length,Nat.le_refl _,(HK.out.mono (G:=fun b=>b=pb∨b=cb∨B≤b) (fun i hi=>by rcases hi with h|h<;>simp[h])).trans (hKc.mono (fun i hi=>by simp[hi])),HP.out.cur.off (zjI hcb2) hKc (by omega),?_⟩
    ·rw[HL2.out]
     exact⟨by rw[List.drop_length],rfl,_,hvs.kept hKc (fun b hb e=>by omega),hrw⟩
   have HX:=zaa hX;clear hX hKc hrw;go_wp2_with fail
   go_end0
   exact HX.out
theorem zhJ: ∀(f:Nat) (c c':zaK) (r r':List Tok),r.length<f→zbp f c r= .ok c' r'→r'=[]
 |0,c,c',r,r',hf,h=>by omega
 |f+1,c,c',[],r',hf,h=>by
  have h:Res.ok c []= .ok c' r':=h;injection h with _ h2
  exact h2.symm
 |f+1,c,c',t::r,r',hf,h=>by
  obtain⟨c1,r1,h1,h2⟩:=zeB (show(zb1 c >>= fun c'=>zbp f c') (t::r)= .ok c' r' from h);have:=zkw c _ _ _ h1;exact zhJ f c1 c' r1 r' (by omega) h2
theorem zkG {c:zaK} {r r':List Tok} (h:zgN r= .ok c r'):r'=[]:=zhJ _ _ _ _ _ (by omega) h
theorem zjG (cb:Nat):zpo 35 cb zgN (zeP cb) where
 call:=fun pb B ts W H hT hts hE hpE hcp hR=>(zjK pb B cb ts W H hT hts hE hpE hcp hR).mono (fun e W' h=>by
  obtain⟨j,h1,h2,h3,h4⟩:=h;refine⟨j,h1,h2,h3,?_⟩
  revert h4
  cases zgN ts with
  |ok a r=>exact id
  |bad n r=>exact id)
 left:=fun ts a t r h=>by cases zkG h
 enter:=zhd
 keep:=fun B oa W W' h hk=>h.keep hk
theorem zkb (x:List Tok×Nat×Nat) (size:Nat):zdb x size=((zeT zgN x size).1.getD zaK.none,(zeT zgN x size).2.1,(zeT zgN x size).2.2):=by
 unfold zdb zeT
 split
 ·cases h:zgN x.1 with
  |ok c r=>
   obtain rfl:=zkG h
   rfl
  |bad n r=>rfl
 ·rfl
def zov (W:World) (src:ByteArray) (e:Ending) (W':World):Prop:=
 ∃vs B,W.heap.size≤B∧e= .returned (.tuple #[.agg vs.toArray,.int .i64 ((zdb (zbr src.data.toList) src.size).2.1:Int),.int .i64 ((zdb (zbr src.data.toList) src.size).2.2:Int)])∧Below W.heap.size W W'∧zbb W' B vs (zaM (zdb (zbr src.data.toList) src.size).1)
theorem zkM (src:ByteArray) (W:World) (hE:Hid (Env W)) (hP:Hid (zci W)):Calls prog 11 #[.string src] W (zov W src):=by
 have hmf: ∀(fn:Fn) (first cap:Array Value) (w:World),(Instr.makeFunc fn first cap).run prog w= .ok (.func fn first cap) w:=fun _ _ _ _=>rfl
 have HZ:=zaa (show(W.alloc zcz).heap[W.heap.size]? =some zcz from heap_alloc_new W zcz);have HB:=zaa ((Below.refl W.heap.size W).alloc (Nat.le_refl _) zcz);have HPT:=zaa (zkb (zbr src.data.toList) src.size)
 go_enter func11,ntmps11
 go_wp2_with fail
 change Calls _ _ _ (W.alloc zcz) _
 generalize W.alloc zcz=V at *;refine(zk5 35 W.heap.size zgN (zeP W.heap.size) (zaa (zjG _)) src V (zaa (hE.out.kept HB.out)) (zaa (hP.out.below HB.out)) (zal HZ.out) hP.out.big (zaa (fun B=>HZ.out))).mono ?_;rintro e w1 ⟨B,hB,hk,rfl,hR⟩;have HB1:=zaa (HB.out.trans (hk.below HB.out.size (fun i hi e=>by omega)));have hBW:W.heap.size≤B:=Nat.le_trans HB.out.size hB;have hBc:W.heap.size<B:=Nat.lt_of_lt_of_le (zal HZ.out) hB;obtain⟨vs,hvs,hcb⟩:=hR.get;generalize hc:(zeT zgN (zbr src.data.toList) src.size).1.getD zaK.none=c at *;generalize((zeT zgN (zbr src.data.toList) src.size).2.1:Nat)=at_ at *;generalize((zeT zgN (zbr src.data.toList) src.size).2.2:Nat)=er at *;clear hR hk hc HZ;obtain⟨v0,v1,v2,v3,v4,v5,v6,v7,rfl⟩:=zgF hvs.len;obtain⟨A0,q0,h10⟩:=zah (hvs.own 0 v0 _ rfl rfl).choose_spec.1;dsimp only at h10;subst h10;obtain⟨A1,q1,h11⟩:=zah (hvs.own 1 v1 _ rfl rfl).choose_spec.1;dsimp only at h11;subst h11;obtain⟨A2,q2,h12⟩:=zah (hvs.own 2 v2 _ rfl rfl).choose_spec.1;dsimp only at h12;subst h12;obtain⟨A3,q3,h13⟩:=zah (hvs.own 3 v3 _ rfl rfl).choose_spec.1;dsimp only at h13;subst h13;obtain⟨A4,q4,h14⟩:=zah (hvs.own 4 v4 _ rfl rfl).choose_spec.1;dsimp only at h14;subst h14;obtain⟨A5,q5,h15⟩:=zah (hvs.own 5 v5 _ rfl rfl).choose_spec.1;dsimp only at h15;subst h15;obtain⟨A6,q6,h16⟩:=zah (hvs.own 6 v6 _ rfl rfl).choose_spec.1;dsimp only at h16;subst h16;obtain⟨A7,q7,h17⟩:=zah (hvs.own 7 v7 _ rfl rfl).choose_spec.1;dsimp only at h17;subst h17;generalize(c.modules.map zdZ.cells).length=n0 at *;generalize(c.channels.map zcU.cells).length=n1 at *;generalize(c.switches.map SwD.cells).length=n2 at *;generalize(c.links.map zc6.cells).length=n3 at *;generalize(c.vls.map VlD.cells).length=n4 at *;generalize(c.health.map zaI.cells).length=n5 at *;generalize(c.causes.map zbl.cells).length=n6 at *;generalize(c.versions.map zgD.cells).length=n7 at *;have c0:w1.cell? ⟨W.heap.size,0,none⟩=some (Value.slice A0 n0 q0):=cell_of_row _ _ 0 _ _ _ hcb;have g0:w1.frozen? ⟨W.heap.size,0,none⟩=false:=frozen_of_row _ _ 0 _ _ hcb;have c1:w1.cell? ⟨W.heap.size,1,none⟩=some (Value.slice A1 n1 q1):=cell_of_row _ _ 1 _ _ _ hcb;have g1:w1.frozen? ⟨W.heap.size,1,none⟩=false:=frozen_of_row _ _ 1 _ _ hcb;have c2:w1.cell? ⟨W.heap.size,2,none⟩=some (Value.slice A2 n2 q2):=cell_of_row _ _ 2 _ _ _ hcb;have g2:w1.frozen? ⟨W.heap.size,2,none⟩=false:=frozen_of_row _ _ 2 _ _ hcb;have c3:w1.cell? ⟨W.heap.size,3,none⟩=some (Value.slice A3 n3 q3):=cell_of_row _ _ 3 _ _ _ hcb;have g3:w1.frozen? ⟨W.heap.size,3,none⟩=false:=frozen_of_row _ _ 3 _ _ hcb;have c4:w1.cell? ⟨W.heap.size,4,none⟩=some (Value.slice A4 n4 q4):=cell_of_row _ _ 4 _ _ _ hcb;have g4:w1.frozen? ⟨W.heap.size,4,none⟩=false:=frozen_of_row _ _ 4 _ _ hcb;have c5:w1.cell? ⟨W.heap.size,5,none⟩=some (Value.slice A5 n5 q5):=cell_of_row _ _ 5 _ _ _ hcb;have g5:w1.frozen? ⟨W.heap.size,5,none⟩=false:=frozen_of_row _ _ 5 _ _ hcb;have c6:w1.cell? ⟨W.heap.size,6,none⟩=some (Value.slice A6 n6 q6):=cell_of_row _ _ 6 _ _ _ hcb;have g6:w1.frozen? ⟨W.heap.size,6,none⟩=false:=frozen_of_row _ _ 6 _ _ hcb;have c7:w1.cell? ⟨W.heap.size,7,none⟩=some (Value.slice A7 n7 q7):=cell_of_row _ _ 7 _ _ _ hcb;have g7:w1.frozen? ⟨W.heap.size,7,none⟩=false:=frozen_of_row _ _ 7 _ _ hcb;have hl:=(zal hcb);have hKc:=(((((((((zam.refl (fun k=>k=W.heap.size) w1).setCell (p:=⟨W.heap.size,0,none⟩) (.inl rfl) (Value.slice A0 n0 q0)).setCell (p:=⟨W.heap.size,1,none⟩) (.inl rfl) (Value.slice A1 n1 q1)).setCell (p:=⟨W.heap.size,2,none⟩) (.inl rfl) (Value.slice A2 n2 q2)).setCell (p:=⟨W.heap.size,3,none⟩) (.inl rfl) (Value.slice A3 n3 q3)).setCell (p:=⟨W.heap.size,4,none⟩) (.inl rfl) (Value.slice A4 n4 q4)).setCell (p:=⟨W.heap.size,5,none⟩) (.inl rfl) (Value.slice A5 n5 q5)).setCell (p:=⟨W.heap.size,6,none⟩) (.inl rfl) (Value.slice A6 n6 q6)).setCell (p:=⟨W.heap.size,7,none⟩) (.inl rfl) (Value.slice A7 n7 q7));have HX:=zaa (HB1.out.trans (hKc.below HB1.out.size (fun i hi e=>by omega)));have HRW:=zaa (hvs.kept hKc (fun b hb e=>by omega));clear hKc hvs;go_wp2_with fail;refine bodyPost_ret (v:= .tuple #[.agg #[Value.slice A0 n0 q0,Value.slice A1 n1 q1,Value.slice A2 n2 q2,Value.slice A3 n3 q3,Value.slice A4 n4 q4,Value.slice A5 n5 q5,Value.slice A6 n6 q6,Value.slice A7 n7 q7],.int .i64 (at_:Int),.int .i64 (er:Int)]) (by simp[results,Tryz.results11,go_sem,c0,c1,c2,c3,c4,c5,c6,c7]) rfl ?_;refine⟨[Value.slice A0 n0 q0,Value.slice A1 n1 q1,Value.slice A2 n2 q2,Value.slice A3 n3 q3,Value.slice A4 n4 q4,Value.slice A5 n5 q5,Value.slice A6 n6 q6,Value.slice A7 n7 q7],B,hBW,?_,HX.out,?_⟩
 ·rw[HPT.out]
 ·rw[HPT.out]
  exact HRW.out
end Go.Proofs.YtlngbjphagnloaaGreatDoor
