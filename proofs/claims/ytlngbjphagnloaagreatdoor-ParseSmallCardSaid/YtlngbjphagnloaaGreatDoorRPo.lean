/-
  parse: the reference's once; what is recorded ahead of the switch.-/
import Derived.Test.YtlngbjphagnloaaGreatDoorPk33
import Derived.Test.YtlngbjphagnloaaGreatDoorPk21
set_option maxHeartbeats 1000000
set_option maxRecDepth 100000
namespace Go.Proofs.YtlngbjphagnloaaGreatDoor
open Go.RowKit
attribute [local go_sem] zax.cell zaL zch
theorem isR_true {t:List UInt8} {s s1:InS} (h:isR t s=(true,s1)):s.sees t=true∧s1=s.step:=by
 unfold isR at h
 split at h
 ·rename_i hs
  injection h with _ h
  exact⟨hs,h.symm⟩
 ·injection h with h _;cases h
theorem isR_false {t:List UInt8} {s s1:InS} (h:isR t s=(false,s1)):s.sees t=false∧s1=s:=by
 unfold isR at h
 split at h
 ·injection h with h _;cases h
 ·rename_i hs
  injection h with _ h
  exact⟨by simpa using hs,h.symm⟩
theorem rsees_l (rb:Nat) (x:ByteArray) (t:List UInt8) (hx:x.data.toList=t) (ts:List Tok) (s:InS) (W:World) (H:Hid (RIn rb ts s W)) (hts:ts.length≤1000000):
 Calls Tryz.prog 153 #[.pointer (some ⟨rb,0,none⟩),.string x] W fun e W'=>e= .returned (.bool (s.sees t))∧Below W.heap.size W W':=by subst hx;exact zku rb x ts s W H hts
theorem ronce_any (rb:Nat) (l:List (List UInt8)) (w:List UInt8) (hl:ze5 l) (hw:w∈[[115,101,109,97,115],[98,117,102,115],[101,118,101,110,116,115],[98,111,97,114,100,115]]) (ts:List Tok) (s:InS) (W:World) (H:Hid (RIn rb ts s W)) (hts:ts.length≤1000000):
 Calls Tryz.prog 180 #[.pointer (some ⟨rb,0,none⟩),.string ⟨(zeb l).toArray⟩,.string ⟨w.toArray⟩] W fun e W'=>e= .returned (.string ⟨(zeb (l++[w])).toArray⟩)∧RIn rb ts (if l.contains w then(zb9 81 s).2 else s) W'∧zam (fun k=>k=rb) W W':=by
 have hz:=zlw l hl.2;have h4:=hl.few;have hsp:=zob l (ze5.clean hl.2);have hwz:w.length≤6∧w≠[]:=by
  simp only[List.mem_cons,List.not_mem_nil,or_false] at hw;rcases hw with rfl|rfl|rfl|rfl<;>decide
 have hcat:(⟨(zeb l).toArray⟩:ByteArray)++⟨#[32]⟩++⟨w.toArray⟩=⟨(zeb (l++[w])).toArray⟩:=by
  rw[zn9];apply ByteArray.ext;simp[ByteArray.data_append]
 have HF:=zaa (fun V=>zmt ⟨(zeb l).toArray⟩ ⟨w.toArray⟩ (by show(zeb l).toArray.size≤_;simp;omega) (by rw[show(⟨(zeb l).toArray⟩:ByteArray).data.toList=zeb l by simp,hsp];simp;omega) V);rw[show(⟨(zeb l).toArray⟩:ByteArray).data.toList=zeb l by simp,show(⟨w.toArray⟩:ByteArray).data.toList=w by simp,hsp] at HF;have hfn:zbN ([]::l) w=0↔l.contains w=false:=by
  rw[zo4];rw[List.contains_cons,show(w==[])=false by simpa using hwz.2,Bool.false_or]
 have g1: ¬9223372036854775807<(⟨(zeb l).toArray⟩:ByteArray).size+1:=by show¬_<(zeb l).toArray.size+1;simp;omega
 have g2: ¬9223372036854775807<(⟨(zeb l).toArray⟩:ByteArray).size+1+(⟨w.toArray⟩:ByteArray).size:=by show¬_<(zeb l).toArray.size+1+w.toArray.size;simp;omega
 have HCat:=zaa hcat;clear hcat hz h4 hsp hwz;generalize(⟨(zeb l).toArray⟩:ByteArray)=Q at *;generalize(⟨w.toArray⟩:ByteArray)=Z at *;have hfl:=(zdT ([]::l) w);generalize zbN ([]::l) w=n at *
 cases hc:l.contains w with
 |false=>
  obtain rfl:=hfn.2 hc;clear hfn hfl
  go_enter Tryz.func180,Tryz.ntmps180
  go_wp2_with fail;refine(HF.out W).mono ?_;rintro e w1 ⟨rfl,hb⟩;have HB:=zaa hb;clear hb HF;go_wp2_with fail;go_ret;exact⟨by rw[HCat.out];rfl,H.out.below HB.out,zbQ HB.out⟩
 |true=>
  have hn:n≠0:=fun e=>by have:=hfn.1 e;rw[hc] at this;cases this
  have n0:(0:Int)<(n:Int):=by omega
  clear hfn hfl hn
  go_enter Tryz.func180,Tryz.ntmps180
  go_wp2_with fail;refine(HF.out W).mono ?_;rintro e w1 ⟨rfl,hb⟩;have H1:=zaa (H.out.below hb);have HB:=zaa hb;clear hb HF;go_wp2_with fail;refine(zdh rb 81 ts s w1 H1 hts).mono ?_;rintro e w2 ⟨rfl,hr,hk⟩;have HR:=zaa hr;have HK:=zaa ((zbQ HB.out).trans hk);clear hr hk;go_wp2_with fail;go_ret;exact⟨by rw[HCat.out];rfl,HR.out,HK.out⟩
def fourB (s:InS):Bool:=s.sees [115,101,109,97,115]||(s.sees [98,117,102,115]||(s.sees [101,118,101,110,116,115]||s.sees [98,111,97,114,100,115]))
theorem sees_here {s:InS} {t:List UInt8} (h:s.sees t=true):s.here.text=t:=by
 unfold InS.sees at h;simp only[Bool.and_eq_true,beq_iff_eq] at h;exact h.2
theorem head_yes {b:zag} {s:InS} (h:fourB s=true):znS b s=znX s.here.text b s∧s.here.text∈[[115,101,109,97,115],[98,117,102,115],[101,118,101,110,116,115],[98,111,97,114,100,115]]:=by
 unfold znS;unfold fourB at h;simp only[Bool.or_eq_true] at h;by_cases h1:s.sees [115,101,109,97,115]=true
 ·rw[if_pos h1,sees_here h1];simp
 rw[if_neg h1];by_cases h2:s.sees [98,117,102,115]=true
 ·rw[if_pos h2,sees_here h2];simp
 rw[if_neg h2];by_cases h3:s.sees [101,118,101,110,116,115]=true
 ·rw[if_pos h3,sees_here h3];simp
 rw[if_neg h3];by_cases h4:s.sees [98,111,97,114,100,115]=true
 ·rw[if_pos h4,sees_here h4];simp
 simp[h1,h2,h3,h4] at h
theorem head_no {b:zag} {s:InS} (h:fourB s=false):znS b s=(b.what,s):=by
 unfold fourB at h;simp only[Bool.or_eq_false_iff] at h;obtain⟨h1,h2,h3,h4⟩:=h;unfold znS;simp[h1,h2,h3,h4]
theorem rport_info:(Tryz.prog.info? 53).map (fun i=>(i.zero,i.size,i.bytes))=some (some (.agg #[.string ⟨#[]⟩,.int .u8 0,.bool false,.int .i64 0,.int .i64 0,.int .i64 0]),6,48):=by kernel_rfl
theorem rproc_info:(Tryz.prog.info? 67).map (fun i=>(i.zero,i.size,i.bytes))=some (some (.agg #[.string ⟨#[]⟩,.int .i64 0,.int .i64 0,.int .i64 0,.slice none 0 0]),5,64):=by kernel_rfl
theorem switch_sticky {p:zas} {what:List (List UInt8)} {s s':InS} {b':zag} (h:zdn p what s=(b',s')) (h0:s'.err=0):s.err=0:=by
 by_cases he:s.err=0
 ·exact he
 ·have h1:=zjV (p:=p) (what:=what) he
  have h2:=(zdq p what).stay s he;rw[←h1,h] at h2;rw[show s'=s from h2] at h0;exact h0
theorem tail_go {what:List (List UInt8)} {x:Rf zas} {s s9 s10:InS} {q:zas} {u:Unit} (h1:x s=(q,s9)) (h2:zaR [59] s9=(u,s10)):zmo what x s=(⟨q,what⟩,s10):=by
 show(zaR [59] >>= fun _=>pure (zag.mk (x s).1 what):Rf zag) (x s).2=_
 rw[h1];exact zcv h2
theorem switch_semas {p:zas} {what:List (List UInt8)} {s s8 s9 s10:InS} {l:List Int} {u:Unit} (h:isR [115,101,109,97,115] s=(true,s8)) (h1:zeM zcW s8=(l,s9)) (h2:zaR [59] s9=(u,s10)):zdn p what s=(⟨{p with semas:=l},what⟩,s10):=by
 obtain⟨e,rfl⟩:=isR_true h;unfold zdn;rw[if_pos e];exact tail_go (zcv h1) h2
theorem switch_bufs {p:zas} {what:List (List UInt8)} {s s8 s9 s10:InS} {l:List Int} {u:Unit} (h0:s.sees [115,101,109,97,115]=false) (h:isR [98,117,102,115] s=(true,s8)) (h1:zeM zcW s8=(l,s9)) (h2:zaR [59] s9=(u,s10)):zdn p what s=(⟨{p with bufs:=l},what⟩,s10):=by
 obtain⟨e,rfl⟩:=isR_true h;unfold zdn;rw[h0,if_neg Bool.false_ne_true,if_pos e];exact tail_go (zcv h1) h2
theorem switch_events {p:zas} {what:List (List UInt8)} {s s8 s9 s10:InS} {l:Int} {u:Unit} (h0:s.sees [115,101,109,97,115]=false) (h00:s.sees [98,117,102,115]=false) (h:isR [101,118,101,110,116,115] s=(true,s8)) (h1:zcW s8=(l,s9)) (h2:zaR [59] s9=(u,s10)):zdn p what s=(⟨{p with events:=l},what⟩,s10):=by
 obtain⟨e,rfl⟩:=isR_true h;unfold zdn;rw[h0,if_neg Bool.false_ne_true,h00,if_neg Bool.false_ne_true,if_pos e];exact tail_go (zcv h1) h2
theorem switch_boards {p:zas} {what:List (List UInt8)} {s s8 s9 s10:InS} {l:Int} {u:Unit} (h0:s.sees [115,101,109,97,115]=false) (h00:s.sees [98,117,102,115]=false) (h01:s.sees [101,118,101,110,116,115]=false) (h:isR [98,111,97,114,100,115] s=(true,s8)) (h1:zcW s8=(l,s9)) (h2:zaR [59] s9=(u,s10)):zdn p what s=(⟨{p with boards:=l},what⟩,s10):=by
 obtain⟨e,rfl⟩:=isR_true h;unfold zdn;rw[h0,if_neg Bool.false_ne_true,h00,if_neg Bool.false_ne_true,h01,if_neg Bool.false_ne_true,if_pos e];exact tail_go (zcv h1) h2
theorem switch_proc {p:zas} {what:List (List UInt8)} {s s8 s9:InS} {x:zca} (h0:s.sees [115,101,109,97,115]=false) (h00:s.sees [98,117,102,115]=false) (h01:s.sees [101,118,101,110,116,115]=false) (h02:s.sees [98,111,97,114,100,115]=false) (h:isR [112,114,111,99] s=(true,s8)) (h1:zhW s8=(x,s9)):zdn p what s=(⟨{p with procs:=p.procs++[x]},what⟩,s9):=by
 obtain⟨e,rfl⟩:=isR_true h;unfold zdn;rw[h0,if_neg Bool.false_ne_true,h00,if_neg Bool.false_ne_true,h01,if_neg Bool.false_ne_true,h02,if_neg Bool.false_ne_true,if_pos e];exact zcv h1
theorem switch_port {p:zas} {what:List (List UInt8)} {s s9:InS} {x:zcp} (h0:s.sees [115,101,109,97,115]=false) (h00:s.sees [98,117,102,115]=false) (h01:s.sees [101,118,101,110,116,115]=false) (h02:s.sees [98,111,97,114,100,115]=false) (h03:s.sees [112,114,111,99]=false) (h1:zf1 s=(x,s9)):zdn p what s=(⟨{p with ports:=p.ports++[x]},what⟩,s9):=by
 unfold zdn;rw[h0,if_neg Bool.false_ne_true,h00,if_neg Bool.false_ne_true,h01,if_neg Bool.false_ne_true,h02,if_neg Bool.false_ne_true,h03,if_neg Bool.false_ne_true];exact zcv h1
end Go.Proofs.YtlngbjphagnloaaGreatDoor
