/-
  parse: the reference's walks on records: a block of the call's own for a further record.-/
import Derived.Test.YtlngbjphagnloaaGreatDoorPk32
namespace Go.Proofs.YtlngbjphagnloaaGreatDoor
open Go.RowKit
theorem zdp.mono {w:World} {G K:Nat→Prop} {vs:List Value} {rs:List zdx} (h:zdp w G vs rs) (hg: ∀b,G b→b<w.heap.size→K b):zdp w K vs rs:=
 ⟨h.len,h.wide,fun k v r hv hr=>by
   obtain⟨hq,cs,ho,hc⟩:=h.own k v r hv hr;exact⟨fun g e=>hg g (hq g e) (zaj ho e).2,cs,ho,hc.mono (fun b hb hl=>⟨hg b hb.1 hl,hb.2⟩)⟩,h.apart⟩
theorem zdp.fresh {w:World} {G:Nat→Prop} {vs:List Value} {rs:List zdx} (h:zdp w G vs rs) (hG: ∀b,w.heap.size≤b→G b): ∀b,w.heap.size≤b→zkY G vs b:=fun b hb=>⟨hG b hb,fun u hu e=>by
 obtain⟨j,hj⟩:=List.getElem?_of_mem hu;have:=h.lt hj e
 omega⟩
theorem zdA.range {rb xb:Nat} {W w:World} {T:TypeId} {row:List Value} (h:zdA rb W xb T row w):w.rangeAt xb 0 row:=fun j v hv=>by
 rw[Nat.zero_add];exact(h.fact j hv).1
theorem zdA.there {rb xb:Nat} {W w:World} {T:TypeId} {row:List Value} (h:zdA rb W xb T row w):w.there xb 0 row.length:=fun j hj=>by
 obtain⟨h1,h2,_⟩:=h.fact j (List.getElem?_eq_getElem hj);rw[Nat.zero_add];exact⟨by rw[h1];rfl,h2⟩
theorem results_cell_mid {fn:Func} {p:Tmp} {ty:TypeId} (h:fn.results= #[.cell p ty]) (tmps:Array Value) (w:World) (g:Nat) (cs:List Value) (d:TypeDesc) (hp:tmps.getD p undef= .pointer (some ⟨g,0,none⟩)) (hc:w.rangeAt g 0 cs)
 (hu:Tryz.prog.underlying ty=some d) (hd:d.isRow=true) (hi:(Tryz.prog.info? ty).map (·.size)=some cs.length):(results fn tmps).run Tryz.prog w= .ok (.agg cs.toArray) w:=by
 have hp':tmps[p]?.getD undef= .pointer (some ⟨g,0,none⟩):=by simpa using hp
 simp[results,h,hp',asAddr,run_loadVar_mid w g 0 ty cs d hc hu hd hi]
theorem exec_bsR {ρ:Operand→Value} {o:Oper} {t:TypeId} {n:Nat} {parts:Array (Nat×Operand)} {ps:Array (Nat×Value)} {v:Value} {w w':World} (ho:o.op= .buildSlice t n parts) (hp:(parts.map fun x=>(x.1,ρ x.2))=ps) (h:(Instr.buildSlice t n ps).run Tryz.prog w= .ok v w'):(execOp ρ o).run Tryz.prog w= .ok (.value v) w':=by
 unfold execOp;rw[ho];subst hp;simp[h]
theorem if_goalR {c:Prop} [Decidable c] {p q:Prop} (h:c) (hp:p):(if c then p else q):=by
 rw[if_pos h];exact hp
theorem wp_valR {o:Oper} {a:Act} {w w':World} {v:Value} {K:Act→World→Prop} {Q:Exit→Act→World→Prop} (h:(execOp a.eval o).run Tryz.prog w= .ok (.value v) w') (hK:K (a.put o.dst v) w'):Oper.wp Tryz.prog o a w K Q:=by
 unfold Oper.wp;rw[h];rw[Oper.upon_value];exact hK
section
variable {rb xb yb:Nat} {ts:List Tok} {W w w':World} {G K:Nat→Prop} {T:TypeId} {zs row vs:List Value} {rs:List zdx} {s s':InS}
theorem XS.hold (h:XS rb ts W G xb yb T zs s row vs rs w) (T':TypeId) (r':List Value):
 XS rb ts W (fun b=>G b∧b≠w.heap.size) xb yb T zs s row vs rs (w.alloc (.cells r'.toArray T'))∧zdA rb W w.heap.size T' r' (w.alloc (.cells r'.toArray T')):=by
 have h1:=h.later ((Below.refl _ _).alloc (Nat.le_refl _) (.cells r'.toArray T'));have hz:=h.kept.size;exact⟨⟨h1.rin,⟨h1.kept.os,h1.kept.tape,h1.kept.output,h1.kept.size,fun i hi hn=>h1.kept.block i hi (fun e=>hn (e.imp id (fun e=>⟨e,fun e2=>by omega⟩)))⟩,h1.x,h1.y,
  (h.rows.mono (fun b hb hl=>⟨hb,fun e=>by omega⟩)).keep (by simp) (fun b _ hl=>Below.heap_alloc _ _ _ hl),h1.ne,fun b hb e=>h1.out b hb e.1,fun b hb=>⟨h1.new b hb,fun e=>by simp at hb;omega⟩⟩,⟨heap_alloc_new w _,hz,h.rin.lt⟩⟩
theorem XS.free (h:XS rb ts W G xb yb T zs s row vs rs w) (hg: ∀b,G b→K b) (ho: ∀b,b≤rb∨b=xb∨b=yb→ ¬K b):XS rb ts W K xb yb T zs s row vs rs w:=
 ⟨h.rin,h.kept.mono (fun _ e=>e.imp id (hg _)),h.x,h.y,h.rows.mono (fun b hb _=>hg b hb),h.ne,ho,fun b hb=>hg b (h.new b hb)⟩
theorem XS.far (h:XS rb ts W G xb yb T zs s row vs rs w) {p:Addr} (hp:W.heap.size≤p.block) (hr:rb<p.block) (hx:p.block≠xb) (hy:p.block≠yb) (hG: ¬G p.block) (v:Value):XS rb ts W G xb yb T zs s row vs rs (w.setCell p v):=
 ⟨h.rin.far hr v,h.kept.setCell (.inr hp) v,h.x.far hx v,h.y.far hy v,h.rows.keep (by simp[World.setCell]) (fun b hb _=>Below.heap_setCell _ _ _ _ (fun e=>hG (e ▸ hb))),h.ne,h.out,fun b hb=>h.new b (by simpa [World.setCell] using hb)⟩
theorem XS.fin (h:XS rb ts W G xb yb T zs s row vs rs w) (us:List Value) (hz:us.length=zs.length):
 RIn rb ts s (w.setCells yb 0 us)∧zam (fun k=>k=rb∨G k) W (w.setCells yb 0 us)∧zdp (w.setCells yb 0 us) G vs rs∧(w.setCells yb 0 us).rangeAt yb 0 us:=by
 have hK:zam (fun b=>b=yb) w (w.setCells yb 0 us):=zam.setCells (F:=fun b=>b=yb) yb (.inl rfl) us 0 w (zam.refl _ w);have hr:=World.rangeAt_setCells_same w yb 0 us (hz ▸ h.y.there);exact⟨h.rin.kept hK (fun b hb e=>by have:=h.y.low;omega),h.kept.trans2 hK (fun i hi e=>by have:=h.y.big;omega),h.rows.keep hK.size (fun b hb hl=>hK.block b hl (fun e=>h.out b (.inr (.inr e)) hb)),hr⟩
end
end Go.Proofs.YtlngbjphagnloaaGreatDoor
