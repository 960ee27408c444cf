/-
  parse: a configuration has no longer lists than its source has tokens.-/
import Derived.Test.YtlngbjphagnloaaGreatDoorPk4
import Derived.Test.YtlngbjphagnloaaGreatDoorPk6
namespace Go.Proofs.YtlngbjphagnloaaGreatDoor
def Fit {α:Type} (N:Nat) (P:α→Prop) (m:Ps α):Prop:= ∀r a r',r.length≤N→m r= .ok a r'→r'.length≤r.length∧P a
variable {N:Nat}
theorem Fit.bind {α β:Type} {Q:α→Prop} {P:β→Prop} {m:Ps α} {f:α→Ps β} (h:Fit N Q m) (k: ∀a,Q a→Fit N P (f a)):Fit N P (m >>= f):=fun r b r' hr e=>by
 obtain⟨a,r1,h1,h2⟩:=zeB e;obtain⟨h3,h4⟩:=h r a r1 hr h1;obtain⟨h5,h6⟩:=k a h4 r1 b r' (by omega) h2;exact⟨by omega,h6⟩
theorem Fit.any {α β:Type} {P:β→Prop} {m:Ps α} {f:α→Ps β} (h:NI m) (k: ∀a,Fit N P (f a)):Fit N P (m >>= f):=Fit.bind (Q:=fun _=>True) (fun r a r' _ e=>⟨h r a r' e,trivial⟩) fun a _=>k a
theorem Fit.ret {α:Type} {P:α→Prop} {a:α} (h:P a):Fit N P (pure a:Ps α):=fun r b r' _ e=>by
 have e:(Res.ok a r:Res α)= .ok b r':=e;injection e with e1 e2
 subst e1 e2;exact⟨Nat.le_refl _,h⟩
theorem more_len {α:Type} {x:Ps α} (h:LT x): ∀(f:Nat) (acc:List α) (r:List Tok) (a:List α) (r':List Tok),zc8 x f acc r= .ok a r'→a.length+r'.length≤acc.length+r.length
 |0,acc,r,a,r',e=>by
  have e:(Res.ok acc r:Res (List α))= .ok a r':=e;injection e with e1 e2
  subst e1 e2;exact Nat.le_refl _
 |f+1,acc,r,a,r',e=>by
  obtain⟨b,r1,h1,h2⟩:=zeB (show(zbf [44] >>= fun b=>if b then(x >>= fun a=>zc8 x f (acc++[a])) else pure acc) r= .ok a r' from e);have h3:=zfq _ _ _ _ h1
  cases b with
  |true=>
   obtain⟨y,r2,h4,h5⟩:=zeB (show(x >>= fun a=>zc8 x f (acc++[a])) r1= .ok a r' from h2);have h6:=h _ _ _ h4;have h7:=more_len h f _ _ _ _ h5;simp at h7
   omega
  |false=>
   have e:(Res.ok acc r1:Res (List α))= .ok a r':=h2;injection e with e1 e2
   subst e1 e2
   omega
theorem list_fit {α:Type} {x:Ps α} (h:LT x):Fit N (fun l:List α=>l.length≤N) (zde x):=fun r a r' hr e=>by
 obtain⟨y,r1,h1,h2⟩:=zeB (show(x >>= fun a r=>zc8 x (r.length+1) [a] r) r= .ok a r' from e);have h3:=h _ _ _ h1;have h4:=more_len h _ _ _ _ _ h2;simp at h4;exact⟨by omega,by omega⟩
theorem code_len: ∀(f:Nat) (acc:List zcQ) (r:List Tok) (a:List zcQ) (r':List Tok),zbn f acc r= .ok a r'→a.length+r'.length≤acc.length+r.length
 |0,acc,r,a,r',e=>by
  have e:(Res.ok acc r:Res (List zcQ))= .ok a r':=e;injection e with e1 e2
  subst e1 e2;exact Nat.le_refl _
 |f+1,acc,r,a,r',e=>by
  unfold zbn at e
  split at e
  ·obtain⟨y,r1,h1,h2⟩:=zeB e
   have h3:=zlC _ _ _ h1;have h4:=code_len f _ _ _ _ h2;simp at h4
   omega
  ·injection e with e1 e2
   subst e1 e2;exact Nat.le_refl _
theorem code_fit:Fit N (fun l:List zcQ=>l.length≤N) zcs:=fun r a r' hr e=>by
 have:=code_len _ _ _ _ _ e;simp at this;exact⟨by omega,by omega⟩
theorem proc_fit:Fit N (fun x:zca=>x.code.length≤N) zfh:= .any zbC.ni fun _=> .any (zby _).ni fun _=> .any (zby _).ni fun _=> .any (zby _).ni fun _=> .any (zaZ _).ni fun _=>code_fit.bind fun _ h=> .any (zaZ _).ni fun _=> .ret h
def zas.fit (N k:Nat) (p:zas):Prop:=p.semas.length≤N∧p.bufs.length≤N∧p.ports.length+k≤N∧p.procs.length+k≤N∧ ∀x∈p.procs,x.code.length≤N
theorem once_fit {w:List UInt8} {b:zag} {x:Ps zas} {k:Nat} (h:Fit N (zas.fit N k) x) {r r':List Tok} {a:zag} (hr:r.length≤N) (e:zcE w b x r= .ok a r'):a.p.fit N k:=by
 unfold zcE at e
 split at e
 ·cases e
 ·exact(Fit.any (P:=fun a:zag=>a.p.fit N k) zpl fun _=>h.bind fun _ hp=> .any (zaZ _).ni fun _=> .ret hp) r a r' hr e |>.2
theorem semas_fit {p:zas} {k:Nat} (h:p.fit N k):Fit N (zas.fit N k) (zdw p):=(list_fit zcB).bind fun _ h'=> .ret ⟨h',h.2⟩
theorem bufs_fit {p:zas} {k:Nat} (h:p.fit N k):Fit N (zas.fit N k) (zfb p):=(list_fit zcB).bind fun _ h'=> .ret ⟨h.1,h',h.2.2⟩
theorem events_fit {p:zas} {k:Nat} (h:p.fit N k):Fit N (zas.fit N k) (zcw p):= .any zcB.ni fun _=> .ret h
theorem boards_fit {p:zas} {k:Nat} (h:p.fit N k):Fit N (zas.fit N k) (zcA p):= .any zcB.ni fun _=> .ret h
theorem thing_fit {b a:zag} {r r':List Tok} (hr:r.length≤N) (hb:b.p.fit N r.length) (e:za3 b r= .ok a r'):a.p.fit N r'.length:=by
 have hl:=ziB b _ _ _ e;have hw: ∀p:zas,p.fit N r.length→p.fit N r'.length:=fun p h=>⟨h.1,h.2.1,by have:=h.2.2.1;omega,by have:=h.2.2.2.1;omega,h.2.2.2.2⟩
 unfold za3 at e
 split at e
 ·exact hw _ (once_fit (semas_fit hb) hr e)
 split at e
 ·exact hw _ (once_fit (bufs_fit hb) hr e)
 split at e
 ·exact hw _ (once_fit (events_fit hb) hr e)
 split at e
 ·exact hw _ (once_fit (boards_fit hb) hr e)
 split at e
 ·obtain⟨_,h⟩:=(Fit.any (P:=fun a:zag=> ∃x:zca,x.code.length≤N∧a=⟨{b.p with procs:=b.p.procs++[x]},b.what⟩) zpl fun _=>proc_fit.bind fun x h=> .ret ⟨x,h,rfl⟩) r a r' hr e
  obtain⟨x,hx,rfl⟩:=h;refine⟨hb.1,hb.2.1,by have:=hb.2.2.1;show b.p.ports.length+_≤_;omega,by have:=hb.2.2.2.1;simp;omega,fun y hy=> ?_⟩;rcases List.mem_append.1 hy with hy|hy
  ·exact hb.2.2.2.2 y hy
  ·rw[List.mem_singleton.1 hy];exact hx
 ·obtain⟨x,r1,h1,h2⟩:=zeB e
  have h2:(Res.ok _ r1:Res zag)= .ok a r':=h2;injection h2 with h2 _
  subst h2;exact⟨hb.1,hb.2.1,by have:=hb.2.2.1;simp;omega,by have:=hb.2.2.2.1;show b.p.procs.length+_≤_;omega,hb.2.2.2.2⟩
theorem things_fit: ∀(f:Nat) (b a:zag) (r r':List Tok),r.length≤N→b.p.fit N r.length→zav f b r= .ok a r'→a.p.fit N 0
 |0,b,a,r,r',hr,hb,e=>by
  have e:(Res.ok b r:Res zag)= .ok a r':=e;injection e with e1 e2
  subst e1;exact⟨hb.1,hb.2.1,by have:=hb.2.2.1;omega,by have:=hb.2.2.2.1;omega,hb.2.2.2.2⟩
 |f+1,b,a,r,r',hr,hb,e=>by
  unfold zav at e
  split at e
  ·injection e with e1 e2
   subst e1;exact⟨hb.1,hb.2.1,by have:=hb.2.2.1;omega,by have:=hb.2.2.2.1;omega,hb.2.2.2.2⟩
  ·obtain⟨b1,r1,h1,h2⟩:=zeB e
   have hl:=ziB b _ _ _ h1;exact things_fit f b1 a r1 r' (by omega) (thing_fit hr hb h1) h2
theorem part_fit:Fit N (zas.fit N 0) zdX:= .any zbC.ni fun _=> .any (zby _).ni fun _=> .any (zby _).ni fun _=> .any (zby _).ni fun _=> .any (zaZ _).ni fun _=>Fit.bind (Q:=fun b:zag=>b.p.fit N 0) (fun r a r' hr e=>⟨zgR _ _ r a r' e,things_fit _ _ a r r' hr ⟨Nat.zero_le _,Nat.zero_le _,by simpa using hr,by simpa using hr,fun x hx=>by cases hx⟩ e⟩) fun _ h=> .ret h
theorem parts_fit: ∀(f:Nat) (acc a:List zas) (r r':List Tok),acc.length+r.length≤N→(∀p∈acc,p.fit N 0)→zaS f acc r= .ok a r'→a.length≤N∧ ∀p∈a,p.fit N 0
 |0,acc,a,r,r',hr,hb,e=>by
  have e:(Res.ok acc r:Res (List zas))= .ok a r':=e;injection e with e1 e2
  subst e1;exact⟨by omega,hb⟩
 |f+1,acc,a,r,r',hr,hb,e=>by
  obtain⟨b,r1,h1,h2⟩:=zeB (show(zbf [112,97,114,116] >>= fun b=>if b then(zdX >>= fun a=>zaS f (acc++[a])) else pure acc) r= .ok a r' from e);have h3:=zfq _ _ _ _ h1
  cases b with
  |true=>
   obtain⟨y,r2,h4,h5⟩:=zeB (show(zdX >>= fun a=>zaS f (acc++[a])) r1= .ok a r' from h2);have h6:=zk7 _ _ _ h4;have h7:=(part_fit (N:=N) _ _ _ (by omega) h4).2;refine parts_fit f _ a r2 r' (by simp;omega) (fun p hp=> ?_) h5;rcases List.mem_append.1 hp with hp|hp
   ·exact hb p hp
   ·rw[List.mem_singleton.1 hp];exact h7
  |false=>
   have e:(Res.ok acc r1:Res (List zas))= .ok a r':=h2;injection e with e1 e2
   subst e1;exact⟨by omega,hb⟩
def zdZ.fit (N:Nat) (m:zdZ):Prop:=m.parts.length≤N∧ ∀p∈m.parts,p.fit N 0
theorem mod_fit:Fit N (zdZ.fit N) zf9:= .any zbC.ni fun _=> .any (zby _).ni fun _=> .any (zby _).ni fun _=> .any (zaZ _).ni fun _=>Fit.bind (Q:=fun l:List zas=>l.length≤N∧ ∀p∈l,p.fit N 0) (fun r a r' hr e=>⟨ziC _ _ r a r' e,parts_fit _ _ a r r' (by simpa using hr) (fun x hx=>by cases hx) e⟩) fun _ h=> .any (zaZ _).ni fun _=> .ret h
theorem chan_fit:Fit N (fun x:zcU=>x.to.length≤N) zdW:= .any zeX.ni fun _=> .any (zaZ _).ni fun _=>(list_fit zeX).bind fun _ h=> .any (zaZ _).ni fun _=> .ret h
theorem vl_fit:Fit N (fun x:VlD=>x.to.length≤N) vlP:= .any zbC.ni fun _=> .any (zaZ _).ni fun _=> .any zeX.ni fun _=> .any (zby _).ni fun _=> .any (zby _).ni fun _=> .any (zaZ _).ni fun _=>(list_fit zeX).bind fun _ h=> .any (zaZ _).ni fun _=> .ret h
theorem unless_fit:Fit N (fun l:List (List UInt8)=>l.length≤N) zgL:= .any (zfq _) fun b=>by
 cases b with
 |true=>exact list_fit zbC
 |false=>exact .ret (Nat.zero_le _)
theorem cause_fit:Fit N (fun x:zbl=>x.needs.length≤N∧x.but.length≤N) zcg:= .any zbC.ni fun _=> .any (zaZ _).ni fun _=>(list_fit zlQ).bind fun _ h=>unless_fit.bind fun _ h2=> .any (zaZ _).ni fun _=> .ret ⟨h,h2⟩
structure zaK.fit (N k:Nat) (c:zaK):Prop where
 len:c.count+k≤N
 modules: ∀x∈c.modules,x.fit N
 channels: ∀x∈c.channels,x.to.length≤N
 vls: ∀x∈c.vls,x.to.length≤N
 causes: ∀x∈c.causes,x.needs.length≤N∧x.but.length≤N
theorem snocs {α:Type} {P:α→Prop} {l:List α} {x:α} (h: ∀p∈l,P p) (hx:P x): ∀p∈l++[x],P p:=fun p hp=>by
 rcases List.mem_append.1 hp with hp|hp
 ·exact h p hp
 ·rw[List.mem_singleton.1 hp];exact hx
theorem item_one' {α:Type} {P:α→Prop} {m:Ps α} {g:α→zaK} {r r':List Tok} {a:zaK} (h:Fit N P m) (hr:r.length≤N) (e:(zb2 >>= fun _=>m >>= fun x=>pure (g x)) r= .ok a r'): ∃x,P x∧a=g x:=
 ((Fit.any (P:=fun a:zaK=> ∃x,P x∧a=g x) zpl fun _=>h.bind fun x hx=> .ret ⟨x,hx,rfl⟩) r a r' hr e).2
theorem item_fit {c a:zaK} {r r':List Tok} (hr:r.length≤N) (hb:c.fit N r.length) (e:zb1 c r= .ok a r'):a.fit N r'.length:=by
 have hl:=zkw c _ _ _ e;have hc:=hb.len;unfold zaK.count at hc;have tr: ∀{α:Type} {m:Ps α},NI m→Fit N (fun _=>True) m:=fun h r a r' _ e=>⟨h r a r' e,trivial⟩
 unfold zb1 at e
 split at e
 ·obtain⟨x,hx,rfl⟩:=item_one' mod_fit hr e
  exact⟨by simp[zaK.count];omega,snocs hb.modules hx,hb.channels,hb.vls,hb.causes⟩
 split at e
 ·obtain⟨x,hx,rfl⟩:=item_one' chan_fit hr e
  exact⟨by simp[zaK.count];omega,hb.modules,snocs hb.channels hx,hb.vls,hb.causes⟩
 split at e
 ·obtain⟨x,hx,rfl⟩:=item_one' (tr zpb.ni) hr e
  exact⟨by simp[zaK.count];omega,hb.modules,hb.channels,hb.vls,hb.causes⟩
 split at e
 ·obtain⟨x,hx,rfl⟩:=item_one' (tr znC.ni) hr e
  exact⟨by simp[zaK.count];omega,hb.modules,hb.channels,hb.vls,hb.causes⟩
 split at e
 ·obtain⟨x,hx,rfl⟩:=item_one' vl_fit hr e
  exact⟨by simp[zaK.count];omega,hb.modules,hb.channels,snocs hb.vls hx,hb.causes⟩
 split at e
 ·obtain⟨x,hx,rfl⟩:=item_one' (tr zkT.ni) hr e
  exact⟨by simp[zaK.count];omega,hb.modules,hb.channels,hb.vls,hb.causes⟩
 split at e
 ·obtain⟨x,hx,rfl⟩:=item_one' cause_fit hr e
  exact⟨by simp[zaK.count];omega,hb.modules,hb.channels,hb.vls,snocs hb.causes hx⟩
 split at e
 ·obtain⟨x,hx,rfl⟩:=item_one' (tr zmr.ni) hr e
  exact⟨by simp[zaK.count];omega,hb.modules,hb.channels,hb.vls,hb.causes⟩
 ·cases e
theorem items_fit: ∀(f:Nat) (c a:zaK) (r r':List Tok),r.length≤N→c.fit N r.length→zbp f c r= .ok a r'→a.fit N 0
 |0,c,a,r,r',hr,hb,e=>by
  have e:(Res.ok c r:Res zaK)= .ok a r':=e;injection e with e1 e2
  subst e1;exact{hb with len:=by have:=hb.len;omega}
 |f+1,c,a,[],r',hr,hb,e=>by
  have e:(Res.ok c []:Res zaK)= .ok a r':=e;injection e with e1 e2
  subst e1;exact hb
 |f+1,c,a,t::r,r',hr,hb,e=>by
  obtain⟨c1,r1,h1,h2⟩:=zeB (show(zb1 c >>= fun c'=>zbp f c') (t::r)= .ok a r' from e);have hl:=zkw c _ _ _ h1;exact items_fit f c1 a r1 r' (by omega) (item_fit hr hb h1) h2
theorem cfg_fit {c:zaK} {r r':List Tok} (hr:r.length≤N) (e:zgN r= .ok c r'):c.fit N 0:=
 items_fit _ _ c r r' hr ⟨by simpa [zaK.count,zaK.none] using hr,(fun _ hx=>absurd hx List.not_mem_nil),(fun _ hx=>absurd hx List.not_mem_nil),(fun _ hx=>absurd hx List.not_mem_nil),(fun _ hx=>absurd hx List.not_mem_nil)⟩ e
theorem zaK.fit.sm {c:zaK} (h:c.fit N 0) (hN:N≤1099511627776):c.sm:=by
 have hc:=h.len;unfold zaK.count at hc;refine⟨⟨by omega,fun m hm=> ?_⟩,⟨by omega,fun x hx=> ?_⟩,by omega,by omega,⟨by omega,fun x hx=> ?_⟩,by omega,⟨by omega,fun x hx=> ?_⟩,by omega⟩
 ·obtain⟨h1,h2⟩:=h.modules m hm
  refine⟨by omega,fun p hp=> ?_⟩;obtain⟨g1,g2,g3,g4,g5⟩:=h2 p hp;exact⟨by omega,by omega,by omega,by omega,fun x hx=>by have:=g5 x hx;show _≤_;omega⟩
 ·have:=h.channels x hx
  show _≤_;omega
 ·have:=h.vls x hx
  show _≤_;omega
 ·have:=h.causes x hx
  exact⟨by omega,by omega⟩
theorem zaK.none_fit:zaK.none.fit N 0:=⟨Nat.zero_le _,(fun _ hx=>absurd hx List.not_mem_nil),(fun _ hx=>absurd hx List.not_mem_nil),(fun _ hx=>absurd hx List.not_mem_nil),(fun _ hx=>absurd hx List.not_mem_nil)⟩
end Go.Proofs.YtlngbjphagnloaaGreatDoor
