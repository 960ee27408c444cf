/- Merged texts of the walks and of the plain laws on which the statement leans.-/
import Derived.Test.YtlngbjphagnloaaGreatDoorPk12
import Derived.Test.YtlngbjphagnloaaGreatDoorPk4
import Derived.Test.YtlngbjphagnloaaGreatDoorPk1
import Derived.Recover
import Derived.Defers
set_option maxHeartbeats 1000000
set_option maxRecDepth 100000
namespace Go.Proofs.YtlngbjphagnloaaGreatDoor
open Tryz
open Go.RowKit
structure zdx where
 t:TypeId
 size:Nat
 es:List (List Dat)
def zb5 (B:Nat) (vs:List Value) (b:Nat):Prop:=B≤b∧ ∀u∈vs,u.ownBlock≠some b
structure zbb (w:World) (B:Nat) (vs:List Value) (rs:List zdx):Prop where
 len:vs.length=rs.length
 wide: ∀(k:Nat) (r:zdx),rs[k]? =some r→ ∀e∈r.es,e.length=r.size
 own: ∀(k:Nat) (v:Value) (r:zdx),vs[k]? =some v→rs[k]? =some r→ ∃cs,w.ownsRow B r.t r.size v r.es.length cs∧zaf w (zb5 B vs) cs r.es.flatten
 apart: ∀(k l:Nat) (u v:Value) (g:Nat),vs[k]? =some u→vs[l]? =some v→u.ownBlock=some g→v.ownBlock=some g→k=l
theorem zbb.keep {w w':World} {B:Nat} {vs:List Value} {rs:List zdx} (h:zbb w B vs rs) (hz:w.heap.size≤w'.heap.size) (hk: ∀b,B≤b→b<w.heap.size→w'.heap[b]? =w.heap[b]?):zbb w' B vs rs:=
 ⟨h.len,h.wide,fun k v r hv hr=>by
   obtain⟨cs,ho,hc⟩:=h.own k v r hv hr;exact⟨cs,zai ho (fun g hg hb=>hk g hb (zaj ho hg).2),hc.keep hz (fun b hb hl=>hk b hb.1 hl)⟩,h.apart⟩
theorem zbb.kept {F:Nat→Prop} {w w':World} {B:Nat} {vs:List Value} {rs:List zdx} (h:zbb w B vs rs) (hk:zam F w w') (hF: ∀b,B≤b→ ¬F b):zbb w' B vs rs:=h.keep hk.size (fun b hb hl=>hk.block b hl (hF b hb))
theorem zbb.below {w w':World} {B:Nat} {vs:List Value} {rs:List zdx} (h:zbb w B vs rs) (hb:Below w.heap.size w w'):zbb w' B vs rs:=h.keep hb.size (fun b _ hl=>hb.block b hl)
theorem za0 {α:Type} {l:List α} {k i:Nat} {a x:α} (h:(l.set k a)[i]? =some x):(i=k∧k<l.length∧x=a)∨(i≠k∧l[i]? =some x):=by
 by_cases e:i=k
 ·subst e
  by_cases hl:i<l.length
  ·rw[List.getElem?_set_self hl] at h
   injection h with h
   exact .inl ⟨rfl,hl,h.symm⟩
  ·rw[List.getElem?_eq_none (by simp;omega)] at h
   cases h
 ·rw[List.getElem?_set_ne (fun h=>e h.symm)] at h
  exact .inr ⟨e,h⟩
theorem zbb.join {w1 w2:World} {B k:Nat} {vs:List Value} {rs:List zdx} {v v':Value} {r:zdx} {fs:List (List Dat)} {cs news:List Value} (h:zbb w1 B vs rs) (_hB:B≤w1.heap.size) (hv:vs[k]? =some v) (hr:rs[k]? =some r) (hf: ∀e∈fs,e.length=r.size)
 (hc:zaf w1 (zb5 B vs) cs r.es.flatten) (hnew:zaf w1 (zb5 B vs) news fs.flatten) (hown:w2.ownsRow B r.t r.size v' (r.es.length+fs.length) (cs++news)) (hg:w1.grownBy w2 v.ownBlock)
 (hat:v'.ownBlock=v.ownBlock∨v'.ownBlock=some w1.heap.size):zbb w2 B (vs.set k v') (rs.set k ⟨r.t,r.size,r.es++fs⟩):=by
 have hvm:v∈vs:=List.mem_of_getElem? hv;have hG: ∀b,zb5 B vs b→b<w1.heap.size→zb5 B (vs.set k v') b:=fun b hb hl=>⟨hb.1,fun u hu=>by
  rcases List.mem_or_eq_of_mem_set hu with hu|rfl
  ·exact hb.2 u hu
  ·rcases hat with e|e
   ·rw[e];exact hb.2 v hvm
   ·rw[e];intro e2;injection e2 with e2;omega⟩
 have hK: ∀b,zb5 B vs b→b<w1.heap.size→w2.heap[b]? =w1.heap[b]? :=fun b hb hl=>hg.block b hl (fun e=>hb.2 v hvm e.symm)
 refine⟨by simp[h.len],fun i x hx=> ?_,fun i u x hu hx=> ?_,fun i l u x g hu hx hug hxg=> ?_⟩
 ·rcases za0 hx with⟨rfl,_,rfl⟩|⟨_,hx⟩
  ·intro e he
   rcases List.mem_append.1 he with he|he
   ·exact h.wide _ r hr e he
   ·exact hf e he
  ·exact h.wide i x hx
 ·rcases za0 hu with⟨rfl,_,rfl⟩|⟨hik,hu⟩
  ·rcases za0 hx with⟨_,_,rfl⟩|⟨hne,_⟩
   ·refine⟨cs++news,by simpa using hown,?_⟩
    have:(r.es++fs).flatten=r.es.flatten++fs.flatten:=by simp
    show zaf w2 _ _ (r.es++fs).flatten
    rw[this];have:=((hc.append hnew).mono (H:=fun b=>zb5 B vs b∧b<w1.heap.size) (fun b hb hl=>⟨hb,hl⟩)).keep (w':=w2) hg.size (fun b hb hl=>hK b hb.1 hl);exact this.mono (fun b hb _=>hG b hb.1 hb.2)
   ·exact absurd rfl hne
  ·rcases za0 hx with⟨e,_,_⟩|⟨_,hx⟩
   ·exact absurd e hik
   ·obtain⟨cs',ho,hc'⟩:=h.own i u x hu hx
    refine⟨cs',zai ho (fun g hg' hb=>hg.block g (zaj ho hg').2 (fun e=>hik (h.apart i k u v g hu hv hg' e.symm))),?_⟩;have:=(hc'.mono (H:=fun b=>zb5 B vs b∧b<w1.heap.size) (fun b hb hl=>⟨hb,hl⟩)).keep (w':=w2) hg.size (fun b hb hl=>hK b hb.1 hl);exact this.mono (fun b hb _=>hG b hb.1 hb.2)
 ·have hlt: ∀(i:Nat) (u:Value) (g:Nat),vs[i]? =some u→u.ownBlock=some g→g<w1.heap.size:=fun i u g hu hug=>by
   have hi:i<rs.length:=by rw[←h.len];exact(List.getElem?_eq_some_iff.1 hu).1
   obtain⟨cs',ho,_⟩:=h.own i u rs[i] hu (List.getElem?_eq_getElem hi);exact(zaj ho hug).2
  rcases za0 hu with⟨rfl,_,rfl⟩|⟨hik,hu'⟩
  ·rcases za0 hx with⟨rfl,_,_⟩|⟨hlk,hx'⟩
   ·rfl
   ·rcases hat with e|e
    ·exact h.apart _ l v x g hv hx' (e.symm.trans hug) hxg
    ·rw[e] at hug
     injection hug with hug
     have:=hlt l x g hx' hxg
     omega
  ·rcases za0 hx with⟨rfl,_,rfl⟩|⟨hlk,hx'⟩
   ·rcases hat with e|e
    ·exact h.apart i _ u v g hu' hv hug (e.symm.trans hxg)
    ·rw[e] at hxg
     injection hxg with hxg
     have:=hlt i u g hu' hug
     omega
   ·exact h.apart i l u x g hu' hx' hug hxg
theorem zbb.push {w1 w2:World} {B k:Nat} {vs:List Value} {rs:List zdx} {v v':Value} {r:zdx} {f:List Dat} {cs news:List Value} (h:zbb w1 B vs rs) (hB:B≤w1.heap.size) (hv:vs[k]? =some v) (hr:rs[k]? =some r) (hf:f.length=r.size)
 (hc:zaf w1 (zb5 B vs) cs r.es.flatten) (hnew:zaf w1 (zb5 B vs) news f) (hown:w2.ownsRow B r.t r.size v' (r.es.length+1) (cs++news)) (hg:w1.grownBy w2 v.ownBlock)
 (hat:v'.ownBlock=v.ownBlock∨v'.ownBlock=some w1.heap.size):zbb w2 B (vs.set k v') (rs.set k ⟨r.t,r.size,r.es++[f]⟩):=
 h.join (fs:=[f]) hB hv hr (fun e he=>by rw[List.mem_singleton.1 he];exact hf) hc (by simpa using hnew) hown hg hat
theorem zbb.dat {w:World} {B k:Nat} {vs:List Value} {rs:List zdx} {v:Value} {r:zdx} (h:zbb w B vs rs) (hv:vs[k]? =some v) (hr:rs[k]? =some r):DAt w (fun b=>B≤b) v (.row r.size r.es):=by
 obtain⟨cs,ho,hc⟩:=h.own k v r hv hr;have hvm:v∈vs:=List.mem_of_getElem? hv;exact zfV.dat (t:=r.t) (n:=r.es.length) ⟨rfl,h.wide k r hr,cs,ho,hc.mono (fun b hb _=>⟨hb.1,hb.2 v hvm⟩)⟩
theorem zcY {α:Type} {w:World} {base:Nat} {t:TypeId} {size:Nat} {v:Value} {l:List α} {cells:α→List Value} (hw: ∀a,(cells a).length=size) (h:w.ownsRow base t size v l.length (l.flatMap cells)):DAt w (fun b=>base≤b) v (.row size (l.map fun a=>(cells a).map Dat.leaf)):=by
 refine zfV.dat (t:=t) (n:=l.length) ⟨by simp,fun e he=> ?_,_,h,?_⟩
 ·obtain⟨a,_,rfl⟩:=List.mem_map.1 he
  simp[hw]
 ·have e:(l.map fun a=>(cells a).map Dat.leaf).flatten=(l.flatMap cells).map Dat.leaf:=by
   rw[List.flatMap_def,List.map_flatten,List.map_map]
   rfl
  rw[e];refine⟨by simp,fun j u d hu hd=> ?_⟩;rw[List.getElem?_map,hu] at hd;injection hd with hd
  subst hd;exact .leaf u
theorem zbt {w:World} {G:Nat→Prop} (l:List Value):zaf w G l (l.map Dat.leaf):=⟨by simp,fun j u d hu hd=>by
 rw[List.getElem?_map,hu] at hd;injection hd with hd
 subst hd;exact .leaf u⟩
def zaM (c:zaK):List zdx:=[⟨46,4,c.modules.map zdZ.cells⟩,⟨133,4,c.channels.map zcU.cells⟩,⟨75,4,c.switches.map SwD.cells⟩,⟨77,4,c.links.map zc6.cells⟩,⟨136,7,c.vls.map VlD.cells⟩,⟨57,5,c.health.map zaI.cells⟩,⟨82,3,c.causes.map zbl.cells⟩,⟨139,4,c.versions.map zgD.cells⟩]
structure PSt (pb:Nat) (ts:List Tok) (j:Nat) (c:zaK) (B:Nat) (w:World):Prop where
 cur:Cur pb ts j w
 low:pb<B
 big:B≤w.heap.size
 tlow: ∀A c,w.cell? ⟨pb,0,none⟩=some (.slice A ts.length c)→ ∀a,A=some a→a.block<B
 at_: ∃vs,zbb w B vs (zaM c)∧ ∀(k:Nat) v,vs[k]? =some v→w.cell? ⟨pb,2+k,none⟩=some v
 free: ∀o,o<10→w.frozen? ⟨pb,o,none⟩=false
theorem PSt.to {pb j k B:Nat} {ts:List Tok} {c:zaK} {w w':World} (h:PSt pb ts j c B w) (a:AtJ pb k w w'):PSt pb ts k c B w':=by
 obtain⟨vs,hr,hc⟩:=h.at_;exact⟨h.cur.to a,h.low,Nat.le_trans h.big a.kept.size,fun A c hc=>h.tlow A c ((a.rest 0 (by decide)).symm.trans hc),⟨vs,hr.kept a.kept (fun b hb=>by have:=h.low;omega),fun i v hv=>(a.rest (2+i) (by omega)).trans (hc i v hv)⟩,fun o ho=>(a.hold o).trans (h.free o ho)⟩
theorem Cur.same {F:Nat→Prop} {pb j:Nat} {ts:List Tok} {w w':World} (h:Cur pb ts j w) (hk:zam F w w') (h0:w'.cell? ⟨pb,0,none⟩=w.cell? ⟨pb,0,none⟩) (h1:w'.cell? ⟨pb,1,none⟩=w.cell? ⟨pb,1,none⟩) (hf:w'.frozen? ⟨pb,1,none⟩=w.frozen? ⟨pb,1,none⟩)
 (hF: ∀A c,w.cell? ⟨pb,0,none⟩=some (.slice A ts.length c)→ ∀a,A=some a→ ¬F a.block):Cur pb ts j w':=by
 obtain⟨A,c,e0,hr,hA⟩:=h.toks;exact⟨⟨A,c,h0.trans e0,hr.kept hk (fun a ha=>hF A c e0 a ha),hA⟩,h1.trans h.now,hf.trans h.free⟩
theorem PSt.push {pb j B k:Nat} {ts:List Tok} {c c':zaK} {w w1 w2:World} {vs:List Value} {v v':Value} {r:zdx} {f:List Dat} {cs news:List Value} (h:PSt pb ts j c B w) (hvs:zbb w B vs (zaM c))
 (hcell: ∀(i:Nat) u,vs[i]? =some u→w.cell? ⟨pb,2+i,none⟩=some u) (hv:vs[k]? =some v) (hr:(zaM c)[k]? =some r) (hc:zaf w (zb5 B vs) cs r.es.flatten) (hf:f.length=r.size) (hb:Below w.heap.size w w1)
 (hnew:zaf w1 (zb5 B vs) news f) (hown:w2.ownsRow B r.t r.size v' (r.es.length+1) (cs++news)) (hg:w1.grownBy w2 v.ownBlock) (hat:v'.ownBlock=v.ownBlock∨v'.ownBlock=some w1.heap.size)
 (hc':zaM c'=(zaM c).set k ⟨r.t,r.size,r.es++[f]⟩):PSt pb ts j c' B (w2.setCell ⟨pb,2+k,none⟩ v')∧zam (fun b=>b=pb∨B≤b) w (w2.setCell ⟨pb,2+k,none⟩ v'):=by
 have hlow:=h.low;have hbig:=h.big;have hown0: ∀g,v.ownBlock=some g→B≤g:=fun g hg=>by
  obtain⟨cs',ho,_⟩:=hvs.own k v r hv hr;exact(zaj ho hg).1
 have hpw:pb<w1.heap.size:=by have:=hb.size;omega
 have hp2:w2.heap[pb]? =w.heap[pb]? :=(hg.block pb hpw (fun e=>by have:=hown0 pb e.symm;omega)).trans (hb.block pb (by omega));have hcl: ∀o,w2.cell? ⟨pb,o,none⟩=w.cell? ⟨pb,o,none⟩:=fun o=>World.cell?_of_block (w:=w) (a:=⟨pb,o,none⟩) hp2
 have hfr: ∀o,w2.frozen? ⟨pb,o,none⟩=w.frozen? ⟨pb,o,none⟩:=fun o=>World.frozen?_of_block (w:=w) (a:=⟨pb,o,none⟩) hp2
 have hK1:zam (fun b=>b=pb∨B≤b) w w2:=(zam.of_below hb).trans ⟨hg.os,hg.tape,hg.output,hg.size,fun i hi hn=>hg.block i hi (fun e=>hn (.inr (hown0 i e.symm)))⟩;have hK:zam (fun b=>b=pb∨B≤b) w (w2.setCell ⟨pb,2+k,none⟩ v'):=hK1.setCell (p:=⟨pb,2+k,none⟩) (.inl (.inl rfl)) v';have hsz:(w2.setCell ⟨pb,2+k,none⟩ v').heap.size=w2.heap.size:=by simp[World.setCell]
 have hne: ∀o,o≠2+k→(w2.setCell ⟨pb,2+k,none⟩ v').cell? ⟨pb,o,none⟩=w.cell? ⟨pb,o,none⟩:=fun o ho=>by
  rw[World.cell?_setCell_other _ _ _ _ (fun e=>ho (by injection e with _ e2 _;exact e2.symm)),hcl]
 have hfz: ∀o,(w2.setCell ⟨pb,2+k,none⟩ v').frozen? ⟨pb,o,none⟩=w.frozen? ⟨pb,o,none⟩:=fun o=>by rw[World.frozen?_setCell,hfr]
 have hRows:=(hvs.below hb).push (by have:=hb.size;omega) hv hr hf (hc.below hb) hnew hown hg hat;refine⟨⟨h.cur.same hK (hne 0 (by omega)) (hne 1 (by omega)) (hfz 1) (fun A c e a ha=>by
  rintro(h1|h1)
  ·obtain⟨A',c2,e0,_,hA⟩:=h.cur.toks
   rw[e0] at e;injection e with e
   injection e with e1 _ _
   subst e1;exact hA a ha h1
  ·have:=h.tlow A c e a ha
   omega),hlow,by rw[hsz];have:=hb.size;have:=hg.size;omega,fun A c e=>h.tlow A c ((hne 0 (by omega)).symm.trans e),⟨vs.set k v',?_,fun i u hu=> ?_⟩,fun o ho=>(hfz o).trans (h.free o ho)⟩,hK⟩
 ·rw[hc']
  exact hRows.keep (by rw[hsz];exact Nat.le_refl _) (fun b hb _=>Below.heap_setCell _ _ _ _ (by show b≠pb;omega))
 ·rcases za0 hu with⟨rfl,_,rfl⟩|⟨hik,hu⟩
  ·exact World.cell?_setCell_same w2 _ _ ((hcl _).trans (hcell _ v hv))
  ·rw[hne (2+i) (by omega)]
   exact hcell i u hu
theorem zbk {w:World} {g m size:Nat} {cs:Array Value} {t:TypeId} (h:w.heap[g]? =some (.cells cs t (0,0))) (hs:cs.size=m*size):zbE w w.heap.size size (some ⟨g,0,none⟩) m cs.toList:=by
 refine⟨by simpa using hs,fun _=>⟨_,rfl,(zal h),fun j u hu=> ?_⟩⟩;have e:(⟨g,0,none⟩:Addr).add j=⟨g,j,none⟩:=by
  unfold Addr.add
  split
  ·rename_i hj;rw[hj]
  ·simp
 rw[e];exact(cell_of_row w g j _ _ _ h).trans (by simpa using hu)
theorem zgK {α:Type} {s:List UInt8} {x:Ps α} {d a:α} {r r' r'':List Tok} (h:zbf s r= .ok true r') (h2:x r'= .ok a r''):(zbf s >>= fun b=>if b then x else pure d) r= .ok a r'':=(zac h).trans h2
theorem zgx {α:Type} {s:List UInt8} {x:Ps α} {d:α} {n:Nat} {r r' r'':List Tok} (h:zbf s r= .ok true r') (h2:x r'= .bad n r''):(zbf s >>= fun b=>if b then x else pure d) r= .bad n r'':=(zac h).trans h2
theorem ziS {α:Type} {s:List UInt8} {x:Ps α} {d:α} {r r':List Tok} (h:zbf s r= .ok false r'):(zbf s >>= fun b=>if b then x else pure d) r= .ok d r':=(zac h).trans rfl
def zao (pb:Nat) (ts:List Tok) (W:World) (B:Nat) (res:Res zaK) (e:Ending) (W':World):Prop:=
 ∃j,j≤ts.length∧zam (fun b=>b=pb∨B≤b) W W'∧match res with
  | .ok c r=>r=ts.drop j∧PSt pb ts j c B W'∧e= .returned (.tuple #[])
  | .bad n r=>r=ts.drop j∧Cur pb ts j W'∧e= .panicked [{v:= .iface 122 (.agg #[.int .i64 (n:Int)]),recovered:=false}]
theorem zao.mk_ok {pb j B:Nat} {ts:List Tok} {W W':World} {res:Res zaK} {c:zaK} (h:res= .ok c (ts.drop j)) (hj:j≤ts.length) (hk:zam (fun b=>b=pb∨B≤b) W W') (hp:PSt pb ts j c B W'):zao pb ts W B res (.returned (.tuple #[])) W':=by
 subst h;exact⟨j,hj,hk,rfl,hp,rfl⟩
theorem zao.mk_bad {pb j n B:Nat} {ts:List Tok} {W W':World} {res:Res zaK} (h:res= .bad n (ts.drop j)) (hj:j≤ts.length) (hk:zam (fun b=>b=pb∨B≤b) W W') (hp:Cur pb ts j W'):zao pb ts W B res (.panicked [{v:= .iface 122 (.agg #[.int .i64 (n:Int)]),recovered:=false}]) W':=by
 subst h;exact⟨j,hj,hk,rfl,hp,rfl⟩
theorem zao.split {pb B:Nat} {ts:List Tok} {W W':World} {res:Res zaK} {e:Ending} (h:zao pb ts W B res e W'):
 (∃c j,res= .ok c (ts.drop j)∧j≤ts.length∧zam (fun b=>b=pb∨B≤b) W W'∧PSt pb ts j c B W'∧e= .returned (.tuple #[]))∨
 (∃n j,res= .bad n (ts.drop j)∧j≤ts.length∧zam (fun b=>b=pb∨B≤b) W W'∧Cur pb ts j W'∧e= .panicked [{v:= .iface 122 (.agg #[.int .i64 (n:Int)]),recovered:=false}]):=by
 obtain⟨j,hj,hk,hm⟩:=h
 cases res with
 |ok c r=>exact .inl ⟨c,j,by rw[hm.1],hj,hk,hm.2.1,hm.2.2⟩
 |bad n r=>exact .inr ⟨n,j,by rw[hm.1],hj,hk,hm.2.1,hm.2.2⟩
theorem AtJ.drew {pb j:Nat} {w w':World} (h:AtJ pb j w w'):AtJ pb j w w'.drew:=⟨h.kept.drew,h.here,h.rest,h.free,h.hold⟩
theorem AtJ.kp {pb j B:Nat} {w w':World} (h:AtJ pb j w w'):zam (fun b=>b=pb∨B≤b) w w':=h.kept.mono (fun _ h=> .inl h)
def zcP {α:Type} (pb:Nat) (ts:List Tok) (W:World) (conv:α→List Value→Value) (deep:α→List Dat) (res:Res α) (e:Ending) (W':World):Prop:=
 ∃j,j≤ts.length∧AtJ pb j W W'∧match res with
  | .ok a r=>r=ts.drop j∧ ∃us,e= .returned (conv a us)∧zaf W' (fun b=>W.heap.size≤b) us (deep a)
  | .bad n r=>r=ts.drop j∧e= .panicked [{v:= .iface 122 (.agg #[.int .i64 (n:Int)]),recovered:=false}]
theorem zcP.mk_ok {α:Type} {pb j:Nat} {ts:List Tok} {W W':World} {conv:α→List Value→Value} {deep:α→List Dat} {res:Res α} {e:Ending} {a:α} {us:List Value} (h:res= .ok a (ts.drop j)) (hj:j≤ts.length) (hA:AtJ pb j W W') (hd:zaf W' (fun b=>W.heap.size≤b) us (deep a)) (he:e= .returned (conv a us)):zcP pb ts W conv deep res e W':=by
 subst h;exact⟨j,hj,hA,rfl,us,he,hd⟩
theorem zcP.mk_bad {α:Type} {pb j n:Nat} {ts:List Tok} {W W':World} {conv:α→List Value→Value} {deep:α→List Dat} {res:Res α} (h:res= .bad n (ts.drop j)) (hj:j≤ts.length) (hA:AtJ pb j W W'):zcP pb ts W conv deep res (.panicked [{v:= .iface 122 (.agg #[.int .i64 (n:Int)]),recovered:=false}]) W':=by
 subst h;exact⟨j,hj,hA,rfl,rfl⟩
theorem zcP.split {α:Type} {pb:Nat} {ts:List Tok} {W W':World} {conv:α→List Value→Value} {deep:α→List Dat} {res:Res α} {e:Ending} (h:zcP pb ts W conv deep res e W'):
 (∃a j us,res= .ok a (ts.drop j)∧j≤ts.length∧AtJ pb j W W'∧zaf W' (fun b=>W.heap.size≤b) us (deep a)∧e= .returned (conv a us))∨(∃n j,res= .bad n (ts.drop j)∧j≤ts.length∧AtJ pb j W W'∧e= .panicked [{v:= .iface 122 (.agg #[.int .i64 (n:Int)]),recovered:=false}]):=by
 obtain⟨j,hj,hA,hm⟩:=h
 cases res with
 |ok a r=>
  obtain⟨h1,us,h2,h3⟩:=hm;exact .inl ⟨a,j,us,by rw[h1],hj,hA,h3,h2⟩
 |bad n r=>exact .inr ⟨n,j,by rw[hm.1],hj,hA,hm.2⟩
theorem zcc.split {α:Type} {pb:Nat} {ts:List Tok} {W W':World} {T:TypeId} {size:Nat} {cells:α→List Value} {res:Res (List α)} {e:Ending} (h:zcc pb ts W T size cells res e W'):
 (∃l j v,res= .ok l (ts.drop j)∧j≤ts.length∧AtJ pb j W W'∧W'.ownsRow W.heap.size T size v l.length (l.flatMap cells)∧e= .returned v)∨(∃n j,res= .bad n (ts.drop j)∧j≤ts.length∧AtJ pb j W W'∧e= .panicked [{v:= .iface 122 (.agg #[.int .i64 (n:Int)]),recovered:=false}]):=by
 obtain⟨j,hj,hA,hm⟩:=h
 cases res with
 |ok a r=>
  obtain⟨h1,v,h2,h3⟩:=hm;exact .inl ⟨a,j,v,by rw[h1],hj,hA,h3,h2⟩
 |bad n r=>exact .inr ⟨n,j,by rw[hm.1],hj,hA,hm.2⟩
theorem zah {w:World} {base:Nat} {e:TypeId} {size:Nat} {v:Value} {n:Nat} {xs:List Value} (h:w.ownsRow base e size v n xs): ∃A c,v= .slice A n c:=by
 rcases h.2 with⟨rfl,rfl⟩|⟨g,cap,cur,rfl,_⟩
 ·exact⟨none,0,rfl⟩
 ·exact⟨_,_,rfl⟩
attribute [local go_sem] zax.cell
def zdj (n:Nat):Value:= .iface 122 (.agg #[.int .i64 (n:Int)])
theorem ta1 (w:World):(Instr.typeAssert .nilIface 20 122 true).run prog w= .ok (.tuple #[.agg #[.int .i64 0],.bool false]) w:=by kernel_rfl
theorem ta2 (n:Int) (w:World):(Instr.typeAssert (.iface 122 (.agg #[.int .i64 n])) 20 122 true).run prog w= .ok (.tuple #[.agg #[.int .i64 n],.bool true]) w:=by kernel_rfl
structure WS (P:Program) (ops:Array Oper) (Q:Exit→Act→List Frame→World→Prop) (l:List Nat) (a:Act) (cs:List Frame) (w:World):Prop where
 out:wpOpsS P ops Q l a cs w
section
variable {P:Program} {ops:Array Oper} {Q:Exit→Act→List Frame→World→Prop} {i:Nat} {rest:List Nat} {a:Act} {cs:List Frame} {w w':World} {o:Oper}
theorem WS.value {v:Value} (ho:ops[i]? =some o) (hw:Region.wanted o (yielded ops a.tmps)=true) (hr:(execOp a.eval o).run P w= .ok (.value v) w') (h:WS P ops Q rest (a.put o.dst v) cs w'):WS P ops Q (i::rest) a cs w:=⟨by
 simp only[wpOpsS,ho,hw,if_true,hr];exact h.out⟩
theorem WS.skip (ho:ops[i]? =some o) (hw:Region.wanted o (yielded ops a.tmps)=true) (hr:(execOp a.eval o).run P w= .ok .skip w') (h:WS P ops Q rest (a.put o.dst undef) cs w'):WS P ops Q (i::rest) a cs w:=⟨by
 simp only[wpOpsS,ho,hw,if_true,hr];exact h.out⟩
theorem WS.none (ho:ops[i]? =some o) (hw:Region.wanted o (yielded ops a.tmps)=true) (hr:(execOp a.eval o).run P w= .ok .recover w') (hc:recoverD cs= .none) (h:WS P ops Q rest (a.put o.dst .nilIface) cs w'):WS P ops Q (i::rest) a cs w:=⟨by
 simp only[wpOpsS,ho,hw,if_true,hr,hc];exact h.out⟩
theorem WS.some {v:Value} {cs':List Frame} (ho:ops[i]? =some o) (hw:Region.wanted o (yielded ops a.tmps)=true) (hr:(execOp a.eval o).run P w= .ok .recover w') (hc:recoverD cs= .some (v,cs')) (h:WS P ops Q rest (a.put o.dst v) cs' w'):WS P ops Q (i::rest) a cs w:=⟨by
 simp only[wpOpsS,ho,hw,if_true,hr,hc];exact h.out⟩
theorem WS.done (h:Q .normal a cs w):WS P ops Q [] a cs w:=⟨h⟩
theorem zd0 {id:Nat} {y:Code} (R:Act→List Frame→World→Prop) (h: ∀QQ:Exit→Act→List Frame→World→Prop,(∀a cs w,R a cs w→QQ .normal a cs w)→WS P ops QQ (List.range ops.size) a cs w)
 (hy: ∀a cs w,R a cs w→y.wpS P Q a cs w):(Code.seq (.region id ops false) y).wpS P Q a cs w:=wpS_seq (wpS_region (h _ (fun a cs w hR=>hy a cs w hR)).out)
def zpw (R:World→Prop) (e:Exit) (a:Act) (w:World):Prop:=a.defers=[]∧(e= .normal∨e= .ret)∧R w
theorem zg2 {c:Code} (R:World→Prop) (h:c.wp P (zpw R) a w) (hR: ∀e a' w',zpw R e a' w'→Q e a' cs w'):c.wpS P Q a cs w:=wpS_of_wp (fun b k cs'=>let⟨e,a',w',q,r⟩:=h b k cs';⟨e,a',w',hR _ _ _ q,r⟩)
theorem zhw {fn:Func} {c₀:Frame} {R:World→Prop} {RR:Ending→FrameMode→World→Prop} {u:FrameMode} (hres: ∀a w,(results fn a).run P w= .ok (.tuple #[]) w) (hRR: ∀w,R w→RR (.returned (.tuple #[])) u w):
 ∀e a' w',zpw R e a' w'→bodyPostS P fn c₀ cs RR e a' ({c₀ with mode:=u}::cs) w':=by
 rintro e a' w' ⟨h1,h2,h3⟩;rcases h2 with rfl|rfl
 ·exact⟨h1,u,rfl,_,hres _ _,hRR _ h3⟩
 ·exact⟨h1,u,rfl,_,hres _ _,hRR _ h3⟩
end
theorem ziH (a:Array Value) (w:World):(results Tryz.f55 a).run prog w= .ok (.tuple #[]) w:=by simp[results,Tryz.results55,go_sem]
theorem zlt (sb ab eb qb lb:Nat) (w:World):
 CallsD prog 55 #[.pointer (some ⟨sb,0,none⟩),.pointer (some ⟨ab,0,none⟩),.pointer (some ⟨eb,0,none⟩),.pointer (some ⟨qb,0,none⟩),.pointer (some ⟨lb,0,none⟩)] .returning w fun e u' w'=>
  e= .returned (.tuple #[])∧u'= .returning∧Below w.heap.size w w':=by
 refine callsD_of_wpS func55 rfl fun c₀ cs hu=> ?_
 have htm:(#[Value.pointer (some ⟨sb,0,none⟩),Value.pointer (some ⟨ab,0,none⟩),Value.pointer (some ⟨eb,0,none⟩),Value.pointer (some ⟨qb,0,none⟩),Value.pointer (some ⟨lb,0,none⟩)]++Array.replicate (Tryz.f55.ntmps-(#[Value.pointer (some ⟨sb,0,none⟩),Value.pointer (some ⟨ab,0,none⟩),Value.pointer (some ⟨eb,0,none⟩),Value.pointer (some ⟨qb,0,none⟩),Value.pointer (some ⟨lb,0,none⟩)]).size) undef:Array Value)= #[Value.pointer (some ⟨sb,0,none⟩),Value.pointer (some ⟨ab,0,none⟩),Value.pointer (some ⟨eb,0,none⟩),Value.pointer (some ⟨qb,0,none⟩),Value.pointer (some ⟨lb,0,none⟩),undef,undef,undef,undef,undef,undef,undef,undef,undef,undef,undef,undef,undef,undef,undef,undef,undef,undef,undef,undef,undef,undef,undef,undef,undef,undef,undef,undef,undef]:=by kernel_rfl
 have hrec:recoverD (c₀::cs)=none:=by simp[recoverD,hu]
 refine zd0 (fun a' cs' w'=>a'=⟨#[Value.pointer (some ⟨sb,0,none⟩),Value.pointer (some ⟨ab,0,none⟩),Value.pointer (some ⟨eb,0,none⟩),Value.pointer (some ⟨qb,0,none⟩),Value.pointer (some ⟨lb,0,none⟩),.pointer (some ⟨w.heap.size,0,none⟩),.bool false,.tuple #[.agg #[.int .i64 0],.bool false],.nilIface,.tuple #[.agg #[.int .i64 0],.bool false],.agg #[.int .i64 0],.bool false,undef,undef,undef,undef,undef,undef,undef,undef,undef,undef,undef,undef,undef,undef,undef,undef,undef,undef,undef,undef,undef,undef],[]⟩∧cs'=c₀::cs∧w'=(w.alloc (.cells #[.int .i64 0] 122)).setCell ⟨w.heap.size,0,none⟩ (.int .i64 0)) (fun QQ hQQ=> ?_) ?_;rotate_left
 ·rintro _ _ _ ⟨rfl,rfl,rfl⟩
  have HB:=zaa (((Below.refl w.heap.size w).alloc (Nat.le_refl _) (.cells #[.int .i64 0] 122)));have hc:c₀={c₀ with mode:= .returning}:=by rw[←hu]
  rw[hc];refine zg2 (fun w'=>Below w.heap.size w w') ?_ (zhw ziH (fun w' h=>⟨rfl,rfl,h⟩));go_wp2_with fail;exact⟨rfl,.inl rfl,HB.out⟩
 rw[htm];simp only[List.size_toArray,List.length_cons,List.length_nil,Nat.zero_add,Nat.reduceAdd];rw[show List.range 8=[0,1,2,3,4,5,6,7] from rfl];refine WS.none (o:=⟨some 8,_,_,_,_,_⟩) (w':=w) rfl (by rfl) (by simp[go_sem]) hrec ?_
 (try simp only[pu])
 refine WS.value (o:=⟨some 9,_,_,_,_,_⟩) (v:= .tuple #[.agg #[.int .i64 0],.bool false]) (w':=w) rfl (by rfl) (by simp[go_sem,ta1]) ?_
 (try simp only[pu])
 refine WS.value (o:=⟨some 7,_,_,_,_,_⟩) (v:= .tuple #[.agg #[.int .i64 0],.bool false]) (w':=w) rfl (by rfl) (by simp[go_sem]) ?_
 (try simp only[pu])
 refine WS.value (o:=⟨some 10,_,_,_,_,_⟩) (v:= .agg #[.int .i64 0]) (w':=w) rfl (by rfl) (by simp[go_sem]) ?_
 (try simp only[pu])
 refine WS.value (o:=⟨some 11,_,_,_,_,_⟩) (v:= .bool false) (w':=w) rfl (by rfl) (by simp[go_sem]) ?_
 (try simp only[pu])
 refine WS.value (o:=⟨some 5,_,_,_,_,_⟩) (v:= .pointer (some ⟨w.heap.size,0,none⟩)) (w':=w.alloc (.cells #[.int .i64 0] 122)) rfl (by rfl) (by simp[go_sem]) ?_
 (try simp only[pu])
 refine WS.skip (o:=⟨none,_,_,_,_,_⟩) (w':=(w.alloc (.cells #[.int .i64 0] 122)).setCell ⟨w.heap.size,0,none⟩ (.int .i64 0)) rfl (by kernel_rfl) (by simp[go_sem]) ?_
 (try simp only[Act.put])
 refine WS.value (o:=⟨some 6,_,_,_,_,_⟩) (v:= .bool false) (w':=(w.alloc (.cells #[.int .i64 0] 122)).setCell ⟨w.heap.size,0,none⟩ (.int .i64 0)) rfl (by rfl) (by simp[go_sem]) ?_
 (try simp only[pu])
 exact .done (hQQ _ _ _ ⟨rfl,rfl,rfl⟩)
theorem zgj (sb ab eb qb lb pb j n:Nat) (src:ByteArray) (ts:List Tok) (A:Option Addr) (c:Nat) (va ve:Value) (older:List PanicEntry) (w:World)
 (hs:Hid (w.cell? ⟨sb,0,none⟩=some (.string src))) (hq:Hid (w.cell? ⟨qb,0,none⟩=some (.pointer (some ⟨pb,0,none⟩)))) (hn:Hid (w.cell? ⟨pb,1,none⟩=some (.int .i64 (j:Int)))) (hl:Hid (w.cell? ⟨lb,0,none⟩=some (.slice A ts.length c)))
 (hr:Hid (zey .u8 w A (ts.map Tok.toZ))) (ha:Hid (w.cell? ⟨ab,0,none⟩=some va∧w.frozen? ⟨ab,0,none⟩=false)) (he:Hid (w.cell? ⟨eb,0,none⟩=some ve∧w.frozen? ⟨eb,0,none⟩=false))
 (hd:ab≠eb∧sb≠ab∧sb≠eb∧qb≠ab∧qb≠eb∧lb≠ab∧lb≠eb∧pb≠ab∧pb≠eb) (hA:Hid (∀a,A=some a→a.block≠ab∧a.block≠eb)) (_hts:ts.length≤1000000) (hj:j≤ts.length):
 CallsD prog 55 #[Value.pointer (some ⟨sb,0,none⟩),Value.pointer (some ⟨ab,0,none⟩),Value.pointer (some ⟨eb,0,none⟩),Value.pointer (some ⟨qb,0,none⟩),Value.pointer (some ⟨lb,0,none⟩)] (.panicking ({v:=zdj n,recovered:=false}::older)) w fun e u' w'=>
  e= .returned (.tuple #[])∧u'= .panicking ({v:=zdj n,recovered:=true}::older)∧zam (fun b=>b=ab∨b=eb) w w'∧w'.cell? ⟨ab,0,none⟩=some (.int .i64 (atT (ts.drop j) src.size:Int))∧w'.cell? ⟨eb,0,none⟩=some (.int .i64 (n:Int)):=by
 refine callsD_of_wpS func55 rfl fun c₀ cs hu=> ?_
 have htm:(#[Value.pointer (some ⟨sb,0,none⟩),Value.pointer (some ⟨ab,0,none⟩),Value.pointer (some ⟨eb,0,none⟩),Value.pointer (some ⟨qb,0,none⟩),Value.pointer (some ⟨lb,0,none⟩)]++Array.replicate (Tryz.f55.ntmps-(#[Value.pointer (some ⟨sb,0,none⟩),Value.pointer (some ⟨ab,0,none⟩),Value.pointer (some ⟨eb,0,none⟩),Value.pointer (some ⟨qb,0,none⟩),Value.pointer (some ⟨lb,0,none⟩)]).size) undef:Array Value)= #[Value.pointer (some ⟨sb,0,none⟩),Value.pointer (some ⟨ab,0,none⟩),Value.pointer (some ⟨eb,0,none⟩),Value.pointer (some ⟨qb,0,none⟩),Value.pointer (some ⟨lb,0,none⟩),undef,undef,undef,undef,undef,undef,undef,undef,undef,undef,undef,undef,undef,undef,undef,undef,undef,undef,undef,undef,undef,undef,undef,undef,undef,undef,undef,undef,undef]:=by kernel_rfl
 have hrec:recoverD (c₀::cs)=some (zdj n,{c₀ with mode:= .panicking ({v:=zdj n,recovered:=true}::older)}::cs):=by simp[recoverD,hu]
 refine zd0 (fun a' cs' w'=>a'=⟨#[Value.pointer (some ⟨sb,0,none⟩),Value.pointer (some ⟨ab,0,none⟩),Value.pointer (some ⟨eb,0,none⟩),Value.pointer (some ⟨qb,0,none⟩),Value.pointer (some ⟨lb,0,none⟩),.pointer (some ⟨w.heap.size,0,none⟩),.bool true,.tuple #[.agg #[.int .i64 (n:Int)],.bool true],zdj n,.tuple #[.agg #[.int .i64 (n:Int)],.bool true],.agg #[.int .i64 (n:Int)],.bool true,undef,undef,undef,undef,undef,undef,undef,undef,undef,undef,undef,undef,undef,undef,undef,undef,undef,undef,undef,undef,undef,undef],[]⟩∧cs'={c₀ with mode:= .panicking ({v:=zdj n,recovered:=true}::older)}::cs∧w'=(w.alloc (.cells #[.int .i64 0] 122)).setCell ⟨w.heap.size,0,none⟩ (.int .i64 (n:Int))) (fun QQ hQQ=> ?_) ?_;rotate_left
 ·rintro _ _ _ ⟨rfl,rfl,rfl⟩
  have HB:=zaa (((Below.refl w.heap.size w).alloc (Nat.le_refl _) (.cells #[.int .i64 0] 122)).setCell (p:=⟨w.heap.size,0,none⟩) (Nat.le_refl _) (.int .i64 (n:Int)));have hf:((w.alloc (.cells #[.int .i64 0] 122)).setCell ⟨w.heap.size,0,none⟩ (.int .i64 (n:Int))).cell? ⟨w.heap.size,0,none⟩=some (.int .i64 (n:Int)):=by simp[go_sem]
  refine zg2 (fun w'=>zam (fun b=>b=ab∨b=eb) w w'∧w'.cell? ⟨ab,0,none⟩=some (.int .i64 (atT (ts.drop j) src.size:Int))∧w'.cell? ⟨eb,0,none⟩=some (.int .i64 (n:Int))) ?_ (zhw ziH (fun w' h=>⟨rfl,rfl,h⟩));dsimp only;obtain⟨d1,d2,d3,d4,d5,d6,d7,d8,d9⟩:=hd;have es:=(HB.out.cell (p:=⟨sb,0,none⟩) (zbz hs.out)).trans hs.out;have eq:=(HB.out.cell (p:=⟨qb,0,none⟩) (zbz hq.out)).trans hq.out;have en:=(HB.out.cell (p:=⟨pb,1,none⟩) (zbz hn.out)).trans hn.out;have el:=(HB.out.cell (p:=⟨lb,0,none⟩) (zbz hl.out)).trans hl.out;have ea:=(HB.out.cell (p:=⟨ab,0,none⟩) (zbz ha.out.1)).trans ha.out.1;have ee:=(HB.out.cell (p:=⟨eb,0,none⟩) (zbz he.out.1)).trans he.out.1;have fa:=(HB.out.frozen (p:=⟨ab,0,none⟩) (zbz ha.out.1)).trans ha.out.2;have fe:=(HB.out.frozen (p:=⟨eb,0,none⟩) (zbz he.out.1)).trans he.out.2;have la:=zbz ea;have le:=zbz ee;have HR:=zaa (hr.out.below HB.out);have lw:=HB.out.size;generalize((w.alloc _).setCell ⟨w.heap.size,0,none⟩ (.int .i64 (n:Int)))=V at *;obtain⟨fb,hfb⟩: ∃fb,fb=w.heap.size:=⟨_,rfl⟩;rw[←hfb] at hf ⊢;have lfa:ab<fb:=by rw[hfb];exact zbz ha.out.1
  have lfe:eb<fb:=by rw[hfb];exact zbz he.out.1
  have HFB:=zaa hfb;clear hfb;go_wp2_with fail;have hne:⟨fb,0,none⟩≠(⟨ab,0,none⟩:Addr):=fun e=>by injection e with e _ _;omega
  go_region
  have hk2:zam (fun b=>b=ab∨b=eb) V ((V.setCell ⟨ab,0,none⟩ (.int .i64 (src.size:Int))).setCell ⟨eb,0,none⟩ (.int .i64 (n:Int))).drew:=(((zam.refl _ V).setCell (p:=⟨ab,0,none⟩) (.inl (.inl rfl)) _).setCell (p:=⟨eb,0,none⟩) (.inl (.inr rfl)) _).drew;have HK2:=zaa ((zam.of_below HB.out:zam (fun b=>b=ab∨b=eb) w V).trans hk2);have eq2:=(hk2.cell (p:=⟨qb,0,none⟩) (zbz eq) (by show¬(qb=ab∨qb=eb);omega)).trans eq;have en2:=(hk2.cell (p:=⟨pb,1,none⟩) (zbz en) (by show¬(pb=ab∨pb=eb);omega)).trans en;have el2:=(hk2.cell (p:=⟨lb,0,none⟩) (zbz el) (by show¬(lb=ab∨lb=eb);omega)).trans el;have HR2:=zaa (HR.out.kept hk2 (fun a ha=>by have:=hA.out a ha;show¬(a.block=ab∨a.block=eb);omega));have hne2:(⟨ab,0,none⟩:Addr)≠⟨eb,0,none⟩:=fun e=>by injection e with e _ _;omega
  have ea2:((V.setCell ⟨ab,0,none⟩ (.int .i64 (src.size:Int))).setCell ⟨eb,0,none⟩ (.int .i64 (n:Int))).drew.cell? ⟨ab,0,none⟩=some (.int .i64 (src.size:Int)):=by
   show((V.setCell ⟨ab,0,none⟩ (.int .i64 (src.size:Int))).setCell ⟨eb,0,none⟩ (.int .i64 (n:Int))).cell? ⟨ab,0,none⟩=_
   rw[World.cell?_setCell_other _ _ _ _ (fun e=>hne2 e.symm),World.cell?_setCell_same _ _ _ ea]
  have ee2:((V.setCell ⟨ab,0,none⟩ (.int .i64 (src.size:Int))).setCell ⟨eb,0,none⟩ (.int .i64 (n:Int))).drew.cell? ⟨eb,0,none⟩=some (.int .i64 (n:Int)):=by
   show((V.setCell ⟨ab,0,none⟩ (.int .i64 (src.size:Int))).setCell ⟨eb,0,none⟩ (.int .i64 (n:Int))).cell? ⟨eb,0,none⟩=_
   rw[World.cell?_setCell_same _ _ _ (by rw[World.cell?_setCell_other _ _ _ _ hne2];exact ee)]
  have fa2:((V.setCell ⟨ab,0,none⟩ (.int .i64 (src.size:Int))).setCell ⟨eb,0,none⟩ (.int .i64 (n:Int))).drew.frozen? ⟨ab,0,none⟩=false:=by
   show((V.setCell ⟨ab,0,none⟩ (.int .i64 (src.size:Int))).setCell ⟨eb,0,none⟩ (.int .i64 (n:Int))).frozen? ⟨ab,0,none⟩=_
   rw[World.frozen?_setCell,World.frozen?_setCell];exact fa
  have HE2:=zaa ee2;clear es eq en el ea ee fa fe la le HR hk2 ee2 hne hf;generalize((V.setCell ⟨ab,0,none⟩ (.int .i64 (src.size:Int))).setCell ⟨eb,0,none⟩ (.int .i64 (n:Int))).drew=V2 at *;have la2:=zbz ea2;by_cases hjs:j<ts.length
  ·have hL:=zaa (show(ts.map Tok.toZ).length=ts.length by simp)
   obtain⟨b,off,t,rfl,hlt,ht,d0,d1,d2⟩:=zig (w':=V2) hL HR2 (Below.refl _ _) hjs;have htt:t=(ts[j]).toZ:=by
    have:=ht.out;simp[hjs] at this;exact this.symm
   subst htt;have k1:decide (j<ts.length)=true:=by simp;exact hjs
   have k2:=kbZ j ts.length;have HAT:Hid (atT (ts.drop j) src.size=(ts[j]).at_):=zaa (by unfold atT;rw[List.drop_eq_getElem_cons hjs];rfl);simp only[Tok.toZ] at d0 d1 d2;have hbab:=hA.out _ rfl;go_wp2_with fail;go_quiet (fail);go_wp2_with fail
   go_region
   go_wp2_with fail;have hne3:(⟨ab,0,none⟩:Addr)≠⟨eb,0,none⟩:=hne2;exact⟨rfl,.inl rfl,(HK2.out.drewN _).setCell (p:=⟨ab,0,none⟩) (.inl (.inl rfl)) _,by rw[HAT.out];exact World.cell?_setCell_same (V2.drewN _) _ _ ea2,(World.cell?_setCell_other (V2.drewN _) _ _ _ hne3).trans HE2.out⟩
  ·have k1:decide (j<ts.length)=false:=by simp;omega
   have HAT:Hid (atT (ts.drop j) src.size=src.size):=zaa (by unfold atT;rw[List.drop_eq_nil_of_le (by omega)];rfl);go_wp2_with fail;go_quiet (fail);go_wp2_with fail;exact⟨rfl,.inl rfl,HK2.out.drewN _,by rw[HAT.out];exact ea2,HE2.out⟩
 rw[htm];simp only[List.size_toArray,List.length_cons,List.length_nil,Nat.zero_add,Nat.reduceAdd];rw[show List.range 8=[0,1,2,3,4,5,6,7] from rfl];refine WS.some (o:=⟨some 8,_,_,_,_,_⟩) (w':=w) rfl (by rfl) (by simp[go_sem]) hrec ?_
 (try simp only[pu])
 refine WS.value (o:=⟨some 9,_,_,_,_,_⟩) (v:= .tuple #[.agg #[.int .i64 (n:Int)],.bool true]) (w':=w) rfl (by rfl) (by simp[go_sem,ta2,zdj]) ?_
 (try simp only[pu])
 refine WS.value (o:=⟨some 7,_,_,_,_,_⟩) (v:= .tuple #[.agg #[.int .i64 (n:Int)],.bool true]) (w':=w) rfl (by rfl) (by simp[go_sem,zdj]) ?_
 (try simp only[pu])
 refine WS.value (o:=⟨some 10,_,_,_,_,_⟩) (v:= .agg #[.int .i64 (n:Int)]) (w':=w) rfl (by rfl) (by simp[go_sem,zdj]) ?_
 (try simp only[pu])
 refine WS.value (o:=⟨some 11,_,_,_,_,_⟩) (v:= .bool true) (w':=w) rfl (by rfl) (by simp[go_sem,zdj]) ?_
 (try simp only[pu])
 refine WS.value (o:=⟨some 5,_,_,_,_,_⟩) (v:= .pointer (some ⟨w.heap.size,0,none⟩)) (w':=w.alloc (.cells #[.int .i64 0] 122)) rfl (by rfl) (by simp[go_sem]) ?_
 (try simp only[pu])
 refine WS.skip (o:=⟨none,_,_,_,_,_⟩) (w':=(w.alloc (.cells #[.int .i64 0] 122)).setCell ⟨w.heap.size,0,none⟩ (.int .i64 (n:Int))) rfl (by rfl) (by simp[go_sem]) ?_
 (try simp only[Act.put])
 refine WS.value (o:=⟨some 6,_,_,_,_,_⟩) (v:= .bool true) (w':=(w.alloc (.cells #[.int .i64 0] 122)).setCell ⟨w.heap.size,0,none⟩ (.int .i64 (n:Int))) rfl (by rfl) (by simp[go_sem]) ?_
 (try simp only[pu])
 exact .done (hQQ _ _ _ ⟨rfl,rfl,rfl⟩)
theorem zo5 (ws:List (List UInt8)) (n:Nat) (h0:n≠0) (hn:n≤ws.length):ws[n-1]? =some (zaB ws n):=by
 unfold zaB;rw[if_neg h0,List.getD_eq_getElem?_getD,List.getElem?_eq_getElem (by omega)]
 rfl
theorem zcM (ws:List (List UInt8)) (n:Nat) (h:n=0∨ws.length<n):zaB ws n=[]:=by
 unfold zaB;rcases h with h|h
 ·rw[if_pos h]
 ·rw[if_neg (by omega),List.getD_eq_getElem?_getD,List.getElem?_eq_none (by omega)]
  rfl
theorem zfm (v:ByteArray) (n:Nat) (ws:List (List UInt8)) (hv:Voc v ws) (W:World) (hE:zci W) (hn:n≤255):
 Calls prog 47 #[.string v,.int .u8 (n:Int)] W fun e W'=>e= .returned (.string ⟨(zaB ws n).toArray⟩)∧Below W.heap.size W W':=by
 have ha': ∀(j:Nat) b,v.data.toList[j]? =some b→b.toNat<128:=fun j b hb=>by
  have:=List.all_eq_true.1 hv.ascii b (List.mem_of_getElem? hb)
  simpa using this
 have HF:=zaa (Tryz.strings_Fields v W hv.small ha' hE.sp);rw[hv.words] at HF;have hfew:=hv.few;have hcell: ∀i,i<ws.length→(W.alloc (Obj.cells (ws.map fun l=>Value.string ⟨l.toArray⟩).toArray 9)).cell? ⟨W.heap.size,i,none⟩=some (.string ⟨(ws.getD i []).toArray⟩):=fun i hi=>by
  rw[cell_of_row _ _ i _ _ _ (heap_alloc_new W _)];simp[hi]
 have HCl:=zaa hcell;clear hcell;generalize Obj.cells (ws.map fun l=>Value.string ⟨l.toArray⟩).toArray 9=o at *;have HB:=zaa ((Below.refl W.heap.size W).alloc (Nat.le_refl _) o);by_cases h0:n=0
 ·rw[zcM ws n (.inl h0)]
  have k0:(n:Int)<1:=by omega
  generalize(n:Int)=z at *
  go_enter func47,ntmps47
  go_wp2_with fail;refine(HF.out).mono ?_;rintro e w1 ⟨rfl,rfl⟩;go_wp2_with fail;go_ret;exact⟨rfl,HB.out⟩
 ·have k0: ¬(n:Int)<1:=by omega
  by_cases h1:ws.length<n
  ·rw[zcM ws n (.inr h1)]
   have k2:((ws.length:Int)<(n:Int)):=by omega
   have kw:wrap64 (n:Int)=(n:Int):=by unfold wrap64;omega
   have kc: ¬(1≤(n:Int)∧(n:Int)≤(ws.length:Int)):=by omega
   generalize(n:Int)=z at *
   go_enter func47,ntmps47
   go_wp2_with fail;refine(HF.out).mono ?_;rintro e w1 ⟨rfl,rfl⟩;go_wp2_with fail;go_ret;exact⟨rfl,HB.out⟩
  ·have k1: ¬((ws.length:Int)<(n:Int)):=by omega
   have hc:=HCl.out (n-1) (by omega);rw[show(ws.getD (n-1) [])=zaB ws n from by unfold zaB;rw[if_neg h0]] at hc;have kw:wrap64 (n:Int)=(n:Int):=by unfold wrap64;omega
   have km:((n:Int)-1) % 256=((n-1:Nat):Int):=by omega
   have k3:(0:Int)≤((n-1:Nat):Int)∧((n-1:Nat):Int)<(ws.length:Int):=by omega
   have kc:1≤(n:Int)∧(n:Int)≤(ws.length:Int):=by omega
   have hz:(n:Int).toNat-1=n-1:=by omega
   generalize(n:Int)=z at *
   go_enter func47,ntmps47
   go_wp2_with fail;refine(HF.out).mono ?_;rintro e w1 ⟨rfl,rfl⟩;go_wp2_with fail;go_ret;exact⟨rfl,HB.out⟩
theorem zi2:Voc ⟨#[100,101,97,100,108,105,110,101,32,109,101,109,111,114,121,32,114,97,105,115,101,100,32,110,117,109,101,114,105,99,32,115,116,97,99,107,32,112,111,119,101,114,32,119,105,110,100,111,119]⟩ zbG:=⟨by decide,by decide,by decide,by decide⟩
theorem zel:Voc ⟨#[112,114,111,99,101,115,115,32,112,97,114,116,32,109,111,100,117,108,101]⟩ zbH:=⟨by decide,by decide,by decide,by decide⟩
theorem zdE:Voc ⟨#[105,103,110,111,114,101,32,115,116,111,112,32,114,101,115,116,97,114,116,32,119,97,114,109,32,99,111,108,100,32,105,100,108,101,32,114,101,115,101,116,32,104,97,108,116]⟩ zbu:=⟨by decide,by decide,by decide,by decide⟩
theorem zor:Voc ⟨#[97,32,98]⟩ zcG:=⟨by decide,by decide,by decide,by decide⟩
theorem zkV:Voc ⟨#[115,97,109,112,108,105,110,103,32,113,117,101,117,105,110,103]⟩ zbO:=⟨by decide,by decide,by decide,by decide⟩
def zbx:List (List UInt8):=(zaE.zip zaN).map fun p=>p.1++[58]++p.2
theorem zi8:Voc ⟨#[119,111,114,107,58,119,32,115,101,116,58,114,118,32,97,100,100,58,114,114,32,115,117,98,58,114,114,32,108,111,97,100,58,114,97,114,32,115,116,111,114,101,58,114,97,114,32,115,101,110,100,58,111,114,108,32,114,101,99,118,58,105,114,114,32,119,97,105,116,58,115,32,115,105,103,110,97,108,58,115,32,114,97,105,115,101,58,101,32,108,111,119,101,114,58,101,32,117,110,116,105,108,58,101,32,112,117,116,58,98,114,32,103,101,116,58,98,114,32,115,104,111,119,58,100,114,32,108,111,111,107,58,100,114,32,99,108,101,97,114,58,100,32,110,101,120,116,58,32,106,117,109,112,58,106,32,122,101,114,111,58,114,106,32,108,101,115,115,58,114,114,106,32,100,105,118,58,114,114,32,102,97,117,108,116,58,99,32,115,116,111,112,58]⟩ zbx:=⟨by decide +kernel,by decide +kernel,by decide +kernel,by decide +kernel⟩
theorem zlx (n:Nat) (W:World) (hE:zci W) (hn:n≤255):Calls prog 14 #[.int .u8 (n:Int)] W fun e W'=>e= .returned (.string ⟨(zaB zbG n).toArray⟩)∧Below W.heap.size W W':=by
 have HW:=zaa (zfm _ n _ zi2 W hE hn)
 go_enter func14,ntmps14
 go_wp2_with fail;refine(HW.out).mono ?_;rintro e w1 ⟨rfl,hb⟩;go_wp2_with fail;go_ret;exact⟨rfl,hb⟩
theorem zlI (n:Nat) (W:World) (hE:zci W) (hn:n≤255):Calls prog 15 #[.int .u8 (n:Int)] W fun e W'=>e= .returned (.string ⟨(zaB zbH n).toArray⟩)∧Below W.heap.size W W':=by
 have HW:=zaa (zfm _ n _ zel W hE hn)
 go_enter func15,ntmps15
 go_wp2_with fail;refine(HW.out).mono ?_;rintro e w1 ⟨rfl,hb⟩;go_wp2_with fail;go_ret;exact⟨rfl,hb⟩
theorem zjR (n:Nat) (W:World) (hE:zci W) (hn:n≤255):Calls prog 16 #[.int .u8 (n:Int)] W fun e W'=>e= .returned (.string ⟨(zaB zbu n).toArray⟩)∧Below W.heap.size W W':=by
 have HW:=zaa (zfm _ n _ zdE W hE hn)
 go_enter func16,ntmps16
 go_wp2_with fail;refine(HW.out).mono ?_;rintro e w1 ⟨rfl,hb⟩;go_wp2_with fail;go_ret;exact⟨rfl,hb⟩
theorem znK: ∀n,n≤255→(Lib.cut (zaB zbx n) [58]).1=zaB zaE n∧(Lib.cut (zaB zbx n) [58]).2.1=zaB zaN n:=by
 have h: ∀n:Fin 27,(Lib.cut (zaB zbx n.val) [58]).1=zaB zaE n.val∧(Lib.cut (zaB zbx n.val) [58]).2.1=zaB zaN n.val:=by decide +kernel
 intro n hn;by_cases h1:n<27
 ·exact h ⟨n,h1⟩
 ·rw[zcM zbx n (.inr (by show 25<n;omega)),zcM zaE n (.inr (by show 25<n;omega)),zcM zaN n (.inr (by show 25<n;omega))]
  decide +kernel
theorem zjS (n:Nat):(zaB zbx n).length≤20:=by
 by_cases h1:n<27
 ·have h: ∀n:Fin 27,(zaB zbx n.val).length≤20:=by decide +kernel
  exact h ⟨n,h1⟩
 ·rw[zcM zbx n (.inr (by show 25<n;omega))]
  exact Nat.zero_le _
theorem zdB (n:Nat) (W:World) (hE:Hid (zci W)) (hn:n≤255):
 Calls prog 48 #[.int .u8 (n:Int)] W fun e W'=>e= .returned (.tuple #[.string ⟨(zaB zaE n).toArray⟩,.string ⟨(zaB zaN n).toArray⟩])∧Below W.heap.size W W':=by
 have HW:=zaa (zfm _ n _ zi8 W hE.out hn);obtain⟨c1,c2⟩:=znK n hn;have hz:=zjS n;have HC:=zaa (fun(w:World) m (hm:w.cell? ⟨2,0,none⟩=some (.int .i64 m))=>Tryz.strings_Cut ⟨(zaB zbx n).toArray⟩ ⟨#[58]⟩ m w (by show(zaB zbx n).toArray.size<_;simp;omega) hm);simp only[c1,c2] at HC;clear c1 c2 hz
 go_enter func48,ntmps48
 go_wp2_with fail;refine(HW.out).mono ?_;rintro e w1 ⟨rfl,hb⟩;obtain⟨m,hm⟩:=(hE.out.below hb).mx;have HB:=zaa hb;clear hb;go_wp2_with fail;refine(HC.out w1 m hm).mono ?_;rintro e w2 ⟨rfl,q,rfl⟩;go_wp2_with fail;refine bodyPost_ret (v:= .tuple #[.string ⟨(zaB zaE n).toArray⟩,.string ⟨(zaB zaN n).toArray⟩]) (by simp[results,Tryz.results48,go_sem]) rfl ?_;exact⟨rfl,_root_.Go.below_drewN HB.out _⟩
theorem zlv (n:Nat) (W:World) (hE:Hid (zci W)) (hn:n≤255):Calls prog 17 #[.int .u8 (n:Int)] W fun e W'=>e= .returned (.string ⟨(zaB zaE n).toArray⟩)∧Below W.heap.size W W':=by
 have HW:=zaa (zdB n W hE hn)
 go_enter func17,ntmps17
 go_wp2_with fail;refine(HW.out).mono ?_;rintro e w1 ⟨rfl,hb⟩;go_wp2_with fail;go_ret;exact⟨rfl,hb⟩
theorem ze1 (n:Nat) (W:World) (hE:Hid (zci W)) (hn:n≤255):Calls prog 18 #[.int .u8 (n:Int)] W fun e W'=>e= .returned (.string ⟨(zaB zaN n).toArray⟩)∧Below W.heap.size W W':=by
 have HW:=zaa (zdB n W hE hn)
 go_enter func18,ntmps18
 go_wp2_with fail;refine(HW.out).mono ?_;rintro e w1 ⟨rfl,hb⟩;go_wp2_with fail;go_ret;exact⟨rfl,hb⟩
theorem zd8 (pb j:Nat) (ts:List Tok) (W:World) (H:Hid (Cur pb ts j W)) (hts:ts.length≤1099511627776) (hj:j≤ts.length) (hE:Hid (zci W)) (hpE:3≤pb):
 Calls prog 97 #[.pointer (some ⟨pb,0,none⟩)] W fun e W'=>zcd pb ts W (fun n:Int=> .int .i64 n) (zki (ts.drop j)) e W':=by
 have hpb:=H.out.lt;have HA0:=zaa (AtJ.start H.out.now H.out.free);have HM:=zat pb j W.heap.size ts ⟨#[110,101,116]⟩ W H hts hj (by decide) rfl
 go_enter func97,ntmps97
 go_wp2_with fail;refine HM.mono ?_;rintro e w1 hE1;rcases hE1.split with⟨a1,j1,hr,hj1,hA,rfl⟩|⟨n,j1,hr,hj1,hA,rfl⟩
 rotate_left
 ·have HX:=zaa (zcd.mk_bad (conv:=fun n:Int=> .int .i64 n) ((rfl:zki (ts.drop j)=zki (ts.drop j)).trans (zab hr)) hj1 hA)
  clear hA hr hE1;go_wp2_with fail;exact⟨rfl,HX.out⟩
 have HA1:=zaa hA;have HR1:=zaa ((rfl:zki (ts.drop j)=zki (ts.drop j)).trans (zac hr));clear hA hr hE1;have HC:=zdt pb j1 ts _ _ zor w1 (zaa (H.out.to HA1.out)) (zaa (hE.out.to hpE HA1.out)) hts hj1;go_wp2_with fail;refine HC.mono ?_;rintro e w2 hE2;rcases hE2.split with⟨a2,j2,hr,hj2,hA,rfl⟩|⟨n,j2,hr,hj2,hA,rfl⟩
 rotate_left
 ·have HX:=zaa (zcd.mk_bad (conv:=fun n:Int=> .int .i64 n) (HR1.out.trans (zab hr)) hj2 (HA1.out.trans hA))
  clear hA hr hE2;go_wp2_with fail;exact⟨rfl,HX.out⟩
 have hn2:a2≤2:=by
  unfold ofP at hr
  split at hr
  ·injection hr with h _
   rw[←h];exact zdT zcG _
  ·cases hr
 have HX:=zaa (zcd.mk_ok (conv:=fun n:Int=> .int .i64 n) ((HR1.out.trans (zac hr)).trans rfl) hj2 (HA1.out.trans hA) rfl);have kw:wrap64 (a2:Int)=(a2:Int):=by unfold wrap64;omega
 have k1:(a2:Int)≤2:=by omega
 have k0:(0:Int)≤(a2:Int):=by omega
 have kw2:wrap64 ((a2:Int)-1)=(a2:Int)-1:=by unfold wrap64;omega
 clear hA hr hE2 hn2;generalize(a2:Int)=z at *;go_wp2_with fail;go_ret;exact HX.out
theorem zlM (wb:Nat) (s x:ByteArray) (W:World) (hc:W.cell? ⟨wb,0,none⟩=some (.string x)) (hx:x.size≤1099511627776):
 Calls prog 79 #[.string s,.pointer (some ⟨wb,0,none⟩)] W fun e W'=>e= .returned (.bool (Lib.hasPrefix s.data.toList (x.data.toList++[58])))∧W'=W:=by
 have HP:=zaa (Tryz.strings_HasPrefix s (x++⟨#[58]⟩) W);rw[show(x++⟨#[58]⟩:ByteArray).data.toList=x.data.toList++[58] from by simp] at HP;have k1:x.size+1≤9223372036854775807:=by omega
 go_enter func79,ntmps79
 go_wp2_with fail;refine(HP.out).mono ?_;rintro e w1 ⟨rfl,rfl⟩;go_wp2_with fail;go_ret;exact⟨rfl,rfl⟩
theorem znm: ∀(w o x:List UInt8),(58:UInt8)∉w→(58:UInt8)∉o→(x++[58]).isPrefixOf (w++[58]++o)=(w==x)
 |[],o,[],_,_=>by simp
 |[],o,c::x,_,ho=>by
  have:((c::x)++[58]).isPrefixOf (([]:List UInt8)++[58]++o)=false:=by
   rw[Bool.eq_false_iff];intro h;have h:=List.isPrefixOf_iff_prefix.1 h;obtain⟨t,ht⟩:=h;simp only[List.cons_append,List.nil_append,List.cons.injEq] at ht;apply ho;rw[←ht.2];simp
  rw[this]
  rfl
 |b::w,o,[],hw,_=>by
  have hb:(58:UInt8)≠b:=fun e=>hw (by simp[e])
  have hb':((58:UInt8)==b)=false:=by simpa using hb
  simp only[List.nil_append,List.cons_append,List.isPrefixOf_cons_cons,hb',Bool.false_and]
  rfl
 |b::w,o,c::x,hw,ho=>by
  have ih:=znm w o x (fun h=>hw (by simp[h])) ho;simp only[List.cons_append,List.isPrefixOf_cons_cons] at ih ⊢;rw[ih];by_cases h:b=c
  ·subst h;simp
  ·have h1:(c==b)=false:=by simpa using fun e=>h e.symm
   rw[h1]
   symm
   simp[h]
def zn2 (l:List (List UInt8)) (x:List UInt8):Int:=match l.findIdx? (fun s=>Lib.hasPrefix s (x++[58])) with
 |some k=>(k:Int)
 |none=> -1
theorem zlf (x:List UInt8): ∀(l:List (List UInt8×List UInt8)),(∀p∈l,(58:UInt8)∉p.1∧(58:UInt8)∉p.2)→
 (l.map fun p=>p.1++[58]++p.2).findIdx? (fun s=>Lib.hasPrefix s (x++[58]))=(l.map (·.1)).findIdx? (· ==x)
 |[],_=>rfl
 |p::l,h=>by
  have ih:=zlf x l (fun q hq=>h q (by simp[hq]));have hp:=h p (by simp);simp only[List.map_cons,List.findIdx?_cons];rw[ih,show Lib.hasPrefix (p.1++[58]++p.2) (x++[58])=(p.1==x) from znm p.1 p.2 x hp.1 hp.2]
theorem znP (x:List UInt8):zn2 zbx x=(zbN zaE x:Int)-1:=by
 have h1:(zaE.zip zaN).map (·.1)=zaE:=by decide
 have h2: ∀p∈zaE.zip zaN,(58:UInt8)∉p.1∧(58:UInt8)∉p.2:=by decide
 unfold zn2 zbx zbN;rw[zlf x _ h2,h1]
 cases zaE.findIdx? (· ==x) with
 |none=>rfl
 |some k=>
  show(k:Int)=((k+1:Nat):Int)-1
  omega
theorem zf5 {l:List (List UInt8)} {p:List UInt8→Bool} {k:Nat} {s:List UInt8} (h:(l.take k).findIdx? p=none) (hs:l[k]? =some s) (hp:p s=false):(l.take (k+1)).findIdx? p=none:=by
 obtain⟨hk,rfl⟩:=List.getElem?_eq_some_iff.1 hs;rw[List.take_succ_eq_append_getElem hk,List.findIdx?_append,h];simp[hp]
theorem zf6 {l:List (List UInt8)} {p:List UInt8→Bool} {k:Nat} {s:List UInt8} (h:(l.take k).findIdx? p=none) (hs:l[k]? =some s) (hp:p s=true):l.findIdx? p=some k:=by
 obtain⟨hk,rfl⟩:=List.getElem?_eq_some_iff.1 hs;rw[List.findIdx?_eq_some_iff_getElem];refine⟨hk,hp,fun j hj=> ?_⟩;have:=List.findIdx?_eq_none_iff.1 h l[j] (by
  rw[List.mem_take_iff_getElem];exact⟨j,by omega,rfl⟩)
 simpa using this
theorem zgE (fb wb n c:Nat) (l:List (List UInt8)) (x:ByteArray) (W:World) (hn:Hid (l.length=n)) (hl:n≤200) (hc:W.cell? ⟨wb,0,none⟩=some (.string x)) (hx:x.size≤1099511627776)
 (hf:Hid (∀i s,l[i]? =some s→W.cell? ⟨fb,i,none⟩=some (.string ⟨s.toArray⟩))):
 Calls prog 78 #[.slice (some ⟨fb,0,none⟩) n c,.func (.func 79) #[] #[.pointer (some ⟨wb,0,none⟩)]] W fun e W'=>e= .returned (.int .i64 (zn2 l x.data.toList))∧W'=W:=by
 have HCL:=zaa (fun s=>zlM wb s x W hc hx)
 go_enter func78,ntmps78
 go_wp2_with fail
 go_loopw [8] (fun v8 wr=> ∃k:Nat,k≤n∧v8= .int .i64 k∧(l.take k).findIdx? (fun s=>Lib.hasPrefix s (x.data.toList++[58]))=none∧wr=W) (fun v8 _=>n-(intOf v8).toNat)
 case atStart=>exact⟨0,by omega,rfl,rfl,rfl⟩
 case round=>
  obtain⟨k,hk,rfl,hnone,rfl⟩:=hrel;have HK:=zaa hnone;clear hnone;by_cases hlt:k<n
  ·have hkl:k<l.length:=by rw[hn.out];exact hlt
   have hs:l[k]? =some l[k]:=List.getElem?_eq_getElem hkl;have hcell:=hf.out k _ hs;have k0:(0:Int)≤(k:Int)∧(k:Int)<(n:Int):=by omega
   have HC:=zaa (HCL.out ⟨l[k].toArray⟩);rw[show(⟨l[k].toArray⟩:ByteArray).data.toList=l[k] from by simp] at HC
   cases hp:Lib.hasPrefix l[k] (x.data.toList++[58]) with
   |true=>
    rw[hp] at HC;have HX:=zaa (zf6 (p:=fun s=>Lib.hasPrefix s (x.data.toList++[58])) HK.out hs hp);clear hp hs;go_wp2_with fail;refine(HC.out).mono ?_;rintro e w1 ⟨rfl,rfl⟩;go_wp2_with fail;go_ret;exact⟨by unfold zn2;rw[HX.out];rfl,rfl⟩
   |false=>
    rw[hp] at HC;have HX:=zaa (zf5 (p:=fun s=>Lib.hasPrefix s (x.data.toList++[58])) HK.out hs hp);clear hp hs;go_wp2_with fail;refine(HC.out).mono ?_;rintro e w1 ⟨rfl,rfl⟩;go_wp2_with fail;go_roundw
    case rel=>exact⟨k+1,by omega,by go_num,HX.out,trivial⟩
    case measure=>simp[intOf];omega
  ·have HX:=zaa (show zn2 l x.data.toList= -1 by
    have:=HK.out;rw[List.take_of_length_le (by rw[hn.out];omega)] at this;unfold zn2;rw[this])
   go_wp2_with fail;go_ret;exact⟨by rw[HX.out];rfl,rfl⟩
end Go.Proofs.YtlngbjphagnloaaGreatDoor
