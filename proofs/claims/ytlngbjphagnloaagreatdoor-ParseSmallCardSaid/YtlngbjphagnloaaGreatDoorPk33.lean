/- Merged texts of the walks and of the plain laws on which the statement leans.-/
import Derived.Test.YtlngbjphagnloaaGreatDoorPk1
import Derived.Test.YtlngbjphagnloaaGreatDoorPk11
import Derived.Test.YtlngbjphagnloaaGreatDoorPk9
import Derived.Test.YtlngbjphagnloaaGreatDoorPk32
namespace Go.Proofs.YtlngbjphagnloaaGreatDoor
open Go.Proofs.Tryz
def zeb (l:List (List UInt8)):List UInt8:=l.flatMap fun w=>32::w
theorem zhB: ∀(w:List UInt8) (st:List (List UInt8)×List UInt8),32∉w→w.foldl zeN st=(st.1,st.2++w)
 |[],st,_=>by simp
 |b::w,st,h=>by
  rw[List.foldl_cons,zhB w _ (fun e=>h (by simp[e]))];have hb:b≠32:=fun e=>h (by simp[e])
  simp[zeN,hb]
theorem zfN: ∀(l:List (List UInt8)) (st:List (List UInt8)×List UInt8),(∀w∈l,32∉w)→((zeb l).foldl zeN st).1++[((zeb l).foldl zeN st).2]=st.1++[st.2]++l
 |[],st,_=>by simp[zeb]
 |w::l,st,h=>by
  have e:zeb (w::l)=32::(w++zeb l):=by simp[zeb]
  rw[e,List.foldl_cons,List.foldl_append,zhB w _ (h w (by simp)),zfN l _ (fun x hx=>h x (by simp[hx]))];simp[zeN]
theorem zob (l:List (List UInt8)) (h: ∀w∈l,32∉w):zbZ (zeb l)=[]::l:=by
 have:=zfN l ([],[]) h
 simpa [zbZ] using this
theorem zo4 {l:List (List UInt8)} {w:List UInt8}:zbN l w=0↔l.contains w=false:=by
 unfold zbN
 split
 ·rename_i i hi
  obtain⟨h1,h2,_⟩:=List.findIdx?_eq_some_iff_getElem.1 hi;have:l.contains w=true:=by
   rw[List.contains_iff_mem];have h3:l[i]=w:=by simpa using h2
   rw[←h3];exact List.getElem_mem h1
  exact⟨fun h=>absurd h (Nat.succ_ne_zero _),fun h=>by rw[this] at h;cases h⟩
 ·rename_i hi
  have h2:=List.findIdx?_eq_none_iff.1 hi;have:l.contains w=false:=by
   cases hc:l.contains w with
   |false=>rfl
   |true=>
    rw[List.contains_iff_mem] at hc;have:=h2 w hc;simp at this
  exact⟨fun _=>this,fun _=>rfl⟩
def znX (w:List UInt8) (b:zag) (s:InS):List (List UInt8)×InS:=(b.what++[w],if b.what.contains w then(zb9 81 s).2 else s)
def znS (b:zag) (s:InS):List (List UInt8)×InS:=
 if s.sees [115,101,109,97,115] then znX [115,101,109,97,115] b s else if s.sees [98,117,102,115] then znX [98,117,102,115] b s else if s.sees [101,118,101,110,116,115] then znX [101,118,101,110,116,115] b s else if s.sees [98,111,97,114,100,115] then znX [98,111,97,114,100,115] b s else(b.what,s)
def zmo (what:List (List UInt8)) (x:Rf zas):Rf zag:=do
 let p←x
 zaR [59]
 pure (zag.mk p what)
def zdn (p:zas) (what:List (List UInt8)):Rf zag:=fun s=>
 if s.sees [115,101,109,97,115] then zmo what (zlO p) s.step
 else if s.sees [98,117,102,115] then zmo what (zn0 p) s.step
 else if s.sees [101,118,101,110,116,115] then zmo what (zik p) s.step
 else if s.sees [98,111,97,114,100,115] then zmo what (ziu p) s.step
 else if s.sees [112,114,111,99] then(do
  let x←zhW
  pure (zag.mk {p with procs:=p.procs++[x]} what):Rf zag) s.step
 else zc4 p what s
theorem zjV {p:zas} {what:List (List UInt8)} {s:InS} (h:s.err≠0):zdn p what s=zc4 p what s:=by
 unfold zdn;simp only[InS.sees_no h,Bool.false_eq_true,if_false]
theorem zl6 (e:Nat) (he:e≠0) (s:InS):(zb9 e s).2.err≠0:=by
 unfold zb9;dsimp only
 split
 ·exact he
 ·assumption
theorem zdU (w:List UInt8) (b:zag) (x:Rf zas) (s:InS) (h:zdn b.p (b.what++[w]) s=znz w b x s.step):zhE w b x s=zdn b.p (znX w b s).1 (znX w b s).2:=by
 unfold zhE znX;by_cases hc:b.what.contains w=true
 ·rw[if_pos hc]
  dsimp only;rw[if_pos hc,zjV (zl6 81 (by decide) s)]
 ·rw[if_neg hc]
  dsimp only;rw[if_neg hc,h]
theorem znb (b:zag) (s:InS):ze7 b s=zdn b.p (znS b s).1 (znS b s).2:=by
 unfold ze7 znS;by_cases h1:s.sees [115,101,109,97,115]=true
 ·rw[if_pos h1,if_pos h1]
  exact zdU _ b _ s (if_pos h1)
 rw[if_neg h1,if_neg h1];by_cases h2:s.sees [98,117,102,115]=true
 ·rw[if_pos h2,if_pos h2]
  exact zdU _ b _ s (by unfold zdn;rw[if_neg h1,if_pos h2];rfl)
 rw[if_neg h2,if_neg h2];by_cases h3:s.sees [101,118,101,110,116,115]=true
 ·rw[if_pos h3,if_pos h3]
  exact zdU _ b _ s (by unfold zdn;rw[if_neg h1,if_neg h2,if_pos h3];rfl)
 rw[if_neg h3,if_neg h3];by_cases h4:s.sees [98,111,97,114,100,115]=true
 ·rw[if_pos h4,if_pos h4]
  exact zdU _ b _ s (by unfold zdn;rw[if_neg h1,if_neg h2,if_neg h3,if_pos h4];rfl)
 rw[if_neg h4,if_neg h4];dsimp only;unfold zdn;rw[if_neg h1,if_neg h2,if_neg h3,if_neg h4]
theorem zoD {f:Nat} {b b':zag} {s s':InS} (he:s.err=0) (h:s.sees [125]=false) (ht:ze7 b s=(b',s')):zbv (f+1) b s=zbv f b' s':=by
 show(if s.err==0&& !s.sees [125] then(ze7 b >>= fun b'=>zbv f b') s else _)=_
 rw[he,h];exact zcv ht
theorem zoe {f:Nat} {b:zag} {s:InS} (h:s.err≠0∨s.sees [125]=true∧0<f):zbv f b s=(b,(zaR [125] s).2):=by
 cases f with
 |zero=>
  rcases h with h|⟨_,h⟩
  ·have:=(zar [125]).stay s h
   show(b,s)=_
   rw[this]
  ·omega
 |succ f=>
  show(if s.err==0&& !s.sees [125] then _ else(zaR [125] >>= fun _=>pure b:Rf zag) s)=_
  have:(s.err==0&& !s.sees [125])=false:=by
   rcases h with h|⟨h,_⟩
   ·simp[h]
   ·simp[h]
  rw[this]
  rfl
def zpn (l:List (List UInt8)):Nat:=(if l.contains [115,101,109,97,115] then 1 else 0)+(if l.contains [98,117,102,115] then 1 else 0)+(if l.contains [101,118,101,110,116,115] then 1 else 0)+(if l.contains [98,111,97,114,100,115] then 1 else 0)
def ze5 (l:List (List UInt8)):Prop:=l.length=zpn l∧ ∀w∈l,w∈[[115,101,109,97,115],[98,117,102,115],[101,118,101,110,116,115],[98,111,97,114,100,115]]
theorem ze5.few {l:List (List UInt8)} (h:ze5 l):l.length≤4:=by
 rw[h.1];unfold zpn
 split<;>split<;>split<;>split<;>omega
theorem ze5.add {l:List (List UInt8)} (h:ze5 l) {w:List UInt8} (hw:w∈[[115,101,109,97,115],[98,117,102,115],[101,118,101,110,116,115],[98,111,97,114,100,115]]) (hn:l.contains w=false):ze5 (l++[w]):=by
 obtain⟨h1,h2⟩:=h;refine⟨?_,fun x hx=> ?_⟩
 ·rw[List.length_append,h1]
  simp only[List.mem_cons,List.not_mem_nil,or_false] at hw;unfold zpn;rcases hw with rfl|rfl|rfl|rfl
  all_goals
   simp only[List.contains_append,hn];simp<;>omega
 ·rcases List.mem_append.1 hx with hx|hx
  ·exact h2 x hx
  ·rw[List.mem_singleton.1 hx];exact hw
theorem ze5.none:ze5 []:=⟨rfl,fun w h=>by cases h⟩
theorem ze5.clean {l:List (List UInt8)} (h: ∀w∈l,w∈[[115,101,109,97,115],[98,117,102,115],[101,118,101,110,116,115],[98,111,97,114,100,115]]): ∀w∈l,32∉w:=fun w hw=>by
 have:=h w hw;simp only[List.mem_cons,List.not_mem_nil,or_false] at this;rcases this with rfl|rfl|rfl|rfl<;>decide
theorem zn9 (l:List (List UInt8)) (w:List UInt8):zeb (l++[w])=zeb l++32::w:=by simp[zeb]
theorem zlw: ∀(l:List (List UInt8)),(∀w∈l,w∈[[115,101,109,97,115],[98,117,102,115],[101,118,101,110,116,115],[98,111,97,114,100,115]])→(zeb l).length≤7*l.length
 |[],_=>by simp[zeb]
 |w::l,h=>by
  have h1:=zlw l (fun x hx=>h x (by simp[hx]));have h2:=h w (by simp);simp only[List.mem_cons,List.not_mem_nil,or_false] at h2;have e:(zeb (w::l)).length=1+w.length+(zeb l).length:=by simp[zeb];omega
  have:w.length≤6:=by rcases h2 with rfl|rfl|rfl|rfl<;>decide
  rw[e,List.length_cons]
  omega
end Go.Proofs.YtlngbjphagnloaaGreatDoor
