/- Merged texts of the walks and of the plain laws on which the statement leans.-/
import Derived.Test.YtlngbjphagnloaaGreatDoorPk1
import Derived.Test.YtlngbjphagnloaaGreatDoorPk10
import Derived.Test.YtlngbjphagnloaaGreatDoorPk4
namespace Go.Proofs.YtlngbjphagnloaaGreatDoor
open Tryz
def zlO (p:zas):Rf zas:=do
 let l←zeM zcW
 pure {p with semas:=l}
def zn0 (p:zas):Rf zas:=do
 let l←zeM zcW
 pure {p with bufs:=l}
def zik (p:zas):Rf zas:=do
 let n←zcW
 pure {p with events:=n}
def ziu (p:zas):Rf zas:=do
 let n←zcW
 pure {p with boards:=n}
theorem zim (p:zas):zaY (zdw p) (zlO p):=(zcK zbD).bind fun _=> .ret _
theorem zkf (p:zas):zaY (zfb p) (zn0 p):=(zcK zbD).bind fun _=> .ret _
theorem zha (p:zas):zaY (zcw p) (zik p):=zbD.bind fun _=> .ret _
theorem zhj (p:zas):zaY (zcA p) (ziu p):=zbD.bind fun _=> .ret _
def zc4 (p:zas) (what:List (List UInt8)):Rf zag:=do
 let x←zf1
 pure (zag.mk {p with ports:=p.ports++[x]} what)
def znz (w:List UInt8) (b:zag) (x:Rf zas):Rf zag:=do
 let p←x
 zaR [59]
 pure (zag.mk p (b.what++[w]))
def zhE (w:List UInt8) (b:zag) (x:Rf zas):Rf zag:=fun s=>
 if b.what.contains w then zc4 b.p (b.what++[w]) (zb9 81 s).2 else znz w b x s.step
theorem zdq (p:zas) (what:List (List UInt8)):zaY (do let x←zei;pure (zag.mk {p with ports:=p.ports++[x]} what)) (zc4 p what):=zjF.bind fun _=> .ret _
theorem zeg (w:List UInt8) (b:zag) {x:Ps zas} {y:Rf zas} (h:zaY x y) (s:InS) (hs:s.err=0):zoW (zcE w b x s.r) (zhE w b y s) s:=by
 unfold zcE zhE;by_cases hc:b.what.contains w=true
 ·rw[if_pos hc,if_pos hc]
  have hf:=zda hs 81 (by decide);have he:(zb9 81 s).2.err≠0:=by rw[hf.2.1];decide
  have:=(zdq b.p (b.what++[w])).stay _ he
  show(81:Nat)≠0∧(zc4 b.p (b.what++[w]) (zb9 81 s).2).2.err=81∧(zc4 b.p (b.what++[w]) (zb9 81 s).2).2.at_=(s.r.headD ⟨0,[],s.size⟩).at_∧(zc4 b.p (b.what++[w]) (zb9 81 s).2).2.size=s.size
  rw[this];exact hf
 ·rw[if_neg hc,if_neg hc]
  have hr:zaY (do let p←x;let _←zbd [59];pure (zag.mk p (b.what++[w])):Ps zag) (znz w b y):=h.bind fun _=>(zar _).bind fun _=> .ret _
  have:=hr.fine s.step (by rw[zbA hs]);rw[zbA hs] at this ⊢;exact this
def ze7 (b:zag):Rf zag:=fun s=>
 if s.sees [115,101,109,97,115] then zhE [115,101,109,97,115] b (zlO b.p) s
 else if s.sees [98,117,102,115] then zhE [98,117,102,115] b (zn0 b.p) s
 else if s.sees [101,118,101,110,116,115] then zhE [101,118,101,110,116,115] b (zik b.p) s
 else if s.sees [98,111,97,114,100,115] then zhE [98,111,97,114,100,115] b (ziu b.p) s
 else if s.sees [112,114,111,99] then(do
  let x←zhW
  pure (zag.mk {b.p with procs:=b.p.procs++[x]} b.what):Rf zag) s.step
 else zc4 b.p b.what s
theorem zhY (b:zag):zaY (za3 b) (ze7 b):=by
 refine⟨fun s h=> ?_,fun s h=> ?_⟩
 ·unfold za3 ze7
  simp only[InS.sees_eq h];by_cases h1:zaA [115,101,109,97,115] s.r=true
  ·simp only[h1,if_true];exact zeg _ b (zim _) s h
  ·simp only[h1]
   by_cases h2:zaA [98,117,102,115] s.r=true
   ·simp only[h2,if_true];exact zeg _ b (zkf _) s h
   ·simp only[h2]
    by_cases h3:zaA [101,118,101,110,116,115] s.r=true
    ·simp only[h3,if_true];exact zeg _ b (zha _) s h
    ·simp only[h3]
     by_cases h4:zaA [98,111,97,114,100,115] s.r=true
     ·simp only[h4,if_true];exact zeg _ b (zhj _) s h
     ·simp only[h4]
      by_cases h5:zaA [112,114,111,99] s.r=true
      ·simp only[h5,if_true]
       have hr:zaY (do let x←zfh;pure (zag.mk {b.p with procs:=b.p.procs++[x]} b.what):Ps zag) (do let x←zhW;pure (zag.mk {b.p with procs:=b.p.procs++[x]} b.what):Rf zag):=zjT.bind fun _=> .ret _
       have:=hr.fine s.step (by rw[zbA h]);rw[zbA h] at this ⊢;exact this
      ·simp only[h5]
       exact(zdq b.p b.what).fine s h
 ·unfold ze7
  simp only[InS.sees_no h];exact(zdq b.p b.what).stay s h
def zbv:Nat→zag→Rf zag
 |0,b=>pure b
 |f+1,b=>fun s=>if s.err==0&& !s.sees [125] then(do
   let b'←ze7 b
   zbv f b':Rf zag) s
  else(do
   zaR [125]
   pure b:Rf zag) s
theorem ze0: ∀(f:Nat) (b:zag),zaY (zav f b) (zbv f b)
 |0,b=> .ret b
 |f+1,b=>by
  have hb:=(zhY b).bind fun b'=>ze0 f b'
  refine⟨fun s h=> ?_,fun s h=> ?_⟩
  ·unfold zav zbv
   rw[InS.sees_eq h,h];by_cases h1:zaA [125] s.r=true
   ·simp only[h1,if_true]
    show(do let _←zaR [125];pure b:Rf zag) s=(b,_)
    have e:zaR [125] s=((),s.step):=by unfold zaR;rw[InS.sees_eq h,h1];rfl
    show(b,(zaR [125] s).2)=(b,_)
    rw[e,zbA h]
   ·have h1':zaA [125] s.r=false:=by simpa using h1
    simp only[h1'];exact hb.fine s h
  ·unfold zbv
   have h0:(s.err==0)=false:=by simpa using h
   rw[h0]
   show(zaR [125] s).2=s
   exact(zar _).stay s h
def zoq:Rf zas:=do
 let name←zb4
 let period←zbi [112,101,114,105,111,100]
 let length←zbi [108,101,110,103,116,104]
 let mem←zbi [109,101,109]
 zaR [123]
 let b←fun s=>zbv (s.r.length+1) ⟨⟨name,period,length,mem,[],0,0,[],[],[]⟩,[]⟩ s
 pure b.p
theorem zjH:zaY zdX zoq:=zaV.bind fun name=>(zaQ _).bind fun period=>(zaQ _).bind fun length=>(zaQ _).bind fun mem=>(zar _).bind fun _=>
 (zaY.dep (m:=fun r=>zav (r.length+1) ⟨⟨name,period,length,mem,[],0,0,[],[],[]⟩,[]⟩) (n:=fun s=>zbv (s.r.length+1) ⟨⟨name,period,length,mem,[],0,0,[],[],[]⟩,[]⟩) fun _=>ze0 _ _).bind fun _=> .ret _
def zdO:Nat→List zas→Rf (List zas)
 |0,acc=>pure acc
 |f+1,acc=>do
  let b←isR [112,97,114,116]
  if b then do
   let x←zoq
   zdO f (acc++[x])
  else pure acc
theorem zfG: ∀(f:Nat) (acc:List zas),zaY (zaS f acc) (zdO f acc)
 |0,acc=> .ret acc
 |f+1,acc=>(zfu _).bind fun b=>by
  cases b
  ·exact .ret acc
  ·exact zjH.bind fun a=>zfG f (acc++[a])
def modR:Rf zdZ:=do
 let name←zb4
 let mem←zbi [109,101,109]
 let frame←zbi [102,114,97,109,101]
 zaR [123]
 let parts←fun s=>zdO (s.r.length+1) [] s
 zaR [125]
 pure ⟨name,mem,frame,parts⟩
theorem zln:zaY zf9 modR:=zaV.bind fun _=>(zaQ _).bind fun _=>(zaQ _).bind fun _=>(zar _).bind fun _=>
 (zaY.dep (m:=fun r=>zaS (r.length+1) []) (n:=fun s=>zdO (s.r.length+1) []) fun _=>zfG _ _).bind fun _=>(zar _).bind fun _=> .ret _
def zme (c:zaK):Rf zaK:=fun s=>
 if s.sees [109,111,100,117,108,101] then(do let x←modR;pure {c with modules:=c.modules++[x]}:Rf zaK) s.step
 else if s.sees [99,104,97,110,110,101,108] then(do let x←zoI;pure {c with channels:=c.channels++[x]}:Rf zaK) s.step
 else if s.sees [115,119,105,116,99,104] then(do let x←swR;pure {c with switches:=c.switches++[x]}:Rf zaK) s.step
 else if s.sees [108,105,110,107] then(do let x←zoM;pure {c with links:=c.links++[x]}:Rf zaK) s.step
 else if s.sees [118,108] then(do let x←vlR;pure {c with vls:=c.vls++[x]}:Rf zaK) s.step
 else if s.sees [111,110] then(do let x←zeS;pure {c with health:=c.health++[x]}:Rf zaK) s.step
 else if s.sees [99,97,117,115,101] then(do let x←znc;pure {c with causes:=c.causes++[x]}:Rf zaK) s.step
 else if s.sees [119,111,114,107,115] then(do let x←zni;pure {c with versions:=c.versions++[x]}:Rf zaK) s.step
 else(c,(zb9 80 s).2)
theorem zdJ {α:Type} {m:Ps α} {n:Rf α} (h:zaY m n) (s:InS) (hs:s.err=0):zoW ((do zb2;m:Ps α) s.r) (n s.step) s:=by
 have:=h.fine s.step (by rw[zbA hs]);rw[zbA hs] at this ⊢;exact this
theorem zjE (c:zaK):zaY (zb1 c) (zme c):=by
 refine⟨fun s h=> ?_,fun s h=> ?_⟩
 ·unfold zb1 zme
  simp only[InS.sees_eq h];by_cases h1:zaA [109,111,100,117,108,101] s.r=true
  ·simp only[h1,if_true];exact zdJ (zln.bind fun x=> .ret _) s h
  ·simp only[h1]
   by_cases h2:zaA [99,104,97,110,110,101,108] s.r=true
   ·simp only[h2,if_true];exact zdJ (zjD.bind fun x=> .ret _) s h
   ·simp only[h2]
    by_cases h3:zaA [115,119,105,116,99,104] s.r=true
    ·simp only[h3,if_true];exact zdJ (zmP.bind fun x=> .ret _) s h
    ·simp only[h3]
     by_cases h4:zaA [108,105,110,107] s.r=true
     ·simp only[h4,if_true];exact zdJ (zju.bind fun x=> .ret _) s h
     ·simp only[h4]
      by_cases h5:zaA [118,108] s.r=true
      ·simp only[h5,if_true];exact zdJ (zmM.bind fun x=> .ret _) s h
      ·simp only[h5]
       by_cases h6:zaA [111,110] s.r=true
       ·simp only[h6,if_true];exact zdJ (zho.bind fun x=> .ret _) s h
       ·simp only[h6]
        by_cases h7:zaA [99,97,117,115,101] s.r=true
        ·simp only[h7,if_true];exact zdJ (zit.bind fun x=> .ret _) s h
        ·simp only[h7]
         by_cases h8:zaA [119,111,114,107,115] s.r=true
         ·simp only[h8,if_true];exact zdJ (zil.bind fun x=> .ret _) s h
         ·simp only[h8]
          exact zda h 80 (by decide)
 ·unfold zme
  simp only[InS.sees_no h];exact zcT h 80
def zcO:Nat→zaK→Rf zaK
 |0,c=>pure c
 |f+1,c=>fun s=>if s.err==0&& !s.r.isEmpty then(do
   let c'←zme c
   zcO f c':Rf zaK) s
  else(c,s)
theorem zea: ∀(f:Nat) (c:zaK),zaY (zbp f c) (zcO f c)
 |0,c=> .ret c
 |f+1,c=>by
  have hb:=(zjE c).bind fun c'=>zea f c'
  refine⟨fun s h=> ?_,fun s h=> ?_⟩
  ·unfold zbp zcO
   rw[h];have hf:=hb.fine s h
   cases hr:s.r with
   |nil=>
    show(c,s)=(c,⟨[],s.size,s.at_,0⟩)
    rw[←hr,←InS.eta h]
   |cons t r=>
    rw[hr] at hf;exact hf
  ·unfold zcO
   have h0:(s.err==0)=false:=by simpa using h
   rw[h0]
   rfl
def zgi (x:List Tok×Nat×Nat) (size:Nat):zaK×InS:=zcO (x.1.length+1) zaK.none (zaW x size)
theorem zoF (x:List Tok×Nat×Nat) (size:Nat):(if(zgi x size).2.err=0 then((zgi x size).1,0,0) else(zaK.none,(zgi x size).2.at_,(zgi x size).2.err))=zdb x size:=by
 unfold zdb;by_cases h0:x.2.2=0
 ·rw[if_pos h0]
  have h:=(zea (x.1.length+1) zaK.none).fine (zaW x size) h0;unfold zgN;have e:(zaW x size).r=x.1:=rfl;rw[e] at h;unfold zgi
  cases hc:zbp (x.1.length+1) zaK.none x.1 with
  |ok c r=>
   rw[hc] at h;have h:zcO (x.1.length+1) zaK.none (zaW x size)=(c,⟨r,size,x.2.1,0⟩):=h;rw[h]
   rfl
  |bad e r=>
   rw[hc] at h;obtain⟨h1,h2,h3,h4⟩:=h;rw[h2,if_neg h1,h3]
   rfl
 ·rw[if_neg h0]
  have h:=(zea (x.1.length+1) zaK.none).stay (zaW x size) h0;unfold zgi;rw[h,if_neg (by exact h0)]
  rfl
end Go.Proofs.YtlngbjphagnloaaGreatDoor
