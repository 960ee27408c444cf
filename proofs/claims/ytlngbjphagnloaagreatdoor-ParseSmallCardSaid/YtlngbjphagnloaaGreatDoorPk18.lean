/- Merged texts of the walks and of the plain laws on which the statement leans.-/
import Derived.Test.YtlngbjphagnloaaGreatDoorPk1
import Derived.Test.YtlngbjphagnloaaGreatDoorPk16
import Derived.Test.YtlngbjphagnloaaGreatDoorPk4
namespace Go.Proofs.YtlngbjphagnloaaGreatDoor
open Tryz
def zdQ:List (List UInt8):=[[115,101,109,97,115],[98,117,102,115],[101,118,101,110,116,115],[98,111,97,114,100,115]]
theorem zhT {ts:List Tok} (hT:zbS ts) (j:Nat) (b:zag) (hw:(hdT (ts.drop j)).text=[115,101,109,97,115]):za3 b (ts.drop j)=zcE [115,101,109,97,115] b (zdw b.p) (ts.drop j):=by
 unfold za3;rw[zak hT j 115 [101,109,97,115] (by decide),hw]
 rfl
theorem zjB {ts:List Tok} (hT:zbS ts) (j:Nat) (b:zag) (hw:(hdT (ts.drop j)).text=[98,117,102,115]):za3 b (ts.drop j)=zcE [98,117,102,115] b (zfb b.p) (ts.drop j):=by
 unfold za3;rw[zak hT j 115 [101,109,97,115] (by decide),zak hT j 98 [117,102,115] (by decide),hw]
 rfl
theorem zg9 {ts:List Tok} (hT:zbS ts) (j:Nat) (b:zag) (hw:(hdT (ts.drop j)).text=[101,118,101,110,116,115]):za3 b (ts.drop j)=zcE [101,118,101,110,116,115] b (zcw b.p) (ts.drop j):=by
 unfold za3;rw[zak hT j 115 [101,109,97,115] (by decide),zak hT j 98 [117,102,115] (by decide),zak hT j 101 [118,101,110,116,115] (by decide),hw]
 rfl
theorem zhc {ts:List Tok} (hT:zbS ts) (j:Nat) (b:zag) (hw:(hdT (ts.drop j)).text=[98,111,97,114,100,115]):za3 b (ts.drop j)=zcE [98,111,97,114,100,115] b (zcA b.p) (ts.drop j):=by
 unfold za3;rw[zak hT j 115 [101,109,97,115] (by decide),zak hT j 98 [117,102,115] (by decide),zak hT j 101 [118,101,110,116,115] (by decide),zak hT j 98 [111,97,114,100,115] (by decide),hw]
 rfl
theorem zgc {ts:List Tok} (hT:zbS ts) (j:Nat) (b:zag) (hw:(hdT (ts.drop j)).text∉zdQ):za3 b (ts.drop j)=if zaA [112,114,111,99] (ts.drop j) then(do
 zb2
 let x←zfh
 pure (zag.mk {b.p with procs:=b.p.procs++[x]} b.what)) (ts.drop j)
 else(do
  let x←zei
  pure (zag.mk {b.p with ports:=b.p.ports++[x]} b.what)) (ts.drop j):=by
 unfold za3;simp only[zdQ,List.mem_cons,List.not_mem_nil,or_false,not_or] at hw;obtain⟨h1,h2,h3,h4⟩:=hw;rw[zak hT j 115 [101,109,97,115] (by decide),zak hT j 98 [117,102,115] (by decide),zak hT j 101 [118,101,110,116,115] (by decide),zak hT j 98 [111,97,114,100,115] (by decide),beq_eq_false_iff_ne.2 h1,beq_eq_false_iff_ne.2 h2,beq_eq_false_iff_ne.2 h3,beq_eq_false_iff_ne.2 h4]
 rfl
theorem zdR {w:List UInt8} {b:zag} {x:Ps zas} {r:List Tok} (h:b.what.contains w=true):zcE w b x r= .bad 81 r:=if_pos h
theorem ziw {w:List UInt8} {b:zag} {x:Ps zas} {r:List Tok} (h:b.what.contains w=false):zcE w b x r=(zb2 >>= fun _=>x >>= fun p=>zbd [59] >>= fun _=>pure (zag.mk p (b.what++[w]))) r:=if_neg (by rw[h];decide)
theorem zgC {w:List UInt8} {b b2:zag} {x:Ps zas} {r r2 r3:List Tok} (h:b.what.contains w=false) (hx:(x >>= fun p=>pure (zag.mk p (b.what++[w]))) r.tail= .ok b2 r2) (hm:zbd [59] r2= .ok () r3):zcE w b x r= .ok b2 r3:=by
 obtain⟨p,r1,h1,h2⟩:=zeB hx;have h2:Res.ok (zag.mk p (b.what++[w])) r1= .ok b2 r2:=h2;injection h2 with h3 h4
 subst h3 h4;rw[ziw h,zac (show zb2 r= .ok () r.tail from rfl),zac h1,zac hm]
 rfl
theorem zep {w:List UInt8} {b:zag} {x:Ps zas} {r r2:List Tok} {n:Nat} (h:b.what.contains w=false) (hx:(x >>= fun p=>pure (zag.mk p (b.what++[w]))) r.tail= .bad n r2):zcE w b x r= .bad n r2:=by
 rw[ziw h,zac (show zb2 r= .ok () r.tail from rfl)]
 cases hp:x r.tail with
 |ok p r1=>
  rw[zac hp] at hx
  cases hx
 |bad n' r1=>
  rw[zab hp] at hx ⊢;injection hx with h1 h2
  rw[h1,h2]
theorem zet {w:List UInt8} {b b2:zag} {x:Ps zas} {r r2 r3:List Tok} {n:Nat} (h:b.what.contains w=false) (hx:(x >>= fun p=>pure (zag.mk p (b.what++[w]))) r.tail= .ok b2 r2) (hm:zbd [59] r2= .bad n r3):zcE w b x r= .bad n r3:=by
 obtain⟨p,r1,h1,h2⟩:=zeB hx;have h2:Res.ok (zag.mk p (b.what++[w])) r1= .ok b2 r2:=h2;injection h2 with h3 h4
 subst h3 h4;rw[ziw h,zac (show zb2 r= .ok () r.tail from rfl),zac h1,zab hm]
end Go.Proofs.YtlngbjphagnloaaGreatDoor
