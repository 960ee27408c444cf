/-
  Merged texts: parse: what a thing is, by the current token's text.
-/
import Derived.Test.YtlngbjphagnloaaGreatDoorPk14
import Derived.Test.YtlngbjphagnloaaGreatDoorPk4
namespace Go.Proofs.YtlngbjphagnloaaGreatDoor
def thgWords : List (List UInt8) := [[115, 101, 109, 97, 115], [98, 117, 102, 115], [101, 118, 101, 110, 116, 115], [98, 111, 97, 114, 100, 115]]
theorem thing_semas {ts : List Tok} (hT : TokOk ts) (j : Nat) (b : BuildD) (hw : (hdT (ts.drop j)).text = [115, 101, 109, 97, 115]) : thingP b (ts.drop j) = onceP [115, 101, 109, 97, 115] b (semasP b.p) (ts.drop j) := by
  unfold thingP
  rw [sees_text hT j 115 [101, 109, 97, 115] (by decide), hw]
  rfl
theorem thing_bufs {ts : List Tok} (hT : TokOk ts) (j : Nat) (b : BuildD) (hw : (hdT (ts.drop j)).text = [98, 117, 102, 115]) : thingP b (ts.drop j) = onceP [98, 117, 102, 115] b (bufsP b.p) (ts.drop j) := by
  unfold thingP
  rw [sees_text hT j 115 [101, 109, 97, 115] (by decide), sees_text hT j 98 [117, 102, 115] (by decide), hw]
  rfl
theorem thing_events {ts : List Tok} (hT : TokOk ts) (j : Nat) (b : BuildD) (hw : (hdT (ts.drop j)).text = [101, 118, 101, 110, 116, 115]) : thingP b (ts.drop j) = onceP [101, 118, 101, 110, 116, 115] b (eventsP b.p) (ts.drop j) := by
  unfold thingP
  rw [sees_text hT j 115 [101, 109, 97, 115] (by decide), sees_text hT j 98 [117, 102, 115] (by decide), sees_text hT j 101 [118, 101, 110, 116, 115] (by decide), hw]
  rfl
theorem thing_boards {ts : List Tok} (hT : TokOk ts) (j : Nat) (b : BuildD) (hw : (hdT (ts.drop j)).text = [98, 111, 97, 114, 100, 115]) : thingP b (ts.drop j) = onceP [98, 111, 97, 114, 100, 115] b (boardsP b.p) (ts.drop j) := by
  unfold thingP
  rw [sees_text hT j 115 [101, 109, 97, 115] (by decide), sees_text hT j 98 [117, 102, 115] (by decide), sees_text hT j 101 [118, 101, 110, 116, 115] (by decide), sees_text hT j 98 [111, 97, 114, 100, 115] (by decide), hw]
  rfl
theorem thing_rest {ts : List Tok} (hT : TokOk ts) (j : Nat) (b : BuildD) (hw : (hdT (ts.drop j)).text ∉ thgWords) : thingP b (ts.drop j) = if seesB [112, 114, 111, 99] (ts.drop j) then (do
    skipP
    let x ← procP
    pure (BuildD.mk { b.p with procs := b.p.procs ++ [x] } b.what)) (ts.drop j)
  else (do
    let x ← portP
    pure (BuildD.mk { b.p with ports := b.p.ports ++ [x] } b.what)) (ts.drop j) := by
  unfold thingP
  simp only [thgWords, List.mem_cons, List.not_mem_nil, or_false, not_or] at hw
  obtain ⟨h1, h2, h3, h4⟩ := hw
  rw [sees_text hT j 115 [101, 109, 97, 115] (by decide), sees_text hT j 98 [117, 102, 115] (by decide), sees_text hT j 101 [118, 101, 110, 116, 115] (by decide), sees_text hT j 98 [111, 97, 114, 100, 115] (by decide), beq_eq_false_iff_ne.2 h1, beq_eq_false_iff_ne.2 h2, beq_eq_false_iff_ne.2 h3, beq_eq_false_iff_ne.2 h4]
  rfl
theorem once_twice {w : List UInt8} {b : BuildD} {x : Ps PartD} {r : List Tok} (h : b.what.contains w = true) : onceP w b x r = .bad 81 r := if_pos h
theorem once_un {w : List UInt8} {b : BuildD} {x : Ps PartD} {r : List Tok} (h : b.what.contains w = false) : onceP w b x r = (skipP >>= fun _ => x >>= fun p => mustP [59] >>= fun _ => pure (BuildD.mk p (b.what ++ [w]))) r := if_neg (by rw [h]; decide)
theorem once_ok {w : List UInt8} {b b2 : BuildD} {x : Ps PartD} {r r2 r3 : List Tok} (h : b.what.contains w = false) (hx : (x >>= fun p => pure (BuildD.mk p (b.what ++ [w]))) r.tail = .ok b2 r2) (hm : mustP [59] r2 = .ok () r3) : onceP w b x r = .ok b2 r3 := by
  obtain ⟨p, r1, h1, h2⟩ := bnd_inv hx
  have h2 : Res.ok (BuildD.mk p (b.what ++ [w])) r1 = .ok b2 r2 := h2
  injection h2 with h3 h4
  subst h3 h4
  rw [once_un h, bnd_ok (show skipP r = .ok () r.tail from rfl), bnd_ok h1, bnd_ok hm]
  rfl
theorem once_bad1 {w : List UInt8} {b : BuildD} {x : Ps PartD} {r r2 : List Tok} {n : Nat} (h : b.what.contains w = false) (hx : (x >>= fun p => pure (BuildD.mk p (b.what ++ [w]))) r.tail = .bad n r2) : onceP w b x r = .bad n r2 := by
  rw [once_un h, bnd_ok (show skipP r = .ok () r.tail from rfl)]
  cases hp : x r.tail with
  | ok p r1 =>
    rw [bnd_ok hp] at hx
    cases hx
  | bad n' r1 =>
    rw [bnd_bad hp] at hx ⊢
    injection hx with h1 h2
    rw [h1, h2]
theorem once_bad2 {w : List UInt8} {b b2 : BuildD} {x : Ps PartD} {r r2 r3 : List Tok} {n : Nat} (h : b.what.contains w = false) (hx : (x >>= fun p => pure (BuildD.mk p (b.what ++ [w]))) r.tail = .ok b2 r2) (hm : mustP [59] r2 = .bad n r3) : onceP w b x r = .bad n r3 := by
  obtain ⟨p, r1, h1, h2⟩ := bnd_inv hx
  have h2 : Res.ok (BuildD.mk p (b.what ++ [w])) r1 = .ok b2 r2 := h2
  injection h2 with h3 h4
  subst h3 h4
  rw [once_un h, bnd_ok (show skipP r = .ok () r.tail from rfl), bnd_ok h1, bnd_bad hm]
end Go.Proofs.YtlngbjphagnloaaGreatDoor
