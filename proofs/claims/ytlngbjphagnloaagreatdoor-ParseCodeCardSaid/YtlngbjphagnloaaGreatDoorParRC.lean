/-
  parse: the reference's code as a plain function, and that it goes along with the parser's.
-/
import Derived.Test.YtlngbjphagnloaaGreatDoorParR
import Derived.Test.YtlngbjphagnloaaGreatDoorPk4
namespace Go.Proofs.YtlngbjphagnloaaGreatDoor
def opsR : Nat → Rf (List Int)
  | 0 => pure []
  | n + 1 => do
    let a ← numR
    let l ← opsR n
    pure (a :: l)
theorem ops_along : ∀ n, Along (opsP n) (opsR n)
  | 0 => .ret _
  | n + 1 => num_along.bind fun _ => (ops_along n).bind fun _ => .ret _
def insR : Rf InsD := do
  let op ← choiceR insWords
  let l ← opsR (wordN insOps op).length
  mustR [59]
  pure ⟨op, l.getD 0 0, l.getD 1 0, l.getD 2 0⟩
theorem ins_along : Along insP insR := (choice_along _).bind fun _ => (ops_along _).bind fun _ => (must_along _).bind fun _ => .ret _
def codeLoopR : Nat → List InsD → Rf (List InsD)
  | 0, acc => pure acc
  | f + 1, acc => fun s => if s.here.kind == 1 then (do
      let x ← insR
      codeLoopR f (acc ++ [x])) s
    else (acc, s)
theorem code_loop_along : ∀ (f : Nat) (acc : List InsD), Along (codeLoop f acc) (codeLoopR f acc)
  | 0, acc => .ret acc
  | f + 1, acc => by
    have ih := fun x => code_loop_along f (acc ++ [x])
    have hb := ins_along.bind ih
    refine ⟨fun s h => ?_, fun s h => ?_⟩
    · unfold codeLoop codeLoopR
      rw [InS.kind_eq h]
      cases (hdT s.r).kind == 1
      · show (acc, s) = (acc, _); rw [← InS.eta h]
      · exact hb.fine s h
    · unfold codeLoopR
      rw [InS.kind_no h]
      rfl
def codeR : Rf (List InsD) := fun s => codeLoopR (s.r.length + 1) [] s
theorem code_along : Along codeP codeR := Along.dep (m := fun r => codeLoop (r.length + 1) []) (n := fun s => codeLoopR (s.r.length + 1) []) fun _ => code_loop_along _ _
def refStart (x : List Tok × Nat × Nat) (size : Nat) : InS := ⟨x.1, size, x.2.1, x.2.2⟩
def refCode (x : List Tok × Nat × Nat) (size : Nat) : List InsD × InS :=
  let y := codeR (refStart x size)
  (y.1, if y.2.r.isEmpty then y.2 else (failR 80 y.2).2)
theorem ref_code (x : List Tok × Nat × Nat) (size : Nat) : (if (refCode x size).2.err = 0 then ((refCode x size).1, 0, 0) else ([], (refCode x size).2.at_, (refCode x size).2.err)) = codeT x size := by
  unfold codeT refCode
  by_cases h0 : x.2.2 = 0
  · rw [if_pos h0]
    have h := code_along.fine (refStart x size) h0
    have e : (refStart x size).r = x.1 := rfl
    rw [e] at h
    cases hc : codeP x.1 with
    | ok c r =>
      rw [hc] at h
      have h : codeR (refStart x size) = (c, ⟨r, size, x.2.1, 0⟩) := h
      have e2 : allCodeP x.1 = endP c r := bnd_ok hc
      rw [e2]
      simp only [h]
      cases r with
      | nil => rfl
      | cons t r => rfl
    | bad e3 r =>
      rw [hc] at h
      obtain ⟨h1, h2, h3, h4⟩ := h
      have e2 : allCodeP x.1 = .bad e3 r := bnd_bad hc
      rw [e2]
      have hne : (codeR (refStart x size)).2.err ≠ 0 := by rw [h2]; exact h1
      have hs : (if (codeR (refStart x size)).2.r.isEmpty then (codeR (refStart x size)).2 else (failR 80 (codeR (refStart x size)).2).2) = (codeR (refStart x size)).2 := by
        split
        · rfl
        · exact fail_stay hne 80
      simp only [hs]
      rw [h2, if_neg h1, h3]
      rfl
  · rw [if_neg h0]
    have h := code_along.stay (refStart x size) h0
    have hne : (refStart x size).err ≠ 0 := h0
    have hs : (if (codeR (refStart x size)).2.r.isEmpty then (codeR (refStart x size)).2 else (failR 80 (codeR (refStart x size)).2).2) = refStart x size := by
      rw [h]
      split
      · rfl
      · exact fail_stay hne 80
    simp only [hs]
    rw [if_neg hne]
    rfl
end Go.Proofs.YtlngbjphagnloaaGreatDoor
