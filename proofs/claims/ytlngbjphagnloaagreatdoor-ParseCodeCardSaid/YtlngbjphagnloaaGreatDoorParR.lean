/-
  parse: the reference's parser as plain functions on its state, and that it goes along with the parser.
-/
import Derived.Test.YtlngbjphagnloaaGreatDoorPk2
namespace Go.Proofs.YtlngbjphagnloaaGreatDoor
/-- The reference's state: what is left, the source's size, where the first error lies, the first error. -/
structure InS where
  r : List Tok
  size : Nat
  at_ : Nat
  err : Nat
def InS.here (s : InS) : Tok := if s.err = 0 then s.r.headD ⟨0, [], s.size⟩ else ⟨0, [], s.size⟩
def Rf (α : Type) := InS → α × InS
instance : Monad Rf where
  pure a := fun s => (a, s)
  bind m f := fun s => f (m s).1 (m s).2
def failR (e : Nat) : Rf Unit := fun s => ((), if s.err = 0 then ⟨s.r, s.size, s.here.at_, e⟩ else s)
def InS.sees (t : List UInt8) (s : InS) : Bool := (s.here.kind == 1 || s.here.kind == 3) && s.here.text == t
def InS.step (s : InS) : InS := ⟨s.r.tail, s.size, s.at_, s.err⟩
def isR (t : List UInt8) : Rf Bool := fun s => if s.sees t then (true, s.step) else (false, s)
def mustR (t : List UInt8) : Rf Unit := fun s => if s.sees t then ((), s.step) else failR 80 s
def nameR : Rf (List UInt8) := fun s => if s.here.kind == 1 then (s.here.text, s.step) else ([], (failR 80 s).2)
def numR : Rf Int := fun s => if s.here.kind == 2 then (((numV s.here.text : Nat) : Int), s.step) else (0, (failR 80 s).2)
def afterR (t : List UInt8) : Rf Int := do
  mustR t
  numR
def choiceR (l : List (List UInt8)) : Rf Nat := fun s => if findN l s.here.text != 0 && s.here.kind == 1 then (findN l s.here.text, s.step) else (0, (failR 80 s).2)
def moreR {α : Type} (x : Rf α) : Nat → List α → Rf (List α)
  | 0, acc => pure acc
  | f + 1, acc => do
    let b ← isR [44]
    if b then do
      let a ← x
      moreR x f (acc ++ [a])
    else pure acc
def listR {α : Type} (x : Rf α) : Rf (List α) := do
  let a ← x
  fun s => moreR x (s.r.length + 1) [a] s
/-- From the state s (without an error): what the parser says of the reference's result. -/
def Fine {α : Type} (x : Res α) (y : α × InS) (s : InS) : Prop := match x with
  | .ok a r => y = (a, ⟨r, s.size, s.at_, 0⟩)
  | .bad e r => e ≠ 0 ∧ y.2.err = e ∧ y.2.at_ = (r.headD ⟨0, [], s.size⟩).at_ ∧ y.2.size = s.size
/-- Along: from a state without an error as the parser; a state with one stays. -/
structure Along {α : Type} (m : Ps α) (n : Rf α) : Prop where
  fine : ∀ s, s.err = 0 → Fine (m s.r) (n s) s
  stay : ∀ s, s.err ≠ 0 → (n s).2 = s
theorem InS.eta {s : InS} (h : s.err = 0) : s = ⟨s.r, s.size, s.at_, 0⟩ := by cases s; simp only at h; subst h; rfl
theorem Along.ret {α : Type} (a : α) : Along (pure a : Ps α) (pure a : Rf α) :=
  ⟨fun s h => by show (a, s) = (a, _); rw [← InS.eta h], fun _ _ => rfl⟩
theorem Along.bind {α β : Type} {m : Ps α} {n : Rf α} {f : α → Ps β} {g : α → Rf β} (h : Along m n) (k : ∀ a, Along (f a) (g a)) : Along (m >>= f) (n >>= g) := by
  refine ⟨fun s hs => ?_, fun s hs => ?_⟩
  · have h1 := h.fine s hs
    cases hm : m s.r with
    | ok a r =>
      rw [hm] at h1
      have h1 : n s = (a, ⟨r, s.size, s.at_, 0⟩) := h1
      rw [bnd_ok hm]
      have h2 := (k a).fine ⟨r, s.size, s.at_, 0⟩ rfl
      show Fine (f a r) (g (n s).1 (n s).2) s
      rw [h1]
      exact h2
    | bad e r =>
      rw [hm] at h1
      rw [bnd_bad hm]
      obtain ⟨h2, h3, h4, h5⟩ := h1
      have h6 := (k (n s).1).stay (n s).2 (by rw [h3]; exact h2)
      show e ≠ 0 ∧ (g (n s).1 (n s).2).2.err = e ∧ (g (n s).1 (n s).2).2.at_ = _ ∧ (g (n s).1 (n s).2).2.size = _
      rw [h6]
      exact ⟨h2, h3, h4, h5⟩
  · have h1 := h.stay s hs
    show (g (n s).1 (n s).2).2 = s
    rw [h1]
    exact (k _).stay s hs
theorem InS.here_eq {s : InS} (h : s.err = 0) : s.here = s.r.headD ⟨0, [], s.size⟩ := if_pos h
theorem InS.kind_eq {s : InS} (h : s.err = 0) : s.here.kind = (hdT s.r).kind := by rw [InS.here_eq h]; unfold hdT; cases s.r <;> rfl
theorem InS.text_eq {s : InS} (h : s.err = 0) : s.here.text = (hdT s.r).text := by rw [InS.here_eq h]; unfold hdT; cases s.r <;> rfl
theorem InS.sees_eq {s : InS} (h : s.err = 0) (t : List UInt8) : s.sees t = seesB t s.r := by
  unfold InS.sees seesB
  rw [InS.kind_eq h, InS.text_eq h, Bool.and_comm]
theorem InS.sees_no {s : InS} (h : s.err ≠ 0) (t : List UInt8) : s.sees t = false := by
  unfold InS.sees InS.here
  rw [if_neg h]
  rfl
theorem InS.kind_no {s : InS} (h : s.err ≠ 0) : s.here.kind = 0 := by unfold InS.here; rw [if_neg h]
theorem fail_fine {s : InS} (h : s.err = 0) (e : Nat) (he : e ≠ 0) : e ≠ 0 ∧ (failR e s).2.err = e ∧ (failR e s).2.at_ = (s.r.headD ⟨0, [], s.size⟩).at_ ∧ (failR e s).2.size = s.size := by
  unfold failR
  rw [if_pos h, InS.here_eq h]
  exact ⟨he, rfl, rfl, rfl⟩
theorem fail_stay {s : InS} (h : s.err ≠ 0) (e : Nat) : (failR e s).2 = s := if_neg h
theorem step_fine {s : InS} (h : s.err = 0) : s.step = ⟨s.r.tail, s.size, s.at_, 0⟩ := by unfold InS.step; rw [h]
theorem is_along (t : List UInt8) : Along (takesP t) (isR t) := by
  refine ⟨fun s h => ?_, fun s h => ?_⟩
  · unfold takesP isR
    rw [InS.sees_eq h]
    cases seesB t s.r
    · show (false, s) = (false, _); rw [← InS.eta h]
    · show (true, s.step) = (true, _); rw [step_fine h]
  · unfold isR; rw [InS.sees_no h]; rfl
theorem must_along (t : List UInt8) : Along (mustP t) (mustR t) := by
  refine ⟨fun s h => ?_, fun s h => ?_⟩
  · unfold mustP mustR
    rw [InS.sees_eq h]
    cases seesB t s.r
    · exact fail_fine h 80 (by decide)
    · show ((), s.step) = ((), _); rw [step_fine h]
  · unfold mustR; rw [InS.sees_no h]; exact fail_stay h 80
theorem name_along : Along nameP nameR := by
  refine ⟨fun s h => ?_, fun s h => ?_⟩
  · unfold nameP nextP nameR
    rw [InS.kind_eq h, InS.text_eq h]
    cases (hdT s.r).kind == 1
    · exact fail_fine h 80 (by decide)
    · show (_, s.step) = (_, _); rw [step_fine h]
  · unfold nameR; rw [InS.kind_no h]; exact fail_stay h 80
theorem num_along : Along numP numR := by
  refine ⟨fun s h => ?_, fun s h => ?_⟩
  · unfold numR
    rw [InS.kind_eq h, InS.text_eq h]
    cases hk : (hdT s.r).kind == 2
    · have e : numP s.r = .bad 80 s.r := bnd_bad (by unfold nextP; rw [hk]; rfl)
      rw [e]
      exact fail_fine h 80 (by decide)
    · have e : numP s.r = .ok ((numV (hdT s.r).text : Nat) : Int) s.r.tail := bnd_ok (by unfold nextP; rw [hk]; rfl)
      rw [e]
      show (_, s.step) = (_, _); rw [step_fine h]
  · unfold numR; rw [InS.kind_no h]; exact fail_stay h 80
theorem after_along (t : List UInt8) : Along (afterP t) (afterR t) := (must_along t).bind fun _ => num_along
theorem choice_along (l : List (List UInt8)) : Along (ofP l) (choiceR l) := by
  refine ⟨fun s h => ?_, fun s h => ?_⟩
  · unfold ofP choiceR
    rw [InS.kind_eq h, InS.text_eq h]
    cases findN l (hdT s.r).text != 0 && (hdT s.r).kind == 1
    · exact fail_fine h 80 (by decide)
    · show (_, s.step) = (_, _); rw [step_fine h]
  · unfold choiceR; rw [InS.kind_no h, show ((0 : Nat) == 1) = false from rfl, Bool.and_false]; exact fail_stay h 80
theorem more_along {α : Type} {x : Ps α} {y : Rf α} (h : Along x y) : ∀ (f : Nat) (acc : List α), Along (moreP x f acc) (moreR y f acc)
  | 0, acc => .ret acc
  | f + 1, acc => (is_along _).bind fun b => by
    cases b
    · exact .ret acc
    · exact h.bind fun a => more_along h f (acc ++ [a])
/-- A choice of the program by what is left. -/
theorem Along.dep {α : Type} {m : List Tok → Ps α} {n : InS → Rf α} (h : ∀ s0 : InS, Along (m s0.r) (n s0)) : Along (fun r => m r r) (fun s => n s s) :=
  ⟨fun s hs => (h s).fine s hs, fun s hs => (h s).stay s hs⟩
theorem list_along {α : Type} {x : Ps α} {y : Rf α} (h : Along x y) : Along (listP x) (listR y) :=
  h.bind fun a => Along.dep (m := fun r => moreP x (r.length + 1) [a]) (n := fun s => moreR y (s.r.length + 1) [a]) fun _ => more_along h _ _
def refR : Rf RefD := do
  let m ← nameR
  mustR [46]
  let p ← nameR
  mustR [46]
  let o ← nameR
  pure ⟨m, p, o⟩
theorem ref_along : Along refP refR := name_along.bind fun _ => (must_along _).bind fun _ => name_along.bind fun _ => (must_along _).bind fun _ => name_along.bind fun _ => .ret _
def netR : Rf Int := do
  mustR [110, 101, 116]
  let n ← choiceR netWords
  pure ((n : Int) - 1)
theorem net_along : Along netP netR := (must_along _).bind fun _ => (choice_along _).bind fun _ => .ret _
end Go.Proofs.YtlngbjphagnloaaGreatDoor
