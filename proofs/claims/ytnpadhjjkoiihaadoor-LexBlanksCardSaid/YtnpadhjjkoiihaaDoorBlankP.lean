/-
  Blanks and comments between tokens: plain facts.
-/
import Derived.Test.YtnpadhjjkoiihaaDoorBackP
namespace Go.Proofs.YtnpadhjjkoiihaaDoor
open Go.RowKit
/-- A filling between tokens. -/
structure FillOk (f : List UInt8) : Prop where
  skip : ∀ r, skipN false (f ++ r) = f.length + skipN false r
  head : ∃ c s, f = c :: s ∧ innerB c = false
def glue (xs : List (List UInt8 × Tok)) : List UInt8 := xs.flatMap fun x => x.1 ++ x.2.text
def placed : Nat → List (List UInt8 × Tok) → List Tok
  | _, [] => []
  | p, x :: r => ⟨x.2.kind, x.2.text, p + x.1.length⟩ :: placed (p + x.1.length + x.2.text.length) r
theorem placed_len : ∀ (p : Nat) (xs : List (List UInt8 × Tok)), (placed p xs).length = xs.length
  | _, [] => rfl
  | p, x :: r => by show (placed _ r).length + 1 = _; rw [placed_len]; rfl
theorem glue_cons (x : List UInt8 × Tok) (r : List (List UInt8 × Tok)) : glue (x :: r) = x.1 ++ x.2.text ++ glue r := by simp [glue]
theorem glue_snoc (xs : List (List UInt8 × Tok)) (x : List UInt8 × Tok) : glue (xs ++ [x]) = glue xs ++ x.1 ++ x.2.text := by simp [glue]
theorem placed_at : ∀ (xs : List (List UInt8 × Tok)) (p i : Nat) (x : List UInt8 × Tok), xs[i]? = some x → (placed p xs)[i]? = some ⟨x.2.kind, x.2.text, p + (glue (xs.take i)).length + x.1.length⟩
  | [], _, _, _, h => by simp at h
  | y :: r, p, 0, x, h => by
    simp at h
    subst h
    simp [placed, glue]
  | y :: r, p, i + 1, x, h => by
    have := placed_at r (p + y.1.length + y.2.text.length) i x (by simpa using h)
    show (placed _ r)[i]? = _
    rw [this, List.take_succ_cons, glue_cons]
    simp only [List.length_append]
    rw [show p + y.1.length + y.2.text.length + (glue (r.take i)).length + x.1.length = p + (y.1.length + y.2.text.length + (glue (r.take i)).length) + x.1.length from by omega]
theorem lexA_fill (p : Nat) (f l : List UInt8) (hf : FillOk f) : lexA p (f ++ l) = lexA (p + f.length) l := by
  rw [lexA_skip p (f ++ l), hf.skip l, lexA_skip (p + f.length) l, ← List.drop_drop, List.drop_left]
  rw [show p + (f.length + skipN false l) = p + f.length + skipN false l from by omega]
theorem lex_glue : ∀ (xs : List (List UInt8 × Tok)) (p : Nat) (tail : List UInt8), (∀ x ∈ xs, FillOk x.1 ∧ ValidT x.2) → (∃ c s, tail = c :: s ∧ innerB c = false) → skipN false tail = tail.length → lexA p (glue xs ++ tail) = (placed p xs, 0, 0)
  | [], p, tail, _, _, hs => by
    rw [show glue [] ++ tail = tail from rfl, lexA_eq, hs, List.drop_length]
    rfl
  | x :: r, p, tail, hv, ht, hs => by
    obtain ⟨h1, h2⟩ := hv x (by simp)
    have ih := lex_glue r (p + x.1.length + x.2.text.length) tail (fun y hy => hv y (List.mem_cons_of_mem _ hy)) ht hs
    have e : glue (x :: r) ++ tail = x.1 ++ (x.2.text ++ (glue r ++ tail)) := by rw [glue_cons]; simp
    rw [e, lexA_fill p x.1 _ h1, lexA_tok _ x.2 _ h2 (fun c s hcs => ?_), ih]
    · rfl
    · cases r with
      | nil =>
        obtain ⟨c', s', e', hc'⟩ := ht
        rw [show glue [] ++ tail = tail from rfl, e'] at hcs
        injection hcs with hc _
        rw [← hc]; exact hc'
      | cons y r =>
        obtain ⟨c', s', e', hc'⟩ := (hv y (by simp)).1.head
        rw [glue_cons, e'] at hcs
        injection hcs with hc _
        rw [← hc]; exact hc'
theorem fill_of (f : List UInt8) (c : UInt8) (s : List UInt8) (e : f = c :: s) (hc : innerB c = false) (hs : ∀ r, skipN false (f ++ r) = f.length + skipN false r) : FillOk f := ⟨hs, c, s, e, hc⟩
def fillL : Nat → List UInt8
  | 0 => [32]
  | 1 => [10]
  | 2 => [9, 32]
  | 3 => [35, 10]
  | 4 => [32, 35, 32, 123, 97, 32, 63, 10]
  | _ => [13, 10]
theorem fill_ok (k : Nat) : FillOk (fillL k) := by
  match k with
  | 0 => exact fill_of _ 32 [] rfl rfl (fun r => by show skipN false (32 :: r) = _; rw [skipN_f]; rfl)
  | 1 => exact fill_of _ 10 [] rfl rfl (fun r => by show skipN false (10 :: r) = _; rw [skipN_f]; rfl)
  | 2 => exact fill_of _ 9 [32] rfl rfl (fun r => by
      show skipN false (9 :: 32 :: r) = 2 + _
      rw [skipN_f, skipN_f]
      simp only [show blankB 9 = true from rfl, show blankB 32 = true from rfl, if_true]
      omega)
  | 3 => exact fill_of _ 35 [10] rfl rfl (fun r => by
      show skipN false (35 :: 10 :: r) = 2 + _
      rw [skipN_f, skipN_t]
      simp only [show blankB 35 = false from rfl, show ((35 : UInt8) == 35) = true from rfl, show ((10 : UInt8) == 10) = true from rfl, if_true, Bool.false_eq_true, if_false]
      omega)
  | 4 => exact fill_of _ 32 _ rfl rfl (fun r => by
      show skipN false (32 :: 35 :: 32 :: 123 :: 97 :: 32 :: 63 :: 10 :: r) = 8 + _
      rw [skipN_f, skipN_f, skipN_t, skipN_t, skipN_t, skipN_t, skipN_t, skipN_t]
      simp only [show blankB 32 = true from rfl, show blankB 35 = false from rfl, show ((35 : UInt8) == 35) = true from rfl, show ((32 : UInt8) == 10) = false from rfl, show ((123 : UInt8) == 10) = false from rfl, show ((97 : UInt8) == 10) = false from rfl, show ((63 : UInt8) == 10) = false from rfl, show ((10 : UInt8) == 10) = true from rfl, if_true, Bool.false_eq_true, if_false]
      omega)
  | k + 5 => exact fill_of _ 13 [10] rfl rfl (fun r => by
      show skipN false (13 :: 10 :: r) = 2 + _
      rw [skipN_f, skipN_f]
      simp only [show blankB 13 = true from rfl, show blankB 10 = true from rfl, if_true]
      omega)
theorem fill_len (k : Nat) : (fillL k).length ≤ 8 := by
  match k with
  | 0 | 1 | 2 | 3 | 4 => decide
  | k + 5 => show 2 ≤ 8; omega
def tailL : List UInt8 := [32, 35, 32, 116, 104, 101, 32, 101, 110, 100]
theorem tail_ok : (∃ c s, tailL = c :: s ∧ innerB c = false) ∧ skipN false tailL = tailL.length := ⟨⟨32, _, rfl, rfl⟩, by decide⟩
end Go.Proofs.YtnpadhjjkoiihaaDoor
