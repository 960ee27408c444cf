/-
  parse: ParseCodes: the plain law.
-/
import Derived.Test.YtlngbjphagnloaaGreatDoorCds1
namespace Go.Proofs.YtlngbjphagnloaaGreatDoor
theorem digits_run (s : List UInt8) (h : s.all digitB = true) : runN s = s.length := by
  unfold runN
  induction s with
  | nil => rfl
  | cons b r ih =>
    simp only [List.all_cons, Bool.and_eq_true] at h
    have hb : innerB b = true := by unfold innerB; rw [h.1]; simp
    rw [List.takeWhile_cons, if_pos hb, List.length_cons, List.length_cons, ih h.2]
theorem valid_num {d : List UInt8} (h : numB d = true) (q : Nat) : ValidT ⟨2, d, q⟩ := by
  have hd : d.all digitB = true := by
    unfold numB at h
    simp only [Bool.and_eq_true] at h
    exact h.1.1
  cases d with
  | nil => simp [numB] at h
  | cons b r =>
    simp only [List.all_cons, Bool.and_eq_true] at hd
    have hl : letterB b = false := by
      have := hd.1
      unfold digitB at this
      unfold letterB
      simp at this ⊢
      omega
    have hr := digits_run r hd.2
    have ht : tokN (b :: r) = (2, 1 + r.length, 0) := by
      unfold tokN
      dsimp only
      rw [hr, List.take_length, hl, hd.1, h]
      simp
    have := valid_tok b r q (by rw [ht])
    rw [ht] at this
    have e : (b :: r).take (1 + r.length) = b :: r := List.take_of_length_le (by simp; omega)
    rw [e] at this
    exact this
theorem okW_app : ∀ (l r : List Wr), okW l → okW r → (∀ x, l.getLast? = some x → x.gap = true ∨ r = [] ∨ ∃ y s b t, r = y :: s ∧ y.text = b :: t ∧ innerB b = false) → okW (l ++ r)
  | [], r, _, hr, _ => hr
  | [x], r, hl, hr, hg => ⟨hl.1, hg x rfl, hr⟩
  | x :: y :: l, r, hl, hr, hg => by
    refine ⟨hl.1, ?_, okW_app (y :: l) r hl.2.2 hr (fun z hz => hg z (by rw [List.getLast?_cons_cons]; exact hz))⟩
    rcases hl.2.1 with h | h | ⟨y', s, b, t, h, h2⟩
    · exact .inl h
    · cases h
    · injection h with h3 h4
      subst h3 h4
      exact .inr (.inr ⟨y, l ++ r, b, t, rfl, h2⟩)
/-- A list of numbers, of which the last is followed by a blank or not. -/
def numsW (g : Bool) : List (List UInt8) → List Wr
  | [] => []
  | [d] => [⟨2, d, g⟩]
  | d :: e :: r => ⟨2, d, true⟩ :: numsW g (e :: r)
def insW (op : Nat) (ds : List (List UInt8)) (g : Bool) : List Wr := ⟨1, wordN insWords op, !(ds.take (wordN insOps op).length).isEmpty || g⟩ :: numsW g (ds.take (wordN insOps op).length)
theorem nums_ok (g : Bool) : ∀ ds : List (List UInt8), (∀ d ∈ ds, numB d = true) → okW (numsW g ds) ∧ ∀ x, (numsW g ds).getLast? = some x → x.gap = g
  | [], _ => ⟨trivial, fun x h => by cases h⟩
  | [d], h => ⟨⟨⟨0, valid_num (h d (by simp)) 0⟩, .inr (.inl rfl), trivial⟩, fun x hx => by cases hx; rfl⟩
  | d :: e :: r, h => by
    obtain ⟨h1, h2⟩ := nums_ok g (e :: r) (fun x hx => h x (by simp [hx]))
    refine ⟨⟨⟨0, valid_num (h d (by simp)) 0⟩, .inl rfl, h1⟩, fun x hx => h2 x ?_⟩
    unfold numsW at hx
    cases hn : numsW g (e :: r) with
    | nil => cases r <;> simp [numsW] at hn
    | cons y l =>
      rw [hn, List.getLast?_cons_cons] at hx
      exact hx
theorem nums_src (g : Bool) : ∀ (ds : List (List UInt8)) (tx : List UInt8), srcOf (⟨1, tx, !ds.isEmpty || g⟩ :: numsW g ds) = tx ++ ds.flatMap (fun d => 32 :: d) ++ (if g then [32] else [])
  | [], tx => by cases g <;> simp [srcOf, numsW]
  | [d], tx => by cases g <;> simp [srcOf, numsW]
  | d :: e :: r, tx => by
    have := nums_src g (e :: r) d
    simp [srcOf, numsW] at this ⊢
    rw [this]
theorem word_valid : ∀ op, 1 ≤ op → op ≤ 25 → ValidT ⟨1, wordN insWords op, 0⟩ := fun op h1 h2 => by
  have h : ((List.range 25).all fun k => match wordN insWords (k + 1) with
      | [] => false
      | b :: r => tokN (b :: r) == (1, (b :: r).length, 0)) = true := by decide
  have h3 := List.all_eq_true.1 h (op - 1) (by simp; omega)
  rw [show op - 1 + 1 = op by omega] at h3
  cases hw : wordN insWords op with
  | nil => rw [hw] at h3; cases h3
  | cons b r =>
    rw [hw] at h3
    have h4 : tokN (b :: r) = (1, (b :: r).length, 0) := eq_of_beq h3
    have := valid_tok b r 0 (by rw [h4])
    rw [h4, List.take_length] at this
    exact this
theorem ins_ok {op : Nat} {ds : List (List UInt8)} (g : Bool) (h1 : 1 ≤ op) (h2 : op ≤ 25) (hd : ∀ d ∈ ds, numB d = true) : okW (insW op ds g) ∧ ∀ x, (insW op ds g).getLast? = some x → x.gap = g := by
  have hd' : ∀ d ∈ ds.take (wordN insOps op).length, numB d = true := fun d h => hd d (List.mem_of_mem_take h)
  unfold insW
  generalize ds.take (wordN insOps op).length = l at *
  obtain ⟨h3, h4⟩ := nums_ok g l hd'
  cases l with
  | nil => exact ⟨⟨⟨0, word_valid op h1 h2⟩, .inr (.inl rfl), trivial⟩, fun x hx => by cases hx; rfl⟩
  | cons d l =>
    refine ⟨⟨⟨0, word_valid op h1 h2⟩, .inl rfl, h3⟩, fun x hx => h4 x ?_⟩
    cases hn : numsW g (d :: l) with
    | nil => cases l <;> simp [numsW] at hn
    | cons y s =>
      rw [hn, List.getLast?_cons_cons] at hx
      exact hx
def preW : List Wr := [⟨1, [109, 111, 100, 117, 108, 101], true⟩, ⟨1, [109], true⟩, ⟨1, [109, 101, 109], true⟩, ⟨2, [49], true⟩, ⟨1, [102, 114, 97, 109, 101], true⟩, ⟨2, [49], true⟩, ⟨3, [123], true⟩, ⟨1, [112, 97, 114, 116], true⟩, ⟨1, [112], true⟩, ⟨1, [112, 101, 114, 105, 111, 100], true⟩, ⟨2, [49], true⟩, ⟨1, [108, 101, 110, 103, 116, 104], true⟩, ⟨2, [49], true⟩, ⟨1, [109, 101, 109], true⟩, ⟨2, [49], true⟩, ⟨3, [123], true⟩, ⟨1, [112, 114, 111, 99], true⟩, ⟨1, [97], true⟩, ⟨1, [112, 114, 105, 111], true⟩, ⟨2, [49], true⟩, ⟨1, [112, 101, 114, 105, 111, 100], true⟩, ⟨2, [48], true⟩, ⟨1, [108, 105, 109, 105, 116], true⟩, ⟨2, [48], true⟩, ⟨3, [123], true⟩]
def endW : List Wr := [⟨3, [59], true⟩, ⟨3, [125], true⟩, ⟨3, [125], true⟩, ⟨3, [125], false⟩]
/-- The instruction with these operands. -/
def insOf (op : Nat) (a b c : Nat) : InsD := ⟨op, if 0 < (wordN insOps op).length then (a : Int) else 0, if 1 < (wordN insOps op).length then (b : Int) else 0, if 2 < (wordN insOps op).length then (c : Int) else 0⟩
def cfgOf (i : InsD) : CfgD := { CfgD.none with modules := [⟨[109], 1, 1, [⟨[112], 1, 1, 1, [], 0, 0, [], [], [⟨[97], 1, 0, 0, [i]⟩]⟩]⟩] }
theorem toks_app : ∀ (l r : List Wr) (p : Nat), toksOf p (l ++ r) = toksOf p l ++ toksOf (p + (srcOf l).length) r
  | [], r, p => rfl
  | x :: l, r, p => by
    show ⟨x.kind, x.text, p⟩ :: toksOf _ (l ++ r) = ⟨x.kind, x.text, p⟩ :: (toksOf _ l ++ _)
    rw [toks_app l r]
    have : p + x.text.length + (if x.gap then 1 else 0) + (srcOf l).length = p + (srcOf (x :: l)).length := by
      show _ = p + (x.text ++ ((if x.gap then [32] else []) ++ srcOf l)).length
      cases x.gap <;> simp <;> omega
    rw [this]
theorem codes_toks (op : Nat) (h1 : 1 ≤ op) (h2 : op ≤ 25) (x y z : List UInt8) (M N : Nat) :
    allCodeP (toksOf 0 (⟨1, [110, 101, 120, 116], false⟩ :: ⟨3, [59], true⟩ :: insW op [x, y, z] false ++ [⟨3, [59], false⟩])) = .ok [⟨19, 0, 0, 0⟩, insOf op (numV x) (numV y) (numV z)] [] ∧
    cfgP (toksOf 0 (preW ++ insW op [x, y, z] false ++ endW)) = .ok (cfgOf (insOf op (numV x) (numV y) (numV z))) [] ∧
    allCodeP (toksOf 0 (insW op [x, y, z] true) ++ [⟨2, [49], M⟩, ⟨3, [59], N⟩]) = .bad 80 [⟨2, [49], M⟩, ⟨3, [59], N⟩] ∧
    allCodeP (toksOf 0 (insW op [x, y, z] false)) = .bad 80 [] := by
  rcases (by omega : op = 1 ∨ op = 2 ∨ op = 3 ∨ op = 4 ∨ op = 5 ∨ op = 6 ∨ op = 7 ∨ op = 8 ∨ op = 9 ∨ op = 10 ∨ op = 11 ∨ op = 12 ∨ op = 13 ∨ op = 14 ∨ op = 15 ∨ op = 16 ∨ op = 17 ∨ op = 18 ∨ op = 19 ∨ op = 20 ∨ op = 21 ∨ op = 22 ∨ op = 23 ∨ op = 24 ∨ op = 25) with rfl | rfl | rfl | rfl | rfl | rfl | rfl | rfl | rfl | rfl | rfl | rfl | rfl | rfl | rfl | rfl | rfl | rfl | rfl | rfl | rfl | rfl | rfl | rfl | rfl
  all_goals exact ⟨by kernel_rfl, by kernel_rfl, by kernel_rfl, by kernel_rfl⟩
end Go.Proofs.YtlngbjphagnloaaGreatDoor
