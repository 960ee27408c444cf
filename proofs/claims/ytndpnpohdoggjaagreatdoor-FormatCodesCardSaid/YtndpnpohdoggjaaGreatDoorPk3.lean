/-
  Merged texts: The lexer as plain functions: the steps of skipN, tokN and lexN; a token's length; the positions of tokens. | lex: (*scanner).skip. | lex: what Atoi and Itoa say of a number, against numB. | lex: number. | parse: num, after. | Deep data in memory: a value that is a slice of rows, whose cells are values or slices again.
-/
import Derived.Test.YtndpnpohdoggjaaGreatDoorPk1
import Derived.Test.YtndpnpohdoggjaaGreatDoorPk2
import Derived.Deep.RegionHeld3
import Derived.Lib.AtoiAll
import Derived.Lib.ItoaNum
import Derived.Shelf.Strconv.ErrVarAll
import Derived.Lib.ItoaLen
import Derived.Maps.AppendAt
import Derived.Deep.AppendLies
namespace Go.Proofs.YtndpnpohdoggjaaGreatDoor
/-- What is left to be lexed, with enough fuel. -/
def lexA (p : Nat) (l : List UInt8) : List Tok × Nat × Nat := lexN (l.length + 1) p l
theorem skipN_le : ∀ (c : Bool) (l : List UInt8), skipN c l ≤ l.length
  | _, [] => by simp [skipN]
  | true, b :: r => by
    unfold skipN
    have h1 := skipN_le false r
    have h2 := skipN_le true r
    split <;> simp only [List.length_cons] <;> omega
  | false, b :: r => by
    unfold skipN
    have h1 := skipN_le false r
    have h2 := skipN_le true r
    split
    · simp only [List.length_cons]; omega
    · split <;> simp only [List.length_cons] <;> omega
theorem runN_le (r : List UInt8) : runN r ≤ r.length := by
  unfold runN
  exact (List.takeWhile_prefix _).length_le
theorem tokN_pos (b : UInt8) (r : List UInt8) (h : (tokN (b :: r)).2.2 = 0) : 1 ≤ (tokN (b :: r)).2.1 := by
  unfold tokN at *
  simp only at *
  split
  · split <;> simp only <;> omega
  · split
    · split <;> simp only <;> omega
    · split
      · simp
      · rename_i h1 h2 h3
        rw [if_neg h1, if_neg h2, if_neg h3] at h
        simp at h
theorem tokN_le (b : UInt8) (r : List UInt8) : (tokN (b :: r)).2.1 ≤ r.length + 1 := by
  unfold tokN
  have := runN_le r
  simp only
  split
  · split <;> simp only <;> omega
  · split
    · split <;> simp only <;> omega
    · split <;> simp
theorem lexN_fuel : ∀ (f g p : Nat) (l : List UInt8), l.length < f → l.length < g → lexN f p l = lexN g p l
  | 0, _, _, _, h, _ => absurd h (by omega)
  | _ + 1, 0, _, _, _, h => absurd h (by omega)
  | f + 1, g + 1, p, l, hf, hg => by
    unfold lexN
    have hd : (l.drop (skipN false l)).length ≤ l.length := by rw [List.length_drop]; omega
    cases h : l.drop (skipN false l) with
    | nil => rfl
    | cons b r =>
      rw [h] at hd
      simp only [List.length_cons] at hd
      simp only
      split
      · rename_i h0
        have hp := tokN_pos b r h0
        have hl : ((b :: r).drop (tokN (b :: r)).2.1).length < l.length := by rw [List.length_drop, List.length_cons]; omega
        rw [lexN_fuel f g _ _ (by omega) (by omega)]
      · rfl
theorem lexA_eq (p : Nat) (l : List UInt8) : lexA p l = match l.drop (skipN false l) with
    | [] => ([], 0, 0)
    | b :: r =>
      if (tokN (b :: r)).2.2 = 0 then
        (⟨(tokN (b :: r)).1, (b :: r).take (tokN (b :: r)).2.1, p + skipN false l⟩ :: (lexA (p + skipN false l + (tokN (b :: r)).2.1) ((b :: r).drop (tokN (b :: r)).2.1)).1, (lexA (p + skipN false l + (tokN (b :: r)).2.1) ((b :: r).drop (tokN (b :: r)).2.1)).2)
      else ([], p + skipN false l, (tokN (b :: r)).2.2) := by
  unfold lexA
  have hd : (l.drop (skipN false l)).length ≤ l.length := by rw [List.length_drop]; omega
  conv => lhs; unfold lexN
  cases h : l.drop (skipN false l) with
  | nil => rfl
  | cons b r =>
    rw [h] at hd
    simp only [List.length_cons] at hd
    simp only
    split
    · rename_i h0
      have hp := tokN_pos b r h0
      have hl : ((b :: r).drop (tokN (b :: r)).2.1).length < l.length := by rw [List.length_drop, List.length_cons]; omega
      rw [lexN_fuel l.length (((b :: r).drop (tokN (b :: r)).2.1).length + 1) _ _ (by omega) (by omega)]
    · rfl
theorem lexA_nil (p : Nat) : lexA p [] = ([], 0, 0) := by rw [lexA_eq]; simp
theorem skipN_t (b : UInt8) (r : List UInt8) : skipN true (b :: r) = 1 + (if b == 10 then skipN false r else skipN true r) := by
  conv => lhs; unfold skipN
  split <;> rfl
theorem skipN_f (b : UInt8) (r : List UInt8) : skipN false (b :: r) = if blankB b then 1 + skipN false r else if b == 35 then 1 + skipN true r else 0 := by
  conv => lhs; unfold skipN
theorem skipN_skip : ∀ (c : Bool) (l : List UInt8), skipN false (l.drop (skipN c l)) = 0
  | true, [] => rfl
  | false, [] => rfl
  | true, b :: r => by
    have h1 := skipN_skip false r
    have h2 := skipN_skip true r
    rw [skipN_t, Nat.add_comm 1, List.drop_succ_cons]
    cases hb : b == 10
    · exact h2
    · exact h1
  | false, b :: r => by
    have h1 := skipN_skip false r
    have h2 := skipN_skip true r
    have e := skipN_f b r
    by_cases hb : blankB b = true
    · rw [if_pos hb] at e
      rw [e, Nat.add_comm 1, List.drop_succ_cons]; exact h1
    · rw [if_neg hb] at e
      by_cases hc : (b == 35) = true
      · rw [if_pos hc] at e
        rw [e, Nat.add_comm 1, List.drop_succ_cons]; exact h2
      · rw [if_neg hc] at e
        rw [e, List.drop_zero, e]
/-- After what is skipped. -/
theorem lexA_skip (p : Nat) (l : List UInt8) : lexA p l = lexA (p + skipN false l) (l.drop (skipN false l)) := by
  have h0 : skipN false (l.drop (skipN false l)) = 0 := skipN_skip false l
  rw [lexA_eq p l, lexA_eq (p + skipN false l), h0]
  simp
/-- What the scanner yields: the tokens, and behind the last one the invalid one, if any, with its error. -/
def elsN : Nat → Nat → List UInt8 → List (Tok × Nat)
  | 0, _, _ => []
  | f + 1, p, l =>
    match l.drop (skipN false l) with
    | [] => []
    | b :: r =>
      (⟨(tokN (b :: r)).1, (b :: r).take (tokN (b :: r)).2.1, p + skipN false l⟩, (tokN (b :: r)).2.2) ::
        (if (tokN (b :: r)).2.2 = 0 then elsN f (p + skipN false l + (tokN (b :: r)).2.1) ((b :: r).drop (tokN (b :: r)).2.1) else [])
def elsA (p : Nat) (l : List UInt8) : List (Tok × Nat) := elsN (l.length + 1) p l
theorem elsN_fuel : ∀ (f g p : Nat) (l : List UInt8), l.length < f → l.length < g → elsN f p l = elsN g p l
  | 0, _, _, _, h, _ => absurd h (by omega)
  | _ + 1, 0, _, _, _, h => absurd h (by omega)
  | f + 1, g + 1, p, l, hf, hg => by
    unfold elsN
    have hd : (l.drop (skipN false l)).length ≤ l.length := by rw [List.length_drop]; omega
    cases h : l.drop (skipN false l) with
    | nil => rfl
    | cons b r =>
      rw [h] at hd
      simp only [List.length_cons] at hd
      simp only
      split
      · rename_i h0
        have hp := tokN_pos b r h0
        have hl : ((b :: r).drop (tokN (b :: r)).2.1).length < l.length := by rw [List.length_drop, List.length_cons]; omega
        rw [elsN_fuel f g _ _ (by omega) (by omega)]
      · rfl
theorem elsA_eq (p : Nat) (l : List UInt8) : elsA p l = match l.drop (skipN false l) with
    | [] => []
    | b :: r =>
      (⟨(tokN (b :: r)).1, (b :: r).take (tokN (b :: r)).2.1, p + skipN false l⟩, (tokN (b :: r)).2.2) ::
        (if (tokN (b :: r)).2.2 = 0 then elsA (p + skipN false l + (tokN (b :: r)).2.1) ((b :: r).drop (tokN (b :: r)).2.1) else []) := by
  unfold elsA
  have hd : (l.drop (skipN false l)).length ≤ l.length := by rw [List.length_drop]; omega
  conv => lhs; unfold elsN
  cases h : l.drop (skipN false l) with
  | nil => rfl
  | cons b r =>
    rw [h] at hd
    simp only [List.length_cons] at hd
    simp only
    split
    · rename_i h0
      have hp := tokN_pos b r h0
      have hl : ((b :: r).drop (tokN (b :: r)).2.1).length < l.length := by rw [List.length_drop, List.length_cons]; omega
      rw [elsN_fuel l.length (((b :: r).drop (tokN (b :: r)).2.1).length + 1) _ _ (by omega) (by omega)]
    · rfl
theorem elsA_skip (p : Nat) (l : List UInt8) : elsA p l = elsA (p + skipN false l) (l.drop (skipN false l)) := by
  have h0 : skipN false (l.drop (skipN false l)) = 0 := skipN_skip false l
  rw [elsA_eq p l, elsA_eq (p + skipN false l), h0]
  simp
/-- The result of Lex out of what the scanner yields. -/
theorem lex_els : ∀ (n p : Nat) (l : List UInt8), l.length ≤ n → ((lexA p l).2.2 = 0 → elsA p l = (lexA p l).1.map (·, 0) ∧ (lexA p l).2.1 = 0) ∧
    ((lexA p l).2.2 ≠ 0 → ∃ t : Tok, elsA p l = (lexA p l).1.map (·, 0) ++ [(t, (lexA p l).2.2)] ∧ t.at_ = (lexA p l).2.1)
  | n, p, l, hn => by
    rw [lexA_eq, elsA_eq]
    have hd : (l.drop (skipN false l)).length ≤ l.length := by rw [List.length_drop]; omega
    cases h : l.drop (skipN false l) with
    | nil => simp
    | cons b r =>
      rw [h] at hd
      simp only [List.length_cons] at hd
      simp only
      by_cases h0 : (tokN (b :: r)).2.2 = 0
      · have hp := tokN_pos b r h0
        have hl : ((b :: r).drop (tokN (b :: r)).2.1).length < l.length := by rw [List.length_drop, List.length_cons]; omega
        cases n with
        | zero => omega
        | succ n =>
          have ih := lex_els n (p + skipN false l + (tokN (b :: r)).2.1) ((b :: r).drop (tokN (b :: r)).2.1) (by omega)
          rw [if_pos h0, if_pos h0]
          refine ⟨fun he => ?_, fun he => ?_⟩
          · obtain ⟨i1, i2⟩ := ih.1 he
            exact ⟨by rw [i1]; simp [h0], i2⟩
          · obtain ⟨t, i1, i2⟩ := ih.2 he
            exact ⟨t, by rw [i1]; simp [h0], i2⟩
      · rw [if_neg h0, if_neg h0]
        exact ⟨fun he => absurd he h0, fun _ => ⟨_, rfl, rfl⟩⟩
theorem elsA_errs : ∀ (n p : Nat) (l : List UInt8), l.length ≤ n → ∀ pre x suf, elsA p l = pre ++ x :: suf → (∀ y ∈ pre, y.2 = 0) ∧ (x.2 ≠ 0 → suf = [])
  | n, p, l, hn, pre, x, suf, he => by
    have h0 := lex_els n p l hn
    by_cases hz : (lexA p l).2.2 = 0
    · have h1 := (h0.1 hz).1
      rw [h1] at he
      have ha : ∀ y ∈ pre ++ x :: suf, y.2 = 0 := by
        rw [← he]; intro y hy
        obtain ⟨t, _, rfl⟩ := List.mem_map.1 hy
        rfl
      exact ⟨fun y hy => ha y (by simp [hy]), fun hx => absurd (ha x (by simp)) hx⟩
    · obtain ⟨t, h1, _⟩ := h0.2 hz
      rw [h1] at he
      rcases List.eq_nil_or_concat suf with rfl | ⟨suf, z, rfl⟩
      · refine ⟨fun y hy => ?_, fun _ => rfl⟩
        have hi := List.append_inj' he.symm (by simp)
        rw [hi.1] at hy
        obtain ⟨t, _, rfl⟩ := List.mem_map.1 hy
        rfl
      · have he2 : List.map (fun x => (x, 0)) (lexA p l).1 ++ [(t, (lexA p l).2.2)] = (pre ++ x :: suf) ++ [z] := by rw [he]; simp
        have hi := (List.append_inj' he2 (by simp)).1
        have ha : ∀ y ∈ pre ++ x :: suf, y.2 = 0 := by
          rw [← hi]; intro y hy
          obtain ⟨t, _, rfl⟩ := List.mem_map.1 hy
          rfl
        exact ⟨fun y hy => ha y (by simp [hy]), fun hx => absurd (ha x (by simp)) hx⟩
end Go.Proofs.YtndpnpohdoggjaaGreatDoor
namespace Go.Proofs.YtndpnpohdoggjaaGreatDoor
open Go.RowKit
open Go.MuLone (run_callFunc_enter)
def blankT : UInt8 → Bool := amgB ⟨#[32, 9, 10, 13]⟩
def hashT : UInt8 → Bool := amgB ⟨#[35]⟩
def lineT : UInt8 → Bool := fun b => b != 10
theorem blankT_eq (b : UInt8) : blankT b = blankB b := by
  show [32, 9, 10, 13].contains b = blankB b
  simp only [blankB, List.contains_cons, List.contains_nil, Bool.or_false, Bool.or_assoc]
theorem hashT_eq (b : UInt8) : hashT b = (b == 35) := by
  show [35].contains b = (b == 35)
  simp only [List.contains_cons, List.contains_nil, Bool.or_false]
/-- Where what is skipped from j on ends. -/
def skipTo (src : ByteArray) (j : Nat) : Nat := j + skipN false ((toksL src).drop j)
theorem drop_run (p : UInt8 → Bool) (l : List UInt8) : l.drop (l.takeWhile p).length = l.dropWhile p := by
  conv => lhs; arg 2; rw [← List.takeWhile_append_dropWhile (p := p) (l := l)]
  rw [List.drop_left]
theorem skip_blanks : ∀ l : List UInt8, skipN false l = (l.takeWhile blankT).length + skipN false (l.dropWhile blankT)
  | [] => rfl
  | b :: r => by
    by_cases hb : blankT b = true
    · rw [List.takeWhile_cons, if_pos hb, List.dropWhile_cons, if_pos hb, List.length_cons, skipN_f, if_pos (by rw [← blankT_eq]; exact hb), skip_blanks r]
      omega
    · rw [List.takeWhile_cons, if_neg hb, List.dropWhile_cons, if_neg hb]
      simp
theorem skip_line : ∀ l : List UInt8, skipN true l = (l.takeWhile lineT).length + skipN false (l.dropWhile lineT)
  | [] => rfl
  | b :: r => by
    by_cases hb : lineT b = true
    · have h10 : (b == 10) = false := by simpa [lineT] using hb
      rw [List.takeWhile_cons, if_pos hb, List.dropWhile_cons, if_pos hb, List.length_cons, skipN_t, h10, skip_line r]
      simp; omega
    · have h10 : b = 10 := by simpa [lineT] using hb
      rw [List.takeWhile_cons, if_neg hb, List.dropWhile_cons, if_neg hb, skipN_t, skipN_f, h10]
      simp [blankB]
theorem runTo_le (p : UInt8 → Bool) (src : ByteArray) (j : Nat) (hj : j ≤ src.size) : j ≤ runTo p src j ∧ runTo p src j ≤ src.size := by
  unfold runTo
  have h := (List.takeWhile_prefix (l := (toksL src).drop j) p).length_le
  have hl : (toksL src).length = src.size := by simp [toksL]
  rw [List.length_drop, hl] at h
  exact ⟨by omega, by omega⟩
theorem drop_runTo (p : UInt8 → Bool) (src : ByteArray) (j : Nat) : (toksL src).drop (runTo p src j) = ((toksL src).drop j).dropWhile p := by
  unfold runTo
  rw [← List.drop_drop, drop_run]
theorem skipTo_blank (src : ByteArray) (j : Nat) : skipTo src (runTo blankT src j) = skipTo src j := by
  unfold skipTo
  rw [drop_runTo, skip_blanks ((toksL src).drop j)]
  unfold runTo
  omega
theorem skipTo_hash (src : ByteArray) (j : Nat) (hj : j < src.size) (h : src[j] = 35) : skipTo src (runTo lineT src j) = skipTo src j := by
  unfold skipTo
  rw [drop_runTo]
  unfold runTo
  rw [toksL_drop src j hj, h, skipN_f, List.takeWhile_cons, List.dropWhile_cons]
  simp only [show blankB 35 = false from by decide, show lineT 35 = true from by decide, show ((35 : UInt8) == 35) = true from by decide]
  rw [skip_line]
  simp; omega
theorem runTo_stop (p : UInt8 → Bool) (src : ByteArray) (j : Nat) (hj : runTo p src j < src.size) : p src[runTo p src j] = false := by
  have h := drop_runTo p src j
  rw [toksL_drop src _ hj] at h
  have h2 := List.head?_dropWhile_not p ((toksL src).drop j)
  rw [← h] at h2
  simpa using h2
theorem skipTo_stop (src : ByteArray) (j : Nat) (hb : (j < src.size) → ∃ h : j < src.size, blankT src[j] = false ∧ hashT src[j] = false) (_hj : j ≤ src.size) : skipTo src j = j := by
  unfold skipTo
  rcases Nat.lt_or_ge j src.size with h | h
  · obtain ⟨_, h1, h2⟩ := hb h
    rw [toksL_drop src j h, skipN_f, ← blankT_eq, h1, ← hashT_eq, h2]
    simp
  · rw [List.drop_eq_nil_of_le (by simpa [toksL] using h)]
    simp [skipN]
set_option maxRecDepth 100000 in
set_option maxHeartbeats 400000 in
theorem line_any (b : UInt8) (W : World) : Calls Tryz.prog 173 #[.int .u8 (b.toNat : Int)] W fun e W' => e = .returned (.bool (lineT b)) ∧ Below W.heap.size W W' := by
  have HL : Hid (lineT b = !decide (b.toNat = 10)) := by
    show lineT b = _
    unfold lineT
    rw [Bool.eq_iff_iff]
    simp [bne_iff_ne, ← UInt8.toNat_inj]
  generalize b.toNat = n at *
  by_cases h : n = 10
  · have HR := hide (show lineT b = false by rw [HL.out]; simp [h])
    have h1 : ((n : Int) != 10) = false := by simp; omega
    clear h
    go_enter Tryz.func173, Tryz.ntmps173
    go_wp2_with fail
    go_ret
    exact ⟨by rw [HR.out]; simp at h1; simp, Below.refl _ _⟩
  · have HR := hide (show lineT b = true by rw [HL.out]; simp [h])
    have h1 : ((n : Int) != 10) = true := by simp; omega
    clear h
    go_enter Tryz.func173, Tryz.ntmps173
    go_wp2_with fail
    go_ret
    exact ⟨by rw [HR.out]; simp at h1; simp, Below.refl _ _⟩
theorem line_is (w : World) : IsT (fun _ => False) w 173 #[] lineT :=
  ⟨fun k h => h.elim, fun args W => run_callFunc_enter (c := ((Tryz.f173).body.getD .skip)) Tryz.func173 (by kernel_rfl) (by kernel_rfl) args W, fun W _ b => line_any b W⟩
theorem AtJ.belowD {sb j : Nat} {a b c : World} (h : AtJ sb j a b) (hsb : sb < a.heap.size) (k : Below b.drew.heap.size b.drew c) : AtJ sb j a c :=
  h.below hsb (((Below.refl _ _).drew).trans k)
/-- What holds at the head of skip's loop. -/
structure SkR (src : ByteArray) (k j : Nat) : Prop where
  le : j ≤ src.size
  to : skipTo src j = skipTo src k
  stop : ∀ h : j < src.size, blankT src[j] = false
theorem SkR.start (src : ByteArray) (k : Nat) (hk : k ≤ src.size) : SkR src k (runTo blankT src k) :=
  ⟨(runTo_le _ _ _ hk).2, skipTo_blank src k, fun h => runTo_stop _ _ _ h⟩
theorem SkR.step {src : ByteArray} {k j : Nat} (h : SkR src k j) (hj : j < src.size) (hh : hashT src[j] = true) : SkR src k (runTo blankT src (runTo lineT src j)) ∧ j < runTo blankT src (runTo lineT src j) := by
  have e : src[j] = 35 := by rw [hashT_eq] at hh; simpa using hh
  have h1 := runTo_yes lineT src j hj (by rw [e]; rfl)
  have h2 := runTo_le lineT src (j + 1) hj
  rw [h1] at h2
  have h3 := runTo_le blankT src (runTo lineT src j) h2.2
  have h4 := SkR.start src (runTo lineT src j) h2.2
  exact ⟨⟨h3.2, h4.to.trans ((skipTo_hash src j hj e).trans h.to), h4.stop⟩, by omega⟩
theorem SkR.done {src : ByteArray} {k j : Nat} (h : SkR src k j) (hh : ∀ hj : j < src.size, hashT src[j] = false) : skipTo src k = j := by
  rw [← h.to]
  exact skipTo_stop src j (fun hj => ⟨hj, h.stop hj, hh hj⟩) h.le
theorem far_of {sb : Nat} {w : World} (h : sb < w.heap.size) : Hid (∀ i, (fun k => k = w.heap.size) i → i ≠ sb) := hide fun i hi e => by have hi' : i = w.heap.size := hi; omega
theorem more_v (sb f k : Nat) (caps : Array Value) (p : UInt8 → Bool) (F : Nat → Prop) (src : ByteArray) (W : World) (c0 : W.cell? ⟨sb, 0, none⟩ = some (.string src)) (c1 : W.cell? ⟨sb, 1, none⟩ = some (.int .i64 (k : Int))) (hk : k < src.size) (hs : src.size ≤ 1099511627776) (hT : Hid (IsT F W f caps p)) (v : Bool) (hv : p src[k] = v) :
    Calls Tryz.prog 172 #[.pointer (some ⟨sb, 0, none⟩), .func (.func f) #[] caps] W fun e W' => e = .returned (.bool v) ∧ Below W.heap.size W W' := by
  subst hv
  exact more_yes sb f k caps p F src W c0 c1 hk hs hT
set_option maxRecDepth 100000 in
set_option maxHeartbeats 1000000 in
theorem skip_any (sb k : Nat) (src : ByteArray) (W : World) (c0 : Hid (W.cell? ⟨sb, 0, none⟩ = some (.string src))) (c1 : Hid (W.cell? ⟨sb, 1, none⟩ = some (.int .i64 (k : Int)))) (cf : Hid (W.frozen? ⟨sb, 1, none⟩ = false)) (hk : k ≤ src.size) (hs : src.size ≤ 1099511627776) :
    Calls Tryz.prog 127 #[.pointer (some ⟨sb, 0, none⟩)] W fun e W' => e = .returned (.tuple #[]) ∧ AtJ sb (skipTo src k) W W' := by
  have hsb : sb < W.heap.size := World.block_lt_of_cell? W ⟨sb, 0, none⟩ c0.out
  have HA := hide (fun s w => among_any s w)
  have HJ0 := hide (AtJ.start c1.out cf.out)
  go_enter Tryz.func127, Tryz.ntmps127
  go_wp2_with fail
  go_region_held3 (fun w' => True) (trivial)
    (first
      | (go_at_call 125; refine (HA.out _ _).mono ?_; rintro e w1 ⟨k1, rfl, hT1, hb1⟩; have HT1 := hide hT1; have HJ1 := hide (HJ0.out.belowD hsb hb1); clear hT1 hb1)
      | (go_at_call 171; refine (while_any sb _ k _ _ _ src _ (hide ((HJ1.out.rest 0 (by decide)).trans c0.out)) (hide HJ1.out.here) (hide HJ1.out.free) (by assumption) hs HT1 (far_of (Nat.lt_of_lt_of_le hsb HJ0.out.kept.size))).mono ?_; rintro e w2 ⟨rfl, hJ2⟩; have HJ2 := hide (HJ1.out.trans hJ2); clear hJ2))
  go_wp2_with fail
  go_loopw [] (fun wr => ∃ j : Nat, SkR src k j ∧ AtJ sb j W wr) (fun wr => src.size - atOf sb wr)
  case atStart => exact ⟨_, SkR.start src k hk, HJ2.out⟩
  case round =>
    obtain ⟨j, hR, hJ⟩ := hrel
    have HR := hide hR
    have HJ := hide hJ
    have hj : j ≤ src.size := hR.le
    clear hR hJ
    by_cases hlt : j < src.size
    · cases hh : hashT src[j]
      · have HD := hide (HR.out.done (fun _ => hh))
        have HH : Hid (amgB ⟨#[35]⟩ src[j] = false) := hide hh
        clear hh
        go_wp2_with fail
        go_region_held3 (fun w' => True) (trivial)
          (first
            | (go_at_call 125; refine (HA.out _ _).mono ?_; rintro e w1 ⟨k1, rfl, hT1, hb1⟩; have HT1 := hide hT1; have HJ1 := hide (HJ.out.belowD hsb hb1); clear hT1 hb1)
            | (go_at_call 172; refine (more_v sb _ j _ _ _ src _ ((HJ1.out.rest 0 (by decide)).trans c0.out) HJ1.out.here hlt hs HT1 false HH.out).mono ?_; rintro e w2 ⟨rfl, hb2⟩; have HJ2 := hide (HJ1.out.below hsb hb2); clear hb2))
        go_wp2_with fail
        go_end0
        exact ⟨rfl, by rw [HD.out]; exact HJ2.out⟩
      · have HS := hide (HR.out.step hlt hh)
        have HH : Hid (amgB ⟨#[35]⟩ src[j] = true) := hide hh
        have hr1 := (runTo_le lineT src j hj).2
        clear hh
        go_wp2_with fail
        go_region_held3 (fun w' => True) (trivial)
          (first
            | (go_at_call 125; refine (HA.out _ _).mono ?_; rintro e w1 ⟨k1, rfl, hT1, hb1⟩; have HT1 := hide hT1; have HJ1 := hide (HJ.out.belowD hsb hb1); clear hT1 hb1)
            | (go_at_call 172; refine (more_v sb _ j _ _ _ src _ ((HJ1.out.rest 0 (by decide)).trans c0.out) HJ1.out.here hlt hs HT1 true HH.out).mono ?_; rintro e w2 ⟨rfl, hb2⟩; have HJ2 := hide (HJ1.out.below hsb hb2); clear hb2))
        clear HJ1 HT1
        go_wp2_with fail
        refine (while_any sb _ j _ _ _ src _ (hide ((HJ2.out.rest 0 (by decide)).trans c0.out)) (hide HJ2.out.here) (hide HJ2.out.free) hj hs (hide (line_is _)) (hide (fun i hi => hi.elim))).mono ?_
        rintro e w3 ⟨rfl, hJ3⟩
        have HJ3 := hide (HJ2.out.trans hJ3)
        clear hJ3
        go_wp2_with fail
        go_region_held3 (fun w' => True) (trivial)
          (first
            | (go_at_call 125; refine (HA.out _ _).mono ?_; rintro e w1 ⟨k1, rfl, hT1, hb1⟩; have HT1 := hide hT1; have HJ1 := hide (HJ3.out.belowD hsb hb1); clear hT1 hb1)
            | (go_at_call 171; refine (while_any sb _ (runTo lineT src j) _ _ _ src _ (hide ((HJ1.out.rest 0 (by decide)).trans c0.out)) (hide HJ1.out.here) (hide HJ1.out.free) (by assumption) hs HT1 (far_of (Nat.lt_of_lt_of_le hsb HJ3.out.kept.size))).mono ?_; rintro e w2 ⟨rfl, hJ2⟩; have HJ4 := hide (HJ1.out.trans hJ2); clear hJ2))
        go_wp2_with fail
        have m2 : atOf sb wr = j := by unfold atOf; rw [HJ.out.here]; simp [intOf]
        have m1 : atOf sb w2 = runTo blankT src (runTo lineT src j) := by unfold atOf; rw [HJ4.out.here]; simp [intOf]; rfl
        have HM := hide (show src.size - atOf sb w2 < src.size - atOf sb wr by rw [m1, m2]; have := HS.out.2; omega)
        clear m1 m2
        go_roundw
        case rel => exact ⟨_, HS.out.1, HJ4.out⟩
        case measure => exact HM.out
    · have HD := hide (HR.out.done (fun h => absurd h hlt))
      go_wp2_with fail
      go_region_held3 (fun w' => True) (trivial)
        (first
          | (go_at_call 125; refine (HA.out _ _).mono ?_; rintro e w1 ⟨k1, rfl, hT1, hb1⟩; have HT1 := hide hT1; have HJ1 := hide (HJ.out.belowD hsb hb1); clear hT1 hb1)
          | (go_at_call 172; refine (more_end sb j _ src _ ((HJ1.out.rest 0 (by decide)).trans c0.out) HJ1.out.here (Nat.le_of_not_lt hlt) hs).mono ?_; rintro e w2 ⟨rfl, hb2⟩; have HJ2 := hide (HJ1.out.below hsb hb2); clear hb2))
      go_wp2_with fail
      go_end0
      exact ⟨rfl, by rw [HD.out]; exact HJ2.out⟩
end Go.Proofs.YtndpnpohdoggjaaGreatDoor
namespace Go.Proofs.YtndpnpohdoggjaaGreatDoor
open Go
/-- What the program's test says of a string. -/
def numC (s : List UInt8) : Bool := match Lib.atoiAll s with
  | .ok v => decide (v ≤ 1073741824) && (Lib.itoa v == s)
  | _ => false
def foldV (a : Nat) (s : List UInt8) : Nat := s.foldl (fun n b => n * 10 + digV b) a
theorem foldV_le : ∀ (s : List UInt8) (a : Nat), a ≤ foldV a s
  | [], a => Nat.le_refl _
  | b :: r, a => by
    have := foldV_le r (a * 10 + digV b)
    show a ≤ foldV (a * 10 + digV b) r
    omega
theorem digitB_iff (b : UInt8) : digitB b = true ↔ 48 ≤ b.toNat ∧ b.toNat ≤ 57 := by simp [digitB]
theorem parse_ok : ∀ (s : List UInt8) (a u : Nat), Lib.parseUint10 a s = .ok u → s.all digitB = true ∧ u = foldV a s
  | [], a, u, h => by
    simp only [Lib.parseUint10] at h
    injection h with h
    exact ⟨rfl, h.symm⟩
  | b :: r, a, u, h => by
    simp only [Lib.parseUint10] at h
    split at h
    · rename_i hd
      split at h
      · cases h
      · split at h
        · cases h
        · obtain ⟨h1, h2⟩ := parse_ok r _ u h
          exact ⟨by rw [List.all_cons, h1, (digitB_iff b).2 hd]; rfl, h2⟩
    · cases h
theorem ok_parse : ∀ (s : List UInt8) (a : Nat), s.all digitB = true → foldV a s ≤ 1073741824 → Lib.parseUint10 a s = .ok (foldV a s)
  | [], a, _, _ => rfl
  | b :: r, a, h, hv => by
    rw [List.all_cons, Bool.and_eq_true] at h
    have hd := (digitB_iff b).1 h.1
    have e : foldV a (b :: r) = foldV (a * 10 + digV b) r := rfl
    rw [e] at hv ⊢
    have h2 := foldV_le r (a * 10 + digV b)
    have ih := ok_parse r (a * 10 + digV b) h.2 hv
    unfold digV at *
    simp only [Lib.parseUint10]
    rw [if_pos hd, if_neg (by omega), if_neg (by omega)]
    exact ih
theorem dec_eq (u : Nat) : Lib.decDigits u = if u < 10 then [(48 + u).toUInt8] else Lib.decDigits (u / 10) ++ [(48 + u % 10).toUInt8] := by
  conv => lhs; unfold Lib.decDigits
  split <;> rfl
theorem ofdig (b : UInt8) (h : digitB b = true) : (48 + digV b).toUInt8 = b := by
  have hd := (digitB_iff b).1 h
  unfold digV
  rw [show 48 + (b.toNat - 48) = b.toNat from by omega]
  simp
theorem digV_lt (b : UInt8) (h : digitB b = true) : digV b < 10 := by
  have hd := (digitB_iff b).1 h
  unfold digV; omega
theorem foldV_snoc (a : Nat) (s : List UInt8) (d : UInt8) : foldV a (s ++ [d]) = foldV a s * 10 + digV d := by simp [foldV]
theorem foldV_pos (b : UInt8) (r : List UInt8) (hb : digitB b = true) (h0 : b ≠ 48) : 1 ≤ foldV 0 (b :: r) := by
  have h := foldV_le r (0 * 10 + digV b)
  have hd := (digitB_iff b).1 hb
  have hn : b.toNat ≠ 48 := fun e => h0 (UInt8.toNat_inj.1 e)
  show 1 ≤ foldV (0 * 10 + digV b) r
  unfold digV at *
  omega
theorem dec_num : ∀ (n : Nat) (b : UInt8) (r : List UInt8), r.length ≤ n → (b :: r).all digitB = true → (r = [] ∨ b ≠ 48) → Lib.decDigits (foldV 0 (b :: r)) = b :: r
  | n, b, r, hn, ha, h0 => by
    rcases List.eq_nil_or_concat r with rfl | ⟨r', d, rfl⟩
    · rw [List.all_cons, Bool.and_eq_true] at ha
      have hv : foldV 0 [b] = digV b := by simp [foldV]
      have := digV_lt b ha.1
      rw [hv, dec_eq, if_pos this, ofdig b ha.1]
    · cases n with
      | zero => simp at hn
      | succ n =>
        have hb : b ≠ 48 := by rcases h0 with h0 | h0; simp at h0; exact h0
        have ha2 : (b :: r').all digitB = true ∧ digitB d = true := by simpa [List.all_cons, List.all_append, Bool.and_eq_true, and_assoc] using ha
        have hbd : digitB b = true := by have := ha2.1; rw [List.all_cons, Bool.and_eq_true] at this; exact this.1
        have ih := dec_num n b r' (by simp at hn; omega) ha2.1 (.inr hb)
        have hp := foldV_pos b r' hbd hb
        have hd := digV_lt d ha2.2
        have e : b :: r'.concat d = (b :: r') ++ [d] := by rw [List.concat_eq_append]; rfl
        rw [e, foldV_snoc, dec_eq, if_neg (by omega), show (foldV 0 (b :: r') * 10 + digV d) / 10 = foldV 0 (b :: r') from by omega, show (foldV 0 (b :: r') * 10 + digV d) % 10 = digV d from by omega, ih, ofdig d ha2.2]
theorem dec_head : ∀ (n u : Nat), u ≤ n → 0 < u → ∃ b r, Lib.decDigits u = b :: r ∧ b ≠ 48
  | n, u, hn, h => by
    by_cases h10 : u < 10
    · refine ⟨_, _, by rw [dec_eq, if_pos h10], fun e => ?_⟩
      have := congrArg UInt8.toNat e
      simp at this
      omega
    · cases n with
      | zero => omega
      | succ n =>
        obtain ⟨b, r, e, hb⟩ := dec_head n (u / 10) (by omega) (by omega)
        exact ⟨b, r ++ [(48 + u % 10).toUInt8], by rw [dec_eq, if_neg h10, e]; rfl, hb⟩
theorem atoi_dig (b : UInt8) (r : List UInt8) (hb : digitB b = true) (v : Int) (h : Lib.atoiAll (b :: r) = .ok v) : ∃ u : Nat, Lib.parseUint10 0 (b :: r) = .ok u ∧ v = u := by
  have hd := (digitB_iff b).1 hb
  have h1 : ¬ (b.toNat = 43 ∨ b.toNat = 45) := by omega
  have h2 : ¬ b.toNat = 45 := by omega
  unfold Lib.atoiAll Lib.parseMag at h
  simp only [h1, if_false, reduceCtorEq] at h
  cases hp : Lib.parseUint10 0 (b :: r) with
  | ok u =>
    rw [hp] at h
    simp only [h2, not_false_eq_true, true_and, false_and, if_false] at h
    split at h
    · cases h
    · injection h with h
      exact ⟨u, rfl, h.symm⟩
  | _ => rw [hp] at h; cases h
theorem dig_atoi (b : UInt8) (r : List UInt8) (hb : digitB b = true) (u : Nat) (hp : Lib.parseUint10 0 (b :: r) = .ok u) (hu : u < 9223372036854775808) : Lib.atoiAll (b :: r) = .ok (u : Int) := by
  have hd := (digitB_iff b).1 hb
  have h1 : ¬ (b.toNat = 43 ∨ b.toNat = 45) := by omega
  have h2 : ¬ b.toNat = 45 := by omega
  unfold Lib.atoiAll Lib.parseMag
  simp only [h1, if_false, reduceCtorEq]
  rw [hp]
  simp only [h2, not_false_eq_true, true_and, false_and, if_false]
  rw [if_neg (by omega)]
theorem numC_eq (b : UInt8) (r : List UInt8) (hb : digitB b = true) : numC (b :: r) = numB (b :: r) := by
  rw [Bool.eq_iff_iff]
  have hv : numV (b :: r) = foldV 0 (b :: r) := rfl
  constructor
  · intro h
    unfold numC at h
    cases hx : Lib.atoiAll (b :: r) with
    | ok v =>
      rw [hx] at h
      obtain ⟨u, hp, rfl⟩ := atoi_dig b r hb v hx
      obtain ⟨h1, h2⟩ := parse_ok _ _ _ hp
      simp only [Bool.and_eq_true, decide_eq_true_eq, beq_iff_eq] at h
      have hi : Lib.itoa (u : Int) = Lib.decDigits u := by unfold Lib.itoa; rw [if_neg (by omega)]; simp
      rw [hi] at h
      unfold numB
      rw [h1, hv, ← h2]
      have hu : u ≤ 1073741824 := by omega
      cases r with
      | nil => simp [hu]
      | cons c r =>
        have hz : b ≠ 48 := by
          intro e
          subst e
          by_cases hu0 : u = 0
          · subst hu0
            have := h.2
            rw [dec_eq, if_pos (by decide)] at this
            simp at this
          · obtain ⟨b', r', e, hb'⟩ := dec_head u u (Nat.le_refl _) (by omega)
            rw [e] at h
            exact hb' (by have := h.2; injection this)
        simp [hu, hz]
    | _ => rw [hx] at h; cases h
  · intro h
    unfold numB at h
    simp only [Bool.and_eq_true, decide_eq_true_eq] at h
    obtain ⟨⟨h1, h2⟩, h3⟩ := h
    rw [hv] at h3
    have hp := ok_parse (b :: r) 0 h1 h3
    unfold numC
    rw [dig_atoi b r hb _ hp (by omega)]
    simp only [Bool.and_eq_true, decide_eq_true_eq, beq_iff_eq]
    refine ⟨by omega, ?_⟩
    have hi : Lib.itoa (foldV 0 (b :: r) : Int) = Lib.decDigits (foldV 0 (b :: r)) := by unfold Lib.itoa; rw [if_neg (by omega)]; simp
    rw [hi]
    refine dec_num r.length b r (Nat.le_refl _) h1 ?_
    cases r with
    | nil => exact .inl rfl
    | cons c r => right; simpa using h2
end Go.Proofs.YtndpnpohdoggjaaGreatDoor
namespace Go.Proofs.YtndpnpohdoggjaaGreatDoor
open Go.RowKit
theorem gTab : Tryz.prog.globalNamed "internal/strconv.uint64pow10" = some 5 := by kernel_rfl
theorem gErrS : Tryz.prog.globalNamed "strconv.ErrSyntax" = some 3 := by kernel_rfl
theorem gErrR : Tryz.prog.globalNamed "strconv.ErrRange" = some 4 := by kernel_rfl
/-- What the calls of the library ask of the world. -/
structure Env (w : World) : Prop where
  tab : Lib.TabIs Tryz.prog w "internal/strconv.uint64pow10" .u64 Lib.pow10Tab
  errS : ∃ tp p, w.var? Tryz.prog "strconv.ErrSyntax" = some #[.iface tp p]
  errR : ∃ tp p, w.var? Tryz.prog "strconv.ErrRange" = some #[.iface tp p]
  big : 5 < w.heap.size ∧ 3 < w.heap.size ∧ 4 < w.heap.size
theorem Env.keptB {B : Nat} {w w' : World} (h : Env w) (hb : Below B w w') (hB : 6 ≤ B) : Env w' := by
  obtain ⟨t1, p1, h1⟩ := h.errS
  obtain ⟨t2, p2, h2⟩ := h.errR
  obtain ⟨b1, b2, b3⟩ := h.big
  refine ⟨?_, ⟨t1, p1, var?_below hb gErrS (by omega) h1⟩, ⟨t2, p2, var?_below hb gErrR (by omega) h2⟩, Nat.lt_of_lt_of_le b1 hb.size, Nat.lt_of_lt_of_le b2 hb.size, Nat.lt_of_lt_of_le b3 hb.size⟩
  have ht := h.tab
  unfold Lib.TabIs at ht ⊢
  exact var?_below hb gTab (by omega) ht
theorem Env.kept {w w' : World} (h : Env w) (hb : Below w.heap.size w w') : Env w' := by
  obtain ⟨t1, p1, h1⟩ := h.errS
  obtain ⟨t2, p2, h2⟩ := h.errR
  obtain ⟨b1, b2, b3⟩ := h.big
  refine ⟨?_, ⟨t1, p1, var?_below hb gErrS b2 h1⟩, ⟨t2, p2, var?_below hb gErrR b3 h2⟩, Nat.lt_of_lt_of_le b1 hb.size, Nat.lt_of_lt_of_le b2 hb.size, Nat.lt_of_lt_of_le b3 hb.size⟩
  have ht := h.tab
  unfold Lib.TabIs at ht ⊢
  exact var?_below hb gTab b1 ht
theorem below_grow {w : World} (k : Nat) (os : Array Obj) : Below w.heap.size w (Go.Sort.grow (w.drewN k) os) := by
  refine ⟨rfl, rfl, rfl, ?_, fun i hi => ?_⟩
  · show _ ≤ (w.heap ++ os).size; simp
  · show (w.heap ++ os)[i]? = _; rw [Array.getElem?_append_left hi]
/-- Itoa: the numeral; nothing that was there has turned. -/
theorem itoa_any (n : Int) (w : World) (hE : Env w) (h0 : -9223372036854775808 ≤ n) (h1 : n ≤ 9223372036854775807) : Calls Tryz.prog 86 #[.int .i64 n] w fun e w' => e = .returned (.string ⟨(Lib.itoa n).toArray⟩) ∧ Below w.heap.size w w' :=
  (Tryz.strconv_Itoa n h0 h1 w hE.tab).mono fun _ _ ⟨h, k, os, hw⟩ => ⟨h, by rw [hw]; exact below_grow k os⟩
theorem atoi_no (s : ByteArray) (hs : s.size ≤ 1099511627776) (w : World) (hE : Env w) (hno : ∀ v, Lib.atoiAll s.data.toList ≠ .ok v) :
    Calls Tryz.prog 133 #[.string s] w fun e w' => ∃ v N, e = .returned (.tuple #[.int .i64 v, .iface 269 (.pointer (some ⟨N, 0, none⟩))]) ∧ Below w.heap.size w w' := by
  obtain ⟨t1, p1, h1⟩ := hE.errS
  obtain ⟨t2, p2, h2⟩ := hE.errR
  cases hx : Lib.atoiAll s.data.toList with
  | ok v => exact absurd hx (hno v)
  | range => exact (Any.strconv_Atoi_range_var Tryz.laysC172 s (by omega) hx t2 p2 w h2).mono fun e w' ⟨N, he, _, _, hb⟩ => ⟨_, N, he, hb⟩
  | _ => exact (Any.strconv_Atoi_syntax_var Tryz.laysC172 s (by omega) hx t1 p1 w h1).mono fun e w' ⟨N, he, _, _, hb⟩ => ⟨_, N, he, hb⟩
theorem atoi_yes (s : ByteArray) (hs : s.size ≤ 1099511627776) (w : World) (v : Int) (hv : Lib.atoiAll s.data.toList = .ok v) :
    Calls Tryz.prog 133 #[.string s] w fun e w' => e = .returned (.tuple #[.int .i64 v, .nilIface]) ∧ Below w.heap.size w w' :=
  (Tryz.strconv_Atoi_ok s (by omega) v hv w).mono fun e w' ⟨he, hw⟩ => ⟨he, by
    rcases hw with rfl | ⟨t, rfl⟩
    · exact Below.refl _ _
    · exact ⟨rfl, rfl, rfl, by rw [Lib.bytesWorld_size]; omega, fun j hj => Lib.bytesWorld_at_old _ _ _ j hj⟩⟩
set_option maxRecDepth 100000 in
set_option maxHeartbeats 400000 in
theorem number_any (s : ByteArray) (w : World) (hs : s.size ≤ 1099511627776) (hE : Hid (Env w)) (hd : Hid (∃ b r, s.data.toList = b :: r ∧ digitB b = true)) : Calls Tryz.prog 174 #[.string s] w fun e w' => e = .returned (.bool (numC s.data.toList)) ∧ Below w.heap.size w w' := by
  by_cases hno : ∀ v, Lib.atoiAll s.data.toList ≠ .ok v
  · have HR := hide (show numC s.data.toList = false by
      unfold numC
      cases hx : Lib.atoiAll s.data.toList with
      | ok v => exact absurd hx (hno v)
      | _ => rfl)
    have HA := hide (atoi_no s hs w hE.out hno)
    clear hno
    go_enter Tryz.func174, Tryz.ntmps174
    go_wp2_with fail
    refine HA.out.mono ?_
    rintro e w1 ⟨v, N, rfl, hb⟩
    have HB := hide hb
    clear hb
    go_wp2_with fail
    go_ret
    exact ⟨by rw [HR.out]; rfl, HB.out⟩
  · have hyes : ∃ v, Lib.atoiAll s.data.toList = .ok v := by
      by_cases h : ∃ v, Lib.atoiAll s.data.toList = .ok v
      · exact h
      · exact absurd (fun v hv => h ⟨v, hv⟩) hno
    obtain ⟨v, hv⟩ := hyes
    clear hno
    have HC := hide (show numC s.data.toList = (decide (v ≤ 1073741824) && (Lib.itoa v == s.data.toList)) by unfold numC; rw [hv])
    have HA := hide (atoi_yes s hs w v hv)
    have hv0 : 0 ≤ v := by
      obtain ⟨b, r, e, hb⟩ := hd.out
      rw [e] at hv
      obtain ⟨u, _, rfl⟩ := atoi_dig b r hb v hv
      omega
    clear hv
    by_cases hle : v ≤ 1073741824
    · have HC2 := hide (show numC s.data.toList = (Lib.itoa v == s.data.toList) by rw [HC.out]; simp [hle])
      have HI := hide (fun w (hE : Env w) => itoa_any v w hE (by omega) (by omega))
      have hle2 : decide (v ≤ 1073741824) = true := by simp; omega
      go_enter Tryz.func174, Tryz.ntmps174
      go_wp2_with fail
      refine HA.out.mono ?_
      rintro e w1 ⟨rfl, hb⟩
      have HB := hide hb
      clear hb
      go_wp2_with fail
      refine (HI.out _ (hE.out.kept HB.out)).mono ?_
      rintro e w2 ⟨rfl, hb⟩
      have HB2 := hide (HB.out.trans (hb.mono HB.out.size))
      clear hb
      go_wp2_with fail
      go_ret
      exact ⟨by rw [HC2.out, ← ByteArray.toList_eq]; rfl, HB2.out⟩
    · have HR := hide (show numC s.data.toList = false by rw [HC.out]; simp [hle])
      have hd : decide (v ≤ 1073741824) = false := by simp; omega
      go_enter Tryz.func174, Tryz.ntmps174
      go_wp2_with fail
      refine HA.out.mono ?_
      rintro e w1 ⟨rfl, hb⟩
      have HB := hide hb
      clear hb
      go_wp2_with fail
      go_ret
      exact ⟨by rw [HR.out]; rfl, HB.out⟩
end Go.Proofs.YtndpnpohdoggjaaGreatDoor
namespace Go.Proofs.YtndpnpohdoggjaaGreatDoor
open Go.RowKit
attribute [local go_sem] Later.cell
/-- The tokens' numbers are numbers. -/
def Good (ts : List Tok) : Prop := ∀ t ∈ ts, t.kind = 2 → numB t.text = true ∧ t.text.length ≤ 1099511627776
theorem atoi_numB (s : List UInt8) (h : numB s = true) : Lib.atoiAll s = .ok ((numV s : Nat) : Int) := by
  cases s with
  | nil => simp [numB] at h
  | cons b r =>
    unfold numB at h
    simp only [Bool.and_eq_true, decide_eq_true_eq] at h
    obtain ⟨⟨hd, _⟩, hv⟩ := h
    have hb : digitB b = true := by simp at hd; exact hd.1
    exact dig_atoi b r hb _ (ok_parse (b :: r) 0 hd hv) (by show numV (b :: r) < _; omega)
theorem nextP_ok {κ : Nat} {ts : List Tok} {j : Nat} {a : List UInt8} {r : List Tok} (h : nextP κ (ts.drop j) = .ok a r) (hκ : κ ≠ 0) : ∃ t ∈ ts, t.kind = κ ∧ t.text = a := by
  unfold nextP at h
  split at h
  · rename_i hk
    injection h with h1 h2
    rcases Nat.lt_or_ge j ts.length with h' | h'
    · rw [hdT_at ts j h'] at hk h1
      exact ⟨ts[j], List.getElem_mem h', by simpa using hk, h1⟩
    · rw [hdT_end ts j h'] at hk
      simp at hk
      exact absurd hk.symm hκ
  · cases h
theorem Ends.mk_ok {α : Type} {pb j : Nat} {ts : List Tok} {W W' : World} {conv : α → Value} {res : Res α} {e : Ending} {a : α} (h : res = .ok a (ts.drop j)) (hj : j ≤ ts.length) (hA : AtJ pb j W W') (he : e = .returned (conv a)) : Ends pb ts W conv res e W' := by
  subst h
  exact ⟨j, hj, hA, rfl, he⟩
theorem Ends.mk_bad {α : Type} {pb j n : Nat} {ts : List Tok} {W W' : World} {conv : α → Value} {res : Res α} (h : res = .bad n (ts.drop j)) (hj : j ≤ ts.length) (hA : AtJ pb j W W') : Ends pb ts W conv res (.panicked [{ v := .iface 159 (.agg #[.int .i64 (n : Int)]), recovered := false }]) W' := by
  subst h
  exact ⟨j, hj, hA, rfl, rfl⟩
theorem Ends.split {α : Type} {pb : Nat} {ts : List Tok} {W W' : World} {conv : α → Value} {res : Res α} {e : Ending} (h : Ends pb ts W conv res e W') :
    (∃ a j, res = .ok a (ts.drop j) ∧ j ≤ ts.length ∧ AtJ pb j W W' ∧ e = .returned (conv a)) ∨ (∃ n j, res = .bad n (ts.drop j) ∧ j ≤ ts.length ∧ AtJ pb j W W' ∧ e = .panicked [{ v := .iface 159 (.agg #[.int .i64 (n : Int)]), recovered := false }]) := by
  obtain ⟨j, hj, hA, hm⟩ := h
  cases res with
  | ok a r => exact .inl ⟨a, j, by rw [hm.1], hj, hA, hm.2⟩
  | bad n r => exact .inr ⟨n, j, by rw [hm.1], hj, hA, hm.2⟩
set_option maxRecDepth 100000 in
theorem num_any (pb j : Nat) (ts : List Tok) (W : World) (H : Hid (Cur pb ts j W)) (hts : ts.length ≤ 1099511627776) (hj : j ≤ ts.length) (hg : Hid (Good ts)) :
    Calls Tryz.prog 77 #[.pointer (some ⟨pb, 0, none⟩)] W fun e W' => Ends pb ts W (fun n : Int => .int .i64 n) (numP (ts.drop j)) e W' := by
  have HC := hide (next_tok pb j 2 ts W H hts hj (by decide))
  have hpb := H.out.lt
  unfold numP
  cases hr : nextP 2 (ts.drop j) with
  | ok a r =>
    rw [bnd_ok hr]
    obtain ⟨t, ht, hk, rfl⟩ := nextP_ok hr (by decide)
    obtain ⟨hn, hl⟩ := hg.out t ht hk
    rw [hr] at HC
    have HA := hide (fun W => atoi_yes ⟨t.text.toArray⟩ (by simpa [ByteArray.size] using hl) W _ (by simpa using atoi_numB t.text hn))
    clear hr ht hk hn hl
    go_enter Tryz.func77, Tryz.ntmps77
    go_wp2_with fail
    refine (HC.out).mono ?_
    rintro e w' ⟨j', hj', hA, hr', rfl⟩
    have HJ := hide hA
    clear hA
    go_wp2_with fail
    refine (HA.out _).mono ?_
    rintro e w'' ⟨rfl, hb⟩
    have HJ2 := hide (HJ.out.below hpb hb)
    clear hb
    go_wp2_with fail
    go_ret
    exact ⟨j', hj', HJ2.out, hr', rfl⟩
  | bad n r =>
    rw [bnd_bad hr]
    rw [hr] at HC
    go_enter Tryz.func77, Tryz.ntmps77
    go_wp2_with fail
    refine (HC.out).mono ?_
    rintro e w' ⟨j', hj', hA, hr', rfl⟩
    have HA := hide hA
    clear hA
    go_wp2_with fail
    exact ⟨rfl, j', hj', HA.out, hr', rfl⟩
/-- A later step behind an earlier one. -/
theorem Ends.trans {α : Type} {pb j : Nat} {ts : List Tok} {W W1 W2 : World} {conv : α → Value} {res : Res α} {e : Ending} (h : AtJ pb j W W1) (k : Ends pb ts W1 conv res e W2) : Ends pb ts W conv res e W2 := by
  obtain ⟨j', hj', hA, hm⟩ := k
  exact ⟨j', hj', h.trans hA, hm⟩
end Go.Proofs.YtndpnpohdoggjaaGreatDoor
namespace Go.Proofs.YtndpnpohdoggjaaGreatDoor
open Go.RowKit
/-- What a cell says: a value, or a slice of elements of some cells each. -/
inductive Dat where
  | leaf (v : Value)
  | row (size : Nat) (es : List (List Dat))
/-- The value v says d in w; every block that it reaches is among G. -/
inductive DAt (w : World) (G : Nat → Prop) : Value → Dat → Prop
  | leaf (v : Value) : DAt w G v (.leaf v)
  | nil (A : Option Addr) (c size : Nat) : DAt w G (.slice A 0 c) (.row size [])
  | row (b off c size n : Nat) (es : List (List Dat)) (val : Nat → Nat → Value) (hn : es.length = n) (hG : G b) (hb : b < w.heap.size)
      (hc : ∀ i j e d, es[i]? = some e → e[j]? = some d → w.cell? ⟨b, off + i * size + j, none⟩ = some (val i j))
      (hd : ∀ i j e d, es[i]? = some e → e[j]? = some d → DAt w G (val i j) d) (hcap : n ≤ c) : DAt w G (.slice (some ⟨b, off, none⟩) n c) (.row size es)
theorem DAt.keep {w w' : World} {G : Nat → Prop} {v : Value} {d : Dat} (h : DAt w G v d) (hz : w.heap.size ≤ w'.heap.size) (hk : ∀ b, G b → b < w.heap.size → w'.heap[b]? = w.heap[b]?) : DAt w' G v d := by
  induction h with
  | leaf v => exact .leaf v
  | nil A c size => exact .nil A c size
  | row b off c size n es val hn hG hb hc _ hcap ih => exact .row b off c size n es val hn hG (Nat.lt_of_lt_of_le hb hz) (fun i j e d he hd => (World.cell?_of_block (w := w) (hk b hG hb)).trans (hc i j e d he hd)) ih hcap
theorem DAt.mono {w : World} {G H : Nat → Prop} {v : Value} {d : Dat} (h : DAt w G v d) (hg : ∀ b, G b → b < w.heap.size → H b) : DAt w H v d := by
  induction h with
  | leaf v => exact .leaf v
  | nil A c size => exact .nil A c size
  | row b off c size n es val hn hG hb hc _ hcap ih => exact .row b off c size n es val hn (hg b hG hb) hb hc ih hcap
theorem DAt.later {w w' : World} {G : Nat → Prop} {v : Value} {d : Dat} (h : DAt w G v d) (hb : Below w.heap.size w w') : DAt w' G v d := h.keep hb.size (fun b _ hl => hb.block b hl)
theorem DAt.kept {w w' : World} {F G : Nat → Prop} {v : Value} {d : Dat} (h : DAt w G v d) (hk : Kept F w w') (hF : ∀ b, G b → ¬ F b) : DAt w' G v d := h.keep hk.size (fun b hg hl => hk.block b hl (hF b hg))
/-- Cells and what they say, one by one. -/
def DCells (w : World) (G : Nat → Prop) (vs : List Value) (ds : List Dat) : Prop := vs.length = ds.length ∧ ∀ (j : Nat) (v : Value) (d : Dat), vs[j]? = some v → ds[j]? = some d → DAt w G v d
theorem DCells.nil {w : World} {G : Nat → Prop} : DCells w G [] [] := ⟨rfl, fun j v d (h : ([] : List Value)[j]? = some v) => by simp at h⟩
theorem DCells.cons {w : World} {G : Nat → Prop} {v : Value} {d : Dat} {vs : List Value} {ds : List Dat} (h : DAt w G v d) (hs : DCells w G vs ds) : DCells w G (v :: vs) (d :: ds) := by
  refine ⟨by simp [hs.1], fun j u e hu he => ?_⟩
  cases j with
  | zero =>
    simp only [List.getElem?_cons_zero, Option.some.injEq] at hu he
    subst hu he
    exact h
  | succ j => exact hs.2 j u e (by simpa using hu) (by simpa using he)
theorem DCells.append {w : World} {G : Nat → Prop} {vs us : List Value} {ds es : List Dat} (h : DCells w G vs ds) (k : DCells w G us es) : DCells w G (vs ++ us) (ds ++ es) := by
  refine ⟨by simp [h.1, k.1], fun j v d hv hd => ?_⟩
  by_cases hj : j < vs.length
  · rw [List.getElem?_append_left hj] at hv
    rw [List.getElem?_append_left (by have := h.1; omega)] at hd
    exact h.2 j v d hv hd
  · rw [List.getElem?_append_right (by omega)] at hv
    rw [List.getElem?_append_right (by have := h.1; omega), ← h.1] at hd
    exact k.2 _ v d hv hd
theorem DCells.mono {w : World} {G H : Nat → Prop} {vs : List Value} {ds : List Dat} (h : DCells w G vs ds) (hg : ∀ b, G b → b < w.heap.size → H b) : DCells w H vs ds := ⟨h.1, fun j v d hv hd => (h.2 j v d hv hd).mono hg⟩
theorem DCells.keep {w w' : World} {G : Nat → Prop} {vs : List Value} {ds : List Dat} (h : DCells w G vs ds) (hz : w.heap.size ≤ w'.heap.size) (hk : ∀ b, G b → b < w.heap.size → w'.heap[b]? = w.heap[b]?) : DCells w' G vs ds := ⟨h.1, fun j v d hv hd => (h.2 j v d hv hd).keep hz hk⟩
theorem DCells.below {w w' : World} {G : Nat → Prop} {vs : List Value} {ds : List Dat} (h : DCells w G vs ds) (hb : Below w.heap.size w w') : DCells w' G vs ds := h.keep hb.size (fun b _ hl => hb.block b hl)
/-- A slice of the call's own: it owns its row; what its cells say lies elsewhere, in blocks from base on. -/
structure OwnD (w : World) (base : Nat) (t : TypeId) (size : Nat) (v : Value) (n : Nat) (es : List (List Dat)) : Prop where
  len : es.length = n
  wide : ∀ e ∈ es, e.length = size
  own : ∃ cs, w.ownsRow base t size v n cs ∧ DCells w (fun b => base ≤ b ∧ v.ownBlock ≠ some b) cs es.flatten
theorem OwnD.nil (w : World) (base : Nat) (t : TypeId) (size : Nat) : OwnD w base t size (.slice none 0 0) 0 [] :=
  ⟨rfl, fun _ h => (by cases h), [], World.ownsRow_nil _ _ _ _, .nil⟩
theorem own_keep {w w' : World} {base : Nat} {e : TypeId} {size : Nat} {v : Value} {n : Nat} {xs : List Value} (h : w.ownsRow base e size v n xs) (hb : ∀ g, v.ownBlock = some g → base ≤ g → w'.heap[g]? = w.heap[g]?) : w'.ownsRow base e size v n xs := by
  obtain ⟨h1, h2⟩ := h
  refine ⟨h1, ?_⟩
  rcases h2 with h2 | ⟨g, cap, cur, hv, hg, hh, r⟩
  · exact .inl h2
  · exact .inr ⟨g, cap, cur, hv, hg, (hb g (by rw [hv]; rfl) hg).trans hh, r⟩
theorem own_lt {w : World} {base : Nat} {e : TypeId} {size : Nat} {v : Value} {n : Nat} {xs : List Value} (h : w.ownsRow base e size v n xs) {g : Nat} (hg : v.ownBlock = some g) : base ≤ g ∧ g < w.heap.size := by
  rcases h.2 with ⟨rfl, _⟩ | ⟨g', cap, cur, rfl, hb, hh, _⟩
  · cases hg
  · injection hg with hg; subst hg
    exact ⟨hb, (Array.getElem?_eq_some_iff.1 hh).1⟩
theorem OwnD.lt {w : World} {base : Nat} {t : TypeId} {size : Nat} {v : Value} {n : Nat} {es : List (List Dat)} (h : OwnD w base t size v n es) {g : Nat} (hg : v.ownBlock = some g) : base ≤ g ∧ g < w.heap.size := by
  obtain ⟨cs, ho, _⟩ := h.own
  exact own_lt ho hg
theorem OwnD.keep {w w' : World} {base : Nat} {t : TypeId} {size : Nat} {v : Value} {n : Nat} {es : List (List Dat)} (h : OwnD w base t size v n es) (hz : w.heap.size ≤ w'.heap.size) (hk : ∀ b, base ≤ b → b < w.heap.size → w'.heap[b]? = w.heap[b]?) : OwnD w' base t size v n es := by
  obtain ⟨cs, ho, hc⟩ := h.own
  exact ⟨h.len, h.wide, cs, own_keep ho (fun g hg hb => hk g hb (own_lt ho hg).2), hc.keep hz (fun b hb hl => hk b hb.1 hl)⟩
theorem OwnD.below {w w' : World} {base : Nat} {t : TypeId} {size : Nat} {v : Value} {n : Nat} {es : List (List Dat)} (h : OwnD w base t size v n es) (hb : Below w.heap.size w w') : OwnD w' base t size v n es := h.keep hb.size (fun b _ hl => hb.block b hl)
theorem OwnD.kept {w w' : World} {F : Nat → Prop} {base : Nat} {t : TypeId} {size : Nat} {v : Value} {n : Nat} {es : List (List Dat)} (h : OwnD w base t size v n es) (hk : Kept F w w') (hF : ∀ b, base ≤ b → ¬ F b) : OwnD w' base t size v n es := h.keep hk.size (fun b hb hl => hk.block b hl (hF b hb))
theorem flat_at {α : Type} {size : Nat} : ∀ (es : List (List α)), (∀ e ∈ es, e.length = size) → ∀ (i j : Nat) (e : List α), es[i]? = some e → j < size → es.flatten[i * size + j]? = e[j]?
  | [], _, i, j, e, h, _ => by simp at h
  | x :: es, hw, 0, j, e, h, hj => by
    simp only [List.getElem?_cons_zero, Option.some.injEq] at h
    subst h
    rw [Nat.zero_mul, Nat.zero_add, List.flatten_cons, List.getElem?_append_left (by rw [hw x (by simp)]; exact hj)]
  | x :: es, hw, i + 1, j, e, h, hj => by
    have hx := hw x (by simp)
    rw [List.flatten_cons, List.getElem?_append_right (by rw [hx, Nat.add_mul]; omega)]
    have : (i + 1) * size + j - x.length = i * size + j := by rw [hx, Nat.add_mul]; omega
    rw [this]
    exact flat_at es (fun e he => hw e (by simp [he])) i j e (by simpa using h) hj
/-- The slice, read. -/
theorem own_dat {w : World} {base : Nat} {G : Nat → Prop} {t : TypeId} {size : Nat} {v : Value} {n : Nat} {es : List (List Dat)} {cs : List Value} (hl : es.length = n) (hw : ∀ e ∈ es, e.length = size) (ho : w.ownsRow base t size v n cs) (hc : DCells w G cs es.flatten) : DAt w (fun b => G b ∨ v.ownBlock = some b) v (.row size es) := by
  rcases ho.2 with ⟨rfl, rfl⟩ | ⟨g, cap, cur, rfl, hb, hh, hcap, _⟩
  · obtain rfl := List.eq_nil_of_length_eq_zero hl
    exact .nil none 0 size
  · have hlt := (Array.getElem?_eq_some_iff.1 hh).1
    have hcell : ∀ i j e d, es[i]? = some e → e[j]? = some d → ∃ u, w.cell? ⟨g, i * size + j, none⟩ = some u ∧ DAt w (fun b => G b ∨ (Value.slice (some ⟨g, 0, none⟩) n cap).ownBlock = some b) u d := by
      intro i j e d he hd
      have hil : i < n := by rw [← hl]; exact (List.getElem?_eq_some_iff.1 he).1
      have hjl : j < size := by rw [← hw e (List.mem_of_getElem? he)]; exact (List.getElem?_eq_some_iff.1 hd).1
      have hij : i * size + j < n * size := by
        have : (i + 1) * size ≤ n * size := Nat.mul_le_mul_right _ (by omega)
        rw [Nat.add_mul] at this; omega
      have hf := flat_at es hw i j e he hjl
      rw [hd] at hf
      have hlt2 := (List.getElem?_eq_some_iff.1 hf).1
      have hcl : i * size + j < cs.length := by rw [hc.1]; exact hlt2
      refine ⟨cs[i * size + j], ?_, (hc.2 _ _ d (List.getElem?_eq_getElem hcl) hf).mono (fun b hb _ => .inl hb)⟩
      rw [World.ownsRow.cellAt ho (i * size + j) hij, List.getElem?_eq_getElem hcl]
    have hv : ∃ val : Nat → Nat → Value, ∀ i j e d, es[i]? = some e → e[j]? = some d → w.cell? ⟨g, i * size + j, none⟩ = some (val i j) ∧ DAt w (fun b => G b ∨ (Value.slice (some ⟨g, 0, none⟩) n cap).ownBlock = some b) (val i j) d := by
      refine ⟨fun i j => (w.cell? ⟨g, i * size + j, none⟩).getD (.bool false), fun i j e d he hd => ?_⟩
      obtain ⟨u, hu, hdu⟩ := hcell i j e d he hd
      simp only [hu, Option.getD_some]
      exact ⟨trivial, hdu⟩
    obtain ⟨val, hval⟩ := hv
    refine .row g 0 cap size n es val hl (.inr rfl) hlt (fun i j e d he hd => ?_) (fun i j e d he hd => (hval i j e d he hd).2) hcap
    rw [Nat.zero_add]
    exact (hval i j e d he hd).1
theorem OwnD.dat {w : World} {base : Nat} {t : TypeId} {size : Nat} {v : Value} {n : Nat} {es : List (List Dat)} (h : OwnD w base t size v n es) : DAt w (fun b => base ≤ b) v (.row size es) := by
  obtain ⟨hl, hw, cs, ho, hc⟩ := h
  exact (own_dat hl hw ho hc).mono (fun b hb _ => hb.elim (·.1) (fun e => (own_lt ho e).1))
/-- Behind an append of new elements, whose data lie in blocks that the row has not. -/
theorem OwnD.push {w w2 : World} {base : Nat} {t : TypeId} {size : Nat} {v v' : Value} {n m k : Nat} {es fs : List (List Dat)} {cs news : List Value} (hl : es.length = n) (hwd : ∀ e ∈ es, e.length = size)
    (hc : DCells w (fun b => base ≤ b ∧ v.ownBlock ≠ some b) cs es.flatten) (hk : k = n + m) (hm : fs.length = m) (hw : ∀ e ∈ fs, e.length = size) (hnew : DCells w (fun b => base ≤ b ∧ v.ownBlock ≠ some b) news fs.flatten)
    (hown : w2.ownsRow base t size v' k (cs ++ news)) (hg : w.grownBy w2 v.ownBlock) (hat : v'.ownBlock = v.ownBlock ∨ v'.ownBlock = some w.heap.size) : OwnD w2 base t size v' k (es ++ fs) := by
  refine ⟨by rw [List.length_append]; omega, fun e he => ?_, cs ++ news, hown, ?_⟩
  · rcases List.mem_append.1 he with he | he
    · exact hwd e he
    · exact hw e he
  · rw [List.flatten_append]
    have hall := (hc.append hnew).mono (H := fun b => base ≤ b ∧ v.ownBlock ≠ some b ∧ b < w.heap.size) (fun b hb hlt => ⟨hb.1, hb.2, hlt⟩)
    refine (hall.keep hg.size (fun b hb hlt => hg.block b hlt (fun e => hb.2.1 e.symm))).mono (fun b hb _ => ⟨hb.1, fun e => ?_⟩)
    rcases hat with hat | hat
    · exact hb.2.1 (hat.symm.trans e)
    · rw [hat] at e
      injection e with e
      omega
end Go.Proofs.YtndpnpohdoggjaaGreatDoor
