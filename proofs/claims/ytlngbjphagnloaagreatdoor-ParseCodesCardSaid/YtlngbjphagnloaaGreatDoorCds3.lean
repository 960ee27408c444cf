/-
  parse: ParseCodes: what the four sources are parsed to.
-/
import Derived.Test.YtlngbjphagnloaaGreatDoorCds2
import Derived.Test.YtlngbjphagnloaaGreatDoorPk6
namespace Go.Proofs.YtlngbjphagnloaaGreatDoor
theorem valid_of (k : Nat) (tx : List UInt8) (h : (match tx with | [] => false | b :: r => tokN (b :: r) == (k, (b :: r).length, 0)) = true) (q : Nat) : ValidT ⟨k, tx, q⟩ := by
  cases tx with
  | nil => cases h
  | cons b r =>
    have h4 : tokN (b :: r) = (k, (b :: r).length, 0) := eq_of_beq h
    have := valid_tok b r q (by rw [h4])
    rw [h4, List.take_length] at this
    exact this
def fineB : List Wr → Bool
  | [] => true
  | x :: r => (match x.text with | [] => false | b :: s => tokN (b :: s) == (x.kind, (b :: s).length, 0)) && (x.gap || (match r with | [] => true | y :: _ => match y.text with | [] => false | b :: _ => !innerB b)) && fineB r
theorem okW_of : ∀ l : List Wr, fineB l = true → okW l
  | [], _ => trivial
  | ⟨k, tx, g⟩ :: r, h => by
    unfold fineB at h
    simp only [Bool.and_eq_true, Bool.or_eq_true] at h
    obtain ⟨⟨h1, h2⟩, h3⟩ := h
    refine ⟨⟨0, valid_of k tx h1 0⟩, ?_, okW_of r h3⟩
    rcases h2 with h2 | h2
    · exact .inl h2
    · cases r with
      | nil => exact .inr (.inl rfl)
      | cons y s =>
        obtain ⟨yk, ytx, yg⟩ := y
        cases ytx with
        | nil => cases h2
        | cons b t => exact .inr (.inr ⟨_, s, b, t, rfl, rfl, by simpa using h2⟩)
theorem srcOf_app : ∀ (l r : List Wr), srcOf (l ++ r) = srcOf l ++ srcOf r
  | [], r => rfl
  | x :: l, r => by
    show x.text ++ ((if x.gap then [32] else []) ++ srcOf (l ++ r)) = (x.text ++ ((if x.gap then [32] else []) ++ srcOf l)) ++ srcOf r
    rw [srcOf_app l r]
    simp
/-- The instruction's text. -/
def insL (op : Nat) (ds : List (List UInt8)) : List UInt8 := wordN insWords op ++ (ds.take (wordN insOps op).length).flatMap (fun d => 32 :: d)
theorem ins_src (op : Nat) (ds : List (List UInt8)) (g : Bool) : srcOf (insW op ds g) = insL op ds ++ (if g then [32] else []) := nums_src g _ _
theorem insL_len (op : Nat) (h1 : 1 ≤ op) (h2 : op ≤ 25) (ds : List (List UInt8)) (hd : ∀ d ∈ ds, d.length ≤ 10) : (insL op ds).length ≤ 100 := by
  have h : ((List.range 25).all fun k => decide ((wordN insWords (k + 1)).length ≤ 6) && decide ((wordN insOps (k + 1)).length ≤ 3)) = true := by decide
  have h3 := List.all_eq_true.1 h (op - 1) (by simp; omega)
  rw [show op - 1 + 1 = op by omega] at h3
  simp only [Bool.and_eq_true, decide_eq_true_eq] at h3
  have hf : ∀ l : List (List UInt8), (∀ d ∈ l, d.length ≤ 10) → (l.flatMap (fun d => 32 :: d)).length ≤ 11 * l.length := by
    intro l hl
    induction l with
    | nil => simp
    | cons d l ih =>
      have := ih (fun x hx => hl x (by simp [hx]))
      have := hl d (by simp)
      rw [List.flatMap_cons, List.length_append, List.length_cons, List.length_cons]
      omega
  have h4 := hf (ds.take (wordN insOps op).length) (fun d h => hd d (List.mem_of_mem_take h))
  have h5 : (ds.take (wordN insOps op).length).length ≤ 3 := by rw [List.length_take]; omega
  unfold insL
  rw [List.length_append]
  omega
def srcA (s : List UInt8) : List UInt8 := [110, 101, 120, 116, 59, 32] ++ s ++ [59]
def srcB (s : List UInt8) : List UInt8 := [109, 111, 100, 117, 108, 101, 32, 109, 32, 109, 101, 109, 32, 49, 32, 102, 114, 97, 109, 101, 32, 49, 32, 123, 32, 112, 97, 114, 116, 32, 112, 32, 112, 101, 114, 105, 111, 100, 32, 49, 32, 108, 101, 110, 103, 116, 104, 32, 49, 32, 109, 101, 109, 32, 49, 32, 123, 32, 112, 114, 111, 99, 32, 97, 32, 112, 114, 105, 111, 32, 49, 32, 112, 101, 114, 105, 111, 100, 32, 48, 32, 108, 105, 109, 105, 116, 32, 48, 32, 123, 32] ++ s ++ [59, 32, 125, 32, 125, 32, 125]
def srcC (s : List UInt8) : List UInt8 := s ++ [32, 49, 59]
theorem code_lexed {l : List Wr} (h : okW l) (hl : (srcOf l).length ≤ 65536) : lexR (srcOf l) = (toksOf 0 l, 0, 0) := by
  rw [lexR_short hl, lex_src l 0 h]
  rfl
theorem codes_plain (op a b c : Nat) (h1 : 1 ≤ op) (h2 : op ≤ 25) (ha : a ≤ 1073741824) (hb : b ≤ 1073741824) (hc : c ≤ 1073741824) :
    (insL op [digs a, digs b, digs c]).length ≤ 100 ∧
    (∀ n, codeT (lexR (srcA (insL op [digs a, digs b, digs c]))) n = ([⟨19, 0, 0, 0⟩, insOf op a b c], 0, 0)) ∧
    (∀ n, parseT (lexR (srcB (insL op [digs a, digs b, digs c]))) n = (cfgOf (insOf op a b c), 0, 0)) ∧
    (∀ n, codeT (lexR (srcC (insL op [digs a, digs b, digs c]))) n = ([], (insL op [digs a, digs b, digs c]).length + 1, 80)) ∧
    (∀ n, codeT (lexR (insL op [digs a, digs b, digs c])) n = ([], n, 80)) := by
  have hd : ∀ d ∈ [digs a, digs b, digs c], numB d = true := fun d hd => by
    simp only [List.mem_cons, List.not_mem_nil, or_false] at hd
    rcases hd with rfl | rfl | rfl
    · exact digs_num a ha
    · exact digs_num b hb
    · exact digs_num c hc
  have hd10 : ∀ d ∈ [digs a, digs b, digs c], d.length ≤ 10 := fun d hd => by
    simp only [List.mem_cons, List.not_mem_nil, or_false] at hd
    rcases hd with rfl | rfl | rfl
    · exact (digsF_ok 9 a (by omega)).2.2.2.2.1
    · exact (digsF_ok 9 b (by omega)).2.2.2.2.1
    · exact (digsF_ok 9 c (by omega)).2.2.2.2.1
  have hlen := insL_len op h1 h2 _ hd10
  have hs0 := ins_src op [digs a, digs b, digs c] false
  have hs1 := ins_src op [digs a, digs b, digs c] true
  obtain ⟨o0, g0⟩ := ins_ok (op := op) false h1 h2 hd
  obtain ⟨o1, g1⟩ := ins_ok (op := op) true h1 h2 hd
  have hT := fun M N => codes_toks op h1 h2 (digs a) (digs b) (digs c) M N
  rw [digs_val a ha, digs_val b hb, digs_val c hc] at hT
  generalize insW op [digs a, digs b, digs c] false = w0 at *
  generalize insW op [digs a, digs b, digs c] true = w1 at *
  generalize insL op [digs a, digs b, digs c] = s at *
  rw [show s ++ (if false = true then [32] else []) = s by simp] at hs0
  have hs1 : srcOf w1 = s ++ [32] := hs1
  have hsemi : ∀ (x : Wr) (r : List Wr), x.gap = false → ∃ y s b t, (⟨3, [59], true⟩ :: r : List Wr) = y :: s ∧ y.text = b :: t ∧ innerB b = false := fun _ r _ => ⟨_, r, 59, [], rfl, rfl, rfl⟩
  have eA : srcOf (⟨1, [110, 101, 120, 116], false⟩ :: ⟨3, [59], true⟩ :: w0 ++ [⟨3, [59], false⟩]) = srcA s := by
    show srcOf ([⟨1, [110, 101, 120, 116], false⟩, ⟨3, [59], true⟩] ++ w0 ++ [⟨3, [59], false⟩]) = _
    rw [srcOf_app, srcOf_app, hs0]
    rfl
  have oA : okW (⟨1, [110, 101, 120, 116], false⟩ :: ⟨3, [59], true⟩ :: w0 ++ [⟨3, [59], false⟩]) := by
    show okW ([⟨1, [110, 101, 120, 116], false⟩, ⟨3, [59], true⟩] ++ w0 ++ [⟨3, [59], false⟩])
    rw [List.append_assoc]
    refine okW_app _ _ (okW_of _ (by decide)) (okW_app _ _ o0 (okW_of _ (by decide)) (fun x hx => .inr (.inr ⟨_, [], 59, [], rfl, rfl, rfl⟩))) (fun x hx => .inl ?_)
    cases hx; rfl
  have eB : srcOf (preW ++ w0 ++ endW) = srcB s := by
    rw [srcOf_app, srcOf_app, hs0]
    rfl
  have oB : okW (preW ++ w0 ++ endW) := by
    rw [List.append_assoc]
    refine okW_app _ _ (okW_of _ (by decide)) (okW_app _ _ o0 (okW_of _ (by decide)) (fun x hx => .inr (.inr ⟨_, _, 59, [], rfl, rfl, rfl⟩))) (fun x hx => .inl ?_)
    cases hx; rfl
  have eC : srcOf (w1 ++ [⟨2, [49], false⟩, ⟨3, [59], false⟩]) = srcC s := by
    rw [srcOf_app, hs1]
    simp [srcC, srcOf]
  have oC : okW (w1 ++ [⟨2, [49], false⟩, ⟨3, [59], false⟩]) := okW_app _ _ o1 (okW_of _ (by decide)) (fun x hx => .inl (g1 x hx))
  have lA : (srcA s).length ≤ 65536 := by unfold srcA; simp; omega
  have lB : (srcB s).length ≤ 65536 := by unfold srcB; simp; omega
  have lC : (srcC s).length ≤ 65536 := by unfold srcC; simp; omega
  refine ⟨hlen, fun n => ?_, fun n => ?_, fun n => ?_, fun n => ?_⟩
  · rw [← eA, code_lexed oA (by rw [eA]; exact lA)]
    unfold codeT
    simp only [if_true, (hT 0 0).1]
  · rw [← eB, code_lexed oB (by rw [eB]; exact lB)]
    unfold parseT
    simp only [if_true, (hT 0 0).2.1]
  · rw [← eC, code_lexed oC (by rw [eC]; exact lC), toks_app, hs1]
    unfold codeT
    have h3 := (hT (0 + (s ++ [32]).length) (0 + (s ++ [32]).length + 1)).2.2.1
    have e : toksOf (0 + (s ++ [32]).length) [⟨2, [49], false⟩, ⟨3, [59], false⟩] = [⟨2, [49], 0 + (s ++ [32]).length⟩, ⟨3, [59], 0 + (s ++ [32]).length + 1⟩] := rfl
    rw [e]
    simp only [if_true, h3]
    show (([] : List InsD), 0 + (s ++ [32]).length, 80) = _
    rw [List.length_append, Nat.zero_add]
    rfl
  · have := code_lexed o0 (by rw [hs0]; omega)
    rw [hs0] at this
    rw [this]
    unfold codeT
    simp only [if_true, (hT 0 0).2.2.2]
    rfl
end Go.Proofs.YtlngbjphagnloaaGreatDoor
