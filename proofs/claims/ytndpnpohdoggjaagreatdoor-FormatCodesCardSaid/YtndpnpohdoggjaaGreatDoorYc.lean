/-
  FormatCodes: what parse.Code and format.Code yield, one behind the other.
-/
import Derived.Test.YtndpnpohdoggjaaGreatDoorYb
import Derived.Test.YtndpnpohdoggjaaGreatDoorPk11
import Derived.Test.YtndpnpohdoggjaaGreatDoorPk21
namespace Go.Proofs.YtndpnpohdoggjaaGreatDoor
theorem of_len {r r' : List Tok} {n : Nat} (h : ofP insWords r = .ok n r') : r'.length + 1 ≤ r.length := by
  unfold ofP at h
  split at h
  · rename_i hc
    injection h with _ e2
    subst e2
    cases r with
    | nil => exact absurd hc (by decide)
    | cons t r => simp
  · cases h
theorem must_len {r r' : List Tok} (h : mustP [59] r = .ok () r') : r'.length + 1 ≤ r.length := by
  unfold mustP at h
  split at h
  · rename_i hc
    injection h with _ e2
    subst e2
    cases r with
    | nil => exact absurd hc (by decide)
    | cons t r => simp
  · cases h
theorem ops_len : ∀ (k : Nat) (r r' : List Tok) (l : List Int), opsP k r = .ok l r' → r'.length ≤ r.length
  | 0, r, r', l, h => by
    injection h with _ e2
    rw [e2]
    exact Nat.le_refl _
  | k + 1, r, r', l, h => by
    obtain ⟨n, r1, h1, h2⟩ := bnd_invY h
    obtain ⟨m, r2, h3, h4⟩ := bnd_invY h2
    injection h4 with _ e2
    subst e2
    have h5 := ops_len k r1 r2 m h3
    obtain ⟨t, r3, h6, h7⟩ := bnd_invY h1
    injection h7 with _ e3
    subst e3
    unfold nextP at h6
    split at h6
    · injection h6 with _ e4
      subst e4
      rw [List.length_tail] at h5
      omega
    · cases h6
theorem ins_len {r r' : List Tok} {x : InsD} (h : insP r = .ok x r') : r'.length + 2 ≤ r.length := by
  obtain ⟨op, r1, h1, h⟩ := bnd_invY h
  obtain ⟨l, r2, h2, h⟩ := bnd_invY h
  obtain ⟨u, r3, h3, h⟩ := bnd_invY h
  injection h with _ e2
  subst e2
  have g1 := of_len h1
  have g2 := ops_len _ _ _ _ h2
  have g3 := must_len h3
  omega
theorem loop_len : ∀ (f : Nat) (acc : List InsD) (r r' : List Tok) (l : List InsD), codeLoop f acc r = .ok l r' → 2 * l.length + r'.length ≤ 2 * acc.length + r.length
  | 0, acc, r, r', l, h => by
    injection h with e1 e2
    subst e1 e2
    exact Nat.le_refl _
  | f + 1, acc, r, r', l, h => by
    have h : (if (hdT r).kind == 1 then ((insP >>= fun x => codeLoop f (acc ++ [x])) r : Res (List InsD)) else .ok acc r) = .ok l r' := h
    split at h
    · obtain ⟨x, r1, h1, h2⟩ := bnd_invY h
      have g1 := ins_len h1
      have g2 := loop_len f _ r1 r' l h2
      simp only [List.length_append, List.length_cons, List.length_nil] at g2
      omega
    · injection h with e1 e2
      subst e1 e2
      exact Nat.le_refl _
theorem all_len {r r' : List Tok} {l : List InsD} (h : allCodeP r = .ok l r') : 2 * l.length ≤ r.length := by
  obtain ⟨k, r1, h1, h2⟩ := bnd_invY h
  have h3 := loop_len _ _ _ _ _ h1
  unfold endP at h2
  split at h2
  · injection h2 with e1 _
    subst e1
    simp at h3
    omega
  · cases h2
theorem insF_op {x : InsD} (h : insF x = true) : x.op ≤ 255 := by
  simp only [insF, Bool.and_eq_true] at h
  rcases Nat.lt_or_ge x.op 26 with h1 | h1
  · omega
  · exfalso
    have h2 := h.1
    unfold wordN at h2
    rw [if_neg (by omega), List.getD_eq_getElem?_getD, List.getElem?_eq_none (by show 25 ≤ x.op - 1; omega)] at h2
    simp at h2
/-- What parse.Code yields of a short source is printable, and not long. -/
theorem p9_fine (s : List UInt8) (size : Nat) (hs : s.length ≤ 2000) : (codeP9 (lexR s) size).1.all insF = true ∧ (codeP9 (lexR s) size).1.length ≤ 1000 := by
  have h0 := lexA_ok s.length 0 s (Nat.le_refl _)
  have hg := good_lex 0 s (by omega) (fun t ht => (h0.1 t ht).1)
  have hN : NumT (lexR s).1 ∧ (lexR s).1.length ≤ s.length := by
    have hb : ∀ t ∈ (lexA 0 s).1, t.kind = 2 → numV t.text ≤ 1073741824 := fun t ht hk => by
      have := (hg t ht hk).1
      unfold numB at this
      simp only [Bool.and_eq_true, decide_eq_true_eq] at this
      exact this.2
    unfold lexR
    split
    · exact ⟨fun t ht => by simp at ht, by simp⟩
    · split
      · exact ⟨hb, h0.2.1⟩
      · exact ⟨fun t ht => by simp at ht, by simp⟩
  unfold codeP9
  split
  · split
    · rename_i c r e
      have := all_len e
      exact ⟨code_fine hN.1 e, by show c.length ≤ 1000; omega⟩
    · exact ⟨rfl, by simp⟩
  · exact ⟨rfl, by simp⟩
theorem codesT_short {l : List InsD} (hl : l.all insF = true) (hn : l.length ≤ 1000) : (codesT l).length ≤ 65536 := by
  have := codesT_len hl
  omega
/-- Printed code is parsed into the code. -/
theorem p9_back {l : List InsD} (hl : l.all insF = true) (hn : l.length ≤ 1000) (size : Nat) : codeP9 (lexR (codesT l)) size = (l, 0, 0) := by
  obtain ⟨ts, e, m⟩ := (lx_codes hl).whole (codesT_short hl hn)
  unfold codesT
  rw [e]
  unfold codeP9
  rw [if_pos rfl, code_back hl m]
theorem codeE_yes {l : List InsD} (hl : l.all insF = true) (hn : l.length ≤ 1000) : codeE l = .tuple #[.string ⟨(codesT l).toArray⟩, .int .i64 0] := by
  have := codesT_short hl hn
  unfold codeE fitsE
  rw [if_pos hl, if_neg (by show ¬ 65536 < (codesT l).length; omega)]
theorem codeE_no {l : List InsD} (hl : l.all insF = false) : codeE l = .tuple #[.string ⟨#[]⟩, .int .i64 2] := by
  unfold codeE
  rw [if_neg (by simp [hl])]
theorem cfgL_f (l : List InsD) : cfgF (cfgL l) = l.all insF := by
  have w1 : wordF [109] = true := by decide +kernel
  have w2 : wordF [112] = true := by decide +kernel
  have w3 : wordF [97] = true := by decide +kernel
  have n0 : numF 0 = true := by decide
  simp [cfgF, cfgL, modF, partF, procF, w1, w2, w3, n0]
theorem cfgL_fit (l : List InsD) (hop : ∀ x ∈ l, x.op ≤ 255) (hn : l.length ≤ 1000) : CfgFit (cfgL l) where
  nm := by show 1 ≤ _; omega
  m := fun y hy => by
    obtain rfl : y = ⟨[109], 0, 0, [⟨[112], 0, 0, 0, [], 0, 0, [], [], [⟨[97], 0, 0, 0, l⟩]⟩]⟩ := by simpa [cfgL] using hy
    refine ⟨by show 1 ≤ _; omega, fun p hp => ?_⟩
    obtain rfl : p = ⟨[112], 0, 0, 0, [], 0, 0, [], [], [⟨[97], 0, 0, 0, l⟩]⟩ := by simpa using hp
    refine ⟨by show 0 ≤ _; omega, by show 0 ≤ _; omega, by show 0 ≤ _; omega, by show 1 ≤ _; omega, fun q hq => ?_⟩
    obtain rfl : q = ⟨[97], 0, 0, 0, l⟩ := by simpa using hq
    exact ⟨by show l.length ≤ _; omega, hop⟩
  nc := by show 0 ≤ _; omega
  c := fun y hy => by cases hy
  ns := by show 0 ≤ _; omega
  nl := by show 0 ≤ _; omega
  nv := by show 0 ≤ _; omega
  v := fun y hy => by cases hy
  nh := by show 0 ≤ _; omega
  h := fun y hy => by cases hy
  nk := by show 0 ≤ _; omega
  k := fun y hy => by cases hy
  nr := by show 0 ≤ _; omega
theorem cfgL_short {l : List InsD} (hl : l.all insF = true) (hn : l.length ≤ 100) : (cfgT (cfgL l)).length ≤ 65536 := by
  have h := cfgT_len (x := cfgL l) (by rw [cfgL_f]; exact hl)
  generalize (cfgT (cfgL l)).length = L at h ⊢
  simp [cfgC, cfgN, cfgL, modN, modC, partN, partC, procN, sumLen] at h
  omega
/-- The source of code, and of the configuration that holds it: their tokens. -/
theorem lens_both {l : List InsD} (hl : l.all insF = true) (hn : l.length ≤ 100) : ∃ n, (lexR (codesT l)).1.length = n ∧ (lexR (cfgT (cfgL l))).1.length = n + 28 ∧ n ≤ 65536 ∧ (lexR (codesT l)).2.2 = 0 ∧ (lexR (cfgT (cfgL l))).2.2 = 0 := by
  obtain ⟨ts, us, e1, -, e2, h⟩ := codes_lens hl (codesT_short hl (by omega)) (cfgL_short hl hn)
  have h0 := lexA_ok (codesT l).length 0 (codesT l) (Nat.le_refl _)
  have h1 := codesT_short hl (by omega)
  have e1' : lexR (codesT l) = (ts, 0, 0) := e1
  have hb : ts.length ≤ (codesT l).length := by
    have e3 := e1'
    unfold lexR at e3
    rw [if_neg (by omega)] at e3
    split at e3
    · rw [e3] at h0
      exact h0.2.1
    · injection e3 with e4 _
      rw [← e4]
      simp
  rw [e1', e2]
  exact ⟨ts.length, rfl, h, by omega, rfl, rfl⟩
end Go.Proofs.YtndpnpohdoggjaaGreatDoor
