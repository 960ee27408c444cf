/-
  Printed code, lexed and parsed: the code again; parsed code is printable.
-/
import Derived.Test.YtndpnpohdoggjaaGreatDoorYa
import Derived.Test.YtndpnpohdoggjaaGreatDoorPk4
namespace Go.Proofs.YtndpnpohdoggjaaGreatDoor
def tkI (x : InsD) : List (Nat × List UInt8) := (1, wordN insWords x.op) :: (((opsOf x).map fun n => (2, Lib.itoa n)) ++ [(3, [59])])
theorem words_fine : (insWords.all wordF) = true := by decide +kernel
theorem wordN_fine {n : Nat} (h : (wordN insWords n != []) = true) : wordF (wordN insWords n) = true := by
  unfold wordN at *
  by_cases h0 : n = 0
  · rw [if_pos h0] at h; simp at h
  · rw [if_neg h0] at h ⊢
    rw [List.getD_eq_getElem?_getD] at h ⊢
    cases e : insWords[n - 1]? with
    | none => rw [e] at h; simp at h
    | some s => exact List.all_eq_true.1 words_fine s (List.mem_of_getElem? e)
theorem opsC_head (l : List Int) (r : List UInt8) : ∃ c t, (catT (fun n => 32 :: Lib.itoa n) l ++ 59 :: r) = c :: t ∧ innerB c = false := by
  cases l with
  | nil => exact ⟨59, r, rfl, by decide⟩
  | cons a l => exact ⟨32, _, rfl, by decide⟩
theorem lx_ops {B : List UInt8} {kb : List (Nat × List UInt8)} (hb : LxF (59 :: B) kb) : ∀ l : List Int, l.all numF = true → LxF (catT (fun n => 32 :: Lib.itoa n) l ++ 59 :: B) ((l.map fun n => (2, Lib.itoa n)) ++ kb)
  | [], _ => by simpa [catT] using hb
  | n :: l, hl => by
    rw [List.all_cons, Bool.and_eq_true] at hl
    have ih := lx_ops hb l hl.2
    obtain ⟨c, t, e, hc⟩ := opsC_head l B
    have e2 : catT (fun n => 32 :: Lib.itoa n) (n :: l) ++ 59 :: B = 32 :: (Lib.itoa n ++ c :: t) := by
      rw [← e]
      simp [catT]
    rw [e] at ih
    rw [e2]
    exact lx_blank_app (by decide) (lx_num hl.1 hc ih)
theorem lx_ins {x : InsD} (hx : insF x = true) : LxF (insT x) (tkI x) := by
  simp only [insF, Bool.and_eq_true] at hx
  have h1 := lx_ops (B := []) (lx_sign_app (by decide) (by decide) (by decide) (by decide) (by decide) LxF.nil) (opsOf x) hx.2.1
  obtain ⟨c, t, e, hc⟩ := opsC_head (opsOf x) []
  rw [insT, List.append_assoc, e]
  rw [e] at h1
  exact lx_word (wordN_fine hx.1) hc h1
def tkC (l : List InsD) : List (Nat × List UInt8) := (l.map tkI).flatten
theorem lx_tail : ∀ l : List InsD, l.all insF = true → LxF (Lib.joinTail [32] (l.map insT)) (tkC l)
  | [], _ => LxF.nil
  | x :: l, hl => by
    rw [List.all_cons, Bool.and_eq_true] at hl
    have h := lx_blank_app (b := 32) (by decide) ((lx_ins hl.1).app (lx_tail l hl.2))
    simpa [Lib.joinTail, tkC] using h
theorem lx_codes {l : List InsD} (hl : l.all insF = true) : LxF (Lib.join (l.map insT) [32]) (tkC l) := by
  cases l with
  | nil => exact LxF.nil
  | cons x l =>
    rw [List.all_cons, Bool.and_eq_true] at hl
    rw [List.map_cons, Lib.join_cons]
    exact (lx_ins hl.1).app (lx_tail l hl.2)
theorem lx_lines : ∀ l : List InsD, l.all insF = true → LxF (catT codeT l) (tkC l)
  | [], _ => LxF.nil
  | x :: l, hl => by
    rw [List.all_cons, Bool.and_eq_true] at hl
    have h := lx_blank_app (b := 9) (by decide) (lx_blank_app (b := 9) (by decide) (lx_blank_app (b := 9) (by decide) ((lx_ins hl.1).app (lx_blank_app (b := 10) (by decide) (lx_lines l hl.2)))))
    simpa [catT, codeT, lnT, sayT, Arg.txt, Lib.repeatL, tkC] using h
/-- A lexer for texts that end behind a blank or a sign. -/
def lexF : Nat → List UInt8 → Option (List (Nat × List UInt8))
  | 0, _ => none
  | _ + 1, [] => some []
  | f + 1, b :: r =>
    if blankB b then lexF f r
    else if b == 35 then none
    else if letterB b then (if runN r < r.length ∧ runN r < 24 then (lexF f (r.drop (runN r))).map (fun k => (1, b :: r.take (runN r)) :: k) else none)
    else if digitB b then (if runN r < r.length ∧ numB (b :: r.take (runN r)) = true then (lexF f (r.drop (runN r))).map (fun k => (2, b :: r.take (runN r)) :: k) else none)
    else if signB b then (lexF f r).map (fun k => (3, [b]) :: k)
    else none
theorem run_split {r : List UInt8} (h : runN r < r.length) : ∃ v d B, r = v ++ d :: B ∧ v.all innerB = true ∧ innerB d = false ∧ runN r = v.length ∧ r.take (runN r) = v ∧ r.drop (runN r) = d :: B := by
  have e := List.takeWhile_append_dropWhile (p := innerB) (l := r)
  have hl : (r.takeWhile innerB).length = runN r := rfl
  cases hd : r.dropWhile innerB with
  | nil =>
    rw [hd, List.append_nil] at e
    rw [← hl, e] at h
    omega
  | cons d B =>
    rw [hd] at e
    have hnd : innerB d = false := by
      have := List.head?_dropWhile_not innerB r
      rw [hd] at this
      simpa using this
    clear hd
    generalize hT : r.takeWhile innerB = tw at e hl
    have hv : tw.all innerB = true := by rw [← hT]; exact List.all_takeWhile
    subst e
    exact ⟨tw, d, B, rfl, hv, hnd, hl.symm, by rw [← hl]; exact List.take_left, by rw [← hl]; exact List.drop_left⟩
theorem lx_run {b : UInt8} {v B : List UInt8} {d : UInt8} {k : Nat} {kb : List (Nat × List UInt8)} (n1 : blankB b = false) (n2 : (b == 35) = false) (ht : ∀ r, tokN (b :: (v ++ d :: (B ++ r))) = (k, v.length + 1, 0)) (hb : LxF (d :: B) kb) : LxF (b :: (v ++ d :: B)) ((k, b :: v) :: kb) := fun p r => by
  obtain ⟨ts, e, m⟩ := hb (p + (v.length + 1)) r
  refine ⟨⟨k, b :: v, p⟩ :: ts, ?_, by rw [List.map_cons, m]; rfl⟩
  rw [List.cons_append, List.append_assoc, List.cons_append, lx_at n1 n2 (ht r), List.take_succ_cons, List.drop_succ_cons, List.take_left, List.drop_left]
  rw [List.cons_append] at e
  rw [e]
  simp only [List.length_append, List.length_cons, List.cons_append, Prod.mk.injEq]
  rw [show p + (v.length + (B.length + 1) + 1) = p + (v.length + 1) + (B.length + 1) by omega]
  exact ⟨rfl, rfl⟩
theorem lexF_lx : ∀ (f : Nat) (l : List UInt8) (k : List (Nat × List UInt8)), lexF f l = some k → LxF l k
  | 0, l, k, h => by simp [lexF] at h
  | f + 1, [], k, h => by
    simp only [lexF, Option.some.injEq] at h
    subst h
    exact LxF.nil
  | f + 1, b :: r, k, h => by
    rw [lexF] at h
    split at h
    · exact lx_blank_app (by assumption) (lexF_lx f r k h)
    · rename_i n1
      split at h
      · cases h
      · rename_i n2
        have n1 : blankB b = false := by simpa using n1
        have n2 : (b == 35) = false := by simpa using n2
        split at h
        · rename_i hl
          split at h
          · rename_i hr
            obtain ⟨v, d, B, e, hv, hd, h3, h4, h5⟩ := run_split hr.1
            obtain ⟨k', hk, rfl⟩ := Option.map_eq_some_iff.1 h
            have ih := lexF_lx f _ _ hk
            rw [h5] at ih
            rw [h4]
            rw [e]
            refine lx_run n1 n2 (fun s => ?_) ih
            have hr2 : runN (v ++ d :: (B ++ s)) = v.length := run_all hv hd
            unfold tokN
            simp only [hl, if_true, hr2]
            rw [if_neg (by omega), Nat.add_comm]
          · cases h
        · rename_i hl
          split at h
          · rename_i hg
            split at h
            · rename_i hr
              obtain ⟨v, d, B, e, hv, hd, h3, h4, h5⟩ := run_split hr.1
              obtain ⟨k', hk, rfl⟩ := Option.map_eq_some_iff.1 h
              have ih := lexF_lx f _ _ hk
              rw [h5] at ih
              have hn := hr.2
              rw [h4] at hn ⊢
              rw [e]
              refine lx_run n1 n2 (fun s => ?_) ih
              have hr2 : runN (v ++ d :: (B ++ s)) = v.length := run_all hv hd
              unfold tokN
              simp only [hr2, List.take_left, hn, if_true]
              rw [if_neg hl, if_pos hg, Nat.add_comm]
            · cases h
          · rename_i hg
            split at h
            · rename_i hs
              obtain ⟨k', hk, rfl⟩ := Option.map_eq_some_iff.1 h
              exact lx_sign_app hs (by simpa using hl) (by simpa using hg) n1 n2 (lexF_lx f _ _ hk)
            · cases h
/-- The configuration that holds code alone. -/
def cfgL (l : List InsD) : CfgD := ⟨[⟨[109], 0, 0, [⟨[112], 0, 0, 0, [], 0, 0, [], [], [⟨[97], 0, 0, 0, l⟩]⟩]⟩], [], [], [], [], [], [], []⟩
def headL : List UInt8 := modH ⟨[109], 0, 0, []⟩ ++ (partH ⟨[112], 0, 0, 0, [], 0, 0, [], [], []⟩ ++ procH ⟨[97], 0, 0, 0, []⟩)
def endL : List UInt8 := lnT 2 [125] [] ++ (lnT 1 [125] [] ++ lnT 0 [125] [])
theorem cfgL_t (l : List InsD) : cfgT (cfgL l) = headL ++ (catT codeT l ++ endL) := by
  simp [cfgT, cfgL, headL, endL, catT, modT, partT, procT, modH, partH, procH, semasT, eventsT, boardsT, bufsT, List.append_assoc]
theorem head_lx : ∃ k, LxF headL k ∧ k.length = 25 := by
  have h : (lexF 200 headL).map List.length = some 25 := by decide +kernel
  obtain ⟨k, e, hk⟩ := Option.map_eq_some_iff.1 h
  exact ⟨k, lexF_lx _ _ _ e, hk⟩
theorem end_lx : ∃ k, LxF endL k ∧ k.length = 3 := by
  have h : (lexF 200 endL).map List.length = some 3 := by decide +kernel
  obtain ⟨k, e, hk⟩ := Option.map_eq_some_iff.1 h
  exact ⟨k, lexF_lx _ _ _ e, hk⟩
/-- The tokens of the code alone, and of the configuration that holds it. -/
theorem codes_lens {l : List InsD} (hl : l.all insF = true) (h1 : (Lib.join (l.map insT) [32]).length ≤ 65536) (h2 : (cfgT (cfgL l)).length ≤ 65536) :
    ∃ ts us, lexR (Lib.join (l.map insT) [32]) = (ts, 0, 0) ∧ ts.map tk2 = tkC l ∧ lexR (cfgT (cfgL l)) = (us, 0, 0) ∧ us.length = ts.length + 28 := by
  obtain ⟨ts, e1, m1⟩ := (lx_codes hl).whole h1
  obtain ⟨k1, a1, l1⟩ := head_lx
  obtain ⟨k2, a2, l2⟩ := end_lx
  have h3 := a1.app ((lx_lines l hl).app a2)
  rw [← cfgL_t] at h3
  obtain ⟨us, e2, m2⟩ := h3.whole h2
  refine ⟨ts, us, e1, m1, e2, ?_⟩
  have h4 := congrArg List.length m1
  have h5 := congrArg List.length m2
  simp only [List.length_map, List.length_append] at h4 h5
  omega
theorem find_word : ∀ n : Fin 26, wordN insWords n.val = [] ∨ findN insWords (wordN insWords n.val) = n.val := by decide +kernel
theorem findN_word {n : Nat} (h : (wordN insWords n != []) = true) : findN insWords (wordN insWords n) = n ∧ n ≠ 0 := by
  have h25 : n < 26 := by
    rcases Nat.lt_or_ge n 26 with h1 | h1
    · exact h1
    · exfalso
      unfold wordN at h
      rw [if_neg (by omega), List.getD_eq_getElem?_getD, List.getElem?_eq_none (by show 25 ≤ n - 1; omega)] at h
      simp at h
  have h0 : n ≠ 0 := fun e => by rw [e] at h; simp [wordN] at h
  refine ⟨?_, h0⟩
  rcases find_word ⟨n, h25⟩ with e | e
  · rw [show wordN insWords n = [] from e] at h; simp at h
  · exact e
theorem opsN_le (n : Nat) : (wordN insOps n).length ≤ 3 := by
  unfold wordN
  split
  · simp
  · rw [List.getD_eq_getElem?_getD]
    cases e : insOps[n - 1]? with
    | none => simp
    | some s =>
      have h : (insOps.all fun s => decide (s.length ≤ 3)) = true := by decide
      simpa using List.all_eq_true.1 h s (List.mem_of_getElem? e)
theorem tk2_eq {t : Tok} {k : Nat} {s : List UInt8} (h : tk2 t = (k, s)) : t.kind = k ∧ t.text = s := by
  injection h with h1 h2
  exact ⟨h1, h2⟩
theorem ops_parse : ∀ (l : List Int) (ts r : List Tok), l.all numF = true → ts.map tk2 = (l.map fun n => (2, Lib.itoa n)) → opsP l.length (ts ++ r) = .ok l r
  | [], ts, r, _, h => by
    have : ts = [] := by simpa using h
    subst this
    rfl
  | n :: l, ts, r, hl, h => by
    rw [List.all_cons, Bool.and_eq_true] at hl
    cases ts with
    | nil => simp at h
    | cons t ts =>
      rw [List.map_cons, List.map_cons, List.cons.injEq] at h
      obtain ⟨hk, hs⟩ := tk2_eq h.1
      obtain ⟨-, -, -, -, -, -, hv⟩ := num_form hl.1
      have h1 : numP (t :: (ts ++ r)) = .ok n (ts ++ r) := by
        refine (bnd_ok (m := nextP 2) (a := t.text) (r' := ts ++ r) ?_).trans ?_
        · unfold nextP
          rw [if_pos (by show (t.kind == 2) = true; rw [hk]; rfl)]
          rfl
        · rw [hs, hv]
          rfl
      show opsP (l.length + 1) (t :: (ts ++ r)) = _
      refine (bnd_ok h1).trans ?_
      exact (bnd_ok (ops_parse l ts r hl.2 h.2)).trans rfl
theorem ins_parse {x : InsD} (hx : insF x = true) (ts r : List Tok) (h : ts.map tk2 = tkI x) : insP (ts ++ r) = .ok x r := by
  obtain ⟨op, a, b, c⟩ := x
  simp only [insF, Bool.and_eq_true] at hx
  obtain ⟨hw, hn, hz⟩ := hx
  obtain ⟨hf, h0⟩ := findN_word hw
  unfold tkI at h
  cases ts with
  | nil => simp at h
  | cons t ts =>
    rw [List.map_cons, List.cons.injEq] at h
    obtain ⟨hk, hs⟩ := tk2_eq h.1
    obtain ⟨t1, t2, rfl, h3, h4⟩ := List.map_eq_append_iff.1 h.2
    have h1 : ofP insWords (t :: (t1 ++ t2 ++ r)) = .ok op (t1 ++ (t2 ++ r)) := by
      unfold ofP
      have e : findN insWords (hdT (t :: (t1 ++ t2 ++ r))).text = op := by
        show findN insWords t.text = op
        rw [hs]
        exact hf
      rw [e, if_pos (by rw [Bool.and_eq_true]; exact ⟨by simpa using h0, by show (t.kind == 1) = true; rw [hk]; rfl⟩)]
      rw [List.tail_cons, List.append_assoc]
    have hlen : (opsOf ⟨op, a, b, c⟩).length = (wordN insOps op).length := by
      have := opsN_le op
      simp only [opsOf, List.length_take, List.length_cons, List.length_nil]
      omega
    have h2 := ops_parse (opsOf ⟨op, a, b, c⟩) t1 (t2 ++ r) hn h3
    rw [hlen] at h2
    cases t2 with
    | nil => simp at h4
    | cons t' t2 =>
      rw [List.map_cons, List.cons.injEq] at h4
      obtain ⟨hk', hs'⟩ := tk2_eq h4.1
      have : t2 = [] := by simpa using h4.2
      subst this
      have h5 : mustP [59] (t' :: r) = .ok () r := by
        unfold mustP
        rw [if_pos (by show (t'.text == [59] && (t'.kind == 1 || t'.kind == 3)) = true; rw [hs', hk']; rfl)]
        rfl
      show insP (t :: (t1 ++ [t'] ++ r)) = _
      refine (bnd_ok h1).trans ?_
      refine (bnd_ok h2).trans ?_
      refine (bnd_ok h5).trans ?_
      show Res.ok _ _ = _
      congr 1
      have h3' := opsN_le op
      unfold opsOf
      simp only at hz ⊢
      match hq : (wordN insOps op).length, hz, h3' with
      | 0, hz, _ => simp [zeroF] at hz; simp [hz]
      | 1, hz, _ => simp [zeroF] at hz; simp [hz]
      | 2, hz, _ => simp [zeroF] at hz; simp [hz]
      | 3, hz, _ => simp
      | k + 4, hz, h3' => omega
theorem loop_parse : ∀ (l acc : List InsD) (f : Nat) (ts : List Tok), l.all insF = true → l.length < f → ts.map tk2 = tkC l → codeLoop f acc ts = .ok (acc ++ l) []
  | [], acc, f, ts, _, hf, h => by
    have : ts = [] := by simpa [tkC] using h
    subst this
    cases f with
    | zero => simp at hf
    | succ f => simp [codeLoop, hdT]
  | x :: l, acc, f, ts, hl, hf, h => by
    rw [List.all_cons, Bool.and_eq_true] at hl
    rw [tkC, List.map_cons, List.flatten_cons] at h
    obtain ⟨t1, t2, rfl, h3, h4⟩ := List.map_eq_append_iff.1 h
    cases f with
    | zero => simp at hf
    | succ f =>
      have hk : ((hdT (t1 ++ t2)).kind == 1) = true := by
        cases t1 with
        | nil => simp [tkI] at h3
        | cons t t1 =>
          rw [List.map_cons, tkI, List.cons.injEq] at h3
          have := (tk2_eq h3.1).1
          show (t.kind == 1) = true
          rw [this]
          rfl
      show (if (hdT (t1 ++ t2)).kind == 1 then _ else _) = _
      rw [if_pos hk]
      refine (bnd_ok (ins_parse hl.1 t1 t2 h3)).trans ?_
      rw [loop_parse l (acc ++ [x]) f t2 hl.2 (by simp at hf; omega) h4]
      simp
theorem tkC_len : ∀ l : List InsD, l.length ≤ (tkC l).length
  | [] => Nat.zero_le _
  | x :: l => by
    have := tkC_len l
    simp only [tkC, List.map_cons, List.flatten_cons, List.length_append, List.length_cons, tkI] at this ⊢
    omega
/-- The tokens of printed code are parsed into the code. -/
theorem code_back {l : List InsD} (hl : l.all insF = true) {ts : List Tok} (h : ts.map tk2 = tkC l) : allCodeP ts = .ok l [] := by
  have h1 := congrArg List.length h
  rw [List.length_map] at h1
  have h2 := tkC_len l
  have h3 : codeP ts = .ok l [] := loop_parse l [] (ts.length + 1) ts hl (by omega) h
  exact (bnd_ok h3).trans rfl
theorem bnd_invY {α β : Type} {m : Ps α} {f : α → Ps β} {r r' : List Tok} {b : β} (h : (m >>= f) r = .ok b r') : ∃ a r1, m r = .ok a r1 ∧ f a r1 = .ok b r' := by
  cases hm : m r with
  | ok a r1 => exact ⟨a, r1, rfl, (bnd_ok (f := f) hm).symm.trans h⟩
  | bad e r1 => rw [bnd_bad hm] at h; cases h
def NumT (r : List Tok) : Prop := ∀ t ∈ r, t.kind = 2 → numV t.text ≤ 1073741824
theorem NumT.tail {r : List Tok} (h : NumT r) : NumT r.tail := fun t ht => h t (List.mem_of_mem_tail ht)
theorem num_fine {r r' : List Tok} {n : Int} (hr : NumT r) (h : numP r = .ok n r') : numF n = true ∧ NumT r' := by
  obtain ⟨t, r1, h1, h2⟩ := bnd_invY h
  unfold nextP at h1
  split at h1
  · rename_i hk
    injection h1 with e1 e2
    injection h2 with e3 e4
    subst e1 e2 e3 e4
    refine ⟨?_, hr.tail⟩
    cases r with
    | nil => exact absurd hk (by decide)
    | cons t r =>
      have h9 : numV (hdT (t :: r)).text ≤ 1073741824 := hr t List.mem_cons_self (by simpa [hdT] using hk)
      simp only [numF, Bool.and_eq_true, decide_eq_true_eq]
      omega
  · cases h1
theorem ops_fine : ∀ (k : Nat) (r r' : List Tok) (l : List Int), NumT r → opsP k r = .ok l r' → l.length = k ∧ l.all numF = true ∧ NumT r'
  | 0, r, r', l, hr, h => by
    injection h with e1 e2
    subst e1 e2
    exact ⟨rfl, rfl, hr⟩
  | k + 1, r, r', l, hr, h => by
    obtain ⟨n, r1, h1, h2⟩ := bnd_invY h
    obtain ⟨m, r2, h3, h4⟩ := bnd_invY h2
    injection h4 with e1 e2
    subst e1 e2
    obtain ⟨f1, g1⟩ := num_fine hr h1
    obtain ⟨f2, f3, g2⟩ := ops_fine k r1 r2 m g1 h3
    exact ⟨by simp [f2], by rw [List.all_cons, f1, f3]; rfl, g2⟩
theorem of_fine {r r' : List Tok} {n : Nat} (hr : NumT r) (h : ofP insWords r = .ok n r') : (wordN insWords n != []) = true ∧ NumT r' := by
  unfold ofP at h
  split at h
  · rename_i hc
    injection h with e1 e2
    subst e1 e2
    refine ⟨?_, hr.tail⟩
    rw [Bool.and_eq_true] at hc
    have h1 : findN insWords (hdT r).text ≠ 0 := by simpa using hc.1
    generalize (hdT r).text = s at h1 ⊢
    unfold findN at h1 ⊢
    cases e : insWords.findIdx? (· == s) with
    | none => rw [e] at h1; exact absurd rfl h1
    | some i =>
      obtain ⟨hi, -⟩ := List.findIdx?_eq_some_iff_getElem.1 e
      show (wordN insWords (i + 1) != []) = true
      have h25 : i < 25 := hi
      have hall : ∀ j : Fin 25, (wordN insWords (j.val + 1) != []) = true := by decide
      exact hall ⟨i, h25⟩
  · cases h
theorem must_fine {r r' : List Tok} {s : List UInt8} (hr : NumT r) (h : mustP s r = .ok () r') : NumT r' := by
  unfold mustP at h
  split at h
  · injection h with _ e2
    subst e2
    exact hr.tail
  · cases h
theorem ins_fine {r r' : List Tok} {x : InsD} (hr : NumT r) (h : insP r = .ok x r') : insF x = true ∧ NumT r' := by
  obtain ⟨op, r1, h1, h⟩ := bnd_invY h
  obtain ⟨l, r2, h2, h⟩ := bnd_invY h
  obtain ⟨u, r3, h3, h⟩ := bnd_invY h
  injection h with e1 e2
  subst e1 e2
  obtain ⟨f1, g1⟩ := of_fine hr h1
  obtain ⟨f2, f3, g2⟩ := ops_fine _ _ _ _ g1 h2
  refine ⟨?_, must_fine g2 h3⟩
  have h3' := opsN_le op
  simp only [insF, Bool.and_eq_true]
  refine ⟨f1, ?_⟩
  match hq : (wordN insOps op).length, h3' with
  | 0, _ =>
    rw [hq] at f2
    have : l = [] := List.eq_nil_of_length_eq_zero f2
    subst this
    simp [zeroF]
  | 1, _ =>
    rw [hq] at f2
    match l, f2, f3 with
    | [a], _, f3 => simpa [zeroF] using f3
  | 2, _ =>
    rw [hq] at f2
    match l, f2, f3 with
    | [a, b], _, f3 => simpa [zeroF] using f3
  | 3, _ =>
    rw [hq] at f2
    match l, f2, f3 with
    | [a, b, c], _, f3 => simpa [zeroF] using f3
  | k + 4, h3' => omega
theorem loop_fine : ∀ (f : Nat) (acc : List InsD) (r r' : List Tok) (l : List InsD), NumT r → acc.all insF = true → codeLoop f acc r = .ok l r' → l.all insF = true
  | 0, acc, r, r', l, _, ha, h => by
    injection h with e1 _
    rw [← e1]
    exact ha
  | f + 1, acc, r, r', l, hr, ha, h => by
    have h : (if (hdT r).kind == 1 then ((insP >>= fun x => codeLoop f (acc ++ [x])) r : Res (List InsD)) else .ok acc r) = .ok l r' := h
    split at h
    · obtain ⟨x, r1, h1, h2⟩ := bnd_invY h
      obtain ⟨f1, g1⟩ := ins_fine hr h1
      exact loop_fine f _ r1 r' l g1 (by rw [List.all_append, ha]; simp [f1]) h2
    · injection h with e1 _
      rw [← e1]
      exact ha
theorem code_fine {r r' : List Tok} {l : List InsD} (hr : NumT r) (h : allCodeP r = .ok l r') : l.all insF = true := by
  obtain ⟨k, r1, h1, h2⟩ := bnd_invY h
  have h3 := loop_fine _ _ _ _ _ hr (by rfl) h1
  unfold endP at h2
  split at h2
  · injection h2 with e1 _
    rw [← e1]
    exact h3
  · cases h2
end Go.Proofs.YtndpnpohdoggjaaGreatDoor
