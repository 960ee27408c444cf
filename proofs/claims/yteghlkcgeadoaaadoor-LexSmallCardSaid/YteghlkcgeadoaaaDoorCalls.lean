/-
  lex: what callers of the two lexers get; plain bounds.
-/
import Derived.Test.YteghlkcgeadoaaaDoorRLex
import Derived.Test.YteghlkcgeadoaaaDoorJoin
import Derived.Test.YteghlkcgeadoaaaDoorRJoin
import Derived.Test.YteghlkcgeadoaaaDoorTheirs
import Derived.Test.YteghlkcgeadoaaaDoorRPlace
namespace Go.Proofs.YteghlkcgeadoaaaDoor
open Go.RowKit
theorem lexA_ok : ∀ (n p : Nat) (l : List UInt8), l.length ≤ n → (∀ t ∈ (lexA p l).1, t.text.length ≤ l.length ∧ 1 ≤ t.kind ∧ t.kind ≤ 3 ∧ p ≤ t.at_ ∧ t.at_ + t.text.length ≤ p + l.length) ∧ (lexA p l).1.length ≤ l.length ∧ (lexA p l).2.1 ≤ p + l.length ∧ (lexA p l).2.2 ≤ 72
  | n, p, l, hn => by
    rw [lexA_eq]
    have hd : (l.drop (skipN false l)).length = l.length - skipN false l := List.length_drop
    have hsk := skipN_le false l
    cases h : l.drop (skipN false l) with
    | nil => simp
    | cons b r =>
      rw [h] at hd
      simp only [List.length_cons] at hd
      have hle := tokN_le b r
      have hkd : (tokN (b :: r)).2.2 = 0 → 1 ≤ (tokN (b :: r)).1 ∧ (tokN (b :: r)).1 ≤ 3 := by
        intro h0
        unfold tokN at h0 ⊢
        simp only at h0 ⊢
        split
        · split <;> simp
        · split
          · split <;> simp
          · split <;> simp
      have her : (tokN (b :: r)).2.2 ≤ 72 := by
        unfold tokN
        simp only
        split
        · split <;> simp
        · split
          · split <;> simp
          · split <;> simp
      simp only
      by_cases h0 : (tokN (b :: r)).2.2 = 0
      · have hp := tokN_pos b r h0
        have hl : ((b :: r).drop (tokN (b :: r)).2.1).length = r.length + 1 - (tokN (b :: r)).2.1 := by rw [List.length_drop, List.length_cons]
        cases n with
        | zero => omega
        | succ n =>
          obtain ⟨i1, i2, i3, i4⟩ := lexA_ok n (p + skipN false l + (tokN (b :: r)).2.1) ((b :: r).drop (tokN (b :: r)).2.1) (by omega)
          rw [if_pos h0]
          rw [hl] at i1 i2 i3
          refine ⟨fun t ht => ?_, by simp only [List.length_cons]; omega, by simp only; omega, i4⟩
          rcases List.mem_cons.1 ht with rfl | ht
          · have hk := hkd h0
            have hlt : ((b :: r).take (tokN (b :: r)).2.1).length = (tokN (b :: r)).2.1 := by rw [List.length_take, List.length_cons]; omega
            simp only [hlt]
            omega
          · obtain ⟨j1, j2, j3, j4, j5⟩ := i1 t ht
            omega
      · rw [if_neg h0]
        exact ⟨fun t ht => by simp at ht, by simp, by simp only; omega, her⟩
/-- What is known of every result of Lex. -/
structure LexOk (l : List UInt8) : Prop where
  texts : ∀ t ∈ (lexR l).1, t.text.length ≤ 65536 ∧ 1 ≤ t.kind ∧ t.kind ≤ 3 ∧ t.at_ + t.text.length ≤ l.length
  count : (lexR l).1.length ≤ 65536 ∧ (lexR l).1.length ≤ l.length
  at_ : (lexR l).2.1 ≤ 65536 ∧ (lexR l).2.1 ≤ l.length
  err : (lexR l).2.2 ≤ 72
  none_ : (lexR l).2.2 ≠ 0 → (lexR l).1 = []
theorem lex_ok (l : List UInt8) : LexOk l := by
  have h := lexA_ok l.length 0 l (Nat.le_refl _)
  obtain ⟨h1, h2, h3, h4⟩ := h
  by_cases hl : 65536 < l.length
  · have e : lexR l = ([], 0, 3) := by unfold lexR; rw [if_pos hl]
    refine ⟨?_, ?_, ?_, ?_, ?_⟩ <;> rw [e] <;> simp
  · by_cases h0 : (lexA 0 l).2.2 = 0
    · have e : lexR l = lexA 0 l := by unfold lexR; rw [if_neg hl, if_pos h0]
      refine ⟨?_, ?_, ?_, ?_, ?_⟩ <;> rw [e]
      · intro t ht; obtain ⟨a, b, c, d, f⟩ := h1 t ht; omega
      · omega
      · omega
      · exact h4
      · exact fun h => absurd h0 h
    · have e : lexR l = ([], (lexA 0 l).2.1, (lexA 0 l).2.2) := by unfold lexR; rw [if_neg hl, if_neg h0]
      refine ⟨?_, ?_, ?_, ?_, ?_⟩ <;> rw [e]
      · intro t ht; simp at ht
      · simp
      · simp only; omega
      · exact h4
      · exact fun _ => rfl
def toksZ (l : List UInt8) : List TokZ := (lexR l).1.map Tok.toZ
theorem kindOk (l : List UInt8) : KindOk (toksZ l) := by
  intro t ht
  obtain ⟨t', ht', rfl⟩ := List.mem_map.1 ht
  obtain ⟨_, h1, h2, _⟩ := (lex_ok l).texts t' ht'
  unfold Tok.toZ
  simp only
  omega
theorem joinT_bound : ∀ (ts : List TokZ), (∀ t ∈ ts, t.text.size ≤ 65536) → (joinT ts).length ≤ ts.length * 65537
  | ts, h => by
    obtain ⟨n, hn⟩ : ∃ n, ts.length = n := ⟨_, rfl⟩
    induction n generalizing ts with
    | zero => rw [List.eq_nil_of_length_eq_zero hn]; simp [joinT, Lib.join, List.intercalate]
    | succ n ih =>
      rcases List.eq_nil_or_concat ts with rfl | ⟨b, t, rfl⟩
      · simp at hn
      · rw [List.concat_eq_append] at h hn ⊢
        have hb := ih b (fun x hx => h x (by simp [hx])) (by simpa using hn)
        have ht := h t (by simp)
        rw [joinT_snoc]
        have e : t.text.data.toList.length = t.text.size := by simp
        have e2 : (b ++ [t]).length = b.length + 1 := by simp
        rw [e2]
        split
        · simp only [List.nil_append, e]; omega
        · simp only [List.length_append, List.length_cons, List.length_nil, e]; omega
theorem joinT_small (l : List UInt8) : (joinT (toksZ l)).length ≤ 140737488355328 := by
  have h := joinT_bound (toksZ l) (fun t ht => by
    obtain ⟨t', ht', rfl⟩ := List.mem_map.1 ht
    have := ((lex_ok l).texts t' ht').1
    unfold Tok.toZ
    simpa [ByteArray.size] using this)
  have h2 := (lex_ok l).count.1
  have e : (toksZ l).length = (lexR l).1.length := by simp [toksZ]
  rw [e] at h
  omega
/-- The result of Lex, as callers read it. -/
def LexC (ts : List TokZ) (n : Nat) (p er : Int) (w : World) (e : Ending) (w' : World) : Prop :=
  ∃ A cap, e = .returned (.tuple #[.slice A n cap, .int .i64 p, .int .i64 er]) ∧ TRows .u8 w' A ts ∧ Below w.heap.size w w'
theorem lex_call (src : ByteArray) (w : World) (hE : Env w) : Calls Tryd.prog 8 #[.string src] w (LexC (toksZ src.data.toList) (lexR src.data.toList).1.length ((lexR src.data.toList).2.1 : Int) ((lexR src.data.toList).2.2 : Int) w) := by
  refine (lex_any src w hE).mono ?_
  rintro e w' ⟨v, rfl, ho, -, hb⟩
  obtain ⟨a, c, rfl, h⟩ := trows_own (ts := toksZ src.data.toList) ho (by simp [toksZ])
  exact ⟨a, c, rfl, h, hb⟩
def RLexC (ts : List TokZ) (n : Nat) (p er : Int) (w : World) (e : Ending) (w' : World) : Prop :=
  ∃ A cap, e = .returned (.tuple #[.slice A n cap, .int .i64 p, .int .i64 er]) ∧ TRows .i64 w' A ts ∧ Below w.heap.size w w'
theorem rlex_call (src : ByteArray) (w : World) : Calls Tryd.prog 9 #[.string src] w (RLexC (toksZ src.data.toList) (lexR src.data.toList).1.length ((lexR src.data.toList).2.1 : Int) ((lexR src.data.toList).2.2 : Int) w) := by
  refine (rlex_any src w).mono ?_
  rintro e w' ⟨v, rfl, ho, hb⟩
  obtain ⟨a, c, rfl, h⟩ := trows_own (ts := toksZ src.data.toList) ho (by simp [toksZ])
  exact ⟨a, c, rfl, h, hb⟩
/-- At a source whose result is known. -/
theorem lex_at (src : ByteArray) (l : List Tok) (n p er : Nat) (hn : l.length = n) (h : lexR src.data.toList = (l, p, er)) (w : World) (hE : Env w) : Calls Tryd.prog 8 #[.string src] w (LexC (l.map Tok.toZ) n (p : Int) (er : Int) w) := by
  have := lex_call src w hE
  unfold toksZ at this
  rw [h] at this
  rw [← hn]
  exact this
theorem join_call (A : Option Addr) (n cap : Nat) (ts : List TokZ) (w : World) (HL : Hid (ts.length = n)) (hn : n ≤ 1048576) (hR : Hid (TRows .u8 w A ts)) (hj : Hid ((joinT ts).length ≤ 140737488355328)) :
    Calls Tryd.prog 11 #[.slice A n cap] w fun e w' => e = .returned (.string (joinS ts)) ∧ Below w.heap.size w w' := join_any A n cap ts w HL hn hR hj
end Go.Proofs.YteghlkcgeadoaaaDoor
