/-
  The reference's Lex against the plain lexer: the states of its loop.
-/
import Derived.Test.YtlngbjphagnloaaGreatDoorPk6
import Derived.Test.YtlngbjphagnloaaGreatDoorRNum
namespace Go.Proofs.YtlngbjphagnloaaGreatDoor
open Go.RowKit
theorem lexA_at (src : ByteArray) (p kd ln er : Nat) (hj : p < src.size) (h0 : skipN false ((toksL src).drop p) = 0) (ht : tokN ((toksL src).drop p) = (kd, ln, er)) :
    lexA p ((toksL src).drop p) = if er = 0 then (⟨kd, ((toksL src).drop p).take ln, p⟩ :: (lexA (p + ln) ((toksL src).drop (p + ln))).1, (lexA (p + ln) ((toksL src).drop (p + ln))).2) else ([], p, er) := by
  rw [lexA_eq, h0, List.drop_zero, toksL_drop src p hj]
  rw [toksL_drop src p hj] at ht
  simp only [ht]
  have e1 : (src[p] :: (toksL src).drop (p + 1)).drop ln = (toksL src).drop (p + ln) := by rw [← toksL_drop src p hj, List.drop_drop]
  rw [e1]
  rfl
/-- Where the reference stands: at p, with these tokens. -/
def RAt (src : ByteArray) (p : Nat) (pre : List Tok) : Prop := p ≤ src.size ∧ lexA 0 (toksL src) = (pre ++ (lexA p ((toksL src).drop p)).1, (lexA p ((toksL src).drop p)).2)
theorem RAt.start (src : ByteArray) : RAt src 0 [] := ⟨Nat.zero_le _, rfl⟩
theorem lexA_to (src : ByteArray) (p q : Nat) (h : skipTo src p = skipTo src q) : lexA p ((toksL src).drop p) = lexA q ((toksL src).drop q) := by
  have e : ∀ j, lexA j ((toksL src).drop j) = lexA (skipTo src j) ((toksL src).drop (skipTo src j)) := by
    intro j
    rw [lexA_skip j]
    unfold skipTo
    rw [List.drop_drop]
  rw [e p, e q, h]
theorem RAt.to {src : ByteArray} {p q : Nat} {pre : List Tok} (h : RAt src p pre) (hq : q ≤ src.size) (he : skipTo src p = skipTo src q) : RAt src q pre :=
  ⟨hq, by rw [h.2, lexA_to src p q he]⟩
theorem RAt.blank {src : ByteArray} {p : Nat} {pre : List Tok} (h : RAt src p pre) (hp : p < src.size) (hb : blankB src[p] = true) : RAt src (p + 1) pre := by
  refine h.to hp ?_
  unfold skipTo
  rw [toksL_drop src p hp, skipN_f, if_pos hb]
  omega
theorem RAt.hash {src : ByteArray} {p : Nat} {pre : List Tok} (h : RAt src p pre) (hp : p < src.size) (hb : src[p] = 35) : RAt src (runTo lineT src p) pre ∧ p < runTo lineT src p := by
  have h1 := runTo_le lineT src (p + 1) hp
  have h2 := runTo_yes lineT src p hp (by rw [hb]; rfl)
  exact ⟨h.to (by omega) (skipTo_hash src p hp hb).symm, by omega⟩
theorem skip_here {src : ByteArray} {p : Nat} (hp : p < src.size) (h1 : blankB src[p] = false) (h2 : (src[p] == 35) = false) : skipN false ((toksL src).drop p) = 0 := by
  rw [toksL_drop src p hp, skipN_f, h1, h2]
  simp
theorem RAt.tok {src : ByteArray} {p kd ln : Nat} {pre : List Tok} (h : RAt src p pre) (hp : p < src.size) (h1 : blankB src[p] = false) (h2 : (src[p] == 35) = false) (ht : tokN ((toksL src).drop p) = (kd, ln, 0)) :
    RAt src (p + ln) (pre ++ [⟨kd, ((toksL src).drop p).take ln, p⟩]) ∧ p < p + ln := by
  have hl : (toksL src).length = src.size := by simp [toksL]
  have e0 : tokN ((toksL src).drop p) = tokN (src[p] :: (toksL src).drop (p + 1)) := by rw [toksL_drop src p hp]
  have e1 : 1 ≤ ln := by
    have := tokN_pos src[p] ((toksL src).drop (p + 1))
    rw [← e0, ht] at this
    exact this rfl
  have e2 : ln ≤ (src.size - (p + 1)) + 1 := by
    have := tokN_le src[p] ((toksL src).drop (p + 1))
    rw [← e0, ht, List.length_drop, hl] at this
    exact this
  refine ⟨⟨by omega, ?_⟩, by omega⟩
  rw [h.2, lexA_at src p kd ln 0 hp (skip_here hp h1 h2) ht, if_pos rfl]
  simp
theorem RAt.bad {src : ByteArray} {p kd ln er : Nat} {pre : List Tok} (h : RAt src p pre) (hs : src.size ≤ 65536) (hp : p < src.size) (h1 : blankB src[p] = false) (h2 : (src[p] == 35) = false) (ht : tokN ((toksL src).drop p) = (kd, ln, er)) (he : er ≠ 0) :
    lexR src.data.toList = ([], p, er) := by
  have hll : ¬ 65536 < src.data.toList.length := by simp; show src.size ≤ 65536; exact hs
  have e := h.2
  rw [lexA_at src p kd ln er hp (skip_here hp h1 h2) ht, if_neg he] at e
  unfold lexR
  rw [if_neg hll]
  show (if (lexA 0 (toksL src)).2.2 = 0 then lexA 0 (toksL src) else ([], (lexA 0 (toksL src)).2.1, (lexA 0 (toksL src)).2.2)) = _
  rw [e]
  simp only
  rw [if_neg he]
theorem RAt.done {src : ByteArray} {p : Nat} {pre : List Tok} (h : RAt src p pre) (hs : src.size ≤ 65536) (hp : src.size ≤ p) : lexR src.data.toList = (pre, 0, 0) := by
  have hll : ¬ 65536 < src.data.toList.length := by simp; show src.size ≤ 65536; exact hs
  have e := h.2
  rw [List.drop_eq_nil_of_le (by simpa [toksL] using hp), lexA_nil] at e
  unfold lexR
  rw [if_neg hll]
  show (if (lexA 0 (toksL src)).2.2 = 0 then lexA 0 (toksL src) else _) = _
  rw [e]
  simp
/-- A piece of the source, byte by byte. -/
theorem piece (src : ByteArray) (p q : Nat) (h1 : p < q) (h2 : q ≤ src.size) : (src.extract p q).size = q - p ∧ (src.extract p q).data.toList = ((toksL src).drop p).take (q - p) ∧ (∀ (k : Nat) (hk : k < (src.extract p q).size), ∃ h : p + k < src.size, (src.extract p q)[k] = src[p + k]) := by
  have hz : (src.extract p q).size = q - p := by rw [ByteArray.size_extract]; omega
  refine ⟨hz, ?_, fun k hk => ⟨by omega, ?_⟩⟩
  · rw [Lib.extract_data]; rfl
  · have hb : p + k < src.data.size := by show p + k < src.size; omega
    show (src.extract p q).data[k] = src.data[p + k]
    simp [ByteArray.data_extract]
theorem run_inner (p : UInt8 → Bool) (src : ByteArray) (j : Nat) (k : Nat) (h1 : j ≤ k) (h2 : k < runTo p src j) : ∃ h : k < src.size, p src[k] = true := by
  unfold runTo at h2
  have hlt : k - j < (((toksL src).drop j).takeWhile p).length := by omega
  have hpre := List.takeWhile_prefix (l := (toksL src).drop j) p
  have hle := hpre.length_le
  rw [List.length_drop, show (toksL src).length = src.size by simp [toksL]] at hle
  have hk : k < src.size := by omega
  refine ⟨hk, ?_⟩
  have hall := List.all_takeWhile (l := (toksL src).drop j) (p := p)
  rw [List.all_eq_true] at hall
  have hm := hall _ (List.getElem_mem hlt)
  have he := hpre.getElem hlt
  rw [he] at hm
  have e2 : ((toksL src).drop j)[k - j]'(by rw [List.length_drop, show (toksL src).length = src.size by simp [toksL]]; omega) = src[k] := by
    rw [List.getElem_drop]
    show src.data.toList[j + (k - j)]'_ = _
    simp only [show j + (k - j) = k from by omega]
    rfl
  rw [e2] at hm
  exact hm
end Go.Proofs.YtlngbjphagnloaaGreatDoor
