/-
  parse: the reference's words: splitting at blanks (plain).
-/
import Derived.Test.YtgbfaompondolaaGreatDoorPk1
namespace Go.Proofs.YtgbfaompondolaaGreatDoor
/-- One byte: the finished words, the word so far. -/
def stpW (s : List (List UInt8) × List UInt8) (b : UInt8) : List (List UInt8) × List UInt8 := if b = 32 then (s.1 ++ [s.2], []) else (s.1, s.2 ++ [b])
def splitS (l : List UInt8) : List (List UInt8) := (l.foldl stpW ([], [])).1 ++ [(l.foldl stpW ([], [])).2]
theorem stp_take {l : List UInt8} {i : Nat} {b : UInt8} (h : l[i]? = some b) : (l.take (i + 1)).foldl stpW ([], []) = stpW ((l.take i).foldl stpW ([], [])) b := by
  obtain ⟨hi, rfl⟩ := List.getElem?_eq_some_iff.1 h
  rw [List.take_succ_eq_append_getElem hi, List.foldl_append]
  rfl
/-- The word so far is what was read last. -/
theorem stp_cur : ∀ (l : List UInt8) (s : List (List UInt8) × List UInt8), ∃ a, s.2 ++ l = a ++ (l.foldl stpW s).2
  | [], s => ⟨[], by simp⟩
  | b :: l, s => by
    obtain ⟨a, ha⟩ := stp_cur l (stpW s b)
    rw [List.foldl_cons]
    by_cases hb : b = 32
    · subst hb
      have e : (stpW s 32).2 = [] := rfl
      rw [e] at ha
      exact ⟨s.2 ++ [32] ++ a, by rw [List.append_assoc, ← ha]; simp⟩
    · have e : (stpW s b).2 = s.2 ++ [b] := by unfold stpW; rw [if_neg hb]
      rw [e] at ha
      exact ⟨a, by rw [← ha]; simp⟩
theorem stp_last (l : List UInt8) (i : Nat) (hi : i ≤ l.length) : ((l.take i).foldl stpW ([], [])).2.length ≤ i ∧ (l.take i).drop (i - ((l.take i).foldl stpW ([], [])).2.length) = ((l.take i).foldl stpW ([], [])).2 := by
  obtain ⟨a, ha⟩ := stp_cur (l.take i) ([], [])
  have ha : l.take i = a ++ ((l.take i).foldl stpW ([], [])).2 := ha
  generalize ((l.take i).foldl stpW ([], [])).2 = c at *
  have hl : (l.take i).length = i := by rw [List.length_take]; omega
  have h2 := congrArg List.length ha
  rw [hl, List.length_append] at h2
  refine ⟨by omega, ?_⟩
  rw [ha, show i - c.length = a.length by omega, List.drop_left]
/-- No more words than bytes and one. -/
theorem stp_few : ∀ (l : List UInt8) (s : List (List UInt8) × List UInt8), (l.foldl stpW s).1.length ≤ s.1.length + l.length
  | [], s => by simp
  | b :: l, s => by
    have h := stp_few l (stpW s b)
    have : (stpW s b).1.length ≤ s.1.length + 1 := by unfold stpW; split <;> simp
    rw [List.foldl_cons, List.length_cons]
    omega
def dashOps : List (List UInt8) := insOps.map fun s => if s = [] then [45] else s
theorem split_words : splitS [119, 111, 114, 107, 32, 115, 101, 116, 32, 97, 100, 100, 32, 115, 117, 98, 32, 108, 111, 97, 100, 32, 115, 116, 111, 114, 101, 32, 115, 101, 110, 100, 32, 114, 101, 99, 118, 32, 119, 97, 105, 116, 32, 115, 105, 103, 110, 97, 108, 32, 114, 97, 105, 115, 101, 32, 108, 111, 119, 101, 114, 32, 117, 110, 116, 105, 108, 32, 112, 117, 116, 32, 103, 101, 116, 32, 115, 104, 111, 119, 32, 108, 111, 111, 107, 32, 99, 108, 101, 97, 114, 32, 110, 101, 120, 116, 32, 106, 117, 109, 112, 32, 122, 101, 114, 111, 32, 108, 101, 115, 115, 32, 100, 105, 118, 32, 102, 97, 117, 108, 116, 32, 115, 116, 111, 112] = insWords := by decide +kernel
theorem split_ops : splitS [119, 32, 114, 118, 32, 114, 114, 32, 114, 114, 32, 114, 97, 114, 32, 114, 97, 114, 32, 111, 114, 108, 32, 105, 114, 114, 32, 115, 32, 115, 32, 101, 32, 101, 32, 101, 32, 98, 114, 32, 98, 114, 32, 100, 114, 32, 100, 114, 32, 100, 32, 45, 32, 106, 32, 114, 106, 32, 114, 114, 106, 32, 114, 114, 32, 99, 32, 45] = dashOps := by decide +kernel
theorem split_faults : splitS [100, 101, 97, 100, 108, 105, 110, 101, 32, 109, 101, 109, 111, 114, 121, 32, 114, 97, 105, 115, 101, 100, 32, 110, 117, 109, 101, 114, 105, 99, 32, 115, 116, 97, 99, 107, 32, 112, 111, 119, 101, 114, 32, 119, 105, 110, 100, 111, 119] = faultWords := by decide +kernel
theorem split_levels : splitS [112, 114, 111, 99, 101, 115, 115, 32, 112, 97, 114, 116, 32, 109, 111, 100, 117, 108, 101] = levelWords := by decide +kernel
theorem split_actions : splitS [105, 103, 110, 111, 114, 101, 32, 115, 116, 111, 112, 32, 114, 101, 115, 116, 97, 114, 116, 32, 119, 97, 114, 109, 32, 99, 111, 108, 100, 32, 105, 100, 108, 101, 32, 114, 101, 115, 101, 116, 32, 104, 97, 108, 116] = actionWords := by decide +kernel
theorem split_nets : splitS [97, 32, 98] = netWords := by decide +kernel
theorem split_kinds : splitS [115, 97, 109, 112, 108, 105, 110, 103, 32, 113, 117, 101, 117, 105, 110, 103] = kindWords := by decide +kernel
end Go.Proofs.YtgbfaompondolaaGreatDoor
