/-
  parse: the reference's words of constants.
-/
import Derived.Test.YtgbfaompondolaaGreatDoorFRs
namespace Go.Proofs.YtgbfaompondolaaGreatDoor
open Go.RowKit
attribute [local go_sem] Later.cell
theorem word_getD (ws : List (List UInt8)) (n : Nat) : (if (n : Int) - 1 < 0 then [] else ws.getD ((n : Int) - 1).toNat []) = wordN ws n := by
  unfold wordN
  by_cases h : n = 0
  · rw [if_pos h, if_pos (by omega)]
  · rw [if_neg h, if_neg (by omega), show ((n : Int) - 1).toNat = n - 1 by omega]
set_option maxRecDepth 100000 in
set_option maxHeartbeats 1000000 in
theorem rword_any (n : Nat) (hn : n ≤ 255) (w : World) : Calls Tryz.prog 192 #[.int .u8 (n : Int)] w fun e w' => e = .returned (.string ⟨(wordN insWords n).toArray⟩) ∧ Below w.heap.size w w' := by
  have h := at_any ⟨#[119, 111, 114, 107, 32, 115, 101, 116, 32, 97, 100, 100, 32, 115, 117, 98, 32, 108, 111, 97, 100, 32, 115, 116, 111, 114, 101, 32, 115, 101, 110, 100, 32, 114, 101, 99, 118, 32, 119, 97, 105, 116, 32, 115, 105, 103, 110, 97, 108, 32, 114, 97, 105, 115, 101, 32, 108, 111, 119, 101, 114, 32, 117, 110, 116, 105, 108, 32, 112, 117, 116, 32, 103, 101, 116, 32, 115, 104, 111, 119, 32, 108, 111, 111, 107, 32, 99, 108, 101, 97, 114, 32, 110, 101, 120, 116, 32, 106, 117, 109, 112, 32, 122, 101, 114, 111, 32, 108, 101, 115, 115, 32, 100, 105, 118, 32, 102, 97, 117, 108, 116, 32, 115, 116, 111, 112]⟩ (by decide) ((n : Int) - 1) (by omega) w
  rw [show (⟨#[119, 111, 114, 107, 32, 115, 101, 116, 32, 97, 100, 100, 32, 115, 117, 98, 32, 108, 111, 97, 100, 32, 115, 116, 111, 114, 101, 32, 115, 101, 110, 100, 32, 114, 101, 99, 118, 32, 119, 97, 105, 116, 32, 115, 105, 103, 110, 97, 108, 32, 114, 97, 105, 115, 101, 32, 108, 111, 119, 101, 114, 32, 117, 110, 116, 105, 108, 32, 112, 117, 116, 32, 103, 101, 116, 32, 115, 104, 111, 119, 32, 108, 111, 111, 107, 32, 99, 108, 101, 97, 114, 32, 110, 101, 120, 116, 32, 106, 117, 109, 112, 32, 122, 101, 114, 111, 32, 108, 101, 115, 115, 32, 100, 105, 118, 32, 102, 97, 117, 108, 116, 32, 115, 116, 111, 112]⟩ : ByteArray).data.toList = _ from rfl, split_words, word_getD] at h
  have H := hide h
  clear h
  generalize (⟨(wordN insWords n).toArray⟩ : ByteArray) = x at *
  go_enter Tryz.func192, Tryz.ntmps192
  go_wp2_with fail
  refine H.out.mono ?_
  rintro e w1 ⟨rfl, hb⟩
  have HB := hide hb
  clear hb
  go_wp2_with fail
  go_ret
  exact ⟨rfl, HB.out⟩
set_option maxRecDepth 100000 in
set_option maxHeartbeats 1000000 in
theorem rfault_any (n : Nat) (hn : n ≤ 255) (w : World) : Calls Tryz.prog 187 #[.int .u8 (n : Int)] w fun e w' => e = .returned (.string ⟨(wordN faultWords n).toArray⟩) ∧ Below w.heap.size w w' := by
  have h := at_any ⟨#[100, 101, 97, 100, 108, 105, 110, 101, 32, 109, 101, 109, 111, 114, 121, 32, 114, 97, 105, 115, 101, 100, 32, 110, 117, 109, 101, 114, 105, 99, 32, 115, 116, 97, 99, 107, 32, 112, 111, 119, 101, 114, 32, 119, 105, 110, 100, 111, 119]⟩ (by decide) ((n : Int) - 1) (by omega) w
  rw [show (⟨#[100, 101, 97, 100, 108, 105, 110, 101, 32, 109, 101, 109, 111, 114, 121, 32, 114, 97, 105, 115, 101, 100, 32, 110, 117, 109, 101, 114, 105, 99, 32, 115, 116, 97, 99, 107, 32, 112, 111, 119, 101, 114, 32, 119, 105, 110, 100, 111, 119]⟩ : ByteArray).data.toList = _ from rfl, split_faults, word_getD] at h
  have H := hide h
  clear h
  generalize (⟨(wordN faultWords n).toArray⟩ : ByteArray) = x at *
  go_enter Tryz.func187, Tryz.ntmps187
  go_wp2_with fail
  refine H.out.mono ?_
  rintro e w1 ⟨rfl, hb⟩
  have HB := hide hb
  clear hb
  go_wp2_with fail
  go_ret
  exact ⟨rfl, HB.out⟩
set_option maxRecDepth 100000 in
set_option maxHeartbeats 1000000 in
theorem rlevel_any (n : Nat) (hn : n ≤ 255) (w : World) : Calls Tryz.prog 188 #[.int .u8 (n : Int)] w fun e w' => e = .returned (.string ⟨(wordN levelWords n).toArray⟩) ∧ Below w.heap.size w w' := by
  have h := at_any ⟨#[112, 114, 111, 99, 101, 115, 115, 32, 112, 97, 114, 116, 32, 109, 111, 100, 117, 108, 101]⟩ (by decide) ((n : Int) - 1) (by omega) w
  rw [show (⟨#[112, 114, 111, 99, 101, 115, 115, 32, 112, 97, 114, 116, 32, 109, 111, 100, 117, 108, 101]⟩ : ByteArray).data.toList = _ from rfl, split_levels, word_getD] at h
  have H := hide h
  clear h
  generalize (⟨(wordN levelWords n).toArray⟩ : ByteArray) = x at *
  go_enter Tryz.func188, Tryz.ntmps188
  go_wp2_with fail
  refine H.out.mono ?_
  rintro e w1 ⟨rfl, hb⟩
  have HB := hide hb
  clear hb
  go_wp2_with fail
  go_ret
  exact ⟨rfl, HB.out⟩
set_option maxRecDepth 100000 in
set_option maxHeartbeats 1000000 in
theorem raction_any (n : Nat) (hn : n ≤ 255) (w : World) : Calls Tryz.prog 189 #[.int .u8 (n : Int)] w fun e w' => e = .returned (.string ⟨(wordN actionWords n).toArray⟩) ∧ Below w.heap.size w w' := by
  have h := at_any ⟨#[105, 103, 110, 111, 114, 101, 32, 115, 116, 111, 112, 32, 114, 101, 115, 116, 97, 114, 116, 32, 119, 97, 114, 109, 32, 99, 111, 108, 100, 32, 105, 100, 108, 101, 32, 114, 101, 115, 101, 116, 32, 104, 97, 108, 116]⟩ (by decide) ((n : Int) - 1) (by omega) w
  rw [show (⟨#[105, 103, 110, 111, 114, 101, 32, 115, 116, 111, 112, 32, 114, 101, 115, 116, 97, 114, 116, 32, 119, 97, 114, 109, 32, 99, 111, 108, 100, 32, 105, 100, 108, 101, 32, 114, 101, 115, 101, 116, 32, 104, 97, 108, 116]⟩ : ByteArray).data.toList = _ from rfl, split_actions, word_getD] at h
  have H := hide h
  clear h
  generalize (⟨(wordN actionWords n).toArray⟩ : ByteArray) = x at *
  go_enter Tryz.func189, Tryz.ntmps189
  go_wp2_with fail
  refine H.out.mono ?_
  rintro e w1 ⟨rfl, hb⟩
  have HB := hide hb
  clear hb
  go_wp2_with fail
  go_ret
  exact ⟨rfl, HB.out⟩
theorem dash_word (n : Nat) (hn : n ≤ 255) : wordN dashOps n = [45] ∧ wordN insOps n = [] ∨ wordN dashOps n ≠ [45] ∧ wordN dashOps n = wordN insOps n := by
  have h : ((List.range 256).all fun n => (wordN dashOps n == [45] && wordN insOps n == []) || (wordN dashOps n != [45] && wordN dashOps n == wordN insOps n)) = true := by decide +kernel
  have := List.all_eq_true.1 h n (by simp; omega)
  simpa using this
set_option maxRecDepth 100000 in
set_option maxHeartbeats 1000000 in
theorem rops_any (n : Nat) (hn : n ≤ 255) (w : World) : Calls Tryz.prog 191 #[.int .u8 (n : Int)] w fun e w' => e = .returned (.string ⟨(wordN insOps n).toArray⟩) ∧ Below w.heap.size w w' := by
  have h := at_any ⟨#[119, 32, 114, 118, 32, 114, 114, 32, 114, 114, 32, 114, 97, 114, 32, 114, 97, 114, 32, 111, 114, 108, 32, 105, 114, 114, 32, 115, 32, 115, 32, 101, 32, 101, 32, 101, 32, 98, 114, 32, 98, 114, 32, 100, 114, 32, 100, 114, 32, 100, 32, 45, 32, 106, 32, 114, 106, 32, 114, 114, 106, 32, 114, 114, 32, 99, 32, 45]⟩ (by decide) ((n : Int) - 1) (by omega) w
  rw [show (⟨#[119, 32, 114, 118, 32, 114, 114, 32, 114, 114, 32, 114, 97, 114, 32, 114, 97, 114, 32, 111, 114, 108, 32, 105, 114, 114, 32, 115, 32, 115, 32, 101, 32, 101, 32, 101, 32, 98, 114, 32, 98, 114, 32, 100, 114, 32, 100, 114, 32, 100, 32, 45, 32, 106, 32, 114, 106, 32, 114, 114, 106, 32, 114, 114, 32, 99, 32, 45]⟩ : ByteArray).data.toList = _ from rfl, split_ops, word_getD] at h
  have H := hide h
  clear h
  rcases dash_word n hn with ⟨h1, h2⟩ | ⟨h1, h2⟩
  · rw [h2]
    rw [h1] at H
    clear h1 h2
    go_enter Tryz.func191, Tryz.ntmps191
    go_wp2_with fail
    refine H.out.mono ?_
    rintro e w1 ⟨rfl, hb⟩
    have HB := hide hb
    clear hb
    go_wp2_with fail
    go_ret
    exact ⟨rfl, HB.out⟩
  · rw [← h2]
    have e1 : (wordN dashOps n == [45]) = false := by simpa using h1
    clear h2
    generalize wordN dashOps n = x at *
    go_enter Tryz.func191, Tryz.ntmps191
    go_wp2_with fail
    refine H.out.mono ?_
    rintro e w1 ⟨rfl, hb⟩
    have HB := hide hb
    clear hb
    go_wp2_with fail
    go_ret
    exact ⟨rfl, HB.out⟩
end Go.Proofs.YtgbfaompondolaaGreatDoor
