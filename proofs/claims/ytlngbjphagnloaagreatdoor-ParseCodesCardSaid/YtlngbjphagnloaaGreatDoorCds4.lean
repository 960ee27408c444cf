/-
  parse: ParseCodes returns true.
-/
import Derived.Test.YtlngbjphagnloaaGreatDoorPk27
import Derived.Test.YtlngbjphagnloaaGreatDoorCds3
import Derived.Test.YtlngbjphagnloaaGreatDoorCdsN
import Derived.Test.YtlngbjphagnloaaGreatDoorWdC
namespace Go.Proofs.YtlngbjphagnloaaGreatDoor
open Go.RowKit
attribute [local go_sem] Later.cell
/-- How a call of Code ends whose result is known. -/
def CodeC (W : World) (l : List InsD) (at_ er : Nat) (e : Ending) (W' : World) : Prop :=
  ∃ A q, e = .returned (.tuple #[.slice A l.length q, .int .i64 (at_ : Int), .int .i64 (er : Int)]) ∧ Below W.heap.size W W' ∧ W'.ownsRow W.heap.size 60 4 (.slice A l.length q) l.length (l.flatMap insCells)
theorem code_call (src : ByteArray) (l : List InsD) (at_ er : Nat) (h : codeT (lexR src.data.toList) src.size = (l, at_, er)) (W : World) (hE : Hid (Env W)) (hP : Hid (EnvP W)) : Calls Tryz.prog 20 #[.string src] W (CodeC W l at_ er) := by
  refine (pcode_any src W hE hP).mono ?_
  rintro e w' ⟨v, rfl, hb, ho⟩
  rw [h] at ho ⊢
  obtain ⟨A, q, rfl⟩ := own_form ho
  exact ⟨A, q, rfl, hb, ho⟩
set_option maxRecDepth 100000 in
set_option maxHeartbeats 4000000 in
theorem codes_out (op : Nat) (ho : op ≤ 255) (a b c : Int) (h : ¬(1 ≤ op ∧ op ≤ 25) ∨ (1 ≤ op ∧ op ≤ 25) ∧ (a < 0 ∨ 0 ≤ a ∧ 1073741824 < a ∨ (0 ≤ a ∧ a ≤ 1073741824) ∧ (b < 0 ∨ 0 ≤ b ∧ 1073741824 < b ∨ (0 ≤ b ∧ b ≤ 1073741824) ∧ (c < 0 ∨ 0 ≤ c ∧ 1073741824 < c)))) (W : World) (hE : Hid (Env W)) (hP : Hid (EnvP W)) :
    Calls Tryz.prog 6 #[.int .u8 (op : Int), .int .i64 a, .int .i64 b, .int .i64 c] W fun e w' => e = .returned (.bool true) ∧ Below W.heap.size W w' := by
  have HW := hide (fun V hP => pword_any op V hP ho)
  have HO := hide (fun V hP => operands_any op V hP ho)
  have hk : (wordN insOps op).length ≤ 3 := by
    obtain ⟨k, hk1, hk2, _⟩ := word_clip insOps op
    rw [hk2]
    have := List.all_eq_true.1 (show ((List.range 26).all fun k => decide ((wordN insOps k).length ≤ 3)) = true by decide) k (by have : insOps.length = 25 := rfl; simp; omega)
    simpa using this
  have hks : ((⟨(wordN insOps op).toArray⟩ : ByteArray).size : Int) ≤ 3 := by simp [ByteArray.size]; omega
  have hw := wcase (ws := insWords) (by decide) op 25 rfl 25 rfl
  have hz : ¬(1 ≤ op ∧ op ≤ 25) → (⟨(wordN insOps op).toArray⟩ : ByteArray).size = 0 := fun h => by
    have : wordN insOps op = [] := by
      rcases Nat.eq_zero_or_pos op with h0 | h0
      · rw [h0]; rfl
      · exact word_none (by show 25 < op; omega)
    rw [this]; rfl
  generalize (⟨(wordN insOps op).toArray⟩ : ByteArray) = O at *
  generalize (⟨(wordN insWords op).toArray⟩ : ByteArray) = F at *
  have hcase : (F = ⟨#[]⟩ ∧ ¬ 1 ≤ (op : Int) ∧ O.size = 0 ∨ F = ⟨#[]⟩ ∧ 1 ≤ (op : Int) ∧ ¬ (op : Int) ≤ 25 ∧ O.size = 0) ∨
      F.toList.isEmpty = false ∧ (1 ≤ (op : Int) ∧ (op : Int) ≤ 25) ∧ (a < 0 ∨ 0 ≤ a ∧ 1073741824 < a ∨ (0 ≤ a ∧ a ≤ 1073741824) ∧ (b < 0 ∨ 0 ≤ b ∧ 1073741824 < b ∨ (0 ≤ b ∧ b ≤ 1073741824) ∧ (c < 0 ∨ 0 ≤ c ∧ 1073741824 < c))) := by
    rcases hw with ⟨h1, h2⟩ | ⟨h1, h2, h3⟩ | ⟨h1, h2, h3⟩
    · exact .inl (.inl ⟨h1, h2, hz (by omega)⟩)
    · exact .inl (.inr ⟨h1, h2, h3, hz (by omega)⟩)
    · rcases h with h | ⟨_, h⟩
      · omega
      · exact .inr ⟨h1, ⟨h2, h3⟩, h⟩
  clear h hk hw hz
  rcases hcase with (⟨rfl, h1, h2⟩ | ⟨rfl, h1, h2, h3⟩) | ⟨h0, ⟨h1, h2⟩, h3 | ⟨h3, h4⟩ | ⟨⟨h3, h4⟩, h5 | ⟨h5, h6⟩ | ⟨⟨h5, h6⟩, h7 | ⟨h7, h8⟩⟩⟩⟩
  all_goals
    go_enter Tryz.func6, Tryz.ntmps6
    go_wp2_with fail
    refine (awake_any W hE hP).mono ?_
    rintro e w1 ⟨rfl, hb1⟩
    have HB1 := hide hb1
    have HP1 := hide (hP.out.below hb1)
    clear hb1
    go_wp2_with fail
    refine (HW.out w1 HP1).mono ?_
    rintro e w2 ⟨rfl, hb2⟩
    have HB2 := hide (HB1.out.trans (hb2.mono HB1.out.size))
    have HP2 := hide (HP1.out.below hb2)
    clear hb2
    go_wp2_with fail
    refine (HO.out w2 HP2).mono ?_
    rintro e w3 ⟨rfl, hb3⟩
    have HB3 := hide (HB2.out.trans (hb3.mono HB2.out.size))
    clear hb3
    go_wp2_with fail
    all_goals
      go_ret
      exact ⟨rfl, HB3.out⟩
theorem ops_len (op : Nat) (ho : op ≤ 25) : (wordN insOps op).length ≤ 3 := by
  have := List.all_eq_true.1 (show ((List.range 26).all fun k => decide ((wordN insOps k).length ≤ 3)) = true by decide) op (by simp; omega)
  simpa using this
/-- The instruction's text with its first i operands. -/
def insT (op : Nat) (ds : List (List UInt8)) (i : Nat) : ByteArray := ⟨(wordN insWords op ++ (ds.take i).flatMap (fun d => 32 :: d)).toArray⟩
theorem insT_step (op : Nat) (ds : List (List UInt8)) (i : Nat) (d : List UInt8) (h : ds[i]? = some d) : insT op ds i ++ ⟨#[32]⟩ ++ ⟨d.toArray⟩ = insT op ds (i + 1) := by
  obtain ⟨hi, rfl⟩ := List.getElem?_eq_some_iff.1 h
  have e : (ds.take (i + 1)).flatMap (fun d => 32 :: d) = (ds.take i).flatMap (fun d => 32 :: d) ++ 32 :: ds[i] := by
    rw [List.take_succ_eq_append_getElem hi, List.flatMap_append]
    simp
  unfold insT
  rw [e]
  apply ByteArray.ext
  simp [ByteArray.data_append]
theorem insT_size (op : Nat) (ho : op ≤ 25) (ds : List (List UInt8)) (hd : ∀ d ∈ ds, d.length ≤ 10) (i : Nat) (hi : i ≤ 3) : (insT op ds i).size ≤ 100 := by
  have h3 := List.all_eq_true.1 (show ((List.range 26).all fun k => decide ((wordN insWords k).length ≤ 6)) = true by decide) op (by simp; omega)
  simp only [decide_eq_true_eq] at h3
  have hf : ∀ l : List (List UInt8), (∀ d ∈ l, d.length ≤ 10) → (l.flatMap (fun d => 32 :: d)).length ≤ 11 * l.length := by
    intro l hl
    induction l with
    | nil => simp
    | cons d l ih =>
      have := ih (fun x hx => hl x (by simp [hx]))
      have := hl d (by simp)
      rw [List.flatMap_cons, List.length_append, List.length_cons, List.length_cons]
      omega
  have h4 := hf (ds.take i) (fun d h => hd d (List.mem_of_mem_take h))
  have h5 : (ds.take i).length ≤ 3 := by rw [List.length_take]; omega
  show (wordN insWords op ++ (ds.take i).flatMap (fun d => 32 :: d)).toArray.size ≤ 100
  rw [List.size_toArray, List.length_append]
  omega
end Go.Proofs.YtlngbjphagnloaaGreatDoor
