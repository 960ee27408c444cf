/-
  health.Fits, health.Valid and what they call: contracts of their walks.
-/
import Derived.Test.YtojmcgobihegpaaBase
namespace Go.Proofs.Ytojmcgobihegpaa
open Go.RowKit
def knownB (f : Int) : Bool := decide (1 ≤ f ∧ f ≤ 7)
def modularB (f : Int) : Bool := decide (6 ≤ f)
set_option maxHeartbeats 400000 in
theorem known_any (f : Int) (w : World) :
    Calls Try.prog 24 #[.int .u8 f] w fun e w' => e = .returned (.bool (knownB f)) ∧ w = w' := by
  go_enter Try.func24, Try.ntmps24
  go_wp2
  all_goals go_ret
  all_goals (refine ⟨?_, rfl⟩; simp [knownB]; try omega)
set_option maxHeartbeats 400000 in
theorem modular_any (f : Int) (w : World) :
    Calls Try.prog 25 #[.int .u8 f] w fun e w' => e = .returned (.bool (modularB f)) ∧ w = w' := by
  go_enter Try.func25, Try.ntmps25
  go_wp2
  all_goals go_ret
  all_goals (refine ⟨?_, rfl⟩; simp [modularB]; try omega)
set_option maxHeartbeats 400000 in
theorem index_some (b off n cap : Nat) (xs : List Int) (d : Int) (w : World) (hn : n ≤ 9223372036854775807)
    (hc : ∀ i, i < n → w.cell? ⟨b, off + i, none⟩ = some (.int .u8 (xs.getD i 0))) (H : Hid (xs.length = n)) :
    Calls Try.prog 34 #[.slice (some ⟨b, off, none⟩) n cap, .int .u8 d] w fun e w' => (∃ k : Int, e = .returned (.int .i64 k) ∧ ((0 ≤ k) ↔ d ∈ xs)) ∧ w' = w := by
  go_enter Try.func34, Try.ntmps34
  go_wp2
  go_loop [8] (fun v8 => ∃ k : Nat, k ≤ n ∧ v8 = .int .i64 k ∧ ∀ j, j < k → xs.getD j 0 ≠ d) (fun v8 => n - (intOf v8).toNat)
  case atStart => exact ⟨0, by omega, rfl, by omega⟩
  case round =>
    obtain ⟨k, hk, rfl, hne⟩ := hrel
    have hcell : k < n → w.cell? ⟨b, off + k, none⟩ = some (.int .u8 (xs.getD k 0)) := fun h => hc k h
    have HN : Hid (∀ j, j < k → xs.getD j 0 ≠ d) := hne
    clear hc hne
    by_cases hlt : k < n
    · have hcell := hcell hlt
      have hm : xs[k]?.getD 0 ∈ xs := by
        rw [List.getElem?_eq_getElem (by have := H.out; omega)]; simp
      have HM : Hid (xs[k]?.getD 0 ∈ xs) := hm
      clear hm
      by_cases hd : (d == xs[k]?.getD 0) = true
      · go_wp2
        go_ret
        refine ⟨⟨k, rfl, ?_⟩, rfl⟩
        have he : d = xs[k]?.getD 0 := by simpa using hd
        constructor
        · intro _; rw [he]; exact HM.out
        · intro _; omega
      · have hd' : (d == xs[k]?.getD 0) = false := by simpa using hd
        go_wp2
        go_round
        case rel =>
          refine ⟨k + 1, by omega, by go_num, ?_⟩
          intro j hj
          rcases Nat.lt_or_ge j k with h | h
          · exact HN.out j h
          · obtain rfl : j = k := by omega
            intro h; apply hd; simp [← h]
        case measure => simp [intOf]; omega
    · go_wp2
      go_ret
      refine ⟨⟨-1, rfl, ?_⟩, rfl⟩
      have := H.out
      constructor
      · intro h; omega
      · intro h
        obtain ⟨j, hj, he⟩ := List.getElem_of_mem h
        exact absurd (by rw [List.getD_eq_getElem?_getD, List.getElem?_eq_getElem hj]; exact he) (HN.out j (by omega))
set_option maxHeartbeats 400000 in
theorem index_nil (d : Int) (w : World) :
    Calls Try.prog 34 #[.slice none 0 0, .int .u8 d] w fun e w' => e = .returned (.int .i64 (-1)) ∧ w' = w := by
  go_enter Try.func34, Try.ntmps34
  go_wp2
  go_rounds 1
  go_ret
  exact ⟨rfl, rfl⟩
set_option maxHeartbeats 400000 in
theorem contains_some (b off n cap : Nat) (xs : List Int) (d : Int) (w : World) (hn : n ≤ 9223372036854775807)
    (hc : ∀ i, i < n → w.cell? ⟨b, off + i, none⟩ = some (.int .u8 (xs.getD i 0))) (H : Hid (xs.length = n)) :
    Calls Try.prog 31 #[.slice (some ⟨b, off, none⟩) n cap, .int .u8 d] w fun e w' => e = .returned (.bool (decide (d ∈ xs))) ∧ w' = w := by
  have HC : Hid (∀ i, i < n → w.cell? ⟨b, off + i, none⟩ = some (.int .u8 (xs.getD i 0))) := hc
  clear hc
  go_enter Try.func31, Try.ntmps31
  go_wp2_with (go_at_call 34; refine (index_some b off n cap xs d w hn HC.out H).mono ?_; rintro e w' ⟨⟨k, rfl, hk⟩, rfl⟩)
  go_ret
  refine ⟨?_, rfl⟩
  simp [← hk]
set_option maxHeartbeats 400000 in
theorem contains_nil (d : Int) (w : World) :
    Calls Try.prog 31 #[.slice none 0 0, .int .u8 d] w fun e w' => e = .returned (.bool false) ∧ w' = w := by
  go_enter Try.func31, Try.ntmps31
  go_wp2_with (go_at_call 34; refine (index_nil d w).mono ?_; rintro e w' ⟨rfl, rfl⟩)
  go_ret
  exact ⟨rfl, rfl⟩
theorem contains3 (x y z : Int) (bl : Nat) (d : Int) (w : World) (v : Bool) (hv : decide (d = x ∨ d = y ∨ d = z) = v)
    (h0 : w.cell? ⟨bl, 0, none⟩ = some (.int .u8 x)) (h1 : w.cell? ⟨bl, 1, none⟩ = some (.int .u8 y)) (h2 : w.cell? ⟨bl, 2, none⟩ = some (.int .u8 z)) :
    Calls Try.prog 31 #[.slice (some ⟨bl, 0, none⟩) 3 3, .int .u8 d] w fun e w' => e = .returned (.bool v) ∧ w' = w := by
  refine (contains_some bl 0 3 3 [x, y, z] d w (by omega) ?_ (by show _ = _; rfl)).mono ?_
  · intro i hi
    match i, hi with
    | 0, _ => exact h0
    | 1, _ => exact h1
    | 2, _ => exact h2
  · rintro e w' ⟨rfl, rfl⟩; refine ⟨?_, rfl⟩; rw [← hv]; simp
theorem contains4 (x y z u : Int) (bl : Nat) (d : Int) (w : World) (v : Bool) (hv : decide (d = x ∨ d = y ∨ d = z ∨ d = u) = v)
    (h0 : w.cell? ⟨bl, 0, none⟩ = some (.int .u8 x)) (h1 : w.cell? ⟨bl, 1, none⟩ = some (.int .u8 y)) (h2 : w.cell? ⟨bl, 2, none⟩ = some (.int .u8 z)) (h3 : w.cell? ⟨bl, 3, none⟩ = some (.int .u8 u)) :
    Calls Try.prog 31 #[.slice (some ⟨bl, 0, none⟩) 4 4, .int .u8 d] w fun e w' => e = .returned (.bool v) ∧ w' = w := by
  refine (contains_some bl 0 4 4 [x, y, z, u] d w (by omega) ?_ (by show _ = _; rfl)).mono ?_
  · intro i hi
    match i, hi with
    | 0, _ => exact h0
    | 1, _ => exact h1
    | 2, _ => exact h2
    | 3, _ => exact h3
  · rintro e w' ⟨rfl, rfl⟩; refine ⟨?_, rfl⟩; rw [← hv]; simp
def actsB (l d : Int) : Bool := decide ((l = 1 ∧ (d = 1 ∨ d = 2 ∨ d = 3)) ∨ (l = 2 ∧ (d = 1 ∨ d = 4 ∨ d = 5 ∨ d = 6)) ∨ (l = 3 ∧ (d = 1 ∨ d = 7 ∨ d = 8)))
def fitsB (f l d : Int) : Bool := knownB f && actsB l d && (!modularB f || decide (l = 3))
set_option maxHeartbeats 1600000 in
theorem fits_any (f l d : Int) (w : World) (h0 : 0 ≤ l) (h1 : l ≤ 255) :
    Calls Try.prog 16 #[.int .u8 f, .int .u8 l, .int .u8 d] w fun e w' => e = .returned (.bool (fitsB f l d)) ∧ Below w.heap.size w w' := by
  have HF : Hid (fitsB f l d = (knownB f && actsB l d && (!modularB f || decide (l = 3)))) := rfl
  cases hk : knownB f
  · have HT := hide (show fitsB f l d = false by rw [HF.out, hk]; rfl)
    go_enter Try.func16, Try.ntmps16
    go_wp2_with (first
      | (go_at_call 24; refine (known_any _ _).mono ?_; rintro e w' ⟨rfl, rfl⟩)
      | (go_at_call 30; go_in))
    go_ret
    exact ⟨ret_bool HT.out.symm, by go_grown⟩
  by_cases hl : l < 4
  case neg =>
    have HT := hide (show fitsB f l d = false by
      rw [HF.out]; have : actsB l d = false := by simp [actsB]; omega
      simp [this])
    go_enter Try.func16, Try.ntmps16
    go_wp2_with (first
      | (go_at_call 24; refine (known_any _ _).mono ?_; rintro e w' ⟨rfl, rfl⟩)
      | (go_at_call 30; go_in))
    go_ret
    exact ⟨ret_bool HT.out.symm, by go_grown⟩
  have hcase : l = 0 ∨ l = 1 ∨ l = 2 ∨ l = 3 := by omega
  rcases hcase with rfl | rfl | rfl | rfl
  · have HT := hide (show fitsB f 0 d = false by simp [HF.out, actsB])
    go_enter Try.func16, Try.ntmps16
    go_wp2_with (first
      | (go_at_call 24; refine (known_any _ _).mono ?_; rintro e w' ⟨rfl, rfl⟩)
      | (go_at_call 30; go_in)
      | (go_at_call 31; refine (contains_nil d _).mono ?_; rintro e w' ⟨rfl, rfl⟩))
    go_ret
    exact ⟨ret_bool HT.out.symm, by go_grown⟩
  · cases hd : decide (d = 1 ∨ d = 2 ∨ d = 3) <;> cases hm : modularB f
    all_goals
      have HG := hide (show fitsB f 1 d = (decide (d = 1 ∨ d = 2 ∨ d = 3) && !modularB f) by rw [HF.out, hk]; simp [actsB])
      have HD := hide hd
      clear hd
      go_enter Try.func16, Try.ntmps16
      go_wp2_with (first
        | (go_at_call 24; refine (known_any _ _).mono ?_; rintro e w' ⟨rfl, rfl⟩)
        | (go_at_call 25; refine (modular_any _ _).mono ?_; rintro e w' ⟨rfl, rfl⟩)
        | (go_at_call 30; go_in)
        | (go_at_call 31; refine (contains3 1 2 3 _ d _ _ HD.out (by simp [go_sem]) (by simp [go_sem]) (by simp [go_sem])).mono ?_; rintro e w' ⟨rfl, rfl⟩))
      go_ret
      exact ⟨ret_bool (by rw [HG.out, HD.out, hm]; rfl), by go_grown⟩
  · cases hd : decide (d = 1 ∨ d = 4 ∨ d = 5 ∨ d = 6) <;> cases hm : modularB f
    all_goals
      have HG := hide (show fitsB f 2 d = (decide (d = 1 ∨ d = 4 ∨ d = 5 ∨ d = 6) && !modularB f) by rw [HF.out, hk]; simp [actsB])
      have HD := hide hd
      clear hd
      go_enter Try.func16, Try.ntmps16
      go_wp2_with (first
        | (go_at_call 24; refine (known_any _ _).mono ?_; rintro e w' ⟨rfl, rfl⟩)
        | (go_at_call 25; refine (modular_any _ _).mono ?_; rintro e w' ⟨rfl, rfl⟩)
        | (go_at_call 30; go_in)
        | (go_at_call 31; refine (contains4 1 4 5 6 _ d _ _ HD.out (by simp [go_sem]) (by simp [go_sem]) (by simp [go_sem]) (by simp [go_sem])).mono ?_; rintro e w' ⟨rfl, rfl⟩))
      go_ret
      exact ⟨ret_bool (by rw [HG.out, HD.out, hm]; rfl), by go_grown⟩
  · cases hd : decide (d = 1 ∨ d = 7 ∨ d = 8) <;> cases hm : modularB f
    all_goals
      have HG := hide (show fitsB f 3 d = decide (d = 1 ∨ d = 7 ∨ d = 8) by rw [HF.out, hk]; simp [actsB])
      have HD := hide hd
      clear hd
      go_enter Try.func16, Try.ntmps16
      go_wp2_with (first
        | (go_at_call 24; refine (known_any _ _).mono ?_; rintro e w' ⟨rfl, rfl⟩)
        | (go_at_call 25; refine (modular_any _ _).mono ?_; rintro e w' ⟨rfl, rfl⟩)
        | (go_at_call 30; go_in)
        | (go_at_call 31; refine (contains3 1 7 8 _ d _ _ HD.out (by simp [go_sem]) (by simp [go_sem]) (by simp [go_sem])).mono ?_; rintro e w' ⟨rfl, rfl⟩))
      go_ret
      exact ⟨ret_bool (by rw [HG.out, HD.out]), by go_grown⟩
end Go.Proofs.Ytojmcgobihegpaa
