/-
  LexPlaces: the walk.
-/
import Derived.Test.YtnpadhjjkoiihaaDoorAwk
namespace Go.Proofs.YtnpadhjjkoiihaaDoor
open Go.RowKit
theorem plN_mono (src : ByteArray) : ∀ (d k : Nat), (plN src k).1 ≤ (plN src (k + d)).1 ∧ ((plN src k).1 = (plN src (k + d)).1 → (plN src (k + d)).2 = (plN src k).2 + d ∧ ∀ j, k ≤ j → j < k + d → src.data[j]! ≠ 10)
  | 0, k => ⟨Nat.le_refl _, fun _ => ⟨rfl, fun j h1 h2 => by omega⟩⟩
  | d + 1, k => by
    obtain ⟨i1, i2⟩ := plN_mono src d k
    by_cases h : src.data[k + d]! = 10
    · have e := plN_yes src (k + d) h
      have e' : plN src (k + (d + 1)) = ((plN src (k + d)).1 + 1, 1) := e
      rw [e']
      exact ⟨by simp only; omega, fun hh => by simp only at hh; omega⟩
    · have e := plN_no src (k + d) h
      have e' : plN src (k + (d + 1)) = ((plN src (k + d)).1, (plN src (k + d)).2 + 1) := e
      rw [e']
      refine ⟨i1, fun hh => ?_⟩
      obtain ⟨j1, j2⟩ := i2 hh
      refine ⟨by simp only; omega, fun j a b => ?_⟩
      rcases Nat.lt_or_ge j (k + d) with c | c
      · exact j2 j a c
      · rw [show j = k + d from by omega]; exact h
/-- In the line in which k lies there is no newline ahead of k. -/
theorem line_clean (src : ByteArray) : ∀ (k j : Nat), k + 1 ≤ j + (plN src k).2 → j < k → src.data[j]! ≠ 10
  | 0, j, _, h => absurd h (by omega)
  | k + 1, j, h1, h2 => by
    by_cases h : src.data[k]! = 10
    · rw [plN_yes src k h] at h1
      simp only at h1
      omega
    · rw [plN_no src k h] at h1
      simp only at h1
      rcases Nat.lt_or_ge j k with c | c
      · exact line_clean src k j (by omega) c
      · rw [show j = k from by omega]; exact h
/-- The state of the statement's first loop: i bytes seen; the line that is left; where the line began. -/
structure PlR (src : ByteArray) (m i : Nat) (line from_ : Int) : Prop where
  le : i ≤ m
  line : line = ((plN src m).1 : Int) - ((plN src i).1 : Int) + 1
  from_ : from_ + ((plN src i).2 : Int) = (i : Int) + 1
theorem PlR.start (src : ByteArray) (m : Nat) : PlR src m 0 ((plN src m).1 : Int) 0 := ⟨Nat.zero_le _, by simp [plN], by simp [plN]⟩
theorem PlR.lt {src : ByteArray} {m i : Nat} {line from_ : Int} (h : PlR src m i line from_) (hl : 1 < line) : i < m := by
  have h1 := h.le
  have h2 := h.line
  rcases Nat.lt_or_ge i m with hh | hh
  · exact hh
  · have : i = m := by omega
    rw [this] at h2
    omega
theorem PlR.yes {src : ByteArray} {m i : Nat} {line from_ : Int} (h : PlR src m i line from_) (hi : i < m) (hb : src.data[i]! = 10) : PlR src m (i + 1) (line - 1) ((i : Int) + 1) := by
  refine ⟨hi, ?_, ?_⟩
  · rw [plN_yes src i hb]; have := h.line; simp only; omega
  · rw [plN_yes src i hb]; simp
theorem PlR.no {src : ByteArray} {m i : Nat} {line from_ : Int} (h : PlR src m i line from_) (hi : i < m) (hb : ¬ src.data[i]! = 10) : PlR src m (i + 1) line from_ := by
  refine ⟨hi, ?_, ?_⟩
  · rw [plN_no src i hb]; exact h.line
  · rw [plN_no src i hb]; have := h.from_; simp only; omega
theorem PlR.ge {src : ByteArray} {m i : Nat} {line from_ : Int} (h : PlR src m i line from_) : 1 ≤ line := by
  obtain ⟨d, hd⟩ := Nat.exists_eq_add_of_le h.le
  have := (plN_mono src d i).1
  rw [← hd] at this
  have := h.line
  omega
/-- Behind the loop. -/
theorem PlR.done {src : ByteArray} {m i : Nat} {from_ : Int} (h : PlR src m i 1 from_) (hm : m ≤ src.size) : from_ + ((plN src m).2 : Int) - 1 = (m : Int) ∧ 0 ≤ from_ ∧ from_ ≤ (m : Int) ∧ ∀ j : Nat, from_ ≤ (j : Int) → j < m → src.data[j]! ≠ 10 := by
  obtain ⟨d, hd⟩ := Nat.exists_eq_add_of_le h.le
  have h1 := h.line
  obtain ⟨-, h2⟩ := plN_mono src d i
  rw [← hd] at h2
  have he : (plN src i).1 = (plN src m).1 := by omega
  obtain ⟨h3, h4⟩ := h2 he
  have h5 := h.from_
  have h6 := plN_le src i
  refine ⟨by omega, by omega, by omega, fun j a b => ?_⟩
  rcases Nat.lt_or_ge j i with c | c
  · -- within the line that began at from_
    obtain ⟨p, hp⟩ : ∃ p : Nat, from_ = (p : Int) := ⟨from_.toNat, by omega⟩
    have hpi : p + (plN src i).2 = i + 1 := by omega
    exact line_clean src i j (by omega) c
  · exact h4 j c (by omega)
theorem ten_bang (src : ByteArray) (k : Nat) (h : k < src.size) : ((src[k].toNat : Int) == 10) = decide (src.data[k]! = 10) := by
  rw [← byte_bang src k h]
  have := ten_iff src[k]
  rw [Bool.eq_iff_iff]
  simp only [beq_iff_eq, decide_eq_true_eq]
  exact this
set_option maxRecDepth 100000 in
set_option maxHeartbeats 2000000 in
theorem placesL_any (src : ByteArray) (a : Int) (w : World) (hE : Hid (Env w)) : Calls Tryd.prog 10 #[.string src, .int .i64 a] w fun e w' => e = .returned (.bool true) ∧ Below w.heap.size w w' := by
  have HA := hide (awake_any w hE)
  by_cases hl : 4000 < src.size
  · have h1 : (4000 : Int) < (src.size : Int) := by omega
    go_enter Tryd.func10, Tryd.ntmps10
    go_wp2_with fail
    refine HA.out.mono ?_
    rintro e w1 ⟨rfl, hb1⟩
    have HB1 := hide hb1
    clear hb1
    go_wp2_with fail
    go_ret
    exact ⟨rfl, HB1.out⟩
  · have h1 : (src.size : Int) ≤ 4000 := by omega
    have HP := hide (fun w => place_any src a w (by omega))
    have HM : Hid (((clampN src a : Nat) : Int) = min (max a 0) (src.size : Int)) := by show _ = _; unfold clampN; omega
    have hm : clampN src a ≤ src.size := by unfold clampN; omega
    generalize clampN src a = m at *
    have hpl := plN_le src m
    go_enter Tryd.func10, Tryd.ntmps10
    go_wp2_with fail
    refine HA.out.mono ?_
    rintro e w1 ⟨rfl, hb1⟩
    have HB1 := hide hb1
    clear hb1
    go_wp2_with fail
    refine (HP.out _).mono ?_
    rintro e w' ⟨rfl, rfl⟩
    go_wp2_with fail
    have HSt := hide (PlR.start src m)
    go_loop [5, 7, 8] (fun v5 v7 v8 => ∃ (i : Nat) (line from_ : Int), v8 = .int .i64 i ∧ v5 = .int .i64 line ∧ v7 = .int .i64 from_ ∧ PlR src m i line from_) (fun _ _ v8 => src.size - (intOf v8).toNat)
    case atStart => exact ⟨0, _, _, rfl, rfl, rfl, HSt.out⟩
    case round =>
      obtain ⟨i, line, from_, rfl, rfl, rfl, hR⟩ := hrel
      have hge := hR.ge
      have hle := hR.le
      have HR := hide hR
      have hli : line = ((plN src m).1 : Int) - ((plN src i).1 : Int) + 1 := hR.line
      have hl2 : line ≤ 5000 := by omega
      clear hR hli
      have i0 : (0 : Int) ≤ (i : Int) := by omega
      by_cases hl1 : 1 < line
      · have hlt := HR.out.lt hl1
        have his : i < src.size := by omega
        have HT := hide (ten_bang src i his)
        by_cases hb : src.data[i]! = 10
        · have HN := hide (HR.out.yes hlt hb)
          have g1 : ((src[i].toNat : Int) == 10) = true := by rw [HT.out]; simpa using hb
          clear hb
          go_wp2_with fail
          go_round
          case rel => exact ⟨i + 1, _, _, by go_num, rfl, rfl, HN.out⟩
          case measure => simp [intOf]; omega
        · have HN := hide (HR.out.no hlt hb)
          have g1 : ((src[i].toNat : Int) == 10) = false := by rw [HT.out]; simpa using hb
          clear hb
          go_wp2_with fail
          go_round
          case rel => exact ⟨i + 1, _, _, by go_num, rfl, rfl, HN.out⟩
          case measure => simp [intOf]; omega
      · obtain rfl : line = 1 := by omega
        obtain ⟨d1, d2, d3, d4⟩ := HR.out.done hm
        obtain ⟨f, rfl⟩ : ∃ f : Nat, from_ = (f : Int) := ⟨from_.toNat, by omega⟩
        have HD4 := hide d4
        have hfm : f ≤ m := by omega
        have hw1 : (f : Int) + ((plN src m).2 : Int) < 9223372036854775808 := by omega
        have hw2 : -9223372036854775808 ≤ (f : Int) + ((plN src m).2 : Int) := by omega
        have hw3 : -9223372036854775808 ≤ (f : Int) + ((plN src m).2 : Int) - 1 := by omega
        have hw4 : (f : Int) + ((plN src m).2 : Int) - 1 < 9223372036854775808 := by omega
        have hcol : (1 : Int) ≤ ((plN src m).2 : Int) := by omega
        have hne : ((f : Int) + ((plN src m).2 : Int) - 1 != min (max a 0) (src.size : Int)) = false := by rw [d1, ← HM.out]; simp
        have hms : (f : Int) + ((plN src m).2 : Int) - 1 ≤ (src.size : Int) := by omega
        have HD1 := hide d1
        clear d1 d4 d2 d3 hge hl1 hl2
        generalize ((plN src m).2 : Int) = C at *
        by_cases hend : i < src.size
        case' neg => have hd : decide (i < src.size) = false := by simp; omega
        all_goals
          go_wp2_with fail
          go_loop [10] (fun v10 => ∃ j : Nat, f ≤ j ∧ j ≤ m ∧ v10 = .int .i64 j) (fun v10 => m - (intOf v10).toNat)
          case atStart => exact ⟨f, Nat.le_refl _, hfm, rfl⟩
          case round =>
            obtain ⟨j, hj1, hj2, rfl⟩ := hrel
            have j0 : (0 : Int) ≤ (j : Int) := by omega
            by_cases hjm : j < m
            · have HT := hide (ten_bang src j (by omega))
              have g1 : ((src[j].toNat : Int) == 10) = false := by rw [HT.out]; simpa using HD4.out j (by omega) hjm
              have hjs : j < src.size := by omega
              have hjt : (j : Int) < (f : Int) + C - 1 := by have := HD1.out; omega
              go_wp2_with fail
              go_round
              case rel => exact ⟨j + 1, by omega, by omega, by go_num⟩
              case measure => simp [intOf]; omega
            · have hjt : (f : Int) + C - 1 ≤ (j : Int) := by have := HD1.out; omega
              go_wp2_with fail
              go_ret
              exact ⟨rfl, HB1.out⟩
end Go.Proofs.YtnpadhjjkoiihaaDoor
