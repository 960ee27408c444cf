/-
  lex: the reference's Place; places.
-/
import Derived.Test.YteghlkcgeadoaaaDoorPlace
namespace Go.Proofs.YteghlkcgeadoaaaDoor
open Go.RowKit
theorem byte_bang (src : ByteArray) (k : Nat) (h : k < src.size) : src[k] = src.data[k]! := by
  rw [getElem!_pos src.data k h]; rfl
set_option maxRecDepth 100000 in
set_option maxHeartbeats 1000000 in
theorem rplace_any (src : ByteArray) (a : Int) (w : World) (hs : src.size ≤ 1099511627776) :
    Calls Tryd.prog 14 #[.string src, .int .i64 a] w fun e w' => e = .returned (.tuple #[.int .i64 ((plN src (clampN src a)).1 : Int), .int .i64 ((plN src (clampN src a)).2 : Int)]) ∧ w = w' := by
  have HM : Hid (clampN src a = min a.toNat src.size) := by show _ = _; rfl
  generalize clampN src a = m at *
  go_enter Tryd.func14, Tryd.ntmps14
  go_wp2_with fail
  go_loop [6, 7, 8] (fun v6 v7 v8 => ∃ k : Nat, k ≤ m ∧ v8 = .int .i64 k ∧ v6 = .int .i64 ((plN src k).1 : Int) ∧ v7 = .int .i64 ((plN src k).2 : Int)) (fun _ _ v8 => m - (intOf v8).toNat)
  case atStart => exact ⟨0, by omega, rfl, rfl, rfl⟩
  case round =>
    obtain ⟨k, hk, rfl, rfl, rfl⟩ := hrel
    by_cases hlt : k < m
    case neg =>
      have HKM := hide (show plN src m = plN src k by rw [show m = k from by omega])
      generalize plN src k = P at *
      have HM' := HM.out
      have hkm : m ≤ k := by omega
      clear hlt
      by_cases ha : (k : Int) < a
      · have h2 : ¬ k < src.size := by omega
        have h2' : decide (k < src.size) = false := by simp; omega
        clear HM' hkm
        go_wp2_with fail
        go_ret2
        exact ⟨by rw [HKM.out]; rfl, rfl⟩
      · have h2' : decide ((k : Int) < a) = false := by simp; omega
        clear HM' hkm
        go_wp2_with fail
        go_ret2
        exact ⟨by rw [HKM.out]; rfl, rfl⟩
    case pos =>
      have h1 : (k : Int) < a := by have := HM.out; omega
      have h2 : k < src.size := by have := HM.out; omega
      have hl := plN_le src k
      have k0 : (0 : Int) ≤ (k : Int) := by omega
      by_cases h10 : src[k] = 10
      · have HN := hide (plN_yes src k (by rw [← byte_bang src k h2]; exact h10))
        have hb : ((src[k].toNat : Int) == 10) = true := by rw [h10]; rfl
        clear h10
        generalize plN src k = P at *
        go_wp2_with fail
        go_round
        case rel => exact ⟨k + 1, by omega, by go_num, by rw [HN.out]; go_num, by rw [HN.out]; rfl⟩
        case measure => simp [intOf]; omega
      · have HN := hide (plN_no src k (by rw [← byte_bang src k h2]; exact h10))
        have hb : ((src[k].toNat : Int) == 10) = false := by
          have := ten_iff src[k]
          simp only [beq_eq_false_iff_ne, ne_eq, this]; exact h10
        clear h10
        generalize plN src k = P at *
        go_wp2_with fail
        go_round
        case rel => exact ⟨k + 1, by omega, by go_num, by rw [HN.out], by rw [HN.out]; go_num⟩
        case measure => simp [intOf]; omega
set_option maxRecDepth 100000 in
set_option maxHeartbeats 1000000 in
theorem places_any (src : ByteArray) (a : Int) (w : World) (hs : src.size ≤ 1099511627776) :
    Calls Tryd.prog 5 #[.string src, .int .i64 a] w fun e w' => e = .returned (.bool true) ∧ w = w' := by
  have HP := hide (fun w => place_any src a w hs)
  have HR := hide (fun w => rplace_any src a w hs)
  generalize plN src (clampN src a) = P at *
  go_enter Tryd.func5, Tryd.ntmps5
  go_wp2_with fail
  refine (HP.out _).mono ?_
  rintro e w' ⟨rfl, rfl⟩
  go_wp2_with fail
  refine (HR.out _).mono ?_
  rintro e w' ⟨rfl, rfl⟩
  go_wp2_with fail
  go_ret
  exact ⟨rfl, rfl⟩
end Go.Proofs.YteghlkcgeadoaaaDoor
