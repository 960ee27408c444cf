/-
  lex: the reference's Name and Number.
-/
import Derived.Test.YtlngbjphagnloaaGreatDoorRNumP
import Derived.Test.YtlngbjphagnloaaGreatDoorRByte
namespace Go.Proofs.YtlngbjphagnloaaGreatDoor
open Go.RowKit
theorem list_at (s : ByteArray) (k : Nat) (h : k < s.size) : s.data.toList[k]? = some s[k] := by
  have hl : k < s.data.toList.length := by simp; exact h
  rw [List.getElem?_eq_getElem hl]; rfl
theorem dig_not (b : UInt8) {v : Bool} (w : World) (h : digitB b = v) : Calls Tryz.prog 148 #[.int .u8 (b.toNat : Int)] w fun e w' => e = .returned (.bool v) ∧ w = w' := by
  rw [← h]; exact rdigit_any b w
theorem let_is (b : UInt8) {v : Bool} (w : World) (h : letterB b = v) : Calls Tryz.prog 147 #[.int .u8 (b.toNat : Int)] w fun e w' => e = .returned (.bool v) ∧ w = w' := by
  rw [← h]; exact rletter_any b w
theorem inn_is (b : UInt8) {v : Bool} (w : World) (h : innerB b = v) : Calls Tryz.prog 149 #[.int .u8 (b.toNat : Int)] w fun e w' => e = .returned (.bool v) ∧ w = w' := by
  rw [← h]; exact rinner_any b w
theorem sgn_is (b : UInt8) {v : Bool} (w : World) (h : signB b = v) : Calls Tryz.prog 146 #[.int .u8 (b.toNat : Int)] w fun e w' => e = .returned (.bool v) ∧ w = w' := by
  rw [← h]; exact rsign_any b w
/-- The result of Number: some number, and whether the text is one. -/
def NumR (b : Bool) (w : World) (e : Ending) (w' : World) : Prop := ∃ n : Int, e = .returned (.tuple #[.int .i64 n, .bool b]) ∧ w = w'
/-- The same, with the number where it is one. -/
def NumV (l : List UInt8) (w : World) (e : Ending) (w' : World) : Prop := ∃ n : Int, e = .returned (.tuple #[.int .i64 n, .bool (numB l)]) ∧ w = w' ∧ (numB l = true → n = (numV l : Int))
set_option maxRecDepth 100000 in
set_option maxHeartbeats 2000000 in
theorem rnumber_val (s : ByteArray) (w : World) (hs : s.size ≤ 1099511627776) (hpos : 0 < s.size) :
    Calls Tryz.prog 151 #[.string s] w (NumV s.data.toList w) := by
  have hp2 : (0 : Int) < (s.size : Int) := by omega
  go_enter Tryz.func151, Tryz.ntmps151
  go_wp2_with fail
  go_loop [4, 5] (fun v4 v5 => ∃ k : Nat, k ≤ s.size ∧ v5 = .int .i64 k ∧ v4 = .int .i64 (numV (s.data.toList.take k) : Int) ∧ numOk s.data.toList k) (fun _ v5 => s.size - (intOf v5).toNat)
  case atStart => exact ⟨0, by omega, rfl, rfl, numOk_zero _⟩
  case round =>
    obtain ⟨k, hk, rfl, rfl, hok⟩ := hrel
    have HOk := hide hok
    have hm := hok.2.1
    clear hok
    by_cases hlt : k < s.size
    case neg =>
      obtain rfl : k = s.size := by omega
      have HR := hide (show numB s.data.toList = true by
        have hl : s.data.toList.length = s.size := by simp
        have h := HOk.out
        rw [← hl] at h
        rw [num_end h, hl]; simpa using hpos)
      have HM := hide (show (numV (s.data.toList.take s.size) : Int) = (numV s.data.toList : Int) by rw [List.take_of_length_le (by simp)])
      generalize numV (s.data.toList.take s.size) = m at *
      go_wp2_with fail
      go_ret2
      exact ⟨_, by rw [HR.out]; rfl, rfl, fun _ => HM.out⟩
    case pos =>
      have HAt := hide (list_at s k hlt)
      have k0 : (0 : Int) ≤ (k : Int) := by omega
      cases hd : digitB s[k]
      · have HR := hide (num_bad1 HAt.out hd)
        have HD := hide (fun w => dig_not s[k] w hd)
        clear hd
        generalize numV (s.data.toList.take k) = m at *
        go_wp2_with (first | (go_at_call 148; refine (HD.out _).mono ?_; rintro e w' ⟨rfl, rfl⟩))
        go_ret2
        exact ⟨_, by rw [HR.out]; rfl, rfl, fun h => absurd (HR.out.symm.trans h) (by decide)⟩
      · have HD := hide (fun w => dig_not s[k] w hd)
        have HDig := hide hd
        obtain ⟨z0, z1⟩ := (digitB_iff _).1 hd
        have HV := hide (digV_num s[k] hd)
        have z2 : (48 : Int) ≤ (s[k].toNat : Int) := by omega
        have z3 : (s[k].toNat : Int) ≤ 57 := by omega
        clear hd
        by_cases h0 : 1 ≤ k ∧ numV (s.data.toList.take k) = 0
        · have HR := hide (num_bad2 HOk.out (by simp; exact hlt) h0.1 h0.2)
          have k1 : (0 : Int) < (k : Int) := by omega
          have hm0 : ((numV (s.data.toList.take k) : Int) == 0) = true := by rw [h0.2]; rfl
          clear h0
          generalize numV (s.data.toList.take k) = m at *
          go_wp2_with (first | (go_at_call 148; refine (HD.out _).mono ?_; rintro e w' ⟨rfl, rfl⟩))
          go_ret2
          exact ⟨_, by rw [HR.out]; rfl, rfl, fun h => absurd (HR.out.symm.trans h) (by decide)⟩
        · have HBad := hide (fun (h : 1073741824 < numV (s.data.toList.take k) * 10 + digV s[k]) => num_bad3 (l := s.data.toList) (k := k) (b := s[k]) HAt.out h)
          have HNx := hide (fun (h : numV (s.data.toList.take k) * 10 + digV s[k] ≤ 1073741824) => num_next (l := s.data.toList) (k := k) (b := s[k]) HOk.out HAt.out HDig.out (fun h1 h2 => h0 ⟨h1, h2⟩) h)
          have HTk := hide (numV_take s.data.toList k s[k] HAt.out)
          have hguard : k = 0 ∨ (0 < k ∧ numV (s.data.toList.take k) ≠ 0) := by omega
          have hv := HV.out
          by_cases hb : 1073741824 < numV (s.data.toList.take k) * 10 + digV s[k]
          · have HR := hide (HBad.out hb)
            have y1 : (1073741824 : Int) < (numV (s.data.toList.take k) : Int) * 10 + ((s[k].toNat : Int) - 48) := by rw [← hv]; omega
            clear hb hv h0
            generalize numV (s.data.toList.take k) = m at *
            rcases hguard with rfl | ⟨g1, g2⟩
            · clear k0
              go_wp2_with (first | (go_at_call 148; refine (HD.out _).mono ?_; rintro e w' ⟨rfl, rfl⟩))
              go_ret2
              exact ⟨_, by rw [HR.out]; rfl, rfl, fun h => absurd (HR.out.symm.trans h) (by decide)⟩
            · have g1' : (0 : Int) < (k : Int) := by omega
              have g2' : ((m : Int) == 0) = false := by simp; omega
              clear g2
              go_wp2_with (first | (go_at_call 148; refine (HD.out _).mono ?_; rintro e w' ⟨rfl, rfl⟩))
              go_ret2
              exact ⟨_, by rw [HR.out]; rfl, rfl, fun h => absurd (HR.out.symm.trans h) (by decide)⟩
          · have HN := hide (HNx.out (by omega))
            have y1 : (numV (s.data.toList.take k) : Int) * 10 + ((s[k].toNat : Int) - 48) ≤ 1073741824 := by rw [← hv]; omega
            have HE : Hid ((numV (s.data.toList.take (k + 1)) : Int) = (numV (s.data.toList.take k) : Int) * 10 + ((s[k].toNat : Int) - 48)) := by
              show _ = _
              rw [← hv, HTk.out]; omega
            clear hb hv h0
            generalize numV (s.data.toList.take k) = m at *
            rcases hguard with rfl | ⟨g1, g2⟩
            · clear k0
              go_wp2_with (first | (go_at_call 148; refine (HD.out _).mono ?_; rintro e w' ⟨rfl, rfl⟩))
              go_round
              case rel => exact ⟨0 + 1, by omega, rfl, by rw [HE.out], HN.out⟩
              case measure => simp [intOf]; omega
            · have g1' : (0 : Int) < (k : Int) := by omega
              have g2' : ((m : Int) == 0) = false := by simp; omega
              clear g2
              go_wp2_with (first | (go_at_call 148; refine (HD.out _).mono ?_; rintro e w' ⟨rfl, rfl⟩))
              go_round
              case rel => exact ⟨k + 1, by omega, by go_num, by rw [HE.out], HN.out⟩
              case measure => simp [intOf]; omega
theorem rnumber_any (s : ByteArray) (w : World) (hs : s.size ≤ 1099511627776) (hpos : 0 < s.size) :
    Calls Tryz.prog 151 #[.string s] w (NumR (numB s.data.toList) w) :=
  (rnumber_val s w hs hpos).mono fun _ _ ⟨n, h1, h2, _⟩ => ⟨n, h1, h2⟩
set_option maxRecDepth 100000 in
set_option maxHeartbeats 1000000 in
/-- Of a text that begins with a letter and has inner bytes alone: whether it is short enough. -/
theorem rname_any (s : ByteArray) (w : World) (hs : s.size ≤ 1099511627776) (hpos : 0 < s.size) (hl : Hid (letterB s[0] = true)) (hi : Hid (∀ (k : Nat) (h : k < s.size), innerB s[k] = true)) (v : Bool) (hv : Hid (decide (s.size ≤ 24) = v)) :
    Calls Tryz.prog 150 #[.string s] w fun e w' => e = .returned (.bool v) ∧ w = w' := by
  have hp2 : (0 : Int) < (s.size : Int) := by omega
  have hne : ((s.size : Int) == 0) = false := by rw [beq_eq_false_iff_ne]; omega
  have HL := hide (fun w => let_is s[0] w hl.out)
  cases v
  · have hv' : 24 < s.size := by have h : ¬ s.size ≤ 24 := of_decide_eq_false hv.out; omega
    have h24 : (24 : Int) < (s.size : Int) := by omega
    go_enter Tryz.func150, Tryz.ntmps150
    go_wp2_with (first | (go_at_call 147; refine (HL.out _).mono ?_; rintro e w' ⟨rfl, rfl⟩))
    go_ret
    exact ⟨rfl, rfl⟩
  · have hv' : s.size ≤ 24 := of_decide_eq_true hv.out
    have h24 : (s.size : Int) ≤ 24 := by omega
    go_enter Tryz.func150, Tryz.ntmps150
    go_wp2_with (first | (go_at_call 147; refine (HL.out _).mono ?_; rintro e w' ⟨rfl, rfl⟩))
    go_loop [3] (fun v3 => ∃ k : Nat, k ≤ s.size ∧ v3 = .int .i64 k) (fun v3 => s.size - (intOf v3).toNat)
    case atStart => exact ⟨0, by omega, rfl⟩
    case round =>
      obtain ⟨k, hk, rfl⟩ := hrel
      have k0 : (0 : Int) ≤ (k : Int) := by omega
      by_cases hlt : k < s.size
      case neg =>
        go_wp2_with fail
        go_ret
        exact ⟨rfl, rfl⟩
      case pos =>
        have HI := hide (fun w => inn_is s[k] w (hi.out k hlt))
        go_wp2_with (first | (go_at_call 149; refine (HI.out _).mono ?_; rintro e w' ⟨rfl, rfl⟩))
        go_round
        case rel => exact ⟨k + 1, by omega, by go_num⟩
        case measure => simp [intOf]; omega
end Go.Proofs.YtlngbjphagnloaaGreatDoor
