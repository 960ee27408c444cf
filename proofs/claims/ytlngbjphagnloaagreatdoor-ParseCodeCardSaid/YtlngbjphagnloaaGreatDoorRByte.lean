/-
  lex: the reference's tests of bytes.
-/
import Derived.Test.YtlngbjphagnloaaGreatDoorPk1
namespace Go.Proofs.YtlngbjphagnloaaGreatDoor
open Go.RowKit
theorem le_t {a n : Nat} (h : a ≤ n) : decide ((a : Int) ≤ (n : Int)) = true := by simp; omega
theorem le_f {a n : Nat} (h : ¬ a ≤ n) : decide ((a : Int) ≤ (n : Int)) = false := by simp; omega
set_option maxRecDepth 100000 in
set_option maxHeartbeats 1000000 in
theorem rletter_any (b : UInt8) (w : World) : Calls Tryz.prog 147 #[.int .u8 (b.toNat : Int)] w fun e w' => e = .returned (.bool (letterB b)) ∧ w = w' := by
  have HB : Hid (letterB b = ((decide (97 ≤ b.toNat) && decide (b.toNat ≤ 122)) || (decide (65 ≤ b.toNat) && decide (b.toNat ≤ 90)))) := rfl
  generalize b.toNat = n at *
  generalize letterB b = x at *
  by_cases g1 : 97 ≤ n
  · by_cases g2 : n ≤ 122
    · have HR := hide (show x = true by rw [HB.out]; simp [g1, g2])
      have e1 : decide ((97 : Int) ≤ (n : Int)) = true := by simp; omega
      have e2 : decide ((n : Int) ≤ 122) = true := by simp; omega
      clear g1 g2
      go_enter Tryz.func147, Tryz.ntmps147
      go_wp2_with fail
      go_ret
      exact ⟨by rw [HR.out]; rfl, rfl⟩
    · have HR := hide (show x = false by rw [HB.out]; simp [g1, g2]; omega)
      have e1 : decide ((97 : Int) ≤ (n : Int)) = true := by simp; omega
      have e2 : decide ((n : Int) ≤ 122) = false := by simp; omega
      have e3 : decide ((65 : Int) ≤ (n : Int)) = true := by simp; omega
      have e4 : decide ((n : Int) ≤ 90) = false := by simp; omega
      clear g1 g2
      go_enter Tryz.func147, Tryz.ntmps147
      go_wp2_with fail
      go_ret
      exact ⟨by rw [HR.out]; rfl, rfl⟩
  · have e1 : decide ((97 : Int) ≤ (n : Int)) = false := by simp; omega
    by_cases g3 : 65 ≤ n
    · have e3 : decide ((65 : Int) ≤ (n : Int)) = true := by simp; omega
      by_cases g4 : n ≤ 90
      · have HR := hide (show x = true by rw [HB.out]; simp [g1, g3, g4])
        have e4 : decide ((n : Int) ≤ 90) = true := by simp; omega
        clear g1 g3 g4
        go_enter Tryz.func147, Tryz.ntmps147
        go_wp2_with fail
        go_ret
        exact ⟨by rw [HR.out]; rfl, rfl⟩
      · have HR := hide (show x = false by rw [HB.out]; simp [g1, g3, g4])
        have e4 : decide ((n : Int) ≤ 90) = false := by simp; omega
        clear g1 g3 g4
        go_enter Tryz.func147, Tryz.ntmps147
        go_wp2_with fail
        go_ret
        exact ⟨by rw [HR.out]; rfl, rfl⟩
    · have e3 : decide ((65 : Int) ≤ (n : Int)) = false := by simp; omega
      have HR := hide (show x = false by rw [HB.out]; simp [g1, g3])
      clear g1 g3
      go_enter Tryz.func147, Tryz.ntmps147
      go_wp2_with fail
      go_ret
      exact ⟨by rw [HR.out]; rfl, rfl⟩
set_option maxRecDepth 100000 in
set_option maxHeartbeats 1000000 in
theorem rdigit_any (b : UInt8) (w : World) : Calls Tryz.prog 148 #[.int .u8 (b.toNat : Int)] w fun e w' => e = .returned (.bool (digitB b)) ∧ w = w' := by
  have HB : Hid (digitB b = (decide (48 ≤ b.toNat) && decide (b.toNat ≤ 57))) := rfl
  generalize b.toNat = n at *
  generalize digitB b = x at *
  by_cases g1 : 48 ≤ n
  · have e1 : decide ((48 : Int) ≤ (n : Int)) = true := by simp; omega
    by_cases g2 : n ≤ 57
    · have HR := hide (show x = true by rw [HB.out]; simp [g1, g2])
      have e2 : decide ((n : Int) ≤ 57) = true := by simp; omega
      clear g1 g2
      go_enter Tryz.func148, Tryz.ntmps148
      go_wp2_with fail
      go_ret
      exact ⟨by rw [HR.out]; rfl, rfl⟩
    · have HR := hide (show x = false by rw [HB.out]; simp [g1, g2])
      have e2 : decide ((n : Int) ≤ 57) = false := by simp; omega
      clear g1 g2
      go_enter Tryz.func148, Tryz.ntmps148
      go_wp2_with fail
      go_ret
      exact ⟨by rw [HR.out]; rfl, rfl⟩
  · have e1 : decide ((48 : Int) ≤ (n : Int)) = false := by simp; omega
    have HR := hide (show x = false by rw [HB.out]; simp [g1])
    clear g1
    go_enter Tryz.func148, Tryz.ntmps148
    go_wp2_with fail
    go_ret
    exact ⟨by rw [HR.out]; rfl, rfl⟩
theorem byte_eq (b : UInt8) (k : UInt8) : ((b.toNat : Int) == (k.toNat : Int)) = (b == k) := by
  rw [Bool.eq_iff_iff]
  simp only [beq_iff_eq]
  rw [← UInt8.toNat_inj]
  omega
set_option maxRecDepth 100000 in
set_option maxHeartbeats 1000000 in
theorem rinner_any (b : UInt8) (w : World) : Calls Tryz.prog 149 #[.int .u8 (b.toNat : Int)] w fun e w' => e = .returned (.bool (innerB b)) ∧ w = w' := by
  have HL := hide (fun w => rletter_any b w)
  have HD := hide (fun w => rdigit_any b w)
  have HX : Hid (innerB b = (letterB b || digitB b || b == 95)) := rfl
  have HE : Hid (((b.toNat : Int) == 95) = (b == 95)) := byte_eq b 95
  generalize letterB b = l at *
  generalize digitB b = d at *
  generalize innerB b = x at *
  generalize (b == 95) = u at *
  generalize (b.toNat : Int) = n at *
  cases l
  · cases d
    · cases hu : u
      · have HR := hide (show x = false by rw [HX.out, hu]; rfl)
        have he := HE.out.trans hu
        clear hu
        go_enter Tryz.func149, Tryz.ntmps149
        go_wp2_with (first | (go_at_call 147; refine (HL.out _).mono ?_; rintro e w' ⟨rfl, rfl⟩) | (go_at_call 148; refine (HD.out _).mono ?_; rintro e w' ⟨rfl, rfl⟩))
        go_ret
        exact ⟨by rw [HR.out]; rfl, rfl⟩
      · have HR := hide (show x = true by rw [HX.out, hu]; rfl)
        have he := HE.out.trans hu
        clear hu
        go_enter Tryz.func149, Tryz.ntmps149
        go_wp2_with (first | (go_at_call 147; refine (HL.out _).mono ?_; rintro e w' ⟨rfl, rfl⟩) | (go_at_call 148; refine (HD.out _).mono ?_; rintro e w' ⟨rfl, rfl⟩))
        go_ret
        exact ⟨by rw [HR.out]; rfl, rfl⟩
    · have HR := hide (show x = true by rw [HX.out]; rfl)
      go_enter Tryz.func149, Tryz.ntmps149
      go_wp2_with (first | (go_at_call 147; refine (HL.out _).mono ?_; rintro e w' ⟨rfl, rfl⟩) | (go_at_call 148; refine (HD.out _).mono ?_; rintro e w' ⟨rfl, rfl⟩))
      go_ret
      exact ⟨by rw [HR.out]; rfl, rfl⟩
  · have HR := hide (show x = true by rw [HX.out]; rfl)
    go_enter Tryz.func149, Tryz.ntmps149
    go_wp2_with (first | (go_at_call 147; refine (HL.out _).mono ?_; rintro e w' ⟨rfl, rfl⟩) | (go_at_call 148; refine (HD.out _).mono ?_; rintro e w' ⟨rfl, rfl⟩))
    go_ret
    exact ⟨by rw [HR.out]; rfl, rfl⟩
set_option maxRecDepth 100000 in
set_option maxHeartbeats 1000000 in
theorem rsign_any (b : UInt8) (w : World) : Calls Tryz.prog 146 #[.int .u8 (b.toNat : Int)] w fun e w' => e = .returned (.bool (signB b)) ∧ w = w' := by
  have HX : Hid (signB b = (b == 123 || b == 125 || b == 59 || b == 44 || b == 46 || b == 58)) := rfl
  have H1 : Hid (((b.toNat : Int) == 123) = (b == 123)) := byte_eq b 123
  have H2 : Hid (((b.toNat : Int) == 125) = (b == 125)) := byte_eq b 125
  have H3 : Hid (((b.toNat : Int) == 59) = (b == 59)) := byte_eq b 59
  have H4 : Hid (((b.toNat : Int) == 44) = (b == 44)) := byte_eq b 44
  have H5 : Hid (((b.toNat : Int) == 46) = (b == 46)) := byte_eq b 46
  have H6 : Hid (((b.toNat : Int) == 58) = (b == 58)) := byte_eq b 58
  generalize (b == 123) = u1 at *
  generalize (b == 125) = u2 at *
  generalize (b == 59) = u3 at *
  generalize (b == 44) = u4 at *
  generalize (b == 46) = u5 at *
  generalize (b == 58) = u6 at *
  generalize signB b = x at *
  generalize (b.toNat : Int) = n at *
  have h1 := H1.out
  cases u1
  · have h2 := H2.out
    cases u2
    · have h3 := H3.out
      cases u3
      · have h4 := H4.out
        cases u4
        · have h5 := H5.out
          cases u5
          · have h6 := H6.out
            cases u6
            · have HR := hide (show x = false by rw [HX.out]; rfl)
              go_enter Tryz.func146, Tryz.ntmps146
              go_wp2_with fail
              go_ret
              exact ⟨by rw [HR.out]; rfl, rfl⟩
            · have HR := hide (show x = true by rw [HX.out]; rfl)
              go_enter Tryz.func146, Tryz.ntmps146
              go_wp2_with fail
              go_ret
              exact ⟨by rw [HR.out]; rfl, rfl⟩
          · have HR := hide (show x = true by rw [HX.out]; rfl)
            go_enter Tryz.func146, Tryz.ntmps146
            go_wp2_with fail
            go_ret
            exact ⟨by rw [HR.out]; rfl, rfl⟩
        · have HR := hide (show x = true by rw [HX.out]; rfl)
          go_enter Tryz.func146, Tryz.ntmps146
          go_wp2_with fail
          go_ret
          exact ⟨by rw [HR.out]; rfl, rfl⟩
      · have HR := hide (show x = true by rw [HX.out]; rfl)
        go_enter Tryz.func146, Tryz.ntmps146
        go_wp2_with fail
        go_ret
        exact ⟨by rw [HR.out]; rfl, rfl⟩
    · have HR := hide (show x = true by rw [HX.out]; rfl)
      go_enter Tryz.func146, Tryz.ntmps146
      go_wp2_with fail
      go_ret
      exact ⟨by rw [HR.out]; rfl, rfl⟩
  · have HR := hide (show x = true by rw [HX.out]; rfl)
    go_enter Tryz.func146, Tryz.ntmps146
    go_wp2_with fail
    go_ret
    exact ⟨by rw [HR.out]; rfl, rfl⟩
end Go.Proofs.YtlngbjphagnloaaGreatDoor
