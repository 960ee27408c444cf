/-
  parse: ParseCodes: number.
-/
import Derived.Test.YtlngbjphagnloaaGreatDoorCds1
import Derived.Test.YtlngbjphagnloaaGreatDoorPk6
import Derived.Laws.BytesArg
namespace Go.Proofs.YtlngbjphagnloaaGreatDoor
open Go.RowKit
attribute [local go_sem] Later.cell
theorem one_byte (w : World) (n : Nat) : (convert 113 9 (.slice (some ⟨w.heap.size, 0, none⟩) 1 1)).run Tryz.prog (w.alloc (.cells #[.int .u8 (48 + (n : Int) % 10)] 5)) = .ok (.string ⟨#[UInt8.ofNat (48 + n % 10)]⟩) (w.alloc (.cells #[.int .u8 (48 + (n : Int) % 10)] 5)) := by
  have h := run_convert_bytes_arg (P := Tryz.prog) (w.alloc (.cells #[.int .u8 (48 + (n : Int) % 10)] 5)) 113 5 Tryz.underlying113 Tryz.underlying5 w.heap.size 0 1 1 [48 + (n : Int) % 10] rfl (fun i hi => by
    obtain rfl : i = 0 := by omega
    rw [cell_of_row _ _ _ _ _ _ (heap_alloc_new w _)]
    rfl) 9 Tryz.underlying9
  have e : strOfNums [48 + (n : Int) % 10] = ⟨#[UInt8.ofNat (48 + n % 10)]⟩ := by
    show (⟨#[UInt8.ofNat (48 + (n : Int) % 10).toNat]⟩ : ByteArray) = _
    rw [show (48 + (n : Int) % 10).toNat = 48 + n % 10 by omega]
  rw [← e]
  exact h
set_option maxRecDepth 100000 in
set_option maxHeartbeats 1000000 in
theorem digits_any : ∀ (f n : Nat), f ≤ 9 → n < 10 ^ (f + 1) → n ≤ 1073741824 → ∀ W : World, Calls Tryz.prog 19 #[.int .i64 (n : Int)] W fun e w' => e = .returned (.string ⟨(digsF f n).toArray⟩) ∧ Below W.heap.size W w' := by
  intro f
  induction f with
  | zero =>
    intro n hf9 h h30 W
    have hcv := one_byte W n
    obtain ⟨D, hD⟩ : ∃ D : ByteArray, ⟨#[UInt8.ofNat (48 + n % 10)]⟩ = D := ⟨_, rfl⟩
    rw [hD] at hcv
    have HD := hide (show D = ⟨(digsF 0 n).toArray⟩ by rw [← hD]; rfl)
    clear hD
    have HB := hide ((Below.refl W.heap.size W).alloc (Nat.le_refl _) (.cells #[.int .u8 (48 + (n : Int) % 10)] 5))
    have hn : (n : Int) ≤ 9 := by simp at h; omega
    go_enter Tryz.func19, Tryz.ntmps19
    go_wp2_with fail
    go_ret
    exact ⟨congrArg (fun s => Ending.returned (Value.string s)) HD.out, HB.out⟩
  | succ f ih =>
    intro n hf9 h h30 W
    have hcv := one_byte W n
    obtain ⟨D, hD⟩ : ∃ D : ByteArray, ⟨#[UInt8.ofNat (48 + n % 10)]⟩ = D := ⟨_, rfl⟩
    rw [hD] at hcv
    have hDs : D.size = 1 := by rw [← hD]; rfl
    have HB := hide ((Below.refl W.heap.size W).alloc (Nat.le_refl _) (.cells #[.int .u8 (48 + (n : Int) % 10)] 5))
    by_cases h9 : n ≤ 9
    · have HD := hide (show D = ⟨(digsF (f + 1) n).toArray⟩ by rw [← hD]; unfold digsF; rw [if_pos h9])
      have hn : (n : Int) ≤ 9 := by omega
      clear hD
      go_enter Tryz.func19, Tryz.ntmps19
      go_wp2_with fail
      go_ret
      exact ⟨congrArg (fun s => Ending.returned (Value.string s)) HD.out, HB.out⟩
    · have hd : n / 10 < 10 ^ (f + 1) := by
        rw [Nat.div_lt_iff_lt_mul (by decide), ← Nat.pow_succ]
        exact h
      have hI := fun V => ih (n / 10) (by omega) hd (by omega) V
      rw [show ((n / 10 : Nat) : Int) = (n : Int) / 10 by omega] at hI
      have hl := (digsF_ok f (n / 10) hd).2.2.2.2.1
      obtain ⟨E, hE⟩ : ∃ E : ByteArray, (⟨(digsF f (n / 10)).toArray⟩ : ByteArray) = E := ⟨_, rfl⟩
      have hEs : E.size = (digsF f (n / 10)).length := by rw [← hE]; simp [ByteArray.size]
      have HI := hide hI
      have HD := hide (show E ++ D = ⟨(digsF (f + 1) n).toArray⟩ by
        rw [← hD, ← hE]
        rw [show digsF (f + 1) n = digsF f (n / 10) ++ [UInt8.ofNat (48 + n % 10)] from if_neg h9]
        apply ByteArray.ext
        simp [ByteArray.data_append])
      rw [hE] at HI
      have hs : ¬ 9223372036854775807 < E.size + 1 := by omega
      have hn : ¬ (n : Int) ≤ 9 := by omega
      have hn2 : (9 : Int) < (n : Int) := by omega
      clear hD hI hE hl hEs hd ih
      go_enter Tryz.func19, Tryz.ntmps19
      go_wp2_with fail
      refine (HI.out _).mono ?_
      rintro e w1 ⟨rfl, hb1⟩
      have HB1 := hide (HB.out.trans (hb1.mono (by simp)))
      clear hb1
      go_wp2_with fail
      go_ret
      exact ⟨congrArg (fun s => Ending.returned (Value.string s)) HD.out, HB1.out⟩
end Go.Proofs.YtlngbjphagnloaaGreatDoor
