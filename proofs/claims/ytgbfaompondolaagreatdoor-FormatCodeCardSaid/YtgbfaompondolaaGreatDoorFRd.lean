/-
  format: the reference's numbers, lines and code.
-/
import Derived.Test.YtgbfaompondolaaGreatDoorFRw
import Derived.Test.YtgbfaompondolaaGreatDoorPk13
import Derived.Laws.BytesArg
namespace Go.Proofs.YtgbfaompondolaaGreatDoor
open Go.RowKit
attribute [local go_sem] Later.cell
theorem one_byte (w : World) (n : Nat) : (convert 119 9 (.slice (some ⟨w.heap.size, 0, none⟩) 1 1)).run Tryz.prog (w.alloc (.cells #[.int .u8 (48 + (n : Int) % 10)] 5)) = .ok (.string ⟨#[UInt8.ofNat (48 + n % 10)]⟩) (w.alloc (.cells #[.int .u8 (48 + (n : Int) % 10)] 5)) := by
  have h := run_convert_bytes_arg (P := Tryz.prog) (w.alloc (.cells #[.int .u8 (48 + (n : Int) % 10)] 5)) 119 5 Tryz.underlying119 Tryz.underlying5 w.heap.size 0 1 1 [48 + (n : Int) % 10] rfl (fun i hi => by
    obtain rfl : i = 0 := by omega
    rw [cell_of_row _ _ _ _ _ _ (heap_alloc_new w _)]
    rfl) 9 Tryz.underlying9
  have e : strOfNums [48 + (n : Int) % 10] = ⟨#[UInt8.ofNat (48 + n % 10)]⟩ := by
    show (⟨#[UInt8.ofNat (48 + (n : Int) % 10).toNat]⟩ : ByteArray) = _
    rw [show (48 + (n : Int) % 10).toNat = 48 + n % 10 by omega]
  rw [← e]
  exact h
theorem dd_small {n : Nat} (h : n ≤ 9) : Lib.decDigits n = [UInt8.ofNat (48 + n % 10)] := by
  unfold Lib.decDigits
  rw [dif_pos (by omega), Nat.mod_eq_of_lt (by omega)]
theorem dd_big {n : Nat} (h : ¬ n ≤ 9) : Lib.decDigits n = Lib.decDigits (n / 10) ++ [UInt8.ofNat (48 + n % 10)] := by
  rw [Lib.decDigits, dif_neg (by omega)]
set_option maxRecDepth 100000 in
set_option maxHeartbeats 1000000 in
theorem rdec_any : ∀ (f n : Nat), f ≤ 9 → n < 10 ^ (f + 1) → n ≤ 1073741824 → ∀ W : World, Calls Tryz.prog 157 #[.int .i64 (n : Int)] W fun e w' => e = .returned (.string ⟨(Lib.decDigits n).toArray⟩) ∧ Below W.heap.size W w' := by
  intro f
  induction f with
  | zero =>
    intro n hf9 h h30 W
    have hcv := one_byte W n
    obtain ⟨D, hD⟩ : ∃ D : ByteArray, ⟨#[UInt8.ofNat (48 + n % 10)]⟩ = D := ⟨_, rfl⟩
    rw [hD] at hcv
    have HD := hide (show D = ⟨(Lib.decDigits n).toArray⟩ by rw [← hD, dd_small (by simp at h; omega)])
    clear hD
    have HB := hide ((Below.refl W.heap.size W).alloc (Nat.le_refl _) (.cells #[.int .u8 (48 + (n : Int) % 10)] 5))
    have hn : ¬ (9 : Int) < (n : Int) := by simp at h; omega
    go_enter Tryz.func157, Tryz.ntmps157
    go_wp2_with fail
    go_ret
    exact ⟨congrArg (fun s => Ending.returned (Value.string s)) HD.out, HB.out⟩
  | succ f ih =>
    intro n hf9 h h30 W
    have hcv := one_byte W n
    obtain ⟨D, hD⟩ : ∃ D : ByteArray, ⟨#[UInt8.ofNat (48 + n % 10)]⟩ = D := ⟨_, rfl⟩
    rw [hD] at hcv
    have hDs : D.size = 1 := by rw [← hD]; rfl
    have HB := hide ((Below.refl W.heap.size W).alloc (Nat.le_refl _) (.cells #[.int .u8 (48 + (n : Int) % 10)] 5))
    by_cases h9 : n ≤ 9
    · have HD := hide (show D = ⟨(Lib.decDigits n).toArray⟩ by rw [← hD, dd_small h9])
      have hn : ¬ (9 : Int) < (n : Int) := by omega
      clear hD
      go_enter Tryz.func157, Tryz.ntmps157
      go_wp2_with fail
      go_ret
      exact ⟨congrArg (fun s => Ending.returned (Value.string s)) HD.out, HB.out⟩
    · have hd : n / 10 < 10 ^ (f + 1) := by
        rw [Nat.div_lt_iff_lt_mul (by decide), ← Nat.pow_succ]
        exact h
      have hI := fun V => ih (n / 10) (by omega) hd (by omega) V
      rw [show ((n / 10 : Nat) : Int) = (n : Int) / 10 by omega] at hI
      have hl := nd_le f (n / 10) hd
      rw [← Lib.decDigits_length] at hl
      obtain ⟨E, hE⟩ : ∃ E : ByteArray, (⟨(Lib.decDigits (n / 10)).toArray⟩ : ByteArray) = E := ⟨_, rfl⟩
      have hEs : E.size = (Lib.decDigits (n / 10)).length := by rw [← hE]; simp [ByteArray.size]
      have HI := hide hI
      have HD := hide (show E ++ D = ⟨(Lib.decDigits n).toArray⟩ by
        rw [← hD, ← hE, dd_big h9]
        apply ByteArray.ext
        simp [ByteArray.data_append])
      rw [hE] at HI
      have hs : ¬ 9223372036854775807 < E.size + 1 := by omega
      have hn2 : (9 : Int) < (n : Int) := by omega
      clear hD hI hE hl hEs hd ih
      go_enter Tryz.func157, Tryz.ntmps157
      go_wp2_with fail
      refine (HI.out _).mono ?_
      rintro e w1 ⟨rfl, hb1⟩
      have HB1 := hide (HB.out.trans (hb1.mono (by simp)))
      clear hb1
      go_wp2_with fail
      go_ret
      exact ⟨congrArg (fun s => Ending.returned (Value.string s)) HD.out, HB1.out⟩
theorem rdec_num (n : Int) (h : numF n = true) (W : World) : Calls Tryz.prog 157 #[.int .i64 n] W fun e w' => e = .returned (.string ⟨(Lib.itoa n).toArray⟩) ∧ Below W.heap.size W w' := by
  simp only [numF, Bool.and_eq_true, decide_eq_true_eq] at h
  obtain ⟨u, rfl⟩ : ∃ u : Nat, n = u := ⟨n.toNat, by omega⟩
  rw [Lib.itoa_nonneg]
  exact rdec_any 9 u (by omega) (by omega) (by omega) W
set_option maxRecDepth 100000 in
set_option maxHeartbeats 1000000 in
theorem rnums_any (v : Value) (l : List Int) (W : World) (hv : Hid (DAt W (fun _ => True) v (.row 1 (intRows l)))) (hl : l.length ≤ 140737488355328) :
    Calls Tryz.prog 103 #[v] W fun e w' => e = .returned (.bool (l.all numF)) ∧ Below W.heap.size W w' := by
  obtain ⟨A, c, rfl, hA⟩ := hv.out.slice
  have HA := hide hA
  clear hA hv
  rw [show (intRows l).length = l.length by simp [intRows]]
  go_enter Tryz.func103, Tryz.ntmps103
  go_wp2_with fail
  go_loopw [3] (fun v3 wr => ∃ k : Nat, k ≤ l.length ∧ v3 = .int .i64 k ∧ (l.take k).all numF = true ∧ Below W.heap.size W wr) (fun v3 _ => l.length - (intOf v3).toNat)
  case atStart => exact ⟨0, by omega, rfl, by simp, Below.refl _ _⟩
  case round =>
    obtain ⟨k, hk, rfl, ht, hbr⟩ := hrel
    have HT := hide ht
    have HBR := hide hbr
    clear ht hbr
    by_cases hlt : k < l.length
    rotate_left
    · obtain rfl : k = l.length := by omega
      rw [List.take_length] at HT
      clear hlt
      go_wp2_with fail
      go_ret
      exact ⟨by rw [HT.out]; rfl, HBR.out⟩
    obtain ⟨x, hx⟩ : ∃ x, l[k]? = some x := ⟨_, List.getElem?_eq_getElem hlt⟩
    obtain ⟨b, off, rfl, hb, hca⟩ := HA.out.at_ (cells := fun n : Int => [lI n]) hx
    obtain ⟨u0, c0, g0⟩ := hca 0 _ rfl
    clear hca
    obtain rfl := g0.leaf_eq
    rw [Nat.mul_one, Nat.add_zero] at c0
    have c0 := (HBR.out.cell (p := ⟨b, off + k, none⟩) hb).trans c0
    have k0 : (0 : Int) ≤ (k : Int) ∧ (k : Int) < ((l.length : Nat) : Int) := by omega
    have HX := hide hx
    clear hx
    by_cases hp0 : x < 0
    · have HNO := hide (all_stop HX.out (show numF x = false by simp [numF]; omega))
      go_wp2_with fail
      go_ret
      exact ⟨by rw [HNO.out]; rfl, HBR.out⟩
    · by_cases hp1 : 1073741824 < x
      · have HNO := hide (all_stop HX.out (show numF x = false by simp [numF]; omega))
        go_wp2_with fail
        go_ret
        exact ⟨by rw [HNO.out]; rfl, HBR.out⟩
      · have HTK := hide (all_step HT.out HX.out (show numF x = true by simp [numF]; omega))
        go_wp2_with fail
        go_roundw
        case rel => exact ⟨k + 1, by omega, by go_num, HTK.out, HBR.out⟩
        case measure => simp [intOf]; omega
end Go.Proofs.YtgbfaompondolaaGreatDoor
