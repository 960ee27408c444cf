/-
  Merged texts: format: Same says yes of two configurations that say the same (printed by tools/mksame.py).
-/
import Derived.Test.YtndpnpohdoggjaaGreatDoorPk14
namespace Go.Proofs.YtndpnpohdoggjaaGreatDoor
open Go.RowKit
attribute [local go_sem] Later.cell
theorem belowDN {B : Nat} {a w : World} (h : Below B a w) (n : Nat) : Below B a (w.drewN n) := h.trans ⟨rfl, rfl, rfl, Nat.le_refl _, fun _ _ => rfl⟩
set_option maxRecDepth 100000 in
set_option maxHeartbeats 4000000 in
theorem same_reps (va vb : Value) (l : List RepD) (W : World) (ha : Hid (DAt W (fun _ => True) va (.row 2 (l.map RepD.cells)))) (hb : Hid (DAt W (fun _ => True) vb (.row 2 (l.map RepD.cells)))) (hn : l.length ≤ 140737488355328) :
    Calls Tryz.prog 48 #[va, vb] W fun e w' => e = .returned (.bool true) ∧ Below W.heap.size W w' := by
  obtain ⟨A, c, rfl, hA⟩ := ha.out.slice
  obtain ⟨B, d, rfl, hB⟩ := hb.out.slice
  have HA := hide hA
  have HB := hide hB
  clear hA hB ha hb
  rw [List.length_map]
  go_enter Tryz.func48, Tryz.ntmps48
  go_wp2_with fail
  go_loopw [13] (fun v wr => ∃ k : Nat, k ≤ l.length ∧ v = .int .i64 k ∧ Below W.heap.size W wr) (fun v _ => l.length - (intOf v).toNat)
  case atStart => exact ⟨0, by omega, rfl, Below.refl _ _⟩
  case round =>
    obtain ⟨k, hk, rfl, hbr⟩ := hrel
    have HBR := hide hbr
    clear hbr
    by_cases hlt : k < l.length
    rotate_left
    · obtain rfl : k = l.length := by omega
      clear hlt
      go_wp2_with fail
      go_ret
      exact ⟨rfl, HBR.out⟩
    obtain ⟨x, hx⟩ : ∃ x, l[k]? = some x := ⟨_, List.getElem?_eq_getElem hlt⟩
    obtain ⟨bA, oA, rfl, hbA, hcaA⟩ := HA.out.at_ hx
    obtain ⟨uA0, a0, gA0⟩ := hcaA 0 _ rfl
    obtain rfl := gA0.leaf_eq
    obtain ⟨uA1, a1, gA1⟩ := hcaA 1 _ rfl
    obtain rfl := gA1.leaf_eq
    clear hcaA
    have a0 := (HBR.out.cell (p := ⟨bA, oA + k * 2, none⟩) hbA).trans a0
    have a1 := (HBR.out.cell (p := ⟨bA, oA + k * 2 + 1, none⟩) hbA).trans a1
    simp only [strV] at a0 a1
    obtain ⟨bB, oB, rfl, hbB, hcaB⟩ := HB.out.at_ hx
    obtain ⟨uB0, b0, gB0⟩ := hcaB 0 _ rfl
    obtain rfl := gB0.leaf_eq
    obtain ⟨uB1, b1, gB1⟩ := hcaB 1 _ rfl
    obtain rfl := gB1.leaf_eq
    clear hcaB
    have b0 := (HBR.out.cell (p := ⟨bB, oB + k * 2, none⟩) hbB).trans b0
    have b1 := (HBR.out.cell (p := ⟨bB, oB + k * 2 + 1, none⟩) hbB).trans b1
    simp only [strV] at b0 b1
    have k0 : (0 : Int) ≤ (k : Int) ∧ (k : Int) < ((l.length : Nat) : Int) := by omega
    clear hx
    go_wp2_with fail
    go_quiet (fail)
    go_wp2_with fail
    go_roundw
    case rel => exact ⟨k + 1, by omega, by go_num, belowDN HBR.out _⟩
    case measure => simp [intOf]; omega
set_option maxRecDepth 100000 in
set_option maxHeartbeats 4000000 in
theorem same_strs (va vb : Value) (l : List (List UInt8)) (W : World) (ha : Hid (DAt W (fun _ => True) va (.row 1 (strRows l)))) (hb : Hid (DAt W (fun _ => True) vb (.row 1 (strRows l)))) (hn : l.length ≤ 140737488355328) :
    Calls Tryz.prog 49 #[va, vb] W fun e w' => e = .returned (.bool true) ∧ Below W.heap.size W w' := by
  obtain ⟨A, c, rfl, hA⟩ := ha.out.slice
  obtain ⟨B, d, rfl, hB⟩ := hb.out.slice
  have HA := hide hA
  have HB := hide hB
  clear hA hB ha hb
  rw [show (strRows l).length = l.length by simp [strRows]]
  go_enter Tryz.func49, Tryz.ntmps49
  go_wp2_with fail
  go_loopw [13] (fun v wr => ∃ k : Nat, k ≤ l.length ∧ v = .int .i64 k ∧ Below W.heap.size W wr) (fun v _ => l.length - (intOf v).toNat)
  case atStart => exact ⟨0, by omega, rfl, Below.refl _ _⟩
  case round =>
    obtain ⟨k, hk, rfl, hbr⟩ := hrel
    have HBR := hide hbr
    clear hbr
    by_cases hlt : k < l.length
    rotate_left
    · obtain rfl : k = l.length := by omega
      clear hlt
      go_wp2_with fail
      go_ret
      exact ⟨rfl, HBR.out⟩
    obtain ⟨x, hx⟩ : ∃ x, l[k]? = some x := ⟨_, List.getElem?_eq_getElem hlt⟩
    obtain ⟨bA, oA, rfl, hbA, hcaA⟩ := HA.out.at_ (cells := fun s : List UInt8 => [lS s]) hx
    obtain ⟨uA0, a0, gA0⟩ := hcaA 0 _ rfl
    obtain rfl := gA0.leaf_eq
    clear hcaA
    rw [Nat.mul_one, Nat.add_zero] at a0
    have a0 := (HBR.out.cell (p := ⟨bA, oA + k, none⟩) hbA).trans a0
    simp only [strV] at a0
    obtain ⟨bB, oB, rfl, hbB, hcaB⟩ := HB.out.at_ (cells := fun s : List UInt8 => [lS s]) hx
    obtain ⟨uB0, b0, gB0⟩ := hcaB 0 _ rfl
    obtain rfl := gB0.leaf_eq
    clear hcaB
    rw [Nat.mul_one, Nat.add_zero] at b0
    have b0 := (HBR.out.cell (p := ⟨bB, oB + k, none⟩) hbB).trans b0
    simp only [strV] at b0
    have k0 : (0 : Int) ≤ (k : Int) ∧ (k : Int) < ((l.length : Nat) : Int) := by omega
    clear hx
    go_wp2_with fail
    go_quiet (fail)
    go_wp2_with fail
    go_roundw
    case rel => exact ⟨k + 1, by omega, by go_num, belowDN HBR.out _⟩
    case measure => simp [intOf]; omega
set_option maxRecDepth 100000 in
set_option maxHeartbeats 4000000 in
theorem same_inss (va vb : Value) (l : List InsD) (W : World) (ha : Hid (DAt W (fun _ => True) va (.row 4 (l.map InsD.cells)))) (hb : Hid (DAt W (fun _ => True) vb (.row 4 (l.map InsD.cells)))) (hn : l.length ≤ 140737488355328) :
    Calls Tryz.prog 51 #[va, vb] W fun e w' => e = .returned (.bool true) ∧ Below W.heap.size W w' := by
  obtain ⟨A, c, rfl, hA⟩ := ha.out.slice
  obtain ⟨B, d, rfl, hB⟩ := hb.out.slice
  have HA := hide hA
  have HB := hide hB
  clear hA hB ha hb
  rw [List.length_map]
  go_enter Tryz.func51, Tryz.ntmps51
  go_wp2_with fail
  go_loopw [13] (fun v wr => ∃ k : Nat, k ≤ l.length ∧ v = .int .i64 k ∧ Below W.heap.size W wr) (fun v _ => l.length - (intOf v).toNat)
  case atStart => exact ⟨0, by omega, rfl, Below.refl _ _⟩
  case round =>
    obtain ⟨k, hk, rfl, hbr⟩ := hrel
    have HBR := hide hbr
    clear hbr
    by_cases hlt : k < l.length
    rotate_left
    · obtain rfl : k = l.length := by omega
      clear hlt
      go_wp2_with fail
      go_ret
      exact ⟨rfl, HBR.out⟩
    obtain ⟨x, hx⟩ : ∃ x, l[k]? = some x := ⟨_, List.getElem?_eq_getElem hlt⟩
    obtain ⟨bA, oA, rfl, hbA, hcaA⟩ := HA.out.at_ hx
    obtain ⟨uA0, a0, gA0⟩ := hcaA 0 _ rfl
    obtain rfl := gA0.leaf_eq
    obtain ⟨uA1, a1, gA1⟩ := hcaA 1 _ rfl
    obtain rfl := gA1.leaf_eq
    obtain ⟨uA2, a2, gA2⟩ := hcaA 2 _ rfl
    obtain rfl := gA2.leaf_eq
    obtain ⟨uA3, a3, gA3⟩ := hcaA 3 _ rfl
    obtain rfl := gA3.leaf_eq
    clear hcaA
    have a0 := (HBR.out.cell (p := ⟨bA, oA + k * 4, none⟩) hbA).trans a0
    have a1 := (HBR.out.cell (p := ⟨bA, oA + k * 4 + 1, none⟩) hbA).trans a1
    have a2 := (HBR.out.cell (p := ⟨bA, oA + k * 4 + 2, none⟩) hbA).trans a2
    have a3 := (HBR.out.cell (p := ⟨bA, oA + k * 4 + 3, none⟩) hbA).trans a3
    obtain ⟨bB, oB, rfl, hbB, hcaB⟩ := HB.out.at_ hx
    obtain ⟨uB0, b0, gB0⟩ := hcaB 0 _ rfl
    obtain rfl := gB0.leaf_eq
    obtain ⟨uB1, b1, gB1⟩ := hcaB 1 _ rfl
    obtain rfl := gB1.leaf_eq
    obtain ⟨uB2, b2, gB2⟩ := hcaB 2 _ rfl
    obtain rfl := gB2.leaf_eq
    obtain ⟨uB3, b3, gB3⟩ := hcaB 3 _ rfl
    obtain rfl := gB3.leaf_eq
    clear hcaB
    have b0 := (HBR.out.cell (p := ⟨bB, oB + k * 4, none⟩) hbB).trans b0
    have b1 := (HBR.out.cell (p := ⟨bB, oB + k * 4 + 1, none⟩) hbB).trans b1
    have b2 := (HBR.out.cell (p := ⟨bB, oB + k * 4 + 2, none⟩) hbB).trans b2
    have b3 := (HBR.out.cell (p := ⟨bB, oB + k * 4 + 3, none⟩) hbB).trans b3
    have k0 : (0 : Int) ≤ (k : Int) ∧ (k : Int) < ((l.length : Nat) : Int) := by omega
    clear hx
    go_wp2_with fail
    go_quiet (fail)
    go_wp2_with fail
    go_roundw
    case rel => exact ⟨k + 1, by omega, by go_num, belowDN HBR.out _⟩
    case measure => simp [intOf]; omega
set_option maxRecDepth 100000 in
set_option maxHeartbeats 4000000 in
theorem same_ints (va vb : Value) (l : List Int) (W : World) (ha : Hid (DAt W (fun _ => True) va (.row 1 (intRows l)))) (hb : Hid (DAt W (fun _ => True) vb (.row 1 (intRows l)))) (hn : l.length ≤ 140737488355328) :
    Calls Tryz.prog 53 #[va, vb] W fun e w' => e = .returned (.bool true) ∧ Below W.heap.size W w' := by
  obtain ⟨A, c, rfl, hA⟩ := ha.out.slice
  obtain ⟨B, d, rfl, hB⟩ := hb.out.slice
  have HA := hide hA
  have HB := hide hB
  clear hA hB ha hb
  rw [show (intRows l).length = l.length by simp [intRows]]
  go_enter Tryz.func53, Tryz.ntmps53
  go_wp2_with fail
  go_loopw [13] (fun v wr => ∃ k : Nat, k ≤ l.length ∧ v = .int .i64 k ∧ Below W.heap.size W wr) (fun v _ => l.length - (intOf v).toNat)
  case atStart => exact ⟨0, by omega, rfl, Below.refl _ _⟩
  case round =>
    obtain ⟨k, hk, rfl, hbr⟩ := hrel
    have HBR := hide hbr
    clear hbr
    by_cases hlt : k < l.length
    rotate_left
    · obtain rfl : k = l.length := by omega
      clear hlt
      go_wp2_with fail
      go_ret
      exact ⟨rfl, HBR.out⟩
    obtain ⟨x, hx⟩ : ∃ x, l[k]? = some x := ⟨_, List.getElem?_eq_getElem hlt⟩
    obtain ⟨bA, oA, rfl, hbA, hcaA⟩ := HA.out.at_ (cells := fun n : Int => [lI n]) hx
    obtain ⟨uA0, a0, gA0⟩ := hcaA 0 _ rfl
    obtain rfl := gA0.leaf_eq
    clear hcaA
    rw [Nat.mul_one, Nat.add_zero] at a0
    have a0 := (HBR.out.cell (p := ⟨bA, oA + k, none⟩) hbA).trans a0
    obtain ⟨bB, oB, rfl, hbB, hcaB⟩ := HB.out.at_ (cells := fun n : Int => [lI n]) hx
    obtain ⟨uB0, b0, gB0⟩ := hcaB 0 _ rfl
    obtain rfl := gB0.leaf_eq
    clear hcaB
    rw [Nat.mul_one, Nat.add_zero] at b0
    have b0 := (HBR.out.cell (p := ⟨bB, oB + k, none⟩) hbB).trans b0
    have k0 : (0 : Int) ≤ (k : Int) ∧ (k : Int) < ((l.length : Nat) : Int) := by omega
    clear hx
    go_wp2_with fail
    go_quiet (fail)
    go_wp2_with fail
    go_roundw
    case rel => exact ⟨k + 1, by omega, by go_num, belowDN HBR.out _⟩
    case measure => simp [intOf]; omega
set_option maxRecDepth 100000 in
set_option maxHeartbeats 4000000 in
theorem same_ports (va vb : Value) (l : List PortD) (W : World) (ha : Hid (DAt W (fun _ => True) va (.row 6 (l.map PortD.cells)))) (hb : Hid (DAt W (fun _ => True) vb (.row 6 (l.map PortD.cells)))) (hn : l.length ≤ 140737488355328) :
    Calls Tryz.prog 54 #[va, vb] W fun e w' => e = .returned (.bool true) ∧ Below W.heap.size W w' := by
  obtain ⟨A, c, rfl, hA⟩ := ha.out.slice
  obtain ⟨B, d, rfl, hB⟩ := hb.out.slice
  have HA := hide hA
  have HB := hide hB
  clear hA hB ha hb
  rw [List.length_map]
  go_enter Tryz.func54, Tryz.ntmps54
  go_wp2_with fail
  go_loopw [13] (fun v wr => ∃ k : Nat, k ≤ l.length ∧ v = .int .i64 k ∧ Below W.heap.size W wr) (fun v _ => l.length - (intOf v).toNat)
  case atStart => exact ⟨0, by omega, rfl, Below.refl _ _⟩
  case round =>
    obtain ⟨k, hk, rfl, hbr⟩ := hrel
    have HBR := hide hbr
    clear hbr
    by_cases hlt : k < l.length
    rotate_left
    · obtain rfl : k = l.length := by omega
      clear hlt
      go_wp2_with fail
      go_ret
      exact ⟨rfl, HBR.out⟩
    obtain ⟨x, hx⟩ : ∃ x, l[k]? = some x := ⟨_, List.getElem?_eq_getElem hlt⟩
    obtain ⟨bA, oA, rfl, hbA, hcaA⟩ := HA.out.at_ hx
    obtain ⟨uA0, a0, gA0⟩ := hcaA 0 _ rfl
    obtain rfl := gA0.leaf_eq
    obtain ⟨uA1, a1, gA1⟩ := hcaA 1 _ rfl
    obtain rfl := gA1.leaf_eq
    obtain ⟨uA2, a2, gA2⟩ := hcaA 2 _ rfl
    obtain rfl := gA2.leaf_eq
    obtain ⟨uA3, a3, gA3⟩ := hcaA 3 _ rfl
    obtain rfl := gA3.leaf_eq
    obtain ⟨uA4, a4, gA4⟩ := hcaA 4 _ rfl
    obtain rfl := gA4.leaf_eq
    obtain ⟨uA5, a5, gA5⟩ := hcaA 5 _ rfl
    obtain rfl := gA5.leaf_eq
    clear hcaA
    have a0 := (HBR.out.cell (p := ⟨bA, oA + k * 6, none⟩) hbA).trans a0
    have a1 := (HBR.out.cell (p := ⟨bA, oA + k * 6 + 1, none⟩) hbA).trans a1
    have a2 := (HBR.out.cell (p := ⟨bA, oA + k * 6 + 2, none⟩) hbA).trans a2
    have a3 := (HBR.out.cell (p := ⟨bA, oA + k * 6 + 3, none⟩) hbA).trans a3
    have a4 := (HBR.out.cell (p := ⟨bA, oA + k * 6 + 4, none⟩) hbA).trans a4
    have a5 := (HBR.out.cell (p := ⟨bA, oA + k * 6 + 5, none⟩) hbA).trans a5
    simp only [strV] at a0 a1 a2 a3 a4 a5
    obtain ⟨bB, oB, rfl, hbB, hcaB⟩ := HB.out.at_ hx
    obtain ⟨uB0, b0, gB0⟩ := hcaB 0 _ rfl
    obtain rfl := gB0.leaf_eq
    obtain ⟨uB1, b1, gB1⟩ := hcaB 1 _ rfl
    obtain rfl := gB1.leaf_eq
    obtain ⟨uB2, b2, gB2⟩ := hcaB 2 _ rfl
    obtain rfl := gB2.leaf_eq
    obtain ⟨uB3, b3, gB3⟩ := hcaB 3 _ rfl
    obtain rfl := gB3.leaf_eq
    obtain ⟨uB4, b4, gB4⟩ := hcaB 4 _ rfl
    obtain rfl := gB4.leaf_eq
    obtain ⟨uB5, b5, gB5⟩ := hcaB 5 _ rfl
    obtain rfl := gB5.leaf_eq
    clear hcaB
    have b0 := (HBR.out.cell (p := ⟨bB, oB + k * 6, none⟩) hbB).trans b0
    have b1 := (HBR.out.cell (p := ⟨bB, oB + k * 6 + 1, none⟩) hbB).trans b1
    have b2 := (HBR.out.cell (p := ⟨bB, oB + k * 6 + 2, none⟩) hbB).trans b2
    have b3 := (HBR.out.cell (p := ⟨bB, oB + k * 6 + 3, none⟩) hbB).trans b3
    have b4 := (HBR.out.cell (p := ⟨bB, oB + k * 6 + 4, none⟩) hbB).trans b4
    have b5 := (HBR.out.cell (p := ⟨bB, oB + k * 6 + 5, none⟩) hbB).trans b5
    simp only [strV] at b0 b1 b2 b3 b4 b5
    have k0 : (0 : Int) ≤ (k : Int) ∧ (k : Int) < ((l.length : Nat) : Int) := by omega
    clear hx
    go_wp2_with fail
    go_quiet (fail)
    go_wp2_with fail
    go_roundw
    case rel => exact ⟨k + 1, by omega, by go_num, belowDN HBR.out _⟩
    case measure => simp [intOf]; omega
set_option maxRecDepth 100000 in
set_option maxHeartbeats 4000000 in
theorem same_refs (va vb : Value) (l : List RefD) (W : World) (ha : Hid (DAt W (fun _ => True) va (.row 3 (l.map RefD.cells)))) (hb : Hid (DAt W (fun _ => True) vb (.row 3 (l.map RefD.cells)))) (hn : l.length ≤ 140737488355328) :
    Calls Tryz.prog 59 #[va, vb] W fun e w' => e = .returned (.bool true) ∧ Below W.heap.size W w' := by
  obtain ⟨A, c, rfl, hA⟩ := ha.out.slice
  obtain ⟨B, d, rfl, hB⟩ := hb.out.slice
  have HA := hide hA
  have HB := hide hB
  clear hA hB ha hb
  rw [List.length_map]
  go_enter Tryz.func59, Tryz.ntmps59
  go_wp2_with fail
  go_loopw [13] (fun v wr => ∃ k : Nat, k ≤ l.length ∧ v = .int .i64 k ∧ Below W.heap.size W wr) (fun v _ => l.length - (intOf v).toNat)
  case atStart => exact ⟨0, by omega, rfl, Below.refl _ _⟩
  case round =>
    obtain ⟨k, hk, rfl, hbr⟩ := hrel
    have HBR := hide hbr
    clear hbr
    by_cases hlt : k < l.length
    rotate_left
    · obtain rfl : k = l.length := by omega
      clear hlt
      go_wp2_with fail
      go_ret
      exact ⟨rfl, HBR.out⟩
    obtain ⟨x, hx⟩ : ∃ x, l[k]? = some x := ⟨_, List.getElem?_eq_getElem hlt⟩
    obtain ⟨bA, oA, rfl, hbA, hcaA⟩ := HA.out.at_ hx
    obtain ⟨uA0, a0, gA0⟩ := hcaA 0 _ rfl
    obtain rfl := gA0.leaf_eq
    obtain ⟨uA1, a1, gA1⟩ := hcaA 1 _ rfl
    obtain rfl := gA1.leaf_eq
    obtain ⟨uA2, a2, gA2⟩ := hcaA 2 _ rfl
    obtain rfl := gA2.leaf_eq
    clear hcaA
    have a0 := (HBR.out.cell (p := ⟨bA, oA + k * 3, none⟩) hbA).trans a0
    have a1 := (HBR.out.cell (p := ⟨bA, oA + k * 3 + 1, none⟩) hbA).trans a1
    have a2 := (HBR.out.cell (p := ⟨bA, oA + k * 3 + 2, none⟩) hbA).trans a2
    simp only [strV] at a0 a1 a2
    obtain ⟨bB, oB, rfl, hbB, hcaB⟩ := HB.out.at_ hx
    obtain ⟨uB0, b0, gB0⟩ := hcaB 0 _ rfl
    obtain rfl := gB0.leaf_eq
    obtain ⟨uB1, b1, gB1⟩ := hcaB 1 _ rfl
    obtain rfl := gB1.leaf_eq
    obtain ⟨uB2, b2, gB2⟩ := hcaB 2 _ rfl
    obtain rfl := gB2.leaf_eq
    clear hcaB
    have b0 := (HBR.out.cell (p := ⟨bB, oB + k * 3, none⟩) hbB).trans b0
    have b1 := (HBR.out.cell (p := ⟨bB, oB + k * 3 + 1, none⟩) hbB).trans b1
    have b2 := (HBR.out.cell (p := ⟨bB, oB + k * 3 + 2, none⟩) hbB).trans b2
    simp only [strV] at b0 b1 b2
    have k0 : (0 : Int) ≤ (k : Int) ∧ (k : Int) < ((l.length : Nat) : Int) := by omega
    clear hx
    go_wp2_with fail
    go_quiet (fail)
    go_wp2_with fail
    go_roundw
    case rel => exact ⟨k + 1, by omega, by go_num, belowDN HBR.out _⟩
    case measure => simp [intOf]; omega
set_option maxRecDepth 100000 in
set_option maxHeartbeats 4000000 in
theorem same_sws (va vb : Value) (l : List SwD) (W : World) (ha : Hid (DAt W (fun _ => True) va (.row 4 (l.map SwD.cells)))) (hb : Hid (DAt W (fun _ => True) vb (.row 4 (l.map SwD.cells)))) (hn : l.length ≤ 140737488355328) :
    Calls Tryz.prog 63 #[va, vb] W fun e w' => e = .returned (.bool true) ∧ Below W.heap.size W w' := by
  obtain ⟨A, c, rfl, hA⟩ := ha.out.slice
  obtain ⟨B, d, rfl, hB⟩ := hb.out.slice
  have HA := hide hA
  have HB := hide hB
  clear hA hB ha hb
  rw [List.length_map]
  go_enter Tryz.func63, Tryz.ntmps63
  go_wp2_with fail
  go_loopw [13] (fun v wr => ∃ k : Nat, k ≤ l.length ∧ v = .int .i64 k ∧ Below W.heap.size W wr) (fun v _ => l.length - (intOf v).toNat)
  case atStart => exact ⟨0, by omega, rfl, Below.refl _ _⟩
  case round =>
    obtain ⟨k, hk, rfl, hbr⟩ := hrel
    have HBR := hide hbr
    clear hbr
    by_cases hlt : k < l.length
    rotate_left
    · obtain rfl : k = l.length := by omega
      clear hlt
      go_wp2_with fail
      go_ret
      exact ⟨rfl, HBR.out⟩
    obtain ⟨x, hx⟩ : ∃ x, l[k]? = some x := ⟨_, List.getElem?_eq_getElem hlt⟩
    obtain ⟨bA, oA, rfl, hbA, hcaA⟩ := HA.out.at_ hx
    obtain ⟨uA0, a0, gA0⟩ := hcaA 0 _ rfl
    obtain rfl := gA0.leaf_eq
    obtain ⟨uA1, a1, gA1⟩ := hcaA 1 _ rfl
    obtain rfl := gA1.leaf_eq
    obtain ⟨uA2, a2, gA2⟩ := hcaA 2 _ rfl
    obtain rfl := gA2.leaf_eq
    obtain ⟨uA3, a3, gA3⟩ := hcaA 3 _ rfl
    obtain rfl := gA3.leaf_eq
    clear hcaA
    have a0 := (HBR.out.cell (p := ⟨bA, oA + k * 4, none⟩) hbA).trans a0
    have a1 := (HBR.out.cell (p := ⟨bA, oA + k * 4 + 1, none⟩) hbA).trans a1
    have a2 := (HBR.out.cell (p := ⟨bA, oA + k * 4 + 2, none⟩) hbA).trans a2
    have a3 := (HBR.out.cell (p := ⟨bA, oA + k * 4 + 3, none⟩) hbA).trans a3
    simp only [strV] at a0 a1 a2 a3
    obtain ⟨bB, oB, rfl, hbB, hcaB⟩ := HB.out.at_ hx
    obtain ⟨uB0, b0, gB0⟩ := hcaB 0 _ rfl
    obtain rfl := gB0.leaf_eq
    obtain ⟨uB1, b1, gB1⟩ := hcaB 1 _ rfl
    obtain rfl := gB1.leaf_eq
    obtain ⟨uB2, b2, gB2⟩ := hcaB 2 _ rfl
    obtain rfl := gB2.leaf_eq
    obtain ⟨uB3, b3, gB3⟩ := hcaB 3 _ rfl
    obtain rfl := gB3.leaf_eq
    clear hcaB
    have b0 := (HBR.out.cell (p := ⟨bB, oB + k * 4, none⟩) hbB).trans b0
    have b1 := (HBR.out.cell (p := ⟨bB, oB + k * 4 + 1, none⟩) hbB).trans b1
    have b2 := (HBR.out.cell (p := ⟨bB, oB + k * 4 + 2, none⟩) hbB).trans b2
    have b3 := (HBR.out.cell (p := ⟨bB, oB + k * 4 + 3, none⟩) hbB).trans b3
    simp only [strV] at b0 b1 b2 b3
    have k0 : (0 : Int) ≤ (k : Int) ∧ (k : Int) < ((l.length : Nat) : Int) := by omega
    clear hx
    go_wp2_with fail
    go_quiet (fail)
    go_wp2_with fail
    go_roundw
    case rel => exact ⟨k + 1, by omega, by go_num, belowDN HBR.out _⟩
    case measure => simp [intOf]; omega
set_option maxRecDepth 100000 in
set_option maxHeartbeats 4000000 in
theorem same_links (va vb : Value) (l : List LinkD) (W : World) (ha : Hid (DAt W (fun _ => True) va (.row 4 (l.map LinkD.cells)))) (hb : Hid (DAt W (fun _ => True) vb (.row 4 (l.map LinkD.cells)))) (hn : l.length ≤ 140737488355328) :
    Calls Tryz.prog 64 #[va, vb] W fun e w' => e = .returned (.bool true) ∧ Below W.heap.size W w' := by
  obtain ⟨A, c, rfl, hA⟩ := ha.out.slice
  obtain ⟨B, d, rfl, hB⟩ := hb.out.slice
  have HA := hide hA
  have HB := hide hB
  clear hA hB ha hb
  rw [List.length_map]
  go_enter Tryz.func64, Tryz.ntmps64
  go_wp2_with fail
  go_loopw [13] (fun v wr => ∃ k : Nat, k ≤ l.length ∧ v = .int .i64 k ∧ Below W.heap.size W wr) (fun v _ => l.length - (intOf v).toNat)
  case atStart => exact ⟨0, by omega, rfl, Below.refl _ _⟩
  case round =>
    obtain ⟨k, hk, rfl, hbr⟩ := hrel
    have HBR := hide hbr
    clear hbr
    by_cases hlt : k < l.length
    rotate_left
    · obtain rfl : k = l.length := by omega
      clear hlt
      go_wp2_with fail
      go_ret
      exact ⟨rfl, HBR.out⟩
    obtain ⟨x, hx⟩ : ∃ x, l[k]? = some x := ⟨_, List.getElem?_eq_getElem hlt⟩
    obtain ⟨bA, oA, rfl, hbA, hcaA⟩ := HA.out.at_ hx
    obtain ⟨uA0, a0, gA0⟩ := hcaA 0 _ rfl
    obtain rfl := gA0.leaf_eq
    obtain ⟨uA1, a1, gA1⟩ := hcaA 1 _ rfl
    obtain rfl := gA1.leaf_eq
    obtain ⟨uA2, a2, gA2⟩ := hcaA 2 _ rfl
    obtain rfl := gA2.leaf_eq
    obtain ⟨uA3, a3, gA3⟩ := hcaA 3 _ rfl
    obtain rfl := gA3.leaf_eq
    clear hcaA
    have a0 := (HBR.out.cell (p := ⟨bA, oA + k * 4, none⟩) hbA).trans a0
    have a1 := (HBR.out.cell (p := ⟨bA, oA + k * 4 + 1, none⟩) hbA).trans a1
    have a2 := (HBR.out.cell (p := ⟨bA, oA + k * 4 + 2, none⟩) hbA).trans a2
    have a3 := (HBR.out.cell (p := ⟨bA, oA + k * 4 + 3, none⟩) hbA).trans a3
    simp only [strV] at a0 a1 a2 a3
    obtain ⟨bB, oB, rfl, hbB, hcaB⟩ := HB.out.at_ hx
    obtain ⟨uB0, b0, gB0⟩ := hcaB 0 _ rfl
    obtain rfl := gB0.leaf_eq
    obtain ⟨uB1, b1, gB1⟩ := hcaB 1 _ rfl
    obtain rfl := gB1.leaf_eq
    obtain ⟨uB2, b2, gB2⟩ := hcaB 2 _ rfl
    obtain rfl := gB2.leaf_eq
    obtain ⟨uB3, b3, gB3⟩ := hcaB 3 _ rfl
    obtain rfl := gB3.leaf_eq
    clear hcaB
    have b0 := (HBR.out.cell (p := ⟨bB, oB + k * 4, none⟩) hbB).trans b0
    have b1 := (HBR.out.cell (p := ⟨bB, oB + k * 4 + 1, none⟩) hbB).trans b1
    have b2 := (HBR.out.cell (p := ⟨bB, oB + k * 4 + 2, none⟩) hbB).trans b2
    have b3 := (HBR.out.cell (p := ⟨bB, oB + k * 4 + 3, none⟩) hbB).trans b3
    simp only [strV] at b0 b1 b2 b3
    have k0 : (0 : Int) ≤ (k : Int) ∧ (k : Int) < ((l.length : Nat) : Int) := by omega
    clear hx
    go_wp2_with fail
    go_quiet (fail)
    go_wp2_with fail
    go_roundw
    case rel => exact ⟨k + 1, by omega, by go_num, belowDN HBR.out _⟩
    case measure => simp [intOf]; omega
set_option maxRecDepth 100000 in
set_option maxHeartbeats 4000000 in
theorem same_healths (va vb : Value) (l : List HealthD) (W : World) (ha : Hid (DAt W (fun _ => True) va (.row 5 (l.map HealthD.cells)))) (hb : Hid (DAt W (fun _ => True) vb (.row 5 (l.map HealthD.cells)))) (hn : l.length ≤ 140737488355328) :
    Calls Tryz.prog 66 #[va, vb] W fun e w' => e = .returned (.bool true) ∧ Below W.heap.size W w' := by
  obtain ⟨A, c, rfl, hA⟩ := ha.out.slice
  obtain ⟨B, d, rfl, hB⟩ := hb.out.slice
  have HA := hide hA
  have HB := hide hB
  clear hA hB ha hb
  rw [List.length_map]
  go_enter Tryz.func66, Tryz.ntmps66
  go_wp2_with fail
  go_loopw [13] (fun v wr => ∃ k : Nat, k ≤ l.length ∧ v = .int .i64 k ∧ Below W.heap.size W wr) (fun v _ => l.length - (intOf v).toNat)
  case atStart => exact ⟨0, by omega, rfl, Below.refl _ _⟩
  case round =>
    obtain ⟨k, hk, rfl, hbr⟩ := hrel
    have HBR := hide hbr
    clear hbr
    by_cases hlt : k < l.length
    rotate_left
    · obtain rfl : k = l.length := by omega
      clear hlt
      go_wp2_with fail
      go_ret
      exact ⟨rfl, HBR.out⟩
    obtain ⟨x, hx⟩ : ∃ x, l[k]? = some x := ⟨_, List.getElem?_eq_getElem hlt⟩
    obtain ⟨bA, oA, rfl, hbA, hcaA⟩ := HA.out.at_ hx
    obtain ⟨uA0, a0, gA0⟩ := hcaA 0 _ rfl
    obtain rfl := gA0.leaf_eq
    obtain ⟨uA1, a1, gA1⟩ := hcaA 1 _ rfl
    obtain rfl := gA1.leaf_eq
    obtain ⟨uA2, a2, gA2⟩ := hcaA 2 _ rfl
    obtain rfl := gA2.leaf_eq
    obtain ⟨uA3, a3, gA3⟩ := hcaA 3 _ rfl
    obtain rfl := gA3.leaf_eq
    obtain ⟨uA4, a4, gA4⟩ := hcaA 4 _ rfl
    obtain rfl := gA4.leaf_eq
    clear hcaA
    have a0 := (HBR.out.cell (p := ⟨bA, oA + k * 5, none⟩) hbA).trans a0
    have a1 := (HBR.out.cell (p := ⟨bA, oA + k * 5 + 1, none⟩) hbA).trans a1
    have a2 := (HBR.out.cell (p := ⟨bA, oA + k * 5 + 2, none⟩) hbA).trans a2
    have a3 := (HBR.out.cell (p := ⟨bA, oA + k * 5 + 3, none⟩) hbA).trans a3
    have a4 := (HBR.out.cell (p := ⟨bA, oA + k * 5 + 4, none⟩) hbA).trans a4
    simp only [strV] at a0 a1 a2 a3 a4
    obtain ⟨bB, oB, rfl, hbB, hcaB⟩ := HB.out.at_ hx
    obtain ⟨uB0, b0, gB0⟩ := hcaB 0 _ rfl
    obtain rfl := gB0.leaf_eq
    obtain ⟨uB1, b1, gB1⟩ := hcaB 1 _ rfl
    obtain rfl := gB1.leaf_eq
    obtain ⟨uB2, b2, gB2⟩ := hcaB 2 _ rfl
    obtain rfl := gB2.leaf_eq
    obtain ⟨uB3, b3, gB3⟩ := hcaB 3 _ rfl
    obtain rfl := gB3.leaf_eq
    obtain ⟨uB4, b4, gB4⟩ := hcaB 4 _ rfl
    obtain rfl := gB4.leaf_eq
    clear hcaB
    have b0 := (HBR.out.cell (p := ⟨bB, oB + k * 5, none⟩) hbB).trans b0
    have b1 := (HBR.out.cell (p := ⟨bB, oB + k * 5 + 1, none⟩) hbB).trans b1
    have b2 := (HBR.out.cell (p := ⟨bB, oB + k * 5 + 2, none⟩) hbB).trans b2
    have b3 := (HBR.out.cell (p := ⟨bB, oB + k * 5 + 3, none⟩) hbB).trans b3
    have b4 := (HBR.out.cell (p := ⟨bB, oB + k * 5 + 4, none⟩) hbB).trans b4
    simp only [strV] at b0 b1 b2 b3 b4
    have k0 : (0 : Int) ≤ (k : Int) ∧ (k : Int) < ((l.length : Nat) : Int) := by omega
    clear hx
    go_wp2_with fail
    go_quiet (fail)
    go_wp2_with fail
    go_roundw
    case rel => exact ⟨k + 1, by omega, by go_num, belowDN HBR.out _⟩
    case measure => simp [intOf]; omega
set_option maxRecDepth 100000 in
set_option maxHeartbeats 4000000 in
theorem same_vers (va vb : Value) (l : List VerD) (W : World) (ha : Hid (DAt W (fun _ => True) va (.row 4 (l.map VerD.cells)))) (hb : Hid (DAt W (fun _ => True) vb (.row 4 (l.map VerD.cells)))) (hn : l.length ≤ 140737488355328) :
    Calls Tryz.prog 68 #[va, vb] W fun e w' => e = .returned (.bool true) ∧ Below W.heap.size W w' := by
  obtain ⟨A, c, rfl, hA⟩ := ha.out.slice
  obtain ⟨B, d, rfl, hB⟩ := hb.out.slice
  have HA := hide hA
  have HB := hide hB
  clear hA hB ha hb
  rw [List.length_map]
  go_enter Tryz.func68, Tryz.ntmps68
  go_wp2_with fail
  go_loopw [13] (fun v wr => ∃ k : Nat, k ≤ l.length ∧ v = .int .i64 k ∧ Below W.heap.size W wr) (fun v _ => l.length - (intOf v).toNat)
  case atStart => exact ⟨0, by omega, rfl, Below.refl _ _⟩
  case round =>
    obtain ⟨k, hk, rfl, hbr⟩ := hrel
    have HBR := hide hbr
    clear hbr
    by_cases hlt : k < l.length
    rotate_left
    · obtain rfl : k = l.length := by omega
      clear hlt
      go_wp2_with fail
      go_ret
      exact ⟨rfl, HBR.out⟩
    obtain ⟨x, hx⟩ : ∃ x, l[k]? = some x := ⟨_, List.getElem?_eq_getElem hlt⟩
    obtain ⟨bA, oA, rfl, hbA, hcaA⟩ := HA.out.at_ hx
    obtain ⟨uA0, a0, gA0⟩ := hcaA 0 _ rfl
    obtain rfl := gA0.leaf_eq
    obtain ⟨uA1, a1, gA1⟩ := hcaA 1 _ rfl
    obtain rfl := gA1.leaf_eq
    obtain ⟨uA2, a2, gA2⟩ := hcaA 2 _ rfl
    obtain rfl := gA2.leaf_eq
    obtain ⟨uA3, a3, gA3⟩ := hcaA 3 _ rfl
    obtain rfl := gA3.leaf_eq
    clear hcaA
    have a0 := (HBR.out.cell (p := ⟨bA, oA + k * 4, none⟩) hbA).trans a0
    have a1 := (HBR.out.cell (p := ⟨bA, oA + k * 4 + 1, none⟩) hbA).trans a1
    have a2 := (HBR.out.cell (p := ⟨bA, oA + k * 4 + 2, none⟩) hbA).trans a2
    have a3 := (HBR.out.cell (p := ⟨bA, oA + k * 4 + 3, none⟩) hbA).trans a3
    simp only [strV] at a0 a1 a2 a3
    obtain ⟨bB, oB, rfl, hbB, hcaB⟩ := HB.out.at_ hx
    obtain ⟨uB0, b0, gB0⟩ := hcaB 0 _ rfl
    obtain rfl := gB0.leaf_eq
    obtain ⟨uB1, b1, gB1⟩ := hcaB 1 _ rfl
    obtain rfl := gB1.leaf_eq
    obtain ⟨uB2, b2, gB2⟩ := hcaB 2 _ rfl
    obtain rfl := gB2.leaf_eq
    obtain ⟨uB3, b3, gB3⟩ := hcaB 3 _ rfl
    obtain rfl := gB3.leaf_eq
    clear hcaB
    have b0 := (HBR.out.cell (p := ⟨bB, oB + k * 4, none⟩) hbB).trans b0
    have b1 := (HBR.out.cell (p := ⟨bB, oB + k * 4 + 1, none⟩) hbB).trans b1
    have b2 := (HBR.out.cell (p := ⟨bB, oB + k * 4 + 2, none⟩) hbB).trans b2
    have b3 := (HBR.out.cell (p := ⟨bB, oB + k * 4 + 3, none⟩) hbB).trans b3
    simp only [strV] at b0 b1 b2 b3
    have k0 : (0 : Int) ≤ (k : Int) ∧ (k : Int) < ((l.length : Nat) : Int) := by omega
    clear hx
    go_wp2_with fail
    go_quiet (fail)
    go_wp2_with fail
    go_roundw
    case rel => exact ⟨k + 1, by omega, by go_num, belowDN HBR.out _⟩
    case measure => simp [intOf]; omega
set_option maxRecDepth 100000 in
set_option maxHeartbeats 4000000 in
theorem same_cause (x : CauseD) (us vs : List Value) (W : World) (ha : Hid (DCells W (fun _ => True) us x.cells)) (hb : Hid (DCells W (fun _ => True) vs x.cells)) (hl : CauseFit x) :
    Calls Tryz.prog 47 #[.agg us.toArray, .agg vs.toArray] W fun e w' => e = .returned (.bool true) ∧ Below W.heap.size W w' := by
  have hd := ha.out
  have he := hb.out
  obtain ⟨u0, us, rfl, h0, hd⟩ := dcells_cons hd
  obtain ⟨v0, vs, rfl, i0, he⟩ := dcells_cons he
  obtain ⟨u1, us, rfl, h1, hd⟩ := dcells_cons hd
  obtain ⟨v1, vs, rfl, i1, he⟩ := dcells_cons he
  obtain ⟨u2, us, rfl, h2, hd⟩ := dcells_cons hd
  obtain ⟨v2, vs, rfl, i2, he⟩ := dcells_cons he
  obtain rfl := dcells_nil hd
  obtain rfl := dcells_nil he
  obtain rfl := h0.leaf_eq
  obtain rfl := i0.leaf_eq
  have HU1 := hide h1
  have HV1 := hide i1
  obtain ⟨A1, p1, rfl, -⟩ := h1.slice
  obtain ⟨B1, r1, rfl, -⟩ := i1.slice
  simp only [List.length_map] at HU1 HV1 ⊢
  have HU2 := hide h2
  have HV2 := hide i2
  obtain ⟨A2, p2, rfl, -⟩ := h2.slice
  obtain ⟨B2, r2, rfl, -⟩ := i2.slice
  rw [show (strRows x.but).length = x.but.length by simp [strRows]] at HU2 HV2 ⊢
  clear ha hb hd he h0 i0 h1 i1 h2 i2
  simp only [strV]
  have HX := hide ((Below.heap_alloc (W.alloc (.cells #[.string ⟨x.unit.toArray⟩, .slice A1 x.needs.length p1, .slice A2 x.but.length p2] 68)) (.cells #[.string ⟨x.unit.toArray⟩, .slice B1 x.needs.length r1, .slice B2 x.but.length r2] 68) W.heap.size (by simp)).trans (heap_alloc_new W (.cells #[.string ⟨x.unit.toArray⟩, .slice A1 x.needs.length p1, .slice A2 x.but.length p2] 68)))
  have HY := hide (heap_alloc_new (W.alloc (.cells #[.string ⟨x.unit.toArray⟩, .slice A1 x.needs.length p1, .slice A2 x.but.length p2] 68)) (.cells #[.string ⟨x.unit.toArray⟩, .slice B1 x.needs.length r1, .slice B2 x.but.length r2] 68))
  have HB := hide (((Below.refl W.heap.size W).alloc (Nat.le_refl _) (.cells #[.string ⟨x.unit.toArray⟩, .slice A1 x.needs.length p1, .slice A2 x.but.length p2] 68)).alloc (by simp) (.cells #[.string ⟨x.unit.toArray⟩, .slice B1 x.needs.length r1, .slice B2 x.but.length r2] 68))
  have hzz : (W.alloc (.cells #[.string ⟨x.unit.toArray⟩, .slice A1 x.needs.length p1, .slice A2 x.but.length p2] 68)).heap.size = W.heap.size + 1 := by simp
  rw [hzz] at HY
  go_enter Tryz.func47, Tryz.ntmps47
  go_wp2_with fail
  (try rw [hzz])
  clear hzz
  generalize (W.alloc (.cells #[.string ⟨x.unit.toArray⟩, .slice A1 x.needs.length p1, .slice A2 x.but.length p2] 68)).alloc (.cells #[.string ⟨x.unit.toArray⟩, .slice B1 x.needs.length r1, .slice B2 x.but.length r2] 68) = w0 at *
  have HC := hide (same_reps _ _ x.needs w0 (hide (HU1.out.later HB.out)) (hide (HV1.out.later HB.out)) hl.1)
  refine HC.out.mono ?_
  rintro e w1 ⟨rfl, hb⟩
  have HBn := hide (HB.out.trans (hb.mono HB.out.size))
  have HXn := hide ((hb.block _ (Array.getElem?_eq_some_iff.1 HX.out).1).trans HX.out)
  have HYn := hide ((hb.block _ (Array.getElem?_eq_some_iff.1 HY.out).1).trans HY.out)
  clear HB HX HY hb HC
  have HB := HBn
  have HX := HXn
  have HY := HYn
  clear HBn HXn HYn
  have a0 := cell_of_row _ _ 0 _ _ _ HX.out
  have b0 := cell_of_row _ _ 0 _ _ _ HY.out
  have a1 := cell_of_row _ _ 1 _ _ _ HX.out
  have b1 := cell_of_row _ _ 1 _ _ _ HY.out
  have a2 := cell_of_row _ _ 2 _ _ _ HX.out
  have b2 := cell_of_row _ _ 2 _ _ _ HY.out
  go_wp2_with fail
  clear a0 b0 a1 b1 a2 b2
  have HC := hide (same_strs _ _ x.but w1 (hide (HU2.out.later HB.out)) (hide (HV2.out.later HB.out)) (by have := hl.2; omega))
  refine HC.out.mono ?_
  rintro e w2 ⟨rfl, hb⟩
  have HBn := hide (HB.out.trans (hb.mono HB.out.size))
  have HXn := hide ((hb.block _ (Array.getElem?_eq_some_iff.1 HX.out).1).trans HX.out)
  have HYn := hide ((hb.block _ (Array.getElem?_eq_some_iff.1 HY.out).1).trans HY.out)
  clear HB HX HY hb HC
  have HB := HBn
  have HX := HXn
  have HY := HYn
  clear HBn HXn HYn
  go_wp2_with fail
  go_ret
  exact ⟨rfl, HB.out⟩
set_option maxRecDepth 100000 in
set_option maxHeartbeats 4000000 in
theorem same_causes (va vb : Value) (l : List CauseD) (W : World) (ha : Hid (DAt W (fun _ => True) va (.row 3 (l.map CauseD.cells)))) (hb : Hid (DAt W (fun _ => True) vb (.row 3 (l.map CauseD.cells)))) (hn : l.length ≤ 140737488355328) (hl : ∀ y ∈ l, CauseFit y) :
    Calls Tryz.prog 67 #[va, vb, .func (.func 47) #[] #[]] W fun e w' => e = .returned (.bool true) ∧ Below W.heap.size W w' := by
  obtain ⟨A, c, rfl, hA⟩ := ha.out.slice
  obtain ⟨B, d, rfl, hB⟩ := hb.out.slice
  have HA := hide hA
  have HB := hide hB
  clear hA hB ha hb
  rw [List.length_map]
  go_enter Tryz.func67, Tryz.ntmps67
  go_wp2_with fail
  go_loopw [17] (fun v wr => ∃ k : Nat, k ≤ l.length ∧ v = .int .i64 k ∧ Below W.heap.size W wr) (fun v _ => l.length - (intOf v).toNat)
  case atStart => exact ⟨0, by omega, rfl, Below.refl _ _⟩
  case round =>
    obtain ⟨k, hk, rfl, hbr⟩ := hrel
    have HBR := hide hbr
    clear hbr
    by_cases hlt : k < l.length
    rotate_left
    · obtain rfl : k = l.length := by omega
      clear hlt
      go_wp2_with fail
      go_ret
      exact ⟨rfl, HBR.out⟩
    obtain ⟨x, hx⟩ : ∃ x, l[k]? = some x := ⟨_, List.getElem?_eq_getElem hlt⟩
    obtain ⟨bA, oA, rfl, hbA, hcaA⟩ := HA.out.at_ hx
    obtain ⟨uA0, a0, gA0⟩ := hcaA 0 _ rfl
    obtain rfl := gA0.leaf_eq
    obtain ⟨uA1, a1, gA1⟩ := hcaA 1 _ rfl
    obtain ⟨uA2, a2, gA2⟩ := hcaA 2 _ rfl
    clear hcaA
    have a0 := (HBR.out.cell (p := ⟨bA, oA + k * 3, none⟩) hbA).trans a0
    have a1 := (HBR.out.cell (p := ⟨bA, oA + k * 3 + 1, none⟩) hbA).trans a1
    have a2 := (HBR.out.cell (p := ⟨bA, oA + k * 3 + 2, none⟩) hbA).trans a2
    simp only [strV] at a0 a1 a2
    obtain ⟨bB, oB, rfl, hbB, hcaB⟩ := HB.out.at_ hx
    obtain ⟨uB0, b0, gB0⟩ := hcaB 0 _ rfl
    obtain rfl := gB0.leaf_eq
    obtain ⟨uB1, b1, gB1⟩ := hcaB 1 _ rfl
    obtain ⟨uB2, b2, gB2⟩ := hcaB 2 _ rfl
    clear hcaB
    have b0 := (HBR.out.cell (p := ⟨bB, oB + k * 3, none⟩) hbB).trans b0
    have b1 := (HBR.out.cell (p := ⟨bB, oB + k * 3 + 1, none⟩) hbB).trans b1
    have b2 := (HBR.out.cell (p := ⟨bB, oB + k * 3 + 2, none⟩) hbB).trans b2
    simp only [strV] at b0 b1 b2
    have k0 : (0 : Int) ≤ (k : Int) ∧ (k : Int) < ((l.length : Nat) : Int) := by omega
    have HX := hide hx
    have lbB : bB < wr.heap.size := Nat.lt_of_lt_of_le hbB HBR.out.size
    clear hx
    have HU1 := hide gA1
    have HV1 := hide gB1
    obtain ⟨A1, p1, rfl, -⟩ := gA1.slice
    obtain ⟨B1, r1, rfl, -⟩ := gB1.slice
    have HU2 := hide gA2
    have HV2 := hide gB2
    obtain ⟨A2, p2, rfl, -⟩ := gA2.slice
    obtain ⟨B2, r2, rfl, -⟩ := gB2.slice
    simp only [List.length_map] at HU1 HV1 a1 b1
    rw [show (strRows x.but).length = x.but.length by simp [strRows]] at HU2 HV2 a2 b2
    have HBn := hide ((HBR.out.alloc HBR.out.size (.cells #[.string ⟨x.unit.toArray⟩, .slice A1 x.needs.length p1, .slice A2 x.but.length p2] 68)).alloc (HBR.out.alloc HBR.out.size _).size (.cells #[.string ⟨x.unit.toArray⟩, .slice B1 x.needs.length r1, .slice B2 x.but.length r2] 68))
    have HC := hide (same_cause x [.string ⟨x.unit.toArray⟩, .slice A1 x.needs.length p1, .slice A2 x.but.length p2] [.string ⟨x.unit.toArray⟩, .slice B1 x.needs.length r1, .slice B2 x.but.length r2] ((wr.alloc (.cells #[.string ⟨x.unit.toArray⟩, .slice A1 x.needs.length p1, .slice A2 x.but.length p2] 68)).alloc (.cells #[.string ⟨x.unit.toArray⟩, .slice B1 x.needs.length r1, .slice B2 x.but.length r2] 68)) (hide (DCells.cons (.leaf _) (DCells.cons (HU1.out.later HBn.out) (DCells.cons (HU2.out.later HBn.out) DCells.nil)))) (hide (DCells.cons (.leaf _) (DCells.cons (HV1.out.later HBn.out) (DCells.cons (HV2.out.later HBn.out) DCells.nil)))) (hl x (List.mem_of_getElem? HX.out)))
    go_wp2_with fail
    refine HC.out.mono ?_
    rintro e w3 ⟨rfl, hb3⟩
    have HB3 := hide (HBn.out.trans (hb3.mono HBn.out.size))
    clear hb3 HC
    go_wp2_with fail
    go_roundw
    case rel => exact ⟨k + 1, by omega, by go_num, HB3.out⟩
    case measure => simp [intOf]; omega
set_option maxRecDepth 100000 in
set_option maxHeartbeats 4000000 in
theorem same_proc (x : ProcD) (us vs : List Value) (W : World) (ha : Hid (DCells W (fun _ => True) us x.cells)) (hb : Hid (DCells W (fun _ => True) vs x.cells)) (hl : ProcFit x) :
    Calls Tryz.prog 50 #[.agg us.toArray, .agg vs.toArray] W fun e w' => e = .returned (.bool true) ∧ Below W.heap.size W w' := by
  have hd := ha.out
  have he := hb.out
  obtain ⟨u0, us, rfl, h0, hd⟩ := dcells_cons hd
  obtain ⟨v0, vs, rfl, i0, he⟩ := dcells_cons he
  obtain ⟨u1, us, rfl, h1, hd⟩ := dcells_cons hd
  obtain ⟨v1, vs, rfl, i1, he⟩ := dcells_cons he
  obtain ⟨u2, us, rfl, h2, hd⟩ := dcells_cons hd
  obtain ⟨v2, vs, rfl, i2, he⟩ := dcells_cons he
  obtain ⟨u3, us, rfl, h3, hd⟩ := dcells_cons hd
  obtain ⟨v3, vs, rfl, i3, he⟩ := dcells_cons he
  obtain ⟨u4, us, rfl, h4, hd⟩ := dcells_cons hd
  obtain ⟨v4, vs, rfl, i4, he⟩ := dcells_cons he
  obtain rfl := dcells_nil hd
  obtain rfl := dcells_nil he
  obtain rfl := h0.leaf_eq
  obtain rfl := i0.leaf_eq
  obtain rfl := h1.leaf_eq
  obtain rfl := i1.leaf_eq
  obtain rfl := h2.leaf_eq
  obtain rfl := i2.leaf_eq
  obtain rfl := h3.leaf_eq
  obtain rfl := i3.leaf_eq
  have HU4 := hide h4
  have HV4 := hide i4
  obtain ⟨A4, p4, rfl, -⟩ := h4.slice
  obtain ⟨B4, r4, rfl, -⟩ := i4.slice
  simp only [List.length_map] at HU4 HV4 ⊢
  clear ha hb hd he h0 i0 h1 i1 h2 i2 h3 i3 h4 i4
  simp only [strV]
  have HX := hide ((Below.heap_alloc (W.alloc (.cells #[.string ⟨x.name.toArray⟩, .int .i64 x.prio, .int .i64 x.period, .int .i64 x.limit, .slice A4 x.code.length p4] 31)) (.cells #[.string ⟨x.name.toArray⟩, .int .i64 x.prio, .int .i64 x.period, .int .i64 x.limit, .slice B4 x.code.length r4] 31) W.heap.size (by simp)).trans (heap_alloc_new W (.cells #[.string ⟨x.name.toArray⟩, .int .i64 x.prio, .int .i64 x.period, .int .i64 x.limit, .slice A4 x.code.length p4] 31)))
  have HY := hide (heap_alloc_new (W.alloc (.cells #[.string ⟨x.name.toArray⟩, .int .i64 x.prio, .int .i64 x.period, .int .i64 x.limit, .slice A4 x.code.length p4] 31)) (.cells #[.string ⟨x.name.toArray⟩, .int .i64 x.prio, .int .i64 x.period, .int .i64 x.limit, .slice B4 x.code.length r4] 31))
  have HB := hide (((Below.refl W.heap.size W).alloc (Nat.le_refl _) (.cells #[.string ⟨x.name.toArray⟩, .int .i64 x.prio, .int .i64 x.period, .int .i64 x.limit, .slice A4 x.code.length p4] 31)).alloc (by simp) (.cells #[.string ⟨x.name.toArray⟩, .int .i64 x.prio, .int .i64 x.period, .int .i64 x.limit, .slice B4 x.code.length r4] 31))
  have hzz : (W.alloc (.cells #[.string ⟨x.name.toArray⟩, .int .i64 x.prio, .int .i64 x.period, .int .i64 x.limit, .slice A4 x.code.length p4] 31)).heap.size = W.heap.size + 1 := by simp
  rw [hzz] at HY
  go_enter Tryz.func50, Tryz.ntmps50
  go_wp2_with fail
  (try rw [hzz])
  clear hzz
  generalize (W.alloc (.cells #[.string ⟨x.name.toArray⟩, .int .i64 x.prio, .int .i64 x.period, .int .i64 x.limit, .slice A4 x.code.length p4] 31)).alloc (.cells #[.string ⟨x.name.toArray⟩, .int .i64 x.prio, .int .i64 x.period, .int .i64 x.limit, .slice B4 x.code.length r4] 31) = w0 at *
  have HC := hide (same_inss _ _ x.code w0 (hide (HU4.out.later HB.out)) (hide (HV4.out.later HB.out)) hl.1)
  refine HC.out.mono ?_
  rintro e w1 ⟨rfl, hb⟩
  have HBn := hide (HB.out.trans (hb.mono HB.out.size))
  have HXn := hide ((hb.block _ (Array.getElem?_eq_some_iff.1 HX.out).1).trans HX.out)
  have HYn := hide ((hb.block _ (Array.getElem?_eq_some_iff.1 HY.out).1).trans HY.out)
  clear HB HX HY hb HC
  have HB := HBn
  have HX := HXn
  have HY := HYn
  clear HBn HXn HYn
  go_wp2_with fail
  go_ret
  exact ⟨rfl, HB.out⟩
set_option maxRecDepth 100000 in
set_option maxHeartbeats 4000000 in
theorem same_procs (va vb : Value) (l : List ProcD) (W : World) (ha : Hid (DAt W (fun _ => True) va (.row 5 (l.map ProcD.cells)))) (hb : Hid (DAt W (fun _ => True) vb (.row 5 (l.map ProcD.cells)))) (hn : l.length ≤ 140737488355328) (hl : ∀ y ∈ l, ProcFit y) :
    Calls Tryz.prog 55 #[va, vb, .func (.func 50) #[] #[]] W fun e w' => e = .returned (.bool true) ∧ Below W.heap.size W w' := by
  obtain ⟨A, c, rfl, hA⟩ := ha.out.slice
  obtain ⟨B, d, rfl, hB⟩ := hb.out.slice
  have HA := hide hA
  have HB := hide hB
  clear hA hB ha hb
  rw [List.length_map]
  go_enter Tryz.func55, Tryz.ntmps55
  go_wp2_with fail
  go_loopw [17] (fun v wr => ∃ k : Nat, k ≤ l.length ∧ v = .int .i64 k ∧ Below W.heap.size W wr) (fun v _ => l.length - (intOf v).toNat)
  case atStart => exact ⟨0, by omega, rfl, Below.refl _ _⟩
  case round =>
    obtain ⟨k, hk, rfl, hbr⟩ := hrel
    have HBR := hide hbr
    clear hbr
    by_cases hlt : k < l.length
    rotate_left
    · obtain rfl : k = l.length := by omega
      clear hlt
      go_wp2_with fail
      go_ret
      exact ⟨rfl, HBR.out⟩
    obtain ⟨x, hx⟩ : ∃ x, l[k]? = some x := ⟨_, List.getElem?_eq_getElem hlt⟩
    obtain ⟨bA, oA, rfl, hbA, hcaA⟩ := HA.out.at_ hx
    obtain ⟨uA0, a0, gA0⟩ := hcaA 0 _ rfl
    obtain rfl := gA0.leaf_eq
    obtain ⟨uA1, a1, gA1⟩ := hcaA 1 _ rfl
    obtain rfl := gA1.leaf_eq
    obtain ⟨uA2, a2, gA2⟩ := hcaA 2 _ rfl
    obtain rfl := gA2.leaf_eq
    obtain ⟨uA3, a3, gA3⟩ := hcaA 3 _ rfl
    obtain rfl := gA3.leaf_eq
    obtain ⟨uA4, a4, gA4⟩ := hcaA 4 _ rfl
    clear hcaA
    have a0 := (HBR.out.cell (p := ⟨bA, oA + k * 5, none⟩) hbA).trans a0
    have a1 := (HBR.out.cell (p := ⟨bA, oA + k * 5 + 1, none⟩) hbA).trans a1
    have a2 := (HBR.out.cell (p := ⟨bA, oA + k * 5 + 2, none⟩) hbA).trans a2
    have a3 := (HBR.out.cell (p := ⟨bA, oA + k * 5 + 3, none⟩) hbA).trans a3
    have a4 := (HBR.out.cell (p := ⟨bA, oA + k * 5 + 4, none⟩) hbA).trans a4
    simp only [strV] at a0 a1 a2 a3 a4
    obtain ⟨bB, oB, rfl, hbB, hcaB⟩ := HB.out.at_ hx
    obtain ⟨uB0, b0, gB0⟩ := hcaB 0 _ rfl
    obtain rfl := gB0.leaf_eq
    obtain ⟨uB1, b1, gB1⟩ := hcaB 1 _ rfl
    obtain rfl := gB1.leaf_eq
    obtain ⟨uB2, b2, gB2⟩ := hcaB 2 _ rfl
    obtain rfl := gB2.leaf_eq
    obtain ⟨uB3, b3, gB3⟩ := hcaB 3 _ rfl
    obtain rfl := gB3.leaf_eq
    obtain ⟨uB4, b4, gB4⟩ := hcaB 4 _ rfl
    clear hcaB
    have b0 := (HBR.out.cell (p := ⟨bB, oB + k * 5, none⟩) hbB).trans b0
    have b1 := (HBR.out.cell (p := ⟨bB, oB + k * 5 + 1, none⟩) hbB).trans b1
    have b2 := (HBR.out.cell (p := ⟨bB, oB + k * 5 + 2, none⟩) hbB).trans b2
    have b3 := (HBR.out.cell (p := ⟨bB, oB + k * 5 + 3, none⟩) hbB).trans b3
    have b4 := (HBR.out.cell (p := ⟨bB, oB + k * 5 + 4, none⟩) hbB).trans b4
    simp only [strV] at b0 b1 b2 b3 b4
    have k0 : (0 : Int) ≤ (k : Int) ∧ (k : Int) < ((l.length : Nat) : Int) := by omega
    have HX := hide hx
    have lbB : bB < wr.heap.size := Nat.lt_of_lt_of_le hbB HBR.out.size
    clear hx
    have HU4 := hide gA4
    have HV4 := hide gB4
    obtain ⟨A4, p4, rfl, -⟩ := gA4.slice
    obtain ⟨B4, r4, rfl, -⟩ := gB4.slice
    simp only [List.length_map] at HU4 HV4 a4 b4
    have HBn := hide ((HBR.out.alloc HBR.out.size (.cells #[.string ⟨x.name.toArray⟩, .int .i64 x.prio, .int .i64 x.period, .int .i64 x.limit, .slice A4 x.code.length p4] 31)).alloc (HBR.out.alloc HBR.out.size _).size (.cells #[.string ⟨x.name.toArray⟩, .int .i64 x.prio, .int .i64 x.period, .int .i64 x.limit, .slice B4 x.code.length r4] 31))
    have HC := hide (same_proc x [.string ⟨x.name.toArray⟩, .int .i64 x.prio, .int .i64 x.period, .int .i64 x.limit, .slice A4 x.code.length p4] [.string ⟨x.name.toArray⟩, .int .i64 x.prio, .int .i64 x.period, .int .i64 x.limit, .slice B4 x.code.length r4] ((wr.alloc (.cells #[.string ⟨x.name.toArray⟩, .int .i64 x.prio, .int .i64 x.period, .int .i64 x.limit, .slice A4 x.code.length p4] 31)).alloc (.cells #[.string ⟨x.name.toArray⟩, .int .i64 x.prio, .int .i64 x.period, .int .i64 x.limit, .slice B4 x.code.length r4] 31)) (hide (DCells.cons (.leaf _) (DCells.cons (.leaf _) (DCells.cons (.leaf _) (DCells.cons (.leaf _) (DCells.cons (HU4.out.later HBn.out) DCells.nil)))))) (hide (DCells.cons (.leaf _) (DCells.cons (.leaf _) (DCells.cons (.leaf _) (DCells.cons (.leaf _) (DCells.cons (HV4.out.later HBn.out) DCells.nil)))))) (hl x (List.mem_of_getElem? HX.out)))
    go_wp2_with fail
    refine HC.out.mono ?_
    rintro e w3 ⟨rfl, hb3⟩
    have HB3 := hide (HBn.out.trans (hb3.mono HBn.out.size))
    clear hb3 HC
    go_wp2_with fail
    go_roundw
    case rel => exact ⟨k + 1, by omega, by go_num, HB3.out⟩
    case measure => simp [intOf]; omega
set_option maxRecDepth 100000 in
set_option maxHeartbeats 4000000 in
theorem same_part (q : Nat) (x : PartD) (us vs : List Value) (W : World) (ha : Hid (DCells W (fun _ => True) us x.cells)) (hb : Hid (DCells W (fun _ => True) vs x.cells)) (hq : W.cell? ⟨q, 0, none⟩ = some (.func (.func 50) #[] #[])) (hl : PartFit x) :
    Calls Tryz.prog 52 #[.agg us.toArray, .agg vs.toArray, .pointer (some ⟨q, 0, none⟩)] W fun e w' => e = .returned (.bool true) ∧ Below W.heap.size W w' := by
  have hd := ha.out
  have he := hb.out
  obtain ⟨u0, us, rfl, h0, hd⟩ := dcells_cons hd
  obtain ⟨v0, vs, rfl, i0, he⟩ := dcells_cons he
  obtain ⟨u1, us, rfl, h1, hd⟩ := dcells_cons hd
  obtain ⟨v1, vs, rfl, i1, he⟩ := dcells_cons he
  obtain ⟨u2, us, rfl, h2, hd⟩ := dcells_cons hd
  obtain ⟨v2, vs, rfl, i2, he⟩ := dcells_cons he
  obtain ⟨u3, us, rfl, h3, hd⟩ := dcells_cons hd
  obtain ⟨v3, vs, rfl, i3, he⟩ := dcells_cons he
  obtain ⟨u4, us, rfl, h4, hd⟩ := dcells_cons hd
  obtain ⟨v4, vs, rfl, i4, he⟩ := dcells_cons he
  obtain ⟨u5, us, rfl, h5, hd⟩ := dcells_cons hd
  obtain ⟨v5, vs, rfl, i5, he⟩ := dcells_cons he
  obtain ⟨u6, us, rfl, h6, hd⟩ := dcells_cons hd
  obtain ⟨v6, vs, rfl, i6, he⟩ := dcells_cons he
  obtain ⟨u7, us, rfl, h7, hd⟩ := dcells_cons hd
  obtain ⟨v7, vs, rfl, i7, he⟩ := dcells_cons he
  obtain ⟨u8, us, rfl, h8, hd⟩ := dcells_cons hd
  obtain ⟨v8, vs, rfl, i8, he⟩ := dcells_cons he
  obtain ⟨u9, us, rfl, h9, hd⟩ := dcells_cons hd
  obtain ⟨v9, vs, rfl, i9, he⟩ := dcells_cons he
  obtain rfl := dcells_nil hd
  obtain rfl := dcells_nil he
  obtain rfl := h0.leaf_eq
  obtain rfl := i0.leaf_eq
  obtain rfl := h1.leaf_eq
  obtain rfl := i1.leaf_eq
  obtain rfl := h2.leaf_eq
  obtain rfl := i2.leaf_eq
  obtain rfl := h3.leaf_eq
  obtain rfl := i3.leaf_eq
  have HU4 := hide h4
  have HV4 := hide i4
  obtain ⟨A4, p4, rfl, -⟩ := h4.slice
  obtain ⟨B4, r4, rfl, -⟩ := i4.slice
  rw [show (intRows x.semas).length = x.semas.length by simp [intRows]] at HU4 HV4 ⊢
  obtain rfl := h5.leaf_eq
  obtain rfl := i5.leaf_eq
  obtain rfl := h6.leaf_eq
  obtain rfl := i6.leaf_eq
  have HU7 := hide h7
  have HV7 := hide i7
  obtain ⟨A7, p7, rfl, -⟩ := h7.slice
  obtain ⟨B7, r7, rfl, -⟩ := i7.slice
  rw [show (intRows x.bufs).length = x.bufs.length by simp [intRows]] at HU7 HV7 ⊢
  have HU8 := hide h8
  have HV8 := hide i8
  obtain ⟨A8, p8, rfl, -⟩ := h8.slice
  obtain ⟨B8, r8, rfl, -⟩ := i8.slice
  simp only [List.length_map] at HU8 HV8 ⊢
  have HU9 := hide h9
  have HV9 := hide i9
  obtain ⟨A9, p9, rfl, -⟩ := h9.slice
  obtain ⟨B9, r9, rfl, -⟩ := i9.slice
  simp only [List.length_map] at HU9 HV9 ⊢
  clear ha hb hd he h0 i0 h1 i1 h2 i2 h3 i3 h4 i4 h5 i5 h6 i6 h7 i7 h8 i8 h9 i9
  simp only [strV]
  have HX := hide ((Below.heap_alloc (W.alloc (.cells #[.string ⟨x.name.toArray⟩, .int .i64 x.period, .int .i64 x.length, .int .i64 x.mem, .slice A4 x.semas.length p4, .int .i64 x.events, .int .i64 x.boards, .slice A7 x.bufs.length p7, .slice A8 x.ports.length p8, .slice A9 x.procs.length p9] 36)) (.cells #[.string ⟨x.name.toArray⟩, .int .i64 x.period, .int .i64 x.length, .int .i64 x.mem, .slice B4 x.semas.length r4, .int .i64 x.events, .int .i64 x.boards, .slice B7 x.bufs.length r7, .slice B8 x.ports.length r8, .slice B9 x.procs.length r9] 36) W.heap.size (by simp)).trans (heap_alloc_new W (.cells #[.string ⟨x.name.toArray⟩, .int .i64 x.period, .int .i64 x.length, .int .i64 x.mem, .slice A4 x.semas.length p4, .int .i64 x.events, .int .i64 x.boards, .slice A7 x.bufs.length p7, .slice A8 x.ports.length p8, .slice A9 x.procs.length p9] 36)))
  have HY := hide (heap_alloc_new (W.alloc (.cells #[.string ⟨x.name.toArray⟩, .int .i64 x.period, .int .i64 x.length, .int .i64 x.mem, .slice A4 x.semas.length p4, .int .i64 x.events, .int .i64 x.boards, .slice A7 x.bufs.length p7, .slice A8 x.ports.length p8, .slice A9 x.procs.length p9] 36)) (.cells #[.string ⟨x.name.toArray⟩, .int .i64 x.period, .int .i64 x.length, .int .i64 x.mem, .slice B4 x.semas.length r4, .int .i64 x.events, .int .i64 x.boards, .slice B7 x.bufs.length r7, .slice B8 x.ports.length r8, .slice B9 x.procs.length r9] 36))
  have HB := hide (((Below.refl W.heap.size W).alloc (Nat.le_refl _) (.cells #[.string ⟨x.name.toArray⟩, .int .i64 x.period, .int .i64 x.length, .int .i64 x.mem, .slice A4 x.semas.length p4, .int .i64 x.events, .int .i64 x.boards, .slice A7 x.bufs.length p7, .slice A8 x.ports.length p8, .slice A9 x.procs.length p9] 36)).alloc (by simp) (.cells #[.string ⟨x.name.toArray⟩, .int .i64 x.period, .int .i64 x.length, .int .i64 x.mem, .slice B4 x.semas.length r4, .int .i64 x.events, .int .i64 x.boards, .slice B7 x.bufs.length r7, .slice B8 x.ports.length r8, .slice B9 x.procs.length r9] 36))
  have hzz : (W.alloc (.cells #[.string ⟨x.name.toArray⟩, .int .i64 x.period, .int .i64 x.length, .int .i64 x.mem, .slice A4 x.semas.length p4, .int .i64 x.events, .int .i64 x.boards, .slice A7 x.bufs.length p7, .slice A8 x.ports.length p8, .slice A9 x.procs.length p9] 36)).heap.size = W.heap.size + 1 := by simp
  rw [hzz] at HY
  have hqb := cell_lt hq
  go_enter Tryz.func52, Tryz.ntmps52
  go_wp2_with fail
  (try rw [hzz])
  clear hzz
  generalize (W.alloc (.cells #[.string ⟨x.name.toArray⟩, .int .i64 x.period, .int .i64 x.length, .int .i64 x.mem, .slice A4 x.semas.length p4, .int .i64 x.events, .int .i64 x.boards, .slice A7 x.bufs.length p7, .slice A8 x.ports.length p8, .slice A9 x.procs.length p9] 36)).alloc (.cells #[.string ⟨x.name.toArray⟩, .int .i64 x.period, .int .i64 x.length, .int .i64 x.mem, .slice B4 x.semas.length r4, .int .i64 x.events, .int .i64 x.boards, .slice B7 x.bufs.length r7, .slice B8 x.ports.length r8, .slice B9 x.procs.length r9] 36) = w0 at *
  have HC := hide (same_ints _ _ x.semas w0 (hide (HU4.out.later HB.out)) (hide (HV4.out.later HB.out)) hl.1)
  refine HC.out.mono ?_
  rintro e w1 ⟨rfl, hb⟩
  have HBn := hide (HB.out.trans (hb.mono HB.out.size))
  have HXn := hide ((hb.block _ (Array.getElem?_eq_some_iff.1 HX.out).1).trans HX.out)
  have HYn := hide ((hb.block _ (Array.getElem?_eq_some_iff.1 HY.out).1).trans HY.out)
  clear HB HX HY hb HC
  have HB := HBn
  have HX := HXn
  have HY := HYn
  clear HBn HXn HYn
  have a0 := cell_of_row _ _ 0 _ _ _ HX.out
  have b0 := cell_of_row _ _ 0 _ _ _ HY.out
  have a1 := cell_of_row _ _ 1 _ _ _ HX.out
  have b1 := cell_of_row _ _ 1 _ _ _ HY.out
  have a2 := cell_of_row _ _ 2 _ _ _ HX.out
  have b2 := cell_of_row _ _ 2 _ _ _ HY.out
  have a3 := cell_of_row _ _ 3 _ _ _ HX.out
  have b3 := cell_of_row _ _ 3 _ _ _ HY.out
  have a4 := cell_of_row _ _ 4 _ _ _ HX.out
  have b4 := cell_of_row _ _ 4 _ _ _ HY.out
  have a5 := cell_of_row _ _ 5 _ _ _ HX.out
  have b5 := cell_of_row _ _ 5 _ _ _ HY.out
  have a6 := cell_of_row _ _ 6 _ _ _ HX.out
  have b6 := cell_of_row _ _ 6 _ _ _ HY.out
  have a7 := cell_of_row _ _ 7 _ _ _ HX.out
  have b7 := cell_of_row _ _ 7 _ _ _ HY.out
  have a8 := cell_of_row _ _ 8 _ _ _ HX.out
  have b8 := cell_of_row _ _ 8 _ _ _ HY.out
  have a9 := cell_of_row _ _ 9 _ _ _ HX.out
  have b9 := cell_of_row _ _ 9 _ _ _ HY.out
  have cq := (HB.out.cell (p := ⟨q, 0, none⟩) hqb).trans hq
  go_wp2_with fail
  clear a0 b0 a1 b1 a2 b2 a3 b3 a4 b4 a5 b5 a6 b6 a7 b7 a8 b8 a9 b9 cq
  have HC := hide (same_ints _ _ x.bufs w1 (hide (HU7.out.later HB.out)) (hide (HV7.out.later HB.out)) hl.2.1)
  refine HC.out.mono ?_
  rintro e w2 ⟨rfl, hb⟩
  have HBn := hide (HB.out.trans (hb.mono HB.out.size))
  have HXn := hide ((hb.block _ (Array.getElem?_eq_some_iff.1 HX.out).1).trans HX.out)
  have HYn := hide ((hb.block _ (Array.getElem?_eq_some_iff.1 HY.out).1).trans HY.out)
  clear HB HX HY hb HC
  have HB := HBn
  have HX := HXn
  have HY := HYn
  clear HBn HXn HYn
  have a0 := cell_of_row _ _ 0 _ _ _ HX.out
  have b0 := cell_of_row _ _ 0 _ _ _ HY.out
  have a1 := cell_of_row _ _ 1 _ _ _ HX.out
  have b1 := cell_of_row _ _ 1 _ _ _ HY.out
  have a2 := cell_of_row _ _ 2 _ _ _ HX.out
  have b2 := cell_of_row _ _ 2 _ _ _ HY.out
  have a3 := cell_of_row _ _ 3 _ _ _ HX.out
  have b3 := cell_of_row _ _ 3 _ _ _ HY.out
  have a4 := cell_of_row _ _ 4 _ _ _ HX.out
  have b4 := cell_of_row _ _ 4 _ _ _ HY.out
  have a5 := cell_of_row _ _ 5 _ _ _ HX.out
  have b5 := cell_of_row _ _ 5 _ _ _ HY.out
  have a6 := cell_of_row _ _ 6 _ _ _ HX.out
  have b6 := cell_of_row _ _ 6 _ _ _ HY.out
  have a7 := cell_of_row _ _ 7 _ _ _ HX.out
  have b7 := cell_of_row _ _ 7 _ _ _ HY.out
  have a8 := cell_of_row _ _ 8 _ _ _ HX.out
  have b8 := cell_of_row _ _ 8 _ _ _ HY.out
  have a9 := cell_of_row _ _ 9 _ _ _ HX.out
  have b9 := cell_of_row _ _ 9 _ _ _ HY.out
  have cq := (HB.out.cell (p := ⟨q, 0, none⟩) hqb).trans hq
  go_wp2_with fail
  clear a0 b0 a1 b1 a2 b2 a3 b3 a4 b4 a5 b5 a6 b6 a7 b7 a8 b8 a9 b9 cq
  have HC := hide (same_ports _ _ x.ports w2 (hide (HU8.out.later HB.out)) (hide (HV8.out.later HB.out)) hl.2.2.1)
  refine HC.out.mono ?_
  rintro e w3 ⟨rfl, hb⟩
  have HBn := hide (HB.out.trans (hb.mono HB.out.size))
  have HXn := hide ((hb.block _ (Array.getElem?_eq_some_iff.1 HX.out).1).trans HX.out)
  have HYn := hide ((hb.block _ (Array.getElem?_eq_some_iff.1 HY.out).1).trans HY.out)
  clear HB HX HY hb HC
  have HB := HBn
  have HX := HXn
  have HY := HYn
  clear HBn HXn HYn
  have a0 := cell_of_row _ _ 0 _ _ _ HX.out
  have b0 := cell_of_row _ _ 0 _ _ _ HY.out
  have a1 := cell_of_row _ _ 1 _ _ _ HX.out
  have b1 := cell_of_row _ _ 1 _ _ _ HY.out
  have a2 := cell_of_row _ _ 2 _ _ _ HX.out
  have b2 := cell_of_row _ _ 2 _ _ _ HY.out
  have a3 := cell_of_row _ _ 3 _ _ _ HX.out
  have b3 := cell_of_row _ _ 3 _ _ _ HY.out
  have a4 := cell_of_row _ _ 4 _ _ _ HX.out
  have b4 := cell_of_row _ _ 4 _ _ _ HY.out
  have a5 := cell_of_row _ _ 5 _ _ _ HX.out
  have b5 := cell_of_row _ _ 5 _ _ _ HY.out
  have a6 := cell_of_row _ _ 6 _ _ _ HX.out
  have b6 := cell_of_row _ _ 6 _ _ _ HY.out
  have a7 := cell_of_row _ _ 7 _ _ _ HX.out
  have b7 := cell_of_row _ _ 7 _ _ _ HY.out
  have a8 := cell_of_row _ _ 8 _ _ _ HX.out
  have b8 := cell_of_row _ _ 8 _ _ _ HY.out
  have a9 := cell_of_row _ _ 9 _ _ _ HX.out
  have b9 := cell_of_row _ _ 9 _ _ _ HY.out
  have cq := (HB.out.cell (p := ⟨q, 0, none⟩) hqb).trans hq
  go_wp2_with fail
  clear a0 b0 a1 b1 a2 b2 a3 b3 a4 b4 a5 b5 a6 b6 a7 b7 a8 b8 a9 b9 cq
  have HC := hide (same_procs _ _ x.procs w3 (hide (HU9.out.later HB.out)) (hide (HV9.out.later HB.out)) hl.2.2.2.1 (fun y hy => hl.2.2.2.2 y hy))
  refine HC.out.mono ?_
  rintro e w4 ⟨rfl, hb⟩
  have HBn := hide (HB.out.trans (hb.mono HB.out.size))
  have HXn := hide ((hb.block _ (Array.getElem?_eq_some_iff.1 HX.out).1).trans HX.out)
  have HYn := hide ((hb.block _ (Array.getElem?_eq_some_iff.1 HY.out).1).trans HY.out)
  clear HB HX HY hb HC
  have HB := HBn
  have HX := HXn
  have HY := HYn
  clear HBn HXn HYn
  go_wp2_with fail
  go_ret
  exact ⟨rfl, HB.out⟩
set_option maxRecDepth 100000 in
set_option maxHeartbeats 4000000 in
theorem same_parts (q : Nat) (va vb : Value) (l : List PartD) (W : World) (ha : Hid (DAt W (fun _ => True) va (.row 10 (l.map PartD.cells)))) (hb : Hid (DAt W (fun _ => True) vb (.row 10 (l.map PartD.cells)))) (hn : l.length ≤ 140737488355328) (hl : ∀ y ∈ l, PartFit y) (hq : W.cell? ⟨q, 0, none⟩ = some (.func (.func 50) #[] #[])) :
    Calls Tryz.prog 57 #[va, vb, .func (.func 52) #[] #[.pointer (some ⟨q, 0, none⟩)]] W fun e w' => e = .returned (.bool true) ∧ Below W.heap.size W w' := by
  have hqb := cell_lt hq
  obtain ⟨A, c, rfl, hA⟩ := ha.out.slice
  obtain ⟨B, d, rfl, hB⟩ := hb.out.slice
  have HA := hide hA
  have HB := hide hB
  clear hA hB ha hb
  rw [List.length_map]
  go_enter Tryz.func57, Tryz.ntmps57
  go_wp2_with fail
  go_loopw [17] (fun v wr => ∃ k : Nat, k ≤ l.length ∧ v = .int .i64 k ∧ Below W.heap.size W wr) (fun v _ => l.length - (intOf v).toNat)
  case atStart => exact ⟨0, by omega, rfl, Below.refl _ _⟩
  case round =>
    obtain ⟨k, hk, rfl, hbr⟩ := hrel
    have HBR := hide hbr
    clear hbr
    by_cases hlt : k < l.length
    rotate_left
    · obtain rfl : k = l.length := by omega
      clear hlt
      go_wp2_with fail
      go_ret
      exact ⟨rfl, HBR.out⟩
    obtain ⟨x, hx⟩ : ∃ x, l[k]? = some x := ⟨_, List.getElem?_eq_getElem hlt⟩
    obtain ⟨bA, oA, rfl, hbA, hcaA⟩ := HA.out.at_ hx
    obtain ⟨uA0, a0, gA0⟩ := hcaA 0 _ rfl
    obtain rfl := gA0.leaf_eq
    obtain ⟨uA1, a1, gA1⟩ := hcaA 1 _ rfl
    obtain rfl := gA1.leaf_eq
    obtain ⟨uA2, a2, gA2⟩ := hcaA 2 _ rfl
    obtain rfl := gA2.leaf_eq
    obtain ⟨uA3, a3, gA3⟩ := hcaA 3 _ rfl
    obtain rfl := gA3.leaf_eq
    obtain ⟨uA4, a4, gA4⟩ := hcaA 4 _ rfl
    obtain ⟨uA5, a5, gA5⟩ := hcaA 5 _ rfl
    obtain rfl := gA5.leaf_eq
    obtain ⟨uA6, a6, gA6⟩ := hcaA 6 _ rfl
    obtain rfl := gA6.leaf_eq
    obtain ⟨uA7, a7, gA7⟩ := hcaA 7 _ rfl
    obtain ⟨uA8, a8, gA8⟩ := hcaA 8 _ rfl
    obtain ⟨uA9, a9, gA9⟩ := hcaA 9 _ rfl
    clear hcaA
    have a0 := (HBR.out.cell (p := ⟨bA, oA + k * 10, none⟩) hbA).trans a0
    have a1 := (HBR.out.cell (p := ⟨bA, oA + k * 10 + 1, none⟩) hbA).trans a1
    have a2 := (HBR.out.cell (p := ⟨bA, oA + k * 10 + 2, none⟩) hbA).trans a2
    have a3 := (HBR.out.cell (p := ⟨bA, oA + k * 10 + 3, none⟩) hbA).trans a3
    have a4 := (HBR.out.cell (p := ⟨bA, oA + k * 10 + 4, none⟩) hbA).trans a4
    have a5 := (HBR.out.cell (p := ⟨bA, oA + k * 10 + 5, none⟩) hbA).trans a5
    have a6 := (HBR.out.cell (p := ⟨bA, oA + k * 10 + 6, none⟩) hbA).trans a6
    have a7 := (HBR.out.cell (p := ⟨bA, oA + k * 10 + 7, none⟩) hbA).trans a7
    have a8 := (HBR.out.cell (p := ⟨bA, oA + k * 10 + 8, none⟩) hbA).trans a8
    have a9 := (HBR.out.cell (p := ⟨bA, oA + k * 10 + 9, none⟩) hbA).trans a9
    simp only [strV] at a0 a1 a2 a3 a4 a5 a6 a7 a8 a9
    obtain ⟨bB, oB, rfl, hbB, hcaB⟩ := HB.out.at_ hx
    obtain ⟨uB0, b0, gB0⟩ := hcaB 0 _ rfl
    obtain rfl := gB0.leaf_eq
    obtain ⟨uB1, b1, gB1⟩ := hcaB 1 _ rfl
    obtain rfl := gB1.leaf_eq
    obtain ⟨uB2, b2, gB2⟩ := hcaB 2 _ rfl
    obtain rfl := gB2.leaf_eq
    obtain ⟨uB3, b3, gB3⟩ := hcaB 3 _ rfl
    obtain rfl := gB3.leaf_eq
    obtain ⟨uB4, b4, gB4⟩ := hcaB 4 _ rfl
    obtain ⟨uB5, b5, gB5⟩ := hcaB 5 _ rfl
    obtain rfl := gB5.leaf_eq
    obtain ⟨uB6, b6, gB6⟩ := hcaB 6 _ rfl
    obtain rfl := gB6.leaf_eq
    obtain ⟨uB7, b7, gB7⟩ := hcaB 7 _ rfl
    obtain ⟨uB8, b8, gB8⟩ := hcaB 8 _ rfl
    obtain ⟨uB9, b9, gB9⟩ := hcaB 9 _ rfl
    clear hcaB
    have b0 := (HBR.out.cell (p := ⟨bB, oB + k * 10, none⟩) hbB).trans b0
    have b1 := (HBR.out.cell (p := ⟨bB, oB + k * 10 + 1, none⟩) hbB).trans b1
    have b2 := (HBR.out.cell (p := ⟨bB, oB + k * 10 + 2, none⟩) hbB).trans b2
    have b3 := (HBR.out.cell (p := ⟨bB, oB + k * 10 + 3, none⟩) hbB).trans b3
    have b4 := (HBR.out.cell (p := ⟨bB, oB + k * 10 + 4, none⟩) hbB).trans b4
    have b5 := (HBR.out.cell (p := ⟨bB, oB + k * 10 + 5, none⟩) hbB).trans b5
    have b6 := (HBR.out.cell (p := ⟨bB, oB + k * 10 + 6, none⟩) hbB).trans b6
    have b7 := (HBR.out.cell (p := ⟨bB, oB + k * 10 + 7, none⟩) hbB).trans b7
    have b8 := (HBR.out.cell (p := ⟨bB, oB + k * 10 + 8, none⟩) hbB).trans b8
    have b9 := (HBR.out.cell (p := ⟨bB, oB + k * 10 + 9, none⟩) hbB).trans b9
    simp only [strV] at b0 b1 b2 b3 b4 b5 b6 b7 b8 b9
    have k0 : (0 : Int) ≤ (k : Int) ∧ (k : Int) < ((l.length : Nat) : Int) := by omega
    have HX := hide hx
    have lbB : bB < wr.heap.size := Nat.lt_of_lt_of_le hbB HBR.out.size
    clear hx
    have HU4 := hide gA4
    have HV4 := hide gB4
    obtain ⟨A4, p4, rfl, -⟩ := gA4.slice
    obtain ⟨B4, r4, rfl, -⟩ := gB4.slice
    have HU7 := hide gA7
    have HV7 := hide gB7
    obtain ⟨A7, p7, rfl, -⟩ := gA7.slice
    obtain ⟨B7, r7, rfl, -⟩ := gB7.slice
    have HU8 := hide gA8
    have HV8 := hide gB8
    obtain ⟨A8, p8, rfl, -⟩ := gA8.slice
    obtain ⟨B8, r8, rfl, -⟩ := gB8.slice
    have HU9 := hide gA9
    have HV9 := hide gB9
    obtain ⟨A9, p9, rfl, -⟩ := gA9.slice
    obtain ⟨B9, r9, rfl, -⟩ := gB9.slice
    rw [show (intRows x.semas).length = x.semas.length by simp [intRows]] at HU4 HV4 a4 b4
    rw [show (intRows x.bufs).length = x.bufs.length by simp [intRows]] at HU7 HV7 a7 b7
    simp only [List.length_map] at HU8 HV8 a8 b8
    simp only [List.length_map] at HU9 HV9 a9 b9
    have HBn := hide ((HBR.out.alloc HBR.out.size (.cells #[.string ⟨x.name.toArray⟩, .int .i64 x.period, .int .i64 x.length, .int .i64 x.mem, .slice A4 x.semas.length p4, .int .i64 x.events, .int .i64 x.boards, .slice A7 x.bufs.length p7, .slice A8 x.ports.length p8, .slice A9 x.procs.length p9] 36)).alloc (HBR.out.alloc HBR.out.size _).size (.cells #[.string ⟨x.name.toArray⟩, .int .i64 x.period, .int .i64 x.length, .int .i64 x.mem, .slice B4 x.semas.length r4, .int .i64 x.events, .int .i64 x.boards, .slice B7 x.bufs.length r7, .slice B8 x.ports.length r8, .slice B9 x.procs.length r9] 36))
    have HC := hide (same_part q x [.string ⟨x.name.toArray⟩, .int .i64 x.period, .int .i64 x.length, .int .i64 x.mem, .slice A4 x.semas.length p4, .int .i64 x.events, .int .i64 x.boards, .slice A7 x.bufs.length p7, .slice A8 x.ports.length p8, .slice A9 x.procs.length p9] [.string ⟨x.name.toArray⟩, .int .i64 x.period, .int .i64 x.length, .int .i64 x.mem, .slice B4 x.semas.length r4, .int .i64 x.events, .int .i64 x.boards, .slice B7 x.bufs.length r7, .slice B8 x.ports.length r8, .slice B9 x.procs.length r9] ((wr.alloc (.cells #[.string ⟨x.name.toArray⟩, .int .i64 x.period, .int .i64 x.length, .int .i64 x.mem, .slice A4 x.semas.length p4, .int .i64 x.events, .int .i64 x.boards, .slice A7 x.bufs.length p7, .slice A8 x.ports.length p8, .slice A9 x.procs.length p9] 36)).alloc (.cells #[.string ⟨x.name.toArray⟩, .int .i64 x.period, .int .i64 x.length, .int .i64 x.mem, .slice B4 x.semas.length r4, .int .i64 x.events, .int .i64 x.boards, .slice B7 x.bufs.length r7, .slice B8 x.ports.length r8, .slice B9 x.procs.length r9] 36)) (hide (DCells.cons (.leaf _) (DCells.cons (.leaf _) (DCells.cons (.leaf _) (DCells.cons (.leaf _) (DCells.cons (HU4.out.later HBn.out) (DCells.cons (.leaf _) (DCells.cons (.leaf _) (DCells.cons (HU7.out.later HBn.out) (DCells.cons (HU8.out.later HBn.out) (DCells.cons (HU9.out.later HBn.out) DCells.nil))))))))))) (hide (DCells.cons (.leaf _) (DCells.cons (.leaf _) (DCells.cons (.leaf _) (DCells.cons (.leaf _) (DCells.cons (HV4.out.later HBn.out) (DCells.cons (.leaf _) (DCells.cons (.leaf _) (DCells.cons (HV7.out.later HBn.out) (DCells.cons (HV8.out.later HBn.out) (DCells.cons (HV9.out.later HBn.out) DCells.nil))))))))))) ((HBn.out.cell (p := ⟨q, 0, none⟩) hqb).trans hq) (hl x (List.mem_of_getElem? HX.out)))
    go_wp2_with fail
    refine HC.out.mono ?_
    rintro e w3 ⟨rfl, hb3⟩
    have HB3 := hide (HBn.out.trans (hb3.mono HBn.out.size))
    clear hb3 HC
    go_wp2_with fail
    go_roundw
    case rel => exact ⟨k + 1, by omega, by go_num, HB3.out⟩
    case measure => simp [intOf]; omega
set_option maxRecDepth 100000 in
set_option maxHeartbeats 4000000 in
theorem same_mod (q r : Nat) (x : ModD) (us vs : List Value) (W : World) (ha : Hid (DCells W (fun _ => True) us x.cells)) (hb : Hid (DCells W (fun _ => True) vs x.cells)) (hq : W.cell? ⟨q, 0, none⟩ = some (.func (.func 52) #[] #[.pointer (some ⟨r, 0, none⟩)])) (hr : W.cell? ⟨r, 0, none⟩ = some (.func (.func 50) #[] #[])) (hl : ModFit x) :
    Calls Tryz.prog 56 #[.agg us.toArray, .agg vs.toArray, .pointer (some ⟨q, 0, none⟩)] W fun e w' => e = .returned (.bool true) ∧ Below W.heap.size W w' := by
  have hd := ha.out
  have he := hb.out
  obtain ⟨u0, us, rfl, h0, hd⟩ := dcells_cons hd
  obtain ⟨v0, vs, rfl, i0, he⟩ := dcells_cons he
  obtain ⟨u1, us, rfl, h1, hd⟩ := dcells_cons hd
  obtain ⟨v1, vs, rfl, i1, he⟩ := dcells_cons he
  obtain ⟨u2, us, rfl, h2, hd⟩ := dcells_cons hd
  obtain ⟨v2, vs, rfl, i2, he⟩ := dcells_cons he
  obtain ⟨u3, us, rfl, h3, hd⟩ := dcells_cons hd
  obtain ⟨v3, vs, rfl, i3, he⟩ := dcells_cons he
  obtain rfl := dcells_nil hd
  obtain rfl := dcells_nil he
  obtain rfl := h0.leaf_eq
  obtain rfl := i0.leaf_eq
  obtain rfl := h1.leaf_eq
  obtain rfl := i1.leaf_eq
  obtain rfl := h2.leaf_eq
  obtain rfl := i2.leaf_eq
  have HU3 := hide h3
  have HV3 := hide i3
  obtain ⟨A3, p3, rfl, -⟩ := h3.slice
  obtain ⟨B3, r3, rfl, -⟩ := i3.slice
  simp only [List.length_map] at HU3 HV3 ⊢
  clear ha hb hd he h0 i0 h1 i1 h2 i2 h3 i3
  simp only [strV]
  have HX := hide ((Below.heap_alloc (W.alloc (.cells #[.string ⟨x.name.toArray⟩, .int .i64 x.mem, .int .i64 x.frame, .slice A3 x.parts.length p3] 39)) (.cells #[.string ⟨x.name.toArray⟩, .int .i64 x.mem, .int .i64 x.frame, .slice B3 x.parts.length r3] 39) W.heap.size (by simp)).trans (heap_alloc_new W (.cells #[.string ⟨x.name.toArray⟩, .int .i64 x.mem, .int .i64 x.frame, .slice A3 x.parts.length p3] 39)))
  have HY := hide (heap_alloc_new (W.alloc (.cells #[.string ⟨x.name.toArray⟩, .int .i64 x.mem, .int .i64 x.frame, .slice A3 x.parts.length p3] 39)) (.cells #[.string ⟨x.name.toArray⟩, .int .i64 x.mem, .int .i64 x.frame, .slice B3 x.parts.length r3] 39))
  have HB := hide (((Below.refl W.heap.size W).alloc (Nat.le_refl _) (.cells #[.string ⟨x.name.toArray⟩, .int .i64 x.mem, .int .i64 x.frame, .slice A3 x.parts.length p3] 39)).alloc (by simp) (.cells #[.string ⟨x.name.toArray⟩, .int .i64 x.mem, .int .i64 x.frame, .slice B3 x.parts.length r3] 39))
  have hzz : (W.alloc (.cells #[.string ⟨x.name.toArray⟩, .int .i64 x.mem, .int .i64 x.frame, .slice A3 x.parts.length p3] 39)).heap.size = W.heap.size + 1 := by simp
  rw [hzz] at HY
  have hqb := cell_lt hq
  have hrb := cell_lt hr
  go_enter Tryz.func56, Tryz.ntmps56
  go_wp2_with fail
  (try rw [hzz])
  clear hzz
  generalize (W.alloc (.cells #[.string ⟨x.name.toArray⟩, .int .i64 x.mem, .int .i64 x.frame, .slice A3 x.parts.length p3] 39)).alloc (.cells #[.string ⟨x.name.toArray⟩, .int .i64 x.mem, .int .i64 x.frame, .slice B3 x.parts.length r3] 39) = w0 at *
  have HC := hide (same_parts r _ _ x.parts w0 (hide (HU3.out.later HB.out)) (hide (HV3.out.later HB.out)) hl.1 (fun y hy => hl.2 y hy) ((HB.out.cell (p := ⟨r, 0, none⟩) hrb).trans hr))
  refine HC.out.mono ?_
  rintro e w1 ⟨rfl, hb⟩
  have HBn := hide (HB.out.trans (hb.mono HB.out.size))
  have HXn := hide ((hb.block _ (Array.getElem?_eq_some_iff.1 HX.out).1).trans HX.out)
  have HYn := hide ((hb.block _ (Array.getElem?_eq_some_iff.1 HY.out).1).trans HY.out)
  clear HB HX HY hb HC
  have HB := HBn
  have HX := HXn
  have HY := HYn
  clear HBn HXn HYn
  go_wp2_with fail
  go_ret
  exact ⟨rfl, HB.out⟩
set_option maxRecDepth 100000 in
set_option maxHeartbeats 4000000 in
theorem same_mods (q r : Nat) (va vb : Value) (l : List ModD) (W : World) (ha : Hid (DAt W (fun _ => True) va (.row 4 (l.map ModD.cells)))) (hb : Hid (DAt W (fun _ => True) vb (.row 4 (l.map ModD.cells)))) (hn : l.length ≤ 140737488355328) (hl : ∀ y ∈ l, ModFit y) (hq : W.cell? ⟨q, 0, none⟩ = some (.func (.func 52) #[] #[.pointer (some ⟨r, 0, none⟩)])) (hr : W.cell? ⟨r, 0, none⟩ = some (.func (.func 50) #[] #[])) :
    Calls Tryz.prog 61 #[va, vb, .func (.func 56) #[] #[.pointer (some ⟨q, 0, none⟩)]] W fun e w' => e = .returned (.bool true) ∧ Below W.heap.size W w' := by
  have hqb := cell_lt hq
  have hrb := cell_lt hr
  obtain ⟨A, c, rfl, hA⟩ := ha.out.slice
  obtain ⟨B, d, rfl, hB⟩ := hb.out.slice
  have HA := hide hA
  have HB := hide hB
  clear hA hB ha hb
  rw [List.length_map]
  go_enter Tryz.func61, Tryz.ntmps61
  go_wp2_with fail
  go_loopw [17] (fun v wr => ∃ k : Nat, k ≤ l.length ∧ v = .int .i64 k ∧ Below W.heap.size W wr) (fun v _ => l.length - (intOf v).toNat)
  case atStart => exact ⟨0, by omega, rfl, Below.refl _ _⟩
  case round =>
    obtain ⟨k, hk, rfl, hbr⟩ := hrel
    have HBR := hide hbr
    clear hbr
    by_cases hlt : k < l.length
    rotate_left
    · obtain rfl : k = l.length := by omega
      clear hlt
      go_wp2_with fail
      go_ret
      exact ⟨rfl, HBR.out⟩
    obtain ⟨x, hx⟩ : ∃ x, l[k]? = some x := ⟨_, List.getElem?_eq_getElem hlt⟩
    obtain ⟨bA, oA, rfl, hbA, hcaA⟩ := HA.out.at_ hx
    obtain ⟨uA0, a0, gA0⟩ := hcaA 0 _ rfl
    obtain rfl := gA0.leaf_eq
    obtain ⟨uA1, a1, gA1⟩ := hcaA 1 _ rfl
    obtain rfl := gA1.leaf_eq
    obtain ⟨uA2, a2, gA2⟩ := hcaA 2 _ rfl
    obtain rfl := gA2.leaf_eq
    obtain ⟨uA3, a3, gA3⟩ := hcaA 3 _ rfl
    clear hcaA
    have a0 := (HBR.out.cell (p := ⟨bA, oA + k * 4, none⟩) hbA).trans a0
    have a1 := (HBR.out.cell (p := ⟨bA, oA + k * 4 + 1, none⟩) hbA).trans a1
    have a2 := (HBR.out.cell (p := ⟨bA, oA + k * 4 + 2, none⟩) hbA).trans a2
    have a3 := (HBR.out.cell (p := ⟨bA, oA + k * 4 + 3, none⟩) hbA).trans a3
    simp only [strV] at a0 a1 a2 a3
    obtain ⟨bB, oB, rfl, hbB, hcaB⟩ := HB.out.at_ hx
    obtain ⟨uB0, b0, gB0⟩ := hcaB 0 _ rfl
    obtain rfl := gB0.leaf_eq
    obtain ⟨uB1, b1, gB1⟩ := hcaB 1 _ rfl
    obtain rfl := gB1.leaf_eq
    obtain ⟨uB2, b2, gB2⟩ := hcaB 2 _ rfl
    obtain rfl := gB2.leaf_eq
    obtain ⟨uB3, b3, gB3⟩ := hcaB 3 _ rfl
    clear hcaB
    have b0 := (HBR.out.cell (p := ⟨bB, oB + k * 4, none⟩) hbB).trans b0
    have b1 := (HBR.out.cell (p := ⟨bB, oB + k * 4 + 1, none⟩) hbB).trans b1
    have b2 := (HBR.out.cell (p := ⟨bB, oB + k * 4 + 2, none⟩) hbB).trans b2
    have b3 := (HBR.out.cell (p := ⟨bB, oB + k * 4 + 3, none⟩) hbB).trans b3
    simp only [strV] at b0 b1 b2 b3
    have k0 : (0 : Int) ≤ (k : Int) ∧ (k : Int) < ((l.length : Nat) : Int) := by omega
    have HX := hide hx
    have lbB : bB < wr.heap.size := Nat.lt_of_lt_of_le hbB HBR.out.size
    clear hx
    have HU3 := hide gA3
    have HV3 := hide gB3
    obtain ⟨A3, p3, rfl, -⟩ := gA3.slice
    obtain ⟨B3, r3, rfl, -⟩ := gB3.slice
    simp only [List.length_map] at HU3 HV3 a3 b3
    have HBn := hide ((HBR.out.alloc HBR.out.size (.cells #[.string ⟨x.name.toArray⟩, .int .i64 x.mem, .int .i64 x.frame, .slice A3 x.parts.length p3] 39)).alloc (HBR.out.alloc HBR.out.size _).size (.cells #[.string ⟨x.name.toArray⟩, .int .i64 x.mem, .int .i64 x.frame, .slice B3 x.parts.length r3] 39))
    have HC := hide (same_mod q r x [.string ⟨x.name.toArray⟩, .int .i64 x.mem, .int .i64 x.frame, .slice A3 x.parts.length p3] [.string ⟨x.name.toArray⟩, .int .i64 x.mem, .int .i64 x.frame, .slice B3 x.parts.length r3] ((wr.alloc (.cells #[.string ⟨x.name.toArray⟩, .int .i64 x.mem, .int .i64 x.frame, .slice A3 x.parts.length p3] 39)).alloc (.cells #[.string ⟨x.name.toArray⟩, .int .i64 x.mem, .int .i64 x.frame, .slice B3 x.parts.length r3] 39)) (hide (DCells.cons (.leaf _) (DCells.cons (.leaf _) (DCells.cons (.leaf _) (DCells.cons (HU3.out.later HBn.out) DCells.nil))))) (hide (DCells.cons (.leaf _) (DCells.cons (.leaf _) (DCells.cons (.leaf _) (DCells.cons (HV3.out.later HBn.out) DCells.nil))))) ((HBn.out.cell (p := ⟨q, 0, none⟩) hqb).trans hq) ((HBn.out.cell (p := ⟨r, 0, none⟩) hrb).trans hr) (hl x (List.mem_of_getElem? HX.out)))
    go_wp2_with fail
    refine HC.out.mono ?_
    rintro e w3 ⟨rfl, hb3⟩
    have HB3 := hide (HBn.out.trans (hb3.mono HBn.out.size))
    clear hb3 HC
    go_wp2_with fail
    go_roundw
    case rel => exact ⟨k + 1, by omega, by go_num, HB3.out⟩
    case measure => simp [intOf]; omega
set_option maxRecDepth 100000 in
set_option maxHeartbeats 4000000 in
theorem same_chan (x : ChanD) (us vs : List Value) (W : World) (ha : Hid (DCells W (fun _ => True) us x.cells)) (hb : Hid (DCells W (fun _ => True) vs x.cells)) (hl : x.to.length ≤ 140737488355328) :
    Calls Tryz.prog 58 #[.agg us.toArray, .agg vs.toArray] W fun e w' => e = .returned (.bool true) ∧ Below W.heap.size W w' := by
  have hd := ha.out
  have he := hb.out
  obtain ⟨u0, us, rfl, h0, hd⟩ := dcells_cons hd
  obtain ⟨v0, vs, rfl, i0, he⟩ := dcells_cons he
  obtain ⟨u1, us, rfl, h1, hd⟩ := dcells_cons hd
  obtain ⟨v1, vs, rfl, i1, he⟩ := dcells_cons he
  obtain ⟨u2, us, rfl, h2, hd⟩ := dcells_cons hd
  obtain ⟨v2, vs, rfl, i2, he⟩ := dcells_cons he
  obtain ⟨u3, us, rfl, h3, hd⟩ := dcells_cons hd
  obtain ⟨v3, vs, rfl, i3, he⟩ := dcells_cons he
  obtain rfl := dcells_nil hd
  obtain rfl := dcells_nil he
  obtain rfl := h0.leaf_eq
  obtain rfl := i0.leaf_eq
  obtain rfl := h1.leaf_eq
  obtain rfl := i1.leaf_eq
  obtain rfl := h2.leaf_eq
  obtain rfl := i2.leaf_eq
  have HU3 := hide h3
  have HV3 := hide i3
  obtain ⟨A3, p3, rfl, -⟩ := h3.slice
  obtain ⟨B3, r3, rfl, -⟩ := i3.slice
  simp only [List.length_map] at HU3 HV3 ⊢
  clear ha hb hd he h0 i0 h1 i1 h2 i2 h3 i3
  simp only [strV]
  have HX := hide ((Below.heap_alloc (W.alloc (.cells #[.string ⟨x.from_.m.toArray⟩, .string ⟨x.from_.p.toArray⟩, .string ⟨x.from_.o.toArray⟩, .slice A3 x.to.length p3] 90)) (.cells #[.string ⟨x.from_.m.toArray⟩, .string ⟨x.from_.p.toArray⟩, .string ⟨x.from_.o.toArray⟩, .slice B3 x.to.length r3] 90) W.heap.size (by simp)).trans (heap_alloc_new W (.cells #[.string ⟨x.from_.m.toArray⟩, .string ⟨x.from_.p.toArray⟩, .string ⟨x.from_.o.toArray⟩, .slice A3 x.to.length p3] 90)))
  have HY := hide (heap_alloc_new (W.alloc (.cells #[.string ⟨x.from_.m.toArray⟩, .string ⟨x.from_.p.toArray⟩, .string ⟨x.from_.o.toArray⟩, .slice A3 x.to.length p3] 90)) (.cells #[.string ⟨x.from_.m.toArray⟩, .string ⟨x.from_.p.toArray⟩, .string ⟨x.from_.o.toArray⟩, .slice B3 x.to.length r3] 90))
  have HB := hide (((Below.refl W.heap.size W).alloc (Nat.le_refl _) (.cells #[.string ⟨x.from_.m.toArray⟩, .string ⟨x.from_.p.toArray⟩, .string ⟨x.from_.o.toArray⟩, .slice A3 x.to.length p3] 90)).alloc (by simp) (.cells #[.string ⟨x.from_.m.toArray⟩, .string ⟨x.from_.p.toArray⟩, .string ⟨x.from_.o.toArray⟩, .slice B3 x.to.length r3] 90))
  have hzz : (W.alloc (.cells #[.string ⟨x.from_.m.toArray⟩, .string ⟨x.from_.p.toArray⟩, .string ⟨x.from_.o.toArray⟩, .slice A3 x.to.length p3] 90)).heap.size = W.heap.size + 1 := by simp
  rw [hzz] at HY
  go_enter Tryz.func58, Tryz.ntmps58
  go_wp2_with fail
  (try rw [hzz])
  clear hzz
  generalize (W.alloc (.cells #[.string ⟨x.from_.m.toArray⟩, .string ⟨x.from_.p.toArray⟩, .string ⟨x.from_.o.toArray⟩, .slice A3 x.to.length p3] 90)).alloc (.cells #[.string ⟨x.from_.m.toArray⟩, .string ⟨x.from_.p.toArray⟩, .string ⟨x.from_.o.toArray⟩, .slice B3 x.to.length r3] 90) = w0 at *
  have HC := hide (same_refs _ _ x.to w0 (hide (HU3.out.later HB.out)) (hide (HV3.out.later HB.out)) hl)
  refine HC.out.mono ?_
  rintro e w1 ⟨rfl, hb⟩
  have HBn := hide (HB.out.trans (hb.mono HB.out.size))
  have HXn := hide ((hb.block _ (Array.getElem?_eq_some_iff.1 HX.out).1).trans HX.out)
  have HYn := hide ((hb.block _ (Array.getElem?_eq_some_iff.1 HY.out).1).trans HY.out)
  clear HB HX HY hb HC
  have HB := HBn
  have HX := HXn
  have HY := HYn
  clear HBn HXn HYn
  go_wp2_with fail
  go_ret
  exact ⟨rfl, HB.out⟩
set_option maxRecDepth 100000 in
set_option maxHeartbeats 4000000 in
theorem same_chans (va vb : Value) (l : List ChanD) (W : World) (ha : Hid (DAt W (fun _ => True) va (.row 4 (l.map ChanD.cells)))) (hb : Hid (DAt W (fun _ => True) vb (.row 4 (l.map ChanD.cells)))) (hn : l.length ≤ 140737488355328) (hl : ∀ y ∈ l, y.to.length ≤ 140737488355328) :
    Calls Tryz.prog 62 #[va, vb, .func (.func 58) #[] #[]] W fun e w' => e = .returned (.bool true) ∧ Below W.heap.size W w' := by
  obtain ⟨A, c, rfl, hA⟩ := ha.out.slice
  obtain ⟨B, d, rfl, hB⟩ := hb.out.slice
  have HA := hide hA
  have HB := hide hB
  clear hA hB ha hb
  rw [List.length_map]
  go_enter Tryz.func62, Tryz.ntmps62
  go_wp2_with fail
  go_loopw [17] (fun v wr => ∃ k : Nat, k ≤ l.length ∧ v = .int .i64 k ∧ Below W.heap.size W wr) (fun v _ => l.length - (intOf v).toNat)
  case atStart => exact ⟨0, by omega, rfl, Below.refl _ _⟩
  case round =>
    obtain ⟨k, hk, rfl, hbr⟩ := hrel
    have HBR := hide hbr
    clear hbr
    by_cases hlt : k < l.length
    rotate_left
    · obtain rfl : k = l.length := by omega
      clear hlt
      go_wp2_with fail
      go_ret
      exact ⟨rfl, HBR.out⟩
    obtain ⟨x, hx⟩ : ∃ x, l[k]? = some x := ⟨_, List.getElem?_eq_getElem hlt⟩
    obtain ⟨bA, oA, rfl, hbA, hcaA⟩ := HA.out.at_ hx
    obtain ⟨uA0, a0, gA0⟩ := hcaA 0 _ rfl
    obtain rfl := gA0.leaf_eq
    obtain ⟨uA1, a1, gA1⟩ := hcaA 1 _ rfl
    obtain rfl := gA1.leaf_eq
    obtain ⟨uA2, a2, gA2⟩ := hcaA 2 _ rfl
    obtain rfl := gA2.leaf_eq
    obtain ⟨uA3, a3, gA3⟩ := hcaA 3 _ rfl
    clear hcaA
    have a0 := (HBR.out.cell (p := ⟨bA, oA + k * 4, none⟩) hbA).trans a0
    have a1 := (HBR.out.cell (p := ⟨bA, oA + k * 4 + 1, none⟩) hbA).trans a1
    have a2 := (HBR.out.cell (p := ⟨bA, oA + k * 4 + 2, none⟩) hbA).trans a2
    have a3 := (HBR.out.cell (p := ⟨bA, oA + k * 4 + 3, none⟩) hbA).trans a3
    simp only [strV] at a0 a1 a2 a3
    obtain ⟨bB, oB, rfl, hbB, hcaB⟩ := HB.out.at_ hx
    obtain ⟨uB0, b0, gB0⟩ := hcaB 0 _ rfl
    obtain rfl := gB0.leaf_eq
    obtain ⟨uB1, b1, gB1⟩ := hcaB 1 _ rfl
    obtain rfl := gB1.leaf_eq
    obtain ⟨uB2, b2, gB2⟩ := hcaB 2 _ rfl
    obtain rfl := gB2.leaf_eq
    obtain ⟨uB3, b3, gB3⟩ := hcaB 3 _ rfl
    clear hcaB
    have b0 := (HBR.out.cell (p := ⟨bB, oB + k * 4, none⟩) hbB).trans b0
    have b1 := (HBR.out.cell (p := ⟨bB, oB + k * 4 + 1, none⟩) hbB).trans b1
    have b2 := (HBR.out.cell (p := ⟨bB, oB + k * 4 + 2, none⟩) hbB).trans b2
    have b3 := (HBR.out.cell (p := ⟨bB, oB + k * 4 + 3, none⟩) hbB).trans b3
    simp only [strV] at b0 b1 b2 b3
    have k0 : (0 : Int) ≤ (k : Int) ∧ (k : Int) < ((l.length : Nat) : Int) := by omega
    have HX := hide hx
    have lbB : bB < wr.heap.size := Nat.lt_of_lt_of_le hbB HBR.out.size
    clear hx
    have HU3 := hide gA3
    have HV3 := hide gB3
    obtain ⟨A3, p3, rfl, -⟩ := gA3.slice
    obtain ⟨B3, r3, rfl, -⟩ := gB3.slice
    simp only [List.length_map] at HU3 HV3 a3 b3
    have HBn := hide ((HBR.out.alloc HBR.out.size (.cells #[.string ⟨x.from_.m.toArray⟩, .string ⟨x.from_.p.toArray⟩, .string ⟨x.from_.o.toArray⟩, .slice A3 x.to.length p3] 90)).alloc (HBR.out.alloc HBR.out.size _).size (.cells #[.string ⟨x.from_.m.toArray⟩, .string ⟨x.from_.p.toArray⟩, .string ⟨x.from_.o.toArray⟩, .slice B3 x.to.length r3] 90))
    have HC := hide (same_chan x [.string ⟨x.from_.m.toArray⟩, .string ⟨x.from_.p.toArray⟩, .string ⟨x.from_.o.toArray⟩, .slice A3 x.to.length p3] [.string ⟨x.from_.m.toArray⟩, .string ⟨x.from_.p.toArray⟩, .string ⟨x.from_.o.toArray⟩, .slice B3 x.to.length r3] ((wr.alloc (.cells #[.string ⟨x.from_.m.toArray⟩, .string ⟨x.from_.p.toArray⟩, .string ⟨x.from_.o.toArray⟩, .slice A3 x.to.length p3] 90)).alloc (.cells #[.string ⟨x.from_.m.toArray⟩, .string ⟨x.from_.p.toArray⟩, .string ⟨x.from_.o.toArray⟩, .slice B3 x.to.length r3] 90)) (hide (DCells.cons (.leaf _) (DCells.cons (.leaf _) (DCells.cons (.leaf _) (DCells.cons (HU3.out.later HBn.out) DCells.nil))))) (hide (DCells.cons (.leaf _) (DCells.cons (.leaf _) (DCells.cons (.leaf _) (DCells.cons (HV3.out.later HBn.out) DCells.nil))))) (hl x (List.mem_of_getElem? HX.out)))
    go_wp2_with fail
    refine HC.out.mono ?_
    rintro e w3 ⟨rfl, hb3⟩
    have HB3 := hide (HBn.out.trans (hb3.mono HBn.out.size))
    clear hb3 HC
    go_wp2_with fail
    go_roundw
    case rel => exact ⟨k + 1, by omega, by go_num, HB3.out⟩
    case measure => simp [intOf]; omega
set_option maxRecDepth 100000 in
set_option maxHeartbeats 4000000 in
theorem same_vl (x : VlD) (us vs : List Value) (W : World) (ha : Hid (DCells W (fun _ => True) us x.cells)) (hb : Hid (DCells W (fun _ => True) vs x.cells)) (hl : x.to.length ≤ 140737488355328) :
    Calls Tryz.prog 60 #[.agg us.toArray, .agg vs.toArray] W fun e w' => e = .returned (.bool true) ∧ Below W.heap.size W w' := by
  have hd := ha.out
  have he := hb.out
  obtain ⟨u0, us, rfl, h0, hd⟩ := dcells_cons hd
  obtain ⟨v0, vs, rfl, i0, he⟩ := dcells_cons he
  obtain ⟨u1, us, rfl, h1, hd⟩ := dcells_cons hd
  obtain ⟨v1, vs, rfl, i1, he⟩ := dcells_cons he
  obtain ⟨u2, us, rfl, h2, hd⟩ := dcells_cons hd
  obtain ⟨v2, vs, rfl, i2, he⟩ := dcells_cons he
  obtain ⟨u3, us, rfl, h3, hd⟩ := dcells_cons hd
  obtain ⟨v3, vs, rfl, i3, he⟩ := dcells_cons he
  obtain ⟨u4, us, rfl, h4, hd⟩ := dcells_cons hd
  obtain ⟨v4, vs, rfl, i4, he⟩ := dcells_cons he
  obtain ⟨u5, us, rfl, h5, hd⟩ := dcells_cons hd
  obtain ⟨v5, vs, rfl, i5, he⟩ := dcells_cons he
  obtain ⟨u6, us, rfl, h6, hd⟩ := dcells_cons hd
  obtain ⟨v6, vs, rfl, i6, he⟩ := dcells_cons he
  obtain rfl := dcells_nil hd
  obtain rfl := dcells_nil he
  obtain rfl := h0.leaf_eq
  obtain rfl := i0.leaf_eq
  obtain rfl := h1.leaf_eq
  obtain rfl := i1.leaf_eq
  obtain rfl := h2.leaf_eq
  obtain rfl := i2.leaf_eq
  obtain rfl := h3.leaf_eq
  obtain rfl := i3.leaf_eq
  obtain rfl := h4.leaf_eq
  obtain rfl := i4.leaf_eq
  obtain rfl := h5.leaf_eq
  obtain rfl := i5.leaf_eq
  have HU6 := hide h6
  have HV6 := hide i6
  obtain ⟨A6, p6, rfl, -⟩ := h6.slice
  obtain ⟨B6, r6, rfl, -⟩ := i6.slice
  simp only [List.length_map] at HU6 HV6 ⊢
  clear ha hb hd he h0 i0 h1 i1 h2 i2 h3 i3 h4 i4 h5 i5 h6 i6
  simp only [strV]
  have HX := hide ((Below.heap_alloc (W.alloc (.cells #[.string ⟨x.name.toArray⟩, .string ⟨x.from_.m.toArray⟩, .string ⟨x.from_.p.toArray⟩, .string ⟨x.from_.o.toArray⟩, .int .i64 x.bag, .int .i64 x.max, .slice A6 x.to.length p6] 62)) (.cells #[.string ⟨x.name.toArray⟩, .string ⟨x.from_.m.toArray⟩, .string ⟨x.from_.p.toArray⟩, .string ⟨x.from_.o.toArray⟩, .int .i64 x.bag, .int .i64 x.max, .slice B6 x.to.length r6] 62) W.heap.size (by simp)).trans (heap_alloc_new W (.cells #[.string ⟨x.name.toArray⟩, .string ⟨x.from_.m.toArray⟩, .string ⟨x.from_.p.toArray⟩, .string ⟨x.from_.o.toArray⟩, .int .i64 x.bag, .int .i64 x.max, .slice A6 x.to.length p6] 62)))
  have HY := hide (heap_alloc_new (W.alloc (.cells #[.string ⟨x.name.toArray⟩, .string ⟨x.from_.m.toArray⟩, .string ⟨x.from_.p.toArray⟩, .string ⟨x.from_.o.toArray⟩, .int .i64 x.bag, .int .i64 x.max, .slice A6 x.to.length p6] 62)) (.cells #[.string ⟨x.name.toArray⟩, .string ⟨x.from_.m.toArray⟩, .string ⟨x.from_.p.toArray⟩, .string ⟨x.from_.o.toArray⟩, .int .i64 x.bag, .int .i64 x.max, .slice B6 x.to.length r6] 62))
  have HB := hide (((Below.refl W.heap.size W).alloc (Nat.le_refl _) (.cells #[.string ⟨x.name.toArray⟩, .string ⟨x.from_.m.toArray⟩, .string ⟨x.from_.p.toArray⟩, .string ⟨x.from_.o.toArray⟩, .int .i64 x.bag, .int .i64 x.max, .slice A6 x.to.length p6] 62)).alloc (by simp) (.cells #[.string ⟨x.name.toArray⟩, .string ⟨x.from_.m.toArray⟩, .string ⟨x.from_.p.toArray⟩, .string ⟨x.from_.o.toArray⟩, .int .i64 x.bag, .int .i64 x.max, .slice B6 x.to.length r6] 62))
  have hzz : (W.alloc (.cells #[.string ⟨x.name.toArray⟩, .string ⟨x.from_.m.toArray⟩, .string ⟨x.from_.p.toArray⟩, .string ⟨x.from_.o.toArray⟩, .int .i64 x.bag, .int .i64 x.max, .slice A6 x.to.length p6] 62)).heap.size = W.heap.size + 1 := by simp
  rw [hzz] at HY
  go_enter Tryz.func60, Tryz.ntmps60
  go_wp2_with fail
  (try rw [hzz])
  clear hzz
  generalize (W.alloc (.cells #[.string ⟨x.name.toArray⟩, .string ⟨x.from_.m.toArray⟩, .string ⟨x.from_.p.toArray⟩, .string ⟨x.from_.o.toArray⟩, .int .i64 x.bag, .int .i64 x.max, .slice A6 x.to.length p6] 62)).alloc (.cells #[.string ⟨x.name.toArray⟩, .string ⟨x.from_.m.toArray⟩, .string ⟨x.from_.p.toArray⟩, .string ⟨x.from_.o.toArray⟩, .int .i64 x.bag, .int .i64 x.max, .slice B6 x.to.length r6] 62) = w0 at *
  have HC := hide (same_refs _ _ x.to w0 (hide (HU6.out.later HB.out)) (hide (HV6.out.later HB.out)) hl)
  refine HC.out.mono ?_
  rintro e w1 ⟨rfl, hb⟩
  have HBn := hide (HB.out.trans (hb.mono HB.out.size))
  have HXn := hide ((hb.block _ (Array.getElem?_eq_some_iff.1 HX.out).1).trans HX.out)
  have HYn := hide ((hb.block _ (Array.getElem?_eq_some_iff.1 HY.out).1).trans HY.out)
  clear HB HX HY hb HC
  have HB := HBn
  have HX := HXn
  have HY := HYn
  clear HBn HXn HYn
  go_wp2_with fail
  go_ret
  exact ⟨rfl, HB.out⟩
set_option maxRecDepth 100000 in
set_option maxHeartbeats 4000000 in
theorem same_vls (va vb : Value) (l : List VlD) (W : World) (ha : Hid (DAt W (fun _ => True) va (.row 7 (l.map VlD.cells)))) (hb : Hid (DAt W (fun _ => True) vb (.row 7 (l.map VlD.cells)))) (hn : l.length ≤ 140737488355328) (hl : ∀ y ∈ l, y.to.length ≤ 140737488355328) :
    Calls Tryz.prog 65 #[va, vb, .func (.func 60) #[] #[]] W fun e w' => e = .returned (.bool true) ∧ Below W.heap.size W w' := by
  obtain ⟨A, c, rfl, hA⟩ := ha.out.slice
  obtain ⟨B, d, rfl, hB⟩ := hb.out.slice
  have HA := hide hA
  have HB := hide hB
  clear hA hB ha hb
  rw [List.length_map]
  go_enter Tryz.func65, Tryz.ntmps65
  go_wp2_with fail
  go_loopw [17] (fun v wr => ∃ k : Nat, k ≤ l.length ∧ v = .int .i64 k ∧ Below W.heap.size W wr) (fun v _ => l.length - (intOf v).toNat)
  case atStart => exact ⟨0, by omega, rfl, Below.refl _ _⟩
  case round =>
    obtain ⟨k, hk, rfl, hbr⟩ := hrel
    have HBR := hide hbr
    clear hbr
    by_cases hlt : k < l.length
    rotate_left
    · obtain rfl : k = l.length := by omega
      clear hlt
      go_wp2_with fail
      go_ret
      exact ⟨rfl, HBR.out⟩
    obtain ⟨x, hx⟩ : ∃ x, l[k]? = some x := ⟨_, List.getElem?_eq_getElem hlt⟩
    obtain ⟨bA, oA, rfl, hbA, hcaA⟩ := HA.out.at_ hx
    obtain ⟨uA0, a0, gA0⟩ := hcaA 0 _ rfl
    obtain rfl := gA0.leaf_eq
    obtain ⟨uA1, a1, gA1⟩ := hcaA 1 _ rfl
    obtain rfl := gA1.leaf_eq
    obtain ⟨uA2, a2, gA2⟩ := hcaA 2 _ rfl
    obtain rfl := gA2.leaf_eq
    obtain ⟨uA3, a3, gA3⟩ := hcaA 3 _ rfl
    obtain rfl := gA3.leaf_eq
    obtain ⟨uA4, a4, gA4⟩ := hcaA 4 _ rfl
    obtain rfl := gA4.leaf_eq
    obtain ⟨uA5, a5, gA5⟩ := hcaA 5 _ rfl
    obtain rfl := gA5.leaf_eq
    obtain ⟨uA6, a6, gA6⟩ := hcaA 6 _ rfl
    clear hcaA
    have a0 := (HBR.out.cell (p := ⟨bA, oA + k * 7, none⟩) hbA).trans a0
    have a1 := (HBR.out.cell (p := ⟨bA, oA + k * 7 + 1, none⟩) hbA).trans a1
    have a2 := (HBR.out.cell (p := ⟨bA, oA + k * 7 + 2, none⟩) hbA).trans a2
    have a3 := (HBR.out.cell (p := ⟨bA, oA + k * 7 + 3, none⟩) hbA).trans a3
    have a4 := (HBR.out.cell (p := ⟨bA, oA + k * 7 + 4, none⟩) hbA).trans a4
    have a5 := (HBR.out.cell (p := ⟨bA, oA + k * 7 + 5, none⟩) hbA).trans a5
    have a6 := (HBR.out.cell (p := ⟨bA, oA + k * 7 + 6, none⟩) hbA).trans a6
    simp only [strV] at a0 a1 a2 a3 a4 a5 a6
    obtain ⟨bB, oB, rfl, hbB, hcaB⟩ := HB.out.at_ hx
    obtain ⟨uB0, b0, gB0⟩ := hcaB 0 _ rfl
    obtain rfl := gB0.leaf_eq
    obtain ⟨uB1, b1, gB1⟩ := hcaB 1 _ rfl
    obtain rfl := gB1.leaf_eq
    obtain ⟨uB2, b2, gB2⟩ := hcaB 2 _ rfl
    obtain rfl := gB2.leaf_eq
    obtain ⟨uB3, b3, gB3⟩ := hcaB 3 _ rfl
    obtain rfl := gB3.leaf_eq
    obtain ⟨uB4, b4, gB4⟩ := hcaB 4 _ rfl
    obtain rfl := gB4.leaf_eq
    obtain ⟨uB5, b5, gB5⟩ := hcaB 5 _ rfl
    obtain rfl := gB5.leaf_eq
    obtain ⟨uB6, b6, gB6⟩ := hcaB 6 _ rfl
    clear hcaB
    have b0 := (HBR.out.cell (p := ⟨bB, oB + k * 7, none⟩) hbB).trans b0
    have b1 := (HBR.out.cell (p := ⟨bB, oB + k * 7 + 1, none⟩) hbB).trans b1
    have b2 := (HBR.out.cell (p := ⟨bB, oB + k * 7 + 2, none⟩) hbB).trans b2
    have b3 := (HBR.out.cell (p := ⟨bB, oB + k * 7 + 3, none⟩) hbB).trans b3
    have b4 := (HBR.out.cell (p := ⟨bB, oB + k * 7 + 4, none⟩) hbB).trans b4
    have b5 := (HBR.out.cell (p := ⟨bB, oB + k * 7 + 5, none⟩) hbB).trans b5
    have b6 := (HBR.out.cell (p := ⟨bB, oB + k * 7 + 6, none⟩) hbB).trans b6
    simp only [strV] at b0 b1 b2 b3 b4 b5 b6
    have k0 : (0 : Int) ≤ (k : Int) ∧ (k : Int) < ((l.length : Nat) : Int) := by omega
    have HX := hide hx
    have lbB : bB < wr.heap.size := Nat.lt_of_lt_of_le hbB HBR.out.size
    clear hx
    have HU6 := hide gA6
    have HV6 := hide gB6
    obtain ⟨A6, p6, rfl, -⟩ := gA6.slice
    obtain ⟨B6, r6, rfl, -⟩ := gB6.slice
    simp only [List.length_map] at HU6 HV6 a6 b6
    have HBn := hide ((HBR.out.alloc HBR.out.size (.cells #[.string ⟨x.name.toArray⟩, .string ⟨x.from_.m.toArray⟩, .string ⟨x.from_.p.toArray⟩, .string ⟨x.from_.o.toArray⟩, .int .i64 x.bag, .int .i64 x.max, .slice A6 x.to.length p6] 62)).alloc (HBR.out.alloc HBR.out.size _).size (.cells #[.string ⟨x.name.toArray⟩, .string ⟨x.from_.m.toArray⟩, .string ⟨x.from_.p.toArray⟩, .string ⟨x.from_.o.toArray⟩, .int .i64 x.bag, .int .i64 x.max, .slice B6 x.to.length r6] 62))
    have HC := hide (same_vl x [.string ⟨x.name.toArray⟩, .string ⟨x.from_.m.toArray⟩, .string ⟨x.from_.p.toArray⟩, .string ⟨x.from_.o.toArray⟩, .int .i64 x.bag, .int .i64 x.max, .slice A6 x.to.length p6] [.string ⟨x.name.toArray⟩, .string ⟨x.from_.m.toArray⟩, .string ⟨x.from_.p.toArray⟩, .string ⟨x.from_.o.toArray⟩, .int .i64 x.bag, .int .i64 x.max, .slice B6 x.to.length r6] ((wr.alloc (.cells #[.string ⟨x.name.toArray⟩, .string ⟨x.from_.m.toArray⟩, .string ⟨x.from_.p.toArray⟩, .string ⟨x.from_.o.toArray⟩, .int .i64 x.bag, .int .i64 x.max, .slice A6 x.to.length p6] 62)).alloc (.cells #[.string ⟨x.name.toArray⟩, .string ⟨x.from_.m.toArray⟩, .string ⟨x.from_.p.toArray⟩, .string ⟨x.from_.o.toArray⟩, .int .i64 x.bag, .int .i64 x.max, .slice B6 x.to.length r6] 62)) (hide (DCells.cons (.leaf _) (DCells.cons (.leaf _) (DCells.cons (.leaf _) (DCells.cons (.leaf _) (DCells.cons (.leaf _) (DCells.cons (.leaf _) (DCells.cons (HU6.out.later HBn.out) DCells.nil)))))))) (hide (DCells.cons (.leaf _) (DCells.cons (.leaf _) (DCells.cons (.leaf _) (DCells.cons (.leaf _) (DCells.cons (.leaf _) (DCells.cons (.leaf _) (DCells.cons (HV6.out.later HBn.out) DCells.nil)))))))) (hl x (List.mem_of_getElem? HX.out)))
    go_wp2_with fail
    refine HC.out.mono ?_
    rintro e w3 ⟨rfl, hb3⟩
    have HB3 := hide (HBn.out.trans (hb3.mono HBn.out.size))
    clear hb3 HC
    go_wp2_with fail
    go_roundw
    case rel => exact ⟨k + 1, by omega, by go_num, HB3.out⟩
    case measure => simp [intOf]; omega
end Go.Proofs.YtndpnpohdoggjaaGreatDoor
