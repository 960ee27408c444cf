/-
  slices.Equal: yes if and only if the lists are equal (printed by tools/mkeq.py).
-/
import Derived.Test.YtgbfaompondolaaGreatDoorPk11
namespace Go.Proofs.YtgbfaompondolaaGreatDoor
open Go.RowKit
attribute [local go_sem] Later.cell
theorem bytes_ne {a b : List UInt8} (h : a ≠ b) : ((⟨a.toArray⟩ : ByteArray) == ⟨b.toArray⟩) = false := by
  show (a.toArray == b.toArray) = false
  simpa using h
theorem list_ne {a b : List UInt8} (h : a ≠ b) : (a == b) = false := by simpa using h
theorem int_ne {a b : Int} (h : a ≠ b) : (a == b) = false := by simpa using h
theorem nat_ne {a b : Nat} (h : a ≠ b) : ((a : Int) == (b : Int)) = false := by simpa using (by omega : (a : Int) ≠ b)
theorem bool_ne {a b : Bool} (h : a ≠ b) : (a == b) = false := by simpa using h
set_option maxRecDepth 100000 in
set_option maxHeartbeats 4000000 in
theorem eq_reps (va vb : Value) (l m : List RepD) (W : World) (ha : Hid (DAt W (fun _ => True) va (.row 2 (l.map RepD.cells)))) (hb : Hid (DAt W (fun _ => True) vb (.row 2 (m.map RepD.cells)))) (hn : l.length ≤ 140737488355328) (_hm : m.length ≤ 140737488355328) :
    Calls Tryz.prog 34 #[va, vb] W fun e w' => ∃ z, e = .returned (.bool z) ∧ (z = true ↔ l = m) ∧ Below W.heap.size W w' := by
  obtain ⟨A, c, rfl, hA⟩ := ha.out.slice
  obtain ⟨B, d, rfl, hB⟩ := hb.out.slice
  have HA := hide hA
  have HB := hide hB
  clear hA hB ha hb
  rw [List.length_map]
  rw [List.length_map]
  by_cases hlen : l.length = m.length
  rotate_left
  · have HN := hide hlen
    have hne1 := nat_ne hlen
    clear hlen
    go_enter Tryz.func34, Tryz.ntmps34
    go_wp2_with fail
    go_ret
    exact ⟨false, rfl, ⟨(fun h => by cases h), fun h => absurd (congrArg List.length h) HN.out⟩, Below.refl _ _⟩
  rw [← hlen]
  have HL := hide hlen
  clear hlen _hm
  go_enter Tryz.func34, Tryz.ntmps34
  go_wp2_with fail
  go_loopw [13] (fun v wr => ∃ k : Nat, k ≤ l.length ∧ v = .int .i64 k ∧ l.take k = m.take k ∧ Below W.heap.size W wr) (fun v _ => l.length - (intOf v).toNat)
  case atStart => exact ⟨0, by omega, rfl, rfl, Below.refl _ _⟩
  case round =>
    obtain ⟨k, hk, rfl, ht, hbr⟩ := hrel
    have HBR := hide hbr
    have HT := hide ht
    clear hbr ht
    by_cases hlt : k < l.length
    rotate_left
    · obtain rfl : k = l.length := by omega
      clear hlt
      have HE : Hid (l = m) := hide (by have h := HT.out; rw [List.take_length, HL.out, List.take_length] at h; exact h)
      go_wp2_with fail
      go_ret
      exact ⟨true, rfl, ⟨fun _ => HE.out, fun _ => rfl⟩, HBR.out⟩
    have hlt2 : k < m.length := by have := HL.out; omega
    obtain ⟨x, hx⟩ : ∃ e_, l[k]? = some e_ := ⟨_, List.getElem?_eq_getElem hlt⟩
    obtain ⟨y, hy⟩ : ∃ e_, m[k]? = some e_ := ⟨_, List.getElem?_eq_getElem hlt2⟩
    obtain ⟨bA, oA, rfl, hbA, hcaA⟩ := HA.out.at_ hx
    obtain ⟨uA0, a0, gA0⟩ := hcaA 0 _ rfl
    obtain rfl := gA0.leaf_eq
    obtain ⟨uA1, a1, gA1⟩ := hcaA 1 _ rfl
    obtain rfl := gA1.leaf_eq
    clear hcaA
    have a0 := (HBR.out.cell (p := ⟨bA, oA + k * 2, none⟩) hbA).trans a0
    have a1 := (HBR.out.cell (p := ⟨bA, oA + k * 2 + 1, none⟩) hbA).trans a1
    simp only [strV] at a0 a1
    obtain ⟨bB, oB, rfl, hbB, hcaB⟩ := HB.out.at_ hy
    obtain ⟨uB0, b0, gB0⟩ := hcaB 0 _ rfl
    obtain rfl := gB0.leaf_eq
    obtain ⟨uB1, b1, gB1⟩ := hcaB 1 _ rfl
    obtain rfl := gB1.leaf_eq
    clear hcaB
    have b0 := (HBR.out.cell (p := ⟨bB, oB + k * 2, none⟩) hbB).trans b0
    have b1 := (HBR.out.cell (p := ⟨bB, oB + k * 2 + 1, none⟩) hbB).trans b1
    simp only [strV] at b0 b1
    have k0 : (0 : Int) ≤ (k : Int) ∧ (k : Int) < ((l.length : Nat) : Int) := by omega
    have HX := hide hx
    have HY := hide hy
    clear hx hy hlt2
    obtain ⟨x_unit, x_code⟩ := x
    obtain ⟨y_unit, y_code⟩ := y
    dsimp only at a0 b0 a1 b1
    by_cases e_ : x_unit = y_unit
    rotate_left
    · as_aux_lemma =>
        have HNE := hide e_
        have hne1 := bytes_ne e_
        have hne2 := list_ne e_
        clear e_
        go_wp2_with fail
        go_quiet (fail)
        go_wp2_with fail
        go_ret
        exact ⟨false, rfl, ⟨(fun h => by cases h), fun h_ => absurd (by have h := HX.out; rw [h_, HY.out] at h; exact (congrArg (fun z_ : RepD => z_.unit) (Option.some.inj h)).symm) HNE.out⟩, belowDN HBR.out _⟩
    subst e_
    by_cases e_ : x_code = y_code
    rotate_left
    · as_aux_lemma =>
        have HNE := hide e_
        have hne1 := int_ne e_
        go_wp2_with fail
        go_quiet (fail)
        go_wp2_with fail
        go_ret
        exact ⟨false, rfl, ⟨(fun h => by cases h), fun h_ => absurd (by have h := HX.out; rw [h_, HY.out] at h; exact (congrArg (fun z_ : RepD => z_.code) (Option.some.inj h)).symm) HNE.out⟩, belowDN HBR.out _⟩
    subst e_
    go_wp2_with fail
    go_quiet (fail)
    go_wp2_with fail
    go_roundw
    case rel => exact ⟨k + 1, by omega, by go_num, by rw [List.take_add_one, List.take_add_one, HX.out, HY.out, HT.out], belowDN HBR.out _⟩
    case measure => simp [intOf]; omega
set_option maxRecDepth 100000 in
set_option maxHeartbeats 4000000 in
theorem eq_strs (va vb : Value) (l m : List (List UInt8)) (W : World) (ha : Hid (DAt W (fun _ => True) va (.row 1 (strRows l)))) (hb : Hid (DAt W (fun _ => True) vb (.row 1 (strRows m)))) (hn : l.length ≤ 140737488355328) (_hm : m.length ≤ 140737488355328) :
    Calls Tryz.prog 35 #[va, vb] W fun e w' => ∃ z, e = .returned (.bool z) ∧ (z = true ↔ l = m) ∧ Below W.heap.size W w' := by
  obtain ⟨A, c, rfl, hA⟩ := ha.out.slice
  obtain ⟨B, d, rfl, hB⟩ := hb.out.slice
  have HA := hide hA
  have HB := hide hB
  clear hA hB ha hb
  rw [show (strRows l).length = l.length by simp [strRows]]
  rw [show (strRows m).length = m.length by simp [strRows]]
  by_cases hlen : l.length = m.length
  rotate_left
  · have HN := hide hlen
    have hne1 := nat_ne hlen
    clear hlen
    go_enter Tryz.func35, Tryz.ntmps35
    go_wp2_with fail
    go_ret
    exact ⟨false, rfl, ⟨(fun h => by cases h), fun h => absurd (congrArg List.length h) HN.out⟩, Below.refl _ _⟩
  rw [← hlen]
  have HL := hide hlen
  clear hlen _hm
  go_enter Tryz.func35, Tryz.ntmps35
  go_wp2_with fail
  go_loopw [13] (fun v wr => ∃ k : Nat, k ≤ l.length ∧ v = .int .i64 k ∧ l.take k = m.take k ∧ Below W.heap.size W wr) (fun v _ => l.length - (intOf v).toNat)
  case atStart => exact ⟨0, by omega, rfl, rfl, Below.refl _ _⟩
  case round =>
    obtain ⟨k, hk, rfl, ht, hbr⟩ := hrel
    have HBR := hide hbr
    have HT := hide ht
    clear hbr ht
    by_cases hlt : k < l.length
    rotate_left
    · obtain rfl : k = l.length := by omega
      clear hlt
      have HE : Hid (l = m) := hide (by have h := HT.out; rw [List.take_length, HL.out, List.take_length] at h; exact h)
      go_wp2_with fail
      go_ret
      exact ⟨true, rfl, ⟨fun _ => HE.out, fun _ => rfl⟩, HBR.out⟩
    have hlt2 : k < m.length := by have := HL.out; omega
    obtain ⟨x, hx⟩ : ∃ e_, l[k]? = some e_ := ⟨_, List.getElem?_eq_getElem hlt⟩
    obtain ⟨y, hy⟩ : ∃ e_, m[k]? = some e_ := ⟨_, List.getElem?_eq_getElem hlt2⟩
    obtain ⟨bA, oA, rfl, hbA, hcaA⟩ := HA.out.at_ (cells := fun s : List UInt8 => [lS s]) hx
    obtain ⟨uA0, a0, gA0⟩ := hcaA 0 _ rfl
    obtain rfl := gA0.leaf_eq
    clear hcaA
    rw [Nat.mul_one, Nat.add_zero] at a0
    have a0 := (HBR.out.cell (p := ⟨bA, oA + k, none⟩) hbA).trans a0
    simp only [strV] at a0
    obtain ⟨bB, oB, rfl, hbB, hcaB⟩ := HB.out.at_ (cells := fun s : List UInt8 => [lS s]) hy
    obtain ⟨uB0, b0, gB0⟩ := hcaB 0 _ rfl
    obtain rfl := gB0.leaf_eq
    clear hcaB
    rw [Nat.mul_one, Nat.add_zero] at b0
    have b0 := (HBR.out.cell (p := ⟨bB, oB + k, none⟩) hbB).trans b0
    simp only [strV] at b0
    have k0 : (0 : Int) ≤ (k : Int) ∧ (k : Int) < ((l.length : Nat) : Int) := by omega
    have HX := hide hx
    have HY := hide hy
    clear hx hy hlt2
    by_cases e_ : x = y
    rotate_left
    · as_aux_lemma =>
        have HNE := hide e_
        have hne1 := bytes_ne e_
        have hne2 := list_ne e_
        clear e_
        go_wp2_with fail
        go_quiet (fail)
        go_wp2_with fail
        go_ret
        exact ⟨false, rfl, ⟨(fun h => by cases h), fun h_ => absurd (by have h := HX.out; rw [h_, HY.out] at h; exact (Option.some.inj h).symm) HNE.out⟩, belowDN HBR.out _⟩
    subst e_
    go_wp2_with fail
    go_quiet (fail)
    go_wp2_with fail
    go_roundw
    case rel => exact ⟨k + 1, by omega, by go_num, by rw [List.take_add_one, List.take_add_one, HX.out, HY.out, HT.out], belowDN HBR.out _⟩
    case measure => simp [intOf]; omega
set_option maxRecDepth 100000 in
set_option maxHeartbeats 4000000 in
theorem eq_inss (va vb : Value) (l m : List InsD) (W : World) (ha : Hid (DAt W (fun _ => True) va (.row 4 (l.map InsD.cells)))) (hb : Hid (DAt W (fun _ => True) vb (.row 4 (m.map InsD.cells)))) (hn : l.length ≤ 140737488355328) (_hm : m.length ≤ 140737488355328) :
    Calls Tryz.prog 37 #[va, vb] W fun e w' => ∃ z, e = .returned (.bool z) ∧ (z = true ↔ l = m) ∧ Below W.heap.size W w' := by
  obtain ⟨A, c, rfl, hA⟩ := ha.out.slice
  obtain ⟨B, d, rfl, hB⟩ := hb.out.slice
  have HA := hide hA
  have HB := hide hB
  clear hA hB ha hb
  rw [List.length_map]
  rw [List.length_map]
  by_cases hlen : l.length = m.length
  rotate_left
  · have HN := hide hlen
    have hne1 := nat_ne hlen
    clear hlen
    go_enter Tryz.func37, Tryz.ntmps37
    go_wp2_with fail
    go_ret
    exact ⟨false, rfl, ⟨(fun h => by cases h), fun h => absurd (congrArg List.length h) HN.out⟩, Below.refl _ _⟩
  rw [← hlen]
  have HL := hide hlen
  clear hlen _hm
  go_enter Tryz.func37, Tryz.ntmps37
  go_wp2_with fail
  go_loopw [13] (fun v wr => ∃ k : Nat, k ≤ l.length ∧ v = .int .i64 k ∧ l.take k = m.take k ∧ Below W.heap.size W wr) (fun v _ => l.length - (intOf v).toNat)
  case atStart => exact ⟨0, by omega, rfl, rfl, Below.refl _ _⟩
  case round =>
    obtain ⟨k, hk, rfl, ht, hbr⟩ := hrel
    have HBR := hide hbr
    have HT := hide ht
    clear hbr ht
    by_cases hlt : k < l.length
    rotate_left
    · obtain rfl : k = l.length := by omega
      clear hlt
      have HE : Hid (l = m) := hide (by have h := HT.out; rw [List.take_length, HL.out, List.take_length] at h; exact h)
      go_wp2_with fail
      go_ret
      exact ⟨true, rfl, ⟨fun _ => HE.out, fun _ => rfl⟩, HBR.out⟩
    have hlt2 : k < m.length := by have := HL.out; omega
    obtain ⟨x, hx⟩ : ∃ e_, l[k]? = some e_ := ⟨_, List.getElem?_eq_getElem hlt⟩
    obtain ⟨y, hy⟩ : ∃ e_, m[k]? = some e_ := ⟨_, List.getElem?_eq_getElem hlt2⟩
    obtain ⟨bA, oA, rfl, hbA, hcaA⟩ := HA.out.at_ hx
    obtain ⟨uA0, a0, gA0⟩ := hcaA 0 _ rfl
    obtain rfl := gA0.leaf_eq
    obtain ⟨uA1, a1, gA1⟩ := hcaA 1 _ rfl
    obtain rfl := gA1.leaf_eq
    obtain ⟨uA2, a2, gA2⟩ := hcaA 2 _ rfl
    obtain rfl := gA2.leaf_eq
    obtain ⟨uA3, a3, gA3⟩ := hcaA 3 _ rfl
    obtain rfl := gA3.leaf_eq
    clear hcaA
    have a0 := (HBR.out.cell (p := ⟨bA, oA + k * 4, none⟩) hbA).trans a0
    have a1 := (HBR.out.cell (p := ⟨bA, oA + k * 4 + 1, none⟩) hbA).trans a1
    have a2 := (HBR.out.cell (p := ⟨bA, oA + k * 4 + 2, none⟩) hbA).trans a2
    have a3 := (HBR.out.cell (p := ⟨bA, oA + k * 4 + 3, none⟩) hbA).trans a3
    obtain ⟨bB, oB, rfl, hbB, hcaB⟩ := HB.out.at_ hy
    obtain ⟨uB0, b0, gB0⟩ := hcaB 0 _ rfl
    obtain rfl := gB0.leaf_eq
    obtain ⟨uB1, b1, gB1⟩ := hcaB 1 _ rfl
    obtain rfl := gB1.leaf_eq
    obtain ⟨uB2, b2, gB2⟩ := hcaB 2 _ rfl
    obtain rfl := gB2.leaf_eq
    obtain ⟨uB3, b3, gB3⟩ := hcaB 3 _ rfl
    obtain rfl := gB3.leaf_eq
    clear hcaB
    have b0 := (HBR.out.cell (p := ⟨bB, oB + k * 4, none⟩) hbB).trans b0
    have b1 := (HBR.out.cell (p := ⟨bB, oB + k * 4 + 1, none⟩) hbB).trans b1
    have b2 := (HBR.out.cell (p := ⟨bB, oB + k * 4 + 2, none⟩) hbB).trans b2
    have b3 := (HBR.out.cell (p := ⟨bB, oB + k * 4 + 3, none⟩) hbB).trans b3
    have k0 : (0 : Int) ≤ (k : Int) ∧ (k : Int) < ((l.length : Nat) : Int) := by omega
    have HX := hide hx
    have HY := hide hy
    clear hx hy hlt2
    obtain ⟨x_op, x_a, x_b, x_c⟩ := x
    obtain ⟨y_op, y_a, y_b, y_c⟩ := y
    dsimp only at a0 b0 a1 b1 a2 b2 a3 b3
    by_cases e_ : x_op = y_op
    rotate_left
    · as_aux_lemma =>
        have HNE := hide e_
        have hne1 := nat_ne e_
        clear e_
        go_wp2_with fail
        go_quiet (fail)
        go_wp2_with fail
        go_ret
        exact ⟨false, rfl, ⟨(fun h => by cases h), fun h_ => absurd (by have h := HX.out; rw [h_, HY.out] at h; exact (congrArg (fun z_ : InsD => z_.op) (Option.some.inj h)).symm) HNE.out⟩, belowDN HBR.out _⟩
    subst e_
    by_cases e_ : x_a = y_a
    rotate_left
    · as_aux_lemma =>
        have HNE := hide e_
        have hne1 := int_ne e_
        go_wp2_with fail
        go_quiet (fail)
        go_wp2_with fail
        go_ret
        exact ⟨false, rfl, ⟨(fun h => by cases h), fun h_ => absurd (by have h := HX.out; rw [h_, HY.out] at h; exact (congrArg (fun z_ : InsD => z_.a) (Option.some.inj h)).symm) HNE.out⟩, belowDN HBR.out _⟩
    subst e_
    by_cases e_ : x_b = y_b
    rotate_left
    · as_aux_lemma =>
        have HNE := hide e_
        have hne1 := int_ne e_
        go_wp2_with fail
        go_quiet (fail)
        go_wp2_with fail
        go_ret
        exact ⟨false, rfl, ⟨(fun h => by cases h), fun h_ => absurd (by have h := HX.out; rw [h_, HY.out] at h; exact (congrArg (fun z_ : InsD => z_.b) (Option.some.inj h)).symm) HNE.out⟩, belowDN HBR.out _⟩
    subst e_
    by_cases e_ : x_c = y_c
    rotate_left
    · as_aux_lemma =>
        have HNE := hide e_
        have hne1 := int_ne e_
        go_wp2_with fail
        go_quiet (fail)
        go_wp2_with fail
        go_ret
        exact ⟨false, rfl, ⟨(fun h => by cases h), fun h_ => absurd (by have h := HX.out; rw [h_, HY.out] at h; exact (congrArg (fun z_ : InsD => z_.c) (Option.some.inj h)).symm) HNE.out⟩, belowDN HBR.out _⟩
    subst e_
    go_wp2_with fail
    go_quiet (fail)
    go_wp2_with fail
    go_roundw
    case rel => exact ⟨k + 1, by omega, by go_num, by rw [List.take_add_one, List.take_add_one, HX.out, HY.out, HT.out], belowDN HBR.out _⟩
    case measure => simp [intOf]; omega
set_option maxRecDepth 100000 in
set_option maxHeartbeats 4000000 in
theorem eq_ints (va vb : Value) (l m : List Int) (W : World) (ha : Hid (DAt W (fun _ => True) va (.row 1 (intRows l)))) (hb : Hid (DAt W (fun _ => True) vb (.row 1 (intRows m)))) (hn : l.length ≤ 140737488355328) (_hm : m.length ≤ 140737488355328) :
    Calls Tryz.prog 39 #[va, vb] W fun e w' => ∃ z, e = .returned (.bool z) ∧ (z = true ↔ l = m) ∧ Below W.heap.size W w' := by
  obtain ⟨A, c, rfl, hA⟩ := ha.out.slice
  obtain ⟨B, d, rfl, hB⟩ := hb.out.slice
  have HA := hide hA
  have HB := hide hB
  clear hA hB ha hb
  rw [show (intRows l).length = l.length by simp [intRows]]
  rw [show (intRows m).length = m.length by simp [intRows]]
  by_cases hlen : l.length = m.length
  rotate_left
  · have HN := hide hlen
    have hne1 := nat_ne hlen
    clear hlen
    go_enter Tryz.func39, Tryz.ntmps39
    go_wp2_with fail
    go_ret
    exact ⟨false, rfl, ⟨(fun h => by cases h), fun h => absurd (congrArg List.length h) HN.out⟩, Below.refl _ _⟩
  rw [← hlen]
  have HL := hide hlen
  clear hlen _hm
  go_enter Tryz.func39, Tryz.ntmps39
  go_wp2_with fail
  go_loopw [13] (fun v wr => ∃ k : Nat, k ≤ l.length ∧ v = .int .i64 k ∧ l.take k = m.take k ∧ Below W.heap.size W wr) (fun v _ => l.length - (intOf v).toNat)
  case atStart => exact ⟨0, by omega, rfl, rfl, Below.refl _ _⟩
  case round =>
    obtain ⟨k, hk, rfl, ht, hbr⟩ := hrel
    have HBR := hide hbr
    have HT := hide ht
    clear hbr ht
    by_cases hlt : k < l.length
    rotate_left
    · obtain rfl : k = l.length := by omega
      clear hlt
      have HE : Hid (l = m) := hide (by have h := HT.out; rw [List.take_length, HL.out, List.take_length] at h; exact h)
      go_wp2_with fail
      go_ret
      exact ⟨true, rfl, ⟨fun _ => HE.out, fun _ => rfl⟩, HBR.out⟩
    have hlt2 : k < m.length := by have := HL.out; omega
    obtain ⟨x, hx⟩ : ∃ e_, l[k]? = some e_ := ⟨_, List.getElem?_eq_getElem hlt⟩
    obtain ⟨y, hy⟩ : ∃ e_, m[k]? = some e_ := ⟨_, List.getElem?_eq_getElem hlt2⟩
    obtain ⟨bA, oA, rfl, hbA, hcaA⟩ := HA.out.at_ (cells := fun n : Int => [lI n]) hx
    obtain ⟨uA0, a0, gA0⟩ := hcaA 0 _ rfl
    obtain rfl := gA0.leaf_eq
    clear hcaA
    rw [Nat.mul_one, Nat.add_zero] at a0
    have a0 := (HBR.out.cell (p := ⟨bA, oA + k, none⟩) hbA).trans a0
    obtain ⟨bB, oB, rfl, hbB, hcaB⟩ := HB.out.at_ (cells := fun n : Int => [lI n]) hy
    obtain ⟨uB0, b0, gB0⟩ := hcaB 0 _ rfl
    obtain rfl := gB0.leaf_eq
    clear hcaB
    rw [Nat.mul_one, Nat.add_zero] at b0
    have b0 := (HBR.out.cell (p := ⟨bB, oB + k, none⟩) hbB).trans b0
    have k0 : (0 : Int) ≤ (k : Int) ∧ (k : Int) < ((l.length : Nat) : Int) := by omega
    have HX := hide hx
    have HY := hide hy
    clear hx hy hlt2
    by_cases e_ : x = y
    rotate_left
    · as_aux_lemma =>
        have HNE := hide e_
        have hne1 := int_ne e_
        go_wp2_with fail
        go_quiet (fail)
        go_wp2_with fail
        go_ret
        exact ⟨false, rfl, ⟨(fun h => by cases h), fun h_ => absurd (by have h := HX.out; rw [h_, HY.out] at h; exact (Option.some.inj h).symm) HNE.out⟩, belowDN HBR.out _⟩
    subst e_
    go_wp2_with fail
    go_quiet (fail)
    go_wp2_with fail
    go_roundw
    case rel => exact ⟨k + 1, by omega, by go_num, by rw [List.take_add_one, List.take_add_one, HX.out, HY.out, HT.out], belowDN HBR.out _⟩
    case measure => simp [intOf]; omega
set_option maxRecDepth 100000 in
set_option maxHeartbeats 4000000 in
theorem eq_ports (va vb : Value) (l m : List PortD) (W : World) (ha : Hid (DAt W (fun _ => True) va (.row 6 (l.map PortD.cells)))) (hb : Hid (DAt W (fun _ => True) vb (.row 6 (m.map PortD.cells)))) (hn : l.length ≤ 140737488355328) (_hm : m.length ≤ 140737488355328) :
    Calls Tryz.prog 40 #[va, vb] W fun e w' => ∃ z, e = .returned (.bool z) ∧ (z = true ↔ l = m) ∧ Below W.heap.size W w' := by
  obtain ⟨A, c, rfl, hA⟩ := ha.out.slice
  obtain ⟨B, d, rfl, hB⟩ := hb.out.slice
  have HA := hide hA
  have HB := hide hB
  clear hA hB ha hb
  rw [List.length_map]
  rw [List.length_map]
  by_cases hlen : l.length = m.length
  rotate_left
  · have HN := hide hlen
    have hne1 := nat_ne hlen
    clear hlen
    go_enter Tryz.func40, Tryz.ntmps40
    go_wp2_with fail
    go_ret
    exact ⟨false, rfl, ⟨(fun h => by cases h), fun h => absurd (congrArg List.length h) HN.out⟩, Below.refl _ _⟩
  rw [← hlen]
  have HL := hide hlen
  clear hlen _hm
  go_enter Tryz.func40, Tryz.ntmps40
  go_wp2_with fail
  go_loopw [13] (fun v wr => ∃ k : Nat, k ≤ l.length ∧ v = .int .i64 k ∧ l.take k = m.take k ∧ Below W.heap.size W wr) (fun v _ => l.length - (intOf v).toNat)
  case atStart => exact ⟨0, by omega, rfl, rfl, Below.refl _ _⟩
  case round =>
    obtain ⟨k, hk, rfl, ht, hbr⟩ := hrel
    have HBR := hide hbr
    have HT := hide ht
    clear hbr ht
    by_cases hlt : k < l.length
    rotate_left
    · obtain rfl : k = l.length := by omega
      clear hlt
      have HE : Hid (l = m) := hide (by have h := HT.out; rw [List.take_length, HL.out, List.take_length] at h; exact h)
      go_wp2_with fail
      go_ret
      exact ⟨true, rfl, ⟨fun _ => HE.out, fun _ => rfl⟩, HBR.out⟩
    have hlt2 : k < m.length := by have := HL.out; omega
    obtain ⟨x, hx⟩ : ∃ e_, l[k]? = some e_ := ⟨_, List.getElem?_eq_getElem hlt⟩
    obtain ⟨y, hy⟩ : ∃ e_, m[k]? = some e_ := ⟨_, List.getElem?_eq_getElem hlt2⟩
    obtain ⟨bA, oA, rfl, hbA, hcaA⟩ := HA.out.at_ hx
    obtain ⟨uA0, a0, gA0⟩ := hcaA 0 _ rfl
    obtain rfl := gA0.leaf_eq
    obtain ⟨uA1, a1, gA1⟩ := hcaA 1 _ rfl
    obtain rfl := gA1.leaf_eq
    obtain ⟨uA2, a2, gA2⟩ := hcaA 2 _ rfl
    obtain rfl := gA2.leaf_eq
    obtain ⟨uA3, a3, gA3⟩ := hcaA 3 _ rfl
    obtain rfl := gA3.leaf_eq
    obtain ⟨uA4, a4, gA4⟩ := hcaA 4 _ rfl
    obtain rfl := gA4.leaf_eq
    obtain ⟨uA5, a5, gA5⟩ := hcaA 5 _ rfl
    obtain rfl := gA5.leaf_eq
    clear hcaA
    have a0 := (HBR.out.cell (p := ⟨bA, oA + k * 6, none⟩) hbA).trans a0
    have a1 := (HBR.out.cell (p := ⟨bA, oA + k * 6 + 1, none⟩) hbA).trans a1
    have a2 := (HBR.out.cell (p := ⟨bA, oA + k * 6 + 2, none⟩) hbA).trans a2
    have a3 := (HBR.out.cell (p := ⟨bA, oA + k * 6 + 3, none⟩) hbA).trans a3
    have a4 := (HBR.out.cell (p := ⟨bA, oA + k * 6 + 4, none⟩) hbA).trans a4
    have a5 := (HBR.out.cell (p := ⟨bA, oA + k * 6 + 5, none⟩) hbA).trans a5
    simp only [strV] at a0 a1 a2 a3 a4 a5
    obtain ⟨bB, oB, rfl, hbB, hcaB⟩ := HB.out.at_ hy
    obtain ⟨uB0, b0, gB0⟩ := hcaB 0 _ rfl
    obtain rfl := gB0.leaf_eq
    obtain ⟨uB1, b1, gB1⟩ := hcaB 1 _ rfl
    obtain rfl := gB1.leaf_eq
    obtain ⟨uB2, b2, gB2⟩ := hcaB 2 _ rfl
    obtain rfl := gB2.leaf_eq
    obtain ⟨uB3, b3, gB3⟩ := hcaB 3 _ rfl
    obtain rfl := gB3.leaf_eq
    obtain ⟨uB4, b4, gB4⟩ := hcaB 4 _ rfl
    obtain rfl := gB4.leaf_eq
    obtain ⟨uB5, b5, gB5⟩ := hcaB 5 _ rfl
    obtain rfl := gB5.leaf_eq
    clear hcaB
    have b0 := (HBR.out.cell (p := ⟨bB, oB + k * 6, none⟩) hbB).trans b0
    have b1 := (HBR.out.cell (p := ⟨bB, oB + k * 6 + 1, none⟩) hbB).trans b1
    have b2 := (HBR.out.cell (p := ⟨bB, oB + k * 6 + 2, none⟩) hbB).trans b2
    have b3 := (HBR.out.cell (p := ⟨bB, oB + k * 6 + 3, none⟩) hbB).trans b3
    have b4 := (HBR.out.cell (p := ⟨bB, oB + k * 6 + 4, none⟩) hbB).trans b4
    have b5 := (HBR.out.cell (p := ⟨bB, oB + k * 6 + 5, none⟩) hbB).trans b5
    simp only [strV] at b0 b1 b2 b3 b4 b5
    have k0 : (0 : Int) ≤ (k : Int) ∧ (k : Int) < ((l.length : Nat) : Int) := by omega
    have HX := hide hx
    have HY := hide hy
    clear hx hy hlt2
    obtain ⟨x_name, x_kind, x_out, x_size, x_depth, x_refresh⟩ := x
    obtain ⟨y_name, y_kind, y_out, y_size, y_depth, y_refresh⟩ := y
    dsimp only at a0 b0 a1 b1 a2 b2 a3 b3 a4 b4 a5 b5
    by_cases e_ : x_name = y_name
    rotate_left
    · as_aux_lemma =>
        have HNE := hide e_
        have hne1 := bytes_ne e_
        have hne2 := list_ne e_
        clear e_
        go_wp2_with fail
        go_quiet (fail)
        go_wp2_with fail
        go_ret
        exact ⟨false, rfl, ⟨(fun h => by cases h), fun h_ => absurd (by have h := HX.out; rw [h_, HY.out] at h; exact (congrArg (fun z_ : PortD => z_.name) (Option.some.inj h)).symm) HNE.out⟩, belowDN HBR.out _⟩
    subst e_
    by_cases e_ : x_kind = y_kind
    rotate_left
    · as_aux_lemma =>
        have HNE := hide e_
        have hne1 := nat_ne e_
        clear e_
        go_wp2_with fail
        go_quiet (fail)
        go_wp2_with fail
        go_ret
        exact ⟨false, rfl, ⟨(fun h => by cases h), fun h_ => absurd (by have h := HX.out; rw [h_, HY.out] at h; exact (congrArg (fun z_ : PortD => z_.kind) (Option.some.inj h)).symm) HNE.out⟩, belowDN HBR.out _⟩
    subst e_
    by_cases e_ : x_out = y_out
    rotate_left
    · as_aux_lemma =>
        have HNE := hide e_
        have hne1 := bool_ne e_
        clear e_
        go_wp2_with fail
        go_quiet (fail)
        go_wp2_with fail
        go_ret
        exact ⟨false, rfl, ⟨(fun h => by cases h), fun h_ => absurd (by have h := HX.out; rw [h_, HY.out] at h; exact (congrArg (fun z_ : PortD => z_.out) (Option.some.inj h)).symm) HNE.out⟩, belowDN HBR.out _⟩
    subst e_
    by_cases e_ : x_size = y_size
    rotate_left
    · as_aux_lemma =>
        have HNE := hide e_
        have hne1 := int_ne e_
        go_wp2_with fail
        go_quiet (fail)
        go_wp2_with fail
        go_ret
        exact ⟨false, rfl, ⟨(fun h => by cases h), fun h_ => absurd (by have h := HX.out; rw [h_, HY.out] at h; exact (congrArg (fun z_ : PortD => z_.size) (Option.some.inj h)).symm) HNE.out⟩, belowDN HBR.out _⟩
    subst e_
    by_cases e_ : x_depth = y_depth
    rotate_left
    · as_aux_lemma =>
        have HNE := hide e_
        have hne1 := int_ne e_
        go_wp2_with fail
        go_quiet (fail)
        go_wp2_with fail
        go_ret
        exact ⟨false, rfl, ⟨(fun h => by cases h), fun h_ => absurd (by have h := HX.out; rw [h_, HY.out] at h; exact (congrArg (fun z_ : PortD => z_.depth) (Option.some.inj h)).symm) HNE.out⟩, belowDN HBR.out _⟩
    subst e_
    by_cases e_ : x_refresh = y_refresh
    rotate_left
    · as_aux_lemma =>
        have HNE := hide e_
        have hne1 := int_ne e_
        go_wp2_with fail
        go_quiet (fail)
        go_wp2_with fail
        go_ret
        exact ⟨false, rfl, ⟨(fun h => by cases h), fun h_ => absurd (by have h := HX.out; rw [h_, HY.out] at h; exact (congrArg (fun z_ : PortD => z_.refresh) (Option.some.inj h)).symm) HNE.out⟩, belowDN HBR.out _⟩
    subst e_
    go_wp2_with fail
    go_quiet (fail)
    go_wp2_with fail
    go_roundw
    case rel => exact ⟨k + 1, by omega, by go_num, by rw [List.take_add_one, List.take_add_one, HX.out, HY.out, HT.out], belowDN HBR.out _⟩
    case measure => simp [intOf]; omega
set_option maxRecDepth 100000 in
set_option maxHeartbeats 4000000 in
theorem eq_refs (va vb : Value) (l m : List RefD) (W : World) (ha : Hid (DAt W (fun _ => True) va (.row 3 (l.map RefD.cells)))) (hb : Hid (DAt W (fun _ => True) vb (.row 3 (m.map RefD.cells)))) (hn : l.length ≤ 140737488355328) (_hm : m.length ≤ 140737488355328) :
    Calls Tryz.prog 45 #[va, vb] W fun e w' => ∃ z, e = .returned (.bool z) ∧ (z = true ↔ l = m) ∧ Below W.heap.size W w' := by
  obtain ⟨A, c, rfl, hA⟩ := ha.out.slice
  obtain ⟨B, d, rfl, hB⟩ := hb.out.slice
  have HA := hide hA
  have HB := hide hB
  clear hA hB ha hb
  rw [List.length_map]
  rw [List.length_map]
  by_cases hlen : l.length = m.length
  rotate_left
  · have HN := hide hlen
    have hne1 := nat_ne hlen
    clear hlen
    go_enter Tryz.func45, Tryz.ntmps45
    go_wp2_with fail
    go_ret
    exact ⟨false, rfl, ⟨(fun h => by cases h), fun h => absurd (congrArg List.length h) HN.out⟩, Below.refl _ _⟩
  rw [← hlen]
  have HL := hide hlen
  clear hlen _hm
  go_enter Tryz.func45, Tryz.ntmps45
  go_wp2_with fail
  go_loopw [13] (fun v wr => ∃ k : Nat, k ≤ l.length ∧ v = .int .i64 k ∧ l.take k = m.take k ∧ Below W.heap.size W wr) (fun v _ => l.length - (intOf v).toNat)
  case atStart => exact ⟨0, by omega, rfl, rfl, Below.refl _ _⟩
  case round =>
    obtain ⟨k, hk, rfl, ht, hbr⟩ := hrel
    have HBR := hide hbr
    have HT := hide ht
    clear hbr ht
    by_cases hlt : k < l.length
    rotate_left
    · obtain rfl : k = l.length := by omega
      clear hlt
      have HE : Hid (l = m) := hide (by have h := HT.out; rw [List.take_length, HL.out, List.take_length] at h; exact h)
      go_wp2_with fail
      go_ret
      exact ⟨true, rfl, ⟨fun _ => HE.out, fun _ => rfl⟩, HBR.out⟩
    have hlt2 : k < m.length := by have := HL.out; omega
    obtain ⟨x, hx⟩ : ∃ e_, l[k]? = some e_ := ⟨_, List.getElem?_eq_getElem hlt⟩
    obtain ⟨y, hy⟩ : ∃ e_, m[k]? = some e_ := ⟨_, List.getElem?_eq_getElem hlt2⟩
    obtain ⟨bA, oA, rfl, hbA, hcaA⟩ := HA.out.at_ hx
    obtain ⟨uA0, a0, gA0⟩ := hcaA 0 _ rfl
    obtain rfl := gA0.leaf_eq
    obtain ⟨uA1, a1, gA1⟩ := hcaA 1 _ rfl
    obtain rfl := gA1.leaf_eq
    obtain ⟨uA2, a2, gA2⟩ := hcaA 2 _ rfl
    obtain rfl := gA2.leaf_eq
    clear hcaA
    have a0 := (HBR.out.cell (p := ⟨bA, oA + k * 3, none⟩) hbA).trans a0
    have a1 := (HBR.out.cell (p := ⟨bA, oA + k * 3 + 1, none⟩) hbA).trans a1
    have a2 := (HBR.out.cell (p := ⟨bA, oA + k * 3 + 2, none⟩) hbA).trans a2
    simp only [strV] at a0 a1 a2
    obtain ⟨bB, oB, rfl, hbB, hcaB⟩ := HB.out.at_ hy
    obtain ⟨uB0, b0, gB0⟩ := hcaB 0 _ rfl
    obtain rfl := gB0.leaf_eq
    obtain ⟨uB1, b1, gB1⟩ := hcaB 1 _ rfl
    obtain rfl := gB1.leaf_eq
    obtain ⟨uB2, b2, gB2⟩ := hcaB 2 _ rfl
    obtain rfl := gB2.leaf_eq
    clear hcaB
    have b0 := (HBR.out.cell (p := ⟨bB, oB + k * 3, none⟩) hbB).trans b0
    have b1 := (HBR.out.cell (p := ⟨bB, oB + k * 3 + 1, none⟩) hbB).trans b1
    have b2 := (HBR.out.cell (p := ⟨bB, oB + k * 3 + 2, none⟩) hbB).trans b2
    simp only [strV] at b0 b1 b2
    have k0 : (0 : Int) ≤ (k : Int) ∧ (k : Int) < ((l.length : Nat) : Int) := by omega
    have HX := hide hx
    have HY := hide hy
    clear hx hy hlt2
    obtain ⟨x_m, x_p, x_o⟩ := x
    obtain ⟨y_m, y_p, y_o⟩ := y
    dsimp only at a0 b0 a1 b1 a2 b2
    by_cases e_ : x_m = y_m
    rotate_left
    · as_aux_lemma =>
        have HNE := hide e_
        have hne1 := bytes_ne e_
        have hne2 := list_ne e_
        clear e_
        go_wp2_with fail
        go_quiet (fail)
        go_wp2_with fail
        go_ret
        exact ⟨false, rfl, ⟨(fun h => by cases h), fun h_ => absurd (by have h := HX.out; rw [h_, HY.out] at h; exact (congrArg (fun z_ : RefD => z_.m) (Option.some.inj h)).symm) HNE.out⟩, belowDN HBR.out _⟩
    subst e_
    by_cases e_ : x_p = y_p
    rotate_left
    · as_aux_lemma =>
        have HNE := hide e_
        have hne1 := bytes_ne e_
        have hne2 := list_ne e_
        clear e_
        go_wp2_with fail
        go_quiet (fail)
        go_wp2_with fail
        go_ret
        exact ⟨false, rfl, ⟨(fun h => by cases h), fun h_ => absurd (by have h := HX.out; rw [h_, HY.out] at h; exact (congrArg (fun z_ : RefD => z_.p) (Option.some.inj h)).symm) HNE.out⟩, belowDN HBR.out _⟩
    subst e_
    by_cases e_ : x_o = y_o
    rotate_left
    · as_aux_lemma =>
        have HNE := hide e_
        have hne1 := bytes_ne e_
        have hne2 := list_ne e_
        clear e_
        go_wp2_with fail
        go_quiet (fail)
        go_wp2_with fail
        go_ret
        exact ⟨false, rfl, ⟨(fun h => by cases h), fun h_ => absurd (by have h := HX.out; rw [h_, HY.out] at h; exact (congrArg (fun z_ : RefD => z_.o) (Option.some.inj h)).symm) HNE.out⟩, belowDN HBR.out _⟩
    subst e_
    go_wp2_with fail
    go_quiet (fail)
    go_wp2_with fail
    go_roundw
    case rel => exact ⟨k + 1, by omega, by go_num, by rw [List.take_add_one, List.take_add_one, HX.out, HY.out, HT.out], belowDN HBR.out _⟩
    case measure => simp [intOf]; omega
set_option maxRecDepth 100000 in
set_option maxHeartbeats 4000000 in
theorem eq_sws (va vb : Value) (l m : List SwD) (W : World) (ha : Hid (DAt W (fun _ => True) va (.row 4 (l.map SwD.cells)))) (hb : Hid (DAt W (fun _ => True) vb (.row 4 (m.map SwD.cells)))) (hn : l.length ≤ 140737488355328) (_hm : m.length ≤ 140737488355328) :
    Calls Tryz.prog 49 #[va, vb] W fun e w' => ∃ z, e = .returned (.bool z) ∧ (z = true ↔ l = m) ∧ Below W.heap.size W w' := by
  obtain ⟨A, c, rfl, hA⟩ := ha.out.slice
  obtain ⟨B, d, rfl, hB⟩ := hb.out.slice
  have HA := hide hA
  have HB := hide hB
  clear hA hB ha hb
  rw [List.length_map]
  rw [List.length_map]
  by_cases hlen : l.length = m.length
  rotate_left
  · have HN := hide hlen
    have hne1 := nat_ne hlen
    clear hlen
    go_enter Tryz.func49, Tryz.ntmps49
    go_wp2_with fail
    go_ret
    exact ⟨false, rfl, ⟨(fun h => by cases h), fun h => absurd (congrArg List.length h) HN.out⟩, Below.refl _ _⟩
  rw [← hlen]
  have HL := hide hlen
  clear hlen _hm
  go_enter Tryz.func49, Tryz.ntmps49
  go_wp2_with fail
  go_loopw [13] (fun v wr => ∃ k : Nat, k ≤ l.length ∧ v = .int .i64 k ∧ l.take k = m.take k ∧ Below W.heap.size W wr) (fun v _ => l.length - (intOf v).toNat)
  case atStart => exact ⟨0, by omega, rfl, rfl, Below.refl _ _⟩
  case round =>
    obtain ⟨k, hk, rfl, ht, hbr⟩ := hrel
    have HBR := hide hbr
    have HT := hide ht
    clear hbr ht
    by_cases hlt : k < l.length
    rotate_left
    · obtain rfl : k = l.length := by omega
      clear hlt
      have HE : Hid (l = m) := hide (by have h := HT.out; rw [List.take_length, HL.out, List.take_length] at h; exact h)
      go_wp2_with fail
      go_ret
      exact ⟨true, rfl, ⟨fun _ => HE.out, fun _ => rfl⟩, HBR.out⟩
    have hlt2 : k < m.length := by have := HL.out; omega
    obtain ⟨x, hx⟩ : ∃ e_, l[k]? = some e_ := ⟨_, List.getElem?_eq_getElem hlt⟩
    obtain ⟨y, hy⟩ : ∃ e_, m[k]? = some e_ := ⟨_, List.getElem?_eq_getElem hlt2⟩
    obtain ⟨bA, oA, rfl, hbA, hcaA⟩ := HA.out.at_ hx
    obtain ⟨uA0, a0, gA0⟩ := hcaA 0 _ rfl
    obtain rfl := gA0.leaf_eq
    obtain ⟨uA1, a1, gA1⟩ := hcaA 1 _ rfl
    obtain rfl := gA1.leaf_eq
    obtain ⟨uA2, a2, gA2⟩ := hcaA 2 _ rfl
    obtain rfl := gA2.leaf_eq
    obtain ⟨uA3, a3, gA3⟩ := hcaA 3 _ rfl
    obtain rfl := gA3.leaf_eq
    clear hcaA
    have a0 := (HBR.out.cell (p := ⟨bA, oA + k * 4, none⟩) hbA).trans a0
    have a1 := (HBR.out.cell (p := ⟨bA, oA + k * 4 + 1, none⟩) hbA).trans a1
    have a2 := (HBR.out.cell (p := ⟨bA, oA + k * 4 + 2, none⟩) hbA).trans a2
    have a3 := (HBR.out.cell (p := ⟨bA, oA + k * 4 + 3, none⟩) hbA).trans a3
    simp only [strV] at a0 a1 a2 a3
    obtain ⟨bB, oB, rfl, hbB, hcaB⟩ := HB.out.at_ hy
    obtain ⟨uB0, b0, gB0⟩ := hcaB 0 _ rfl
    obtain rfl := gB0.leaf_eq
    obtain ⟨uB1, b1, gB1⟩ := hcaB 1 _ rfl
    obtain rfl := gB1.leaf_eq
    obtain ⟨uB2, b2, gB2⟩ := hcaB 2 _ rfl
    obtain rfl := gB2.leaf_eq
    obtain ⟨uB3, b3, gB3⟩ := hcaB 3 _ rfl
    obtain rfl := gB3.leaf_eq
    clear hcaB
    have b0 := (HBR.out.cell (p := ⟨bB, oB + k * 4, none⟩) hbB).trans b0
    have b1 := (HBR.out.cell (p := ⟨bB, oB + k * 4 + 1, none⟩) hbB).trans b1
    have b2 := (HBR.out.cell (p := ⟨bB, oB + k * 4 + 2, none⟩) hbB).trans b2
    have b3 := (HBR.out.cell (p := ⟨bB, oB + k * 4 + 3, none⟩) hbB).trans b3
    simp only [strV] at b0 b1 b2 b3
    have k0 : (0 : Int) ≤ (k : Int) ∧ (k : Int) < ((l.length : Nat) : Int) := by omega
    have HX := hide hx
    have HY := hide hy
    clear hx hy hlt2
    obtain ⟨x_name, x_net, x_delay, x_store⟩ := x
    obtain ⟨y_name, y_net, y_delay, y_store⟩ := y
    dsimp only at a0 b0 a1 b1 a2 b2 a3 b3
    by_cases e_ : x_name = y_name
    rotate_left
    · as_aux_lemma =>
        have HNE := hide e_
        have hne1 := bytes_ne e_
        have hne2 := list_ne e_
        clear e_
        go_wp2_with fail
        go_quiet (fail)
        go_wp2_with fail
        go_ret
        exact ⟨false, rfl, ⟨(fun h => by cases h), fun h_ => absurd (by have h := HX.out; rw [h_, HY.out] at h; exact (congrArg (fun z_ : SwD => z_.name) (Option.some.inj h)).symm) HNE.out⟩, belowDN HBR.out _⟩
    subst e_
    by_cases e_ : x_net = y_net
    rotate_left
    · as_aux_lemma =>
        have HNE := hide e_
        have hne1 := int_ne e_
        go_wp2_with fail
        go_quiet (fail)
        go_wp2_with fail
        go_ret
        exact ⟨false, rfl, ⟨(fun h => by cases h), fun h_ => absurd (by have h := HX.out; rw [h_, HY.out] at h; exact (congrArg (fun z_ : SwD => z_.net) (Option.some.inj h)).symm) HNE.out⟩, belowDN HBR.out _⟩
    subst e_
    by_cases e_ : x_delay = y_delay
    rotate_left
    · as_aux_lemma =>
        have HNE := hide e_
        have hne1 := int_ne e_
        go_wp2_with fail
        go_quiet (fail)
        go_wp2_with fail
        go_ret
        exact ⟨false, rfl, ⟨(fun h => by cases h), fun h_ => absurd (by have h := HX.out; rw [h_, HY.out] at h; exact (congrArg (fun z_ : SwD => z_.delay) (Option.some.inj h)).symm) HNE.out⟩, belowDN HBR.out _⟩
    subst e_
    by_cases e_ : x_store = y_store
    rotate_left
    · as_aux_lemma =>
        have HNE := hide e_
        have hne1 := int_ne e_
        go_wp2_with fail
        go_quiet (fail)
        go_wp2_with fail
        go_ret
        exact ⟨false, rfl, ⟨(fun h => by cases h), fun h_ => absurd (by have h := HX.out; rw [h_, HY.out] at h; exact (congrArg (fun z_ : SwD => z_.store) (Option.some.inj h)).symm) HNE.out⟩, belowDN HBR.out _⟩
    subst e_
    go_wp2_with fail
    go_quiet (fail)
    go_wp2_with fail
    go_roundw
    case rel => exact ⟨k + 1, by omega, by go_num, by rw [List.take_add_one, List.take_add_one, HX.out, HY.out, HT.out], belowDN HBR.out _⟩
    case measure => simp [intOf]; omega
set_option maxRecDepth 100000 in
set_option maxHeartbeats 4000000 in
theorem eq_links (va vb : Value) (l m : List LinkD) (W : World) (ha : Hid (DAt W (fun _ => True) va (.row 4 (l.map LinkD.cells)))) (hb : Hid (DAt W (fun _ => True) vb (.row 4 (m.map LinkD.cells)))) (hn : l.length ≤ 140737488355328) (_hm : m.length ≤ 140737488355328) :
    Calls Tryz.prog 50 #[va, vb] W fun e w' => ∃ z, e = .returned (.bool z) ∧ (z = true ↔ l = m) ∧ Below W.heap.size W w' := by
  obtain ⟨A, c, rfl, hA⟩ := ha.out.slice
  obtain ⟨B, d, rfl, hB⟩ := hb.out.slice
  have HA := hide hA
  have HB := hide hB
  clear hA hB ha hb
  rw [List.length_map]
  rw [List.length_map]
  by_cases hlen : l.length = m.length
  rotate_left
  · have HN := hide hlen
    have hne1 := nat_ne hlen
    clear hlen
    go_enter Tryz.func50, Tryz.ntmps50
    go_wp2_with fail
    go_ret
    exact ⟨false, rfl, ⟨(fun h => by cases h), fun h => absurd (congrArg List.length h) HN.out⟩, Below.refl _ _⟩
  rw [← hlen]
  have HL := hide hlen
  clear hlen _hm
  go_enter Tryz.func50, Tryz.ntmps50
  go_wp2_with fail
  go_loopw [13] (fun v wr => ∃ k : Nat, k ≤ l.length ∧ v = .int .i64 k ∧ l.take k = m.take k ∧ Below W.heap.size W wr) (fun v _ => l.length - (intOf v).toNat)
  case atStart => exact ⟨0, by omega, rfl, rfl, Below.refl _ _⟩
  case round =>
    obtain ⟨k, hk, rfl, ht, hbr⟩ := hrel
    have HBR := hide hbr
    have HT := hide ht
    clear hbr ht
    by_cases hlt : k < l.length
    rotate_left
    · obtain rfl : k = l.length := by omega
      clear hlt
      have HE : Hid (l = m) := hide (by have h := HT.out; rw [List.take_length, HL.out, List.take_length] at h; exact h)
      go_wp2_with fail
      go_ret
      exact ⟨true, rfl, ⟨fun _ => HE.out, fun _ => rfl⟩, HBR.out⟩
    have hlt2 : k < m.length := by have := HL.out; omega
    obtain ⟨x, hx⟩ : ∃ e_, l[k]? = some e_ := ⟨_, List.getElem?_eq_getElem hlt⟩
    obtain ⟨y, hy⟩ : ∃ e_, m[k]? = some e_ := ⟨_, List.getElem?_eq_getElem hlt2⟩
    obtain ⟨bA, oA, rfl, hbA, hcaA⟩ := HA.out.at_ hx
    obtain ⟨uA0, a0, gA0⟩ := hcaA 0 _ rfl
    obtain rfl := gA0.leaf_eq
    obtain ⟨uA1, a1, gA1⟩ := hcaA 1 _ rfl
    obtain rfl := gA1.leaf_eq
    obtain ⟨uA2, a2, gA2⟩ := hcaA 2 _ rfl
    obtain rfl := gA2.leaf_eq
    obtain ⟨uA3, a3, gA3⟩ := hcaA 3 _ rfl
    obtain rfl := gA3.leaf_eq
    clear hcaA
    have a0 := (HBR.out.cell (p := ⟨bA, oA + k * 4, none⟩) hbA).trans a0
    have a1 := (HBR.out.cell (p := ⟨bA, oA + k * 4 + 1, none⟩) hbA).trans a1
    have a2 := (HBR.out.cell (p := ⟨bA, oA + k * 4 + 2, none⟩) hbA).trans a2
    have a3 := (HBR.out.cell (p := ⟨bA, oA + k * 4 + 3, none⟩) hbA).trans a3
    simp only [strV] at a0 a1 a2 a3
    obtain ⟨bB, oB, rfl, hbB, hcaB⟩ := HB.out.at_ hy
    obtain ⟨uB0, b0, gB0⟩ := hcaB 0 _ rfl
    obtain rfl := gB0.leaf_eq
    obtain ⟨uB1, b1, gB1⟩ := hcaB 1 _ rfl
    obtain rfl := gB1.leaf_eq
    obtain ⟨uB2, b2, gB2⟩ := hcaB 2 _ rfl
    obtain rfl := gB2.leaf_eq
    obtain ⟨uB3, b3, gB3⟩ := hcaB 3 _ rfl
    obtain rfl := gB3.leaf_eq
    clear hcaB
    have b0 := (HBR.out.cell (p := ⟨bB, oB + k * 4, none⟩) hbB).trans b0
    have b1 := (HBR.out.cell (p := ⟨bB, oB + k * 4 + 1, none⟩) hbB).trans b1
    have b2 := (HBR.out.cell (p := ⟨bB, oB + k * 4 + 2, none⟩) hbB).trans b2
    have b3 := (HBR.out.cell (p := ⟨bB, oB + k * 4 + 3, none⟩) hbB).trans b3
    simp only [strV] at b0 b1 b2 b3
    have k0 : (0 : Int) ≤ (k : Int) ∧ (k : Int) < ((l.length : Nat) : Int) := by omega
    have HX := hide hx
    have HY := hide hy
    clear hx hy hlt2
    obtain ⟨x_a, x_b, x_net, x_slow⟩ := x
    obtain ⟨y_a, y_b, y_net, y_slow⟩ := y
    dsimp only at a0 b0 a1 b1 a2 b2 a3 b3
    by_cases e_ : x_a = y_a
    rotate_left
    · as_aux_lemma =>
        have HNE := hide e_
        have hne1 := bytes_ne e_
        have hne2 := list_ne e_
        clear e_
        go_wp2_with fail
        go_quiet (fail)
        go_wp2_with fail
        go_ret
        exact ⟨false, rfl, ⟨(fun h => by cases h), fun h_ => absurd (by have h := HX.out; rw [h_, HY.out] at h; exact (congrArg (fun z_ : LinkD => z_.a) (Option.some.inj h)).symm) HNE.out⟩, belowDN HBR.out _⟩
    subst e_
    by_cases e_ : x_b = y_b
    rotate_left
    · as_aux_lemma =>
        have HNE := hide e_
        have hne1 := bytes_ne e_
        have hne2 := list_ne e_
        clear e_
        go_wp2_with fail
        go_quiet (fail)
        go_wp2_with fail
        go_ret
        exact ⟨false, rfl, ⟨(fun h => by cases h), fun h_ => absurd (by have h := HX.out; rw [h_, HY.out] at h; exact (congrArg (fun z_ : LinkD => z_.b) (Option.some.inj h)).symm) HNE.out⟩, belowDN HBR.out _⟩
    subst e_
    by_cases e_ : x_net = y_net
    rotate_left
    · as_aux_lemma =>
        have HNE := hide e_
        have hne1 := int_ne e_
        go_wp2_with fail
        go_quiet (fail)
        go_wp2_with fail
        go_ret
        exact ⟨false, rfl, ⟨(fun h => by cases h), fun h_ => absurd (by have h := HX.out; rw [h_, HY.out] at h; exact (congrArg (fun z_ : LinkD => z_.net) (Option.some.inj h)).symm) HNE.out⟩, belowDN HBR.out _⟩
    subst e_
    by_cases e_ : x_slow = y_slow
    rotate_left
    · as_aux_lemma =>
        have HNE := hide e_
        have hne1 := int_ne e_
        go_wp2_with fail
        go_quiet (fail)
        go_wp2_with fail
        go_ret
        exact ⟨false, rfl, ⟨(fun h => by cases h), fun h_ => absurd (by have h := HX.out; rw [h_, HY.out] at h; exact (congrArg (fun z_ : LinkD => z_.slow) (Option.some.inj h)).symm) HNE.out⟩, belowDN HBR.out _⟩
    subst e_
    go_wp2_with fail
    go_quiet (fail)
    go_wp2_with fail
    go_roundw
    case rel => exact ⟨k + 1, by omega, by go_num, by rw [List.take_add_one, List.take_add_one, HX.out, HY.out, HT.out], belowDN HBR.out _⟩
    case measure => simp [intOf]; omega
set_option maxRecDepth 100000 in
set_option maxHeartbeats 4000000 in
theorem eq_healths (va vb : Value) (l m : List HealthD) (W : World) (ha : Hid (DAt W (fun _ => True) va (.row 5 (l.map HealthD.cells)))) (hb : Hid (DAt W (fun _ => True) vb (.row 5 (m.map HealthD.cells)))) (hn : l.length ≤ 140737488355328) (_hm : m.length ≤ 140737488355328) :
    Calls Tryz.prog 52 #[va, vb] W fun e w' => ∃ z, e = .returned (.bool z) ∧ (z = true ↔ l = m) ∧ Below W.heap.size W w' := by
  obtain ⟨A, c, rfl, hA⟩ := ha.out.slice
  obtain ⟨B, d, rfl, hB⟩ := hb.out.slice
  have HA := hide hA
  have HB := hide hB
  clear hA hB ha hb
  rw [List.length_map]
  rw [List.length_map]
  by_cases hlen : l.length = m.length
  rotate_left
  · have HN := hide hlen
    have hne1 := nat_ne hlen
    clear hlen
    go_enter Tryz.func52, Tryz.ntmps52
    go_wp2_with fail
    go_ret
    exact ⟨false, rfl, ⟨(fun h => by cases h), fun h => absurd (congrArg List.length h) HN.out⟩, Below.refl _ _⟩
  rw [← hlen]
  have HL := hide hlen
  clear hlen _hm
  go_enter Tryz.func52, Tryz.ntmps52
  go_wp2_with fail
  go_loopw [13] (fun v wr => ∃ k : Nat, k ≤ l.length ∧ v = .int .i64 k ∧ l.take k = m.take k ∧ Below W.heap.size W wr) (fun v _ => l.length - (intOf v).toNat)
  case atStart => exact ⟨0, by omega, rfl, rfl, Below.refl _ _⟩
  case round =>
    obtain ⟨k, hk, rfl, ht, hbr⟩ := hrel
    have HBR := hide hbr
    have HT := hide ht
    clear hbr ht
    by_cases hlt : k < l.length
    rotate_left
    · obtain rfl : k = l.length := by omega
      clear hlt
      have HE : Hid (l = m) := hide (by have h := HT.out; rw [List.take_length, HL.out, List.take_length] at h; exact h)
      go_wp2_with fail
      go_ret
      exact ⟨true, rfl, ⟨fun _ => HE.out, fun _ => rfl⟩, HBR.out⟩
    have hlt2 : k < m.length := by have := HL.out; omega
    obtain ⟨x, hx⟩ : ∃ e_, l[k]? = some e_ := ⟨_, List.getElem?_eq_getElem hlt⟩
    obtain ⟨y, hy⟩ : ∃ e_, m[k]? = some e_ := ⟨_, List.getElem?_eq_getElem hlt2⟩
    obtain ⟨bA, oA, rfl, hbA, hcaA⟩ := HA.out.at_ hx
    obtain ⟨uA0, a0, gA0⟩ := hcaA 0 _ rfl
    obtain rfl := gA0.leaf_eq
    obtain ⟨uA1, a1, gA1⟩ := hcaA 1 _ rfl
    obtain rfl := gA1.leaf_eq
    obtain ⟨uA2, a2, gA2⟩ := hcaA 2 _ rfl
    obtain rfl := gA2.leaf_eq
    obtain ⟨uA3, a3, gA3⟩ := hcaA 3 _ rfl
    obtain rfl := gA3.leaf_eq
    obtain ⟨uA4, a4, gA4⟩ := hcaA 4 _ rfl
    obtain rfl := gA4.leaf_eq
    clear hcaA
    have a0 := (HBR.out.cell (p := ⟨bA, oA + k * 5, none⟩) hbA).trans a0
    have a1 := (HBR.out.cell (p := ⟨bA, oA + k * 5 + 1, none⟩) hbA).trans a1
    have a2 := (HBR.out.cell (p := ⟨bA, oA + k * 5 + 2, none⟩) hbA).trans a2
    have a3 := (HBR.out.cell (p := ⟨bA, oA + k * 5 + 3, none⟩) hbA).trans a3
    have a4 := (HBR.out.cell (p := ⟨bA, oA + k * 5 + 4, none⟩) hbA).trans a4
    simp only [strV] at a0 a1 a2 a3 a4
    obtain ⟨bB, oB, rfl, hbB, hcaB⟩ := HB.out.at_ hy
    obtain ⟨uB0, b0, gB0⟩ := hcaB 0 _ rfl
    obtain rfl := gB0.leaf_eq
    obtain ⟨uB1, b1, gB1⟩ := hcaB 1 _ rfl
    obtain rfl := gB1.leaf_eq
    obtain ⟨uB2, b2, gB2⟩ := hcaB 2 _ rfl
    obtain rfl := gB2.leaf_eq
    obtain ⟨uB3, b3, gB3⟩ := hcaB 3 _ rfl
    obtain rfl := gB3.leaf_eq
    obtain ⟨uB4, b4, gB4⟩ := hcaB 4 _ rfl
    obtain rfl := gB4.leaf_eq
    clear hcaB
    have b0 := (HBR.out.cell (p := ⟨bB, oB + k * 5, none⟩) hbB).trans b0
    have b1 := (HBR.out.cell (p := ⟨bB, oB + k * 5 + 1, none⟩) hbB).trans b1
    have b2 := (HBR.out.cell (p := ⟨bB, oB + k * 5 + 2, none⟩) hbB).trans b2
    have b3 := (HBR.out.cell (p := ⟨bB, oB + k * 5 + 3, none⟩) hbB).trans b3
    have b4 := (HBR.out.cell (p := ⟨bB, oB + k * 5 + 4, none⟩) hbB).trans b4
    simp only [strV] at b0 b1 b2 b3 b4
    have k0 : (0 : Int) ≤ (k : Int) ∧ (k : Int) < ((l.length : Nat) : Int) := by omega
    have HX := hide hx
    have HY := hide hy
    clear hx hy hlt2
    obtain ⟨x_module, x_part, x_fault, x_level, x_do⟩ := x
    obtain ⟨y_module, y_part, y_fault, y_level, y_do⟩ := y
    dsimp only at a0 b0 a1 b1 a2 b2 a3 b3 a4 b4
    by_cases e_ : x_module = y_module
    rotate_left
    · as_aux_lemma =>
        have HNE := hide e_
        have hne1 := bytes_ne e_
        have hne2 := list_ne e_
        clear e_
        go_wp2_with fail
        go_quiet (fail)
        go_wp2_with fail
        go_ret
        exact ⟨false, rfl, ⟨(fun h => by cases h), fun h_ => absurd (by have h := HX.out; rw [h_, HY.out] at h; exact (congrArg (fun z_ : HealthD => z_.module) (Option.some.inj h)).symm) HNE.out⟩, belowDN HBR.out _⟩
    subst e_
    by_cases e_ : x_part = y_part
    rotate_left
    · as_aux_lemma =>
        have HNE := hide e_
        have hne1 := bytes_ne e_
        have hne2 := list_ne e_
        clear e_
        go_wp2_with fail
        go_quiet (fail)
        go_wp2_with fail
        go_ret
        exact ⟨false, rfl, ⟨(fun h => by cases h), fun h_ => absurd (by have h := HX.out; rw [h_, HY.out] at h; exact (congrArg (fun z_ : HealthD => z_.part) (Option.some.inj h)).symm) HNE.out⟩, belowDN HBR.out _⟩
    subst e_
    by_cases e_ : x_fault = y_fault
    rotate_left
    · as_aux_lemma =>
        have HNE := hide e_
        have hne1 := nat_ne e_
        clear e_
        go_wp2_with fail
        go_quiet (fail)
        go_wp2_with fail
        go_ret
        exact ⟨false, rfl, ⟨(fun h => by cases h), fun h_ => absurd (by have h := HX.out; rw [h_, HY.out] at h; exact (congrArg (fun z_ : HealthD => z_.fault) (Option.some.inj h)).symm) HNE.out⟩, belowDN HBR.out _⟩
    subst e_
    by_cases e_ : x_level = y_level
    rotate_left
    · as_aux_lemma =>
        have HNE := hide e_
        have hne1 := nat_ne e_
        clear e_
        go_wp2_with fail
        go_quiet (fail)
        go_wp2_with fail
        go_ret
        exact ⟨false, rfl, ⟨(fun h => by cases h), fun h_ => absurd (by have h := HX.out; rw [h_, HY.out] at h; exact (congrArg (fun z_ : HealthD => z_.level) (Option.some.inj h)).symm) HNE.out⟩, belowDN HBR.out _⟩
    subst e_
    by_cases e_ : x_do = y_do
    rotate_left
    · as_aux_lemma =>
        have HNE := hide e_
        have hne1 := nat_ne e_
        clear e_
        go_wp2_with fail
        go_quiet (fail)
        go_wp2_with fail
        go_ret
        exact ⟨false, rfl, ⟨(fun h => by cases h), fun h_ => absurd (by have h := HX.out; rw [h_, HY.out] at h; exact (congrArg (fun z_ : HealthD => z_.do_) (Option.some.inj h)).symm) HNE.out⟩, belowDN HBR.out _⟩
    subst e_
    go_wp2_with fail
    go_quiet (fail)
    go_wp2_with fail
    go_roundw
    case rel => exact ⟨k + 1, by omega, by go_num, by rw [List.take_add_one, List.take_add_one, HX.out, HY.out, HT.out], belowDN HBR.out _⟩
    case measure => simp [intOf]; omega
set_option maxRecDepth 100000 in
set_option maxHeartbeats 4000000 in
theorem eq_vers (va vb : Value) (l m : List VerD) (W : World) (ha : Hid (DAt W (fun _ => True) va (.row 4 (l.map VerD.cells)))) (hb : Hid (DAt W (fun _ => True) vb (.row 4 (m.map VerD.cells)))) (hn : l.length ≤ 140737488355328) (_hm : m.length ≤ 140737488355328) :
    Calls Tryz.prog 54 #[va, vb] W fun e w' => ∃ z, e = .returned (.bool z) ∧ (z = true ↔ l = m) ∧ Below W.heap.size W w' := by
  obtain ⟨A, c, rfl, hA⟩ := ha.out.slice
  obtain ⟨B, d, rfl, hB⟩ := hb.out.slice
  have HA := hide hA
  have HB := hide hB
  clear hA hB ha hb
  rw [List.length_map]
  rw [List.length_map]
  by_cases hlen : l.length = m.length
  rotate_left
  · have HN := hide hlen
    have hne1 := nat_ne hlen
    clear hlen
    go_enter Tryz.func54, Tryz.ntmps54
    go_wp2_with fail
    go_ret
    exact ⟨false, rfl, ⟨(fun h => by cases h), fun h => absurd (congrArg List.length h) HN.out⟩, Below.refl _ _⟩
  rw [← hlen]
  have HL := hide hlen
  clear hlen _hm
  go_enter Tryz.func54, Tryz.ntmps54
  go_wp2_with fail
  go_loopw [13] (fun v wr => ∃ k : Nat, k ≤ l.length ∧ v = .int .i64 k ∧ l.take k = m.take k ∧ Below W.heap.size W wr) (fun v _ => l.length - (intOf v).toNat)
  case atStart => exact ⟨0, by omega, rfl, rfl, Below.refl _ _⟩
  case round =>
    obtain ⟨k, hk, rfl, ht, hbr⟩ := hrel
    have HBR := hide hbr
    have HT := hide ht
    clear hbr ht
    by_cases hlt : k < l.length
    rotate_left
    · obtain rfl : k = l.length := by omega
      clear hlt
      have HE : Hid (l = m) := hide (by have h := HT.out; rw [List.take_length, HL.out, List.take_length] at h; exact h)
      go_wp2_with fail
      go_ret
      exact ⟨true, rfl, ⟨fun _ => HE.out, fun _ => rfl⟩, HBR.out⟩
    have hlt2 : k < m.length := by have := HL.out; omega
    obtain ⟨x, hx⟩ : ∃ e_, l[k]? = some e_ := ⟨_, List.getElem?_eq_getElem hlt⟩
    obtain ⟨y, hy⟩ : ∃ e_, m[k]? = some e_ := ⟨_, List.getElem?_eq_getElem hlt2⟩
    obtain ⟨bA, oA, rfl, hbA, hcaA⟩ := HA.out.at_ hx
    obtain ⟨uA0, a0, gA0⟩ := hcaA 0 _ rfl
    obtain rfl := gA0.leaf_eq
    obtain ⟨uA1, a1, gA1⟩ := hcaA 1 _ rfl
    obtain rfl := gA1.leaf_eq
    obtain ⟨uA2, a2, gA2⟩ := hcaA 2 _ rfl
    obtain rfl := gA2.leaf_eq
    obtain ⟨uA3, a3, gA3⟩ := hcaA 3 _ rfl
    obtain rfl := gA3.leaf_eq
    clear hcaA
    have a0 := (HBR.out.cell (p := ⟨bA, oA + k * 4, none⟩) hbA).trans a0
    have a1 := (HBR.out.cell (p := ⟨bA, oA + k * 4 + 1, none⟩) hbA).trans a1
    have a2 := (HBR.out.cell (p := ⟨bA, oA + k * 4 + 2, none⟩) hbA).trans a2
    have a3 := (HBR.out.cell (p := ⟨bA, oA + k * 4 + 3, none⟩) hbA).trans a3
    simp only [strV] at a0 a1 a2 a3
    obtain ⟨bB, oB, rfl, hbB, hcaB⟩ := HB.out.at_ hy
    obtain ⟨uB0, b0, gB0⟩ := hcaB 0 _ rfl
    obtain rfl := gB0.leaf_eq
    obtain ⟨uB1, b1, gB1⟩ := hcaB 1 _ rfl
    obtain rfl := gB1.leaf_eq
    obtain ⟨uB2, b2, gB2⟩ := hcaB 2 _ rfl
    obtain rfl := gB2.leaf_eq
    obtain ⟨uB3, b3, gB3⟩ := hcaB 3 _ rfl
    obtain rfl := gB3.leaf_eq
    clear hcaB
    have b0 := (HBR.out.cell (p := ⟨bB, oB + k * 4, none⟩) hbB).trans b0
    have b1 := (HBR.out.cell (p := ⟨bB, oB + k * 4 + 1, none⟩) hbB).trans b1
    have b2 := (HBR.out.cell (p := ⟨bB, oB + k * 4 + 2, none⟩) hbB).trans b2
    have b3 := (HBR.out.cell (p := ⟨bB, oB + k * 4 + 3, none⟩) hbB).trans b3
    simp only [strV] at b0 b1 b2 b3
    have k0 : (0 : Int) ≤ (k : Int) ∧ (k : Int) < ((l.length : Nat) : Int) := by omega
    have HX := hide hx
    have HY := hide hy
    clear hx hy hlt2
    obtain ⟨x_a, x_va, x_b, x_vb⟩ := x
    obtain ⟨y_a, y_va, y_b, y_vb⟩ := y
    dsimp only at a0 b0 a1 b1 a2 b2 a3 b3
    by_cases e_ : x_a = y_a
    rotate_left
    · as_aux_lemma =>
        have HNE := hide e_
        have hne1 := bytes_ne e_
        have hne2 := list_ne e_
        clear e_
        go_wp2_with fail
        go_quiet (fail)
        go_wp2_with fail
        go_ret
        exact ⟨false, rfl, ⟨(fun h => by cases h), fun h_ => absurd (by have h := HX.out; rw [h_, HY.out] at h; exact (congrArg (fun z_ : VerD => z_.a) (Option.some.inj h)).symm) HNE.out⟩, belowDN HBR.out _⟩
    subst e_
    by_cases e_ : x_va = y_va
    rotate_left
    · as_aux_lemma =>
        have HNE := hide e_
        have hne1 := int_ne e_
        go_wp2_with fail
        go_quiet (fail)
        go_wp2_with fail
        go_ret
        exact ⟨false, rfl, ⟨(fun h => by cases h), fun h_ => absurd (by have h := HX.out; rw [h_, HY.out] at h; exact (congrArg (fun z_ : VerD => z_.va) (Option.some.inj h)).symm) HNE.out⟩, belowDN HBR.out _⟩
    subst e_
    by_cases e_ : x_b = y_b
    rotate_left
    · as_aux_lemma =>
        have HNE := hide e_
        have hne1 := bytes_ne e_
        have hne2 := list_ne e_
        clear e_
        go_wp2_with fail
        go_quiet (fail)
        go_wp2_with fail
        go_ret
        exact ⟨false, rfl, ⟨(fun h => by cases h), fun h_ => absurd (by have h := HX.out; rw [h_, HY.out] at h; exact (congrArg (fun z_ : VerD => z_.b) (Option.some.inj h)).symm) HNE.out⟩, belowDN HBR.out _⟩
    subst e_
    by_cases e_ : x_vb = y_vb
    rotate_left
    · as_aux_lemma =>
        have HNE := hide e_
        have hne1 := int_ne e_
        go_wp2_with fail
        go_quiet (fail)
        go_wp2_with fail
        go_ret
        exact ⟨false, rfl, ⟨(fun h => by cases h), fun h_ => absurd (by have h := HX.out; rw [h_, HY.out] at h; exact (congrArg (fun z_ : VerD => z_.vb) (Option.some.inj h)).symm) HNE.out⟩, belowDN HBR.out _⟩
    subst e_
    go_wp2_with fail
    go_quiet (fail)
    go_wp2_with fail
    go_roundw
    case rel => exact ⟨k + 1, by omega, by go_num, by rw [List.take_add_one, List.take_add_one, HX.out, HY.out, HT.out], belowDN HBR.out _⟩
    case measure => simp [intOf]; omega
end Go.Proofs.YtgbfaompondolaaGreatDoor
