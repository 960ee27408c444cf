/-
  nacellekit.SameInss: yes if and only if the code is equal (printed by tools/mkks.py).
-/
import Derived.Test.YtndpnpohdoggjaaGreatDoorPk15
namespace Go.Proofs.YtndpnpohdoggjaaGreatDoor
open Go.RowKit
attribute [local go_sem] Later.cell
theorem bytes_ne {a b : List UInt8} (h : a ≠ b) : ((⟨a.toArray⟩ : ByteArray) == ⟨b.toArray⟩) = false := by
  show (a.toArray == b.toArray) = false
  simpa using h
theorem list_ne {a b : List UInt8} (h : a ≠ b) : (a == b) = false := by simpa using h
theorem int_ne {a b : Int} (h : a ≠ b) : (a == b) = false := by simpa using h
theorem nat_ne {a b : Nat} (h : a ≠ b) : ((a : Int) == (b : Int)) = false := by simpa using (by omega : (a : Int) ≠ b)
theorem bool_ne {a b : Bool} (h : a ≠ b) : (a == b) = false := by simpa using h
def SayQ (p : Prop) (B : Nat) (W : World) (e : Ending) (w' : World) : Prop := ∃ z, e = .returned (.bool z) ∧ (z = true ↔ p) ∧ Below B W w'
theorem SayQ.mk {p : Prop} {B : Nat} {W : World} {e : Ending} {w' : World} (z : Bool) (he : e = .returned (.bool z)) (hz : z = true ↔ p) (hb : Below B W w') : SayQ p B W e w' := ⟨z, he, hz, hb⟩
theorem naf1 {p1 : Prop} (h : ¬ p1) : ¬ p1 := h
theorem naf2 {p1 p2 : Prop} (h : ¬ (p1 ∧ p2)) : (¬ p1) ∨ (p1 ∧ ¬ p2) := by
  by_cases h1 : p1
  · rcases naf1 (fun h2 => h ⟨h1, h2⟩) with k
    · exact .inr ((⟨h1, k⟩))
  · exact .inl h1
theorem naf3 {p1 p2 p3 : Prop} (h : ¬ (p1 ∧ p2 ∧ p3)) : (¬ p1) ∨ (p1 ∧ ¬ p2) ∨ (p1 ∧ p2 ∧ ¬ p3) := by
  by_cases h1 : p1
  · rcases naf2 (fun h2 => h ⟨h1, h2⟩) with k | k
    · exact .inr ((.inl ⟨h1, k⟩))
    · exact .inr (.inr ((⟨h1, k⟩)))
  · exact .inl h1
theorem naf4 {p1 p2 p3 p4 : Prop} (h : ¬ (p1 ∧ p2 ∧ p3 ∧ p4)) : (¬ p1) ∨ (p1 ∧ ¬ p2) ∨ (p1 ∧ p2 ∧ ¬ p3) ∨ (p1 ∧ p2 ∧ p3 ∧ ¬ p4) := by
  by_cases h1 : p1
  · rcases naf3 (fun h2 => h ⟨h1, h2⟩) with k | k | k
    · exact .inr ((.inl ⟨h1, k⟩))
    · exact .inr (.inr ((.inl ⟨h1, k⟩)))
    · exact .inr (.inr (.inr ((⟨h1, k⟩))))
  · exact .inl h1
theorem SayQ.yes {p : Prop} {B : Nat} {W : World} {e : Ending} {w' : World} (hp : p) (h : SayQ p B W e w') : e = .returned (.bool true) ∧ Below B W w' := by
  obtain ⟨z, rfl, hz, hb⟩ := h
  rw [hz.2 hp]
  exact ⟨rfl, hb⟩
set_option maxRecDepth 100000 in
set_option maxHeartbeats 4000000 in
theorem ks_inss (va vb : Value) (l m : List InsD) (W : World) (ha : Hid (DAt W (fun _ => True) va (.row 4 (l.map InsD.cells)))) (hb : Hid (DAt W (fun _ => True) vb (.row 4 (m.map InsD.cells)))) (hn : l.length ≤ 140737488355328) :
    Calls Tryz.prog 7 #[va, vb] W fun e w' => SayQ (l = m) W.heap.size W e w' := by
  obtain ⟨A, c, rfl, hA⟩ := ha.out.slice
  obtain ⟨B, d, rfl, hB⟩ := hb.out.slice
  have HA := hide hA
  have HB := hide hB
  clear hA hB ha hb
  rw [List.length_map]
  rw [List.length_map]
  by_cases hlen : l.length = m.length
  rotate_left
  · have HN := hide hlen
    have hne1 := nat_ne hlen
    clear hlen
    go_enter Tryz.func7, Tryz.ntmps7
    go_wp2_with fail
    go_ret
    exact SayQ.mk false rfl ⟨(fun h => by cases h), fun h => absurd (congrArg List.length h) HN.out⟩ (Below.refl _ _)
  rw [← hlen]
  have HL := hide hlen
  clear hlen
  go_enter Tryz.func7, Tryz.ntmps7
  go_wp2_with fail
  go_loopw [5] (fun v wr => ∃ k : Nat, k ≤ l.length ∧ v = .int .i64 k ∧ l.take k = m.take k ∧ Below W.heap.size W wr) (fun v _ => l.length - (intOf v).toNat)
  case atStart => exact ⟨0, by omega, rfl, rfl, Below.refl _ _⟩
  case round =>
    obtain ⟨k, hk, rfl, ht, hbr⟩ := hrel
    have HBR := hide hbr
    have HT := hide ht
    clear hbr ht
    by_cases hlt : k < l.length
    rotate_left
    · obtain rfl : k = l.length := by omega
      clear hlt
      have HE : Hid (l = m) := hide (by have h := HT.out; rw [List.take_length, HL.out, List.take_length] at h; exact h)
      go_wp2_with fail
      go_ret
      exact SayQ.mk true rfl ⟨fun _ => HE.out, fun _ => rfl⟩ HBR.out
    have hlt2 : k < m.length := by have := HL.out; omega
    obtain ⟨x, hx⟩ : ∃ e_, l[k]? = some e_ := ⟨_, List.getElem?_eq_getElem hlt⟩
    obtain ⟨y, hy⟩ : ∃ e_, m[k]? = some e_ := ⟨_, List.getElem?_eq_getElem hlt2⟩
    obtain ⟨bA, oA, rfl, hbA, hcaA⟩ := HA.out.at_ hx
    have a0 := (HBR.out.cell (p := ⟨bA, oA + k * 4, none⟩) hbA).trans (hcaA 0 _ rfl).leafc
    have a1 := (HBR.out.cell (p := ⟨bA, oA + k * 4 + 1, none⟩) hbA).trans (hcaA 1 _ rfl).leafc
    have a2 := (HBR.out.cell (p := ⟨bA, oA + k * 4 + 2, none⟩) hbA).trans (hcaA 2 _ rfl).leafc
    have a3 := (HBR.out.cell (p := ⟨bA, oA + k * 4 + 3, none⟩) hbA).trans (hcaA 3 _ rfl).leafc
    clear hcaA
    obtain ⟨bB, oB, rfl, hbB, hcaB⟩ := HB.out.at_ hy
    have b0 := (HBR.out.cell (p := ⟨bB, oB + k * 4, none⟩) hbB).trans (hcaB 0 _ rfl).leafc
    have b1 := (HBR.out.cell (p := ⟨bB, oB + k * 4 + 1, none⟩) hbB).trans (hcaB 1 _ rfl).leafc
    have b2 := (HBR.out.cell (p := ⟨bB, oB + k * 4 + 2, none⟩) hbB).trans (hcaB 2 _ rfl).leafc
    have b3 := (HBR.out.cell (p := ⟨bB, oB + k * 4 + 3, none⟩) hbB).trans (hcaB 3 _ rfl).leafc
    clear hcaB
    have k0 : (0 : Int) ≤ (k : Int) ∧ (k : Int) < ((l.length : Nat) : Int) := by omega
    have HXY := hide (show x = y → l.take (k + 1) = m.take (k + 1) from fun h => by rw [List.take_add_one, List.take_add_one, hx, hy, HT.out, h])
    have HNM := hide (show ¬ x = y → ¬ l = m from fun h1 h2 => h1 (by rw [h2, hy] at hx; exact (Option.some.inj hx).symm))
    clear hx hy hlt2
    by_cases hxy : x = y
    · have HE := hide (HXY.out hxy)
      subst hxy
      go_wp2_with fail
      go_quiet (fail)
      go_wp2_with fail
      go_roundw
      case rel => exact ⟨k + 1, by omega, by go_num, HE.out, belowDN HBR.out _⟩
      case measure => simp [intOf]; omega
    have HN := hide (HNM.out hxy)
    clear HXY HNM HA HB HT HL
    obtain ⟨x_op, x_a, x_b, x_c⟩ := x
    obtain ⟨y_op, y_a, y_b, y_c⟩ := y
    dsimp only at a0 b0 a1 b1 a2 b2 a3 b3
    rcases naf4 (fun h : x_op = y_op ∧ x_a = y_a ∧ x_b = y_b ∧ x_c = y_c => hxy (by obtain ⟨rfl, rfl, rfl, rfl⟩ := h; rfl)) with h | ⟨rfl,  h⟩ | ⟨rfl, rfl,  h⟩ | ⟨rfl, rfl, rfl,  h⟩
    all_goals clear hxy
    all_goals
      first
        | (have hne1 := bytes_ne h; have hne2 := list_ne h; clear h)
        | have hne1 := int_ne h
        | (have hne1 := nat_ne h; clear h)
        | (have hne1 := bool_ne h; clear h)
    all_goals
      go_wp2_with fail
      go_quiet (fail)
      go_wp2_with fail
      go_ret
      exact SayQ.mk false rfl ⟨(fun h => by cases h), fun h => absurd h HN.out⟩ (belowDN HBR.out _)
end Go.Proofs.YtndpnpohdoggjaaGreatDoor
