/-
  nacellekit: KeptInss.
-/
import Derived.Test.YtgbfaompondolaaGreatDoorFLu
namespace Go.Proofs.YtgbfaompondolaaGreatDoor
open Go.RowKit
attribute [local go_sem] Later.cell
theorem own4_at {w : World} {B e g n c k r : Nat} {l : List InsD} {x : InsD} {u : Value} (h : w.ownsRow B e 4 (.slice (some ⟨g, 0, none⟩) n c) n (insR l)) (hk : k < n) (hx : l[k]? = some x) (hr : r < 4) (hu : (insVs x)[r]? = some u) : w.cell? ⟨g, k * 4 + r, none⟩ = some u := by
  rw [h.cellAt (k * 4 + r) (by omega)]
  have e := flat_at (size := 4) (l.map insVs) (fun e he => by obtain ⟨x, _, rfl⟩ := List.mem_map.1 he; rfl) k r (insVs x) (by rw [List.getElem?_map, hx]; rfl) hr
  exact e.trans hu
theorem insMs_at {n k : Nat} (h : k < n) : (insMs n)[k]? = some (insM (k : Int)) := by
  unfold insMs
  rw [List.getElem?_map, List.getElem?_range h]
  rfl
set_option maxRecDepth 100000 in
set_option maxHeartbeats 4000000 in
theorem keptInss_any (v : Value) (B g c : Nat) (l : List InsD) (w : World) (hv : Hid (DAt w (fun _ => True) v (.row 4 (l.map InsD.cells)))) (hn : l.length ≤ 1000000)
    (ho : Hid (w.ownsRow B 78 4 (.slice (some ⟨g, 0, none⟩) (l.length + 12) c) (l.length + 12) (insR (l ++ insMs 12)))) :
    Calls Tryz.prog 24 #[.slice (some ⟨g, 0, none⟩) l.length c, v] w fun e w' => e = .returned (.bool true) ∧ Below w.heap.size w w' := by
  have hcc : l.length + 12 ≤ c ∧ c ≤ maxLen := by
    rcases ho.out.2 with ⟨-, h0⟩ | ⟨g', c', cur, hv', hbg, hh, hc1, hc2, -⟩
    · omega
    · injection hv' with e1 e2 e3
      subst e3
      exact ⟨hc1, hc2⟩
  obtain ⟨hc1, hc2⟩ := hcc
  unfold maxLen at hc2
  obtain ⟨A, q, rfl, hA⟩ := hv.out.slice
  have HA := hide hA
  have hgl : g < w.heap.size := (own_lt ho.out rfl).2
  clear hA hv
  rw [List.length_map]
  have hnn : ((l.length : Int) != (l.length : Int)) = false := by simp
  go_enter Tryz.func24, Tryz.ntmps24
  go_wp2_with fail
  go_loopw [6] (fun v6 wr => ∃ k : Nat, k ≤ l.length + 12 ∧ v6 = .int .i64 k ∧ Below w.heap.size w wr) (fun v6 _ => l.length + 12 - (intOf v6).toNat)
  case atStart => exact ⟨0, by omega, rfl, Below.refl _ _⟩
  case round =>
    obtain ⟨k, hk, rfl, hbr⟩ := hrel
    have HBR := hide hbr
    clear hbr
    by_cases hlt : k < l.length
    · obtain ⟨x, hx⟩ : ∃ x, l[k]? = some x := ⟨_, List.getElem?_eq_getElem hlt⟩
      obtain ⟨bA, oA, rfl, hbA, hcaA⟩ := HA.out.at_ hx
      obtain ⟨uA0, a0, gA0⟩ := hcaA 0 _ rfl
      obtain rfl := gA0.leaf_eq
      obtain ⟨uA1, a1, gA1⟩ := hcaA 1 _ rfl
      obtain rfl := gA1.leaf_eq
      obtain ⟨uA2, a2, gA2⟩ := hcaA 2 _ rfl
      obtain rfl := gA2.leaf_eq
      obtain ⟨uA3, a3, gA3⟩ := hcaA 3 _ rfl
      obtain rfl := gA3.leaf_eq
      clear hcaA
      have a0 := (HBR.out.cell (p := ⟨bA, oA + k * 4, none⟩) hbA).trans a0
      have a1 := (HBR.out.cell (p := ⟨bA, oA + k * 4 + 1, none⟩) hbA).trans a1
      have a2 := (HBR.out.cell (p := ⟨bA, oA + k * 4 + 2, none⟩) hbA).trans a2
      have a3 := (HBR.out.cell (p := ⟨bA, oA + k * 4 + 3, none⟩) hbA).trans a3
      have hx2 : (l ++ insMs 12)[k]? = some x := by rw [List.getElem?_append_left hlt]; exact hx
      have b0 := (HBR.out.cell (p := ⟨g, k * 4, none⟩) hgl).trans (own4_at (r := 0) ho.out (by omega) hx2 (by omega) rfl)
      have b1 := (HBR.out.cell (p := ⟨g, k * 4 + 1, none⟩) hgl).trans (own4_at (r := 1) ho.out (by omega) hx2 (by omega) rfl)
      have b2 := (HBR.out.cell (p := ⟨g, k * 4 + 2, none⟩) hgl).trans (own4_at (r := 2) ho.out (by omega) hx2 (by omega) rfl)
      have b3 := (HBR.out.cell (p := ⟨g, k * 4 + 3, none⟩) hgl).trans (own4_at (r := 3) ho.out (by omega) hx2 (by omega) rfl)
      clear hx hx2
      have k0 : (0 : Int) ≤ (k : Int) := by omega
      have g2 : decide (l.length ≤ k) = false := by simp; omega
      go_wp2_with fail
      go_quiet (fail)
      go_wp2_with fail
      go_roundw
      case rel => exact ⟨k + 1, by omega, by go_num, HBR.out.trans ⟨rfl, rfl, rfl, Nat.le_refl _, fun _ _ => rfl⟩⟩
      case measure => simp [intOf]; omega
    · by_cases hlt2 : k < l.length + 12
      · have HM := hide (fun W => markIns_any ((k : Int) - l.length) W (by omega) (by omega))
        have hx2 : (l ++ insMs 12)[k]? = some (insM ((k : Int) - l.length)) := by
          rw [List.getElem?_append_right (by omega), insMs_at (by omega), show ((k - l.length : Nat) : Int) = (k : Int) - l.length by omega]
        have hgl2 : g < wr.heap.size := Nat.lt_of_lt_of_le hgl HBR.out.size
        have b0 := (HBR.out.cell (p := ⟨g, k * 4, none⟩) hgl).trans (own4_at (r := 0) ho.out (by omega) hx2 (by omega) rfl)
        have b1 := (HBR.out.cell (p := ⟨g, k * 4 + 1, none⟩) hgl).trans (own4_at (r := 1) ho.out (by omega) hx2 (by omega) rfl)
        have b2 := (HBR.out.cell (p := ⟨g, k * 4 + 2, none⟩) hgl).trans (own4_at (r := 2) ho.out (by omega) hx2 (by omega) rfl)
        have b3 := (HBR.out.cell (p := ⟨g, k * 4 + 3, none⟩) hgl).trans (own4_at (r := 3) ho.out (by omega) hx2 (by omega) rfl)
        simp only [insM] at b0 b1 b2 b3
        generalize mkI 1 ((k : Int) - l.length) = m at *
        clear hx2
        have k0 : (0 : Int) ≤ (k : Int) := by omega
        have g1 : decide (k < l.length) = false := by simp; omega
        have g2 : decide (l.length ≤ k) = true := by simp; omega
        have hin : (k : Int) < ((l.length : Nat) : Int) + 12 := by omega
        go_wp2_with fail
        refine wp_region_later (W := wr) (by kernel_rfl) (by kernel_rfl) ?_
        repeat (go_big_quiet_step ((go_at_call 109; exact Later.call (HM.out _))))
        refine wpQuiet_nil ?_
        rintro _ ⟨s, rfl⟩
        go_wp2_with fail
        go_roundw
        case rel => exact ⟨k + 1, by omega, by go_num, HBR.out.trans (s.below.mono HBR.out.size)⟩
        case measure => simp [intOf]; omega
      · go_wp2_with fail
        go_ret
        exact ⟨rfl, HBR.out⟩
end Go.Proofs.YtgbfaompondolaaGreatDoor
