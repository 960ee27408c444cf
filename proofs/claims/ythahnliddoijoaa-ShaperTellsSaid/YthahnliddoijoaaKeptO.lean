/-
  nacellekit: KeptInts, KeptBytes, OverInts, OverBytes.
-/
import Derived.Test.YthahnliddoijoaaLent
namespace Go.Proofs.Ythahnliddoijoaa
open Go.RowKit
theorem drawn_trans {w a b : World} (h : ∃ d, a = w.drewN d) (k : ∃ d, b = a.drewN d) : ∃ d, b = w.drewN d := by
  obtain ⟨d, rfl⟩ := h
  obtain ⟨e, rfl⟩ := k
  exact ⟨_, World.drewN_drewN _ _ _⟩
theorem drawn_cell {w a : World} (h : ∃ d, a = w.drewN d) (p : Addr) : a.cell? p = w.cell? p := by obtain ⟨d, rfl⟩ := h; rfl
theorem at_own {w : World} {B g n c e k : Nat} {xs : List Value} {v : Value} (h : w.ownsRow B e 1 (.slice (some ⟨g, 0, none⟩) n c) n xs) (hk : k < n) (hv : xs[k]? = some v) : w.cell? ⟨g, k, none⟩ = some v := by
  rw [h.cellAt k (by omega)]; exact hv
set_option maxRecDepth 100000 in
set_option maxHeartbeats 1000000 in
theorem keptInts_any (A : Option Addr) (B n cap g c : Nat) (zs : List Int) (F : Nat → Prop) (w : World) (hn : n ≤ 1000000) (h : Hid (Ints w A n zs F))
    (ho : Hid (w.ownsRow B 3 1 (.slice (some ⟨g, 0, none⟩) (n + 12) c) (n + 12) (ints (zs ++ mks mkI 1 12)))) :
    Calls Try.prog 16 #[.slice (some ⟨g, 0, none⟩) n c, .slice A n cap] w fun e w' => e = .returned (.bool true) ∧ ∃ d, w' = w.drewN d := by
  obtain ⟨g', c', hv, -, -, hc1, hc2⟩ := slice_of_own ho.out (by omega)
  unfold maxLen at hc2
  injection hv with e1 e2 e3
  subst e3
  clear e1 e2
  have hnn : ((n : Int) != (n : Int)) = false := by simp
  go_enter Try.func16, Try.ntmps16
  go_wp2_with fail
  go_loopw [6] (fun v6 wr => ∃ k : Nat, k ≤ n + 12 ∧ v6 = .int .i64 k ∧ ∃ d, wr = w.drewN d) (fun v6 _ => n + 12 - (intOf v6).toNat)
  case atStart => exact ⟨0, by omega, rfl, 0, rfl⟩
  case round =>
    obtain ⟨k, hk, rfl, hdr⟩ := hrel
    have HDR := hide hdr
    by_cases hlt : k < n
    · have hlt2 : k < n + 12 := by omega
      obtain ⟨b, off, hA, -, hb, hc⟩ := h.out.2 (by omega)
      subst hA
      have hz : zs[k]? = some (zs.getD k 0) := getD_of (by have := h.out.1; omega)
      have a1 := (drawn_cell hdr ⟨b, off + k, none⟩).trans (hc k _ hz)
      have a2 := (drawn_cell hdr ⟨g, k, none⟩).trans (at_own ho.out hlt2 (v := .int .i64 (zs.getD k 0)) (by unfold ints; rw [List.getElem?_map, List.getElem?_append_left (by have := h.out.1; omega), hz]; rfl))
      generalize zs.getD k 0 = z at a1 a2
      clear hc hz hdr
      have k0 : (0 : Int) ≤ (k : Int) := by omega
      have g2 : decide (n ≤ k) = false := by simp; omega
      go_wp2_with fail
      go_quiet (fail)
      go_wp2_with fail
      go_roundw
      case rel => exact ⟨k + 1, by omega, by go_num, drawn_trans HDR.out ⟨_, rfl⟩⟩
      case measure => simp [intOf]; omega
    · by_cases hlt2 : k < n + 12
      · have a2 := (drawn_cell hdr ⟨g, k, none⟩).trans (at_own ho.out hlt2 (v := .int .i64 (mkI 1 ((k : Int) - n))) (by unfold ints; rw [List.getElem?_map, List.getElem?_append_right (by have := h.out.1; omega), mks_at mkI 1 (by have := h.out.1; omega)]; simp; congr 1; have := h.out.1; omega))
        have HM := hide (fun w => mark_any 1 ((k : Int) - n) w (by omega) (by omega) (by omega) (by omega))
        generalize mkI 1 ((k : Int) - n) = m at *
        clear hdr
        have k0 : (0 : Int) ≤ (k : Int) := by omega
        have g1 : decide (k < n) = false := by simp; omega
        have g2 : decide (n ≤ k) = true := by simp; omega
        go_wp2_with fail
        go_quiet ((go_at_call 32; exact Calls.quiet_of_same ((HM.out _).mono fun _ _ hh => ⟨hh.1, hh.2.symm⟩)))
        go_wp2_with fail
        go_roundw
        case rel => exact ⟨k + 1, by omega, by go_num, drawn_trans HDR.out ⟨_, rfl⟩⟩
        case measure => simp [intOf]; omega
      · go_wp2_with fail
        go_ret
        exact ⟨rfl, HDR.out⟩
set_option maxRecDepth 100000 in
set_option maxHeartbeats 1000000 in
theorem keptBytes_any (A : Option Addr) (B n cap g c : Nat) (zs : List Int) (F : Nat → Prop) (w : World) (hn : n ≤ 1000000) (h : Hid (Bts w A n zs F))
    (ho : Hid (w.ownsRow B 5 1 (.slice (some ⟨g, 0, none⟩) (n + 12) c) (n + 12) (u8s (zs ++ mks mkB 1 12)))) :
    Calls Try.prog 50 #[.slice (some ⟨g, 0, none⟩) n c, .slice A n cap] w fun e w' => e = .returned (.bool true) ∧ ∃ d, w' = w.drewN d := by
  obtain ⟨g', c', hv, -, -, hc1, hc2⟩ := slice_of_own ho.out (by omega)
  unfold maxLen at hc2
  injection hv with e1 e2 e3
  subst e3
  clear e1 e2
  have hnn : ((n : Int) != (n : Int)) = false := by simp
  go_enter Try.func50, Try.ntmps50
  go_wp2_with fail
  go_loopw [6] (fun v6 wr => ∃ k : Nat, k ≤ n + 12 ∧ v6 = .int .i64 k ∧ ∃ d, wr = w.drewN d) (fun v6 _ => n + 12 - (intOf v6).toNat)
  case atStart => exact ⟨0, by omega, rfl, 0, rfl⟩
  case round =>
    obtain ⟨k, hk, rfl, hdr⟩ := hrel
    have HDR := hide hdr
    by_cases hlt : k < n
    · have hlt2 : k < n + 12 := by omega
      obtain ⟨b, off, hA, -, hb, hc⟩ := h.out.2 (by omega)
      subst hA
      have hz : zs[k]? = some (zs.getD k 0) := getD_of (by have := h.out.1; omega)
      have a1 := (drawn_cell hdr ⟨b, off + k, none⟩).trans (hc k _ hz)
      have a2 := (drawn_cell hdr ⟨g, k, none⟩).trans (at_own ho.out hlt2 (v := .int .u8 (zs.getD k 0)) (by unfold u8s; rw [List.getElem?_map, List.getElem?_append_left (by have := h.out.1; omega), hz]; rfl))
      generalize zs.getD k 0 = z at a1 a2
      clear hc hz hdr
      have k0 : (0 : Int) ≤ (k : Int) := by omega
      have g2 : decide (n ≤ k) = false := by simp; omega
      go_wp2_with fail
      go_quiet (fail)
      go_wp2_with fail
      go_roundw
      case rel => exact ⟨k + 1, by omega, by go_num, drawn_trans HDR.out ⟨_, rfl⟩⟩
      case measure => simp [intOf]; omega
    · by_cases hlt2 : k < n + 12
      · have a2 := (drawn_cell hdr ⟨g, k, none⟩).trans (at_own ho.out hlt2 (v := .int .u8 (mkB 1 ((k : Int) - n))) (by unfold u8s; rw [List.getElem?_map, List.getElem?_append_right (by have := h.out.1; omega), mks_at mkB 1 (by have := h.out.1; omega)]; simp; congr 1; have := h.out.1; omega))
        have HM := hide (fun w => markByte_any 1 ((k : Int) - n) w (by omega) (by omega) (by omega) (by omega))
        generalize mkB 1 ((k : Int) - n) = m at *
        clear hdr
        have k0 : (0 : Int) ≤ (k : Int) := by omega
        have g1 : decide (k < n) = false := by simp; omega
        have g2 : decide (n ≤ k) = true := by simp; omega
        go_wp2_with fail
        go_quiet ((go_at_call 54; exact Calls.quiet_of_same ((HM.out _).mono fun _ _ hh => ⟨hh.1, hh.2.symm⟩)))
        go_wp2_with fail
        go_roundw
        case rel => exact ⟨k + 1, by omega, by go_num, drawn_trans HDR.out ⟨_, rfl⟩⟩
        case measure => simp [intOf]; omega
      · go_wp2_with fail
        go_ret
        exact ⟨rfl, HDR.out⟩
set_option maxRecDepth 100000 in
set_option maxHeartbeats 1000000 in
theorem overInts_le (n c g : Nat) (cur : Array Value) (w : World) (hn : n ≤ 1000000) (hc : c ≤ 9223372036854775807) (hnc : n ≤ c) (hM : c ≤ n + 12) (hb : Hid (w.heap[g]? = some (.cells cur 3 (0, 0)))) (hs : c ≤ cur.size) :
    Calls Try.prog 17 #[.slice (some ⟨g, 0, none⟩) n c] w fun e w' => e = .returned (.tuple #[]) ∧ Kept (· = g) w w' := by
  go_enter Try.func17, Try.ntmps17
  go_wp2_with fail
  go_loopw [3] (fun v3 wr => ∃ k : Nat, k ≤ c ∧ v3 = .int .i64 k ∧ (∃ cu : Array Value, wr.heap[g]? = some (.cells cu 3 (0, 0)) ∧ cu.size = cur.size) ∧ Kept (· = g) w wr) (fun v3 _ => c - (intOf v3).toNat)
  case atStart => exact ⟨0, by omega, rfl, ⟨cur, hb.out, rfl⟩, Kept.refl _ _⟩
  case round =>
    obtain ⟨k, hk, rfl, ⟨cu, hcu, hsz⟩, hkp⟩ := hrel
    by_cases hlt : k < c
    · have HM := hide (fun w => mark_any 2 k w (by omega) (by omega) (by omega) (by omega))
      generalize mkI 2 k = m at HM
      obtain ⟨u, hu⟩ : ∃ u, cu[k]? = some u := ⟨_, Array.getElem?_eq_getElem (by omega)⟩
      have a1 := (cell_of_row wr g k _ _ _ hcu).trans hu
      have a2 := frozen_of_row wr g k _ _ hcu
      have HC := hide (heap_setCell_same wr g k cu 3 (.int .i64 m) hcu)
      have HK := hide (hkp.setCell (p := ⟨g, k, none⟩) (.inl rfl) (.int .i64 m))
      have HS := hide hsz
      clear hcu hkp hsz hu
      go_wp2_with (go_at_call 32; refine (HM.out _).mono ?_; rintro e w' ⟨rfl, rfl⟩)
      go_roundw
      case rel => exact ⟨k + 1, by omega, by go_num, ⟨_, HC.out, by rw [Array.size_setIfInBounds]; exact HS.out⟩, HK.out⟩
      case measure => simp [intOf]; omega
    · have HK := hide hkp
      clear hcu hkp hsz
      go_wp2_with fail
      go_end0
      exact ⟨rfl, HK.out⟩
set_option maxRecDepth 100000 in
set_option maxHeartbeats 1000000 in
theorem overInts_gt (n c g : Nat) (cur : Array Value) (w : World) (hn : n ≤ 1000000) (hc : c ≤ 9223372036854775807) (hnc : n ≤ c) (hM : n + 12 < c) (hb : Hid (w.heap[g]? = some (.cells cur 3 (0, 0)))) (hs : (n + 12) ≤ cur.size) :
    Calls Try.prog 17 #[.slice (some ⟨g, 0, none⟩) n c] w fun e w' => e = .returned (.tuple #[]) ∧ Kept (· = g) w w' := by
  go_enter Try.func17, Try.ntmps17
  go_wp2_with fail
  go_loopw [3] (fun v3 wr => ∃ k : Nat, k ≤ (n + 12) ∧ v3 = .int .i64 k ∧ (∃ cu : Array Value, wr.heap[g]? = some (.cells cu 3 (0, 0)) ∧ cu.size = cur.size) ∧ Kept (· = g) w wr) (fun v3 _ => (n + 12) - (intOf v3).toNat)
  case atStart => exact ⟨0, by omega, rfl, ⟨cur, hb.out, rfl⟩, Kept.refl _ _⟩
  case round =>
    obtain ⟨k, hk, rfl, ⟨cu, hcu, hsz⟩, hkp⟩ := hrel
    by_cases hlt : k < (n + 12)
    · have HM := hide (fun w => mark_any 2 k w (by omega) (by omega) (by omega) (by omega))
      generalize mkI 2 k = m at HM
      obtain ⟨u, hu⟩ : ∃ u, cu[k]? = some u := ⟨_, Array.getElem?_eq_getElem (by omega)⟩
      have a1 := (cell_of_row wr g k _ _ _ hcu).trans hu
      have a2 := frozen_of_row wr g k _ _ hcu
      have HC := hide (heap_setCell_same wr g k cu 3 (.int .i64 m) hcu)
      have HK := hide (hkp.setCell (p := ⟨g, k, none⟩) (.inl rfl) (.int .i64 m))
      have HS := hide hsz
      clear hcu hkp hsz hu
      go_wp2_with (go_at_call 32; refine (HM.out _).mono ?_; rintro e w' ⟨rfl, rfl⟩)
      go_roundw
      case rel => exact ⟨k + 1, by omega, by go_num, ⟨_, HC.out, by rw [Array.size_setIfInBounds]; exact HS.out⟩, HK.out⟩
      case measure => simp [intOf]; omega
    · have HK := hide hkp
      clear hcu hkp hsz
      go_wp2_with fail
      go_end0
      exact ⟨rfl, HK.out⟩
set_option maxRecDepth 100000 in
set_option maxHeartbeats 1000000 in
theorem overInts_nil (w : World) : Calls Try.prog 17 #[.slice none 0 0] w fun e w' => e = .returned (.tuple #[]) ∧ Kept (fun _ => False) w w' := by
  go_enter Try.func17, Try.ntmps17
  go_wp2_with fail
  go_loopw [3] (fun v3 wr => v3 = .int .i64 0 ∧ Kept (fun _ => False) w wr) (fun v3 _ => 0 - (intOf v3).toNat)
  case atStart => exact ⟨rfl, Kept.refl _ _⟩
  case round =>
    obtain ⟨rfl, hkp⟩ := hrel
    go_wp2_with fail
    go_end0
    exact ⟨rfl, hkp⟩
set_option maxRecDepth 100000 in
set_option maxHeartbeats 1000000 in
theorem overBytes_le (n c g : Nat) (cur : Array Value) (w : World) (hn : n ≤ 1000000) (hc : c ≤ 9223372036854775807) (hnc : n ≤ c) (hM : c ≤ n + 12) (hb : Hid (w.heap[g]? = some (.cells cur 5 (0, 0)))) (hs : c ≤ cur.size) :
    Calls Try.prog 51 #[.slice (some ⟨g, 0, none⟩) n c] w fun e w' => e = .returned (.tuple #[]) ∧ Kept (· = g) w w' := by
  go_enter Try.func51, Try.ntmps51
  go_wp2_with fail
  go_loopw [3] (fun v3 wr => ∃ k : Nat, k ≤ c ∧ v3 = .int .i64 k ∧ (∃ cu : Array Value, wr.heap[g]? = some (.cells cu 5 (0, 0)) ∧ cu.size = cur.size) ∧ Kept (· = g) w wr) (fun v3 _ => c - (intOf v3).toNat)
  case atStart => exact ⟨0, by omega, rfl, ⟨cur, hb.out, rfl⟩, Kept.refl _ _⟩
  case round =>
    obtain ⟨k, hk, rfl, ⟨cu, hcu, hsz⟩, hkp⟩ := hrel
    by_cases hlt : k < c
    · have HM := hide (fun w => markByte_any 2 k w (by omega) (by omega) (by omega) (by omega))
      generalize mkB 2 k = m at HM
      obtain ⟨u, hu⟩ : ∃ u, cu[k]? = some u := ⟨_, Array.getElem?_eq_getElem (by omega)⟩
      have a1 := (cell_of_row wr g k _ _ _ hcu).trans hu
      have a2 := frozen_of_row wr g k _ _ hcu
      have HC := hide (heap_setCell_same wr g k cu 5 (.int .u8 m) hcu)
      have HK := hide (hkp.setCell (p := ⟨g, k, none⟩) (.inl rfl) (.int .u8 m))
      have HS := hide hsz
      clear hcu hkp hsz hu
      go_wp2_with (go_at_call 54; refine (HM.out _).mono ?_; rintro e w' ⟨rfl, rfl⟩)
      go_roundw
      case rel => exact ⟨k + 1, by omega, by go_num, ⟨_, HC.out, by rw [Array.size_setIfInBounds]; exact HS.out⟩, HK.out⟩
      case measure => simp [intOf]; omega
    · have HK := hide hkp
      clear hcu hkp hsz
      go_wp2_with fail
      go_end0
      exact ⟨rfl, HK.out⟩
set_option maxRecDepth 100000 in
set_option maxHeartbeats 1000000 in
theorem overBytes_gt (n c g : Nat) (cur : Array Value) (w : World) (hn : n ≤ 1000000) (hc : c ≤ 9223372036854775807) (hnc : n ≤ c) (hM : n + 12 < c) (hb : Hid (w.heap[g]? = some (.cells cur 5 (0, 0)))) (hs : (n + 12) ≤ cur.size) :
    Calls Try.prog 51 #[.slice (some ⟨g, 0, none⟩) n c] w fun e w' => e = .returned (.tuple #[]) ∧ Kept (· = g) w w' := by
  go_enter Try.func51, Try.ntmps51
  go_wp2_with fail
  go_loopw [3] (fun v3 wr => ∃ k : Nat, k ≤ (n + 12) ∧ v3 = .int .i64 k ∧ (∃ cu : Array Value, wr.heap[g]? = some (.cells cu 5 (0, 0)) ∧ cu.size = cur.size) ∧ Kept (· = g) w wr) (fun v3 _ => (n + 12) - (intOf v3).toNat)
  case atStart => exact ⟨0, by omega, rfl, ⟨cur, hb.out, rfl⟩, Kept.refl _ _⟩
  case round =>
    obtain ⟨k, hk, rfl, ⟨cu, hcu, hsz⟩, hkp⟩ := hrel
    by_cases hlt : k < (n + 12)
    · have HM := hide (fun w => markByte_any 2 k w (by omega) (by omega) (by omega) (by omega))
      generalize mkB 2 k = m at HM
      obtain ⟨u, hu⟩ : ∃ u, cu[k]? = some u := ⟨_, Array.getElem?_eq_getElem (by omega)⟩
      have a1 := (cell_of_row wr g k _ _ _ hcu).trans hu
      have a2 := frozen_of_row wr g k _ _ hcu
      have HC := hide (heap_setCell_same wr g k cu 5 (.int .u8 m) hcu)
      have HK := hide (hkp.setCell (p := ⟨g, k, none⟩) (.inl rfl) (.int .u8 m))
      have HS := hide hsz
      clear hcu hkp hsz hu
      go_wp2_with (go_at_call 54; refine (HM.out _).mono ?_; rintro e w' ⟨rfl, rfl⟩)
      go_roundw
      case rel => exact ⟨k + 1, by omega, by go_num, ⟨_, HC.out, by rw [Array.size_setIfInBounds]; exact HS.out⟩, HK.out⟩
      case measure => simp [intOf]; omega
    · have HK := hide hkp
      clear hcu hkp hsz
      go_wp2_with fail
      go_end0
      exact ⟨rfl, HK.out⟩
set_option maxRecDepth 100000 in
set_option maxHeartbeats 1000000 in
theorem overBytes_nil (w : World) : Calls Try.prog 51 #[.slice none 0 0] w fun e w' => e = .returned (.tuple #[]) ∧ Kept (fun _ => False) w w' := by
  go_enter Try.func51, Try.ntmps51
  go_wp2_with fail
  go_loopw [3] (fun v3 wr => v3 = .int .i64 0 ∧ Kept (fun _ => False) w wr) (fun v3 _ => 0 - (intOf v3).toNat)
  case atStart => exact ⟨rfl, Kept.refl _ _⟩
  case round =>
    obtain ⟨rfl, hkp⟩ := hrel
    go_wp2_with fail
    go_end0
    exact ⟨rfl, hkp⟩
end Go.Proofs.Ythahnliddoijoaa
