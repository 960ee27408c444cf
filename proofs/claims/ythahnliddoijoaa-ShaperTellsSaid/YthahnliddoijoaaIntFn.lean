/-
  cmp.Less, IsSorted, Equal, inOrder.
-/
import Derived.Test.YthahnliddoijoaaInts
namespace Go.Proofs.Ythahnliddoijoaa
open Go.RowKit
set_option maxRecDepth 100000 in
set_option maxHeartbeats 1000000 in
theorem isNaN_any (x : Int) (w : World) : Calls Try.prog 56 #[.int .i64 x] w fun e w' => e = .returned (.bool false) ∧ w = w' := by
  go_enter Try.func56, Try.ntmps56
  go_wp2_with fail
  go_ret
  exact ⟨rfl, rfl⟩
set_option maxRecDepth 100000 in
set_option maxHeartbeats 1000000 in
theorem less_any (x y : Int) (w : World) : Calls Try.prog 53 #[.int .i64 x, .int .i64 y] w fun e w' => e = .returned (.bool (decide (x < y))) ∧ w' = w := by
  go_enter Try.func53, Try.ntmps53
  go_wp2_with (go_at_call 56; refine (isNaN_any _ _).mono ?_; rintro e w' ⟨rfl, rfl⟩)
  go_ret
  exact ⟨rfl, rfl⟩
def sortedB (zs : List Int) : Bool := (List.range (zs.length - 1)).all fun i => decide (zs.getD i 0 ≤ zs.getD (i + 1) 0)
theorem sortedB_true {zs : List Int} (h : ∀ i : Nat, i + 1 < zs.length → zs.getD i 0 ≤ zs.getD (i + 1) 0) : sortedB zs = true := by
  unfold sortedB; rw [List.all_eq_true]; intro i hi; rw [List.mem_range] at hi; simpa using h i (by omega)
theorem sortedB_false {zs : List Int} (i : Nat) (hi : i + 1 < zs.length) (h : zs.getD (i + 1) 0 < zs.getD i 0) : sortedB zs = false := by
  unfold sortedB
  rw [List.all_eq_false]
  exact ⟨i, by rw [List.mem_range]; omega, by rw [decide_eq_true_eq]; omega⟩
theorem sortedB_at {zs : List Int} (h : sortedB zs = true) (i : Nat) (hi : i + 1 < zs.length) : zs.getD i 0 ≤ zs.getD (i + 1) 0 := by
  unfold sortedB at h
  rw [List.all_eq_true] at h
  simpa using h i (by rw [List.mem_range]; omega)
set_option maxRecDepth 100000 in
set_option maxHeartbeats 1000000 in
theorem isSorted_any (A : Option Addr) (n cap : Nat) (zs : List Int) (F : Nat → Prop) (w : World) (hn : n ≤ 9223372036854775807) (h : Hid (Ints w A n zs F)) :
    Calls Try.prog 46 #[.slice A n cap] w fun e w' => e = .returned (.bool (sortedB zs)) ∧ ∃ d, w' = w.drewN d := by
  go_enter Try.func46, Try.ntmps46
  go_wp2_with fail
  go_loopw [3] (fun v3 wr => ∃ z : Int, -1 ≤ z ∧ z < n ∧ v3 = .int .i64 z ∧ (∀ i : Nat, z ≤ i → i + 1 < n → zs.getD i 0 ≤ zs.getD (i + 1) 0) ∧ ∃ d, wr = w.drewN d) (fun v3 _ => (intOf v3).toNat)
  case atStart => exact ⟨_, by omega, by omega, rfl, fun i h1 h2 => by omega, 0, rfl⟩
  case round =>
    obtain ⟨z, hz, hzn, rfl, hs, d, rfl⟩ := hrel
    have HS := hide hs
    clear hs
    by_cases hlt : 0 < z
    · obtain ⟨b, off, hA, -⟩ := h.out.2 (by omega)
      subst hA
      obtain ⟨k, rfl⟩ : ∃ k : Nat, z = (k : Int) + 1 := ⟨(z - 1).toNat, by omega⟩
      have hc1 := ((h.out.drewN d).cell rfl (i := k + 1) (by omega))
      have hc0 := ((h.out.drewN d).cell rfl (i := k) (by omega))
      have hk0 : (0 : Int) ≤ (k : Int) + 1 := by omega
      have hk1 : (k : Int) + 1 < (n : Int) := by omega
      have hk2 : (0 : Int) ≤ (k : Int) := by omega
      have hk3 : (k : Int) < (n : Int) := by omega
      have s1 : IntKind.i64.wrap ((k : Int) + 1 - 1) = (k : Int) := by rw [show (k : Int) + 1 - 1 = k from by omega]; apply IntWalk.i64_in <;> omega
      have s0 : IntKind.i64.wrap (k : Int) = (k : Int) := by apply IntWalk.i64_in <;> omega
      have s2 : ((k : Int) + 1).toNat = k + 1 := by omega
      have HL := hide (fun w => less_any (zs.getD (k + 1) 0) (zs.getD k 0) w)
      generalize hx : zs.getD (k + 1) 0 = x at *
      generalize hy : zs.getD k 0 = y at *
      have HX := hide hx
      have HY := hide hy
      clear hx hy
      generalize hW : w.drewN d = W at *
      have HWW := hide hW
      clear hW
      go_wp2_with fail
      go_quiet ((go_at_call 53; exact Calls.quiet_of_same (HL.out _)))
      by_cases hxy : x < y
      · have HF : Hid (sortedB zs = false) := sortedB_false k (by rw [h.out.1]; omega) (by rw [HX.out, HY.out]; exact hxy)
        go_wp2_with fail
        go_ret
        exact ⟨by rw [HF.out]; rfl, _, by rw [← HWW.out]; exact World.drewN_drewN _ _ _⟩
      · go_wp2_with fail
        go_roundw
        case rel => exact ⟨k, by omega, by omega, rfl, fun i h1 h2 => by
          by_cases hi : i = k
          · subst hi; rw [HX.out, HY.out]; exact (by omega : y ≤ x)
          · exact HS.out i (by omega) h2, _, by rw [← HWW.out]; exact World.drewN_drewN _ _ _⟩
        case measure => simp [intOf] <;> omega
    · have HT : Hid (sortedB zs = true) := sortedB_true fun i hi => HS.out i (by omega) (by rw [← h.out.1]; exact hi)
      go_wp2_with fail
      go_ret
      exact ⟨by rw [HT.out]; rfl, _, rfl⟩
def orderB (zs : List Int) : Bool := sortedB zs && !zs.any badT
set_option maxRecDepth 100000 in
set_option maxHeartbeats 1000000 in
theorem inOrder_any (A : Option Addr) (n cap : Nat) (zs : List Int) (F : Nat → Prop) (w : World) (hn : n ≤ 9223372036854775807) (h : Hid (Ints w A n zs F)) :
    Calls Try.prog 31 #[.slice A n cap] w fun e w' => e = .returned (.bool (orderB zs)) ∧ ∃ d, w' = w.drewN d := by
  have HO : Hid (orderB zs = (sortedB zs && !zs.any badT)) := rfl
  have H1 := hide (isSorted_any A n cap zs F w hn h)
  have H2 := hide (fun d => contains_badT A n cap zs F (w.drewN d) hn (hide (h.out.drewN d)))
  cases hs : sortedB zs
  · rw [hs] at H1 HO
    go_enter Try.func31, Try.ntmps31
    go_wp2_with fail
    refine H1.out.mono ?_
    rintro e w1 ⟨rfl, d, rfl⟩
    go_wp2_with fail
    go_ret
    exact ⟨by rw [HO.out]; rfl, _, rfl⟩
  · rw [hs] at H1 HO
    go_enter Try.func31, Try.ntmps31
    go_wp2_with fail
    refine H1.out.mono ?_
    rintro e w1 ⟨rfl, d, rfl⟩
    go_wp2_with fail
    refine (H2.out d).mono ?_
    rintro e w1 ⟨rfl, rfl⟩
    go_wp2_with fail
    go_ret
    exact ⟨by rw [HO.out]; simp, _, rfl⟩
end Go.Proofs.Ythahnliddoijoaa
