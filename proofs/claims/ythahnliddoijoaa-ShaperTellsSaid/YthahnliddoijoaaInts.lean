/-
  Slices of integers that are read; isBag, ContainsFunc, IsSorted, Equal.
-/
import Derived.Test.YthahnliddoijoaaKept
namespace Go.Proofs.Ythahnliddoijoaa
open Go.RowKit
/-- The slice at A holds the integers zs, outside of the blocks that F names. -/
def Ints (w : World) (A : Option Addr) (n : Nat) (zs : List Int) (F : Nat → Prop) : Prop :=
  zs.length = n ∧ (0 < n → ∃ b off, A = some ⟨b, off, none⟩ ∧ ¬ F b ∧ b < w.heap.size ∧ ∀ i z, zs[i]? = some z → w.cell? ⟨b, off + i, none⟩ = some (.int .i64 z))
theorem Ints.kept {w w' : World} {A : Option Addr} {n : Nat} {zs : List Int} {F G : Nat → Prop} (h : Ints w A n zs F) (hk : Kept G w w') (hG : ∀ k, G k → F k) : Ints w' A n zs F :=
  ⟨h.1, fun hn => by
    obtain ⟨b, off, h1, h2, h3, h4⟩ := h.2 hn
    exact ⟨b, off, h1, h2, Nat.lt_of_lt_of_le h3 hk.size, fun i z hz => (hk.cell (p := ⟨b, off + i, none⟩) h3 (fun hg => h2 (hG _ hg))).trans (h4 i z hz)⟩⟩
theorem Ints.drewN {w : World} {A : Option Addr} {n : Nat} {zs : List Int} {F : Nat → Prop} (h : Ints w A n zs F) (m : Nat) : Ints (w.drewN m) A n zs F := h
theorem Ints.below {w w' : World} {A : Option Addr} {n : Nat} {zs : List Int} {F : Nat → Prop} (h : Ints w A n zs F) (hk : Below w.heap.size w w') : Ints w' A n zs F := h.kept (G := fun _ => False) (.of_below hk) (fun _ h => h.elim)
theorem Ints.weak {w : World} {A : Option Addr} {n : Nat} {zs : List Int} {F G : Nat → Prop} (h : Ints w A n zs F) (hG : ∀ k, G k → F k) : Ints w A n zs G :=
  ⟨h.1, fun hn => by obtain ⟨b, off, h1, h2, h3⟩ := h.2 hn; exact ⟨b, off, h1, fun hg => h2 (hG _ hg), h3⟩⟩
theorem getD_of {zs : List Int} {i : Nat} (h : i < zs.length) : zs[i]? = some (zs.getD i 0) := by simp [List.getD_eq_getElem?_getD, h]
theorem Ints.cell {w : World} {b off n : Nat} {A : Option Addr} {zs : List Int} {F : Nat → Prop} (h : Ints w A n zs F) (hA : A = some ⟨b, off, none⟩) {i : Nat} (hi : i < n) : w.cell? ⟨b, off + i, none⟩ = some (.int .i64 (zs.getD i 0)) := by
  obtain ⟨b', off', h1, _, _, h4⟩ := h.2 (by omega)
  rw [hA] at h1
  injection h1 with h1
  injection h1 with h1 h2
  subst h1 h2
  exact h4 i _ (getD_of (by rw [h.1]; exact hi))
def bagB (n : Int) : Bool := decide (1 ≤ n) && decide (n ≤ 12800)
def noBagB (n : Int) : Bool := !bagB n
def badT (t : Int) : Bool := decide (t < 0) || decide (1073741824 < t)
set_option maxRecDepth 100000 in
set_option maxHeartbeats 1000000 in
theorem isBag_any (n : Int) (w : World) : Calls Try.prog 22 #[.int .i64 n] w fun e w' => e = .returned (.bool (bagB n)) ∧ w = w' := by
  by_cases h : 1 ≤ n
  · go_enter Try.func22, Try.ntmps22
    go_wp2_with fail
    go_ret
    exact ⟨by simp [bagB, h], rfl⟩
  · have h' : decide (1 ≤ n) = false := by simpa using h
    go_enter Try.func22, Try.ntmps22
    go_wp2_with fail
    go_ret
    exact ⟨by simp [bagB, h]; omega, rfl⟩
theorem noBag_any (n : Int) (w : World) : Calls Try.prog 21 #[.int .i64 n] w fun e w' => e = .returned (.bool (!bagB n)) ∧ w = w' := by
  go_enter Try.func21, Try.ntmps21
  go_wp2_with (go_at_call 22; refine (isBag_any _ _).mono ?_; rintro e w' ⟨rfl, rfl⟩)
  go_ret
  exact ⟨rfl, rfl⟩
theorem badT_any (n : Int) (w : World) : Calls Try.prog 47 #[.int .i64 n] w fun e w' => e = .returned (.bool (badT n)) ∧ w = w' := by
  by_cases h : n < 0
  · go_enter Try.func47, Try.ntmps47
    go_wp2_with fail
    go_ret
    exact ⟨by simp [badT, h], rfl⟩
  · have h' : decide (n < 0) = false := by simpa using h
    go_enter Try.func47, Try.ntmps47
    go_wp2_with fail
    go_ret
    exact ⟨by simp [badT, h]; omega, rfl⟩
def SomeIdx (b : Bool) (w : World) (e : Ending) (w' : World) : Prop := ∃ r : Int, e = .returned (.int .i64 r) ∧ decide (0 ≤ r) = b ∧ w = w'
theorem any_take_succ (p : Int → Bool) (zs : List Int) (k : Nat) (h : k < zs.length) (h0 : (zs.take k).any p = false) : (zs.take (k + 1)).any p = p (zs.getD k 0) := by
  rw [List.take_succ_eq_append_getElem h, List.any_append, h0, List.getD_eq_getElem?_getD, List.getElem?_eq_getElem h]; simp
theorem noBag_at (n : Int) (w : World) : Calls Try.prog 21 #[.int .i64 n] w fun e w' => e = .returned (.bool (noBagB n)) ∧ w = w' := noBag_any n w
theorem badT_at (n : Int) (w : World) : Calls Try.prog 47 #[.int .i64 n] w fun e w' => e = .returned (.bool (badT n)) ∧ w = w' := badT_any n w
set_option maxRecDepth 100000 in
set_option maxHeartbeats 1000000 in
theorem index_noBag (A : Option Addr) (n cap : Nat) (zs : List Int) (F : Nat → Prop) (w : World) (hn : n ≤ 9223372036854775807) (h : Hid (Ints w A n zs F)) :
    Calls Try.prog 41 #[.slice A n cap, .func (.func 21) #[] #[]] w (SomeIdx (zs.any noBagB) w) := by
  go_enter Try.func41, Try.ntmps41
  go_wp2_with fail
  go_loopw [8] (fun v8 wr => ∃ k : Nat, k ≤ n ∧ v8 = .int .i64 k ∧ (zs.take k).any noBagB = false ∧ wr = w) (fun v8 _ => n - (intOf v8).toNat)
  case atStart => exact ⟨0, by omega, rfl, rfl, rfl⟩
  case round =>
    obtain ⟨k, hk, rfl, ha, rfl⟩ := hrel
    have HA := hide ha
    clear ha
    by_cases hlt : k < n
    · obtain ⟨b, off, hA, -⟩ := h.out.2 (by omega)
      subst hA
      have hc := h.out.cell rfl hlt
      have hs := hide (any_take_succ noBagB zs k (by rw [h.out.1]; exact hlt) HA.out)
      have hk0 : (0 : Int) ≤ (k : Int) := by omega
      have hk1 : (k : Int) < (n : Int) := by omega
      cases hp : noBagB (zs.getD k 0)
      · rw [hp] at hs
        have HC := hide (fun w => noBag_at (zs.getD k 0) w)
        rw [hp] at HC
        clear hp
        go_wp2_with (go_at_call 21; refine (HC.out _).mono ?_; rintro e w' ⟨rfl, rfl⟩)
        go_roundw
        case rel => exact ⟨k + 1, by omega, by go_num, hs.out, by trivial⟩
        case measure => simp [intOf]; omega
      · have HC := hide (fun w => noBag_at (zs.getD k 0) w)
        rw [hp] at HC
        have HT : Hid (zs.any noBagB = true) := List.any_eq_true.2 ⟨zs.getD k 0, by rw [List.getD_eq_getElem?_getD, List.getElem?_eq_getElem (by rw [h.out.1]; exact hlt)]; exact List.getElem_mem _, hp⟩
        clear hp
        go_wp2_with (go_at_call 21; refine (HC.out _).mono ?_; rintro e w' ⟨rfl, rfl⟩)
        go_ret
        exact ⟨k, rfl, by rw [HT.out]; simp, rfl⟩
    · have HT : Hid (zs.any noBagB = false) := by have := HA.out; rw [List.take_of_length_le (by rw [h.out.1]; omega)] at this; exact this
      have hge : n ≤ k := by omega
      go_wp2_with fail
      go_ret
      exact ⟨-1, rfl, by rw [HT.out]; rfl, rfl⟩
set_option maxRecDepth 100000 in
set_option maxHeartbeats 1000000 in
theorem contains_noBag (A : Option Addr) (n cap : Nat) (zs : List Int) (F : Nat → Prop) (w : World) (hn : n ≤ 9223372036854775807) (h : Hid (Ints w A n zs F)) :
    Calls Try.prog 20 #[.slice A n cap, .func (.func 21) #[] #[]] w fun e w' => e = .returned (.bool (zs.any noBagB)) ∧ w = w' := by
  go_enter Try.func20, Try.ntmps20
  go_wp2_with fail
  refine (index_noBag A n cap zs F w hn h).mono ?_
  rintro e w1 ⟨r, rfl, hr, rfl⟩
  have HR := hide hr
  clear hr
  go_wp2_with fail
  go_ret
  exact ⟨ret_bool (by rw [← HR.out]), rfl⟩
set_option maxRecDepth 100000 in
set_option maxHeartbeats 1000000 in
theorem index_badT (A : Option Addr) (n cap : Nat) (zs : List Int) (F : Nat → Prop) (w : World) (hn : n ≤ 9223372036854775807) (h : Hid (Ints w A n zs F)) :
    Calls Try.prog 41 #[.slice A n cap, .func (.func 47) #[] #[]] w (SomeIdx (zs.any badT) w) := by
  go_enter Try.func41, Try.ntmps41
  go_wp2_with fail
  go_loopw [8] (fun v8 wr => ∃ k : Nat, k ≤ n ∧ v8 = .int .i64 k ∧ (zs.take k).any badT = false ∧ wr = w) (fun v8 _ => n - (intOf v8).toNat)
  case atStart => exact ⟨0, by omega, rfl, rfl, rfl⟩
  case round =>
    obtain ⟨k, hk, rfl, ha, rfl⟩ := hrel
    have HA := hide ha
    clear ha
    by_cases hlt : k < n
    · obtain ⟨b, off, hA, -⟩ := h.out.2 (by omega)
      subst hA
      have hc := h.out.cell rfl hlt
      have hs := hide (any_take_succ badT zs k (by rw [h.out.1]; exact hlt) HA.out)
      have hk0 : (0 : Int) ≤ (k : Int) := by omega
      have hk1 : (k : Int) < (n : Int) := by omega
      cases hp : badT (zs.getD k 0)
      · rw [hp] at hs
        have HC := hide (fun w => badT_at (zs.getD k 0) w)
        rw [hp] at HC
        clear hp
        go_wp2_with (go_at_call 47; refine (HC.out _).mono ?_; rintro e w' ⟨rfl, rfl⟩)
        go_roundw
        case rel => exact ⟨k + 1, by omega, by go_num, hs.out, by trivial⟩
        case measure => simp [intOf]; omega
      · have HC := hide (fun w => badT_at (zs.getD k 0) w)
        rw [hp] at HC
        have HT : Hid (zs.any badT = true) := List.any_eq_true.2 ⟨zs.getD k 0, by rw [List.getD_eq_getElem?_getD, List.getElem?_eq_getElem (by rw [h.out.1]; exact hlt)]; exact List.getElem_mem _, hp⟩
        clear hp
        go_wp2_with (go_at_call 47; refine (HC.out _).mono ?_; rintro e w' ⟨rfl, rfl⟩)
        go_ret
        exact ⟨k, rfl, by rw [HT.out]; simp, rfl⟩
    · have HT : Hid (zs.any badT = false) := by have := HA.out; rw [List.take_of_length_le (by rw [h.out.1]; omega)] at this; exact this
      have hge : n ≤ k := by omega
      go_wp2_with fail
      go_ret
      exact ⟨-1, rfl, by rw [HT.out]; rfl, rfl⟩
set_option maxRecDepth 100000 in
set_option maxHeartbeats 1000000 in
theorem contains_badT (A : Option Addr) (n cap : Nat) (zs : List Int) (F : Nat → Prop) (w : World) (hn : n ≤ 9223372036854775807) (h : Hid (Ints w A n zs F)) :
    Calls Try.prog 20 #[.slice A n cap, .func (.func 47) #[] #[]] w fun e w' => e = .returned (.bool (zs.any badT)) ∧ w = w' := by
  go_enter Try.func20, Try.ntmps20
  go_wp2_with fail
  refine (index_badT A n cap zs F w hn h).mono ?_
  rintro e w1 ⟨r, rfl, hr, rfl⟩
  have HR := hide hr
  clear hr
  go_wp2_with fail
  go_ret
  exact ⟨ret_bool (by rw [← HR.out]), rfl⟩
end Go.Proofs.Ythahnliddoijoaa
