/-
  nacelleref18: bag, early, Waiting, release.
-/
import Derived.Test.YthahnliddoijoaaKeptO
namespace Go.Proofs.Ythahnliddoijoaa
open Go.RowKit
set_option maxRecDepth 100000 in
set_option maxHeartbeats 400000 in
theorem rbag_any (n : Int) (w : World) : Calls Try.prog 33 #[.int .i64 n] w fun e w' => e = .returned (.bool (bagB n)) ∧ w = w' := by
  have HB : Hid (bagB n = (decide (1 ≤ n) && decide (n ≤ 12800))) := rfl
  by_cases h1 : 1 ≤ n
  · by_cases h2 : n ≤ 12800
    · have HR := hide (show bagB n = true by rw [HB.out]; simp [h1, h2])
      go_enter Try.func33, Try.ntmps33
      go_wp2_with fail
      go_ret
      exact ⟨by rw [HR.out]; rfl, rfl⟩
    · have HR := hide (show bagB n = false by rw [HB.out]; simp [h2])
      have h2' : decide (n ≤ 12800) = false := by simp; omega
      go_enter Try.func33, Try.ntmps33
      go_wp2_with fail
      go_ret
      exact ⟨by rw [HR.out]; rfl, rfl⟩
  · have HR := hide (show bagB n = false by rw [HB.out]; simp [h1])
    have h1' : decide (1 ≤ n) = false := by simp; omega
    go_enter Try.func33, Try.ntmps33
    go_wp2_with fail
    go_ret
    exact ⟨by rw [HR.out]; rfl, rfl⟩
set_option maxRecDepth 100000 in
set_option maxHeartbeats 400000 in
theorem early_any (R : RS) (bA lA iA : Option Addr) (bc lc ic : Nat) (t : Int) (w : World) : Calls Try.prog 49 #[RSV R bA lA iA bc lc ic, .int .i64 t] w fun e w' => e = .returned (.bool (R.late t)) ∧ Below w.heap.size w w' := by
  have HB : Hid (R.late t = (decide (t < R.clock) || decide (1073741824 < t))) := rfl
  unfold RSV
  generalize R.bags.length = nb at *
  generalize R.left.length = nl at *
  generalize R.items.length = ni at *
  generalize R.clock = ck at *
  by_cases h1 : t < ck
  · have HR := hide (show R.late t = true by rw [HB.out]; simp [h1])
    go_enter Try.func49, Try.ntmps49
    go_wp2_with fail
    go_ret
    exact ⟨by rw [HR.out]; rfl, (Below.refl _ _).alloc (Nat.le_refl _) _⟩
  · have HR := hide (show R.late t = decide (1073741824 < t) by rw [HB.out]; simp [h1])
    have h1' : decide (t < ck) = false := by simp; omega
    go_enter Try.func49, Try.ntmps49
    go_wp2_with fail
    go_ret
    exact ⟨by rw [HR.out]; rfl, (Below.refl _ _).alloc (Nat.le_refl _) _⟩
theorem filter_take_succ (p : It → Bool) (l : List It) (k : Nat) (x : It) (h : l[k]? = some x) : ((l.take (k + 1)).filter p).length = ((l.take k).filter p).length + if p x then 1 else 0 := by
  obtain ⟨hk, rfl⟩ := List.getElem?_eq_some_iff.1 h
  rw [List.take_succ_eq_append_getElem hk, List.filter_append, List.length_append]
  by_cases hp : p l[k]
  · rw [List.filter_cons, if_pos hp, if_pos hp]; rfl
  · rw [List.filter_cons, if_neg hp, if_neg hp]; rfl
set_option maxRecDepth 100000 in
set_option maxHeartbeats 1000000 in
theorem rwaiting_any (R : RS) (bA lA iA : Option Addr) (bc lc ic : Nat) (ps : List (It × Value)) (F : Nat → Prop) (vl : Int) (w : World) (h : Hid (RAt w R bA lA iA ps F)) :
    Calls Try.prog 40 #[RSV R bA lA iA bc lc ic, .int .i64 vl] w fun e w' => e = .returned (.int .i64 (R.waiting vl)) ∧ Below w.heap.size w w' := by
  have HN := hide (rfl : R.items.length = R.items.length)
  have few := h.out.few
  have HW : Hid (R.waiting vl = (R.items.filter (isVl vl)).length) := rfl
  have HS := hide (fun k => List.length_filter_le (isVl vl) (R.items.take k))
  unfold RSV
  generalize R.bags.length = nb at *
  generalize R.left.length = nl at *
  generalize R.clock = ck at *
  obtain ⟨ni, hni⟩ : ∃ ni, R.items.length = ni := ⟨_, rfl⟩
  rw [hni] at few ⊢
  have HNI := hide hni
  clear hni HN
  go_enter Try.func40, Try.ntmps40
  go_wp2_with fail
  go_loop [5, 6] (fun v5 v6 => ∃ k : Nat, k ≤ ni ∧ v6 = .int .i64 k ∧ v5 = .int .i64 ((R.items.take k).filter (isVl vl)).length) (fun _ v6 => ni - (intOf v6).toNat)
  case atStart => exact ⟨0, by omega, rfl, by simp⟩
  case round =>
    obtain ⟨k, hk, rfl, rfl⟩ := hrel
    have hcl := HS.out k
    have hcl2 : ((R.items.take k).filter (isVl vl)).length ≤ k := Nat.le_trans hcl (List.length_take_le _ _)
    clear hcl
    by_cases hlt : k < ni
    · have hkl : k < R.items.length := by rw [HNI.out]; exact hlt
      have hx : R.items[k]? = some R.items[k] := List.getElem?_eq_getElem hkl
      have HF := hide (filter_take_succ (isVl vl) R.items k _ hx)
      obtain ⟨d, hp⟩ := h.out.pair hx
      obtain ⟨b, off, hA, -, -, -⟩ := h.out.items.at_ (by rw [HNI.out]; omega)
      obtain ⟨hb, -, hc, -, -, -⟩ := h.out.items.cells hA hp
      subst hA
      generalize R.items[k] = x at *
      simp only at hc
      generalize hcn : ((R.items.take k).filter (isVl vl)).length = cn at *
      have HCN := hide hcn
      clear hx hp hcn hkl
      cases hv : (x.vl == vl)
      · have hpx := hide (show isVl vl x = false from hv)
        go_wp2_with fail
        go_round
        case rel => exact ⟨k + 1, by omega, by go_num, by rw [HF.out, hpx.out]; rfl⟩
        case measure => simp [intOf]; omega
      · have hpx := hide (show isVl vl x = true from hv)
        go_wp2_with fail
        go_round
        case rel => exact ⟨k + 1, by omega, by go_num, by rw [HF.out, hpx.out]; go_num⟩
        case measure => simp [intOf]; omega
    · have HT := hide (show (R.items.take k) = R.items from List.take_of_length_le (by rw [HNI.out]; omega))
      go_wp2_with fail
      go_ret
      exact ⟨by rw [HW.out, HT.out]; rfl, (Below.refl _ _).alloc (Nat.le_refl _) _⟩
end Go.Proofs.Ythahnliddoijoaa
