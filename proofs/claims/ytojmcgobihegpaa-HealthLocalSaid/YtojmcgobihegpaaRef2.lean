/-
  The reference of layer 28: contracts, more.
-/
import Derived.Test.YtojmcgobihegpaaRef1
namespace Go.Proofs.Ytojmcgobihegpaa
open Go.RowKit
set_option maxHeartbeats 800000 in
theorem rvalid_any (r : HRow) (w : World) :
    Calls Try.prog 19 #[r.val] w fun e w' => e = .returned (.bool (validB r)) ∧ w' = w.alloc (.cells r.cells 36) := by
  obtain ⟨m, p, f, l, d⟩ := r
  have HV := hide (show validB ⟨m, p, f, l, d⟩ = (fitsB f l d && (!modularB f || p.toList.isEmpty)) from rfl)
  unfold HRow.val HRow.cells
  simp only
  cases hf : fitsB f l d
  · go_enter Try.func19, Try.ntmps19
    go_wp2_with (go_at_call 17; refine (rfits_any _ _ _ _).mono ?_; rintro e w' ⟨rfl, rfl⟩)
    go_ret
    exact ⟨ret_bool (by rw [HV.out, hf]; rfl), rfl⟩
  · by_cases h6 : f < 6
    · go_enter Try.func19, Try.ntmps19
      go_wp2_with (go_at_call 17; refine (rfits_any _ _ _ _).mono ?_; rintro e w' ⟨rfl, rfl⟩)
      go_ret
      exact ⟨ret_bool (by rw [HV.out, hf]; simp [modularB]; omega), rfl⟩
    · have h6' : decide (f < 6) = false := by simpa using h6
      go_enter Try.func19, Try.ntmps19
      go_wp2_with (go_at_call 17; refine (rfits_any _ _ _ _).mono ?_; rintro e w' ⟨rfl, rfl⟩)
      go_ret
      exact ⟨ret_bool (by rw [HV.out, hf]; simp [modularB]; omega), rfl⟩
set_option maxHeartbeats 1600000 in
theorem rconcerns_any (r : HRow) (m p : ByteArray) (f : Int) (w : World) :
    Calls Try.prog 28 #[r.val, .string m, .string p, .int .u8 f] w fun e w' => e = .returned (.bool (concernsB r m p f)) ∧ Below w.heap.size w w' := by
  have HC := hide (show concernsB r m p f = (validB r && decide (r.f = f) && nameB r.m m && nameB r.p p) from rfl)
  have hva := hide (fun w => rvalid_any r w)
  cases hv : validB r
  · rw [hv] at hva
    obtain ⟨rm, rp, rf, rl, rd⟩ := r
    have HV := hide hv
    clear hv
    unfold HRow.val HRow.cells at *
    simp only at hva ⊢
    go_enter Try.func28, Try.ntmps28
    go_wp2_with (go_at_call 19; refine (hva.out _).mono ?_; rintro e w' ⟨rfl, rfl⟩)
    go_ret
    exact ⟨ret_bool (by rw [HC.out, HV.out]; rfl), by go_grown⟩
  · rw [hv] at hva
    have HV := hide hv
    clear hv
    by_cases hf : r.f = f
    case neg =>
      have HF := hide hf
      have hf' : (r.f == f) = false := by simpa using hf
      clear hf
      obtain ⟨rm, rp, rf, rl, rd⟩ := r
      unfold HRow.val HRow.cells at *
      simp only at hva hf' ⊢
      go_enter Try.func28, Try.ntmps28
      go_wp2_with (go_at_call 19; refine (hva.out _).mono ?_; rintro e w' ⟨rfl, rfl⟩)
      go_ret
      exact ⟨ret_bool (by rw [HC.out, HV.out, decide_eq_false HF.out]; rfl), by go_grown⟩
    case pos =>
      have HF := hide hf
      have hf' : (r.f == f) = true := by simpa using hf
      clear hf
      have H1 := hide (show nameB r.m m = (r.m.toList.isEmpty || r.m.toList == m.toList) from rfl)
      have H2 := hide (show nameB r.p p = (r.p.toList.isEmpty || r.p.toList == p.toList) from rfl)
      obtain ⟨rm, rp, rf, rl, rd⟩ := r
      unfold HRow.val HRow.cells at *
      simp only at hva hf' H1 H2 ⊢
      cases h1 : rm.toList.isEmpty <;> cases h2 : (rm.toList == m.toList) <;> cases h3 : rp.toList.isEmpty
      all_goals
        go_enter Try.func28, Try.ntmps28
        go_wp2_with (go_at_call 19; refine (hva.out _).mono ?_; rintro e w' ⟨rfl, rfl⟩)
        go_ret
        exact ⟨ret_bool (by rw [HC.out, HV.out, decide_eq_true HF.out]; rw [H1.out, H2.out, h1, h2, h3]; rfl), by go_grown⟩
end Go.Proofs.Ytojmcgobihegpaa
