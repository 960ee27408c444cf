/-
  nacellelaw28.concerns and rank: contracts.
-/
import Derived.Test.YtojmcgobihegpaaTells
import Derived.Test.YtojmcgobihegpaaLater
namespace Go.Proofs.Ytojmcgobihegpaa
open Go.RowKit
set_option maxHeartbeats 400000 in
theorem lrank_any (r : HRow) (w : World) :
    Calls Try.prog 21 #[r.val] w fun e w' => e = .returned (.int .i64 (rankZ r)) ∧ Below w.heap.size w w' := by
  obtain ⟨m, p, f, l, d⟩ := r
  have HR := hide (show rankZ ⟨m, p, f, l, d⟩ = (if m.toList.isEmpty then 0 else 2) + (if p.toList.isEmpty then 0 else 1) from rfl)
  unfold HRow.val
  simp only
  cases h1 : m.toList.isEmpty <;> cases h2 : p.toList.isEmpty
  all_goals
    go_enter Try.func21, Try.ntmps21
    go_wp2
    go_ret
    exact ⟨ret_int (by rw [HR.out, h1, h2]; rfl), by go_grown⟩
set_option maxHeartbeats 1600000 in
theorem lconcerns_any (r : HRow) (m p : ByteArray) (f : Int) (w : World) (ho : r.ok) :
    Calls Try.prog 20 #[r.val, .string m, .string p, .int .u8 f] w fun e w' => e = .returned (.bool (concernsB r m p f)) ∧ Below w.heap.size w w' := by
  have HC := hide (show concernsB r m p f = (validB r && decide (r.f = f) && nameB r.m m && nameB r.p p) from rfl)
  have hva := hide (fun w => valid_any r w ho)
  cases hv : validB r
  · rw [hv] at hva
    obtain ⟨rm, rp, rf, rl, rd⟩ := r
    have HV := hide hv
    clear hv
    unfold HRow.val at *
    simp only at hva ⊢
    go_enter Try.func20, Try.ntmps20
    go_wp2_with (go_at_call 18; refine (hva.out _).mono ?_; rintro e w' ⟨rfl, hb1⟩; have y0 := (bcell hb1).1 w.heap.size 0 (by simp); have y1 := (bcell hb1).1 w.heap.size 1 (by simp); have y2 := (bcell hb1).1 w.heap.size 2 (by simp); have y3 := (bcell hb1).1 w.heap.size 3 (by simp); have y4 := (bcell hb1).1 w.heap.size 4 (by simp); simp [go_sem] at y0 y1 y2 y3 y4)
    go_ret
    exact ⟨ret_bool (by rw [HC.out, HV.out]; rfl), ((Below.refl _ _).alloc (Nat.le_refl _) _).trans (hb1.mono (by simp))⟩
  · rw [hv] at hva
    have HV := hide hv
    clear hv
    by_cases hf : r.f = f
    case neg =>
      have HF := hide hf
      have hf' : (r.f == f) = false := by simpa using hf
      clear hf
      obtain ⟨rm, rp, rf, rl, rd⟩ := r
      unfold HRow.val at *
      simp only at hva hf' ⊢
      go_enter Try.func20, Try.ntmps20
      go_wp2_with (go_at_call 18; refine (hva.out _).mono ?_; rintro e w' ⟨rfl, hb1⟩; have y0 := (bcell hb1).1 w.heap.size 0 (by simp); have y1 := (bcell hb1).1 w.heap.size 1 (by simp); have y2 := (bcell hb1).1 w.heap.size 2 (by simp); have y3 := (bcell hb1).1 w.heap.size 3 (by simp); have y4 := (bcell hb1).1 w.heap.size 4 (by simp); simp [go_sem] at y0 y1 y2 y3 y4)
      go_ret
      exact ⟨ret_bool (by rw [HC.out, HV.out, decide_eq_false HF.out]; rfl), ((Below.refl _ _).alloc (Nat.le_refl _) _).trans (hb1.mono (by simp))⟩
    case pos =>
      have HF := hide hf
      have hf' : (r.f == f) = true := by simpa using hf
      clear hf
      have H1 := hide (show nameB r.m m = (r.m.toList.isEmpty || r.m.toList == m.toList) from rfl)
      have H2 := hide (show nameB r.p p = (r.p.toList.isEmpty || r.p.toList == p.toList) from rfl)
      obtain ⟨rm, rp, rf, rl, rd⟩ := r
      unfold HRow.val at *
      simp only at hva hf' H1 H2 ⊢
      cases h1 : rm.toList.isEmpty <;> cases h2 : (rm.toList == m.toList) <;> cases h3 : rp.toList.isEmpty
      all_goals
        go_enter Try.func20, Try.ntmps20
        go_wp2_with (go_at_call 18; refine (hva.out _).mono ?_; rintro e w' ⟨rfl, hb1⟩; have y0 := (bcell hb1).1 w.heap.size 0 (by simp); have y1 := (bcell hb1).1 w.heap.size 1 (by simp); have y2 := (bcell hb1).1 w.heap.size 2 (by simp); have y3 := (bcell hb1).1 w.heap.size 3 (by simp); have y4 := (bcell hb1).1 w.heap.size 4 (by simp); simp [go_sem] at y0 y1 y2 y3 y4)
        go_ret
        exact ⟨ret_bool (by rw [HC.out, HV.out, decide_eq_true HF.out]; rw [H1.out, H2.out, h1, h2, h3]; rfl), ((Below.refl _ _).alloc (Nat.le_refl _) _).trans (hb1.mono (by simp))⟩

theorem dfl_fits (p : ByteArray) (f : Int) (h : badB p f = false) : fitsB f (dflL f) (dflD f) = true := by
  have hk : 1 ≤ f ∧ f ≤ 7 := by unfold badB knownB at h; grind
  have : f = 1 ∨ f = 2 ∨ f = 3 ∨ f = 4 ∨ f = 5 ∨ f = 6 ∨ f = 7 := by omega
  rcases this with rfl | rfl | rfl | rfl | rfl | rfl | rfl <;> rfl
theorem dfl_bd (f : Int) : 0 ≤ dflL f ∧ dflL f ≤ 255 := by unfold dflL; split <;> (try split) <;> omega
theorem concerns_fits {r : HRow} {m p : ByteArray} {f : Int} (h : concernsB r m p f = true) : fitsB f r.l r.d = true := by
  unfold concernsB validB at h
  simp at h
  obtain ⟨⟨⟨⟨h1, _⟩, h2⟩, _⟩, _⟩ := h
  rw [← h2]; exact h1
end Go.Proofs.Ytojmcgobihegpaa
