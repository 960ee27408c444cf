/-
  When, Waiting.
-/
import Derived.Test.YthahnliddoijoaaSh
namespace Go.Proofs.Ythahnliddoijoaa
open Go.RowKit
theorem AS.best_some {S : AS} {k : Nat} (h : S.best = some k) : k < S.qs.length ∧ (S.at k).items ≠ [] := by
  rcases S.bestTo_spec S.qs.length with ⟨h1, _⟩ | ⟨j, h1, hj, hn, _⟩
  · unfold AS.best at h; rw [h1] at h; cases h
  · unfold AS.best at h; rw [h1] at h; injection h with h; subst h; exact ⟨hj, hn⟩
def whenV : Option Int → Value
  | none => .tuple #[.int .i64 0, .bool false]
  | some t => .tuple #[.int .i64 t, .bool true]
set_option maxRecDepth 100000 in
set_option maxHeartbeats 1000000 in
theorem when_any (a : Nat) (S : AS) (P : Nat → Prop) (w : World) (h : Hid (SAt w a S P)) :
    Calls Try.prog 10 #[.pointer (some ⟨a, 0, none⟩)] w fun e w' => e = .returned (whenV S.when) ∧ ∃ d, w' = w.drewN d := by
  obtain ⟨A, b, cap, D, G, hs⟩ := h.out
  obtain ⟨x0, x1, x2, x3⟩ := hs.cells
  have HQ := hide hs.sq
  clear hs h
  cases hb : S.best with
  | none =>
    have HW : Hid (S.when = none) := by unfold AS.when Hid; rw [hb]
    have HB : Hid (ptrOf b S.best = .pointer none) := by rw [hb]; exact rfl
    clear hb
    go_enter Try.func10, Try.ntmps10
    go_wp2_with fail
    refine (best_any a A b _ cap S D _ x1 (hide HQ.out.toQsAt)).mono ?_
    rintro e w1 ⟨rfl, d, rfl⟩
    rw [HB.out]
    go_wp2_with fail
    go_ret2
    exact ⟨by rw [HW.out]; rfl, _, rfl⟩
  | some k =>
    have HW : Hid (S.when = some (if (S.at k).rel < S.now then S.now else (S.at k).rel)) := by unfold AS.when Hid; rw [hb]
    have HB : Hid (ptrOf b S.best = .pointer (some ⟨b, k * 84, none⟩)) := by rw [hb]; exact rfl
    obtain ⟨hk, hne⟩ := AS.best_some hb
    have HN := hide hne
    have hq := hide (HQ.out.cell k hk)
    clear hb hne
    generalize S.now = now at *
    generalize hrr : (S.at k).rel = r at *
    have HR := hide hrr
    clear hrr
    go_enter Try.func10, Try.ntmps10
    go_wp2_with fail
    refine (best_any a A b _ cap S D _ x1 (hide HQ.out.toQsAt)).mono ?_
    rintro e w1 ⟨rfl, d, rfl⟩
    rw [HB.out]
    go_wp2_with fail
    have x0' : (w.drewN d).cell? ⟨a, 0, none⟩ = some (.int .i64 now) := x0
    have hrel := hide (fun n => release_any b (k * 84) (S.at k) (D k) ((w.drewN d).drewN n) ((hq.out.drewN d).drewN n) HN.out)
    rw [HR.out] at hrel
    generalize hW : w.drewN d = W at *
    have HWW := hide hW
    clear hW x0 hq HQ
    go_quiet ((go_at_call 30; exact Calls.quiet_of (hrel.out _)))
    go_wp2_with fail
    all_goals
      go_ret2
      exact ⟨by rw [HW.out]; first | (rw [if_pos (by assumption)]; rfl) | (rw [if_neg (by omega)]; rfl), _, by rw [← HWW.out]; exact World.drewN_drewN _ _ _⟩
set_option maxRecDepth 100000 in
set_option maxHeartbeats 1000000 in
theorem waiting_any (a : Nat) (S : AS) (P : Nat → Prop) (vl : Int) (w : World) (h : Hid (SAt w a S P)) :
    Calls Try.prog 12 #[.pointer (some ⟨a, 0, none⟩), .int .i64 vl] w fun e w' => e = .returned (.int .i64 (S.waiting vl)) ∧ w = w' := by
  obtain ⟨A, b, cap, D, G, hs⟩ := h.out
  obtain ⟨x0, x1, x2, x3⟩ := hs.cells
  have HQ := hide hs.sq
  clear hs h
  have HH := hide (has_any a A S.qs.length cap vl w x1)
  have HE : Hid (S.waiting vl = if S.has vl then (S.at vl.toNat).items.length else 0) := rfl
  have HE2 : Hid (S.has vl = (decide (0 ≤ vl) && decide (vl < S.qs.length))) := rfl
  rw [← HE2.out] at HH
  cases hv : S.has vl
  · rw [hv] at HH
    have HV := hide hv
    clear hv
    go_enter Try.func12, Try.ntmps12
    go_wp2_with (go_at_call 23; refine (HH.out).mono ?_; rintro e w' ⟨rfl, rfl⟩)
    go_ret
    exact ⟨by rw [HE.out, HV.out]; rfl, rfl⟩
  · rw [hv] at HH
    have HV := hide hv
    rw [HE2.out] at hv
    simp only [Bool.and_eq_true, decide_eq_true_eq] at hv
    obtain ⟨k, rfl⟩ := Int.eq_ofNat_of_zero_le hv.1
    have hk : k < S.qs.length := by omega
    have hk0 : (0 : Int) ≤ (k : Int) := by omega
    have hk1 : (k : Int) < (S.qs.length : Int) := by omega
    have hm := (HQ.out.cell k hk).many
    obtain rfl : A = some ⟨b, 0, none⟩ := by rcases HQ.out.at_ with h | h; (omega); exact h
    clear hv HE2 HQ
    have HF := hide hk
    go_enter Try.func12, Try.ntmps12
    go_wp2_with (go_at_call 23; refine (HH.out).mono ?_; rintro e w' ⟨rfl, rfl⟩)
    go_ret
    exact ⟨by rw [HE.out, HV.out]; rfl, rfl⟩
end Go.Proofs.Ythahnliddoijoaa
