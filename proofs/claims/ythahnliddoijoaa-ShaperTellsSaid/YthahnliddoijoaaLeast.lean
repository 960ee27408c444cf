/-
  least and best: the queue whose frame leaves next.
-/
import Derived.Test.YthahnliddoijoaaRel
namespace Go.Proofs.Ythahnliddoijoaa
open Go.RowKit
theorem QF.drewN {w : World} {b o : Nat} {q : AQ} {D : Nat → Value} (h : QF w b o q D) (n : Nat) : QF (w.drewN n) b o q D := ⟨h.few, h.ring, h.many, h.bag, h.from_⟩
def ptrOf (b : Nat) (o : Option Nat) : Value := .pointer (o.map fun j => ⟨b, j * 84, none⟩)
set_option maxRecDepth 100000 in
set_option maxHeartbeats 1000000 in
theorem least_any (A : Option Addr) (b n cap : Nat) (S : AS) (D : Nat → Nat → Value) (w : World) (hn : n ≤ 16) (hA : n = 0 ∨ A = some ⟨b, 0, none⟩) (hq : Hid (∀ i, i < n → QF w b (i * 84) (S.at i) (D i))) :
    Calls Try.prog 44 #[.slice A n cap, .func (.func 45) #[] #[], .func (.func 30) #[] #[]] w fun e w' => e = .returned (ptrOf b (S.bestTo n)) ∧ ∃ d, w' = w.drewN d := by
  go_enter Try.func44, Try.ntmps44
  go_wp2_with fail
  go_loopw [6, 11] (fun v6 v11 wr => ∃ k : Nat, k ≤ n ∧ v11 = .int .i64 k ∧ v6 = ptrOf b (S.bestTo k) ∧ ∃ d, wr = w.drewN d) (fun _ v11 _ => n - (intOf v11).toNat)
  case atStart => exact ⟨0, by omega, rfl, rfl, 0, rfl⟩
  case round =>
    obtain ⟨k, hk, rfl, rfl, d, rfl⟩ := hrel
    by_cases hlt : k < n
    · obtain rfl : A = some ⟨b, 0, none⟩ := by rcases hA with h | h; (omega); exact h
      have hs := (hq.out k hlt).drewN d
      have hst : Hid (S.bestTo (k + 1) = S.step (S.bestTo k) k) := rfl
      have hk0 : (0 : Int) ≤ (k : Int) := by omega
      have hk1 : (k : Int) < (n : Int) := by omega
      cases he : (S.at k).items.isEmpty
      · rcases S.bestTo_spec k with ⟨hb, -⟩ | ⟨j, hb, hj, hne, -⟩
        · have hst2 : Hid (S.bestTo (k + 1) = some k) := by rw [hst.out, hb]; unfold AS.step Hid; rw [he]; rfl
          clear hst
          rw [hb]
          clear hb
          have hpn : Value.pointer none = ptrOf b none := rfl
          rw [← hpn]
          clear hpn
          go_wp2_with fail
          refine (some_any _ _ _ _ _ hs).mono ?_
          rw [he]
          rintro e w1 ⟨rfl, rfl⟩
          go_wp2_with fail
          go_roundw
          case rel => exact ⟨k + 1, by omega, by go_num, by rw [hst2.out]; rfl, _, rfl⟩
          case measure => simp [intOf]; omega
        · have hst2 : Hid (S.bestTo (k + 1) = if (S.at k).rel < (S.at j).rel then some k else some j) := by rw [hst.out, hb]; unfold AS.step Hid; rw [he]; rfl
          clear hst
          rw [hb]
          clear hb
          have hpn : Value.pointer (some ⟨b, j * 84, none⟩) = ptrOf b (some j) := rfl
          rw [← hpn]
          clear hpn
          have hnk : Hid ((S.at k).items ≠ []) := by intro h; rw [h] at he; simp at he
          have hnj := hide hne
          clear hne
          go_wp2_with fail
          refine (some_any _ _ _ _ _ hs).mono ?_
          rw [he]
          rintro e w1 ⟨rfl, rfl⟩
          go_wp2_with fail
          refine (release_any _ _ _ _ _ hs hnk.out).mono ?_
          rintro e w1 ⟨rfl, d2, rfl⟩
          go_wp2_with fail
          refine (release_any _ _ _ _ _ ((hq.out j (by omega)).drewN (d + d2)) hnj.out).mono ?_
          rintro e w1 ⟨rfl, d3, rfl⟩
          go_wp2_with fail
          all_goals
            go_roundw
            case rel => exact ⟨k + 1, by omega, by go_num, by rw [hst2.out]; first | (rw [if_pos (by assumption)]; rfl) | (rw [if_neg (by omega)]; rfl), _, rfl⟩
            case measure => simp [intOf]; omega
      · have hst2 : Hid (S.bestTo (k + 1) = S.bestTo k) := by rw [hst.out]; unfold AS.step Hid; rw [he]; rfl
        clear hst
        go_wp2_with fail
        refine (some_any _ _ _ _ _ hs).mono ?_
        rw [he]
        rintro e w1 ⟨rfl, rfl⟩
        go_wp2_with fail
        go_roundw
        case rel => exact ⟨k + 1, by omega, by go_num, by rw [hst2.out], _, rfl⟩
        case measure => simp [intOf]; omega
    · obtain rfl : n = k := by omega
      go_wp2_with fail
      go_ret
      exact ⟨rfl, _, rfl⟩
/-- A shaper's queues: their slice, the cells of each. -/
structure QsAt (w : World) (A : Option Addr) (b n : Nat) (S : AS) (D : Nat → Nat → Value) : Prop where
  few : n ≤ 16
  len : S.qs.length = n
  at_ : n = 0 ∨ A = some ⟨b, 0, none⟩
  cell : ∀ i, i < n → QF w b (i * 84) (S.at i) (D i)
set_option maxRecDepth 100000 in
set_option maxHeartbeats 1000000 in
theorem best_any (a : Nat) (A : Option Addr) (b n cap : Nat) (S : AS) (D : Nat → Nat → Value) (w : World) (h1 : w.cell? ⟨a, 1, none⟩ = some (.slice A n cap)) (hq : Hid (QsAt w A b n S D)) :
    Calls Try.prog 29 #[.pointer (some ⟨a, 0, none⟩)] w fun e w' => e = .returned (ptrOf b S.best) ∧ ∃ d, w' = w.drewN d := by
  have hb : Hid (S.best = S.bestTo n) := by unfold AS.best; rw [hq.out.len]; exact rfl
  go_enter Try.func29, Try.ntmps29
  go_wp2_with fail
  refine (least_any A b n cap S D w hq.out.few hq.out.at_ (hide hq.out.cell)).mono ?_
  rintro e w1 ⟨rfl, d, rfl⟩
  go_wp2_with fail
  go_ret
  exact ⟨by rw [hb.out]; rfl, _, rfl⟩
end Go.Proofs.Ythahnliddoijoaa
