/-
  nacelleref18: Offer and Next at every state.
-/
import Derived.Test.YthahnliddoijoaaRefE
namespace Go.Proofs.Ythahnliddoijoaa
open Go.RowKit
theorem late_no {R : RS} {t : Int} (h : R.late t = false) (c0 : 0 ≤ R.clock) : 0 ≤ t ∧ t ≤ 1073741824 := by
  unfold RS.late at h
  simp at h
  omega
theorem Sim.best_at {S : AS} {R : RS} (h : Sim S R) : R.best.2 < 0 ∨ ∃ (i : Nat) (x : It), R.best.2 = (i : Int) ∧ R.items[i]? = some x := by
  rcases h.best with ⟨h1, h2⟩ | ⟨j, h1, h2, h3, h4⟩
  · rw [h2]; exact .inl (by decide)
  · cases hj : (S.at j).items with
    | nil => exact absurd hj h3
    | cons x f =>
      obtain ⟨A, B, a1, a2, a3, a4, hr⟩ := h.rel_some j h2 hj
      rw [h4, hr]
      exact .inr ⟨A.length, x, rfl, by rw [a1]; simp⟩
theorem roffer_any (R : RS) (bA lA iA : Option Addr) (bc lc ic : Nat) (ps : List (It × Value)) (F : Nat → Prop) (t vl net seq : Int) (dA : Option Addr) (dn dc : Nat) (bs : List Int) (w : World) (h : Hid (RAt w R bA lA iA ps F)) (hic : Hid (R.items.length ≤ ic))
    (hF : Hid (∀ k, F k → k < w.heap.size)) (hd : Hid (Bts w dA dn bs F)) (hdn : dn ≤ 1000) (hf : R.items.length < 1000) :
    Calls Try.prog 35 #[RSV R bA lA iA bc lc ic, .int .i64 t, frameV vl net seq dA dn dc] w fun e w' => OffR w w' (R.offer t vl net seq bs).1 e (R.offer t vl net seq bs).2 bA lA bc lc F := by
  unfold RS.offer
  by_cases hb : (R.late t || decide (vl < 0) || decide ((R.bags.length : Int) ≤ vl)) = true
  · rw [if_pos hb]
    exact roffer_bad R bA lA iA bc lc ic ps F t vl net seq dA dn dc w h hic hb
  · rw [if_neg hb]
    have hl : R.late t = false := by revert hb; cases R.late t <;> simp
    obtain ⟨t0, t1⟩ := late_no hl h.out.c0
    have hv : 0 ≤ vl ∧ vl < R.bags.length := by
      rw [hl] at hb
      simp at hb
      omega
    by_cases hw : R.waiting vl = 16
    · rw [if_pos hw]
      exact roffer_full R bA lA iA bc lc ic ps F t vl net seq dA dn dc w h hic hl t0 t1 hv.1 hv.2 hw
    · rw [if_neg hw]
      exact roffer_fine R bA lA iA bc lc ic ps F t vl net seq dA dn dc bs w h hl t0 t1 hv.1 hv.2 hw hF hd hdn hf
theorem rnext_any (S : AS) (R : RS) (hs : Sim S R) (bA lA iA : Option Addr) (bc lc ic : Nat) (ps : List (It × Value)) (F : Nat → Prop) (t : Int) (w : World) (h : Hid (RAt w R bA lA iA ps F)) (hic : Hid (R.items.length ≤ ic)) (hF : Hid (∀ k, F k → k < w.heap.size)) :
    Calls Try.prog 38 #[RSV R bA lA iA bc lc ic, .int .i64 t] w fun e w' => NxtR w w' (R.next t).1 (R.next t).2.1 e (R.next t).2.2 bA bc F := by
  unfold RS.next
  by_cases hl : R.late t = true
  · rw [if_pos hl]
    exact rnext_late R bA lA iA bc lc ic ps F t w h hic hl
  · rw [if_neg hl]
    have hl2 : R.late t = false := by simpa using hl
    obtain ⟨t0, t1⟩ := late_no hl2 h.out.c0
    by_cases hn : R.best.2 < 0 ∨ t < R.best.1
    · rw [if_pos hn]
      exact rnext_none R bA lA iA bc lc ic ps F t w h hic hl2 t0 t1 hn
    · rw [if_neg hn]
      rcases hs.best_at with hb | ⟨i, x, hb, hx⟩
      · exact absurd (.inl hb) hn
      · have e : R.items[R.best.2.toNat]? = some x := by rw [hb, Int.toNat_natCast]; exact hx
        have e2 : R.best.2.toNat = i := by rw [hb, Int.toNat_natCast]
        rw [e]
        simp only [e2]
        exact rnext_some R bA lA iA bc lc ic ps F t w h hic hl2 t0 t1 hF R.best.1 i x (hide (Prod.ext rfl hb)) (by omega) hx
end Go.Proofs.Ythahnliddoijoaa
