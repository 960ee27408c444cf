/-
  parse: the reference's state in memory; here, fail, sees, is, must.
-/
import Derived.Test.YtlngbjphagnloaaGreatDoorParR
import Derived.Test.YtlngbjphagnloaaGreatDoorPk2
import Derived.Test.YtlngbjphagnloaaGreatDoorPk4
namespace Go.Proofs.YtlngbjphagnloaaGreatDoor
open Go.RowKit
attribute [local go_sem] Later.cell
/-- A token of the reference. -/
def rtokVal (t : Tok) : Value := .agg #[.int .i64 (t.kind : Int), .string ⟨t.text.toArray⟩, .int .i64 (t.at_ : Int)]
/-- The reference's state s lies in block rb, over the tokens ts. -/
structure RIn (rb : Nat) (ts : List Tok) (s : InS) (w : World) : Prop where
  lt : rb < w.heap.size
  toks : ∃ A c, w.cell? ⟨rb, 0, none⟩ = some (.slice A ts.length c) ∧ TRows .i64 w A (ts.map Tok.toZ) ∧ ∀ a, A = some a → a.block < rb
  now : ∃ j, j ≤ ts.length ∧ s.r = ts.drop j ∧ w.cell? ⟨rb, 1, none⟩ = some (.int .i64 (j : Int))
  size : w.cell? ⟨rb, 2, none⟩ = some (.int .i64 (s.size : Int))
  at_ : w.cell? ⟨rb, 3, none⟩ = some (.int .i64 (s.at_ : Int))
  err : w.cell? ⟨rb, 4, none⟩ = some (.int .i64 (s.err : Int))
  free : ∀ o, o < 5 → w.frozen? ⟨rb, o, none⟩ = false
theorem RIn.below {rb : Nat} {ts : List Tok} {s : InS} {w w' : World} (h : RIn rb ts s w) (hb : Below w.heap.size w w') : RIn rb ts s w' := by
  have hc : ∀ o, w'.cell? ⟨rb, o, none⟩ = w.cell? ⟨rb, o, none⟩ := fun o => hb.cell (p := ⟨rb, o, none⟩) h.lt
  obtain ⟨A, c, h0, hr, hA⟩ := h.toks
  obtain ⟨j, hj, hd, h1⟩ := h.now
  exact ⟨Nat.lt_of_lt_of_le h.lt hb.size, ⟨A, c, (hc 0).trans h0, hr.below hb, hA⟩, ⟨j, hj, hd, (hc 1).trans h1⟩, (hc 2).trans h.size, (hc 3).trans h.at_, (hc 4).trans h.err, fun o ho => (World.frozen?_of_block (a := ⟨rb, o, none⟩) (hb.block rb h.lt)).trans (h.free o ho)⟩
set_option maxRecDepth 100000 in
set_option maxHeartbeats 1000000 in
theorem rhere_any (rb : Nat) (ts : List Tok) (s : InS) (W : World) (H : Hid (RIn rb ts s W)) (_hts : ts.length ≤ 1000000) :
    Calls Tryz.prog 121 #[.pointer (some ⟨rb, 0, none⟩)] W fun e W' => e = .returned (rtokVal s.here) ∧ Below W.heap.size W W' := by
  obtain ⟨A, c, h0, hr, hA⟩ := H.out.toks
  obtain ⟨j, hj, hd, h1⟩ := H.out.now
  have h2 := H.out.size
  have h4 := H.out.err
  have hrb := H.out.lt
  by_cases he : s.err = 0
  · rw [he] at h4
    by_cases hjs : j < ts.length
    · have hL := hide (show (ts.map Tok.toZ).length = ts.length by simp)
      have HR := hide hr
      obtain ⟨b, off, t, rfl, hlt, ht, d0, d1, d2⟩ := trow_at (w' := W) hL HR (Below.refl _ _) hjs
      have htt : t = (ts[j]).toZ := by
        have := ht.out
        simp [hjs] at this
        exact this.symm
      subst htt
      have k1 : decide (j < ts.length) = true := by simp; exact hjs
      have k2 : (0 : Int) ≤ (j : Int) ∧ (j : Int) < ((ts.length : Nat) : Int) := by omega
      have hh := hide (show s.here = ts[j] by unfold InS.here; rw [if_pos he, hd, List.drop_eq_getElem_cons hjs]; rfl)
      clear hr hA hd he
      simp only [Tok.toZ] at d0 d1 d2
      go_enter Tryz.func121, Tryz.ntmps121
      go_wp2_with fail
      go_quiet (fail)
      go_wp2_with fail
      go_region
      go_wp2_with fail
      refine bodyPost_ret (v := rtokVal ts[j]) (by simp [results, Tryz.results121, go_sem, rtokVal]) rfl ?_
      refine ⟨by rw [hh.out], ?_⟩
      exact (((Kept.alloc (F := fun _ => False) (Kept.refl _ W) _).drewN _).setCell (.inr (Nat.le_refl _)) _ |>.setCell (.inr (Nat.le_refl _)) _ |>.setCell (.inr (Nat.le_refl _)) _).below (Nat.le_refl _) (fun _ _ => not_false)
    · have k1 : decide (j < ts.length) = false := by simp; omega
      have hh := hide (show s.here = ⟨0, [], s.size⟩ by unfold InS.here; rw [if_pos he, hd, List.drop_eq_nil_of_le (by omega)]; rfl)
      clear hr hA hd he
      go_enter Tryz.func121, Tryz.ntmps121
      go_wp2_with fail
      go_quiet (fail)
      go_wp2_with fail
      refine bodyPost_ret (v := rtokVal ⟨0, [], s.size⟩) (by simp [results, Tryz.results121, go_sem, rtokVal]) rfl ?_
      refine ⟨by rw [hh.out], ?_⟩
      exact (((Kept.alloc (F := fun _ => False) (Kept.refl _ W) _).drewN _).setCell (.inr (Nat.le_refl _)) _ |>.setCell (.inr (Nat.le_refl _)) _ |>.setCell (.inr (Nat.le_refl _)) _).below (Nat.le_refl _) (fun _ _ => not_false)
  · have e1 : ((s.err : Int) != 0) = true := by simp; omega
    have hh := hide (show s.here = ⟨0, [], s.size⟩ by unfold InS.here; rw [if_neg he])
    clear hr hA hd he
    go_enter Tryz.func121, Tryz.ntmps121
    go_wp2_with fail
    go_quiet (fail)
    go_wp2_with fail
    refine bodyPost_ret (v := rtokVal ⟨0, [], s.size⟩) (by simp [results, Tryz.results121, go_sem, rtokVal]) rfl ?_
    refine ⟨by rw [hh.out], ?_⟩
    exact (((Kept.alloc (F := fun _ => False) (Kept.refl _ W) _).drewN _).setCell (.inr (Nat.le_refl _)) _ |>.setCell (.inr (Nat.le_refl _)) _ |>.setCell (.inr (Nat.le_refl _)) _).below (Nat.le_refl _) (fun _ _ => not_false)
end Go.Proofs.YtlngbjphagnloaaGreatDoor
