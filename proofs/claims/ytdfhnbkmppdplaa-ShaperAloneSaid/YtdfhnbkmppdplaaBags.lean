/-
  bags: from 1 to 6 bags up to 200.
-/
import Derived.Test.YtdfhnbkmppdplaaShp1
namespace Go.Proofs.Ytdfhnbkmppdplaa
open Go.RowKit
def bagOf (g : Int) : Int := 1 + pick g 200
def bagsTo (gs : List Int) (k : Nat) : List Int := if k = 0 then [1] else (gs.take k).map bagOf
def bagsL (gs : List Int) : List Int := bagsTo gs (min gs.length 6)
theorem bagOf_bd (g : Int) : 1 ≤ bagOf g ∧ bagOf g ≤ 200 := by have := pick_bd g 200 (by decide); unfold bagOf; omega
theorem bagsTo_bd (gs : List Int) (k : Nat) : ∀ b ∈ bagsTo gs k, 1 ≤ b ∧ b ≤ 200 := by
  intro b hb
  unfold bagsTo at hb
  split at hb
  · simp at hb; omega
  · obtain ⟨g, _, rfl⟩ := List.mem_map.1 hb; exact bagOf_bd g
theorem bagsTo_len (gs : List Int) (k : Nat) (hk : k ≤ gs.length) : (bagsTo gs k).length = max k 1 := by
  unfold bagsTo
  split
  · subst_vars; rfl
  · rw [List.length_map, List.length_take]; omega
theorem bagsL_len (gs : List Int) : 1 ≤ (bagsL gs).length ∧ (bagsL gs).length ≤ 6 := by unfold bagsL; rw [bagsTo_len _ _ (by omega)]; omega
theorem bagsTo_succ (gs : List Int) (k : Nat) (hk : k < gs.length) : bagsTo gs (k + 1) = (if k = 0 then [] else bagsTo gs k) ++ [bagOf (gs.getD k 0)] := by
  unfold bagsTo
  rw [if_neg (by omega), take_snoc_getD gs k hk, List.map_append]
  split
  · subst_vars; rfl
  · rfl
theorem bagsL_all (gs : List Int) : (bagsL gs).all bagB = true := by
  rw [List.all_eq_true]; intro b hb; have := bagsTo_bd gs _ b hb; unfold bagB; simp; omega
theorem ints_snoc' (zs : List Int) (z : Int) : ints zs ++ [.int .i64 z] = ints (zs ++ [z]) := by unfold ints; simp
theorem own_one (w : World) (base : Nat) (hb : base ≤ w.heap.size) (x : Int) : (w.alloc (.cells #[.int .i64 x] 3)).ownsRow base 3 1 (.slice (some ⟨w.heap.size, 0, none⟩) 1 1) 1 (ints [x]) :=
  ⟨rfl, .inr ⟨w.heap.size, 1, _, rfl, hb, heap_alloc_new w _, Nat.le_refl _, by unfold maxLen; omega, rfl, rfl⟩⟩
set_option maxRecDepth 100000 in
set_option maxHeartbeats 2000000 in
theorem bags_any (A : Option Addr) (n cap : Nat) (gs : List Int) (F : Nat → Prop) (w : World) (hn : n ≤ 9223372036854775807) (h : Hid (Ints w A n gs F)) :
    Calls Try.prog 11 #[.slice A n cap] w fun e w' => ∃ v, e = .returned v ∧ w'.ownsRow w.heap.size 3 1 v (bagsL gs).length (ints (bagsL gs)) ∧ Below w.heap.size w w' := by
  obtain ⟨i0, hi0, hz0, hz1, hz2⟩ := info_parts intInfo
  go_enter Try.func11, Try.ntmps11
  go_wp2_with fail
  go_loopw [3, 4] (fun v3 v4 wr => ∃ k : Nat, k ≤ n ∧ k ≤ 6 ∧ v4 = .int .i64 k ∧ wr.ownsRow w.heap.size 3 1 v3 (bagsTo gs k).length (ints (bagsTo gs k)) ∧ Below w.heap.size w wr) (fun _ v4 _ => n - (intOf v4).toNat)
  case atStart => exact ⟨0, by omega, by omega, rfl, own_one w _ (Nat.le_refl _) 1, (Below.refl _ _).alloc (Nat.le_refl _) _⟩
  case round =>
    obtain ⟨k, hk, hk6, rfl, hown, hbr⟩ := hrel
    have HOW := hide hown
    have HBR := hide hbr
    have hsz := hbr.size
    clear hown hbr
    by_cases hlt : k < n ∧ k < 6
    · obtain ⟨hlt, hlt2⟩ := hlt
      obtain ⟨b, off, hA, -⟩ := h.out.2 (by omega)
      subst hA
      have hc := (h.out.below HBR.out).cell rfl hlt
      have HS := hide (bagsTo_succ gs k (by rw [h.out.1]; exact hlt))
      have HLn := hide (bagsTo_len gs k (by rw [h.out.1]; omega))
      have HL1 := hide (bagsTo_len gs (k + 1) (by rw [h.out.1]; omega))
      obtain ⟨r0, r1⟩ := pick_bd (gs.getD k 0) 200 (by decide)
      have hk0 : (0 : Int) ≤ (k : Int) := by omega
      have hk1 : (k : Int) < (n : Int) := by omega
      have hk3 : (k : Int) < 6 := by omega
      have HP := hide (fun w => pick_any (gs.getD k 0) 200 w (by decide) (by decide))
      have HBO : Hid (bagOf (gs.getD k 0) = 1 + pick (gs.getD k 0) 200) := rfl
      rw [HBO.out] at HS
      clear HBO
      generalize gs.getD k 0 = z at *
      generalize pick z 200 = pz at *
      by_cases h0 : k = 0
      · have hb0 : (((k : Int)) == 0) = true := by simp [h0]
        have HS2 : Hid (bagsTo gs (k + 1) = [1 + pz]) := by rw [HS.out, if_pos h0]; rfl
        have hl1 : Hid ((bagsTo gs (k + 1)).length = 1) := by rw [HS2.out]; exact rfl
        clear h0
        go_wp2_with fail
        refine (HP.out _).mono ?_
        rintro e w2 ⟨rfl, rfl⟩
        go_wp2_with (at_builtin; refine wpList_append_own _ rfl _ _ 22 rfl w.heap.size 3 i0 _ 1 8 Try.underlying22 hi0 hz0 hz1 hz2 rfl (by decide) _ _ _ rfl (World.ownsRow_nil _ _ _ _) ⟨wr.heap.size, 0, none⟩ 1 1 [_] rfl rfl (new1 wr _ _ _ rfl) (by simp [Value.oneCell']) (by unfold maxLen; omega) (by omega) (by simp; omega) ?_; intro v' w1 hown' hgrow _)
        have hown2 : w1.ownsRow w.heap.size 3 1 v' (bagsTo gs (k + 1)).length (ints (bagsTo gs (k + 1))) := by rw [hl1.out, HS2.out]; exact hown'
        have HG := hide (Below.grown ((Below.refl w.heap.size wr).alloc (by omega) _) hgrow (by simp; omega) (fun g hg => by cases hg))
        have HO := hide hown2
        clear hown' hown2 hgrow
        try go_wp2
        go_roundw
        case rel => exact ⟨k + 1, by omega, by omega, by go_num, HO.out, HBR.out.trans HG.out⟩
        case measure => simp [intOf]; omega
      · have hb0 : (((k : Int)) == 0) = false := by simpa using h0
        have HS2 : Hid (bagsTo gs (k + 1) = bagsTo gs k ++ [1 + pz]) := by rw [HS.out, if_neg h0]; exact rfl
        have hl1 : Hid ((bagsTo gs (k + 1)).length = (bagsTo gs k).length + 1) := by rw [HS2.out]; exact List.length_append
        have hl6 : (bagsTo gs k).length ≤ 6 := by rw [HLn.out]; omega
        clear h0
        go_wp2_with fail
        refine (HP.out _).mono ?_
        rintro e w2 ⟨rfl, rfl⟩
        go_wp2_with (at_builtin; refine wpList_append_own _ rfl _ _ 22 rfl w.heap.size 3 i0 _ 1 8 Try.underlying22 hi0 hz0 hz1 hz2 rfl (by decide) _ _ _ rfl (HOW.out.alloc _) ⟨wr.heap.size, 0, none⟩ 1 1 [_] rfl rfl (new1 wr _ _ _ rfl) (by simp [Value.oneCell']) (by unfold maxLen; omega) (by omega) (by simp; omega) ?_; intro v' w1 hown' hgrow _)
        have hown2 : w1.ownsRow w.heap.size 3 1 v' (bagsTo gs (k + 1)).length (ints (bagsTo gs (k + 1))) := by rw [hl1.out, HS2.out, ← ints_snoc']; exact hown'
        have HG := hide (Below.grown ((Below.refl w.heap.size wr).alloc (by omega) _) hgrow (by simp; omega) (fun g hg => (HOW.out.lt g hg).1))
        have HO := hide hown2
        clear hown' hown2 hgrow
        try go_wp2
        go_roundw
        case rel => exact ⟨k + 1, by omega, by omega, by go_num, HO.out, HBR.out.trans HG.out⟩
        case measure => simp [intOf]; omega
    · have HE : Hid (bagsTo gs k = bagsL gs) := by
        have : k = min gs.length 6 := by rw [h.out.1]; omega
        unfold bagsL Hid; rw [← this]
      have hown2 : wr.ownsRow w.heap.size 3 1 u3 (bagsL gs).length (ints (bagsL gs)) := by rw [← HE.out]; exact HOW.out
      have HO := hide hown2
      clear hown2
      have hpar : (n : Int) ≤ (k : Int) ∨ ((k : Int) < (n : Int) ∧ (6 : Int) ≤ (k : Int)) := by omega
      rcases hpar with hp | ⟨hp, hp2⟩
      · have hp3 : decide ((k : Int) < n) = false := by simp; omega
        go_wp2_with fail
        go_ret
        exact ⟨_, rfl, HO.out, HBR.out⟩
      · have hp4 : decide ((k : Int) < 6) = false := by simp; omega
        go_wp2_with fail
        go_ret
        exact ⟨_, rfl, HO.out, HBR.out⟩
end Go.Proofs.Ytdfhnbkmppdplaa
