/-
  Pick, SameInts, SameBytes, SameFrame.
-/
import Derived.Test.YthahnliddoijoaaNew
namespace Go.Proofs.Ythahnliddoijoaa
open Go.RowKit
/-- The slice at A holds the bytes bs, outside of the blocks that F names. -/
def Bts (w : World) (A : Option Addr) (n : Nat) (bs : List Int) (F : Nat → Prop) : Prop :=
  bs.length = n ∧ (0 < n → ∃ b off, A = some ⟨b, off, none⟩ ∧ ¬ F b ∧ b < w.heap.size ∧ ∀ i z, bs[i]? = some z → w.cell? ⟨b, off + i, none⟩ = some (.int .u8 z))
theorem Bts.rb {w : World} {A : Option Addr} {n : Nat} {bs : List Int} {F : Nat → Prop} (h : Bts w A n bs F) : RB w A n bs F :=
  ⟨h.1, fun hn => by
    obtain ⟨b, off, h1, h2, h3, h4⟩ := h.2 hn
    refine ⟨_, h1, h2, h3, fun j v hv => ?_⟩
    unfold u8s at hv
    rw [List.getElem?_map] at hv
    cases hz : bs[j]? with
    | none => rw [hz] at hv; cases hv
    | some z => rw [hz] at hv; injection hv with hv; subst hv; rw [Addr.add_mid]; exact h4 j z hz⟩
theorem Bts.kept {w w' : World} {A : Option Addr} {n : Nat} {bs : List Int} {F G : Nat → Prop} (h : Bts w A n bs F) (hk : Kept G w w') (hG : ∀ k, G k → F k) : Bts w' A n bs F :=
  ⟨h.1, fun hn => by
    obtain ⟨b, off, h1, h2, h3, h4⟩ := h.2 hn
    exact ⟨b, off, h1, h2, Nat.lt_of_lt_of_le h3 hk.size, fun i z hz => (hk.cell (p := ⟨b, off + i, none⟩) h3 (fun hg => h2 (hG _ hg))).trans (h4 i z hz)⟩⟩
theorem Bts.nil (w : World) (F : Nat → Prop) : Bts w none 0 [] F := ⟨rfl, fun h => by omega⟩
theorem Bts.of_block {w : World} {g : Nat} {bs : List Int} {F : Nat → Prop} (h : w.heap[g]? = some (.cells (u8s bs).toArray 5 (0, 0))) (hF : ¬ F g) : Bts w (some ⟨g, 0, none⟩) bs.length bs F :=
  ⟨rfl, fun _ => ⟨g, 0, rfl, hF, blk_in h, fun i z hz => by
    rw [Nat.zero_add, cell_of_row w g i _ _ _ h, List.getElem?_toArray]
    unfold u8s
    rw [List.getElem?_map, hz]; rfl⟩⟩
theorem Bts.cell {w : World} {b off n : Nat} {A : Option Addr} {zs : List Int} {F : Nat → Prop} (h : Bts w A n zs F) (hA : A = some ⟨b, off, none⟩) {i : Nat} (hi : i < n) : w.cell? ⟨b, off + i, none⟩ = some (.int .u8 (zs.getD i 0)) := by
  obtain ⟨b', off', h1, _, _, h4⟩ := h.2 (by omega)
  rw [hA] at h1
  injection h1 with h1
  injection h1 with h1 h2
  subst h1 h2
  exact h4 i _ (getD_of (by rw [h.1]; exact hi))
def pick (x n : Int) : Int := x % n
set_option maxRecDepth 100000 in
set_option maxHeartbeats 1000000 in
theorem pick_any (x n : Int) (w : World) (hn : 1 ≤ n) (hn2 : n ≤ 1000000) : Calls Try.prog 19 #[.int .i64 x, .int .i64 n] w fun e w' => e = .returned (.int .i64 (pick x n)) ∧ w = w' := by
  have hP : Hid (pick x n = x % n) := rfl
  have hlt := Int.emod_lt_of_pos x (show 0 < n by omega)
  have hge := Int.emod_nonneg x (show n ≠ 0 by omega)
  have ht : x.tmod n = if 0 ≤ x ∨ n ∣ x then x % n else x % n - n := by
    rw [Int.tmod_eq_emod]
    split
    · omega
    · omega
  obtain ⟨r, hr⟩ : ∃ r, x % n = r := ⟨_, rfl⟩
  rw [hr] at hP hlt hge ht
  obtain ⟨m, hm⟩ : ∃ m, x.tmod n = m := ⟨_, rfl⟩
  have hmr : (m = r ∧ 0 ≤ m) ∨ (m = r - n ∧ m < 0 ∨ m = r ∧ 0 ≤ m) := by rw [hm] at ht; split at ht <;> omega
  have hn0 : ¬ n = 0 := by omega
  clear hr ht
  have hmr2 : (m < 0 ∧ m + n = r) ∨ (0 ≤ m ∧ m = r) := by omega
  rcases hmr2 with ⟨m0, m1⟩ | ⟨m0, m1⟩
  · have HM := hide m1
    have b1 : m + n ≤ 1000000 := by omega
    have b0 : -1000000 ≤ m := by omega
    clear hmr m1
    go_enter Try.func19, Try.ntmps19
    go_wp2_with fail
    go_ret
    exact ⟨by rw [hP.out, ← HM.out]; rfl, rfl⟩
  · have HM := hide m1
    clear hmr m1
    go_enter Try.func19, Try.ntmps19
    go_wp2_with fail
    go_ret
    exact ⟨by rw [hP.out, ← HM.out]; rfl, rfl⟩
set_option maxRecDepth 100000 in
set_option maxHeartbeats 1000000 in
theorem sameInts_any (A B : Option Addr) (n m cA cB : Nat) (zs ys : List Int) (F G : Nat → Prop) (w : World) (hn : n ≤ 9223372036854775807) (hm : m ≤ 9223372036854775807) (h : Hid (Ints w A n zs F)) (g : Hid (Ints w B m ys G)) :
    Calls Try.prog 13 #[.slice A n cA, .slice B m cB] w fun e w' => e = .returned (.bool (zs == ys)) ∧ ∃ d, w' = w.drewN d := by
  by_cases hnm : n = m
  case neg =>
    have HF : Hid ((zs == ys) = false) := by
      rw [Hid, beq_eq_false_iff_ne]; intro he; exact hnm (by rw [← h.out.1, ← g.out.1, he])
    have hb : ((n : Int) == (m : Int)) = false := by simp; omega
    have hb2 : ((n : Int) != (m : Int)) = true := by simp; omega
    go_enter Try.func13, Try.ntmps13
    go_wp2_with fail
    go_ret
    exact ⟨by rw [HF.out]; rfl, 0, rfl⟩
  case pos =>
    subst hnm
    go_enter Try.func13, Try.ntmps13
    go_wp2_with fail
    go_loopw [5] (fun v5 wr => ∃ k : Nat, k ≤ n ∧ v5 = .int .i64 k ∧ (∀ i : Nat, i < k → zs.getD i 0 = ys.getD i 0) ∧ ∃ d, wr = w.drewN d) (fun v5 _ => n - (intOf v5).toNat)
    case atStart => exact ⟨0, by omega, rfl, fun i hi => by omega, 0, rfl⟩
    case round =>
      obtain ⟨k, hk, rfl, hs, d, rfl⟩ := hrel
      have HS := hide hs
      clear hs
      by_cases hlt : k < n
      · obtain ⟨b, off, hA, -⟩ := h.out.2 (by omega)
        obtain ⟨b', off', hB, -⟩ := g.out.2 (by omega)
        subst hA hB
        have hc := (h.out.cell rfl (i := k) hlt)
        have hc' := (g.out.cell rfl (i := k) hlt)
        have hk0 : (0 : Int) ≤ (k : Int) := by omega
        have hk1 : (k : Int) < (n : Int) := by omega
        generalize hx : zs.getD k 0 = x at *
        generalize hy : ys.getD k 0 = y at *
        have HX := hide hx
        have HY := hide hy
        clear hx hy
        by_cases hxy : x = y
        · subst hxy
          go_wp2_with fail
          go_quiet (fail)
          go_wp2_with fail
          go_roundw
          case rel => exact ⟨k + 1, by omega, by go_num, fun i hi => by
            by_cases hik : i = k
            · subst hik; rw [HX.out, HY.out]
            · exact HS.out i (by omega), _, rfl⟩
          case measure => simp [intOf]; omega
        · have hb : (x == y) = false := by simpa using hxy
          have hb2 : (x != y) = true := by simpa using hxy
          have HF : Hid ((zs == ys) = false) := by
            rw [Hid, beq_eq_false_iff_ne]; intro he; rw [he] at HX; exact hxy (HX.out.symm.trans HY.out)
          clear hxy
          go_wp2_with fail
          go_quiet (fail)
          go_wp2_with fail
          go_ret
          exact ⟨by rw [HF.out]; rfl, _, World.drewN_drewN _ _ _⟩
      · have HT : Hid ((zs == ys) = true) := by
          rw [Hid, beq_iff_eq]
          refine List.ext_getElem (by rw [h.out.1, g.out.1]) fun i h1 h2 => ?_
          have := HS.out i (by rw [← h.out.1] at hk hlt; omega)
          simpa [List.getD_eq_getElem?_getD, h1, h2] using this
        go_wp2_with fail
        go_ret
        exact ⟨by rw [HT.out]; rfl, _, rfl⟩
set_option maxRecDepth 100000 in
set_option maxHeartbeats 1000000 in
theorem sameBytes_any (A B : Option Addr) (n m cA cB : Nat) (zs ys : List Int) (F G : Nat → Prop) (w : World) (hn : n ≤ 9223372036854775807) (hm : m ≤ 9223372036854775807) (h : Hid (Bts w A n zs F)) (g : Hid (Bts w B m ys G)) :
    Calls Try.prog 43 #[.slice A n cA, .slice B m cB] w fun e w' => e = .returned (.bool (zs == ys)) ∧ ∃ d, w' = w.drewN d := by
  by_cases hnm : n = m
  case neg =>
    have HF : Hid ((zs == ys) = false) := by
      rw [Hid, beq_eq_false_iff_ne]; intro he; exact hnm (by rw [← h.out.1, ← g.out.1, he])
    have hb : ((n : Int) == (m : Int)) = false := by simp; omega
    have hb2 : ((n : Int) != (m : Int)) = true := by simp; omega
    go_enter Try.func43, Try.ntmps43
    go_wp2_with fail
    go_ret
    exact ⟨by rw [HF.out]; rfl, 0, rfl⟩
  case pos =>
    subst hnm
    go_enter Try.func43, Try.ntmps43
    go_wp2_with fail
    go_loopw [5] (fun v5 wr => ∃ k : Nat, k ≤ n ∧ v5 = .int .i64 k ∧ (∀ i : Nat, i < k → zs.getD i 0 = ys.getD i 0) ∧ ∃ d, wr = w.drewN d) (fun v5 _ => n - (intOf v5).toNat)
    case atStart => exact ⟨0, by omega, rfl, fun i hi => by omega, 0, rfl⟩
    case round =>
      obtain ⟨k, hk, rfl, hs, d, rfl⟩ := hrel
      have HS := hide hs
      clear hs
      by_cases hlt : k < n
      · obtain ⟨b, off, hA, -⟩ := h.out.2 (by omega)
        obtain ⟨b', off', hB, -⟩ := g.out.2 (by omega)
        subst hA hB
        have hc := (h.out.cell rfl (i := k) hlt)
        have hc' := (g.out.cell rfl (i := k) hlt)
        have hk0 : (0 : Int) ≤ (k : Int) := by omega
        have hk1 : (k : Int) < (n : Int) := by omega
        generalize hx : zs.getD k 0 = x at *
        generalize hy : ys.getD k 0 = y at *
        have HX := hide hx
        have HY := hide hy
        clear hx hy
        by_cases hxy : x = y
        · subst hxy
          go_wp2_with fail
          go_quiet (fail)
          go_wp2_with fail
          go_roundw
          case rel => exact ⟨k + 1, by omega, by go_num, fun i hi => by
            by_cases hik : i = k
            · subst hik; rw [HX.out, HY.out]
            · exact HS.out i (by omega), _, rfl⟩
          case measure => simp [intOf]; omega
        · have hb : (x == y) = false := by simpa using hxy
          have hb2 : (x != y) = true := by simpa using hxy
          have HF : Hid ((zs == ys) = false) := by
            rw [Hid, beq_eq_false_iff_ne]; intro he; rw [he] at HX; exact hxy (HX.out.symm.trans HY.out)
          clear hxy
          go_wp2_with fail
          go_quiet (fail)
          go_wp2_with fail
          go_ret
          exact ⟨by rw [HF.out]; rfl, _, World.drewN_drewN _ _ _⟩
      · have HT : Hid ((zs == ys) = true) := by
          rw [Hid, beq_iff_eq]
          refine List.ext_getElem (by rw [h.out.1, g.out.1]) fun i h1 h2 => ?_
          have := HS.out i (by rw [← h.out.1] at hk hlt; omega)
          simpa [List.getD_eq_getElem?_getD, h1, h2] using this
        go_wp2_with fail
        go_ret
        exact ⟨by rw [HT.out]; rfl, _, rfl⟩
def frameV (vl net seq : Int) (A : Option Addr) (n cap : Nat) : Value := .agg #[.int .i64 vl, .int .i64 net, .int .i64 seq, .slice A n cap]
set_option maxRecDepth 100000 in
set_option maxHeartbeats 1000000 in
/-- Two frames that agree in their numbers. -/
theorem sameFrame_nums (vl net seq : Int) (A B : Option Addr) (n m cA cB : Nat) (zs ys : List Int) (F G : Nat → Prop) (w : World) (hn : n ≤ 9223372036854775807) (hm : m ≤ 9223372036854775807) (h : Hid (Bts w A n zs F)) (g : Hid (Bts w B m ys G)) :
    Calls Try.prog 28 #[.agg #[.int .i64 vl, .int .i64 net, .int .i64 seq, .slice A n cA], .agg #[.int .i64 vl, .int .i64 net, .int .i64 seq, .slice B m cB]] w fun e w' => e = .returned (.bool (zs == ys)) ∧ Below w.heap.size w w' := by
  go_enter Try.func28, Try.ntmps28
  go_wp2_with fail
  refine (sameBytes_any A B n m cA cB zs ys F G _ hn hm (hide (h.out.kept (G := fun _ => False) (((Kept.refl _ w).alloc _).alloc _) (fun _ h => h.elim))) (hide (g.out.kept (G := fun _ => False) (((Kept.refl _ w).alloc _).alloc _) (fun _ h => h.elim)))).mono ?_
  rintro e w1 ⟨rfl, d, rfl⟩
  go_wp2_with fail
  go_ret
  exact ⟨rfl, below_drewN (((Below.refl _ _).alloc (Nat.le_refl _) _).alloc (by simp) _) _⟩
end Go.Proofs.Ythahnliddoijoaa
