/-
  nacelleref18: New.
-/
import Derived.Test.YthahnliddoijoaaLentF
import Derived.Deep.RegionLaw
namespace Go.Proofs.Ythahnliddoijoaa
open Go.RowKit
def NewR (w w' : World) (e : Ending) (zs : List Int) (m n : Nat) (F : Nat → Prop) : Prop :=
  (m = n ∧ ∃ bA bc lA lc, e = .returned (.tuple #[RSV (RS.new zs) bA lA none bc lc 0, .int .i64 0]) ∧ RAt w' (RS.new zs) bA lA none [] F ∧ Below w.heap.size w w') ∨
  (m < n ∧ e = .returned (.tuple #[.agg #[.slice none 0 0, .int .i64 0, .slice none 0 0, .slice none 0 0], .int .i64 2]) ∧ Below w.heap.size w w')
def negs (k : Nat) : List Int := List.replicate k (-1)
theorem negs_succ (k : Nat) : negs (k + 1) = negs k ++ [-1] := List.replicate_succ'
def Apart2 (a b : Value) : Prop := ∀ g, a.ownBlock = some g → b.ownBlock ≠ some g
theorem reads_one (w : World) (t : TypeId) (v : Value) : Reads (w.alloc (.cells #[v] t)) (w.heap.size + 1) 1 (some ⟨w.heap.size, 0, none⟩) 1 [v] :=
  ⟨rfl, fun _ => ⟨⟨w.heap.size, 0, none⟩, rfl, by simp, new1 w t v _ rfl⟩⟩
theorem Apart2.symm {a b : Value} (h : Apart2 a b) : Apart2 b a := fun g hg hb => h g hb hg
theorem Apart2.next {a a' b : Value} {N : Nat} (h : Apart2 a b) (hat : a'.ownBlock = a.ownBlock ∨ a'.ownBlock = some N) (hb : ∀ g, b.ownBlock = some g → g < N) : Apart2 a' b := by
  intro g hg hbg
  rcases hat with e | e
  · exact h g (e.symm.trans hg) hbg
  · rw [e] at hg
    injection hg with hg
    have := hb g hbg
    omega
theorem Apart2.kept {w0 w1 : World} {a b : Value} {base e size n : Nat} {xs : List Value} (h : Apart2 a b) (ho : w0.ownsRow base e size b n xs) (hg : w0.grownBy w1 a.ownBlock) : w1.ownsRow base e size b n xs := by
  refine ho.kept hg ?_
  cases hb : b.ownBlock with
  | none => exact .inl rfl
  | some g => exact .inr (fun e' => h g e'.symm hb)
theorem setF_size (w : World) (p : Addr) (u : Value) : (w.setCell p u).heap.size = w.heap.size := by simp [World.setCell]
theorem negs_map {zs : List Int} {k : Nat} (h : zs.length = k) : negs k = zs.map (fun _ => -1) := by unfold negs; rw [List.map_const', h]
theorem rnew_at {w : World} {zs : List Int} {k : Nat} {bA lA : Option Addr} {F : Nat → Prop} (hl : zs.length = k) (h16 : k ≤ 16) (h1 : Ints w bA k zs F) (h2 : Ints w lA k (zs.map fun _ => -1) F) (hg : ∀ i, i < k → bagB (zs.getD i 0) = true) : RAt w (RS.new zs) bA lA none [] F := by
  subst hl
  refine ⟨rfl, h1, by show Ints w lA (zs.map _).length _ F; rw [List.length_map]; exact h2, Its.nil w F, h16, by show (zs.map _).length = _; rw [List.length_map]; rfl, Int.le_refl _, (show (0 : Int) ≤ 1073741824 by decide), fun i hi => ?_, fun i hi => ?_, (fun x hx => by cases hx), (fun x hx => by cases hx), (show 0 ≤ 1000 by decide)⟩
  · have := hg i hi
    unfold bagB at this
    show 1 ≤ zs.getD i 0 ∧ zs.getD i 0 ≤ 12800
    simpa using this
  · have hi' : i < zs.length := hi
    show -1 ≤ (zs.map fun _ => (-1 : Int)).getD i 0 ∧ _
    have e : (zs.map fun _ => (-1 : Int)).getD i 0 = -1 := by simp [List.getD_eq_getElem?_getD, List.getElem?_map, List.getElem?_eq_getElem hi']
    show -1 ≤ (zs.map fun _ => (-1 : Int)).getD i 0 ∧ (zs.map fun _ => (-1 : Int)).getD i 0 ≤ 1073741824
    rw [e]; omega
theorem ints_snoc (l : List Int) (z : Int) : ints l ++ [Value.int .i64 z] = ints (l ++ [z]) := by unfold ints; simp
set_option maxRecDepth 100000 in
set_option maxHeartbeats 4000000 in
theorem rnew_walk (A : Option Addr) (n cap m : Nat) (zs : List Int) (F : Nat → Prop) (w : World) (h : Hid (Ints w A n zs F)) (hl : n ≤ 16) (hF : Hid (∀ k, F k → k < w.heap.size)) (hm : m ≤ n) (hgood : Hid (∀ i, i < m → bagB (zs.getD i 0) = true)) (hstop : Hid (m < n → bagB (zs.getD m 0) = false)) :
    Calls Try.prog 15 #[.slice A n cap] w fun e w' => NewR w w' e zs m n F := by
  obtain ⟨i0, hi0, hz0, hz1, hz2⟩ := info_parts intInfo
  have HRB := hide (fun z W => rbag_any z W)
  have HLN := hide h.out.1
  go_enter Try.func15, Try.ntmps15
  go_wp2_with fail
  have hb0 : Below (w.heap.size + 2) ((w.alloc (.cells #[.slice none 0 0, .int .i64 0, .slice none 0 0, .slice none 0 0] 45)).alloc (.cells #[.slice none 0 0, .int .i64 0, .slice none 0 0, .slice none 0 0] 45)) ((w.alloc (.cells #[.slice none 0 0, .int .i64 0, .slice none 0 0, .slice none 0 0] 45)).alloc (.cells #[.slice none 0 0, .int .i64 0, .slice none 0 0, .slice none 0 0] 45)) := Below.refl _ _
  obtain ⟨hX, hY, hsz, hbl⟩ := boxF2 (w := w) (by rw [show ((w.alloc (.cells #[.slice none 0 0, .int .i64 0, .slice none 0 0, .slice none 0 0] 45)).alloc (.cells #[.slice none 0 0, .int .i64 0, .slice none 0 0, .slice none 0 0] 45)).heap.size = w.heap.size + 2 by simp]; exact hb0)
  have HX := hide hX
  have HY := hide hY
  have HB0 := hide hbl
  clear hb0 hX hY hbl
  go_loopw [5] (fun v5 wr => ∃ (k : Nat) (vB vL : Value), k ≤ m ∧ v5 = .int .i64 k ∧ wr.heap[w.heap.size]? = some (.cells #[.slice none 0 0, .int .i64 0, .slice none 0 0, .slice none 0 0] 45 (0, 0)) ∧ wr.heap[w.heap.size + 1]? = some (.cells #[vB, .int .i64 0, vL, .slice none 0 0] 45 (0, 0)) ∧
      wr.ownsRow (w.heap.size + 2) 3 1 vB k (ints (zs.take k)) ∧ wr.ownsRow (w.heap.size + 2) 3 1 vL k (ints (negs k)) ∧ Apart2 vB vL ∧ Below w.heap.size w wr) (fun v5 _ => m - (intOf v5).toNat)
  case atStart => exact ⟨0, .slice none 0 0, .slice none 0 0, by omega, rfl, HX.out, HY.out, World.ownsRow_nil _ _ _ _, World.ownsRow_nil _ _ _ _, fun g hg => by simp [Value.ownBlock] at hg, HB0.out⟩
  case round =>
    obtain ⟨k, vB, vL, hk, rfl, hZ, hS, hoB, hoL, hap, hbr⟩ := hrel
    have HZ := hide hZ
    have HS := hide hS
    have HOB := hide hoB
    have HOL := hide hoL
    have HAP := hide hap
    have HBR := hide hbr
    have hs1 := blk_in hS
    clear hZ hS hoB hoL hap hbr HX HY HB0
    by_cases hkn : k < n
    · have hiw := h.out.below HBR.out
      obtain ⟨b, off, hA, hbb, hcz⟩ := hiw.cell2 hkn
      subst hA
      have k0 : (0 : Int) ≤ (k : Int) := by omega
      have k1 : (k : Int) < (n : Int) := by omega
      by_cases hkm : k < m
      · have HG := hide (hgood.out k hkm)
        have HTK := hide (show zs.take (k + 1) = zs.take k ++ [zs.getD k 0] from take_snoc_getD zs k (by rw [HLN.out]; exact hkn))
        generalize zs.getD k 0 = z at *
        have HBZ := hide (fun W => HRB.out z W)
        rw [HG.out] at HBZ
        obtain ⟨s0, s1, s2, s3, sl⟩ := four_of HS.out
        have q0 := frozen_of_row wr (w.heap.size + 1) 0 _ _ HS.out
        go_wp2_with fail
        refine (HBZ.out _).mono ?_
        rintro e w' ⟨rfl, rfl⟩
        go_wp2_with fail
        go_region_law (refine step_append_any (o := ⟨some 30, _, _, _, _, _⟩) _ rfl (.tmp 24) (.tmp 29) 22 rfl (w.heap.size + 2) 3 i0 _ 1 8 Try.underlying22 hi0 hz0 hz1 hz2 rfl (by decide) vB k (ints (zs.take k)) rfl (HOB.out.alloc _) (wr.heap.size + 1) (some ⟨wr.heap.size, 0, none⟩) 1 1 [.int .i64 z] rfl (reads_one wr _ _) (by simp [Value.oneCell']) (by unfold maxLen; omega) (by omega) (by simp; omega) ?_; intro v1 w1 hown1 hg1 hat1; obtain ⟨A1, cap1, hv1⟩ := own_slice hown1; subst hv1; have hB1 : Below (w.heap.size + 2) wr w1 := Below.grown ((Below.refl _ _).alloc (by omega) _).drew hg1 (by simp; omega) (fun g hg => (HOB.out.lt g hg).1); have p1 := four_of ((hB1.block _ (by omega)).trans HS.out); obtain ⟨r0, r1, r2, r3, r4⟩ := p1; have r5 := frozen_of_row w1 (w.heap.size + 1) 0 _ _ ((hB1.block _ (by omega)).trans HS.out))
        all_goals
          have hs2 := hs1
          have HN1 : Hid (w1.ownsRow (w.heap.size + 2) 3 1 (.slice A1 (k + 1) cap1) (k + 1) (ints (zs.take (k + 1)))) := by rw [HTK.out, ← ints_snoc]; exact hown1
          have HN2 := hide (HAP.out.kept (HOL.out.alloc _).drew hg1)
          have HN3 := hide (HAP.out.next hat1 (fun g hg => by have := (HOL.out.lt g hg).2; show g < (wr.alloc _).heap.size; simp; omega))
          have HS1 := hide ((hB1.block _ (by omega)).trans HS.out)
          have HZ1 := hide ((hB1.block _ (by omega)).trans HZ.out)
          have HB1 := hide (HBR.out.trans (hB1.mono (by omega)))
          have hsz1 := hB1.size
          clear hown1 hg1 hat1 hB1 r0 r1 r2 r3 r4 r5 s0 s1 s2 s3 sl q0
          have MS : Hid ((w1.setCell ⟨w.heap.size + 1, 0, none⟩ (.slice A1 (k + 1) cap1)).heap[w.heap.size + 1]? = some (.cells #[.slice A1 (k + 1) cap1, .int .i64 0, vL, .slice none 0 0] 45 (0, 0))) := setF_blk HS1.out
          have MZ := hide ((Below.heap_setCell w1 ⟨w.heap.size + 1, 0, none⟩ (.slice A1 (k + 1) cap1) w.heap.size (by simp)).trans HZ1.out)
          have MB := hide (HB1.out.setCell (p := ⟨w.heap.size + 1, 0, none⟩) (by simp) (.slice A1 (k + 1) cap1))
          have MO1 := hide (setF_own HN1.out (p := ⟨w.heap.size + 1, 0, none⟩) (by simp) (.slice A1 (k + 1) cap1))
          have MO2 := hide (setF_own HN2.out (p := ⟨w.heap.size + 1, 0, none⟩) (by simp) (.slice A1 (k + 1) cap1))
          have hz2s : w.heap.size + 2 ≤ (w1.setCell ⟨w.heap.size + 1, 0, none⟩ (.slice A1 (k + 1) cap1)).heap.size := by rw [setF_size]; omega
          generalize w1.setCell ⟨w.heap.size + 1, 0, none⟩ (.slice A1 (k + 1) cap1) = W2 at *
          obtain ⟨s0, s1, s2, s3, sl⟩ := four_of MS.out
          have q2 := frozen_of_row W2 (w.heap.size + 1) 2 _ _ MS.out
          go_wp2_with (at_builtin; refine wpList_append_any _ rfl (.tmp 33) (.tmp 34) 22 rfl (w.heap.size + 2) 3 i0 _ 1 8 Try.underlying22 hi0 hz0 hz1 hz2 rfl (by decide) vL k (ints (negs k)) rfl (MO2.out.alloc _) (W2.heap.size + 1) (some ⟨W2.heap.size, 0, none⟩) 1 1 [.int .i64 (-1)] rfl (reads_one W2 _ _) (by simp [Value.oneCell']) (by unfold maxLen; omega) (by omega) (by simp; omega) ?_; intro v3 w3 hown3 hg3 hat3; obtain ⟨A3, cap3, hv3⟩ := own_slice hown3; subst hv3; have hB3 : Below (w.heap.size + 2) W2 w3 := Below.grown ((Below.refl _ _).alloc (by omega) _) hg3 (by simp; omega) (fun g hg => (MO2.out.lt g hg).1); have p3 := four_of ((hB3.block _ (by omega)).trans MS.out); obtain ⟨r0, r1, r2, r3, r4⟩ := p3; have r5 := frozen_of_row w3 (w.heap.size + 1) 2 _ _ ((hB3.block _ (by omega)).trans MS.out))
          have KS : Hid ((w3.setCell ⟨w.heap.size + 1, 2, none⟩ (.slice A3 (k + 1) cap3)).heap[w.heap.size + 1]? = some (.cells #[.slice A1 (k + 1) cap1, .int .i64 0, .slice A3 (k + 1) cap3, .slice none 0 0] 45 (0, 0))) := setF_blk ((hB3.block _ (by omega)).trans MS.out)
          have KZ := hide ((Below.heap_setCell w3 ⟨w.heap.size + 1, 2, none⟩ (.slice A3 (k + 1) cap3) w.heap.size (by simp)).trans ((hB3.block _ (by omega)).trans MZ.out))
          have KB := hide ((MB.out.trans (hB3.mono (by omega))).setCell (p := ⟨w.heap.size + 1, 2, none⟩) (by simp) (.slice A3 (k + 1) cap3))
          have KO1 := hide (setF_own (HN3.out.symm.kept (MO1.out.alloc _) hg3) (p := ⟨w.heap.size + 1, 2, none⟩) (by simp) (.slice A3 (k + 1) cap3))
          have KO2 : Hid ((w3.setCell ⟨w.heap.size + 1, 2, none⟩ (.slice A3 (k + 1) cap3)).ownsRow (w.heap.size + 2) 3 1 (.slice A3 (k + 1) cap3) (k + 1) (ints (negs (k + 1)))) := by rw [negs_succ, ← ints_snoc]; exact setF_own hown3 (p := ⟨w.heap.size + 1, 2, none⟩) (by simp) _
          have KA := hide ((HN3.out.symm.next hat3 (fun g hg => by have := (MO1.out.lt g hg).2; simp; omega)).symm)
          clear r0 r1 r2 r3 r4 r5 hown3 hg3 hat3 hB3 s0 s1 s2 s3 sl q2
          go_wp2_with fail
          go_roundw
          case rel => exact ⟨k + 1, _, _, by omega, by go_num, KZ.out, KS.out, KO1.out, KO2.out, KA.out, KB.out⟩
          case measure => simp [intOf]; omega
      · obtain rfl : k = m := by omega
        have HG := hide (hstop.out hkn)
        generalize zs.getD k 0 = z at *
        have HBZ := hide (fun W => HRB.out z W)
        rw [HG.out] at HBZ
        obtain ⟨z0, z1, z2, z3, zl⟩ := four_of HZ.out
        have q0 := frozen_of_row wr w.heap.size 0 _ _ HZ.out
        have q1 := frozen_of_row wr w.heap.size 1 _ _ HZ.out
        have q2 := frozen_of_row wr w.heap.size 2 _ _ HZ.out
        have q3 := frozen_of_row wr w.heap.size 3 _ _ HZ.out
        have HR : Hid (∀ W', Below w.heap.size w W' → NewR w W' (.returned (.tuple #[.agg #[.slice none 0 0, .int .i64 0, .slice none 0 0, .slice none 0 0], .int .i64 2])) zs k n F) := fun W' hW => .inr ⟨hkn, rfl, hW⟩
        go_wp2_with fail
        refine (HBZ.out _).mono ?_
        rintro e w' ⟨rfl, rfl⟩
        go_wp2_with fail
        refine bodyPost_ret (v := .tuple #[.agg #[.slice none 0 0, .int .i64 0, .slice none 0 0, .slice none 0 0], .int .i64 2]) (by simp [results, Try.results15, go_sem, z0, z1, z2, z3, zl]) rfl (HR.out _ ?_)
        exact (((HBR.out.setCell (p := ⟨w.heap.size, 0, none⟩) (by simp) _).setCell (p := ⟨w.heap.size, 1, none⟩) (by simp) _).setCell (p := ⟨w.heap.size, 2, none⟩) (by simp) _).setCell (p := ⟨w.heap.size, 3, none⟩) (by simp) _
    · obtain rfl : k = m := by omega
      obtain rfl : k = n := by omega
      obtain ⟨bA, bc, hvB⟩ := own_slice HOB.out
      obtain ⟨lA, lc, hvL⟩ := own_slice HOL.out
      subst hvB hvL
      obtain ⟨z0, z1, z2, z3, zl⟩ := four_of HZ.out
      obtain ⟨s0, s1, s2, s3, sl⟩ := four_of HS.out
      have q0 := frozen_of_row wr w.heap.size 0 _ _ HZ.out
      have q1 := frozen_of_row wr w.heap.size 1 _ _ HZ.out
      have q2 := frozen_of_row wr w.heap.size 2 _ _ HZ.out
      have q3 := frozen_of_row wr w.heap.size 3 _ _ HZ.out
      have HTA := hide (show zs.take k = zs from List.take_of_length_le (by rw [HLN.out]; omega))
      have HR : Hid (∀ W', (∀ {base e size n : Nat} {v : Value} {xs : List Value}, w.heap.size + 1 ≤ base → wr.ownsRow base e size v n xs → W'.ownsRow base e size v n xs) → Below w.heap.size w W' → NewR w W' (.returned (.tuple #[.agg #[.slice bA k bc, .int .i64 0, .slice lA k lc, .slice none 0 0], .int .i64 0])) zs k k F) := by
        intro W' hO hW
        have hlen := HLN.out
        have h1 := hO (Nat.le_succ _) HOB.out
        have h2 := hO (Nat.le_succ _) HOL.out
        rw [HTA.out] at h1
        rw [negs_map hlen] at h2
        refine .inl ⟨rfl, bA, bc, lA, lc, by unfold RSV RS.new; simp [hlen], rnew_at hlen hl (Ints.of_own h1 hlen (fun j hj => by have := hF.out j hj; omega)) (Ints.of_own h2 (by simp [hlen]) (fun j hj => by have := hF.out j hj; omega)) (fun i hi => hgood.out i hi), hW⟩
      go_wp2_with fail
      refine bodyPost_ret (v := .tuple #[.agg #[.slice bA k bc, .int .i64 0, .slice lA k lc, .slice none 0 0], .int .i64 0]) (by simp [results, Try.results15, go_sem, z0, z1, z2, z3, zl]) rfl (HR.out _ ?_ ?_)
      · intro base e size n v xs hb ho
        exact setF_own (setF_own (setF_own (setF_own ho (p := ⟨w.heap.size, 0, none⟩) (by simp; omega) _) (p := ⟨w.heap.size, 1, none⟩) (by simp; omega) _) (p := ⟨w.heap.size, 2, none⟩) (by simp; omega) _) (p := ⟨w.heap.size, 3, none⟩) (by simp; omega) _
      · exact (((HBR.out.setCell (p := ⟨w.heap.size, 0, none⟩) (by simp) _).setCell (p := ⟨w.heap.size, 1, none⟩) (by simp) _).setCell (p := ⟨w.heap.size, 2, none⟩) (by simp) _).setCell (p := ⟨w.heap.size, 3, none⟩) (by simp) _
end Go.Proofs.Ythahnliddoijoaa
