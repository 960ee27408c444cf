/-
  (*queue).get: the first item leaves, its place is cleared, the queue goes on.
-/
import Derived.Test.YthahnliddoijoaaPut
import Derived.Deep.RegionHeld3
namespace Go.Proofs.Ythahnliddoijoaa
open Go.RowKit
structure Get5 (w w' : World) (b o f j : Nat) (m fr : Int) : Prop where
  cell : ∀ k, w'.cell? ⟨b, k, none⟩ = if k = o + 83 then some (.int .i64 fr) else if k = o + 81 then some (.int .i64 m) else if k = o + 80 then some (.int .i64 j) else if o + f * 5 ≤ k ∧ k < o + f * 5 + 5 then [Value.int .i64 0, .int .i64 0, .int .i64 0, .int .i64 0, .slice none 0 0][k - (o + f * 5)]? else w.cell? ⟨b, k, none⟩
  free : ∀ k, w'.frozen? ⟨b, k, none⟩ = false
  kept : Kept (· = b) w w'
set_option maxRecDepth 100000 in
set_option maxHeartbeats 2000000 in
theorem get_cells (b o f m j : Nat) (t bag u time vl net seq : Int) (dA : Option Addr) (dn dc : Nat) (w : World) (hf : f < 16) (hm : 1 ≤ m) (hm2 : m ≤ 16) (hj : Hid ((f + 1) % 16 = j)) (t0 : 0 ≤ t) (t1 : t ≤ 1073741824) (b0 : 0 ≤ bag) (b1 : bag ≤ 12800)
    (h1 : w.cell? ⟨b, o + 80, none⟩ = some (.int .i64 f)) (h2 : w.cell? ⟨b, o + 81, none⟩ = some (.int .i64 m)) (h3 : w.cell? ⟨b, o + 82, none⟩ = some (.int .i64 bag)) (h4 : w.cell? ⟨b, o + 83, none⟩ = some (.int .i64 u))
    (c0 : w.cell? ⟨b, o + f * 5, none⟩ = some (.int .i64 time)) (c1 : w.cell? ⟨b, o + f * 5 + 1, none⟩ = some (.int .i64 vl)) (c2 : w.cell? ⟨b, o + f * 5 + 2, none⟩ = some (.int .i64 net)) (c3 : w.cell? ⟨b, o + f * 5 + 3, none⟩ = some (.int .i64 seq)) (c4 : w.cell? ⟨b, o + f * 5 + 4, none⟩ = some (.slice dA dn dc))
    (fz : Hid (∀ k, w.frozen? ⟨b, k, none⟩ = false)) (hb : b < w.heap.size) :
    Calls Try.prog 42 #[.pointer (some ⟨b, o, none⟩), .int .i64 t] w fun e w' => e = .returned (.agg #[.int .i64 time, .int .i64 vl, .int .i64 net, .int .i64 seq, .slice dA dn dc]) ∧
      Get5 w w' b o f j (m - 1) (t + bag) := by
  have jlt : j < 16 := by have := hj.out; omega
  have f0 : (0 : Int) ≤ (f : Int) := by omega
  have f1 : (f : Int) < 16 := by omega
  have fn : ((f : Int)).toNat = f := by omega
  go_enter Try.func42, Try.ntmps42
  go_wp2_with fail
  have hW0 : ∀ k, (w.alloc (.cells #[.int .i64 0, .int .i64 0, .int .i64 0, .int .i64 0, .slice none 0 0] 60)).cell? ⟨b, k, none⟩ = w.cell? ⟨b, k, none⟩ := fun k => (((Below.refl w.heap.size w).alloc (Nat.le_refl _) _).cell (p := ⟨b, k, none⟩) hb)
  have hF0 := hide (fun k : Nat => ((((Below.refl w.heap.size w).alloc (Nat.le_refl _) (.cells #[.int .i64 0, .int .i64 0, .int .i64 0, .int .i64 0, .slice none 0 0] 60)).frozen (p := ⟨b, k, none⟩) hb).trans (fz.out k)))
  have hK := hide ((Kept.refl (· = b) w).alloc (.cells #[.int .i64 0, .int .i64 0, .int .i64 0, .int .i64 0, .slice none 0 0] 60))
  have hR := heap_alloc_new w (.cells #[.int .i64 0, .int .i64 0, .int .i64 0, .int .i64 0, .slice none 0 0] 60)
  have hsz : (w.alloc (.cells #[.int .i64 0, .int .i64 0, .int .i64 0, .int .i64 0, .slice none 0 0] 60)).heap.size = w.heap.size + 1 := by simp
  generalize (w.alloc (.cells #[.int .i64 0, .int .i64 0, .int .i64 0, .int .i64 0, .slice none 0 0] 60)) = W at *
  rw [← hW0] at h1 h2 h3 h4 c0 c1 c2 c3 c4
  have HW := hide hW0
  have HZ := hide hsz
  clear hW0 hsz
  have e0 := World.new_ne W _ c0
  have e1 := World.new_ne W _ h1
  go_region_held3 (fun w' => w'.cell? ⟨b, o + 80, none⟩ = some (.int .i64 f) ∧ w'.cell? ⟨b, o + f * 5, none⟩ = some (.int .i64 time) ∧ w'.cell? ⟨b, o + f * 5 + 1, none⟩ = some (.int .i64 vl) ∧ w'.cell? ⟨b, o + f * 5 + 2, none⟩ = some (.int .i64 net) ∧ w'.cell? ⟨b, o + f * 5 + 3, none⟩ = some (.int .i64 seq) ∧ w'.cell? ⟨b, o + f * 5 + 4, none⟩ = some (.slice dA dn dc)) (go_keep) (fail)
  have hne1 : b < W.heap.size := by have := HZ.out; omega
  have hA0 : ∀ k, (W.alloc (.cells #[.int .i64 time, .int .i64 vl, .int .i64 net, .int .i64 seq, .slice dA dn dc] 60)).drew.cell? ⟨b, k, none⟩ = W.cell? ⟨b, k, none⟩ := fun k => (((Below.refl W.heap.size W).alloc (Nat.le_refl _) _).drew.cell (p := ⟨b, k, none⟩) hne1)
  have hA1 := hide (fun k : Nat => ((((Below.refl W.heap.size W).alloc (Nat.le_refl _) (.cells #[.int .i64 time, .int .i64 vl, .int .i64 net, .int .i64 seq, .slice dA dn dc] 60)).drew.frozen (p := ⟨b, k, none⟩) hne1).trans (hF0.out k)))
  have hA2 := hide ((hK.out.alloc (.cells #[.int .i64 time, .int .i64 vl, .int .i64 net, .int .i64 seq, .slice dA dn dc] 60)).drew)
  have hA3 : (W.alloc (.cells #[.int .i64 time, .int .i64 vl, .int .i64 net, .int .i64 seq, .slice dA dn dc] 60)).drew.heap[W.heap.size]? = some (.cells #[.int .i64 time, .int .i64 vl, .int .i64 net, .int .i64 seq, .slice dA dn dc] 60) := heap_alloc_new W _
  have hA4 : (W.alloc (.cells #[.int .i64 time, .int .i64 vl, .int .i64 net, .int .i64 seq, .slice dA dn dc] 60)).drew.heap[w.heap.size]? = some (.cells #[.int .i64 0, .int .i64 0, .int .i64 0, .int .i64 0, .slice none 0 0] 60) := (Below.heap_alloc W _ _ (by have := HZ.out; omega)).trans hR
  have hA5 : w.heap.size < W.heap.size := by have := HZ.out; omega
  clear hR hK hF0
  generalize hV : (W.alloc (.cells #[.int .i64 time, .int .i64 vl, .int .i64 net, .int .i64 seq, .slice dA dn dc] 60)).drew = V at *
  clear hV
  rw [← hA0] at h1 h2 h3 h4
  have HWV := hide (fun k => (hA0 k).trans (HW.out k))
  obtain ⟨g, hg⟩ : ∃ g, g = W.heap.size := ⟨_, rfl⟩
  obtain ⟨r, hr⟩ : ∃ r, r = w.heap.size := ⟨_, rfl⟩
  rw [← hg] at hne1 hA3 hA5 ⊢
  rw [← hr] at hA4 hA5 ⊢
  have hbr : b < r := by rw [hr]; exact hb
  have hrw : w.heap.size ≤ r := by omega
  have HI : Hid (∀ i, i < 5 → (w.cell? ⟨b, o + f * 5 + i, none⟩).isSome = true) := by
    intro i hi
    rw [← HW.out]
    have h5 : i = 0 ∨ i = 1 ∨ i = 2 ∨ i = 3 ∨ i = 4 := by omega
    rcases h5 with rfl | rfl | rfl | rfl | rfl
    · rw [Nat.add_zero, c0]; rfl
    · rw [c1]; rfl
    · rw [c2]; rfl
    · rw [c3]; rfl
    · rw [c4]; rfl
  rename_i hHeld; clear hHeld
  clear hA0 HW HZ hg hr e0 e1 c0 c1 c2 c3 c4 hb
  go_wp2_with fail
  refine wp_region_still_tail 9 (by kernel_rfl) (by kernel_rfl) ?_
  simp only [List.take_succ_cons, List.take_zero, List.drop_succ_cons, List.drop_zero]
  change wpStill _ _ V.drew _ _ _
  repeat (refine wpStill_step (fun K hK => ?_); go_simp; refine hK _ ?_; clear hK K)
  refine wpStill_nil ?_
  change wpList _ _ _ _ _ V.drew
  have hIS : ∀ i, i < 5 → (V.cell? ⟨b, o + f * 5 + i, none⟩).isSome = true := by
    intro i hi
    rw [HWV.out]
    exact HI.out i hi
  have ht : V.drew.there b (o + f * 5) 5 := fun i hi => ⟨hIS i hi, hA1.out _⟩
  refine wpList_store_mid rfl 60 (.tmp 23) (.tmp 20) rfl b (o + f * 5) #[.int .i64 0, .int .i64 0, .int .i64 0, .int .i64 0, .slice none 0 0] rfl rfl ht (by kernel_rfl) (by kernel_rfl) ?_
  have hcc := cells_at (w := V.drew) (b := b) (o := o + f * 5) (vs := [.int .i64 0, .int .i64 0, .int .i64 0, .int .i64 0, .slice none 0 0]) (fun i hi => (ht i hi).1)
  clear ht hIS
  have h1' : (V.drew.setCells b (o + f * 5) [.int .i64 0, .int .i64 0, .int .i64 0, .int .i64 0, .slice none 0 0]).cell? ⟨b, o + 80, none⟩ = some (.int .i64 f) := by rw [hcc, if_neg (by simp only [List.length_cons, List.length_nil]; omega)]; exact h1
  have h2' : (V.drew.setCells b (o + f * 5) [.int .i64 0, .int .i64 0, .int .i64 0, .int .i64 0, .slice none 0 0]).cell? ⟨b, o + 81, none⟩ = some (.int .i64 m) := by rw [hcc, if_neg (by simp only [List.length_cons, List.length_nil]; omega)]; exact h2
  have h3' : (V.drew.setCells b (o + f * 5) [.int .i64 0, .int .i64 0, .int .i64 0, .int .i64 0, .slice none 0 0]).cell? ⟨b, o + 82, none⟩ = some (.int .i64 bag) := by rw [hcc, if_neg (by simp only [List.length_cons, List.length_nil]; omega)]; exact h3
  have h4' : (V.drew.setCells b (o + f * 5) [.int .i64 0, .int .i64 0, .int .i64 0, .int .i64 0, .slice none 0 0]).cell? ⟨b, o + 83, none⟩ = some (.int .i64 u) := by rw [hcc, if_neg (by simp only [List.length_cons, List.length_nil]; omega)]; exact h4
  have hF2 := hide (fun k : Nat => (World.frozen?_setCells b [.int .i64 0, .int .i64 0, .int .i64 0, .int .i64 0, .slice none 0 0] (o + f * 5) V.drew ⟨b, k, none⟩).trans (hA1.out k))
  have hK2 := hide (Kept.setCells (F := (· = b)) (a := w) b (.inl rfl) [.int .i64 0, .int .i64 0, .int .i64 0, .int .i64 0, .slice none 0 0] (o + f * 5) _ hA2.out.drew)
  have hKV := (Kept.setCells (F := (· = b)) (a := V) b (.inl rfl) [.int .i64 0, .int .i64 0, .int .i64 0, .int .i64 0, .slice none 0 0] (o + f * 5) _ ((Kept.refl _ V).drew))
  have hg2 := (hKV.block g (Array.getElem?_eq_some_iff.1 hA3).1 (by omega)).trans hA3
  have hr2 := (hKV.block r (Array.getElem?_eq_some_iff.1 hA4).1 (by omega)).trans hA4
  have HC := hide hcc
  have HWV2 := HWV
  clear hcc hKV hA3 hA4 hA1 hA2 h1 h2 h3 h4 HWV
  change wpList _ _ _ _ _ (V.drew.setCells b (o + f * 5) [.int .i64 0, .int .i64 0, .int .i64 0, .int .i64 0, .slice none 0 0])
  generalize V.drew.setCells b (o + f * 5) [.int .i64 0, .int .i64 0, .int .i64 0, .int .i64 0, .slice none 0 0] = W2 at *
  have x0 := cell_of_row W2 g 0 _ _ _ hg2
  have x1 := cell_of_row W2 g 1 _ _ _ hg2
  have x2 := cell_of_row W2 g 2 _ _ _ hg2
  have x3 := cell_of_row W2 g 3 _ _ _ hg2
  have x4 := cell_of_row W2 g 4 _ _ _ hg2
  have y0 := cell_of_row W2 r 0 _ _ _ hr2
  have y1 := cell_of_row W2 r 1 _ _ _ hr2
  have y2 := cell_of_row W2 r 2 _ _ _ hr2
  have y3 := cell_of_row W2 r 3 _ _ _ hr2
  have y4 := cell_of_row W2 r 4 _ _ _ hr2
  simp only [List.getElem?_toArray, List.getElem?_cons_succ, List.getElem?_cons_zero] at x0 x1 x2 x3 x4 y0 y1 y2 y3 y4
  have hrf := hide (fun i => frozen_of_row W2 r i _ _ hr2)
  have z0 := hrf.out 0
  have z1 := hrf.out 1
  have z2 := hrf.out 2
  have z3 := hrf.out 3
  have z4 := hrf.out 4
  have q0 := hF2.out (o + 80)
  have q1 := hF2.out (o + 81)
  have q2 := hF2.out (o + 83)
  have s1 : IntKind.i64.wrap ((f : Int) + 1) = (f : Int) + 1 := by apply IntWalk.i64_in <;> omega
  have s2 : ((f : Int) + 1).tmod 16 = (j : Int) := by rw [Int.tmod_eq_emod_of_nonneg (by omega)]; have := hj.out; omega
  have hm0 : 0 ≤ (m : Int) - 1 := by omega
  clear hg2 hr2
  go_wp2_with fail
  have hrb : r ≠ b := by omega
  refine bodyPost_ret (v := .agg #[.int .i64 time, .int .i64 vl, .int .i64 net, .int .i64 seq, .slice dA dn dc]) (by simp [results, Try.results42, go_sem, y0, y1, y2, y3, y4]) rfl ⟨rfl, ?_, ?_, ?_⟩
  · intro k
    have far : ∀ (w : World) (i : Nat) (v : Value), (w.setCell ⟨r, i, none⟩ v).cell? ⟨b, k, none⟩ = w.cell? ⟨b, k, none⟩ := fun w i v => World.cell?_setCell_other _ _ _ _ (by intro he; exact hrb (congrArg Addr.block he))
    rw [far, far, far, far, far]
    rw [cell_set_at (y := .int .i64 u) (by rw [cell_set_at (y := .int .i64 m) (by rw [cell_set_at h1', if_neg (by omega)]; exact h2'), if_neg (by omega), cell_set_at h1', if_neg (by omega)]; exact h4')]
    rw [cell_set_at (y := .int .i64 m) (by rw [cell_set_at h1', if_neg (by omega)]; exact h2')]
    rw [cell_set_at h1', HC.out k]
    simp only [List.length_cons, List.length_nil]
    rw [show V.drew.cell? ⟨b, k, none⟩ = w.cell? ⟨b, k, none⟩ from HWV2.out k]
  · intro k
    rw [World.frozen?_setCell, World.frozen?_setCell, World.frozen?_setCell, World.frozen?_setCell, World.frozen?_setCell, World.frozen?_setCell, World.frozen?_setCell, World.frozen?_setCell]; exact hF2.out k
  · exact (((((((hK2.out.setCell (.inl rfl) _).setCell (.inl rfl) _).setCell (.inl rfl) _).setCell (.inr hrw) _).setCell (.inr hrw) _).setCell (.inr hrw) _).setCell (.inr hrw) _).setCell (.inr hrw) _
end Go.Proofs.Ythahnliddoijoaa
