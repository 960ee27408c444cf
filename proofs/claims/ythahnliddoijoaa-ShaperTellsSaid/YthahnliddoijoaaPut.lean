/-
  (*queue).put: the cells of the item go to their place in the ring, the number of items is raised.
-/
import Derived.Test.YthahnliddoijoaaLeast
import Derived.Test.YthahnliddoijoaaKept
import Derived.StillTailTactics
namespace Go.Proofs.Ythahnliddoijoaa
open Go.RowKit
/-- What a store of five cells and one of one cell leave of a block. -/
structure Put5 (w w' : World) (b o1 o2 : Nat) (vs : List Value) (u : Value) : Prop where
  cell : ∀ k, w'.cell? ⟨b, k, none⟩ = if k = o2 then some u else if o1 ≤ k ∧ k < o1 + 5 then vs[k - o1]? else w.cell? ⟨b, k, none⟩
  free : ∀ k, w'.frozen? ⟨b, k, none⟩ = false
  kept : Kept (· = b) w w'
theorem cells_at {w : World} {b o : Nat} {vs : List Value} (h : ∀ j, j < vs.length → (w.cell? ⟨b, o + j, none⟩).isSome = true) (k : Nat) :
    (w.setCells b o vs).cell? ⟨b, k, none⟩ = if o ≤ k ∧ k < o + vs.length then vs[k - o]? else w.cell? ⟨b, k, none⟩ := by
  split
  · rename_i hk
    have := World.cell?_setCells_in b vs o w h (k - o) (by omega)
    rw [show o + (k - o) = k from by omega] at this
    rw [this, List.getElem?_eq_getElem]
  · exact World.cell?_setCells_out b vs o w _ (fun _ _ => by show k < o ∨ o + vs.length ≤ k; omega)
theorem cell_set_at {w : World} {b o : Nat} {y v : Value} (h : w.cell? ⟨b, o, none⟩ = some y) (k : Nat) : (w.setCell ⟨b, o, none⟩ v).cell? ⟨b, k, none⟩ = if k = o then some v else w.cell? ⟨b, k, none⟩ := by
  split
  · rename_i hk; subst hk
    exact World.cell?_setCell_same _ _ _ h
  · rename_i hk
    exact World.cell?_setCell_other _ _ _ _ (by intro he; exact hk (congrArg Addr.off he).symm)
set_option maxRecDepth 100000 in
set_option maxHeartbeats 1000000 in
theorem put_cells (b o f m j : Nat) (t vl net seq : Int) (d : Value) (hd : Hid (d.oneCell' = true)) (w : World) (hf : f < 16) (hm : m < 16) (hj : Hid ((f + m) % 16 = j)) (h1 : w.cell? ⟨b, o + 80, none⟩ = some (.int .i64 f)) (h2 : w.cell? ⟨b, o + 81, none⟩ = some (.int .i64 m))
    (hc : Hid (∀ k, k < 84 → (w.cell? ⟨b, o + k, none⟩).isSome = true)) (fz : ∀ k, w.frozen? ⟨b, k, none⟩ = false) (hb : b < w.heap.size) :
    Calls Try.prog 25 #[.pointer (some ⟨b, o, none⟩), .agg #[.int .i64 t, .int .i64 vl, .int .i64 net, .int .i64 seq, d]] w fun e w' => e = .returned (.tuple #[]) ∧
      Put5 w w' b (o + j * 5) (o + 81) [.int .i64 t, .int .i64 vl, .int .i64 net, .int .i64 seq, d] (.int .i64 (m + 1)) := by
  have jlt : j < 16 := by have := hj.out; omega
  have HF := hide (⟨fun k => by simp, (Kept.refl (· = b) w)⟩ : (∀ k : Nat, k = k) ∧ Kept (· = b) w w)
  go_enter Try.func25, Try.ntmps25
  go_wp2_with fail
  have hW0 : ∀ k, (w.alloc (.cells #[.int .i64 t, .int .i64 vl, .int .i64 net, .int .i64 seq, d] 60)).cell? ⟨b, k, none⟩ = w.cell? ⟨b, k, none⟩ := fun k => (((Below.refl w.heap.size w).alloc (Nat.le_refl _) _).cell (p := ⟨b, k, none⟩) hb)
  have hF0 : ∀ k, (w.alloc (.cells #[.int .i64 t, .int .i64 vl, .int .i64 net, .int .i64 seq, d] 60)).frozen? ⟨b, k, none⟩ = false := fun k => (((Below.refl w.heap.size w).alloc (Nat.le_refl _) _).frozen (p := ⟨b, k, none⟩) hb).trans (fz k)
  have bx := heap_alloc_new w (.cells #[.int .i64 t, .int .i64 vl, .int .i64 net, .int .i64 seq, d] 60)
  have hK := hide ((Kept.refl (· = b) w).alloc (.cells #[.int .i64 t, .int .i64 vl, .int .i64 net, .int .i64 seq, d] 60))
  generalize (w.alloc (.cells #[.int .i64 t, .int .i64 vl, .int .i64 net, .int .i64 seq, d] 60)) = W at *
  rw [← hW0] at h1 h2
  have HW := hide hW0
  clear hW0 fz HF
  have x0 := cell_of_row W w.heap.size 0 _ _ _ bx
  have x1 := cell_of_row W w.heap.size 1 _ _ _ bx
  have x2 := cell_of_row W w.heap.size 2 _ _ _ bx
  have x3 := cell_of_row W w.heap.size 3 _ _ _ bx
  have x4 := cell_of_row W w.heap.size 4 _ _ _ bx
  simp only [List.getElem?_toArray, List.getElem?_cons_succ, List.getElem?_cons_zero] at x0 x1 x2 x3 x4
  clear bx
  have f0 : (0 : Int) ≤ (f : Int) := by omega
  have f1 : (f : Int) < 16 := by omega
  have m0 : (0 : Int) ≤ (m : Int) := by omega
  have m1 : (m : Int) < 16 := by omega
  have j0 : (0 : Int) ≤ (j : Int) := by omega
  have j1 : (j : Int) < 16 := by omega
  have jn : ((j : Int)).toNat = j := by omega
  have s1 : IntKind.i64.wrap ((f : Int) + (m : Int)) = (f : Int) + (m : Int) := by apply IntWalk.i64_in <;> omega
  have s2 : ((f : Int) + (m : Int)).tmod 16 = (j : Int) := by rw [Int.tmod_eq_emod_of_nonneg (by omega)]; have := hj.out; omega
  refine wp_region_still_tail 15 (by kernel_rfl) (by kernel_rfl) ?_
  simp only [List.take_succ_cons, List.take_zero, List.drop_succ_cons, List.drop_zero]
  change wpStill _ _ W.drew _ _ _
  repeat (refine wpStill_step (fun K hK => ?_); go_simp; refine hK _ ?_; clear hK K)
  refine wpStill_nil ?_
  change wpList _ _ _ _ _ W.drew
  clear s1 s2 jn
  have ht : W.drew.there b (o + j * 5) 5 := fun i hi => ⟨by have := hc.out (j * 5 + i) (by omega); rw [← HW.out, ← Nat.add_assoc] at this; exact this, hF0 _⟩
  refine wpList_store_mid rfl 60 (.tmp 18) (.tmp 15) rfl b (o + j * 5) #[.int .i64 t, .int .i64 vl, .int .i64 net, .int .i64 seq, d] rfl rfl ht (by kernel_rfl) (all_oneCell_toArray (cs := [.int .i64 t, .int .i64 vl, .int .i64 net, .int .i64 seq, d]) (by intro v hv; simp only [List.mem_cons, List.not_mem_nil, or_false] at hv; rcases hv with rfl | rfl | rfl | rfl | rfl <;> first | rfl | exact hd.out)) ?_
  have hcc := cells_at (w := W.drew) (b := b) (o := o + j * 5) (vs := [.int .i64 t, .int .i64 vl, .int .i64 net, .int .i64 seq, d]) (fun i hi => (ht i hi).1)
  have h2' : (W.drew.setCells b (o + j * 5) [.int .i64 t, .int .i64 vl, .int .i64 net, .int .i64 seq, d]).cell? ⟨b, o + 81, none⟩ = some (.int .i64 m) := by
    rw [hcc, if_neg (by simp only [List.length_cons, List.length_nil]; omega)]; exact h2
  have hF2 : ∀ k, (W.drew.setCells b (o + j * 5) [.int .i64 t, .int .i64 vl, .int .i64 net, .int .i64 seq, d]).frozen? ⟨b, k, none⟩ = false := fun k => (World.frozen?_setCells b _ _ _ _).trans (hF0 k)
  have hK2 := hide (Kept.setCells (F := (· = b)) (a := w) b (.inl rfl) [.int .i64 t, .int .i64 vl, .int .i64 net, .int .i64 seq, d] (o + j * 5) _ hK.out.drew)
  have HC := hide hcc
  clear hcc
  generalize W.drew.setCells b (o + j * 5) [.int .i64 t, .int .i64 vl, .int .i64 net, .int .i64 seq, d] = W2 at *
  clear ht x0 x1 x2 x3 x4 h1 hF0 h2
  have Hf := hide hF2
  have fz81 := hF2 (o + 81)
  clear hF2
  go_wp2_with fail
  go_end0
  refine ⟨rfl, ?_, ?_, ?_⟩
  · intro k
    rw [cell_set_at h2']
    by_cases hk : k = o + 81
    · rw [if_pos hk, if_pos hk]
    · rw [if_neg hk, if_neg hk, HC.out k]
      simp only [List.length_cons, List.length_nil]
      split
      · rfl
      · exact HW.out k
  · intro k; rw [World.frozen?_setCell]; exact Hf.out k
  · exact hK2.out.setCell (p := ⟨b, o + 81, none⟩) (.inl rfl) _
end Go.Proofs.Ythahnliddoijoaa
