/-
  lex: starts.
-/
import Derived.Test.YteghlkcgeadoaaaDoorWhile
import Derived.Laws.EntriesVeiled
namespace Go.Proofs.YteghlkcgeadoaaaDoor
open Go.RowKit
def letT : UInt8 → Bool := fun b => btwB 97 122 b || btwB 65 90 b
theorem IsT.wide {F G : Nat → Prop} {w : World} {f : Nat} {caps : Array Value} {p : UInt8 → Bool} (h : IsT F w f caps p) (hG : ∀ k, F k → G k) (hb : ∀ k, G k → k < w.heap.size) : IsT G w f caps p :=
  ⟨hb, h.enters, fun W hW b => h.says W (fun k hk => hW k (hG k hk)) b⟩
set_option maxRecDepth 100000 in
set_option maxHeartbeats 1000000 in
theorem starts_any (w : World) :
    Calls Tryd.prog 15 #[] w fun e w' => (∃ g1 g2 g3 c1 c2 c3, e = .returned (.agg #[.nilFunc, .func (.func g1) #[] c1, .func (.func g2) #[] c2, .func (.func g3) #[] c3]) ∧ IsT (fun k => w.heap.size < k ∧ k < w'.heap.size) w' g1 c1 letT ∧ IsT (fun k => w.heap.size < k ∧ k < w'.heap.size) w' g2 c2 (btwB 48 57) ∧ IsT (fun k => w.heap.size < k ∧ k < w'.heap.size) w' g3 c3 (amgB ⟨#[123, 125, 59, 44, 46, 58]⟩)) ∧ Below w.heap.size w w' := by
  have HB := hide (fun lo hi w => between_any lo hi w)
  have HA := hide (fun s w => among_any s w)
  go_enter Tryd.func15, Tryd.ntmps15
  go_wp2_with fail
  have hz0 : (w.alloc (.cells #[Value.nilFunc, Value.nilFunc, Value.nilFunc, Value.nilFunc] 50)).heap.size = w.heap.size + 1 := by simp
  have hb0 := hide ((Below.refl w.heap.size w).alloc (Nat.le_refl _) (.cells #[Value.nilFunc, Value.nilFunc, Value.nilFunc, Value.nilFunc] 50))
  have HX0 := hide (heap_alloc_new w (.cells #[Value.nilFunc, Value.nilFunc, Value.nilFunc, Value.nilFunc] 50))
  generalize hw0 : w.alloc (.cells #[Value.nilFunc, Value.nilFunc, Value.nilFunc, Value.nilFunc] 50) = w0 at *
  have HW0 := hide hw0
  clear hw0
  refine (HB.out 97 122 _).mono ?_
  rintro e w1 ⟨k1, rfl, hT1, hb1⟩
  have HT1 := hide hT1
  have HB1 := hide hb1
  have hz1 : w0.heap.size ≤ w1.heap.size := hb1.size
  clear hT1 hb1
  go_wp2_with fail
  refine (HB.out 65 90 _).mono ?_
  rintro e w2 ⟨k2, rfl, hT2, hb2⟩
  have HT2 := hide hT2
  have HB2 := hide hb2
  have hz2 : w1.heap.size ≤ w2.heap.size := hb2.size
  clear hT2 hb2
  go_wp2_with fail
  have hb3 : Below w2.heap.size w2 (w2.alloc (Obj.cells #[Value.func (Fn.func 40) #[] k1, Value.func (Fn.func 40) #[] k2] 49)) := (Below.refl _ _).alloc (Nat.le_refl _) _
  have hE := either_any w2.heap.size [⟨40, k1, btwB 97 122⟩, ⟨40, k2, btwB 65 90⟩] (fun k => w.heap.size < k ∧ k < w2.heap.size) (w2.alloc (Obj.cells #[Value.func (Fn.func 40) #[] k1, Value.func (Fn.func 40) #[] k2] 49)) (by simp) (hide (heap_alloc_new w2 _))
    (hide (by
      intro t ht
      simp only [List.mem_cons, List.not_mem_nil, or_false] at ht
      rcases ht with rfl | rfl
      · exact ((HT1.out.below HB2.out).below hb3).wide (fun k hk => ⟨by omega, by have := ((HT1.out.below HB2.out).inn k hk); omega⟩) (fun k hk => by simp; omega)
      · exact (HT2.out.below hb3).wide (fun k hk => ⟨by omega, by have := HT2.out.inn k hk; omega⟩) (fun k hk => by simp; omega)))
    (fun k hk => by simp; omega)
  have hw3 : (w2.alloc (Obj.cells #[Value.func (Fn.func 40) #[] k1, Value.func (Fn.func 40) #[] k2] 49)).heap.size = w2.heap.size + 1 := by simp
  have HE := hide hE
  have HB3 := hide hb3
  clear hE hb3
  generalize w2.alloc (Obj.cells #[Value.func (Fn.func 40) #[] k1, Value.func (Fn.func 40) #[] k2] 49) = W3 at *
  refine HE.out.mono ?_
  rintro e w4 ⟨k4, rfl, hT4, hb4⟩
  have HT4 := hide (hT4.wide (G := fun k => w.heap.size < k ∧ k < w4.heap.size) (fun k hk => ⟨by rcases hk with hk | hk | hk <;> omega, hT4.inn k hk⟩) (fun k hk => hk.2))
  have HB4 := hide hb4
  have hz4 : W3.heap.size ≤ w4.heap.size := hb4.size
  clear hT4 hb4 HE
  go_wp2_with fail
  refine (HB.out 48 57 _).mono ?_
  rintro e w5 ⟨k5, rfl, hT5, hb5⟩
  have HT5 := hide hT5
  have HB5 := hide hb5
  have hz5 : w4.heap.size ≤ w5.heap.size := hb5.size
  clear hT5 hb5
  go_wp2_with fail
  refine (HA.out _ _).mono ?_
  rintro e w6 ⟨k6, rfl, hT6, hb6⟩
  have HT6 := hide hT6
  have HB6 := hide hb6
  have hz6 : w5.heap.size ≤ w6.heap.size := hb6.size
  clear hT6 hb6
  have HBB := hide (show Below w0.heap.size w0 w6 from HB1.out.trans ((HB2.out.mono hz1).trans ((HB3.out.mono (by omega)).trans ((HB4.out.mono (by omega)).trans ((HB5.out.mono (by omega)).trans (HB6.out.mono (by omega)))))))
  have HX := hide ((HBB.out.block w.heap.size (by omega)).trans HX0.out)
  have c0 := cell_of_row w6 w.heap.size 0 _ _ _ HX.out
  have c1 := cell_of_row w6 w.heap.size 1 _ _ _ HX.out
  have c2 := cell_of_row w6 w.heap.size 2 _ _ _ HX.out
  have c3 := cell_of_row w6 w.heap.size 3 _ _ _ HX.out
  simp only [List.getElem?_toArray, List.getElem?_cons_zero, List.getElem?_cons_succ] at c0 c1 c2 c3
  have f0 := frozen_of_row w6 w.heap.size 0 _ _ HX.out
  have f1 := frozen_of_row w6 w.heap.size 1 _ _ HX.out
  have f2 := frozen_of_row w6 w.heap.size 2 _ _ HX.out
  have f3 := frozen_of_row w6 w.heap.size 3 _ _ HX.out
  have hlt : w.heap.size < w6.heap.size := by omega
  have HP : Hid (∀ w7 : World, Kept (fun k => k = w.heap.size) w6 w7 → w7.heap.size = w6.heap.size → ((∃ g1 g2 g3 c1 c2 c3, Ending.returned (Value.agg #[Value.nilFunc, Value.func (Fn.func 39) #[] k4, Value.func (Fn.func 40) #[] k5, Value.func (Fn.func 41) #[] k6]) = .returned (.agg #[.nilFunc, .func (.func g1) #[] c1, .func (.func g2) #[] c2, .func (.func g3) #[] c3]) ∧ IsT (fun k => w.heap.size < k ∧ k < w7.heap.size) w7 g1 c1 letT ∧ IsT (fun k => w.heap.size < k ∧ k < w7.heap.size) w7 g2 c2 (btwB 48 57) ∧ IsT (fun k => w.heap.size < k ∧ k < w7.heap.size) w7 g3 c3 (amgB ⟨#[123, 125, 59, 44, 46, 58]⟩)) ∧ Below w.heap.size w w7)) := by
    intro w7 hk hz
    have tr : ∀ {F : Nat → Prop} {f : Nat} {c : Array Value} {p : UInt8 → Bool}, (∀ k, F k → w.heap.size < k) → IsT F w6 f c p → IsT (fun k => w.heap.size < k ∧ k < w7.heap.size) w7 f c p := by
      intro F f c p hF h
      exact (h.keep hk.size (fun k hf => hk.block k (h.inn k hf) (by have := hF k hf; omega))).wide (fun k hf => ⟨hF k hf, by have := h.inn k hf; omega⟩) (fun k hf => hf.2)
    have e4 : anyT [⟨40, k1, btwB 97 122⟩, ⟨40, k2, btwB 65 90⟩] = letT := by funext b; simp [anyT, letT]
    have t4 := tr (fun k hf => hf.1) ((HT4.out.below HB5.out).below HB6.out)
    rw [e4] at t4
    exact ⟨⟨_, _, _, _, _, _, rfl, t4, tr (fun k hf => by omega) (HT5.out.below HB6.out), tr (fun k hf => by omega) HT6.out⟩, hb0.out.trans ((HBB.out.mono (by omega)).trans (hk.below (Nat.le_of_lt hlt) (fun i hi => by omega)))⟩
  go_wp2_with fail
  refine bodyPost_ret (v := .agg #[Value.nilFunc, Value.func (Fn.func 39) #[] k4, Value.func (Fn.func 40) #[] k5, Value.func (Fn.func 41) #[] k6]) (by simp [results, Tryd.results15, go_sem, c0, c1, c2, c3]) rfl (HP.out _ ?_ ?_)
  · exact ((((Kept.refl (fun k => k = w.heap.size) w6).setCell (p := ⟨w.heap.size, 0, none⟩) (Or.inl rfl) _).setCell (p := ⟨w.heap.size, 1, none⟩) (Or.inl rfl) _).setCell (p := ⟨w.heap.size, 2, none⟩) (Or.inl rfl) _).setCell (p := ⟨w.heap.size, 3, none⟩) (Or.inl rfl) _
  · simp [World.setCell]
end Go.Proofs.YteghlkcgeadoaaaDoor
