/-
  frame, leaves.
-/
import Derived.Test.YthahnliddoijoaaSame
namespace Go.Proofs.Ythahnliddoijoaa
open Go.RowKit
set_option maxRecDepth 100000 in
set_option maxHeartbeats 1000000 in
theorem frame_any (vl tag : Int) (w : World) :
    Calls Try.prog 8 #[.int .i64 vl, .int .u8 tag] w fun e w' => ∃ g, e = .returned (.agg #[.int .i64 vl, .int .i64 0, .int .i64 0, .slice (some ⟨g, 0, none⟩) 1 1]) ∧ w.heap.size ≤ g ∧ w'.heap[g]? = some (.cells (u8s [tag]).toArray 5 (0, 0)) ∧ Below w.heap.size w w' := by
  go_enter Try.func8, Try.ntmps8
  go_wp2_with fail
  refine bodyPost_ret (v := .agg #[.int .i64 vl, .int .i64 0, .int .i64 0, .slice (some ⟨w.heap.size + 1, 0, none⟩) 1 1]) (by simp [results, Try.results8, go_sem]) rfl ⟨w.heap.size + 1, rfl, by omega, ?_, ?_⟩
  · have := heap_alloc_new (w.alloc (.cells #[.int .i64 vl, .int .i64 0, .int .i64 0, .slice (some ⟨w.heap.size + 1, 0, none⟩) 1 1] 33)) (.cells #[.int .u8 tag] 5)
    rw [World.size_alloc] at this
    exact this
  · exact ((Below.refl _ _).alloc (Nat.le_refl _) _).alloc (by simp) _
/-- A shaper of the call's own: all of it lies from block B on. -/
structure OwnSh (B : Nat) (w0 w : World) (a : Nat) (S : AS) (P : Nat → Prop) : Prop where
  at_ : SAt w a S P
  own : ∀ k, P k → B ≤ k
  bel : Below B w0 w
theorem SAt.inn {w : World} {a : Nat} {S : AS} {P : Nat → Prop} (h : SAt w a S P) (k : Nat) (hk : P k) : k < w.heap.size := by
  obtain ⟨_, _, _, _, _, h⟩ := h; exact h.inn k hk
theorem OwnSh.next {B : Nat} {w0 w w' : World} {a : Nat} {S : AS} {P : Nat → Prop} (h : OwnSh B w0 w a S P) (hB : B ≤ w.heap.size) (hb : Below w.heap.size w w') : OwnSh B w0 w' a S P :=
  ⟨h.at_.below hb, h.own, h.bel.trans (hb.mono hB)⟩
theorem OwnSh.kept {B : Nat} {w0 w w' : World} {a : Nat} {S S' : AS} {P P' : Nat → Prop} (h : OwnSh B w0 w a S P) (hB : B ≤ w.heap.size) (hk : Kept P w w') (hs : SAt w' a S' P') (hP : ∀ k, P' k → P k ∨ w.heap.size ≤ k) : OwnSh B w0 w' a S' P' :=
  ⟨hs, fun k hp => by rcases hP k hp with h1 | h1; exact h.own k h1; omega, h.bel.trans (hk.below hB (fun i hi hp => by have := h.own i hp; omega))⟩
theorem OwnSh.size {B : Nat} {w0 w : World} {a : Nat} {S : AS} {P : Nat → Prop} (h : OwnSh B w0 w a S P) (hB : B ≤ w0.heap.size) : B ≤ w.heap.size := Nat.le_trans hB h.bel.size
set_option maxRecDepth 100000 in
set_option maxHeartbeats 1000000 in
theorem leaves_no (a : Nat) (S S' : AS) (P : Nat → Prop) (t : Int) (w : World) (h : Hid (SAt w a S P)) (hN : Hid (S.next t = (S', none, 0))) :
    Calls Try.prog 9 #[.pointer (some ⟨a, 0, none⟩), .int .i64 t, .int .u8 0] w fun e w' => e = .returned (.bool true) ∧ SAt w' a S' P ∧ Kept P w w' := by
  have HN := hide (next_no a S P t w h (by rw [Hid, hN.out]))
  rw [hN.out] at HN
  unfold zeroFrame at HN
  go_enter Try.func9, Try.ntmps9
  go_wp2_with fail
  refine HN.out.mono ?_
  rintro e w1 ⟨rfl, hs1, hk1⟩
  have HS1 := hide hs1
  have HK1 := hide hk1
  clear hs1 hk1
  go_wp2_with fail
  refine (sameFrame_nums 0 0 0 none none 0 0 0 0 [] [] (fun _ => False) (fun _ => False) _ (by decide) (by decide) (Bts.nil _ _) (Bts.nil _ _)).mono ?_
  rintro e w2 ⟨rfl, hb2⟩
  have HB2 := hide hb2
  clear hb2
  go_wp2_with fail
  go_ret
  exact ⟨rfl, (HS1.out.below ((Below.refl _ _).alloc (Nat.le_refl _) _)).below HB2.out, (HK1.out.alloc _).trans (.of_below HB2.out)⟩
set_option maxRecDepth 100000 in
set_option maxHeartbeats 1000000 in
theorem leaves_yes (a : Nat) (S S' : AS) (P : Nat → Prop) (t tag : Int) (x : It) (w : World) (h : Hid (SAt w a S P)) (hN : Hid (S.next t = (S', some x, 0))) (hx : Hid (x.bytes = [tag])) (h0 : (tag == 0) = false) :
    Calls Try.prog 9 #[.pointer (some ⟨a, 0, none⟩), .int .i64 t, .int .u8 tag] w fun e w' => e = .returned (.bool true) ∧ SAt w' a S' P ∧ Kept P w w' := by
  have HN := hide (next_yes a S P t x w h (by rw [Hid, hN.out]))
  rw [hN.out, hx.out] at HN
  simp only [List.length_cons, List.length_nil, Nat.zero_add] at HN
  go_enter Try.func9, Try.ntmps9
  go_wp2_with fail
  refine HN.out.mono ?_
  rintro e w1 ⟨g, rfl, hg, hgb, hs1, hk1⟩
  have hgl := blk_in hgb
  have c0 := cell_of_row _ g 0 _ _ _ hgb
  have c0' : w1.cell? ⟨g, 0, none⟩ = some (.int .u8 tag) := c0
  have HS1 := hide hs1
  have HK1 := hide hk1
  have HP := hide h.out.inn
  clear hs1 hk1 hgb c0
  go_wp2_with fail
  go_ret
  exact ⟨rfl, (HS1.out.mono (fun _ h => h.1) (fun k hk => Nat.lt_of_lt_of_le (HP.out k hk) HK1.out.size)).below ((Below.refl _ _).alloc (Nat.le_refl _) _), HK1.out.alloc _⟩
end Go.Proofs.Ythahnliddoijoaa
