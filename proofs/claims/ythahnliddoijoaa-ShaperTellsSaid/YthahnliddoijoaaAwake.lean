/-
  awake: the example of the chapter.
-/
import Derived.Test.YthahnliddoijoaaLeaves
namespace Go.Proofs.Ythahnliddoijoaa
open Go.RowKit
def i1 : It := ⟨0, 0, 0, 0, [1]⟩
def i2 : It := ⟨10, 0, 0, 0, [2]⟩
def i3 : It := ⟨20, 0, 0, 0, [3]⟩
def i4 : It := ⟨10, 1, 0, 0, [4]⟩
def aw0 : AS := ⟨0, [⟨[], 100, 0⟩, ⟨[], 200, 0⟩]⟩
def aw1 : AS := ⟨0, [⟨[i1], 100, 0⟩, ⟨[], 200, 0⟩]⟩
def aw2 : AS := ⟨10, [⟨[i1, i2], 100, 0⟩, ⟨[], 200, 0⟩]⟩
def aw3 : AS := ⟨10, [⟨[i1, i2], 100, 0⟩, ⟨[i4], 200, 0⟩]⟩
def aw4 : AS := ⟨20, [⟨[i1, i2, i3], 100, 0⟩, ⟨[i4], 200, 0⟩]⟩
def aw5 : AS := ⟨20, [⟨[i2, i3], 100, 120⟩, ⟨[i4], 200, 0⟩]⟩
def aw6 : AS := ⟨20, [⟨[i2, i3], 100, 120⟩, ⟨[], 200, 220⟩]⟩
def aw7 : AS := ⟨150, [⟨[i3], 100, 250⟩, ⟨[], 200, 220⟩]⟩
theorem aw_new : AS.new [100, 200] = aw0 := rfl
theorem aw_1 : aw0.offer 0 0 0 0 [1] = (aw1, 0) := rfl
theorem aw_2 : aw1.offer 10 0 0 0 [2] = (aw2, 0) := rfl
theorem aw_3 : aw2.offer 10 1 0 0 [4] = (aw3, 0) := rfl
theorem aw_4 : aw3.offer 20 0 0 0 [3] = (aw4, 0) := rfl
theorem aw_5 : aw4.next 20 = (aw5, some i1, 0) := rfl
theorem aw_6 : aw5.next 20 = (aw6, some i4, 0) := rfl
theorem aw_6n : aw6.next 20 = (aw6, none, 0) := rfl
theorem aw_w6 : aw6.when = some 120 := rfl
theorem aw_7 : aw6.next 150 = (aw7, some i2, 0) := rfl
theorem aw_w7 : aw7.when = some 250 := rfl
theorem aw_c0 : aw7.waiting 0 = 1 := rfl
theorem aw_c1 : aw7.waiting 1 = 0 := rfl
theorem aw_s : shapeL 100 [0, 10, 20, 400] = [0, 100, 200, 400] := rfl
theorem aw_o : orderB [0, 10, 20, 400] = true := rfl
theorem ints2 (w : World) (x y : Int) (F : Nat → Prop) (hF : ¬ F w.heap.size) : Ints (w.alloc (.cells #[.int .i64 x, .int .i64 y] 3)) (some ⟨w.heap.size, 0, none⟩) 2 [x, y] F :=
  ⟨rfl, fun _ => ⟨w.heap.size, 0, rfl, hF, by simp, fun i z hz => by
    rw [Nat.zero_add, World.cell?_alloc_new]
    match i, hz with
    | 0, hz => simpa using hz
    | 1, hz => simpa using hz⟩⟩
theorem ints4 (w : World) (x y u v : Int) (F : Nat → Prop) (hF : ¬ F w.heap.size) : Ints (w.alloc (.cells #[.int .i64 x, .int .i64 y, .int .i64 u, .int .i64 v] 3)) (some ⟨w.heap.size, 0, none⟩) 4 [x, y, u, v] F :=
  ⟨rfl, fun _ => ⟨w.heap.size, 0, rfl, hF, by simp, fun i z hz => by
    rw [Nat.zero_add, World.cell?_alloc_new]
    match i, hz with
    | 0, hz => simpa using hz
    | 1, hz => simpa using hz
    | 2, hz => simpa using hz
    | 3, hz => simpa using hz⟩⟩
theorem when120 : whenV (some 120) = .tuple #[.int .i64 120, .bool true] := rfl
theorem when250 : whenV (some 250) = .tuple #[.int .i64 250, .bool true] := rfl
set_option maxRecDepth 100000 in
set_option maxHeartbeats 2000000 in
theorem awake_any (w : World) : Calls Try.prog 4 #[] w fun e w' => e = .returned (.bool true) ∧ Below w.heap.size w w' := by
  go_enter Try.func4, Try.ntmps4
  go_wp2_with fail
  refine (new_fine _ 2 2 [100, 200] (fun _ => False) _ (hide (ints2 w 100 200 _ (fun h => h))) (by decide) (by rfl)).mono ?_
  rw [aw_new]
  rintro e w1 ⟨a, P, rfl, hs, hP, hb⟩
  have HO : Hid (OwnSh w.heap.size w w1 a aw0 P) := ⟨hs, fun k hk => by have := hP k hk; simp at this; omega, ((Below.refl _ _).alloc (Nat.le_refl _) _).trans (hb.mono (by simp))⟩
  clear hs hP hb
  go_wp2_with fail
  refine (frame_any 0 1 _).mono ?_
  rintro e wf ⟨g, rfl, hg, hgb, hb⟩
  have HOf := hide (HO.out.next (HO.out.size (Nat.le_refl _)) hb)
  have HR := hide (Bts.of_block (F := P) hgb (fun hp => by have := HO.out.at_.inn g hp; omega)).rb
  clear HO hgb hb hg
  go_wp2_with fail
  refine (offer_any a aw0 P 0 0 0 0 _ 1 1 [1] _ (hide HOf.out.at_) (by decide) HR).mono ?_
  rw [aw_1]
  rintro e wo ⟨rfl, hk, P1, hs, hP⟩
  have H1 := hide (HOf.out.kept (HOf.out.size (Nat.le_refl _)) hk hs (fun k hk => (hP k hk).imp id (·.1)))
  clear HOf HR hk hs hP
  go_wp2_with fail
  refine (frame_any 0 2 _).mono ?_
  rintro e wf ⟨g, rfl, hg, hgb, hb⟩
  have HOf := hide (H1.out.next (H1.out.size (Nat.le_refl _)) hb)
  have HR := hide (Bts.of_block (F := P1) hgb (fun hp => by have := H1.out.at_.inn g hp; omega)).rb
  clear H1 hgb hb hg
  go_wp2_with fail
  refine (offer_any a aw1 P1 10 0 0 0 _ 1 1 [2] _ (hide HOf.out.at_) (by decide) HR).mono ?_
  rw [aw_2]
  rintro e wo ⟨rfl, hk, P2, hs, hP⟩
  have H2 := hide (HOf.out.kept (HOf.out.size (Nat.le_refl _)) hk hs (fun k hk => (hP k hk).imp id (·.1)))
  clear HOf HR hk hs hP
  go_wp2_with fail
  refine (frame_any 1 4 _).mono ?_
  rintro e wf ⟨g, rfl, hg, hgb, hb⟩
  have HOf := hide (H2.out.next (H2.out.size (Nat.le_refl _)) hb)
  have HR := hide (Bts.of_block (F := P2) hgb (fun hp => by have := H2.out.at_.inn g hp; omega)).rb
  clear H2 hgb hb hg
  go_wp2_with fail
  refine (offer_any a aw2 P2 10 1 0 0 _ 1 1 [4] _ (hide HOf.out.at_) (by decide) HR).mono ?_
  rw [aw_3]
  rintro e wo ⟨rfl, hk, P3, hs, hP⟩
  have H3 := hide (HOf.out.kept (HOf.out.size (Nat.le_refl _)) hk hs (fun k hk => (hP k hk).imp id (·.1)))
  clear HOf HR hk hs hP
  go_wp2_with fail
  refine (frame_any 0 3 _).mono ?_
  rintro e wf ⟨g, rfl, hg, hgb, hb⟩
  have HOf := hide (H3.out.next (H3.out.size (Nat.le_refl _)) hb)
  have HR := hide (Bts.of_block (F := P3) hgb (fun hp => by have := H3.out.at_.inn g hp; omega)).rb
  clear H3 hgb hb hg
  go_wp2_with fail
  refine (offer_any a aw3 P3 20 0 0 0 _ 1 1 [3] _ (hide HOf.out.at_) (by decide) HR).mono ?_
  rw [aw_4]
  rintro e wo ⟨rfl, hk, P4, hs, hP⟩
  have H4 := hide (HOf.out.kept (HOf.out.size (Nat.le_refl _)) hk hs (fun k hk => (hP k hk).imp id (·.1)))
  clear HOf HR hk hs hP
  go_wp2_with fail
  refine (leaves_yes a aw4 aw5 P4 20 1 i1 _ (hide H4.out.at_) (hide aw_5) (hide rfl) rfl).mono ?_
  rintro e wl ⟨rfl, hs, hk⟩
  have H5 := hide (H4.out.kept (H4.out.size (Nat.le_refl _)) hk hs (fun k hk => .inl hk))
  clear H4 hs hk
  go_wp2_with fail
  refine (leaves_yes a aw5 aw6 P4 20 4 i4 _ (hide H5.out.at_) (hide aw_6) (hide rfl) rfl).mono ?_
  rintro e wl ⟨rfl, hs, hk⟩
  have H6 := hide (H5.out.kept (H5.out.size (Nat.le_refl _)) hk hs (fun k hk => .inl hk))
  clear H5 hs hk
  go_wp2_with fail
  refine (leaves_no a aw6 aw6 P4 20 _ (hide H6.out.at_) (hide aw_6n)).mono ?_
  rintro e wl ⟨rfl, hs, hk⟩
  have H7 := hide (H6.out.kept (H6.out.size (Nat.le_refl _)) hk hs (fun k hk => .inl hk))
  clear H6 hs hk
  go_wp2_with fail
  refine (when_any a aw6 P4 _ (hide H7.out.at_)).mono ?_
  rw [aw_w6, when120]
  rintro e wl ⟨rfl, d, rfl⟩
  have H8 := hide (H7.out.next (H7.out.size (Nat.le_refl _)) (below_drewN (Below.refl _ _) d))
  clear H7
  go_wp2_with fail
  refine (leaves_yes a aw6 aw7 P4 150 2 i2 _ (hide H8.out.at_) (hide aw_7) (hide rfl) rfl).mono ?_
  rintro e wl ⟨rfl, hs, hk⟩
  have H9 := hide (H8.out.kept (H8.out.size (Nat.le_refl _)) hk hs (fun k hk => .inl hk))
  clear H8 hs hk
  go_wp2_with fail
  refine (when_any a aw7 P4 _ (hide H9.out.at_)).mono ?_
  rw [aw_w7, when250]
  rintro e wl2 ⟨rfl, d2, rfl⟩
  have H10 := hide (H9.out.next (H9.out.size (Nat.le_refl _)) (below_drewN (Below.refl _ _) d2))
  clear H9
  generalize wl.drewN d2 = wx at *
  go_wp2_with fail
  refine (shape_fine 100 _ 4 4 [0, 10, 20, 400] (fun _ => False) _ (by decide) (hide (ints4 wx 0 10 20 400 _ (fun h => h))) (hide rfl) (hide aw_o)).mono ?_
  rw [aw_s]
  rintro e wy ⟨v, rfl, hown, hbl⟩
  obtain ⟨Ao, co, rfl, hco, hio⟩ := ints_own (F := fun _ => False) hown rfl (fun _ _ h => h)
  have HI := hide hio
  have H11 := hide (H10.out.next (H10.out.size (Nat.le_refl _)) (((Below.refl _ _).alloc (Nat.le_refl _) _).trans (hbl.mono (by simp))))
  clear hown hio hbl H10
  go_wp2_with fail
  refine (waiting_any a aw7 P4 0 _ (hide H11.out.at_)).mono ?_
  rw [aw_c0]
  rintro e wz ⟨rfl, rfl⟩
  go_wp2_with fail
  refine (waiting_any a aw7 P4 1 _ (hide H11.out.at_)).mono ?_
  rw [aw_c1]
  rintro e wz ⟨rfl, rfl⟩
  go_wp2_with fail
  refine (sameInts_any Ao _ 4 4 co 4 [0, 100, 200, 400] [0, 100, 200, 400] (fun _ => False) (fun _ => False) _ (by decide) (by decide) (hide (HI.out.below ((Below.refl _ _).alloc (Nat.le_refl _) _))) (hide (ints4 _ 0 100 200 400 _ (fun h => h)))).mono ?_
  rintro e wz ⟨rfl, d3, rfl⟩
  go_wp2_with fail
  go_ret
  exact ⟨rfl, below_drewN (H11.out.bel.alloc (H11.out.size (Nat.le_refl _)) _) _⟩
end Go.Proofs.Ythahnliddoijoaa
