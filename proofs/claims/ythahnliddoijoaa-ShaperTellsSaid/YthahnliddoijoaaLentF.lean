/-
  nacellekit: LentFrame, KeptFrame, OverFrame.
-/
import Derived.Test.YthahnliddoijoaaRefB
namespace Go.Proofs.Ythahnliddoijoaa
open Go.RowKit
theorem setF_blk {w : World} {x j : Nat} {cs : Array Value} {u : Value} {t : TypeId} (h : w.heap[x]? = some (.cells cs t (0, 0))) : (w.setCell ⟨x, j, none⟩ u).heap[x]? = some (.cells (cs.setIfInBounds j u) t (0, 0)) := heap_setCell_same w x j cs t u h
theorem setF_own {w : World} {base e size n : Nat} {v : Value} {xs : List Value} (h : w.ownsRow base e size v n xs) {p : Addr} (hp : p.block < base) (u : Value) : (w.setCell p u).ownsRow base e size v n xs := by
  refine ⟨h.1, ?_⟩
  rcases h.2 with hn | ⟨g, cap, cur, hv, hb, hg, rest⟩
  · exact .inl hn
  · exact .inr ⟨g, cap, cur, hv, hb, (Below.heap_setCell _ _ _ _ (by omega)).trans hg, rest⟩
theorem setF_low {w : World} {base base' e size n : Nat} {v : Value} {xs : List Value} (h : w.ownsRow base e size v n xs) (hb : base' ≤ base) : w.ownsRow base' e size v n xs := by
  refine ⟨h.1, ?_⟩
  rcases h.2 with hn | ⟨g, cap, cur, hv, hb', hg, rest⟩
  · exact .inl hn
  · exact .inr ⟨g, cap, cur, hv, Nat.le_trans hb hb', hg, rest⟩
theorem boxF2 {w w1 : World} {X Y : Obj} (hb : Below ((w.alloc X).alloc Y).heap.size ((w.alloc X).alloc Y) w1) :
    w1.heap[w.heap.size]? = some X ∧ w1.heap[w.heap.size + 1]? = some Y ∧ w.heap.size + 2 ≤ w1.heap.size ∧ Below w.heap.size w w1 := by
  have h1 : (w.alloc X).heap[w.heap.size]? = some X := heap_alloc_new w X
  have h2 : ((w.alloc X).alloc Y).heap[w.heap.size + 1]? = some Y := by have := heap_alloc_new (w.alloc X) Y; rw [World.size_alloc] at this; exact this
  have s : ((w.alloc X).alloc Y).heap.size = w.heap.size + 2 := by simp
  have a1 : ((w.alloc X).alloc Y).heap[w.heap.size]? = some X := (Below.heap_alloc _ _ _ (by simp)).trans h1
  rw [s] at hb
  exact ⟨(hb.block _ (by omega)).trans a1, (hb.block _ (by omega)).trans h2, by have := hb.size; omega, (((Below.refl _ _).alloc (Nat.le_refl _) X).alloc (by simp) Y).trans (hb.mono (by omega))⟩
theorem boxF1 {w w1 : World} {X : Obj} (hb : Below (w.alloc X).heap.size (w.alloc X) w1) : w1.heap[w.heap.size]? = some X ∧ w.heap.size + 1 ≤ w1.heap.size ∧ Below w.heap.size w w1 := by
  have h1 : (w.alloc X).heap[w.heap.size]? = some X := heap_alloc_new w X
  have s : (w.alloc X).heap.size = w.heap.size + 1 := by simp
  rw [s] at hb
  exact ⟨(hb.block _ (by omega)).trans h1, by have := hb.size; omega, ((Below.refl _ _).alloc (Nat.le_refl _) X).trans (hb.mono (by omega))⟩
/-- A frame's payload, lent: a row of the call's own with marks behind it. -/
def LentB (w : World) (B g n c : Nat) (bs : List Int) : Prop := w.ownsRow B 5 1 (.slice (some ⟨g, 0, none⟩) (n + 12) c) (n + 12) (u8s (bs ++ mks mkB 1 12))
theorem LentB.bts {w : World} {B g n c : Nat} {bs : List Int} {F : Nat → Prop} (h : LentB w B g n c bs) (hl : bs.length = n) (hF : ∀ k, F k → k < B) : Bts w (some ⟨g, 0, none⟩) n bs F := by
  obtain ⟨g', c', hv, hb, hg, -, -⟩ := slice_of_own h (by omega)
  injection hv with e1 e2 e3
  injection e1 with e1
  injection e1 with e1
  subst e1
  refine ⟨hl, fun hn => ⟨g, 0, rfl, fun hf => by have := hF g hf; omega, hg, fun i z hz => ?_⟩⟩
  have hi : i < n := by rw [← hl]; exact (List.getElem?_eq_some_iff.1 hz).1
  rw [Nat.zero_add]
  exact at_own h (by omega) (by unfold u8s; rw [List.getElem?_map, List.getElem?_append_left (by omega), hz]; rfl)
set_option maxRecDepth 100000 in
set_option maxHeartbeats 1000000 in
theorem lentFrame_any (vl net seq : Int) (A : Option Addr) (n cap : Nat) (bs : List Int) (F : Nat → Prop) (w : World) (hn : n ≤ 1000000) (h : Hid (Bts w A n bs F)) :
    Calls Try.prog 34 #[frameV vl net seq A n cap] w fun e w' => ∃ g c, e = .returned (frameV vl net seq (some ⟨g, 0, none⟩) n c) ∧ LentB w' w.heap.size g n c bs ∧ Below w.heap.size w w' := by
  have HL := hide (fun (W : World) (hW : Hid (Bts W A n bs F)) => lentBytes_any A n cap bs F W hn hW)
  unfold frameV
  go_enter Try.func34, Try.ntmps34
  go_wp2_with fail
  refine (HL.out _ (hide (h.out.swap (F' := F) (G := fun _ => False) (((Kept.refl _ w).alloc _).alloc _) (fun _ h => h.elim) (fun _ h => .inl h)))).mono ?_
  rintro e w1 ⟨g, c, rfl, hown, hb⟩
  obtain ⟨hX, hY, hsz, hbl⟩ := boxF2 hb
  obtain ⟨x0, x1, x2, x3, xl⟩ := four_of hX
  obtain ⟨y0, y1, y2, y3, yl⟩ := four_of hY
  have f3 := frozen_of_row w1 w.heap.size 3 _ _ hX
  have g0 := frozen_of_row w1 (w.heap.size + 1) 0 _ _ hY
  have g1 := frozen_of_row w1 (w.heap.size + 1) 1 _ _ hY
  have g2 := frozen_of_row w1 (w.heap.size + 1) 2 _ _ hY
  have g3 := frozen_of_row w1 (w.heap.size + 1) 3 _ _ hY
  have HO := hide hown
  have HB := hide hbl
  have hne : w.heap.size ≠ w.heap.size + 1 := by omega
  clear hown hb hX hY hbl
  go_wp2_with fail
  refine bodyPost_ret (v := .agg #[.int .i64 vl, .int .i64 net, .int .i64 seq, .slice (some ⟨g, 0, none⟩) n c]) (by simp [results, Try.results34, go_sem, y0, y1, y2, y3, yl]) rfl ⟨g, c, rfl, ?_, ?_⟩
  · have hO2 : w1.ownsRow (w.heap.size + 2) 5 1 (.slice (some ⟨g, 0, none⟩) (n + 12) c) (n + 12) (u8s (bs ++ mks mkB 1 12)) := by simpa using HO.out
    exact setF_low (setF_own (setF_own (setF_own (setF_own (setF_own hO2 (p := ⟨w.heap.size, 3, none⟩) (by simp) _) (p := ⟨w.heap.size + 1, 0, none⟩) (by simp) _) (p := ⟨w.heap.size + 1, 1, none⟩) (by simp) _) (p := ⟨w.heap.size + 1, 2, none⟩) (by simp) _) (p := ⟨w.heap.size + 1, 3, none⟩) (by simp) _) (by omega)
  · exact ((((HB.out.setCell (p := ⟨w.heap.size, 3, none⟩) (by simp) _).setCell (p := ⟨w.heap.size + 1, 0, none⟩) (by simp) _).setCell (p := ⟨w.heap.size + 1, 1, none⟩) (by simp) _).setCell (p := ⟨w.heap.size + 1, 2, none⟩) (by simp) _).setCell (p := ⟨w.heap.size + 1, 3, none⟩) (by simp) _
set_option maxRecDepth 100000 in
set_option maxHeartbeats 1000000 in
theorem keptFrame_any (vl net seq : Int) (A : Option Addr) (B n dc g c : Nat) (bs : List Int) (F : Nat → Prop) (w : World) (hn : n ≤ 1000000) (h : Hid (Bts w A n bs F)) (hL : Hid (LentB w B g n c bs)) :
    Calls Try.prog 36 #[frameV vl net seq (some ⟨g, 0, none⟩) n c, frameV vl net seq A n dc] w fun e w' => e = .returned (.bool true) ∧ Below w.heap.size w w' := by
  have hlen := h.out.1
  have HS := hide (fun (W : World) (hb : Below w.heap.size w W) => sameFrame_nums vl net seq (some ⟨g, 0, none⟩) A n n c dc bs bs (fun _ => False) F W (by omega) (by omega) (hide ((hL.out.bts hlen (F := fun _ => False) (fun _ h => h.elim)).kept (G := fun _ => False) (.of_below hb) (fun _ h => h.elim))) (hide (h.out.kept (G := fun _ => False) (.of_below hb) (fun _ h => h.elim))))
  have HK := hide (fun (W : World) (hb : Below w.heap.size w W) (hO : Hid (W.ownsRow B 5 1 (.slice (some ⟨g, 0, none⟩) (n + 12) c) (n + 12) (u8s (bs ++ mks mkB 1 12)))) => keptBytes_any A B n dc g c bs F W hn (hide (h.out.kept (G := fun _ => False) (.of_below hb) (fun _ h => h.elim))) hO)
  have HOW := hide (fun (W : World) (hb : Below w.heap.size w W) => (hL.out : w.ownsRow _ _ _ _ _ _).kept (w' := W) (row := none) ⟨hb.os, hb.tape, hb.output, hb.size, fun i hi _ => hb.block i hi⟩ (.inr (by simp [Value.ownBlock])))
  have hbb : (bs == bs) = true := by simp
  rw [hbb] at HS
  clear hbb hlen
  unfold frameV
  go_enter Try.func36, Try.ntmps36
  go_wp2_with fail
  have hb0 := ((Below.refl w.heap.size w).alloc (Nat.le_refl _) (.cells #[.int .i64 vl, .int .i64 net, .int .i64 seq, .slice (some ⟨g, 0, none⟩) n c] 33)).alloc (by simp) (.cells #[.int .i64 vl, .int .i64 net, .int .i64 seq, .slice A n dc] 33)
  refine (HS.out _ hb0).mono ?_
  rintro e w1 ⟨rfl, hb⟩
  obtain ⟨hX, hY, hsz, hbl⟩ := boxF2 hb
  obtain ⟨x0, x1, x2, x3, xl⟩ := four_of hX
  obtain ⟨y0, y1, y2, y3, yl⟩ := four_of hY
  have HB := hide hbl
  clear hb hX hY hbl hb0
  go_wp2_with fail
  refine (HK.out _ HB.out (hide (HOW.out _ HB.out))).mono ?_
  rintro e w2 ⟨rfl, d, rfl⟩
  go_wp2_with fail
  go_ret
  exact ⟨rfl, below_drewN HB.out _⟩
set_option maxRecDepth 100000 in
set_option maxHeartbeats 1000000 in
theorem overFrame_of (vl net seq : Int) (A : Option Addr) (n c : Nat) (G : Nat → Prop) (w : World) (HC : Hid (∀ W, Below w.heap.size w W → Calls Try.prog 51 #[.slice A n c] W fun e w' => e = .returned (.tuple #[]) ∧ Kept G W w')) :
    Calls Try.prog 37 #[frameV vl net seq A n c] w fun e w' => e = .returned (.tuple #[]) ∧ Kept G w w' := by
  unfold frameV
  have hb0 := (Below.refl w.heap.size w).alloc (Nat.le_refl _) (.cells #[.int .i64 vl, .int .i64 net, .int .i64 seq, .slice A n c] 33)
  have HB0 := hide hb0
  clear hb0
  go_enter Try.func37, Try.ntmps37
  go_wp2_with fail
  refine (HC.out _ HB0.out).mono ?_
  rintro e w1 ⟨rfl, hk⟩
  have HK := hide hk
  clear hk
  go_wp2_with fail
  go_end0
  exact ⟨rfl, (Kept.of_below HB0.out).trans HK.out⟩
theorem overFrame_lent (vl net seq : Int) (B n g c : Nat) (bs : List Int) (w : World) (hn : n ≤ 1000000) (hL : Hid (LentB w B g n c bs)) :
    Calls Try.prog 37 #[frameV vl net seq (some ⟨g, 0, none⟩) n c] w fun e w' => e = .returned (.tuple #[]) ∧ Kept (· = g) w w' := by
  refine overFrame_of vl net seq _ n c _ w (hide fun W hW => ?_)
  have hO := (hL.out : w.ownsRow _ _ _ _ _ _).kept (w' := W) (row := none) ⟨hW.os, hW.tape, hW.output, hW.size, fun i hi _ => hW.block i hi⟩ (.inr (by simp [Value.ownBlock]))
  rcases hO.2 with ⟨-, h0⟩ | ⟨g', cap, cur, hv, hb, hg, hnc, hcm, hcs, -⟩
  · omega
  · injection hv with e1 e2 e3
    injection e1 with e1
    injection e1 with e1
    subst e1 e3
    unfold maxLen at hcm
    by_cases hc : c ≤ n + 12
    · exact overBytes_le n c g cur W hn (by omega) (by omega) hc (hide hg) (by omega)
    · exact overBytes_gt n c g cur W hn (by omega) (by omega) (by omega) (hide hg) (by omega)
theorem overFrame_full (vl net seq : Int) (g : Nat) (bs : List Int) (w : World) (hn : bs.length ≤ 1000000) (hg : Hid (w.heap[g]? = some (.cells (u8s bs).toArray 5 (0, 0)))) :
    Calls Try.prog 37 #[frameV vl net seq (some ⟨g, 0, none⟩) bs.length bs.length] w fun e w' => e = .returned (.tuple #[]) ∧ Kept (· = g) w w' := by
  refine overFrame_of vl net seq _ _ _ _ w (hide fun W hW => ?_)
  exact overBytes_le bs.length bs.length g _ W hn (by omega) (Nat.le_refl _) (by omega) (hide (keep hg.out hW)) (by simp [u8s])
theorem overFrame_nil (w : World) : Calls Try.prog 37 #[frameV 0 0 0 none 0 0] w fun e w' => e = .returned (.tuple #[]) ∧ Kept (fun _ => False) w w' :=
  overFrame_of 0 0 0 none 0 0 _ w (hide fun W _ => overBytes_nil W)
end Go.Proofs.Ythahnliddoijoaa
