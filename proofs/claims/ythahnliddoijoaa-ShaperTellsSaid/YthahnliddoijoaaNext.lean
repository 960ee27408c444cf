/-
  Next.
-/
import Derived.Test.YthahnliddoijoaaOffer
namespace Go.Proofs.Ythahnliddoijoaa
open Go.RowKit
theorem AS.bestTo_now (S : AS) (t : Int) (k : Nat) : ({ S with now := t } : AS).bestTo k = S.bestTo k := by
  induction k with
  | zero => rfl
  | succ k ih => unfold AS.bestTo; rw [ih]; rfl
theorem AS.best_now (S : AS) (t : Int) : ({ S with now := t } : AS).best = S.best := AS.bestTo_now S t _
theorem AS.next_cases (S : AS) (t : Int) :
    (S.late t = true ∧ S.next t = (S, none, 2)) ∨
    (S.late t = false ∧ S.best = none ∧ S.next t = ({ S with now := t }, none, 0)) ∨
    (∃ k x l, S.late t = false ∧ S.best = some k ∧ k < S.qs.length ∧ (S.at k).items = x :: l ∧ t < (S.at k).rel ∧ S.next t = ({ S with now := t }, none, 0)) ∨
    (∃ k x l, S.late t = false ∧ S.best = some k ∧ k < S.qs.length ∧ (S.at k).items = x :: l ∧ ¬ t < (S.at k).rel ∧ S.next t = (({ S with now := t } : AS).get k t, some x, 0)) := by
  unfold AS.next
  cases hl : S.late t
  · rw [if_neg (by simp)]
    cases hb : S.best with
    | none => exact .inr (.inl ⟨rfl, rfl, rfl⟩)
    | some k =>
      obtain ⟨hk, hn⟩ := AS.best_some hb
      cases hx : (S.at k).items with
      | nil => exact (hn hx).elim
      | cons x l =>
        simp only
        by_cases hr : t < (S.at k).rel
        · rw [if_pos hr]; exact .inr (.inr (.inl ⟨k, x, l, trivial, rfl, hk, hx, hr, rfl⟩))
        · rw [if_neg hr]; exact .inr (.inr (.inr ⟨k, x, l, trivial, rfl, hk, hx, hr, by rw [hx]; rfl⟩))
  · rw [if_pos rfl]; exact .inl ⟨rfl, rfl⟩
def zeroFrame : Value := .agg #[.int .i64 0, .int .i64 0, .int .i64 0, .slice none 0 0]
theorem AS.at_get {S : AS} {k : Nat} (hk : k < S.qs.length) (t : Int) (i : Nat) : (S.get k t).at i = if i = k then { (S.at k) with items := (S.at k).items.tail, from_ := t + (S.at k).bag } else S.at i := AS.at_set S _ k _ i hk
theorem AS.len_get (S : AS) (k : Nat) (t : Int) : (S.get k t).qs.length = S.qs.length := by simp [AS.get]
def tailG (G : Nat → Nat → Nat) (k : Nat) : Nat → Nat → Nat := fun i j => if i = k then G i (j + 1) else G i j
theorem SH.get {w w' : World} {a : Nat} {S : AS} {P : Nat → Prop} {A : Option Addr} {b cap : Nat} {D : Nat → Nat → Value} {G : Nat → Nat → Nat} (h : SH w a S P A b cap D G) (k : Nat) (hk : k < S.qs.length) (x : It) (l : List It) (hx : (S.at k).items = x :: l) (t : Int)
    (hsq : SQ w' A b S.qs.length (S.get k t) (tailD D k)) (hkp : Kept (· = b) w w') :
    SH w' a (S.get k t) (fun q => P q ∧ q ≠ G k 0) A b cap (tailD D k) (tailG G k) ∧ w'.heap[G k 0]? = some (.cells (u8s x.bytes).toArray 5 (0, 0)) ∧ P (G k 0) := by
  have hn : 0 < S.qs.length := by omega
  have hb := h.pb hn
  have hl := AS.len_get S k t
  have hlen : ∀ i, i ≠ k → ((S.get k t).at i).items = (S.at i).items := fun i hi => by rw [AS.at_get hk, if_neg hi]
  have hlenk : ((S.get k t).at k).items = l := by rw [AS.at_get hk, if_pos rfl]; show (S.at k).items.tail = l; rw [hx]; rfl
  obtain ⟨-, q2, q3, q4, q5⟩ := h.dat k 0 x hk (by rw [hx]; rfl)
  have old : ∀ i j y, i < S.qs.length → (S.at i).items[j]? = some y → w'.heap[G i j]? = some (.cells (u8s y.bytes).toArray 5 (0, 0)) ∧ P (G i j) ∧ G i j ≠ a ∧ G i j ≠ b := fun i j y hi hy => by
    obtain ⟨_, h2, h3, h4, h5⟩ := h.dat i j y hi hy
    exact ⟨(hkp.block _ (blk_in h2) h5).trans h2, h3, h4, h5⟩
  have lk : (S.at k).items.length = l.length + 1 := by rw [hx]; rfl
  refine ⟨⟨?_, by rw [hl]; exact hsq, fun i j y hi hy => ?_, fun i j i' j' hi hi' hj hj' he => ?_, ⟨h.pa, q4.symm⟩, fun _ => ⟨⟨hb.1, q5.symm⟩, hb.2⟩, ⟨h.ok.1, fun i hi => ?_⟩, fun q hq => Nat.lt_of_lt_of_le (h.inn q hq.1) hkp.size⟩, (hkp.block _ (blk_in q2) q5).trans q2, q3⟩
  · rw [hl]; exact (hkp.block a (blk_in h.head) (fun e => hb.2 e.symm)).trans h.head
  · rw [hl] at hi
    unfold tailD tailG
    by_cases hik : i = k
    · subst hik
      rw [hlenk] at hy
      rw [if_pos rfl, if_pos rfl]
      have hy2 : (S.at i).items[j + 1]? = some y := by rw [hx]; simpa using hy
      obtain ⟨h1, -⟩ := h.dat i (j + 1) y hi hy2
      obtain ⟨h2, h3, h4⟩ := old i (j + 1) y hi hy2
      refine ⟨h1, h2, ⟨h3, fun e => ?_⟩, h4⟩
      have := h.apart i (j + 1) i 0 hi hi (List.getElem?_eq_some_iff.1 hy2).1 (by omega) e
      omega
    · rw [hlen i hik] at hy
      rw [if_neg hik, if_neg hik]
      obtain ⟨h1, -⟩ := h.dat i j y hi hy
      obtain ⟨h2, h3, h4⟩ := old i j y hi hy
      refine ⟨h1, h2, ⟨h3, fun e => ?_⟩, h4⟩
      have := h.apart i j k 0 hi hk (List.getElem?_eq_some_iff.1 hy).1 (by omega) e
      omega
  · rw [hl] at hi hi'
    have side : ∀ i j, i < S.qs.length → j < ((S.get k t).at i).items.length → (if i = k then j + 1 else j) < (S.at i).items.length ∧ tailG G k i j = G i (if i = k then j + 1 else j) := fun i j hi hj => by
      unfold tailG
      by_cases hik : i = k
      · subst hik; rw [hlenk] at hj; rw [if_pos rfl, if_pos rfl]; exact ⟨by omega, rfl⟩
      · rw [hlen i hik] at hj; rw [if_neg hik, if_neg hik]; exact ⟨hj, rfl⟩
    rw [(side i j hi hj).2, (side i' j' hi' hj').2] at he
    have := h.apart i _ i' _ hi hi' (side i j hi hj).1 (side i' j' hi' hj').1 he
    obtain ⟨rfl, h2⟩ := this
    refine ⟨rfl, ?_⟩
    split at h2 <;> omega
  · rw [hl] at hi
    rw [AS.at_get hk]
    split
    · exact h.ok.2 k hk
    · exact h.ok.2 i hi
theorem field_frame (W : World) (a0 a1 a2 a3 a4 : Value) : (Instr.field 60 (.agg #[a0, a1, a2, a3, a4]) 1).run Try.prog W = .ok (.agg #[a1, a2, a3, a4]) W := by kernel_rfl
theorem kept4 (w : World) (r : Nat) (v0 v1 v2 v3 : Value) : Kept (· = r) w ((((w.setCell ⟨r, 0, none⟩ v0).setCell ⟨r, 1, none⟩ v1).setCell ⟨r, 2, none⟩ v2).setCell ⟨r, 3, none⟩ v3) :=
  ((((Kept.refl (· = r) w).setCell (p := ⟨r, 0, none⟩) (.inl rfl) v0).setCell (p := ⟨r, 1, none⟩) (.inl rfl) v1).setCell (p := ⟨r, 2, none⟩) (.inl rfl) v2).setCell (p := ⟨r, 3, none⟩) (.inl rfl) v3
theorem block4 (w : World) (r g : Nat) (hg : g ≠ r) (v0 v1 v2 v3 : Value) : ((((w.setCell ⟨r, 0, none⟩ v0).setCell ⟨r, 1, none⟩ v1).setCell ⟨r, 2, none⟩ v2).setCell ⟨r, 3, none⟩ v3).heap[g]? = w.heap[g]? := by
  rw [Below.heap_setCell _ _ _ _ hg, Below.heap_setCell _ _ _ _ hg, Below.heap_setCell _ _ _ _ hg, Below.heap_setCell _ _ _ _ hg]
set_option maxRecDepth 100000 in
set_option maxHeartbeats 2000000 in
theorem next_no (a : Nat) (S : AS) (P : Nat → Prop) (t : Int) (w : World) (h : Hid (SAt w a S P)) (hno : Hid ((S.next t).2.1 = none)) :
    Calls Try.prog 27 #[.pointer (some ⟨a, 0, none⟩), .int .i64 t] w fun e w' => e = .returned (.tuple #[zeroFrame, .bool false, .int .i64 (S.next t).2.2]) ∧ SAt w' a (S.next t).1 P ∧ Kept P w w' := by
  obtain ⟨A, b, cap, D, G, hs⟩ := h.out
  obtain ⟨x0, x1, x2, x3⟩ := hs.cells
  have HS := hide hs
  have haw : a < w.heap.size := cell_lt x0
  clear hs
  rcases S.next_cases t with ⟨hl, hN⟩ | ⟨hl, hb, hN⟩ | ⟨k, x, l, hl, hb, hk, hx, hr, hN⟩ | ⟨k, x, l, hl, hb, hk, hx, hr, hN⟩
  · have HN := hide hN
    have hset := hide (fun w h => set_late a S.now t w h (hide hl))
    clear hl hN hno
    go_enter Try.func27, Try.ntmps27
    go_wp2_with fail
    refine (hset.out _ (by simp [World.cell?_alloc_past, haw, x0])).mono ?_
    rintro e w1 ⟨rfl, rfl⟩
    go_wp2_with fail
    refine bodyPost_ret (v := .tuple #[zeroFrame, .bool false, .int .i64 2]) (by simp [results, Try.results27, go_sem, zeroFrame]) rfl ⟨by rw [HN.out], ?_, ?_⟩
    · rw [HN.out]; exact h.out.below ((Below.refl _ _).alloc (Nat.le_refl _) _)
    · exact (Kept.refl _ _).alloc _
  · have HN := hide hN
    have HB : Hid (ptrOf b ({ S with now := t } : AS).best = .pointer none) := by rw [AS.best_now, hb]; exact rfl
    clear hb
    have hset := hide (fun w h hf => set_fine a S.now t w h hf (hide hl))
    obtain ⟨l1, l2⟩ := AS.late_no hl
    have t0 : 0 ≤ t := by have := HS.out.ok.1.1; omega
    clear hl hN hno l1
    go_enter Try.func27, Try.ntmps27
    go_wp2_with fail
    refine (hset.out _ (by simp [World.cell?_alloc_past, haw, x0]) ((((Below.refl _ _).alloc (Nat.le_refl _) _).frozen (p := ⟨a, 0, none⟩) haw).trans x3)).mono ?_
    rintro e w1 ⟨rfl, rfl⟩
    have HK1 := (Kept.refl P w).alloc (.cells #[.int .i64 0, .int .i64 0, .int .i64 0, .slice none 0 0] 33)
    have HS1 := hide ((HS.out.frame (F := fun _ => False) ((Kept.refl _ w).alloc (.cells #[.int .i64 0, .int .i64 0, .int .i64 0, .slice none 0 0] 33)) (fun _ _ h => h)).set t t0 l2)
    have HK2 := hide (HK1.setCell (p := ⟨a, 0, none⟩) (.inl HS.out.pa) (.int .i64 t))
    have hbx := hide ((Below.heap_setCell (w.alloc (.cells #[.int .i64 0, .int .i64 0, .int .i64 0, .slice none 0 0] 33)) ⟨a, 0, none⟩ (.int .i64 t) w.heap.size (by show w.heap.size ≠ a; omega)).trans (heap_alloc_new w _))
    generalize (w.alloc (.cells #[.int .i64 0, .int .i64 0, .int .i64 0, .slice none 0 0] 33)).setCell ⟨a, 0, none⟩ (.int .i64 t) = W2 at *
    clear hset HK1 x0 x1 x2 x3
    have y1 := HS1.out.cells.2.1
    go_wp2_with fail
    refine (best_any a A b _ cap ({ S with now := t } : AS) D _ y1 (hide HS1.out.sq.toQsAt)).mono ?_
    rintro e w1 ⟨rfl, d, rfl⟩
    rw [HB.out]
    have HS3 := hide (HS1.out.frame (F := fun _ => False) ((Kept.refl _ W2).drewN d) (fun _ _ h => h))
    have HK3 := hide (HK2.out.drewN d)
    have hb3 : (W2.drewN d).heap[w.heap.size]? = _ := hbx.out
    have c0 := cell_of_row _ w.heap.size 0 _ _ _ hb3
    have c1 := cell_of_row _ w.heap.size 1 _ _ _ hb3
    have c2 := cell_of_row _ w.heap.size 2 _ _ _ hb3
    have c3 := cell_of_row _ w.heap.size 3 _ _ _ hb3
    simp only [List.getElem?_toArray, List.getElem?_cons_succ, List.getElem?_cons_zero] at c0 c1 c2 c3
    have f0 := frozen_of_row _ w.heap.size 0 _ _ hb3
    have f1 := frozen_of_row _ w.heap.size 1 _ _ hb3
    have f2 := frozen_of_row _ w.heap.size 2 _ _ hb3
    have f3 := frozen_of_row _ w.heap.size 3 _ _ hb3
    have Hb3 := hide hb3
    clear hb3 hbx HS1 HK2 y1
    generalize W2.drewN d = W3 at *
    clear W2
    have HS4 := HS3
    have HK4 := HK3
    go_wp2_with fail
    refine bodyPost_ret (v := .tuple #[zeroFrame, .bool false, .int .i64 0]) (by simp [results, Try.results27, go_sem, zeroFrame, c0, c1, c2, c3]) rfl ⟨by rw [HN.out], ?_, ?_⟩
    · rw [HN.out]
      exact ⟨_, _, _, _, _, HS4.out.frame (F := (· = w.heap.size)) (kept4 _ _ _ _ _ _) (fun k hp e => by have := HS.out.inn k hp; omega)⟩
    · exact (((HK4.out.setCell (.inr (Nat.le_refl _)) _).setCell (.inr (Nat.le_refl _)) _).setCell (.inr (Nat.le_refl _)) _).setCell (.inr (Nat.le_refl _)) _
  · have HN := hide hN
    have HB : Hid (ptrOf b ({ S with now := t } : AS).best = .pointer (some ⟨b, k * 84, none⟩)) := by rw [AS.best_now, hb]; exact rfl
    clear hb
    have hset := hide (fun w h hf => set_fine a S.now t w h hf (hide hl))
    obtain ⟨l1, l2⟩ := AS.late_no hl
    have t0 : 0 ≤ t := by have := HS.out.ok.1.1; omega
    clear hl hN hno l1
    go_enter Try.func27, Try.ntmps27
    go_wp2_with fail
    refine (hset.out _ (by simp [World.cell?_alloc_past, haw, x0]) ((((Below.refl _ _).alloc (Nat.le_refl _) _).frozen (p := ⟨a, 0, none⟩) haw).trans x3)).mono ?_
    rintro e w1 ⟨rfl, rfl⟩
    have HK1 := (Kept.refl P w).alloc (.cells #[.int .i64 0, .int .i64 0, .int .i64 0, .slice none 0 0] 33)
    have HS1 := hide ((HS.out.frame (F := fun _ => False) ((Kept.refl _ w).alloc (.cells #[.int .i64 0, .int .i64 0, .int .i64 0, .slice none 0 0] 33)) (fun _ _ h => h)).set t t0 l2)
    have HK2 := hide (HK1.setCell (p := ⟨a, 0, none⟩) (.inl HS.out.pa) (.int .i64 t))
    have hbx := hide ((Below.heap_setCell (w.alloc (.cells #[.int .i64 0, .int .i64 0, .int .i64 0, .slice none 0 0] 33)) ⟨a, 0, none⟩ (.int .i64 t) w.heap.size (by show w.heap.size ≠ a; omega)).trans (heap_alloc_new w _))
    generalize (w.alloc (.cells #[.int .i64 0, .int .i64 0, .int .i64 0, .slice none 0 0] 33)).setCell ⟨a, 0, none⟩ (.int .i64 t) = W2 at *
    clear hset HK1 x0 x1 x2 x3
    have y1 := HS1.out.cells.2.1
    go_wp2_with fail
    refine (best_any a A b _ cap ({ S with now := t } : AS) D _ y1 (hide HS1.out.sq.toQsAt)).mono ?_
    rintro e w1 ⟨rfl, d, rfl⟩
    rw [HB.out]
    have HS3 := hide (HS1.out.frame (F := fun _ => False) ((Kept.refl _ W2).drewN d) (fun _ _ h => h))
    have HK3 := hide (HK2.out.drewN d)
    have hb3 : (W2.drewN d).heap[w.heap.size]? = _ := hbx.out
    have c0 := cell_of_row _ w.heap.size 0 _ _ _ hb3
    have c1 := cell_of_row _ w.heap.size 1 _ _ _ hb3
    have c2 := cell_of_row _ w.heap.size 2 _ _ _ hb3
    have c3 := cell_of_row _ w.heap.size 3 _ _ _ hb3
    simp only [List.getElem?_toArray, List.getElem?_cons_succ, List.getElem?_cons_zero] at c0 c1 c2 c3
    have f0 := frozen_of_row _ w.heap.size 0 _ _ hb3
    have f1 := frozen_of_row _ w.heap.size 1 _ _ hb3
    have f2 := frozen_of_row _ w.heap.size 2 _ _ hb3
    have f3 := frozen_of_row _ w.heap.size 3 _ _ hb3
    have Hb3 := hide hb3
    clear hb3 hbx HS1 HK2 y1
    generalize W2.drewN d = W3 at *
    clear W2
    go_wp2_with fail
    refine (release_any _ _ _ _ _ (HS3.out.sq.cell k hk) (by show (S.at k).items ≠ []; rw [hx]; simp)).mono ?_
    rintro e w1 ⟨rfl, d2, rfl⟩
    have HR : Hid ((({ S with now := t } : AS).at k).rel = (S.at k).rel) := rfl
    rw [HR.out]
    have HS4 := hide (HS3.out.frame (F := fun _ => False) ((Kept.refl _ W3).drewN d2) (fun _ _ h => h))
    have HK4 := hide (HK3.out.drewN d2)
    go_wp2_with fail
    refine bodyPost_ret (v := .tuple #[zeroFrame, .bool false, .int .i64 0]) (by simp [results, Try.results27, go_sem, zeroFrame, c0, c1, c2, c3]) rfl ⟨by rw [HN.out], ?_, ?_⟩
    · rw [HN.out]
      exact ⟨_, _, _, _, _, HS4.out.frame (F := (· = w.heap.size)) (kept4 _ _ _ _ _ _) (fun k hp e => by have := HS.out.inn k hp; omega)⟩
    · exact (((HK4.out.setCell (.inr (Nat.le_refl _)) _).setCell (.inr (Nat.le_refl _)) _).setCell (.inr (Nat.le_refl _)) _).setCell (.inr (Nat.le_refl _)) _
  · exact absurd hno.out (by rw [hN]; simp)
set_option maxRecDepth 100000 in
set_option maxHeartbeats 2000000 in
theorem next_yes (a : Nat) (S : AS) (P : Nat → Prop) (t : Int) (y : It) (w : World) (h : Hid (SAt w a S P)) (hyes : Hid ((S.next t).2.1 = some y)) :
    Calls Try.prog 27 #[.pointer (some ⟨a, 0, none⟩), .int .i64 t] w fun e w' => ∃ g, e = .returned (.tuple #[.agg #[.int .i64 y.vl, .int .i64 y.net, .int .i64 y.seq, .slice (some ⟨g, 0, none⟩) y.bytes.length y.bytes.length], .bool true, .int .i64 0]) ∧
      P g ∧ w'.heap[g]? = some (.cells (u8s y.bytes).toArray 5 (0, 0)) ∧ SAt w' a (S.next t).1 (fun q => P q ∧ q ≠ g) ∧ Kept P w w' := by
  obtain ⟨A, b, cap, D, G, hs⟩ := h.out
  obtain ⟨x0, x1, x2, x3⟩ := hs.cells
  have HS := hide hs
  have haw : a < w.heap.size := cell_lt x0
  clear hs
  rcases S.next_cases t with ⟨hl, hN⟩ | ⟨hl, hb, hN⟩ | ⟨k, x, l, hl, hb, hk, hx, hr, hN⟩ | ⟨k, x, l, hl, hb, hk, hx, hr, hN⟩
  · exact absurd hyes.out (by rw [hN]; simp)
  · exact absurd hyes.out (by rw [hN]; simp)
  · exact absurd hyes.out (by rw [hN]; simp)
  · have hxy : x = y := by have := hyes.out; rw [hN] at this; simpa using this
    subst hxy
    have HN := hide hN
    have HB : Hid (ptrOf b ({ S with now := t } : AS).best = .pointer (some ⟨b, k * 84, none⟩)) := by rw [AS.best_now, hb]; exact rfl
    clear hb
    have hset := hide (fun w h hf => set_fine a S.now t w h hf (hide hl))
    obtain ⟨l1, l2⟩ := AS.late_no hl
    have t0 : 0 ≤ t := by have := HS.out.ok.1.1; omega
    clear hl hN hyes l1
    go_enter Try.func27, Try.ntmps27
    go_wp2_with fail
    refine (hset.out _ (by simp [World.cell?_alloc_past, haw, x0]) ((((Below.refl _ _).alloc (Nat.le_refl _) _).frozen (p := ⟨a, 0, none⟩) haw).trans x3)).mono ?_
    rintro e w1 ⟨rfl, rfl⟩
    have HK1 := (Kept.refl P w).alloc (.cells #[.int .i64 0, .int .i64 0, .int .i64 0, .slice none 0 0] 33)
    have HS1 := hide ((HS.out.frame (F := fun _ => False) ((Kept.refl _ w).alloc (.cells #[.int .i64 0, .int .i64 0, .int .i64 0, .slice none 0 0] 33)) (fun _ _ h => h)).set t t0 l2)
    have HK2 := hide (HK1.setCell (p := ⟨a, 0, none⟩) (.inl HS.out.pa) (.int .i64 t))
    have hbx := hide ((Below.heap_setCell (w.alloc (.cells #[.int .i64 0, .int .i64 0, .int .i64 0, .slice none 0 0] 33)) ⟨a, 0, none⟩ (.int .i64 t) w.heap.size (by show w.heap.size ≠ a; omega)).trans (heap_alloc_new w _))
    generalize (w.alloc (.cells #[.int .i64 0, .int .i64 0, .int .i64 0, .slice none 0 0] 33)).setCell ⟨a, 0, none⟩ (.int .i64 t) = W2 at *
    clear hset HK1 x0 x1 x2 x3
    have y1 := HS1.out.cells.2.1
    go_wp2_with fail
    refine (best_any a A b _ cap ({ S with now := t } : AS) D _ y1 (hide HS1.out.sq.toQsAt)).mono ?_
    rintro e w1 ⟨rfl, d, rfl⟩
    rw [HB.out]
    have HS3 := hide (HS1.out.frame (F := fun _ => False) ((Kept.refl _ W2).drewN d) (fun _ _ h => h))
    have HK3 := hide (HK2.out.drewN d)
    have hb3 : (W2.drewN d).heap[w.heap.size]? = _ := hbx.out
    have c0 := cell_of_row _ w.heap.size 0 _ _ _ hb3
    have c1 := cell_of_row _ w.heap.size 1 _ _ _ hb3
    have c2 := cell_of_row _ w.heap.size 2 _ _ _ hb3
    have c3 := cell_of_row _ w.heap.size 3 _ _ _ hb3
    simp only [List.getElem?_toArray, List.getElem?_cons_succ, List.getElem?_cons_zero] at c0 c1 c2 c3
    have f0 := frozen_of_row _ w.heap.size 0 _ _ hb3
    have f1 := frozen_of_row _ w.heap.size 1 _ _ hb3
    have f2 := frozen_of_row _ w.heap.size 2 _ _ hb3
    have f3 := frozen_of_row _ w.heap.size 3 _ _ hb3
    have Hb3 := hide hb3
    clear hb3 hbx HS1 HK2 y1
    generalize W2.drewN d = W3 at *
    clear W2
    go_wp2_with fail
    refine (release_any _ _ _ _ _ (HS3.out.sq.cell k hk) (by show (S.at k).items ≠ []; rw [hx]; simp)).mono ?_
    rintro e w1 ⟨rfl, d2, rfl⟩
    have HR : Hid ((({ S with now := t } : AS).at k).rel = (S.at k).rel) := rfl
    rw [HR.out]
    have HS4 := hide (HS3.out.frame (F := fun _ => False) ((Kept.refl _ W3).drewN d2) (fun _ _ h => h))
    have HK4 := hide (HK3.out.drewN d2)
    have hdat := hide (HS3.out.dat k 0 x hk (by show (S.at k).items[0]? = _; rw [hx]; rfl))
    have hbag := hide (HS3.out.ok.2 k hk)
    go_wp2_with fail
    refine (get_any HS4.out.sq k hk x l hx t t0 l2 (by have := hbag.out.1; omega) hbag.out.2 (some ⟨G k 0, 0, none⟩) x.bytes.length x.bytes.length hdat.out.1).mono ?_
    rintro e w5 ⟨rfl, hsq, hk5⟩
    have HG := hide (HS4.out.get k hk x l hx t hsq hk5)
    have HK5 := hide (HK4.out.trans2 hk5 (fun i _ hi => by subst hi; exact (HS4.out.pb (by show 0 < S.qs.length; omega)).1))
    have hrb : w.heap.size ≠ b := by have := HS.out.inn b (HS4.out.pb (by show 0 < S.qs.length; omega)).1; omega
    have hb5 := (hk5.block w.heap.size (blk_in Hb3.out) hrb).trans Hb3.out
    clear c0 c1 c2 c3 f0 f1 f2 f3 hsq hk5 hrb
    have c0 := cell_of_row _ w.heap.size 0 _ _ _ hb5
    have c1 := cell_of_row _ w.heap.size 1 _ _ _ hb5
    have c2 := cell_of_row _ w.heap.size 2 _ _ _ hb5
    have c3 := cell_of_row _ w.heap.size 3 _ _ _ hb5
    simp only [List.getElem?_toArray, List.getElem?_cons_succ, List.getElem?_cons_zero] at c0 c1 c2 c3
    have f0 := frozen_of_row _ w.heap.size 0 _ _ hb5
    have f1 := frozen_of_row _ w.heap.size 1 _ _ hb5
    have f2 := frozen_of_row _ w.heap.size 2 _ _ hb5
    have f3 := frozen_of_row _ w.heap.size 3 _ _ hb5
    clear hb5
    have hgr : Hid (G k 0 < w.heap.size) := HS.out.inn _ HG.out.2.2
    have hfd := field_frame
    go_wp2_with fail
    refine bodyPost_ret (v := .tuple #[.agg #[.int .i64 x.vl, .int .i64 x.net, .int .i64 x.seq, .slice (some ⟨G k 0, 0, none⟩) x.bytes.length x.bytes.length], .bool true, .int .i64 0]) (by simp [results, Try.results27, go_sem, c0, c1, c2, c3]) rfl ⟨G k 0, rfl, HG.out.2.2, ?_, ?_, ?_⟩
    · exact (block4 _ _ _ (by have := hgr.out; omega) _ _ _ _).trans HG.out.2.1
    · rw [HN.out]
      exact ⟨_, _, _, _, _, HG.out.1.frame (F := (· = w.heap.size)) (kept4 _ _ _ _ _ _) (fun k hp e => by have := HS.out.inn k hp.1; omega)⟩
    · exact (((HK5.out.setCell (.inr (Nat.le_refl _)) _).setCell (.inr (Nat.le_refl _)) _).setCell (.inr (Nat.le_refl _)) _).setCell (.inr (Nat.le_refl _)) _
end Go.Proofs.Ythahnliddoijoaa
