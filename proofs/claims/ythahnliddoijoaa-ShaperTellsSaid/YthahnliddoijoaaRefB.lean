/-
  nacelleref18: release, best, When.
-/
import Derived.Test.YthahnliddoijoaaRefA
namespace Go.Proofs.Ythahnliddoijoaa
open Go.RowKit
theorem keep {w w' : World} {k : Nat} {o : Obj} (h : w.heap[k]? = some o) (hb : Below w.heap.size w w') : w'.heap[k]? = some o := (hb.block _ (blk_in h)).trans h
theorem firstFrom_step (vl : Int) (k : Nat) (l : List It) (x : It) (h : l[k]? = some x) : firstFrom vl k (l.drop k) = if x.vl == vl then some (k, x) else firstFrom vl (k + 1) (l.drop (k + 1)) := by
  obtain ⟨hk, rfl⟩ := List.getElem?_eq_some_iff.1 h
  rw [List.drop_eq_getElem_cons hk, firstFrom]
theorem Ints.cell2 {w : World} {A : Option Addr} {n : Nat} {zs : List Int} {F : Nat → Prop} (h : Ints w A n zs F) {i : Nat} (hi : i < n) : ∃ b off, A = some ⟨b, off, none⟩ ∧ b < w.heap.size ∧ w.cell? ⟨b, off + i, none⟩ = some (.int .i64 (zs.getD i 0)) := by
  obtain ⟨b, off, hA, _, hb, _⟩ := h.2 (by omega)
  exact ⟨b, off, hA, hb, h.cell hA hi⟩
def pairV (p : Int × Int) : Value := .tuple #[.int .i64 p.1, .int .i64 p.2]
set_option maxRecDepth 100000 in
set_option maxHeartbeats 4000000 in
theorem release_r (R : RS) (bA lA iA : Option Addr) (bc lc ic : Nat) (ps : List (It × Value)) (F : Nat → Prop) (v : Nat) (w : World) (h : Hid (RAt w R bA lA iA ps F)) (hv : v < R.bags.length) :
    Calls Try.prog 55 #[RSV R bA lA iA bc lc ic, .int .i64 v] w fun e w' => e = .returned (pairV (R.rel v)) ∧ Below w.heap.size w w' := by
  have few := h.out.few
  have HR : Hid (R.rel v = match firstFrom v 0 R.items with | none => (0, -1) | some p => (R.relT v p.2.time, p.1)) := rfl
  have HT : Hid (∀ t0, R.relT v t0 = if 0 ≤ R.left.getD v 0 ∧ t0 < R.left.getD v 0 + R.bags.getD v 0 then R.left.getD v 0 + R.bags.getD v 0 else t0) := fun _ => rfl
  obtain ⟨L0, L1⟩ := h.out.lok v hv
  obtain ⟨B0, B1⟩ := h.out.bok v hv
  obtain ⟨bb, bo, hbA, hbb, hbc⟩ := h.out.bags.cell2 hv
  obtain ⟨lb, lo, hlA, hlb, hlc⟩ := h.out.left_.cell2 (i := v) (by rw [h.out.l16]; exact hv)
  have hl16 := h.out.l16
  have hb16 := h.out.b16
  subst hbA hlA
  unfold RSV
  generalize R.left.getD v 0 = L at *
  generalize R.bags.getD v 0 = B at *
  generalize hnb : R.bags.length = nb at *
  generalize hnl : R.left.length = nl at *
  obtain rfl : nl = nb := hl16
  clear hnb hnl
  generalize R.clock = ck at *
  obtain ⟨ni, hni⟩ : ∃ ni, R.items.length = ni := ⟨_, rfl⟩
  rw [hni] at few ⊢
  have HNI := hide hni
  have hv0 : (0 : Int) ≤ (v : Int) := by omega
  have hv1 : (v : Int) < (nl : Int) := by omega
  clear hni
  go_enter Try.func55, Try.ntmps55
  go_wp2_with fail
  go_loop [6] (fun v6 => ∃ k : Nat, k ≤ ni ∧ v6 = .int .i64 k ∧ firstFrom v 0 R.items = firstFrom v k (R.items.drop k)) (fun v6 => ni - (intOf v6).toNat)
  case atStart => exact ⟨0, by omega, rfl, rfl⟩
  case round =>
    obtain ⟨k, hk, rfl, hff⟩ := hrel
    have HFF := hide hff
    clear hff
    by_cases hlt : k < ni
    · have hkl : k < R.items.length := by rw [HNI.out]; exact hlt
      have hx : R.items[k]? = some R.items[k] := List.getElem?_eq_getElem hkl
      have HF := hide (firstFrom_step v k R.items _ hx)
      obtain ⟨d, hp⟩ := h.out.pair hx
      obtain ⟨b, off, hA, -, -, -⟩ := h.out.items.at_ (by rw [HNI.out]; omega)
      obtain ⟨hb, ht, hc, -, -, -⟩ := h.out.items.cells hA hp
      obtain ⟨t0, t1⟩ := h.out.tms _ (List.getElem_mem hkl)
      subst hA
      generalize R.items[k] = x at *
      simp only at hc ht
      clear hx hp hkl
      cases hvl : (x.vl == (v : Int))
      · have HF2 := hide (show firstFrom v 0 R.items = firstFrom v (k + 1) (R.items.drop (k + 1)) by rw [HFF.out, HF.out, hvl]; rfl)
        have hvn : (x.vl != (v : Int)) = true := by unfold bne; rw [hvl]; rfl
        go_wp2_with fail
        go_round
        case rel => exact ⟨k + 1, by omega, by go_num, HF2.out⟩
        case measure => simp [intOf]; omega
      · have HF2 := hide (show R.rel v = (R.relT v x.time, (k : Int)) by rw [HR.out, HFF.out, HF.out, hvl]; rfl)
        have hvn : (x.vl != (v : Int)) = false := by unfold bne; rw [hvl]; rfl
        have HTX := hide (HT.out x.time)
        generalize x.time = tx at *
        by_cases h0 : 0 ≤ L
        · by_cases h1 : tx < L + B
          · have HQ := hide (show R.relT v tx = L + B by rw [HTX.out, if_pos ⟨h0, h1⟩])
            go_wp2_with fail
            go_quiet (fail)
            go_wp2_with fail
            go_quiet (fail)
            go_wp2_with fail
            go_ret2
            exact ⟨by rw [HF2.out, HQ.out]; rfl, below_drewN (below_drewN ((Below.refl _ _).alloc (Nat.le_refl _) _) _) _⟩
          · have HQ := hide (show R.relT v tx = tx by rw [HTX.out, if_neg (fun hh => h1 hh.2)])
            have h1' : decide (tx < L + B) = false := by simp; omega
            go_wp2_with fail
            go_quiet (fail)
            go_wp2_with fail
            go_ret2
            exact ⟨by rw [HF2.out, HQ.out]; rfl, below_drewN ((Below.refl _ _).alloc (Nat.le_refl _) _) _⟩
        · have HQ := hide (show R.relT v tx = tx by rw [HTX.out, if_neg (fun hh => h0 hh.1)])
          have h0' : decide (0 ≤ L) = false := by simp; omega
          go_wp2_with fail
          go_quiet (fail)
          go_wp2_with fail
          go_ret2
          exact ⟨by rw [HF2.out, HQ.out]; rfl, below_drewN ((Below.refl _ _).alloc (Nat.le_refl _) _) _⟩
    · have HF2 := hide (show R.rel v = (0, -1) by rw [HR.out, HFF.out, List.drop_eq_nil_of_le (by rw [HNI.out]; omega)]; rfl)
      go_wp2_with fail
      go_ret2
      exact ⟨by rw [HF2.out]; rfl, (Below.refl _ _).alloc (Nat.le_refl _) _⟩
def rsCells (R : RS) (bA lA iA : Option Addr) (bc lc ic : Nat) : Array Value := #[.slice bA R.bags.length bc, .int .i64 R.clock, .slice lA R.left.length lc, .slice iA R.items.length ic]
theorem four_of {w : World} {r : Nat} {a b c d : Value} {t : TypeId} (h : w.heap[r]? = some (.cells #[a, b, c, d] t (0, 0))) : w.cell? ⟨r, 0, none⟩ = some a ∧ w.cell? ⟨r, 1, none⟩ = some b ∧ w.cell? ⟨r, 2, none⟩ = some c ∧ w.cell? ⟨r, 3, none⟩ = some d ∧ r < w.heap.size :=
  ⟨cell_of_row w r 0 _ _ _ h, cell_of_row w r 1 _ _ _ h, cell_of_row w r 2 _ _ _ h, cell_of_row w r 3 _ _ _ h, blk_in h⟩
set_option maxRecDepth 100000 in
set_option maxHeartbeats 4000000 in
theorem best_r (R : RS) (bA lA iA : Option Addr) (bc lc ic : Nat) (ps : List (It × Value)) (F : Nat → Prop) (w : World) (h : Hid (RAt w R bA lA iA ps F)) :
    Calls Try.prog 52 #[RSV R bA lA iA bc lc ic] w fun e w' => e = .returned (pairV R.best) ∧ Below w.heap.size w w' := by
  have hb16 := h.out.b16
  have HRL := hide (fun (W : World) (v : Nat) (hW : Below w.heap.size w W) (hv : v < R.bags.length) => release_r R bA lA iA bc lc ic ps F v W (hide (h.out.below hW)) hv)
  have HBT : Hid (R.best = R.bestTo R.bags.length) := rfl
  have HST : Hid (∀ k, R.bestTo (k + 1) = if 0 ≤ (R.rel k).2 ∧ ((R.bestTo k).2 < 0 ∨ (R.rel k).1 < (R.bestTo k).1) then R.rel k else R.bestTo k) := fun _ => rfl
  unfold RSV at HRL ⊢
  generalize R.bags.length = nb at *
  generalize R.left.length = nl at *
  generalize R.items.length = ni at *
  generalize R.clock = ck at *
  go_enter Try.func52, Try.ntmps52
  go_wp2_with fail
  have hX := heap_alloc_new w (.cells #[.slice bA nb bc, .int .i64 ck, .slice lA nl lc, .slice iA ni ic] 45)
  have hb0 := (Below.refl w.heap.size w).alloc (Nat.le_refl _) (.cells #[.slice bA nb bc, .int .i64 ck, .slice lA nl lc, .slice iA ni ic] 45)
  have HX := hide hX
  have HB0 := hide hb0
  clear hX hb0
  generalize w.alloc (.cells #[.slice bA nb bc, .int .i64 ck, .slice lA nl lc, .slice iA ni ic] 45) = W0 at *
  go_loopw [4, 5, 6] (fun v4 v5 v6 wr => ∃ k : Nat, k ≤ nb ∧ v6 = .int .i64 k ∧ v4 = .int .i64 (R.bestTo k).1 ∧ v5 = .int .i64 (R.bestTo k).2 ∧ Below W0.heap.size W0 wr) (fun _ _ v6 _ => nb - (intOf v6).toNat)
  case atStart => exact ⟨0, by omega, rfl, rfl, rfl, Below.refl _ _⟩
  case round =>
    obtain ⟨k, hk, rfl, rfl, rfl, hbr⟩ := hrel
    have HXR := hide (keep HX.out hbr)
    have HBR := hide hbr
    have HBW := hide (HB0.out.trans (hbr.mono HB0.out.size))
    clear hbr
    obtain ⟨x0, x1, x2, x3, xl⟩ := four_of HXR.out
    by_cases hlt : k < nb
    · have HSK := hide (HST.out k)
      have HRK := hide (HRL.out wr k HBW.out hlt)
      generalize hq : R.bestTo k = q at *
      generalize R.rel k = r at *
      obtain ⟨q1, q2⟩ := q
      obtain ⟨r1, r2⟩ := r
      unfold pairV at HRK
      simp only at HRK HSK ⊢
      have HQ := hide hq
      clear hq
      have cs : (r2 < 0 ∧ (¬ (0 ≤ r2 ∧ (q2 < 0 ∨ r1 < q1)))) ∨ (0 ≤ r2 ∧ q2 < 0) ∨ (0 ≤ r2 ∧ 0 ≤ q2 ∧ r1 < q1) ∨ (0 ≤ r2 ∧ 0 ≤ q2 ∧ q1 ≤ r1) := by omega
      rcases cs with ⟨c1, c2⟩ | ⟨c1, c2⟩ | ⟨c1, c2, c3⟩ | ⟨c1, c2, c3⟩
      · have HZ := hide (show R.bestTo (k + 1) = (q1, q2) by rw [HSK.out, if_neg c2])
        clear c2
        have d1 : decide (0 ≤ r2) = false := by simp; omega
        go_wp2_with fail
        refine HRK.out.mono ?_
        rintro e w1 ⟨rfl, hb1⟩
        have HB1 := hide (HBR.out.trans (hb1.mono HBR.out.size))
        clear hb1 x0 x1 x2 x3 xl
        obtain ⟨x0, x1, x2, x3, xl⟩ := four_of (keep HX.out HB1.out)
        go_wp2_with fail
        go_roundw
        case rel => exact ⟨k + 1, by omega, by go_num, by rw [HZ.out], by rw [HZ.out], HB1.out⟩
        case measure => simp [intOf]; omega
      · have HZ := hide (show R.bestTo (k + 1) = (r1, r2) by rw [HSK.out, if_pos ⟨c1, .inl c2⟩])
        go_wp2_with fail
        refine HRK.out.mono ?_
        rintro e w1 ⟨rfl, hb1⟩
        have HB1 := hide (HBR.out.trans (hb1.mono HBR.out.size))
        clear hb1 x0 x1 x2 x3 xl
        obtain ⟨x0, x1, x2, x3, xl⟩ := four_of (keep HX.out HB1.out)
        go_wp2_with fail
        go_roundw
        case rel => exact ⟨k + 1, by omega, by go_num, by rw [HZ.out], by rw [HZ.out], HB1.out⟩
        case measure => simp [intOf]; omega
      · have HZ := hide (show R.bestTo (k + 1) = (r1, r2) by rw [HSK.out, if_pos ⟨c1, .inr c3⟩])
        have d1 : decide (q2 < 0) = false := by simp; omega
        go_wp2_with fail
        refine HRK.out.mono ?_
        rintro e w1 ⟨rfl, hb1⟩
        have HB1 := hide (HBR.out.trans (hb1.mono HBR.out.size))
        clear hb1 x0 x1 x2 x3 xl
        obtain ⟨x0, x1, x2, x3, xl⟩ := four_of (keep HX.out HB1.out)
        go_wp2_with fail
        go_roundw
        case rel => exact ⟨k + 1, by omega, by go_num, by rw [HZ.out], by rw [HZ.out], HB1.out⟩
        case measure => simp [intOf]; omega
      · have HZ := hide (show R.bestTo (k + 1) = (q1, q2) by rw [HSK.out, if_neg (by omega)])
        have d1 : decide (q2 < 0) = false := by simp; omega
        have d2 : decide (r1 < q1) = false := by simp; omega
        go_wp2_with fail
        refine HRK.out.mono ?_
        rintro e w1 ⟨rfl, hb1⟩
        have HB1 := hide (HBR.out.trans (hb1.mono HBR.out.size))
        clear hb1 x0 x1 x2 x3 xl
        obtain ⟨x0, x1, x2, x3, xl⟩ := four_of (keep HX.out HB1.out)
        go_wp2_with fail
        go_roundw
        case rel => exact ⟨k + 1, by omega, by go_num, by rw [HZ.out], by rw [HZ.out], HB1.out⟩
        case measure => simp [intOf]; omega
    · obtain rfl : k = nb := by omega
      go_wp2_with fail
      go_ret2
      exact ⟨by rw [HBT.out]; rfl, HBW.out⟩
set_option maxRecDepth 100000 in
set_option maxHeartbeats 1000000 in
theorem when_r (R : RS) (bA lA iA : Option Addr) (bc lc ic : Nat) (ps : List (It × Value)) (F : Nat → Prop) (w : World) (h : Hid (RAt w R bA lA iA ps F)) :
    Calls Try.prog 39 #[RSV R bA lA iA bc lc ic] w fun e w' => e = .returned (whenV R.when) ∧ Below w.heap.size w w' := by
  have HBS := hide (fun (W : World) (hW : Below w.heap.size w W) => best_r R bA lA iA bc lc ic ps F W (hide (h.out.below hW)))
  have HW : Hid (R.when = if R.best.2 < 0 then none else some (if R.best.1 < R.clock then R.clock else R.best.1)) := rfl
  unfold RSV at HBS ⊢
  generalize R.bags.length = nb at *
  generalize R.left.length = nl at *
  generalize R.items.length = ni at *
  generalize R.clock = ck at *
  generalize R.best = q at *
  obtain ⟨q1, q2⟩ := q
  unfold pairV at HBS
  simp only at HBS HW
  have cs : (q2 < 0) ∨ (0 ≤ q2 ∧ q1 < ck) ∨ (0 ≤ q2 ∧ ck ≤ q1) := by omega
  have hb0 := (Below.refl w.heap.size w).alloc (Nat.le_refl _) (.cells #[.slice bA nb bc, .int .i64 ck, .slice lA nl lc, .slice iA ni ic] 45)
  have HB0 := hide hb0
  clear hb0
  rcases cs with c1 | ⟨c1, c2⟩ | ⟨c1, c2⟩
  · have HZ := hide (show R.when = none by rw [HW.out, if_pos c1])
    go_enter Try.func39, Try.ntmps39
    go_wp2_with fail
    refine (HBS.out _ HB0.out).mono ?_
    rintro e w1 ⟨rfl, hb1⟩
    have HB1 := hide (HB0.out.trans (hb1.mono HB0.out.size))
    obtain ⟨x0, x1, x2, x3, xl⟩ := four_of (keep (heap_alloc_new w _) hb1)
    clear hb1
    go_wp2_with fail
    go_ret2
    exact ⟨by rw [HZ.out]; rfl, HB1.out⟩
  · have HZ := hide (show R.when = some ck by rw [HW.out, if_neg (by omega), if_pos c2])
    go_enter Try.func39, Try.ntmps39
    go_wp2_with fail
    refine (HBS.out _ HB0.out).mono ?_
    rintro e w1 ⟨rfl, hb1⟩
    have HB1 := hide (HB0.out.trans (hb1.mono HB0.out.size))
    obtain ⟨x0, x1, x2, x3, xl⟩ := four_of (keep (heap_alloc_new w _) hb1)
    clear hb1
    go_wp2_with fail
    go_ret2
    exact ⟨by rw [HZ.out]; rfl, HB1.out⟩
  · have HZ := hide (show R.when = some q1 by rw [HW.out, if_neg (by omega), if_neg (by omega)])
    go_enter Try.func39, Try.ntmps39
    go_wp2_with fail
    refine (HBS.out _ HB0.out).mono ?_
    rintro e w1 ⟨rfl, hb1⟩
    have HB1 := hide (HB0.out.trans (hb1.mono HB0.out.size))
    obtain ⟨x0, x1, x2, x3, xl⟩ := four_of (keep (heap_alloc_new w _) hb1)
    clear hb1
    go_wp2_with fail
    go_ret2
    exact ⟨by rw [HZ.out]; rfl, HB1.out⟩
end Go.Proofs.Ythahnliddoijoaa
