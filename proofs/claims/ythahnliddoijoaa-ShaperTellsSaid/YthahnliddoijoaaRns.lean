/-
  ShaperTells: runs: a sequence of operations.
-/
import Derived.Test.YthahnliddoijoaaStr
namespace Go.Proofs.Ythahnliddoijoaa
open Go.RowKit
theorem StepR.any {w w' : World} {a rb B m : Nat} {e : Ending} (h : StepR w w' a rb B m e) : StepR w w' a rb B m e := h
theorem step_any (a rb B m : Nat) (w : World) (h : Hid (StE w a rb B m)) (hmb : m ≤ 900) (kind t vl tag : Int) (k0 : 0 ≤ kind) (k1 : kind < 4) :
    Calls Try.prog 18 #[.pointer (some ⟨a, 0, none⟩), .pointer (some ⟨rb, 0, none⟩), .int .i64 kind, .int .i64 t, .int .i64 vl, .int .u8 tag] w fun e w' => StepR w w' a rb B (m + 1) e := by
  rcases (by omega : kind = 0 ∨ kind = 1 ∨ kind = 2 ∨ kind = 3) with rfl | rfl | rfl | rfl
  · exact step_offer0 a rb B m w h hmb t vl tag
  · exact step_offer1 a rb B m w h hmb t vl tag
  · exact step_next a rb B m w h t vl tag
  · exact step_when a rb B m w h 3 t vl tag (by decide) (by decide) (by decide)
/-- Rows of integers. -/
def IRows (w : World) (A : Option Addr) (m : Nat) : Prop := 0 < m → ∃ b off, A = some ⟨b, off, none⟩ ∧ b < w.heap.size ∧ ∀ r, r < m → ∃ R l c zs, w.cell? ⟨b, off + r, none⟩ = some (.slice R l c) ∧ l ≤ 9223372036854775807 ∧ Ints w R l zs (fun _ => False)
theorem IRows.row {w w' : World} {A : Option Addr} {m k : Nat} (h : IRows w A m) (hb : Below w.heap.size w w') (hk : k < m) :
    ∃ b off, A = some ⟨b, off, none⟩ ∧ b < w.heap.size ∧ ∃ R l c zs, w'.cell? ⟨b, off + k, none⟩ = some (.slice R l c) ∧ l ≤ 9223372036854775807 ∧ Ints w' R l zs (fun _ => False) := by
  obtain ⟨b, off, hA, hl, hr⟩ := h (by omega)
  obtain ⟨R, l, c, zs, h1, h2, h3⟩ := hr k hk
  exact ⟨b, off, hA, hl, R, l, c, zs, (hb.cell (p := ⟨b, off + k, none⟩) hl).trans h1, h2, h3.below hb⟩
set_option maxRecDepth 100000 in
set_option maxHeartbeats 400000 in
theorem rnew_long (A : Option Addr) (n cap : Nat) (w : World) (hn : n ≤ 9223372036854775807) (hl : 16 < n) :
    Calls Try.prog 15 #[.slice A n cap] w fun e w' => e = .returned (.tuple #[.agg #[.slice none 0 0, .int .i64 0, .slice none 0 0, .slice none 0 0], .int .i64 2]) ∧ Below w.heap.size w w' := by
  go_enter Try.func15, Try.ntmps15
  go_wp2_with fail
  exact bodyPost_ret (v := .tuple #[.agg #[.slice none 0 0, .int .i64 0, .slice none 0 0, .slice none 0 0], .int .i64 2]) (by simp [results, Try.results15, go_sem]) rfl ⟨rfl, (Below.refl _ _).alloc (Nat.le_refl _) _⟩
theorem first_bad : ∀ (zs : List Int), zs.all bagB = false → ∃ m, m < zs.length ∧ bagB (zs.getD m 0) = false ∧ ∀ i, i < m → bagB (zs.getD i 0) = true := by
  intro zs
  induction zs with
  | nil => intro h; simp at h
  | cons z zs ih =>
    intro h
    by_cases hz : bagB z = true
    · have h' : zs.all bagB = false := by simpa [hz] using h
      obtain ⟨m, h1, h2, h3⟩ := ih h'
      refine ⟨m + 1, by simpa using h1, by simpa using h2, fun i hi => ?_⟩
      cases i with
      | zero => simpa using hz
      | succ i => have := h3 i (by omega); simpa using this
    · exact ⟨0, by simp, by simpa using hz, fun i hi => by omega⟩
theorem rnew_bad (A : Option Addr) (n cap : Nat) (zs : List Int) (w : World) (hn : n ≤ 9223372036854775807) (h : Hid (Ints w A n zs (fun _ => False))) (hb : Hid ((decide (n ≤ 16) && zs.all bagB) = false)) :
    Calls Try.prog 15 #[.slice A n cap] w fun e w' => e = .returned (.tuple #[.agg #[.slice none 0 0, .int .i64 0, .slice none 0 0, .slice none 0 0], .int .i64 2]) ∧ Below w.heap.size w w' := by
  by_cases hl : n ≤ 16
  · have h2 : zs.all bagB = false := by have := hb.out; simpa [hl] using this
    obtain ⟨m, h3, h4, h5⟩ := first_bad zs h2
    have hzn : zs.length = n := h.out.1
    refine (rnew_walk A n cap m zs (fun _ => False) w h hl (hide (fun _ h => h.elim)) (by omega) (hide h5) (hide (fun _ => h4))).mono ?_
    rintro e w' (⟨hmn, -⟩ | ⟨-, he, hb⟩)
    · omega
    · exact ⟨he, hb⟩
  · exact rnew_long A n cap w hn (by omega)
theorem ints_lent {w : World} {B g n c : Nat} {zs : List Int} {F : Nat → Prop} (h : w.ownsRow B 3 1 (.slice (some ⟨g, 0, none⟩) (n + 12) c) (n + 12) (ints (zs ++ mks mkI 1 12))) (hl : zs.length = n) (hF : ∀ k, F k → k < B) : Ints w (some ⟨g, 0, none⟩) n zs F := by
  obtain ⟨g', c', hv, hb, hg, -, -⟩ := slice_of_own h (by omega)
  injection hv with e1 e2 e3
  injection e1 with e1
  injection e1 with e1
  subst e1
  refine ⟨hl, fun hn => ⟨g, 0, rfl, fun hf => by have := hF g hf; omega, hg, fun i z hz => ?_⟩⟩
  have hi : i < n := by rw [← hl]; exact (List.getElem?_eq_some_iff.1 hz).1
  rw [Nat.zero_add]
  exact at_own h (by omega) (by unfold ints; rw [List.getElem?_map, List.getElem?_append_left (by omega), hz]; rfl)
theorem overInts_of (n g c B : Nat) (zs : List Int) (w : World) (hn : n ≤ 1000000) (ho : Hid (w.ownsRow B 3 1 (.slice (some ⟨g, 0, none⟩) (n + 12) c) (n + 12) (ints (zs ++ mks mkI 1 12)))) :
    Calls Try.prog 17 #[.slice (some ⟨g, 0, none⟩) n c] w fun e w' => e = .returned (.tuple #[]) ∧ Kept (· = g) w w' := by
  rcases ho.out.2 with ⟨-, h0⟩ | ⟨g', cap, cur, hv, hb, hg, hnc, hcm, hcs, -⟩
  · omega
  · injection hv with e1 e2 e3
    injection e1 with e1
    injection e1 with e1
    subst e1 e3
    unfold maxLen at hcm
    by_cases hc : c ≤ n + 12
    · exact overInts_le n c g cur w hn (by omega) (by omega) hc (hide hg) (by omega)
    · exact overInts_gt n c g cur w hn (by omega) (by omega) (by omega) (hide hg) (by omega)
set_option maxRecDepth 100000 in
set_option maxHeartbeats 2000000 in
theorem runs_bad (A Ao : Option Addr) (n cap no co : Nat) (zs : List Int) (w : World) (hn : n ≤ 100) (hno : no ≤ 9223372036854775807) (h : Hid (Ints w A n zs (fun _ => False))) (hb : Hid ((decide (n ≤ 16) && zs.all bagB) = false)) :
    Calls Try.prog 5 #[.slice A n cap, .slice Ao no co] w fun e w' => e = .returned (.bool true) ∧ Below w.heap.size w w' := by
  go_enter Try.func5, Try.ntmps5
  go_wp2_with fail
  refine (lentInts_any A n cap zs (fun _ => False) w (by omega) h).mono ?_
  rintro e w1 ⟨g, c, rfl, ho1, hb1⟩
  have HO1 := hide ho1
  have HB1 := hide hb1
  have HI1 := hide (h.out.below hb1)
  have hlz := hide h.out.1
  clear ho1 hb1
  go_wp2_with fail
  refine (new_wrong (some ⟨g, 0, none⟩) n c zs (fun _ => False) w1 (by omega) (hide (ints_lent HO1.out hlz.out (fun _ h => h.elim))) hb).mono ?_
  rintro e w2 ⟨rfl, rfl⟩
  go_wp2_with fail
  refine (rnew_bad A n cap zs w1 (by omega) HI1 hb).mono ?_
  rintro e w2 ⟨rfl, hb2⟩
  have HB2 := hide hb2
  clear hb2
  have HKP := hide (fun W (hW : Below w1.heap.size w1 W) => keptInts_any A w.heap.size n cap g c zs (fun _ => False) W (by omega) (hide (HI1.out.below hW)) (hide (own_below HO1.out hW)))
  have HOV := hide (fun W (hW : Below w1.heap.size w1 W) => overInts_of n g c w.heap.size zs W (by omega) (hide (own_below HO1.out hW)))
  have hbX := HB2.out.alloc HB2.out.size (.cells #[.slice none 0 0, .int .i64 0, .slice none 0 0, .slice none 0 0] 45)
  have HB3 := hide hbX
  clear hbX
  go_wp2_with fail
  refine (HKP.out _ HB3.out).mono ?_
  rintro e w' ⟨rfl, d, rfl⟩
  go_wp2_with fail
  refine (HOV.out _ (below_drewN HB3.out d)).mono ?_
  rintro e w5 ⟨rfl, hk5⟩
  have HW5 := hide ((HB1.out.trans ((below_drewN HB3.out d).mono HB1.out.size)).trans (hk5.below (B := w.heap.size) (by have := HB1.out.size; have := HB3.out.size; simp at this ⊢; omega) (fun i hi e => by have := HO1.out.lt g rfl; omega)))
  clear hk5
  go_wp2_with fail
  go_loop [11] (fun v11 => v11 = .int .i64 0) (fun _ => 0)
  case atStart => rfl
  case round =>
    obtain rfl := hrel
    by_cases h0 : 0 < no
    all_goals
      go_wp2_with fail
      go_ret
      exact ⟨rfl, HW5.out⟩
theorem StE.below {w w' : World} {a rb B m : Nat} (h : StE w a rb B m) (hb : Below w.heap.size w w') : StE w' a rb B m := by
  obtain ⟨S, R, P, bA, lA, iA, bc, lc, ic, ps, hs, hm⟩ := h
  exact StE.of hs hm hb
theorem cellB2 {W w' : World} (hb : Below W.heap.size W w') {b o : Nat} {v : Value} (h : W.cell? ⟨b, o, none⟩ = some v) : w'.cell? ⟨b, o, none⟩ = some v := cellB hb h
theorem own_lt18 {w : World} {B e size n g c : Nat} {xs : List Value} (h : w.ownsRow B e size (.slice (some ⟨g, 0, none⟩) n c) n xs) : B ≤ g ∧ g < w.heap.size := h.lt g rfl
set_option maxRecDepth 100000 in
set_option maxHeartbeats 1000000 in
theorem runs_good (A Ao : Option Addr) (n cap no co : Nat) (zs : List Int) (w : World) (hn : n ≤ 16) (hno : no ≤ 150) (h : Hid (Ints w A n zs (fun _ => False))) (hb : Hid (zs.all bagB = true)) (hro : Hid (IRows w Ao no)) :
    Calls Try.prog 5 #[.slice A n cap, .slice Ao no co] w fun e w' => e = .returned (.bool true) ∧ Below w.heap.size w w' := by
  have hlz := hide h.out.1
  have HGD : Hid (∀ i, i < n → bagB (zs.getD i 0) = true) := fun i hi => by
    have hi' : i < zs.length := by rw [hlz.out]; exact hi
    have := List.all_eq_true.1 hb.out zs[i] (List.getElem_mem hi')
    simpa [List.getD_eq_getElem?_getD, List.getElem?_eq_getElem hi'] using this
  go_enter Try.func5, Try.ntmps5
  go_wp2_with fail
  refine (lentInts_any A n cap zs (fun _ => False) w (by omega) h).mono ?_
  rintro e w1 ⟨g, c, rfl, ho1, hb1⟩
  have HO1 := hide ho1
  have HB1 := hide hb1
  have hz1 := hb1.size
  have hg1 := (own_lt18 ho1)
  clear ho1 hb1
  go_wp2_with fail
  refine (new_fine (some ⟨g, 0, none⟩) n c zs (fun _ => False) w1 (hide (ints_lent HO1.out hlz.out (fun _ h => h.elim))) hn hb).mono ?_
  rintro e w2 ⟨a, P, rfl, hsa, hpl, hb2⟩
  have HSA := hide hsa
  have HPL := hide hpl
  have HB2 := hide hb2
  have hz2 := hb2.size
  clear hsa hpl hb2
  have hpin := hide (sat_inn HSA.out)
  go_wp2_with fail
  refine (rnew_walk A n cap n zs (fun k => P k ∨ k = g) w2 (hide (h.out.swap (F' := fun k => P k ∨ k = g) (G := fun _ => False) (.of_below (HB1.out.trans (HB2.out.mono hz1))) (fun k e => e.elim) (fun k hk => .inr (Or.elim hk (fun hk => Nat.le_trans hz1 (HPL.out k hk)) (fun e => by omega))))) hn (hide (fun k hk => Or.elim hk (hpin.out k) (fun e => by omega))) (Nat.le_refl _) HGD (hide (fun hh => absurd hh (Nat.lt_irrefl _)))).mono ?_
  rintro e w3 (⟨-, bA, bc, lA, lc, rfl, hr3, hb3⟩ | ⟨hmn, -⟩)
  case inr => omega
  have HR3 := hide hr3
  have HB3 := hide hb3
  have hz3 := hb3.size
  clear hr3 hb3
  unfold RSV
  go_wp2_with fail
  have hbA := (Below.refl w3.heap.size w3).alloc (Nat.le_refl _) (.cells #[.slice bA (RS.new zs).bags.length bc, .int .i64 (RS.new zs).clock, .slice lA (RS.new zs).left.length lc, .slice none (RS.new zs).items.length 0] 45)
  have hbv := heap_alloc_new w3 (.cells #[.slice bA (RS.new zs).bags.length bc, .int .i64 (RS.new zs).clock, .slice lA (RS.new zs).left.length lc, .slice none (RS.new zs).items.length 0] 45)
  have hz4 : w3.heap.size < (w3.alloc (.cells #[.slice bA (RS.new zs).bags.length bc, .int .i64 (RS.new zs).clock, .slice lA (RS.new zs).left.length lc, .slice none (RS.new zs).items.length 0] 45)).heap.size := by simp
  have HBA := hide hbA
  have HBV := hide hbv
  have HB14 := hide ((HB2.out.trans (HB3.out.mono hz2)).trans (hbA.mono (Nat.le_trans hz2 hz3)))
  clear hbA hbv
  generalize w3.alloc (.cells #[.slice bA (RS.new zs).bags.length bc, .int .i64 (RS.new zs).clock, .slice lA (RS.new zs).left.length lc, .slice none (RS.new zs).items.length 0] 45) = W4 at *
  have HI4 := hide (h.out.below (HB1.out.trans (HB14.out.mono hz1)))
  refine (keptInts_any A w.heap.size n cap g c zs (fun _ => False) W4 (by omega) HI4 (hide (own_below HO1.out HB14.out))).mono ?_
  rintro e w' ⟨rfl, d, rfl⟩
  go_wp2_with fail
  refine (overInts_of n g c w.heap.size zs (W4.drewN d) (by omega) (hide (own_below HO1.out (below_drewN HB14.out d)))).mono ?_
  rintro e w5 ⟨rfl, hk5⟩
  have hk35 : Kept (· = g) w3 w5 := (Kept.of_below (below_drewN HBA.out d)).trans hk5
  have hst : St w5 a w3.heap.size w.heap.size (AS.new zs) (RS.new zs) P bA lA none bc lc 0 [] := by
    refine ⟨((HSA.out.below HB3.out).frame hk35 (fun k hp e => by have := HPL.out k hp; omega)), (hk5.block _ (by show _ < W4.heap.size; exact hz4) (by omega)).trans HBV.out, HR3.out.swap hk35 (fun k e => .inr e) (fun k hk => Or.elim hk (fun hp => .inl (.inl hp)) (fun e => .inr (by omega))), Nat.le_refl _, Sim.new zs, fun hp => by have := hpin.out _ hp; omega, fun k hp => Nat.le_trans hz1 (HPL.out k hp), by omega, fun k hp => by have := hpin.out _ hp; have := hk35.size; omega, fun x hx => by cases hx⟩
  have HST : Hid (StE w5 a w3.heap.size w.heap.size 0) := ⟨_, _, _, _, _, _, _, _, _, _, hst, Nat.zero_le _⟩
  have HB5 := hide (((HB1.out.trans (HB14.out.mono hz1)).trans ((below_drewN (Below.refl W4.heap.size W4) d).mono (by omega))).trans (hk5.below (B := w.heap.size) (by show _ ≤ W4.heap.size; omega) (fun i hi e => by omega)))
  clear hk5 hk35 hst HSA HPL HR3 HO1 HB1 HB2 HB3 HBA HBV HB14 HI4 hpin hg1 HGD hlz h hb
  generalize w3.heap.size = rb at *
  go_wp2_with fail
  go_loopw [10, 11] (fun v10 v11 wr => ∃ (k : Nat) (tt : Int), k ≤ no ∧ v11 = .int .i64 k ∧ v10 = .int .i64 tt ∧ 0 ≤ tt ∧ tt ≤ 1073741824 ∧ StE wr a rb w.heap.size k ∧ Below w.heap.size w wr) (fun _ v11 _ => no - (intOf v11).toNat)
  case atStart => exact ⟨0, 0, by omega, rfl, rfl, by decide, by decide, HST.out, HB5.out⟩
  case round =>
    obtain ⟨k, tt, hk, rfl, rfl, tt0, tt1, hse, hbr⟩ := hrel
    have HSE := hide hse
    have HBR := hide hbr
    clear hse hbr HST HB5
    by_cases hlt : k < no
    case neg =>
      go_wp2_with fail
      go_ret
      exact ⟨rfl, HBR.out⟩
    case pos =>
      obtain ⟨b, off, rfl, hbl, R, l, cr, zr, hcr, hl, hir⟩ := hro.out.row HBR.out hlt
      have HIR := hide hir
      clear hir
      have k0 : (0 : Int) ≤ (k : Int) := by omega
      have k1 : (k : Int) < (no : Int) := by omega
      by_cases hl4 : l = 4
      case neg =>
        have hl4' : ¬ (l : Int) = 4 := by omega
        go_wp2_with fail
        go_roundw
        case rel =>
          obtain ⟨S, Rr, P, bA, lA, iA, bc, lc, ic, ps, hs, hm⟩ := HSE.out
          exact ⟨k + 1, tt, by omega, by go_num, rfl, tt0, tt1, ⟨S, Rr, P, bA, lA, iA, bc, lc, ic, ps, hs, by omega⟩, HBR.out⟩
        case measure => simp [intOf]; omega
      case pos =>
        subst hl4
        obtain ⟨b', off', rfl, hb'l, q0⟩ := HIR.out.cell2 (i := 0) (by omega)
        have q1 := HIR.out.cell rfl (i := 1) (by omega)
        have q2 := HIR.out.cell rfl (i := 2) (by omega)
        have q3 := HIR.out.cell rfl (i := 3) (by omega)
        rw [Nat.add_zero] at q0
        generalize zr.getD 0 0 = z0 at *
        generalize zr.getD 1 0 = z1 at *
        generalize zr.getD 2 0 = z2 at *
        generalize zr.getD 3 0 = z3 at *
        clear HIR
        go_wp2_with fail
        generalize wrap64 (tt + z1) = t' at *
        have HPK := hide (fun W => pick_any z0 4 W (by decide) (by decide))
        have hp0 : 0 ≤ pick z0 4 := Int.emod_nonneg z0 (by decide)
        have hp1 : pick z0 4 < 4 := Int.emod_lt_of_pos z0 (by decide)
        generalize pick z0 4 = pk at *
        refine wp_region_tail (S := fun w' => Below wr.heap.size wr w') 22 (by kernel_rfl) (by kernel_rfl) ((Below.refl _ _).drew) (fun hHeld => ?_)
        generalize wr.drew = V at *
        refine wpAnyT_take (i := 0) (oi := ⟨some 66, _, _, _, _, _⟩) (v := ?_) rfl (by kernel_rfl) (fun _ _ _ h => h) (Or.inl ⟨by rfl, ?_⟩) hHeld ?_
        rotate_left
        · intro v hS
          skip
          go_simp
          with_reducible rfl
        (try simp only [Act.put, List.setIfInBounds_toArray, List.set_cons_zero, List.set_cons_succ])
        refine wpAnyT_take (i := 1) (oi := ⟨some 67, _, _, _, _, _⟩) (v := ?_) rfl (by kernel_rfl) (fun _ _ _ h => h) (Or.inl ⟨by rfl, ?_⟩) hHeld ?_
        rotate_left
        · intro v hS
          skip
          go_simp
          with_reducible rfl
        (try simp only [Act.put, List.setIfInBounds_toArray, List.set_cons_zero, List.set_cons_succ])
        refine wpAnyT_take (i := 2) (oi := ⟨some 68, _, _, _, _, _⟩) (v := ?_) rfl (by kernel_rfl) (fun _ _ _ h => h) (Or.inl ⟨by rfl, ?_⟩) hHeld ?_
        rotate_left
        · intro v hS
          skip
          go_simp
          with_reducible rfl
        (try simp only [Act.put, List.setIfInBounds_toArray, List.set_cons_zero, List.set_cons_succ])
        refine wpAnyT_take (i := 3) (oi := ⟨some 69, _, _, _, _, _⟩) (v := ?_) rfl (by kernel_rfl) (fun _ _ _ h => h) (Or.inl ⟨by rfl, ?_⟩) hHeld ?_
        rotate_left
        · intro v hS
          skip
          go_simp
          with_reducible rfl
        (try simp only [Act.put, List.setIfInBounds_toArray, List.set_cons_zero, List.set_cons_succ])
        refine wpAnyT_take (i := 4) (oi := ⟨some 70, _, _, _, _, _⟩) (v := ?_) rfl (by kernel_rfl) (fun _ _ _ h => h) (Or.inl ⟨by rfl, ?_⟩) hHeld ?_
        rotate_left
        · intro v hS
          have cc := cellB hS hcr
          go_simp
          with_reducible rfl
        (try simp only [Act.put, List.setIfInBounds_toArray, List.set_cons_zero, List.set_cons_succ])
        refine wpAnyT_take (i := 5) (oi := ⟨some 71, _, _, _, _, _⟩) (v := ?_) rfl (by kernel_rfl) (fun _ _ _ h => h) (Or.inl ⟨by rfl, ?_⟩) hHeld ?_
        rotate_left
        · intro v hS
          skip
          go_simp
          with_reducible rfl
        (try simp only [Act.put, List.setIfInBounds_toArray, List.set_cons_zero, List.set_cons_succ])
        refine wpAnyT_take (i := 6) (oi := ⟨some 72, _, _, _, _, _⟩) (v := ?_) rfl (by kernel_rfl) (fun _ _ _ h => h) (Or.inl ⟨by rfl, ?_⟩) hHeld ?_
        rotate_left
        · intro v hS
          have cc := cellB hS q0
          go_simp
          with_reducible rfl
        (try simp only [Act.put, List.setIfInBounds_toArray, List.set_cons_zero, List.set_cons_succ])
        refine wpAnyT_take (i := 8) (oi := ⟨some 74, _, _, _, _, _⟩) (v := ?_) rfl (by kernel_rfl) (fun _ _ _ h => h) (Or.inl ⟨by rfl, ?_⟩) hHeld ?_
        rotate_left
        · intro v hS
          skip
          go_simp
          with_reducible rfl
        (try simp only [Act.put, List.setIfInBounds_toArray, List.set_cons_zero, List.set_cons_succ])
        refine wpAnyT_take (i := 9) (oi := ⟨some 75, _, _, _, _, _⟩) (v := ?_) rfl (by kernel_rfl) (fun _ _ _ h => h) (Or.inl ⟨by rfl, ?_⟩) hHeld ?_
        rotate_left
        · intro v hS
          skip
          go_simp
          with_reducible rfl
        (try simp only [Act.put, List.setIfInBounds_toArray, List.set_cons_zero, List.set_cons_succ])
        refine wpAnyT_take (i := 10) (oi := ⟨some 76, _, _, _, _, _⟩) (v := ?_) rfl (by kernel_rfl) (fun _ _ _ h => h) (Or.inl ⟨by rfl, ?_⟩) hHeld ?_
        rotate_left
        · intro v hS
          skip
          go_simp
          with_reducible rfl
        (try simp only [Act.put, List.setIfInBounds_toArray, List.set_cons_zero, List.set_cons_succ])
        refine wpAnyT_take (i := 11) (oi := ⟨some 77, _, _, _, _, _⟩) (v := ?_) rfl (by kernel_rfl) (fun _ _ _ h => h) (Or.inl ⟨by rfl, ?_⟩) hHeld ?_
        rotate_left
        · intro v hS
          skip
          go_simp
          with_reducible rfl
        (try simp only [Act.put, List.setIfInBounds_toArray, List.set_cons_zero, List.set_cons_succ])
        refine wpAnyT_take (i := 12) (oi := ⟨some 78, _, _, _, _, _⟩) (v := ?_) rfl (by kernel_rfl) (fun _ _ _ h => h) (Or.inl ⟨by rfl, ?_⟩) hHeld ?_
        rotate_left
        · intro v hS
          have cc := cellB hS hcr
          go_simp
          with_reducible rfl
        (try simp only [Act.put, List.setIfInBounds_toArray, List.set_cons_zero, List.set_cons_succ])
        refine wpAnyT_take (i := 13) (oi := ⟨some 79, _, _, _, _, _⟩) (v := ?_) rfl (by kernel_rfl) (fun _ _ _ h => h) (Or.inl ⟨by rfl, ?_⟩) hHeld ?_
        rotate_left
        · intro v hS
          skip
          go_simp
          with_reducible rfl
        (try simp only [Act.put, List.setIfInBounds_toArray, List.set_cons_zero, List.set_cons_succ])
        refine wpAnyT_take (i := 14) (oi := ⟨some 80, _, _, _, _, _⟩) (v := ?_) rfl (by kernel_rfl) (fun _ _ _ h => h) (Or.inl ⟨by rfl, ?_⟩) hHeld ?_
        rotate_left
        · intro v hS
          have cc := cellB hS q2
          go_simp
          with_reducible rfl
        (try simp only [Act.put, List.setIfInBounds_toArray, List.set_cons_zero, List.set_cons_succ])
        refine wpAnyT_take (i := 15) (oi := ⟨some 81, _, _, _, _, _⟩) (v := ?_) rfl (by kernel_rfl) (fun _ _ _ h => h) (Or.inl ⟨by rfl, ?_⟩) hHeld ?_
        rotate_left
        · intro v hS
          skip
          go_simp
          with_reducible rfl
        (try simp only [Act.put, List.setIfInBounds_toArray, List.set_cons_zero, List.set_cons_succ])
        refine wpAnyT_take (i := 16) (oi := ⟨some 82, _, _, _, _, _⟩) (v := ?_) rfl (by kernel_rfl) (fun _ _ _ h => h) (Or.inl ⟨by rfl, ?_⟩) hHeld ?_
        rotate_left
        · intro v hS
          skip
          go_simp
          with_reducible rfl
        (try simp only [Act.put, List.setIfInBounds_toArray, List.set_cons_zero, List.set_cons_succ])
        refine wpAnyT_take (i := 17) (oi := ⟨some 83, _, _, _, _, _⟩) (v := ?_) rfl (by kernel_rfl) (fun _ _ _ h => h) (Or.inl ⟨by rfl, ?_⟩) hHeld ?_
        rotate_left
        · intro v hS
          skip
          go_simp
          with_reducible rfl
        (try simp only [Act.put, List.setIfInBounds_toArray, List.set_cons_zero, List.set_cons_succ])
        refine wpAnyT_take (i := 18) (oi := ⟨some 84, _, _, _, _, _⟩) (v := ?_) rfl (by kernel_rfl) (fun _ _ _ h => h) (Or.inl ⟨by rfl, ?_⟩) hHeld ?_
        rotate_left
        · intro v hS
          have cc := cellB hS hcr
          go_simp
          with_reducible rfl
        (try simp only [Act.put, List.setIfInBounds_toArray, List.set_cons_zero, List.set_cons_succ])
        refine wpAnyT_take (i := 19) (oi := ⟨some 85, _, _, _, _, _⟩) (v := ?_) rfl (by kernel_rfl) (fun _ _ _ h => h) (Or.inl ⟨by rfl, ?_⟩) hHeld ?_
        rotate_left
        · intro v hS
          skip
          go_simp
          with_reducible rfl
        (try simp only [Act.put, List.setIfInBounds_toArray, List.set_cons_zero, List.set_cons_succ])
        refine wpAnyT_take (i := 20) (oi := ⟨some 86, _, _, _, _, _⟩) (v := ?_) rfl (by kernel_rfl) (fun _ _ _ h => h) (Or.inl ⟨by rfl, ?_⟩) hHeld ?_
        rotate_left
        · intro v hS
          have cc := cellB hS q3
          go_simp
          with_reducible rfl
        (try simp only [Act.put, List.setIfInBounds_toArray, List.set_cons_zero, List.set_cons_succ])
        refine wpAnyT_take (i := 21) (oi := ⟨some 87, _, _, _, _, _⟩) (v := ?_) rfl (by kernel_rfl) (fun _ _ _ h => h) (Or.inl ⟨by rfl, ?_⟩) hHeld ?_
        rotate_left
        · intro v hS
          skip
          go_simp
          with_reducible rfl
        (try simp only [Act.put, List.setIfInBounds_toArray, List.set_cons_zero, List.set_cons_succ])
        refine wpAnyT_ready (rs := [7]) (by kernel_rfl) (by simp) (by rfl) (AllT.cons rfl (fun K hK => ?_) AllT.nil)
        go_simp
        refine (HPK.out _).mono ?_
        rintro e V2 ⟨rfl, rfl⟩
        go_wp2_with fail
        refine hK.out _ _ hHeld (fun _ => ?_)
        clear hK K
        refine wpAnyT_done (by kernel_rfl) ?_
        (try simp only [Act.put, List.setIfInBounds_toArray, List.set_cons_zero, List.set_cons_succ])
        simp only [List.drop_succ_cons, List.drop_zero, List.toList_toArray]
        have HSV := hide (HSE.out.below hHeld)
        clear q0 q1 q2 q3 hcr
        go_wp2_with fail
        refine (step_any a rb w.heap.size k V HSV (by omega) pk t' z2 (z3 % 256) hp0 hp1).mono ?_
        rintro e w7 ⟨rfl, hse7, hb7⟩
        have HSE7 := hide hse7
        have HB7 := hide ((HBR.out.trans (hHeld.mono HBR.out.size)).trans hb7)
        clear hse7 hb7 hHeld HSV HSE HBR
        by_cases ht0 : t' < 0
        case' neg => by_cases ht1 : 1073741824 < t'
        all_goals
          go_wp2_with fail
          go_roundw
          case measure => simp [intOf]; omega
          case rel => first
            | exact ⟨k + 1, 0, by omega, by go_num, rfl, by decide, by decide, HSE7.out, HB7.out⟩
            | exact ⟨k + 1, t', by omega, by go_num, rfl, by omega, by omega, HSE7.out, HB7.out⟩
theorem runs_any (A Ao : Option Addr) (n cap no co : Nat) (zs : List Int) (w : World) (hn : n ≤ 100) (hno : no ≤ 150) (h : Hid (Ints w A n zs (fun _ => False))) (hro : Hid (IRows w Ao no)) :
    Calls Try.prog 5 #[.slice A n cap, .slice Ao no co] w fun e w' => e = .returned (.bool true) ∧ Below w.heap.size w w' := by
  by_cases hb : (decide (n ≤ 16) && zs.all bagB) = false
  · exact runs_bad A Ao n cap no co zs w hn (by omega) h hb
  · have hb' : n ≤ 16 ∧ zs.all bagB = true := by simpa using hb
    exact runs_good A Ao n cap no co zs w hb'.1 hno h hb'.2 hro
theorem IRows.below {w w' : World} {A : Option Addr} {m : Nat} (h : IRows w A m) (hb : Below w.heap.size w w') : IRows w' A m := fun hm => by
  obtain ⟨b, off, hA, hl, hr⟩ := h hm
  refine ⟨b, off, hA, Nat.lt_of_lt_of_le hl hb.size, fun r hr' => ?_⟩
  obtain ⟨R, l, c, zs, h1, h2, h3⟩ := hr r hr'
  exact ⟨R, l, c, zs, (hb.cell (p := ⟨b, off + r, none⟩) hl).trans h1, h2, h3.below hb⟩
set_option maxRecDepth 100000 in
set_option maxHeartbeats 1000000 in
theorem tells_main (A Ao : Option Addr) (n cap no co : Nat) (zs : List Int) (w : World) (hn : n ≤ 9223372036854775807) (hno : no ≤ 9223372036854775807) (h : Ints w A n zs (fun _ => False)) (hro : IRows w Ao no) :
    Calls Try.prog 3 #[.slice A n cap, .slice Ao no co] w fun e w' => e = .returned (.bool true) ∧ Below w.heap.size w w' := by
  have HRU := hide (fun (h1 : n ≤ 100) (h2 : no ≤ 150) => runs_any A Ao n cap no co zs w h1 h2 (hide h) (hide hro))
  clear h hro
  by_cases h1 : 100 < n
  · go_enter Try.func3, Try.ntmps3
    go_wp2_with fail
    refine (awake_any _).mono ?_
    rintro e w' ⟨rfl, hb⟩
    have HB := hide hb
    clear hb
    go_wp2_with fail
    go_ret
    exact ⟨rfl, HB.out⟩
  · by_cases h2 : 150 < no
    · go_enter Try.func3, Try.ntmps3
      go_wp2_with fail
      refine (awake_any _).mono ?_
      rintro e w' ⟨rfl, hb⟩
      have HB := hide hb
      clear hb
      go_wp2_with fail
      go_ret
      exact ⟨rfl, HB.out⟩
    · go_enter Try.func3, Try.ntmps3
      go_wp2_with fail
      refine (HRU.out (by omega) (by omega)).mono ?_
      rintro e w1 ⟨rfl, hb1⟩
      have HB1 := hide hb1
      clear hb1
      go_wp2_with fail
      refine (awake_any _).mono ?_
      rintro e w' ⟨rfl, hb⟩
      have HB := hide (HB1.out.trans (hb.mono HB1.out.size))
      clear hb
      go_wp2_with fail
      go_ret
      exact ⟨rfl, HB.out⟩
end Go.Proofs.Ythahnliddoijoaa
