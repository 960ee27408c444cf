/-
  HealthDefault: the walk.
-/
import Derived.Test.YtojmcgobihegpaaTells
namespace Go.Proofs.Ytojmcgobihegpaa
open Go.RowKit
theorem concs_one {r : HRow} {m p : ByteArray} {f : Int} (h : validB r = false) : concs [r] m p f = [] := by
  unfold concs concernsB; simp [h]
theorem dec_nil {m p : ByteArray} {f x y z : Int} (hx : (if badB p f then 0 else dflL f) = x) (hy : (if badB p f then 0 else dflD f) = y) (hz : (if badB p f then 2 else 0) = z) :
    decL [] m p f = x ∧ decD [] m p f = y ∧ rowE p f = z := by
  have : decR [] m p f = none := rfl
  unfold decL decD rowE
  rw [this, hx, hy, hz]
  exact ⟨rfl, rfl, rfl⟩
theorem dec_one {r : HRow} {m p : ByteArray} {f x y z : Int} (h : validB r = false) (hx : (if badB p f then 0 else dflL f) = x) (hy : (if badB p f then 0 else dflD f) = y) (hz : (if badB p f then 2 else 0) = z) :
    decL [r] m p f = x ∧ decD [r] m p f = y ∧ rowE p f = z := by
  have : decR [r] m p f = none := by unfold decR bestIdx; rw [concs_one h]; rfl
  unfold decL decD rowE
  rw [this, hx, hy, hz]
  exact ⟨rfl, rfl, rfl⟩
/-- One row in a new block of its own. -/
theorem hrows_one (W : World) (r : HRow) (ho : r.ok) : Hid (HRows (W.alloc (.cells r.cells 36)).heap.size (W.alloc (.cells r.cells 36)) (some ⟨W.heap.size, 0, none⟩) [r]) := by
  obtain ⟨m, p, f, l, d⟩ := r
  refine .inr ⟨W.heap.size, 0, rfl, by simp, ?_⟩
  intro i r' hr
  match i, hr with
  | 0, hr => cases hr; exact ⟨ho, by simp [go_sem, HRow.cells], by simp [go_sem, HRow.cells], by simp [go_sem, HRow.cells], by simp [go_sem, HRow.cells], by simp [go_sem, HRow.cells]⟩
  | _ + 1, hr => simp at hr
set_option maxRecDepth 100000 in
set_option maxHeartbeats 4000000 in
theorem def_any (r : HRow) (m p : ByteArray) (f : Int) (w : World) (ho : r.ok) (f0 : 0 ≤ f) (f255 : f ≤ 255) :
    Calls Try.prog 7 #[r.val, .string m, .string p, .int .u8 f] w fun e w' => e = .returned (.bool true) ∧ Below w.heap.size w w' := by
  have hva := hide (fun w => valid_any r w ho)
  obtain ⟨vb, hvb⟩ : ∃ vb, validB r = vb := ⟨_, rfl⟩
  rw [hvb] at hva
  have HVB := hide hvb
  clear hvb
  have hcase : f < 1 ∨ (1 ≤ f ∧ 7 < f) ∨ f = 1 ∨ f = 2 ∨ f = 3 ∨ f = 4 ∨ f = 5 ∨ f = 6 ∨ f = 7 := by omega
  rcases hcase with h | ⟨h, h7⟩ | rfl | rfl | rfl | rfl | rfl | rfl | rfl
  · have hbad : badB p f = true := by unfold badB knownB; simp; omega
    have HN := hide (dec_nil (m := m) (p := p) (f := f) (x := 0) (y := 0) (z := 2) (by rw [hbad]; rfl) (by rw [hbad]; rfl) (by rw [hbad]; rfl))
    have HO : Hid (vb = false → decL [r] m p f = 0 ∧ decD [r] m p f = 0 ∧ rowE p f = 2) := fun h => dec_one (HVB.out.trans h) (by rw [hbad]; rfl) (by rw [hbad]; rfl) (by rw [hbad]; rfl)
    clear hbad
    obtain ⟨rm, rp, rf, rl, rd⟩ := r
    simp only [HRow.val] at hva ⊢
    go_enter Try.func7, Try.ntmps7
    go_wp2_with fail
    refine (decide_any none 0 0 [] m _ _ _ (by decide) rfl (.inl rfl)).mono ?_
    rintro e w1 ⟨rfl, hb1⟩
    rw [HN.out.1, HN.out.2.1, HN.out.2.2]
    have x0 := (bcell hb1).1 w.heap.size 0 (by simp)
    have x1 := (bcell hb1).1 w.heap.size 1 (by simp)
    have x2 := (bcell hb1).1 w.heap.size 2 (by simp)
    have x3 := (bcell hb1).1 w.heap.size 3 (by simp)
    have x4 := (bcell hb1).1 w.heap.size 4 (by simp)
    simp [go_sem] at x0 x1 x2 x3 x4
    have B1 := hide (((Below.refl _ w).alloc (Nat.le_refl _) _).trans (hb1.mono (by simp)))
    have hs1 : w.heap.size < w1.heap.size := by have := hb1.size; simp at this; omega
    clear hb1
    go_wp2_with fail
    refine (hva.out _).mono ?_
    rintro e w2 ⟨rfl, hb2⟩
    have y0 := ((bcell hb2).1 w.heap.size 0 hs1).trans x0
    have y1 := ((bcell hb2).1 w.heap.size 1 hs1).trans x1
    have y2 := ((bcell hb2).1 w.heap.size 2 hs1).trans x2
    have y3 := ((bcell hb2).1 w.heap.size 3 hs1).trans x3
    have y4 := ((bcell hb2).1 w.heap.size 4 hs1).trans x4
    clear x0 x1 x2 x3 x4
    have B2 := hide (bstep B1.out hb2)
    clear hb2 hs1
    cases vb
    · go_wp2_with fail
      refine (decide_any _ 1 1 [⟨rm, rp, rf, rl, rd⟩] m _ _ _ (by decide) rfl (hrows_one w2 ⟨rm, rp, rf, rl, rd⟩ ho)).mono ?_
      rintro e w3 ⟨rfl, hb3⟩
      rw [(HO.out (by trivial)).1, (HO.out (by trivial)).2.1, (HO.out (by trivial)).2.2]
      have B3 := hide ((B2.out.alloc B2.out.size _).trans (hb3.mono (by have := B2.out.size; simp; omega)))
      clear hb3
      go_wp2_with (go_at_call 11; refine (awake_any _).mono ?_; rintro e w' ⟨rfl, hb4⟩)
      go_ret
      exact ⟨rfl, bstep B3.out hb4⟩
    · go_wp2_with (go_at_call 11; refine (awake_any _).mono ?_; rintro e w' ⟨rfl, hb4⟩)
      go_ret
      exact ⟨rfl, bstep B2.out hb4⟩
  · have hbad : badB ⟨#[]⟩ f = true := by unfold badB knownB; simp; omega
    have HN := hide (dec_nil (m := m) (p := ⟨#[]⟩) (f := f) (x := 0) (y := 0) (z := 2) (by rw [hbad]; rfl) (by rw [hbad]; rfl) (by rw [hbad]; rfl))
    have HO : Hid (vb = false → decL [r] m ⟨#[]⟩ f = 0 ∧ decD [r] m ⟨#[]⟩ f = 0 ∧ rowE ⟨#[]⟩ f = 2) := fun h => dec_one (HVB.out.trans h) (by rw [hbad]; rfl) (by rw [hbad]; rfl) (by rw [hbad]; rfl)
    clear hbad
    obtain ⟨rm, rp, rf, rl, rd⟩ := r
    simp only [HRow.val] at hva ⊢
    go_enter Try.func7, Try.ntmps7
    go_wp2_with fail
    refine (decide_any none 0 0 [] m _ _ _ (by decide) rfl (.inl rfl)).mono ?_
    rintro e w1 ⟨rfl, hb1⟩
    rw [HN.out.1, HN.out.2.1, HN.out.2.2]
    have x0 := (bcell hb1).1 w.heap.size 0 (by simp)
    have x1 := (bcell hb1).1 w.heap.size 1 (by simp)
    have x2 := (bcell hb1).1 w.heap.size 2 (by simp)
    have x3 := (bcell hb1).1 w.heap.size 3 (by simp)
    have x4 := (bcell hb1).1 w.heap.size 4 (by simp)
    simp [go_sem] at x0 x1 x2 x3 x4
    have B1 := hide (((Below.refl _ w).alloc (Nat.le_refl _) _).trans (hb1.mono (by simp)))
    have hs1 : w.heap.size < w1.heap.size := by have := hb1.size; simp at this; omega
    clear hb1
    go_wp2_with fail
    refine (hva.out _).mono ?_
    rintro e w2 ⟨rfl, hb2⟩
    have y0 := ((bcell hb2).1 w.heap.size 0 hs1).trans x0
    have y1 := ((bcell hb2).1 w.heap.size 1 hs1).trans x1
    have y2 := ((bcell hb2).1 w.heap.size 2 hs1).trans x2
    have y3 := ((bcell hb2).1 w.heap.size 3 hs1).trans x3
    have y4 := ((bcell hb2).1 w.heap.size 4 hs1).trans x4
    clear x0 x1 x2 x3 x4
    have B2 := hide (bstep B1.out hb2)
    clear hb2 hs1
    cases vb
    · go_wp2_with fail
      refine (decide_any _ 1 1 [⟨rm, rp, rf, rl, rd⟩] m _ _ _ (by decide) rfl (hrows_one w2 ⟨rm, rp, rf, rl, rd⟩ ho)).mono ?_
      rintro e w3 ⟨rfl, hb3⟩
      rw [(HO.out (by trivial)).1, (HO.out (by trivial)).2.1, (HO.out (by trivial)).2.2]
      have B3 := hide ((B2.out.alloc B2.out.size _).trans (hb3.mono (by have := B2.out.size; simp; omega)))
      clear hb3
      go_wp2_with (go_at_call 11; refine (awake_any _).mono ?_; rintro e w' ⟨rfl, hb4⟩)
      go_ret
      exact ⟨rfl, bstep B3.out hb4⟩
    · go_wp2_with (go_at_call 11; refine (awake_any _).mono ?_; rintro e w' ⟨rfl, hb4⟩)
      go_ret
      exact ⟨rfl, bstep B2.out hb4⟩
  · have hbad : badB p 1 = false := by unfold badB knownB modularB; simp
    have hix : ∀ w, (Instr.index 44 (.agg #[.int .u8 0, .int .u8 0, .int .u8 1, .int .u8 2, .int .u8 2, .int .u8 5, .int .u8 1, .int .u8 2, .int .u8 1, .int .u8 2, .int .u8 2, .int .u8 5, .int .u8 3, .int .u8 7, .int .u8 3, .int .u8 7]) (.int .u8 1)).run Try.prog w = .ok (.agg #[.int .u8 1, .int .u8 2]) w := fun _ => by kernel_rfl
    have HN := hide (dec_nil (m := m) (p := p) (f := 1) (x := 1) (y := 2) (z := 0) (by rw [hbad]; rfl) (by rw [hbad]; rfl) (by rw [hbad]; rfl))
    have HO : Hid (vb = false → decL [r] m p 1 = 1 ∧ decD [r] m p 1 = 2 ∧ rowE p 1 = 0) := fun h => dec_one (HVB.out.trans h) (by rw [hbad]; rfl) (by rw [hbad]; rfl) (by rw [hbad]; rfl)
    clear hbad
    obtain ⟨rm, rp, rf, rl, rd⟩ := r
    simp only [HRow.val] at hva ⊢
    go_enter Try.func7, Try.ntmps7
    go_wp2_with fail
    refine (decide_any none 0 0 [] m _ _ _ (by decide) rfl (.inl rfl)).mono ?_
    rintro e w1 ⟨rfl, hb1⟩
    rw [HN.out.1, HN.out.2.1, HN.out.2.2]
    have x0 := (bcell hb1).1 w.heap.size 0 (by simp)
    have x1 := (bcell hb1).1 w.heap.size 1 (by simp)
    have x2 := (bcell hb1).1 w.heap.size 2 (by simp)
    have x3 := (bcell hb1).1 w.heap.size 3 (by simp)
    have x4 := (bcell hb1).1 w.heap.size 4 (by simp)
    simp [go_sem] at x0 x1 x2 x3 x4
    have B1 := hide (((Below.refl _ w).alloc (Nat.le_refl _) _).trans (hb1.mono (by simp)))
    have hs1 : w.heap.size < w1.heap.size := by have := hb1.size; simp at this; omega
    clear hb1
    go_wp2_with fail
    refine (hva.out _).mono ?_
    rintro e w2 ⟨rfl, hb2⟩
    have y0 := ((bcell hb2).1 w.heap.size 0 hs1).trans x0
    have y1 := ((bcell hb2).1 w.heap.size 1 hs1).trans x1
    have y2 := ((bcell hb2).1 w.heap.size 2 hs1).trans x2
    have y3 := ((bcell hb2).1 w.heap.size 3 hs1).trans x3
    have y4 := ((bcell hb2).1 w.heap.size 4 hs1).trans x4
    clear x0 x1 x2 x3 x4
    have B2 := hide (bstep B1.out hb2)
    clear hb2 hs1
    cases vb
    · go_wp2_with fail
      refine (decide_any _ 1 1 [⟨rm, rp, rf, rl, rd⟩] m _ _ _ (by decide) rfl (hrows_one w2 ⟨rm, rp, rf, rl, rd⟩ ho)).mono ?_
      rintro e w3 ⟨rfl, hb3⟩
      rw [(HO.out (by trivial)).1, (HO.out (by trivial)).2.1, (HO.out (by trivial)).2.2]
      have B3 := hide ((B2.out.alloc B2.out.size _).trans (hb3.mono (by have := B2.out.size; simp; omega)))
      clear hb3
      go_wp2_with (go_at_call 11; refine (awake_any _).mono ?_; rintro e w' ⟨rfl, hb4⟩)
      go_ret
      exact ⟨rfl, (B3.out.alloc B3.out.size _).trans (hb4.mono (by have := B3.out.size; simp; omega))⟩
    · go_wp2_with (go_at_call 11; refine (awake_any _).mono ?_; rintro e w' ⟨rfl, hb4⟩)
      go_ret
      exact ⟨rfl, (B2.out.alloc B2.out.size _).trans (hb4.mono (by have := B2.out.size; simp; omega))⟩
  · have hbad : badB p 2 = false := by unfold badB knownB modularB; simp
    have hix : ∀ w, (Instr.index 44 (.agg #[.int .u8 0, .int .u8 0, .int .u8 1, .int .u8 2, .int .u8 2, .int .u8 5, .int .u8 1, .int .u8 2, .int .u8 1, .int .u8 2, .int .u8 2, .int .u8 5, .int .u8 3, .int .u8 7, .int .u8 3, .int .u8 7]) (.int .u8 2)).run Try.prog w = .ok (.agg #[.int .u8 2, .int .u8 5]) w := fun _ => by kernel_rfl
    have HN := hide (dec_nil (m := m) (p := p) (f := 2) (x := 2) (y := 5) (z := 0) (by rw [hbad]; rfl) (by rw [hbad]; rfl) (by rw [hbad]; rfl))
    have HO : Hid (vb = false → decL [r] m p 2 = 2 ∧ decD [r] m p 2 = 5 ∧ rowE p 2 = 0) := fun h => dec_one (HVB.out.trans h) (by rw [hbad]; rfl) (by rw [hbad]; rfl) (by rw [hbad]; rfl)
    clear hbad
    obtain ⟨rm, rp, rf, rl, rd⟩ := r
    simp only [HRow.val] at hva ⊢
    go_enter Try.func7, Try.ntmps7
    go_wp2_with fail
    refine (decide_any none 0 0 [] m _ _ _ (by decide) rfl (.inl rfl)).mono ?_
    rintro e w1 ⟨rfl, hb1⟩
    rw [HN.out.1, HN.out.2.1, HN.out.2.2]
    have x0 := (bcell hb1).1 w.heap.size 0 (by simp)
    have x1 := (bcell hb1).1 w.heap.size 1 (by simp)
    have x2 := (bcell hb1).1 w.heap.size 2 (by simp)
    have x3 := (bcell hb1).1 w.heap.size 3 (by simp)
    have x4 := (bcell hb1).1 w.heap.size 4 (by simp)
    simp [go_sem] at x0 x1 x2 x3 x4
    have B1 := hide (((Below.refl _ w).alloc (Nat.le_refl _) _).trans (hb1.mono (by simp)))
    have hs1 : w.heap.size < w1.heap.size := by have := hb1.size; simp at this; omega
    clear hb1
    go_wp2_with fail
    refine (hva.out _).mono ?_
    rintro e w2 ⟨rfl, hb2⟩
    have y0 := ((bcell hb2).1 w.heap.size 0 hs1).trans x0
    have y1 := ((bcell hb2).1 w.heap.size 1 hs1).trans x1
    have y2 := ((bcell hb2).1 w.heap.size 2 hs1).trans x2
    have y3 := ((bcell hb2).1 w.heap.size 3 hs1).trans x3
    have y4 := ((bcell hb2).1 w.heap.size 4 hs1).trans x4
    clear x0 x1 x2 x3 x4
    have B2 := hide (bstep B1.out hb2)
    clear hb2 hs1
    cases vb
    · go_wp2_with fail
      refine (decide_any _ 1 1 [⟨rm, rp, rf, rl, rd⟩] m _ _ _ (by decide) rfl (hrows_one w2 ⟨rm, rp, rf, rl, rd⟩ ho)).mono ?_
      rintro e w3 ⟨rfl, hb3⟩
      rw [(HO.out (by trivial)).1, (HO.out (by trivial)).2.1, (HO.out (by trivial)).2.2]
      have B3 := hide ((B2.out.alloc B2.out.size _).trans (hb3.mono (by have := B2.out.size; simp; omega)))
      clear hb3
      go_wp2_with (go_at_call 11; refine (awake_any _).mono ?_; rintro e w' ⟨rfl, hb4⟩)
      go_ret
      exact ⟨rfl, (B3.out.alloc B3.out.size _).trans (hb4.mono (by have := B3.out.size; simp; omega))⟩
    · go_wp2_with (go_at_call 11; refine (awake_any _).mono ?_; rintro e w' ⟨rfl, hb4⟩)
      go_ret
      exact ⟨rfl, (B2.out.alloc B2.out.size _).trans (hb4.mono (by have := B2.out.size; simp; omega))⟩
  · have hbad : badB p 3 = false := by unfold badB knownB modularB; simp
    have hix : ∀ w, (Instr.index 44 (.agg #[.int .u8 0, .int .u8 0, .int .u8 1, .int .u8 2, .int .u8 2, .int .u8 5, .int .u8 1, .int .u8 2, .int .u8 1, .int .u8 2, .int .u8 2, .int .u8 5, .int .u8 3, .int .u8 7, .int .u8 3, .int .u8 7]) (.int .u8 3)).run Try.prog w = .ok (.agg #[.int .u8 1, .int .u8 2]) w := fun _ => by kernel_rfl
    have HN := hide (dec_nil (m := m) (p := p) (f := 3) (x := 1) (y := 2) (z := 0) (by rw [hbad]; rfl) (by rw [hbad]; rfl) (by rw [hbad]; rfl))
    have HO : Hid (vb = false → decL [r] m p 3 = 1 ∧ decD [r] m p 3 = 2 ∧ rowE p 3 = 0) := fun h => dec_one (HVB.out.trans h) (by rw [hbad]; rfl) (by rw [hbad]; rfl) (by rw [hbad]; rfl)
    clear hbad
    obtain ⟨rm, rp, rf, rl, rd⟩ := r
    simp only [HRow.val] at hva ⊢
    go_enter Try.func7, Try.ntmps7
    go_wp2_with fail
    refine (decide_any none 0 0 [] m _ _ _ (by decide) rfl (.inl rfl)).mono ?_
    rintro e w1 ⟨rfl, hb1⟩
    rw [HN.out.1, HN.out.2.1, HN.out.2.2]
    have x0 := (bcell hb1).1 w.heap.size 0 (by simp)
    have x1 := (bcell hb1).1 w.heap.size 1 (by simp)
    have x2 := (bcell hb1).1 w.heap.size 2 (by simp)
    have x3 := (bcell hb1).1 w.heap.size 3 (by simp)
    have x4 := (bcell hb1).1 w.heap.size 4 (by simp)
    simp [go_sem] at x0 x1 x2 x3 x4
    have B1 := hide (((Below.refl _ w).alloc (Nat.le_refl _) _).trans (hb1.mono (by simp)))
    have hs1 : w.heap.size < w1.heap.size := by have := hb1.size; simp at this; omega
    clear hb1
    go_wp2_with fail
    refine (hva.out _).mono ?_
    rintro e w2 ⟨rfl, hb2⟩
    have y0 := ((bcell hb2).1 w.heap.size 0 hs1).trans x0
    have y1 := ((bcell hb2).1 w.heap.size 1 hs1).trans x1
    have y2 := ((bcell hb2).1 w.heap.size 2 hs1).trans x2
    have y3 := ((bcell hb2).1 w.heap.size 3 hs1).trans x3
    have y4 := ((bcell hb2).1 w.heap.size 4 hs1).trans x4
    clear x0 x1 x2 x3 x4
    have B2 := hide (bstep B1.out hb2)
    clear hb2 hs1
    cases vb
    · go_wp2_with fail
      refine (decide_any _ 1 1 [⟨rm, rp, rf, rl, rd⟩] m _ _ _ (by decide) rfl (hrows_one w2 ⟨rm, rp, rf, rl, rd⟩ ho)).mono ?_
      rintro e w3 ⟨rfl, hb3⟩
      rw [(HO.out (by trivial)).1, (HO.out (by trivial)).2.1, (HO.out (by trivial)).2.2]
      have B3 := hide ((B2.out.alloc B2.out.size _).trans (hb3.mono (by have := B2.out.size; simp; omega)))
      clear hb3
      go_wp2_with (go_at_call 11; refine (awake_any _).mono ?_; rintro e w' ⟨rfl, hb4⟩)
      go_ret
      exact ⟨rfl, (B3.out.alloc B3.out.size _).trans (hb4.mono (by have := B3.out.size; simp; omega))⟩
    · go_wp2_with (go_at_call 11; refine (awake_any _).mono ?_; rintro e w' ⟨rfl, hb4⟩)
      go_ret
      exact ⟨rfl, (B2.out.alloc B2.out.size _).trans (hb4.mono (by have := B2.out.size; simp; omega))⟩
  · have hbad : badB p 4 = false := by unfold badB knownB modularB; simp
    have hix : ∀ w, (Instr.index 44 (.agg #[.int .u8 0, .int .u8 0, .int .u8 1, .int .u8 2, .int .u8 2, .int .u8 5, .int .u8 1, .int .u8 2, .int .u8 1, .int .u8 2, .int .u8 2, .int .u8 5, .int .u8 3, .int .u8 7, .int .u8 3, .int .u8 7]) (.int .u8 4)).run Try.prog w = .ok (.agg #[.int .u8 1, .int .u8 2]) w := fun _ => by kernel_rfl
    have HN := hide (dec_nil (m := m) (p := p) (f := 4) (x := 1) (y := 2) (z := 0) (by rw [hbad]; rfl) (by rw [hbad]; rfl) (by rw [hbad]; rfl))
    have HO : Hid (vb = false → decL [r] m p 4 = 1 ∧ decD [r] m p 4 = 2 ∧ rowE p 4 = 0) := fun h => dec_one (HVB.out.trans h) (by rw [hbad]; rfl) (by rw [hbad]; rfl) (by rw [hbad]; rfl)
    clear hbad
    obtain ⟨rm, rp, rf, rl, rd⟩ := r
    simp only [HRow.val] at hva ⊢
    go_enter Try.func7, Try.ntmps7
    go_wp2_with fail
    refine (decide_any none 0 0 [] m _ _ _ (by decide) rfl (.inl rfl)).mono ?_
    rintro e w1 ⟨rfl, hb1⟩
    rw [HN.out.1, HN.out.2.1, HN.out.2.2]
    have x0 := (bcell hb1).1 w.heap.size 0 (by simp)
    have x1 := (bcell hb1).1 w.heap.size 1 (by simp)
    have x2 := (bcell hb1).1 w.heap.size 2 (by simp)
    have x3 := (bcell hb1).1 w.heap.size 3 (by simp)
    have x4 := (bcell hb1).1 w.heap.size 4 (by simp)
    simp [go_sem] at x0 x1 x2 x3 x4
    have B1 := hide (((Below.refl _ w).alloc (Nat.le_refl _) _).trans (hb1.mono (by simp)))
    have hs1 : w.heap.size < w1.heap.size := by have := hb1.size; simp at this; omega
    clear hb1
    go_wp2_with fail
    refine (hva.out _).mono ?_
    rintro e w2 ⟨rfl, hb2⟩
    have y0 := ((bcell hb2).1 w.heap.size 0 hs1).trans x0
    have y1 := ((bcell hb2).1 w.heap.size 1 hs1).trans x1
    have y2 := ((bcell hb2).1 w.heap.size 2 hs1).trans x2
    have y3 := ((bcell hb2).1 w.heap.size 3 hs1).trans x3
    have y4 := ((bcell hb2).1 w.heap.size 4 hs1).trans x4
    clear x0 x1 x2 x3 x4
    have B2 := hide (bstep B1.out hb2)
    clear hb2 hs1
    cases vb
    · go_wp2_with fail
      refine (decide_any _ 1 1 [⟨rm, rp, rf, rl, rd⟩] m _ _ _ (by decide) rfl (hrows_one w2 ⟨rm, rp, rf, rl, rd⟩ ho)).mono ?_
      rintro e w3 ⟨rfl, hb3⟩
      rw [(HO.out (by trivial)).1, (HO.out (by trivial)).2.1, (HO.out (by trivial)).2.2]
      have B3 := hide ((B2.out.alloc B2.out.size _).trans (hb3.mono (by have := B2.out.size; simp; omega)))
      clear hb3
      go_wp2_with (go_at_call 11; refine (awake_any _).mono ?_; rintro e w' ⟨rfl, hb4⟩)
      go_ret
      exact ⟨rfl, (B3.out.alloc B3.out.size _).trans (hb4.mono (by have := B3.out.size; simp; omega))⟩
    · go_wp2_with (go_at_call 11; refine (awake_any _).mono ?_; rintro e w' ⟨rfl, hb4⟩)
      go_ret
      exact ⟨rfl, (B2.out.alloc B2.out.size _).trans (hb4.mono (by have := B2.out.size; simp; omega))⟩
  · have hbad : badB p 5 = false := by unfold badB knownB modularB; simp
    have hix : ∀ w, (Instr.index 44 (.agg #[.int .u8 0, .int .u8 0, .int .u8 1, .int .u8 2, .int .u8 2, .int .u8 5, .int .u8 1, .int .u8 2, .int .u8 1, .int .u8 2, .int .u8 2, .int .u8 5, .int .u8 3, .int .u8 7, .int .u8 3, .int .u8 7]) (.int .u8 5)).run Try.prog w = .ok (.agg #[.int .u8 2, .int .u8 5]) w := fun _ => by kernel_rfl
    have HN := hide (dec_nil (m := m) (p := p) (f := 5) (x := 2) (y := 5) (z := 0) (by rw [hbad]; rfl) (by rw [hbad]; rfl) (by rw [hbad]; rfl))
    have HO : Hid (vb = false → decL [r] m p 5 = 2 ∧ decD [r] m p 5 = 5 ∧ rowE p 5 = 0) := fun h => dec_one (HVB.out.trans h) (by rw [hbad]; rfl) (by rw [hbad]; rfl) (by rw [hbad]; rfl)
    clear hbad
    obtain ⟨rm, rp, rf, rl, rd⟩ := r
    simp only [HRow.val] at hva ⊢
    go_enter Try.func7, Try.ntmps7
    go_wp2_with fail
    refine (decide_any none 0 0 [] m _ _ _ (by decide) rfl (.inl rfl)).mono ?_
    rintro e w1 ⟨rfl, hb1⟩
    rw [HN.out.1, HN.out.2.1, HN.out.2.2]
    have x0 := (bcell hb1).1 w.heap.size 0 (by simp)
    have x1 := (bcell hb1).1 w.heap.size 1 (by simp)
    have x2 := (bcell hb1).1 w.heap.size 2 (by simp)
    have x3 := (bcell hb1).1 w.heap.size 3 (by simp)
    have x4 := (bcell hb1).1 w.heap.size 4 (by simp)
    simp [go_sem] at x0 x1 x2 x3 x4
    have B1 := hide (((Below.refl _ w).alloc (Nat.le_refl _) _).trans (hb1.mono (by simp)))
    have hs1 : w.heap.size < w1.heap.size := by have := hb1.size; simp at this; omega
    clear hb1
    go_wp2_with fail
    refine (hva.out _).mono ?_
    rintro e w2 ⟨rfl, hb2⟩
    have y0 := ((bcell hb2).1 w.heap.size 0 hs1).trans x0
    have y1 := ((bcell hb2).1 w.heap.size 1 hs1).trans x1
    have y2 := ((bcell hb2).1 w.heap.size 2 hs1).trans x2
    have y3 := ((bcell hb2).1 w.heap.size 3 hs1).trans x3
    have y4 := ((bcell hb2).1 w.heap.size 4 hs1).trans x4
    clear x0 x1 x2 x3 x4
    have B2 := hide (bstep B1.out hb2)
    clear hb2 hs1
    cases vb
    · go_wp2_with fail
      refine (decide_any _ 1 1 [⟨rm, rp, rf, rl, rd⟩] m _ _ _ (by decide) rfl (hrows_one w2 ⟨rm, rp, rf, rl, rd⟩ ho)).mono ?_
      rintro e w3 ⟨rfl, hb3⟩
      rw [(HO.out (by trivial)).1, (HO.out (by trivial)).2.1, (HO.out (by trivial)).2.2]
      have B3 := hide ((B2.out.alloc B2.out.size _).trans (hb3.mono (by have := B2.out.size; simp; omega)))
      clear hb3
      go_wp2_with (go_at_call 11; refine (awake_any _).mono ?_; rintro e w' ⟨rfl, hb4⟩)
      go_ret
      exact ⟨rfl, (B3.out.alloc B3.out.size _).trans (hb4.mono (by have := B3.out.size; simp; omega))⟩
    · go_wp2_with (go_at_call 11; refine (awake_any _).mono ?_; rintro e w' ⟨rfl, hb4⟩)
      go_ret
      exact ⟨rfl, (B2.out.alloc B2.out.size _).trans (hb4.mono (by have := B2.out.size; simp; omega))⟩
  · have hbad : badB ⟨#[]⟩ 6 = false := by decide +kernel
    have hix : ∀ w, (Instr.index 44 (.agg #[.int .u8 0, .int .u8 0, .int .u8 1, .int .u8 2, .int .u8 2, .int .u8 5, .int .u8 1, .int .u8 2, .int .u8 1, .int .u8 2, .int .u8 2, .int .u8 5, .int .u8 3, .int .u8 7, .int .u8 3, .int .u8 7]) (.int .u8 6)).run Try.prog w = .ok (.agg #[.int .u8 3, .int .u8 7]) w := fun _ => by kernel_rfl
    have HN := hide (dec_nil (m := m) (p := ⟨#[]⟩) (f := 6) (x := 3) (y := 7) (z := 0) (by rw [hbad]; rfl) (by rw [hbad]; rfl) (by rw [hbad]; rfl))
    have HO : Hid (vb = false → decL [r] m ⟨#[]⟩ 6 = 3 ∧ decD [r] m ⟨#[]⟩ 6 = 7 ∧ rowE ⟨#[]⟩ 6 = 0) := fun h => dec_one (HVB.out.trans h) (by rw [hbad]; rfl) (by rw [hbad]; rfl) (by rw [hbad]; rfl)
    clear hbad
    obtain ⟨rm, rp, rf, rl, rd⟩ := r
    simp only [HRow.val] at hva ⊢
    go_enter Try.func7, Try.ntmps7
    go_wp2_with fail
    refine (decide_any none 0 0 [] m _ _ _ (by decide) rfl (.inl rfl)).mono ?_
    rintro e w1 ⟨rfl, hb1⟩
    rw [HN.out.1, HN.out.2.1, HN.out.2.2]
    have x0 := (bcell hb1).1 w.heap.size 0 (by simp)
    have x1 := (bcell hb1).1 w.heap.size 1 (by simp)
    have x2 := (bcell hb1).1 w.heap.size 2 (by simp)
    have x3 := (bcell hb1).1 w.heap.size 3 (by simp)
    have x4 := (bcell hb1).1 w.heap.size 4 (by simp)
    simp [go_sem] at x0 x1 x2 x3 x4
    have B1 := hide (((Below.refl _ w).alloc (Nat.le_refl _) _).trans (hb1.mono (by simp)))
    have hs1 : w.heap.size < w1.heap.size := by have := hb1.size; simp at this; omega
    clear hb1
    go_wp2_with fail
    refine (hva.out _).mono ?_
    rintro e w2 ⟨rfl, hb2⟩
    have y0 := ((bcell hb2).1 w.heap.size 0 hs1).trans x0
    have y1 := ((bcell hb2).1 w.heap.size 1 hs1).trans x1
    have y2 := ((bcell hb2).1 w.heap.size 2 hs1).trans x2
    have y3 := ((bcell hb2).1 w.heap.size 3 hs1).trans x3
    have y4 := ((bcell hb2).1 w.heap.size 4 hs1).trans x4
    clear x0 x1 x2 x3 x4
    have B2 := hide (bstep B1.out hb2)
    clear hb2 hs1
    cases vb
    · go_wp2_with fail
      refine (decide_any _ 1 1 [⟨rm, rp, rf, rl, rd⟩] m _ _ _ (by decide) rfl (hrows_one w2 ⟨rm, rp, rf, rl, rd⟩ ho)).mono ?_
      rintro e w3 ⟨rfl, hb3⟩
      rw [(HO.out (by trivial)).1, (HO.out (by trivial)).2.1, (HO.out (by trivial)).2.2]
      have B3 := hide ((B2.out.alloc B2.out.size _).trans (hb3.mono (by have := B2.out.size; simp; omega)))
      clear hb3
      go_wp2_with (go_at_call 11; refine (awake_any _).mono ?_; rintro e w' ⟨rfl, hb4⟩)
      go_ret
      exact ⟨rfl, (B3.out.alloc B3.out.size _).trans (hb4.mono (by have := B3.out.size; simp; omega))⟩
    · go_wp2_with (go_at_call 11; refine (awake_any _).mono ?_; rintro e w' ⟨rfl, hb4⟩)
      go_ret
      exact ⟨rfl, (B2.out.alloc B2.out.size _).trans (hb4.mono (by have := B2.out.size; simp; omega))⟩
  · have hbad : badB ⟨#[]⟩ 7 = false := by decide +kernel
    have hix : ∀ w, (Instr.index 44 (.agg #[.int .u8 0, .int .u8 0, .int .u8 1, .int .u8 2, .int .u8 2, .int .u8 5, .int .u8 1, .int .u8 2, .int .u8 1, .int .u8 2, .int .u8 2, .int .u8 5, .int .u8 3, .int .u8 7, .int .u8 3, .int .u8 7]) (.int .u8 7)).run Try.prog w = .ok (.agg #[.int .u8 3, .int .u8 7]) w := fun _ => by kernel_rfl
    have HN := hide (dec_nil (m := m) (p := ⟨#[]⟩) (f := 7) (x := 3) (y := 7) (z := 0) (by rw [hbad]; rfl) (by rw [hbad]; rfl) (by rw [hbad]; rfl))
    have HO : Hid (vb = false → decL [r] m ⟨#[]⟩ 7 = 3 ∧ decD [r] m ⟨#[]⟩ 7 = 7 ∧ rowE ⟨#[]⟩ 7 = 0) := fun h => dec_one (HVB.out.trans h) (by rw [hbad]; rfl) (by rw [hbad]; rfl) (by rw [hbad]; rfl)
    clear hbad
    obtain ⟨rm, rp, rf, rl, rd⟩ := r
    simp only [HRow.val] at hva ⊢
    go_enter Try.func7, Try.ntmps7
    go_wp2_with fail
    refine (decide_any none 0 0 [] m _ _ _ (by decide) rfl (.inl rfl)).mono ?_
    rintro e w1 ⟨rfl, hb1⟩
    rw [HN.out.1, HN.out.2.1, HN.out.2.2]
    have x0 := (bcell hb1).1 w.heap.size 0 (by simp)
    have x1 := (bcell hb1).1 w.heap.size 1 (by simp)
    have x2 := (bcell hb1).1 w.heap.size 2 (by simp)
    have x3 := (bcell hb1).1 w.heap.size 3 (by simp)
    have x4 := (bcell hb1).1 w.heap.size 4 (by simp)
    simp [go_sem] at x0 x1 x2 x3 x4
    have B1 := hide (((Below.refl _ w).alloc (Nat.le_refl _) _).trans (hb1.mono (by simp)))
    have hs1 : w.heap.size < w1.heap.size := by have := hb1.size; simp at this; omega
    clear hb1
    go_wp2_with fail
    refine (hva.out _).mono ?_
    rintro e w2 ⟨rfl, hb2⟩
    have y0 := ((bcell hb2).1 w.heap.size 0 hs1).trans x0
    have y1 := ((bcell hb2).1 w.heap.size 1 hs1).trans x1
    have y2 := ((bcell hb2).1 w.heap.size 2 hs1).trans x2
    have y3 := ((bcell hb2).1 w.heap.size 3 hs1).trans x3
    have y4 := ((bcell hb2).1 w.heap.size 4 hs1).trans x4
    clear x0 x1 x2 x3 x4
    have B2 := hide (bstep B1.out hb2)
    clear hb2 hs1
    cases vb
    · go_wp2_with fail
      refine (decide_any _ 1 1 [⟨rm, rp, rf, rl, rd⟩] m _ _ _ (by decide) rfl (hrows_one w2 ⟨rm, rp, rf, rl, rd⟩ ho)).mono ?_
      rintro e w3 ⟨rfl, hb3⟩
      rw [(HO.out (by trivial)).1, (HO.out (by trivial)).2.1, (HO.out (by trivial)).2.2]
      have B3 := hide ((B2.out.alloc B2.out.size _).trans (hb3.mono (by have := B2.out.size; simp; omega)))
      clear hb3
      go_wp2_with (go_at_call 11; refine (awake_any _).mono ?_; rintro e w' ⟨rfl, hb4⟩)
      go_ret
      exact ⟨rfl, (B3.out.alloc B3.out.size _).trans (hb4.mono (by have := B3.out.size; simp; omega))⟩
    · go_wp2_with (go_at_call 11; refine (awake_any _).mono ?_; rintro e w' ⟨rfl, hb4⟩)
      go_ret
      exact ⟨rfl, (B2.out.alloc B2.out.size _).trans (hb4.mono (by have := B2.out.size; simp; omega))⟩
end Go.Proofs.Ytojmcgobihegpaa
