/-
  HealthFits: the walk.
-/
import Derived.Test.YtojmcgobihegpaaTells
import Derived.Test.YtojmcgobihegpaaLater
namespace Go.Proofs.Ytojmcgobihegpaa
open Go.RowKit
attribute [local go_sem] Later.cell
/-- How many levels below k an action fits, for a fault of a partition. -/
def cntF (d : Int) : Nat → Int
  | 0 => 0
  | k + 1 => cntF d k + if fitsB 1 k d then 1 else 0
def wantF (d : Int) : Int := if d = 1 then 3 else if 2 ≤ d ∧ d ≤ 8 then 1 else 0
theorem fits1 (l d : Int) : fitsB 1 l d = actsB l d := by unfold fitsB knownB modularB; simp
theorem cntF_big (d : Int) (k : Nat) : cntF d (k + 4) = cntF d 4 := by
  induction k with
  | zero => rfl
  | succ k ih =>
    show cntF d (k + 4) + _ = _
    rw [ih, if_neg]
    · omega
    · rw [fits1]; unfold actsB; simp; omega
theorem cntF_want (d : Int) : cntF d 256 = wantF d := by
  rw [cntF_big d 252]
  simp only [cntF, fits1]
  unfold wantF actsB
  by_cases h1 : d = 1
  · subst h1; rfl
  · by_cases h2 : 2 ≤ d ∧ d ≤ 8
    · have : d = 2 ∨ d = 3 ∨ d = 4 ∨ d = 5 ∨ d = 6 ∨ d = 7 ∨ d = 8 := by omega
      rcases this with rfl | rfl | rfl | rfl | rfl | rfl | rfl <;> rfl
    · rw [if_neg h1, if_neg h2]
      simp
      grind
theorem cntF_bd (d : Int) (k : Nat) : 0 ≤ cntF d k ∧ cntF d k ≤ k := by
  induction k with
  | zero => exact ⟨by simp [cntF], by simp [cntF]⟩
  | succ k ih => simp only [cntF]; split <;> omega
theorem fits6 (l d : Int) (h : fitsB 6 l d = true) : l = 3 := by unfold fitsB knownB modularB at h; simp at h; exact h.2
/-- A box of five cells, carried over a call. -/
theorem s5next {N b : Nat} {W0 w w1 : World} {c0 c1 c2 c3 c4 : Value} (hN : b < N)
    (h : Below N W0 w ∧ w.cell? ⟨b, 0, none⟩ = some c0 ∧ w.cell? ⟨b, 1, none⟩ = some c1 ∧ w.cell? ⟨b, 2, none⟩ = some c2 ∧ w.cell? ⟨b, 3, none⟩ = some c3 ∧ w.cell? ⟨b, 4, none⟩ = some c4)
    (hn : N ≤ W0.heap.size) (hb : Below w.heap.size w w1) :
    Below N W0 w1 ∧ w1.cell? ⟨b, 0, none⟩ = some c0 ∧ w1.cell? ⟨b, 1, none⟩ = some c1 ∧ w1.cell? ⟨b, 2, none⟩ = some c2 ∧ w1.cell? ⟨b, 3, none⟩ = some c3 ∧ w1.cell? ⟨b, 4, none⟩ = some c4 := by
  obtain ⟨h0, h1, h2, h3, h4, h5⟩ := h
  have hlt : b < w.heap.size := Nat.lt_of_lt_of_le hN (Nat.le_trans hn h0.size)
  have hc := fun o => (bcell hb).1 b o hlt
  exact ⟨h0.trans (hb.mono (Nat.le_trans hn h0.size)), (hc 0).trans h1, (hc 1).trans h2, (hc 2).trans h3, (hc 3).trans h4, (hc 4).trans h5⟩
set_option maxRecDepth 100000 in
set_option maxHeartbeats 4000000 in
theorem fitsw_any (r : HRow) (w : World) (ho : r.ok) (hd : 0 ≤ r.d ∧ r.d ≤ 255) :
    Calls Try.prog 8 #[r.val] w fun e w' => e = .returned (.bool true) ∧ Below w.heap.size w w' := by
  have hva := hide (fun w => valid_any r w ho)
  have HV := hide (show validB r = (fitsB r.f r.l r.d && (!modularB r.f || r.p.toList.isEmpty)) from rfl)
  obtain ⟨m, p, f, l, d⟩ := r
  obtain ⟨l0, l1⟩ := ho
  obtain ⟨d0, d1⟩ := hd
  unfold HRow.val at hva ⊢
  simp only at hva HV l0 l1 d0 d1 ⊢
  have W0 := hide (Blk.new w 36 #[.string m, .string p, .int .u8 f, .int .u8 l, .int .u8 d])
  go_enter Try.func8, Try.ntmps8
  go_wp2
  go_loopw [3, 6] (fun v3 v6 wr => ∃ k : Nat, k ≤ 256 ∧ v3 = .int .i64 (cntF d k) ∧ v6 = .int .i64 k ∧ Below (w.heap.size + 1) (w.alloc (.cells #[.string m, .string p, .int .u8 f, .int .u8 l, .int .u8 d] 36)) wr)
    (fun _ v6 _ => 256 - (intOf v6).toNat)
  case atStart => exact ⟨0, by omega, rfl, rfl, Below.refl _ _⟩
  case round =>
    obtain ⟨k, hk, rfl, rfl, hbr⟩ := hrel
    have x0 := hbr.cell (p := ⟨w.heap.size, 0, none⟩) (by simp)
    have x1 := hbr.cell (p := ⟨w.heap.size, 1, none⟩) (by simp)
    have x2 := hbr.cell (p := ⟨w.heap.size, 2, none⟩) (by simp)
    have x3 := hbr.cell (p := ⟨w.heap.size, 3, none⟩) (by simp)
    have x4 := hbr.cell (p := ⟨w.heap.size, 4, none⟩) (by simp)
    simp [go_sem] at x0 x1 x2 x3 x4
    have HB := hide hbr
    have hcb := cntF_bd d k
    by_cases hlt : k < 256
    case pos =>
      have hsz := hbr.size
      simp at hsz
      have HS := hide (show cntF d (k + 1) = cntF d k + if fitsB 1 k d then 1 else 0 from rfl)
      have H6 := hide (fits6 k d)
      clear hbr
      obtain ⟨b1, hb1⟩ : ∃ b, fitsB 1 k d = b := ⟨_, rfl⟩
      obtain ⟨b6, hb6⟩ : ∃ b, fitsB 6 k d = b := ⟨_, rfl⟩
      have HB1 := hide hb1
      have HB6 := hide hb6
      clear hb1 hb6
      have h6 : b6 = true → ((k : Int) != 3) = false := fun h => by have := H6.out (HB6.out.trans h); simp [this]
      cases b1 <;> cases b6
      all_goals try have h6 := h6 rfl
      all_goals
        go_wp2_with fail
        refine (fits_any 1 k d _ (by omega) (by omega)).mono ?_
        rintro e w1 ⟨rfl, hw1⟩
        rw [HB1.out]
        have y4 := (hw1.cell (p := ⟨w.heap.size, 4, none⟩) (by simp; omega)).trans x4
        have hs1 := hw1.size
        go_wp2_with fail
        refine (fits_any 6 k d _ (by omega) (by omega)).mono ?_
        rintro e w2 ⟨rfl, hw2⟩
        rw [HB6.out]
        have HW := hide (Below.trans HB.out (Below.trans (hw1.mono (by omega)) (hw2.mono (by omega))))
        go_wp2
        go_roundw
        case rel => exact ⟨k + 1, by omega, by rw [HS.out, HB1.out]; simp, by go_num, HW.out⟩
        case measure => simp [intOf]; omega
    case neg =>
      obtain rfl : k = 256 := by omega
      clear hlt hk hcb
      have HC := hide (show cntF d 256 = wantF d from cntF_want d)
      have HW := hide (show (d = 1 → wantF d = 3) ∧ (2 ≤ d ∧ d ≤ 8 → wantF d = 1) ∧ ((d < 1 ∨ 8 < d) → wantF d = 0) by unfold wantF; refine ⟨fun h => by simp [h], fun h => by rw [if_neg (by omega), if_pos h], fun h => by rw [if_neg (by omega), if_neg (by omega)]⟩)
      have hd : (d = 1) ∨ (2 ≤ d ∧ d ≤ 8) ∨ d < 1 ∨ 8 < d := by omega
      obtain ⟨fb, hfb⟩ : ∃ b, fitsB f l d = b := ⟨_, rfl⟩
      obtain ⟨vb, hvb⟩ : ∃ b, validB ⟨m, p, f, l, d⟩ = b := ⟨_, rfl⟩
      have HV2 := hide (show vb = (fb && (!modularB f || p.toList.isEmpty)) by rw [← hvb, ← hfb]; exact HV.out)
      have hfa := hide (fun w => fits_any f l d w l0 l1)
      rw [hfb] at hfa
      rw [hvb] at hva
      have HM := hide (show (f < 6 → modularB f = false) ∧ (6 ≤ f → modularB f = true) by unfold modularB; refine ⟨fun h => by simp; omega, fun h => by simpa using h⟩)
      clear hfb hvb HV
      have hsz : w.heap.size < wr.heap.size := by have := hbr.size; simp at this; omega
      clear hbr
      have HD : Hid ((d = 1 ∧ (d == 1) = true) ∨ (d ≠ 1 ∧ (d == 1) = false)) := by
        by_cases h : d = 1
        · exact .inl ⟨h, by simpa using h⟩
        · exact .inr ⟨h, by simpa using h⟩
      rcases hd with h1 | h1 | h1 | h1
      all_goals
        have hwant := HC.out
        first | rw [HW.out.1 (by omega)] at hwant | rw [HW.out.2.1 (by omega)] at hwant | rw [HW.out.2.2 (by omega)] at hwant
        have h1 := hide h1
      · have h2 := h1.out
        subst h2
        cases fb
        · obtain rfl : vb = false := by have := HV2.out; simpa using this
          go_wp2
          refine wp_region_later (by kernel_rfl) (by kernel_rfl) ?_
          repeat (go_big_quiet_step (first
            | (go_at_call 18; exact Later.call (hva.out _))
            | (go_at_call 16; exact Later.call (hfa.out _))
            | (go_at_call 11; exact Later.call (awake_any _))))
          refine wpQuiet_nil ?_
          intro _ hw'
          obtain ⟨nq, hw''⟩ := hw'
          subst hw''
          go_wp2
          go_ret
          exact ⟨rfl, (((Below.refl _ _).alloc (Nat.le_refl _) _).trans (HB.out.mono (by omega))).trans (nq.below.mono (by omega))⟩
        · by_cases h6 : f < 6
          · obtain rfl : vb = true := by have := HV2.out; rw [HM.out.1 h6] at this; simpa using this
            go_wp2
            refine wp_region_later (by kernel_rfl) (by kernel_rfl) ?_
            repeat (go_big_quiet_step (first
              | (go_at_call 18; exact Later.call (hva.out _))
              | (go_at_call 16; exact Later.call (hfa.out _))
              | (go_at_call 11; exact Later.call (awake_any _))))
            refine wpQuiet_nil ?_
            intro _ hw'
            obtain ⟨nq, hw''⟩ := hw'
            subst hw''
            go_wp2
            go_ret
            exact ⟨rfl, (((Below.refl _ _).alloc (Nat.le_refl _) _).trans (HB.out.mono (by omega))).trans (nq.below.mono (by omega))⟩
          · have h6' : decide (f < 6) = false := by simpa using h6
            cases hp : p.toList.isEmpty
            · obtain rfl : vb = false := by have := HV2.out; rw [HM.out.2 (by omega), hp] at this; simpa using this
              go_wp2
              refine wp_region_later (by kernel_rfl) (by kernel_rfl) ?_
              repeat (go_big_quiet_step (first
                | (go_at_call 18; exact Later.call (hva.out _))
                | (go_at_call 16; exact Later.call (hfa.out _))
                | (go_at_call 11; exact Later.call (awake_any _))))
              refine wpQuiet_nil ?_
              intro _ hw'
              obtain ⟨nq, hw''⟩ := hw'
              subst hw''
              go_wp2
              go_ret
              exact ⟨rfl, (((Below.refl _ _).alloc (Nat.le_refl _) _).trans (HB.out.mono (by omega))).trans (nq.below.mono (by omega))⟩
            · obtain rfl : vb = true := by have := HV2.out; rw [HM.out.2 (by omega), hp] at this; simpa using this
              go_wp2
              refine wp_region_later (by kernel_rfl) (by kernel_rfl) ?_
              repeat (go_big_quiet_step (first
                | (go_at_call 18; exact Later.call (hva.out _))
                | (go_at_call 16; exact Later.call (hfa.out _))
                | (go_at_call 11; exact Later.call (awake_any _))))
              refine wpQuiet_nil ?_
              intro _ hw'
              obtain ⟨nq, hw''⟩ := hw'
              subst hw''
              go_wp2
              go_ret
              exact ⟨rfl, (((Below.refl _ _).alloc (Nat.le_refl _) _).trans (HB.out.mono (by omega))).trans (nq.below.mono (by omega))⟩
      · have hd1 : (d == 1) = false := by rcases HD.out with h | h; (have := h1.out; omega); exact h.2
        have h2 := h1.out
        cases fb
        · obtain rfl : vb = false := by have := HV2.out; simpa using this
          go_wp2
          refine wp_region_later (by kernel_rfl) (by kernel_rfl) ?_
          repeat (go_big_quiet_step (first
            | (go_at_call 18; exact Later.call (hva.out _))
            | (go_at_call 16; exact Later.call (hfa.out _))
            | (go_at_call 11; exact Later.call (awake_any _))))
          refine wpQuiet_nil ?_
          intro _ hw'
          obtain ⟨nq, hw''⟩ := hw'
          subst hw''
          go_wp2
          go_ret
          exact ⟨rfl, (((Below.refl _ _).alloc (Nat.le_refl _) _).trans (HB.out.mono (by omega))).trans (nq.below.mono (by omega))⟩
        · by_cases h6 : f < 6
          · obtain rfl : vb = true := by have := HV2.out; rw [HM.out.1 h6] at this; simpa using this
            go_wp2
            refine wp_region_later (by kernel_rfl) (by kernel_rfl) ?_
            repeat (go_big_quiet_step (first
              | (go_at_call 18; exact Later.call (hva.out _))
              | (go_at_call 16; exact Later.call (hfa.out _))
              | (go_at_call 11; exact Later.call (awake_any _))))
            refine wpQuiet_nil ?_
            intro _ hw'
            obtain ⟨nq, hw''⟩ := hw'
            subst hw''
            go_wp2
            go_ret
            exact ⟨rfl, (((Below.refl _ _).alloc (Nat.le_refl _) _).trans (HB.out.mono (by omega))).trans (nq.below.mono (by omega))⟩
          · have h6' : decide (f < 6) = false := by simpa using h6
            cases hp : p.toList.isEmpty
            · obtain rfl : vb = false := by have := HV2.out; rw [HM.out.2 (by omega), hp] at this; simpa using this
              go_wp2
              refine wp_region_later (by kernel_rfl) (by kernel_rfl) ?_
              repeat (go_big_quiet_step (first
                | (go_at_call 18; exact Later.call (hva.out _))
                | (go_at_call 16; exact Later.call (hfa.out _))
                | (go_at_call 11; exact Later.call (awake_any _))))
              refine wpQuiet_nil ?_
              intro _ hw'
              obtain ⟨nq, hw''⟩ := hw'
              subst hw''
              go_wp2
              go_ret
              exact ⟨rfl, (((Below.refl _ _).alloc (Nat.le_refl _) _).trans (HB.out.mono (by omega))).trans (nq.below.mono (by omega))⟩
            · obtain rfl : vb = true := by have := HV2.out; rw [HM.out.2 (by omega), hp] at this; simpa using this
              go_wp2
              refine wp_region_later (by kernel_rfl) (by kernel_rfl) ?_
              repeat (go_big_quiet_step (first
                | (go_at_call 18; exact Later.call (hva.out _))
                | (go_at_call 16; exact Later.call (hfa.out _))
                | (go_at_call 11; exact Later.call (awake_any _))))
              refine wpQuiet_nil ?_
              intro _ hw'
              obtain ⟨nq, hw''⟩ := hw'
              subst hw''
              go_wp2
              go_ret
              exact ⟨rfl, (((Below.refl _ _).alloc (Nat.le_refl _) _).trans (HB.out.mono (by omega))).trans (nq.below.mono (by omega))⟩
      · have hd1 : (d == 1) = false := by rcases HD.out with h | h; (have := h1.out; omega); exact h.2
        have h2 := h1.out
        cases fb
        · obtain rfl : vb = false := by have := HV2.out; simpa using this
          go_wp2
          refine wp_region_later (by kernel_rfl) (by kernel_rfl) ?_
          repeat (go_big_quiet_step (first
            | (go_at_call 18; exact Later.call (hva.out _))
            | (go_at_call 16; exact Later.call (hfa.out _))
            | (go_at_call 11; exact Later.call (awake_any _))))
          refine wpQuiet_nil ?_
          intro _ hw'
          obtain ⟨nq, hw''⟩ := hw'
          subst hw''
          go_wp2
          go_ret
          exact ⟨rfl, (((Below.refl _ _).alloc (Nat.le_refl _) _).trans (HB.out.mono (by omega))).trans (nq.below.mono (by omega))⟩
        · by_cases h6 : f < 6
          · obtain rfl : vb = true := by have := HV2.out; rw [HM.out.1 h6] at this; simpa using this
            go_wp2
            refine wp_region_later (by kernel_rfl) (by kernel_rfl) ?_
            repeat (go_big_quiet_step (first
              | (go_at_call 18; exact Later.call (hva.out _))
              | (go_at_call 16; exact Later.call (hfa.out _))
              | (go_at_call 11; exact Later.call (awake_any _))))
            refine wpQuiet_nil ?_
            intro _ hw'
            obtain ⟨nq, hw''⟩ := hw'
            subst hw''
            go_wp2
            go_ret
            exact ⟨rfl, (((Below.refl _ _).alloc (Nat.le_refl _) _).trans (HB.out.mono (by omega))).trans (nq.below.mono (by omega))⟩
          · have h6' : decide (f < 6) = false := by simpa using h6
            cases hp : p.toList.isEmpty
            · obtain rfl : vb = false := by have := HV2.out; rw [HM.out.2 (by omega), hp] at this; simpa using this
              go_wp2
              refine wp_region_later (by kernel_rfl) (by kernel_rfl) ?_
              repeat (go_big_quiet_step (first
                | (go_at_call 18; exact Later.call (hva.out _))
                | (go_at_call 16; exact Later.call (hfa.out _))
                | (go_at_call 11; exact Later.call (awake_any _))))
              refine wpQuiet_nil ?_
              intro _ hw'
              obtain ⟨nq, hw''⟩ := hw'
              subst hw''
              go_wp2
              go_ret
              exact ⟨rfl, (((Below.refl _ _).alloc (Nat.le_refl _) _).trans (HB.out.mono (by omega))).trans (nq.below.mono (by omega))⟩
            · obtain rfl : vb = true := by have := HV2.out; rw [HM.out.2 (by omega), hp] at this; simpa using this
              go_wp2
              refine wp_region_later (by kernel_rfl) (by kernel_rfl) ?_
              repeat (go_big_quiet_step (first
                | (go_at_call 18; exact Later.call (hva.out _))
                | (go_at_call 16; exact Later.call (hfa.out _))
                | (go_at_call 11; exact Later.call (awake_any _))))
              refine wpQuiet_nil ?_
              intro _ hw'
              obtain ⟨nq, hw''⟩ := hw'
              subst hw''
              go_wp2
              go_ret
              exact ⟨rfl, (((Below.refl _ _).alloc (Nat.le_refl _) _).trans (HB.out.mono (by omega))).trans (nq.below.mono (by omega))⟩
      · have hd1 : (d == 1) = false := by rcases HD.out with h | h; (have := h1.out; omega); exact h.2
        have h2 := h1.out
        cases fb
        · obtain rfl : vb = false := by have := HV2.out; simpa using this
          go_wp2
          refine wp_region_later (by kernel_rfl) (by kernel_rfl) ?_
          repeat (go_big_quiet_step (first
            | (go_at_call 18; exact Later.call (hva.out _))
            | (go_at_call 16; exact Later.call (hfa.out _))
            | (go_at_call 11; exact Later.call (awake_any _))))
          refine wpQuiet_nil ?_
          intro _ hw'
          obtain ⟨nq, hw''⟩ := hw'
          subst hw''
          go_wp2
          go_ret
          exact ⟨rfl, (((Below.refl _ _).alloc (Nat.le_refl _) _).trans (HB.out.mono (by omega))).trans (nq.below.mono (by omega))⟩
        · by_cases h6 : f < 6
          · obtain rfl : vb = true := by have := HV2.out; rw [HM.out.1 h6] at this; simpa using this
            go_wp2
            refine wp_region_later (by kernel_rfl) (by kernel_rfl) ?_
            repeat (go_big_quiet_step (first
              | (go_at_call 18; exact Later.call (hva.out _))
              | (go_at_call 16; exact Later.call (hfa.out _))
              | (go_at_call 11; exact Later.call (awake_any _))))
            refine wpQuiet_nil ?_
            intro _ hw'
            obtain ⟨nq, hw''⟩ := hw'
            subst hw''
            go_wp2
            go_ret
            exact ⟨rfl, (((Below.refl _ _).alloc (Nat.le_refl _) _).trans (HB.out.mono (by omega))).trans (nq.below.mono (by omega))⟩
          · have h6' : decide (f < 6) = false := by simpa using h6
            cases hp : p.toList.isEmpty
            · obtain rfl : vb = false := by have := HV2.out; rw [HM.out.2 (by omega), hp] at this; simpa using this
              go_wp2
              refine wp_region_later (by kernel_rfl) (by kernel_rfl) ?_
              repeat (go_big_quiet_step (first
                | (go_at_call 18; exact Later.call (hva.out _))
                | (go_at_call 16; exact Later.call (hfa.out _))
                | (go_at_call 11; exact Later.call (awake_any _))))
              refine wpQuiet_nil ?_
              intro _ hw'
              obtain ⟨nq, hw''⟩ := hw'
              subst hw''
              go_wp2
              go_ret
              exact ⟨rfl, (((Below.refl _ _).alloc (Nat.le_refl _) _).trans (HB.out.mono (by omega))).trans (nq.below.mono (by omega))⟩
            · obtain rfl : vb = true := by have := HV2.out; rw [HM.out.2 (by omega), hp] at this; simpa using this
              go_wp2
              refine wp_region_later (by kernel_rfl) (by kernel_rfl) ?_
              repeat (go_big_quiet_step (first
                | (go_at_call 18; exact Later.call (hva.out _))
                | (go_at_call 16; exact Later.call (hfa.out _))
                | (go_at_call 11; exact Later.call (awake_any _))))
              refine wpQuiet_nil ?_
              intro _ hw'
              obtain ⟨nq, hw''⟩ := hw'
              subst hw''
              go_wp2
              go_ret
              exact ⟨rfl, (((Below.refl _ _).alloc (Nat.le_refl _) _).trans (HB.out.mono (by omega))).trans (nq.below.mono (by omega))⟩
end Go.Proofs.Ytojmcgobihegpaa
