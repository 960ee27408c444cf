/-
  HealthSpecific: the walk.
-/
import Derived.Test.YtojmcgobihegpaaSpec1
namespace Go.Proofs.Ytojmcgobihegpaa
open Go.RowKit
attribute [local go_sem] Later.cell
theorem wrong_ways {p : ByteArray} {f : Int} (h : badB p f = true) : f < 1 ∨ (1 ≤ f ∧ 7 < f) ∨ (1 ≤ f ∧ f ≤ 7 ∧ 6 ≤ f ∧ p.toList.isEmpty = false) := by
  unfold badB knownB modularB at h; grind
theorem right_ways {p : ByteArray} {f : Int} (h : badB p f = false) : 1 ≤ f ∧ f ≤ 7 ∧ (f < 6 ∨ 6 ≤ f ∧ p.toList.isEmpty = true) := by
  unfold badB knownB modularB at h; grind
set_option maxRecDepth 100000 in
set_option maxHeartbeats 4000000 in
theorem spec_bad (a : Option Addr) (n cap : Nat) (rs : List HRow) (m p : ByteArray) (f : Int) (w : World) (hn : n ≤ 9223372036854775807) (HL : Hid (rs.length = n)) (hR : Hid (HRows w.heap.size w a rs)) (hf : n ≤ 64) (hbad : Hid (badB p f = true)) :
    Calls Try.prog 4 #[.slice a n cap, .string m, .string p, .int .u8 f] w fun e w' => e = .returned (.bool true) ∧ Below w.heap.size w w' := by
  have HI := hide (show rowI rs m p f = -1 by unfold rowI; rw [hbad.out]; rfl)
  have HE := hide (show rowE p f = 2 by unfold rowE; rw [hbad.out]; rfl)
  have HL2 := hide (show decL rs m p f = 0 by unfold decL; rw [hbad.out]; rfl)
  have HD2 := hide (show decD rs m p f = 0 by unfold decD; rw [hbad.out]; rfl)
  rcases wrong_ways hbad.out with h | ⟨h, h'⟩ | ⟨h1, h2, h3, h4⟩
  all_goals
    go_enter Try.func4, Try.ntmps4
    go_wp2_with (go_at_call 10; refine (few_any _ _ _ _).mono ?_; rintro e w' ⟨rfl, rfl⟩)
    refine (row_any _ n cap rs m p f w hn HL hR).mono ?_
    rintro e w1 ⟨rfl, hb1⟩
    rw [HI.out, HE.out]
    have R1 := HRows.next hR hb1
    have B1 := hide hb1
    clear hb1
    go_wp2_with fail
    refine (decide_any _ n cap rs m p f w1 hn HL R1).mono ?_
    rintro e w2 ⟨rfl, hb2⟩
    rw [HL2.out, HD2.out, HE.out]
    have B2 := hide (bstep B1.out hb2)
    clear hb2
    go_wp2_with (go_at_call 11; refine (awake_any _).mono ?_; rintro e w' ⟨rfl, hb3⟩)
    go_ret
    exact ⟨rfl, bstep B2.out hb3⟩
set_option maxRecDepth 100000 in
set_option maxHeartbeats 4000000 in
theorem spec_none (a : Option Addr) (n cap : Nat) (rs : List HRow) (m p : ByteArray) (f : Int) (w : World) (hn : n ≤ 9223372036854775807) (HL : Hid (rs.length = n)) (hR : Hid (HRows w.heap.size w a rs)) (hf : n ≤ 64) (hbad : Hid (badB p f = false))
    (hbi : Hid (bestIdx rs m p f = -1)) :
    Calls Try.prog 4 #[.slice a n cap, .string m, .string p, .int .u8 f] w fun e w' => e = .returned (.bool true) ∧ Below w.heap.size w w' := by
  have HI := hide (show rowI rs m p f = -1 by unfold rowI; rw [hbad.out, hbi.out]; rfl)
  have HE := hide (show rowE p f = 0 by unfold rowE; rw [hbad.out]; rfl)
  have hdr : decR rs m p f = none := by unfold decR; rw [if_pos hbi.out]
  have HL2 := hide (show decL rs m p f = dflL f by unfold decL; rw [hbad.out, hdr]; rfl)
  have HD2 := hide (show decD rs m p f = dflD f by unfold decD; rw [hbad.out, hdr]; rfl)
  clear hdr
  have HF := hide (dfl_fits p f hbad.out)
  have HB := hide (dfl_bd f)
  have HN : Hid (∀ (i : Nat) (r : HRow), rs[i]? = some r → concernsB r m p f = false) := by
    rcases bestIdx_is rs m p f with ⟨_, h⟩ | ⟨j, r, h, _⟩
    · exact fun i r hr => h i r (List.getElem?_eq_some_iff.1 hr).1 hr
    · rw [hbi.out] at h; omega
  obtain ⟨f1, f2, f3⟩ := right_ways hbad.out
  have g1 : decide (f < 1) = false := by simpa using f1
  have g2 : decide (7 < f) = false := by simpa using f2
  rcases f3 with f3 | ⟨f3, f4⟩
  all_goals
    go_enter Try.func4, Try.ntmps4
    go_wp2_with (go_at_call 10; refine (few_any _ _ _ _).mono ?_; rintro e w' ⟨rfl, rfl⟩)
    refine (row_any _ n cap rs m p f w hn HL hR).mono ?_
    rintro e w1 ⟨rfl, hb1⟩
    rw [HI.out, HE.out]
    have R1 := HRows.next hR hb1
    have B1 := hide hb1
    clear hb1
    go_wp2_with fail
    refine (decide_any _ n cap rs m p f w1 hn HL R1).mono ?_
    rintro e w2 ⟨rfl, hb2⟩
    rw [HL2.out, HD2.out, HE.out]
    have B2 := hide (bstep B1.out hb2)
    clear hb2
    go_wp2
    go_loopw [122] (fun v122 wr => ∃ k : Nat, k ≤ n ∧ v122 = .int .i64 k ∧ Below w.heap.size w wr) (fun v122 _ => n - (intOf v122).toNat)
    case atStart => exact ⟨0, by omega, rfl, B2.out⟩
    case round =>
      obtain ⟨k, hk, rfl, hbr⟩ := hrel
      by_cases hlt : k < n
      case neg =>
        go_wp2_with fail
        refine (fits_any _ _ _ _ HB.out.1 HB.out.2).mono ?_
        rintro e w3 ⟨rfl, hb3⟩
        rw [HF.out]
        go_wp2_with (go_at_call 11; refine (awake_any _).mono ?_; rintro e w' ⟨rfl, hb4⟩)
        go_ret
        exact ⟨rfl, bstep (bstep hbr hb3) hb4⟩
      case pos =>
        rcases hR.out with h | ⟨b, off, rfl, hbb, hc⟩
        · exfalso; have := HL.out; rw [h] at this; simp at this; omega
        obtain ⟨r, hr, hok, q0, q1, q2, q3, q4⟩ := rs_at hbb HL hc (fun o => hbr.cell (p := ⟨b, o, none⟩) hbb) hlt
        clear hc
        have hco := hide (fun w => lconcerns_any r m p f w hok)
        rw [HN.out k r hr.out] at hco
        have hbr2 := hide hbr
        clear hbr hr hok
        obtain ⟨rm, rp, rf, rl, rd⟩ := r
        simp only [HRow.val] at hco q0 q1 q2 q3 q4
        go_wp2
        refine wp_region_later (by kernel_rfl) (by kernel_rfl) ?_
        repeat (go_big_quiet_step (first
          | (go_at_call 20; exact Later.call (hco.out _))))
        refine wpQuiet_nil ?_
        intro _ hw'
        obtain ⟨nq, hw''⟩ := hw'
        subst hw''
        have hq := nq.below
        have hx := hbr2.out
        go_wp2
        go_roundw
        case rel => exact ⟨k + 1, by omega, by go_num, (hx.alloc hx.size _).trans (hq.mono (by have := hx.size; simp; omega))⟩
        case measure => simp [intOf]; omega
end Go.Proofs.Ytojmcgobihegpaa
