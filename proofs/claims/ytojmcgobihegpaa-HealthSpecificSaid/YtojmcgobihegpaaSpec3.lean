/-
  HealthSpecific: the walk, where a row decides.
-/
import Derived.Test.YtojmcgobihegpaaSpec2
namespace Go.Proofs.Ytojmcgobihegpaa
open Go.RowKit
attribute [local go_sem] Later.cell
set_option maxRecDepth 100000 in
set_option maxHeartbeats 4000000 in
theorem spec_some (a : Option Addr) (n cap : Nat) (rs : List HRow) (m p : ByteArray) (f : Int) (w : World) (hn : n ≤ 9223372036854775807) (HL : Hid (rs.length = n)) (hR : Hid (HRows w.heap.size w a rs)) (hf : n ≤ 64) (hbad : Hid (badB p f = false))
    (K : Nat) (R : HRow) (hbi : Hid (bestIdx rs m p f = K)) (hKR : Hid (rs[K]? = some R)) :
    Calls Try.prog 4 #[.slice a n cap, .string m, .string p, .int .u8 f] w fun e w' => e = .returned (.bool true) ∧ Below w.heap.size w w' := by
  have HI := hide (show rowI rs m p f = K by unfold rowI; rw [hbad.out, hbi.out]; rfl)
  have HE := hide (show rowE p f = 0 by unfold rowE; rw [hbad.out]; rfl)
  have hdr : decR rs m p f = some R := by unfold decR; rw [if_neg (by rw [hbi.out]; omega), hbi.out]; simpa using hKR.out
  have HL2 := hide (show decL rs m p f = R.l by unfold decL; rw [hbad.out, hdr]; rfl)
  have HD2 := hide (show decD rs m p f = R.d by unfold decD; rw [hbad.out, hdr]; rfl)
  clear hdr
  have HN : Hid (concernsB R m p f = true ∧ ∀ (i : Nat) (r : HRow), rs[i]? = some r → concernsB r m p f = true → rankZ r < rankZ R ∨ (rankZ r = rankZ R ∧ K ≤ i)) := by
    rcases bestIdx_is rs m p f with ⟨h, _⟩ | ⟨j, r, h, hj, hr, hc, h2⟩
    · rw [hbi.out] at h; omega
    · rw [hbi.out] at h
      obtain rfl : K = j := by omega
      have e : R = r := by have := hKR.out; rw [hr] at this; exact (Option.some.inj this).symm
      rw [e]
      exact ⟨hc, fun i r' hr' hc' => h2 i r' (List.getElem?_eq_some_iff.1 hr').1 hr' hc'⟩
  have HF := hide (concerns_fits HN.out.1)
  have hKn : K < n := by rw [← HL.out]; exact (List.getElem?_eq_some_iff.1 hKR.out).1
  have hK1 : ((K : Int) == -1) = false := by simp
  have hK2 : ((K : Int) != -1) = true := by simp
  rcases hR.out with h | ⟨b, off, rfl, hbb, hc⟩
  · exfalso; have := HL.out; rw [h] at this; simp at this; omega
  have hRk := hide (hc K R hKR.out)
  have hCC := hide hc
  clear hc
  obtain ⟨hok, _⟩ := hRk.out
  have HB := hide hok
  have hcK := hide (fun w => lconcerns_any R m p f w HB.out)
  rw [HN.out.1] at hcK
  have hrK := hide (fun w => lrank_any R w)
  have hokk := hok
  clear hok
  obtain ⟨Rm, Rp, Rf, Rl, Rd⟩ := R
  simp only [HRow.val] at hcK hrK hRk hokk
  obtain ⟨f1, f2, f3⟩ := right_ways hbad.out
  have g1 : decide (f < 1) = false := by simpa using f1
  have g2 : decide (7 < f) = false := by simpa using f2
  rcases f3 with f3 | ⟨f3, f4⟩
  all_goals
    go_enter Try.func4, Try.ntmps4
    go_wp2_with (go_at_call 10; refine (few_any _ _ _ _).mono ?_; rintro e w' ⟨rfl, rfl⟩)
    refine (row_any _ n cap rs m p f w hn HL hR).mono ?_
    rintro e w1 ⟨rfl, hb1⟩
    rw [HI.out, HE.out]
    have R1 := HRows.next hR hb1
    have B1 := hide hb1
    clear hb1
    go_wp2_with fail
    refine (decide_any _ n cap rs m p f w1 hn HL R1).mono ?_
    rintro e w2 ⟨rfl, hb2⟩
    rw [HL2.out, HD2.out, HE.out]
    have B2 := hide (bstep B1.out hb2)
    clear hb2
    have z0 := (B2.out.cell (p := ⟨b, off + K * 5, none⟩) hbb).trans hRk.out.2.1
    have z1 := (B2.out.cell (p := ⟨b, off + K * 5 + 1, none⟩) hbb).trans hRk.out.2.2.1
    have z2 := (B2.out.cell (p := ⟨b, off + K * 5 + 2, none⟩) hbb).trans hRk.out.2.2.2.1
    have z3 := (B2.out.cell (p := ⟨b, off + K * 5 + 3, none⟩) hbb).trans hRk.out.2.2.2.2.1
    have z4 := (B2.out.cell (p := ⟨b, off + K * 5 + 4, none⟩) hbb).trans hRk.out.2.2.2.2.2
    go_wp2_with fail
    refine (hcK.out _).mono ?_
    rintro e w3 ⟨rfl, hb3⟩
    have z3' := (hb3.cell (p := ⟨b, off + K * 5 + 3, none⟩) (Nat.lt_of_lt_of_le hbb B2.out.size)).trans z3
    have z4' := (hb3.cell (p := ⟨b, off + K * 5 + 4, none⟩) (Nat.lt_of_lt_of_le hbb B2.out.size)).trans z4
    clear z0 z1 z2 z3 z4
    have B3 := hide (bstep B2.out hb3)
    clear hb3
    go_wp2
    go_loopw [122] (fun v122 wr => ∃ k : Nat, k ≤ n ∧ v122 = .int .i64 k ∧ Below w.heap.size w wr) (fun v122 _ => n - (intOf v122).toNat)
    case atStart => exact ⟨0, by omega, rfl, B3.out⟩
    case round =>
      obtain ⟨k, hk, rfl, hbr⟩ := hrel
      by_cases hlt : k < n
      case neg =>
        go_wp2_with fail
        refine (fits_any _ _ _ _ HB.out.1 HB.out.2).mono ?_
        rintro e w3 ⟨rfl, hb3⟩
        rw [HF.out]
        go_wp2_with (go_at_call 11; refine (awake_any _).mono ?_; rintro e w' ⟨rfl, hb4⟩)
        go_ret
        exact ⟨rfl, bstep (bstep hbr hb3) hb4⟩
      case pos =>
        obtain ⟨r, hr, hok, q0, q1, q2, q3, q4⟩ := rs_at hbb HL hCC.out (fun o => hbr.cell (p := ⟨b, o, none⟩) hbb) hlt
        have z0 := (hbr.cell (p := ⟨b, off + K * 5, none⟩) hbb).trans hRk.out.2.1
        have z1 := (hbr.cell (p := ⟨b, off + K * 5 + 1, none⟩) hbb).trans hRk.out.2.2.1
        have z2 := (hbr.cell (p := ⟨b, off + K * 5 + 2, none⟩) hbb).trans hRk.out.2.2.2.1
        have z3 := (hbr.cell (p := ⟨b, off + K * 5 + 3, none⟩) hbb).trans hRk.out.2.2.2.2.1
        have z4 := (hbr.cell (p := ⟨b, off + K * 5 + 4, none⟩) hbb).trans hRk.out.2.2.2.2.2
        have hb1 : b < wr.heap.size + 1 := by have := hbr.size; omega
        have hb2 : b < wr.heap.size := by have := hbr.size; omega
        have hco := hide (fun w => lconcerns_any r m p f w hok)
        have hrr := hide (fun w => lrank_any r w)
        have HW := hide (HN.out.2 k r hr.out)
        obtain ⟨cb, hcb⟩ : ∃ cb, concernsB r m p f = cb := ⟨_, rfl⟩
        rw [hcb] at hco HW
        have hbr2 := hide hbr
        have hrk : cb = true → (rankZ r < rankZ ⟨Rm, Rp, Rf, Rl, Rd⟩ ∧ (rankZ r == rankZ ⟨Rm, Rp, Rf, Rl, Rd⟩) = false) ∨ ((rankZ r == rankZ ⟨Rm, Rp, Rf, Rl, Rd⟩) = true ∧ rankZ r ≤ rankZ ⟨Rm, Rp, Rf, Rl, Rd⟩ ∧ K ≤ k) := fun h => by
          rcases HW.out h with h | ⟨h, h'⟩
          · exact .inl ⟨h, by simp; omega⟩
          · exact .inr ⟨by simpa using h, by omega, h'⟩
        clear hcb hbr hr hok HW
        obtain ⟨rm, rp, rf, rl, rd⟩ := r
        simp only [HRow.val] at hco hrr q0 q1 q2 q3 q4
        generalize hgA : rankZ ⟨rm, rp, rf, rl, rd⟩ = ra at hrr hrk
        generalize hgB : rankZ ⟨Rm, Rp, Rf, Rl, Rd⟩ = rb at hrK hrk
        clear hgA hgB
        cases cb
        case' true =>
          rcases hrk rfl with ⟨t1, t2⟩ | ⟨t2, t1, t3⟩
        all_goals clear hrk
        case' true.inl => have t1' : decide (rb < ra) = false := by simp; omega
        case' true.inr => have t1' : decide (rb < ra) = false := by simp; omega
        case' true.inr => have t3' : decide (k < K) = false := by simp; omega
        all_goals
          go_wp2
          refine wp_region_later (by kernel_rfl) (by kernel_rfl) ?_
          repeat (go_big_quiet_step (first
            | (go_at_call 20; exact Later.call (hco.out _))
            | (go_at_call 21; first | (with_reducible exact Later.call (hrr.out _)) | (with_reducible exact Later.call (hrK.out _)))))
          refine wpQuiet_nil ?_
          intro _ hw'
          obtain ⟨nq, hw''⟩ := hw'
          subst hw''
          have hq := nq.below
          have hx := hbr2.out
          go_wp2
          go_roundw
          case rel => exact ⟨k + 1, by omega, by go_num, (hx.alloc hx.size _).trans (hq.mono (by have := hx.size; simp; omega))⟩
          case measure => simp [intOf]; omega
set_option maxRecDepth 100000 in
set_option maxHeartbeats 1000000 in
theorem spec_any (a : Option Addr) (n cap : Nat) (rs : List HRow) (m p : ByteArray) (f : Int) (w : World) (hn : n ≤ 9223372036854775807) (HL : Hid (rs.length = n)) (hR : Hid (HRows w.heap.size w a rs)) :
    Calls Try.prog 4 #[.slice a n cap, .string m, .string p, .int .u8 f] w fun e w' => e = .returned (.bool true) ∧ Below w.heap.size w w' := by
  by_cases hf : n ≤ 64
  case neg =>
    go_enter Try.func4, Try.ntmps4
    go_wp2_with (first
      | (go_at_call 10; refine (few_any _ _ _ _).mono ?_; rintro e w' ⟨rfl, rfl⟩)
      | (go_at_call 11; refine (awake_any _).mono ?_; rintro e w' ⟨rfl, hb⟩))
    go_ret
    exact ⟨rfl, hb⟩
  case pos =>
    cases hb : badB p f
    · rcases decR_cases rs m p f with ⟨h1, _⟩ | ⟨k, r, h1, h2, _⟩
      · exact spec_none a n cap rs m p f w hn HL hR hf hb h1
      · exact spec_some a n cap rs m p f w hn HL hR hf hb k r h1 h2
    · exact spec_bad a n cap rs m p f w hn HL hR hf hb
end Go.Proofs.Ytojmcgobihegpaa
