/-
  health.Decide: contract.
-/
import Derived.Test.YtojmcgobihegpaaRow3
namespace Go.Proofs.Ytojmcgobihegpaa
open Go.RowKit Go.Shelf
def bestIdx (rs : List HRow) (m p : ByteArray) (f : Int) : Int := (bestOf (concs rs m p f)).1
def dflL (f : Int) : Int := if f = 2 ∨ f = 5 then 2 else if f = 6 ∨ f = 7 then 3 else 1
def dflD (f : Int) : Int := if f = 2 ∨ f = 5 then 5 else if f = 6 ∨ f = 7 then 7 else 2
theorem dflL_at (f : Int) : (f = 2 → dflL f = 2) ∧ (f = 5 → dflL f = 2) ∧ (f = 6 → dflL f = 3) ∧ (f = 7 → dflL f = 3) ∧ (f ≠ 2 → f ≠ 5 → f ≠ 6 → f ≠ 7 → dflL f = 1) := by unfold dflL; grind
theorem dflD_at (f : Int) : (f = 2 → dflD f = 5) ∧ (f = 5 → dflD f = 5) ∧ (f = 6 → dflD f = 7) ∧ (f = 7 → dflD f = 7) ∧ (f ≠ 2 → f ≠ 5 → f ≠ 6 → f ≠ 7 → dflD f = 2) := by unfold dflD; grind
set_option maxHeartbeats 800000 in
theorem decide_bad (a : Option Addr) (n cap : Nat) (m p : ByteArray) (f : Int) (w : World) (hb : badB p f = true) :
    Calls Try.prog 14 #[.slice a n cap, .string m, .string p, .int .u8 f] w fun e w' => e = .returned (.tuple #[.int .u8 0, .int .u8 0, .int .i64 2]) ∧ w = w' := by
  go_enter Try.func14, Try.ntmps14
  go_wp2_with (go_at_call 12; refine (row_bad a n cap m p f _ hb).mono ?_; rintro e w' ⟨rfl, rfl⟩)
  go_ret3
  exact ⟨rfl, rfl⟩
set_option maxHeartbeats 1600000 in
theorem decide_dfl (a : Option Addr) (n cap : Nat) (rs : List HRow) (m p : ByteArray) (f : Int) (w : World) (hn : n ≤ 9223372036854775807) (HL : Hid (rs.length = n)) (hR : Hid (HRows w.heap.size w a rs)) (hb : badB p f = false)
    (hi : Hid (bestIdx rs m p f = -1)) :
    Calls Try.prog 14 #[.slice a n cap, .string m, .string p, .int .u8 f] w fun e w' => e = .returned (.tuple #[.int .u8 (dflL f), .int .u8 (dflD f), .int .i64 0]) ∧ Below w.heap.size w w' := by
  have HB := hide hb
  clear hb
  have hrow := hide (row_ok a n cap rs m p f w hn HL hR HB.out)
  have hi' := hide (show (bestOf (concs rs m p f)).1 = -1 from hi.out)
  rw [hi'.out] at hrow
  obtain ⟨l2, l5, l6, l7, lo⟩ := dflL_at f
  obtain ⟨d2, d5, d6, d7, dd⟩ := dflD_at f
  have hcase : f = 2 ∨ f = 5 ∨ f = 6 ∨ f = 7 ∨ (f ≠ 2 ∧ f ≠ 5 ∧ f ≠ 6 ∧ f ≠ 7) := by omega
  rcases hcase with h | h | h | h | ⟨h2, h5, h6, h7⟩
  · rw [l2 h, d2 h]; clear l2 l5 l6 l7 lo d2 d5 d6 d7 dd; subst h
    go_enter Try.func14, Try.ntmps14
    go_wp2_with (go_at_call 12; refine (hrow.out).mono ?_; rintro e w' ⟨rfl, hbw⟩)
    go_ret3
    exact ⟨rfl, hbw⟩
  · rw [l5 h, d5 h]; clear l2 l5 l6 l7 lo d2 d5 d6 d7 dd; subst h
    go_enter Try.func14, Try.ntmps14
    go_wp2_with (go_at_call 12; refine (hrow.out).mono ?_; rintro e w' ⟨rfl, hbw⟩)
    go_ret3
    exact ⟨rfl, hbw⟩
  · rw [l6 h, d6 h]; clear l2 l5 l6 l7 lo d2 d5 d6 d7 dd; subst h
    go_enter Try.func14, Try.ntmps14
    go_wp2_with (go_at_call 12; refine (hrow.out).mono ?_; rintro e w' ⟨rfl, hbw⟩)
    go_ret3
    exact ⟨rfl, hbw⟩
  · rw [l7 h, d7 h]; clear l2 l5 l6 l7 lo d2 d5 d6 d7 dd; subst h
    go_enter Try.func14, Try.ntmps14
    go_wp2_with (go_at_call 12; refine (hrow.out).mono ?_; rintro e w' ⟨rfl, hbw⟩)
    go_ret3
    exact ⟨rfl, hbw⟩
  · rw [lo h2 h5 h6 h7, dd h2 h5 h6 h7]; clear l2 l5 l6 l7 lo d2 d5 d6 d7 dd
    go_enter Try.func14, Try.ntmps14
    go_wp2_with (go_at_call 12; refine (hrow.out).mono ?_; rintro e w' ⟨rfl, hbw⟩)
    go_ret3
    exact ⟨rfl, hbw⟩
set_option maxHeartbeats 1600000 in
theorem decide_row (a : Option Addr) (n cap : Nat) (rs : List HRow) (m p : ByteArray) (f : Int) (w : World) (hn : n ≤ 9223372036854775807) (HL : Hid (rs.length = n)) (hR : Hid (HRows w.heap.size w a rs)) (hb : badB p f = false)
    (k : Nat) (r : HRow) (hi : Hid (bestIdx rs m p f = k)) (hr : Hid (rs[k]? = some r)) :
    Calls Try.prog 14 #[.slice a n cap, .string m, .string p, .int .u8 f] w fun e w' => e = .returned (.tuple #[.int .u8 r.l, .int .u8 r.d, .int .i64 0]) ∧ Below w.heap.size w w' := by
  have HB := hide hb
  clear hb
  have hrow := hide (row_ok a n cap rs m p f w hn HL hR HB.out)
  have hi' := hide (show (bestOf (concs rs m p f)).1 = (k : Int) from hi.out)
  rw [hi'.out] at hrow
  have hk : k < n := by rw [← HL.out]; exact (List.getElem?_eq_some_iff.1 hr.out).1
  have hne : ((k : Int) == -1) = false := by simp
  have hne' : ((k : Int) != -1) = true := by simp
  rcases hR.out with h | ⟨b, off, rfl, hbb, hc⟩
  · exact absurd hr.out (by rw [h]; simp)
  obtain ⟨_, _, _, _, q3, q4⟩ := hc k r hr.out
  clear hc
  have Q3 := hide q3
  have Q4 := hide q4
  clear q3 q4
  obtain ⟨rm, rp, rf, rl, rd⟩ := r
  simp only at Q3 Q4 ⊢
  go_enter Try.func14, Try.ntmps14
  go_wp2_with (go_at_call 12; refine (hrow.out).mono ?_; rintro e w' ⟨rfl, hbw⟩; have c3 := (hbw.cell (p := ⟨b, off + k * 5 + 3, none⟩) hbb).trans Q3.out; have c4 := (hbw.cell (p := ⟨b, off + k * 5 + 4, none⟩) hbb).trans Q4.out)
  go_quiet (fail)
  go_wp2
  go_ret3
  exact ⟨rfl, below_drewN hbw _⟩
end Go.Proofs.Ytojmcgobihegpaa
