/-
  HealthTells: the walk.
-/
import Derived.Test.YtojmcgobihegpaaAny
import Derived.RegionCalls
import Derived.Deep.RegionWith
namespace Go.Proofs.Ytojmcgobihegpaa
open Go.RowKit
set_option maxHeartbeats 400000 in
theorem few_any (a : Option Addr) (n cap : Nat) (w : World) : Calls Try.prog 10 #[.slice a n cap] w fun e w' => e = .returned (.bool (decide (n ≤ 64))) ∧ w = w' := by
  go_enter Try.func10, Try.ntmps10
  go_wp2
  go_ret
  exact ⟨ret_bool (by simp; omega), rfl⟩
theorem HRows.next {w w' : World} {a : Option Addr} {rs : List HRow} (h : Hid (HRows w.heap.size w a rs)) (hb : Below w.heap.size w w') : Hid (HRows w'.heap.size w' a rs) := by
  rcases h.out with h | ⟨b, off, ha, hbb, hc⟩
  · exact .inl h
  · exact .inr ⟨b, off, ha, Nat.lt_of_lt_of_le hbb hb.size, fun i r hr => by simpa [(bcell hb).1 b _ hbb] using hc i r hr⟩
theorem bstep {w w' w'' : World} (h : Below w.heap.size w w') (hb : Below w'.heap.size w' w'') : Below w.heap.size w w'' := h.trans (hb.mono h.size)
theorem vtail {w wr w' : World} {o : Obj} {n : Nat} (h : Below w.heap.size w wr) (hb : Below n ((wr.alloc o).drew) w') (hn : wr.heap.size ≤ n := by simp) : Below w.heap.size w w' :=
  Below.trans ((h.alloc h.size o).drew) (hb.mono (Nat.le_trans h.size hn))
theorem vtail2 {w wr w' : World} {o o' : Obj} {n : Nat} (h : Below w.heap.size w wr) (hb : Below n (((wr.alloc o).alloc o').drew) w') (hn : wr.heap.size ≤ n := by simp; omega) : Below w.heap.size w w' :=
  Below.trans ((((h.alloc h.size o).alloc (by have := h.size; simp; omega) o')).drew) (hb.mono (Nat.le_trans h.size hn))
set_option maxRecDepth 100000 in
set_option maxHeartbeats 4000000 in
theorem tells_any (a : Option Addr) (n cap : Nat) (rs : List HRow) (m p : ByteArray) (f l d : Int) (w : World) (hn : n ≤ 9223372036854775807) (HL : Hid (rs.length = n)) (hR : Hid (HRows w.heap.size w a rs)) (l0 : 0 ≤ l) (l1 : l ≤ 255) :
    Calls Try.prog 3 #[.slice a n cap, .string m, .string p, .int .u8 f, .int .u8 l, .int .u8 d] w fun e w' => e = .returned (.bool true) ∧ Below w.heap.size w w' := by
  by_cases hf : n ≤ 64
  case neg =>
    go_enter Try.func3, Try.ntmps3
    go_wp2_with (first
      | (go_at_call 10; refine (few_any _ _ _ _).mono ?_; rintro e w' ⟨rfl, rfl⟩)
      | (go_at_call 11; refine (awake_any _).mono ?_; rintro e w' ⟨rfl, hb⟩))
    go_ret
    exact ⟨rfl, hb⟩
  case pos =>
    go_enter Try.func3, Try.ntmps3
    go_wp2_with (go_at_call 10; refine (few_any _ _ _ _).mono ?_; rintro e w' ⟨rfl, rfl⟩)
    refine (row_any a n cap rs m p f w hn HL hR).mono ?_
    rintro e w1 ⟨rfl, hb1⟩
    have R1 := HRows.next hR hb1
    have B1 := hide hb1
    clear hb1
    go_wp2_with fail
    refine (rrow_any a n cap rs m p f w1 hn HL R1).mono ?_
    rintro e w2 ⟨rfl, hb2⟩
    have R2 := HRows.next R1 hb2
    have B2 := hide (bstep B1.out hb2)
    clear hb2
    go_wp2_with fail
    refine (decide_any a n cap rs m p f w2 hn HL R2).mono ?_
    rintro e w3 ⟨rfl, hb3⟩
    have R3 := HRows.next R2 hb3
    have B3 := hide (bstep B2.out hb3)
    clear hb3
    go_wp2_with fail
    refine (rdecide_any a n cap rs m p f w3 hn HL R3).mono ?_
    rintro e w4 ⟨rfl, hb4⟩
    have R4 := HRows.next R3 hb4
    have B4 := hide (bstep B3.out hb4)
    clear hb4
    go_wp2_with fail
    refine (fits_any f l d w4 l0 l1).mono ?_
    rintro e w5 ⟨rfl, hb5⟩
    have R5 := HRows.next R4 hb5
    have B5 := hide (bstep B4.out hb5)
    clear hb5
    go_wp2_with fail
    refine (rfits_any f l d w5).mono ?_
    rintro e w6 ⟨rfl, rfl⟩
    go_wp2
    go_loopw [99] (fun v99 wr => ∃ k : Nat, k ≤ n ∧ v99 = .int .i64 k ∧ Below w.heap.size w wr) (fun v99 _ => n - (intOf v99).toNat)
    case atStart => exact ⟨0, by omega, rfl, B5.out⟩
    case round =>
      obtain ⟨k, hk, rfl, hbr⟩ := hrel
      by_cases hlt : k < n
      case neg =>
        go_wp2_with (go_at_call 11; refine (awake_any _).mono ?_; rintro e w' ⟨rfl, hb⟩)
        go_ret
        exact ⟨rfl, bstep hbr hb⟩
      case pos =>
        rcases hR.out with h | ⟨b, off, rfl, hbb, hc⟩
        · exfalso; have := HL.out; rw [h] at this; simp at this; omega
        obtain ⟨r, hr, hok, q0, q1, q2, q3, q4⟩ := rs_at hbb HL hc (fun o => hbr.cell (p := ⟨b, o, none⟩) hbb) hlt
        clear hc
        have hva := hide (fun w => valid_any r w hok)
        have hrv := hide (fun w => rvalid_any r w)
        have HB := hide hbr
        clear hbr hok
        obtain ⟨vb, hvb⟩ : ∃ vb, validB r = vb := ⟨_, rfl⟩
        rw [hvb] at hva hrv
        clear hvb hr
        obtain ⟨rm, rp, rf, rl, rd⟩ := r
        simp only [HRow.val, HRow.cells] at hva hrv q0 q1 q2 q3 q4
        go_wp2
        go_region_with (first
          | (go_at_call 18; refine (hva.out _).mono ?_; rintro e w' ⟨rfl, hb1⟩; have x0 := (bcell hb1).1 wr.heap.size 0 (by simp); have x1 := (bcell hb1).1 wr.heap.size 1 (by simp); have x2 := (bcell hb1).1 wr.heap.size 2 (by simp); have x3 := (bcell hb1).1 wr.heap.size 3 (by simp); have x4 := (bcell hb1).1 wr.heap.size 4 (by simp); simp [go_sem] at x0 x1 x2 x3 x4; have hz := hide hb1.size; first | have hb2 := hide (vtail HB.out hb1) | have hb2 := hide (vtail2 HB.out hb1))
          | (go_at_call 19; refine (hrv.out _).mono ?_; rintro e w' ⟨rfl, rfl⟩))
        all_goals
          have hbr := HB.out
          have hs := hbr.size
          have hb3 := hb2.out
          have hs3 := hb3.size
          go_wp2
          go_roundw
          case rel => exact ⟨k + 1, by omega, by go_num, by go_grown⟩
          case measure => simp [intOf]; omega
end Go.Proofs.Ytojmcgobihegpaa
