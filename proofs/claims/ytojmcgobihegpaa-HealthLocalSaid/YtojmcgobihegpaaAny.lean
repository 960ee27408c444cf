/-
  health.Row, health.Decide and the reference's: one contract each; the chapter's example.
-/
import Derived.Test.YtojmcgobihegpaaRef3
namespace Go.Proofs.Ytojmcgobihegpaa
open Go.RowKit
def rowI (rs : List HRow) (m p : ByteArray) (f : Int) : Int := if badB p f then -1 else bestIdx rs m p f
def rowE (p : ByteArray) (f : Int) : Int := if badB p f then 2 else 0
/-- The row that decides, if there is one. -/
def decR (rs : List HRow) (m p : ByteArray) (f : Int) : Option HRow := if bestIdx rs m p f = -1 then none else rs[(bestIdx rs m p f).toNat]?
def decL (rs : List HRow) (m p : ByteArray) (f : Int) : Int := if badB p f then 0 else match decR rs m p f with | none => dflL f | some r => r.l
def decD (rs : List HRow) (m p : ByteArray) (f : Int) : Int := if badB p f then 0 else match decR rs m p f with | none => dflD f | some r => r.d
theorem decR_cases (rs : List HRow) (m p : ByteArray) (f : Int) :
    (bestIdx rs m p f = -1 ∧ decR rs m p f = none) ∨ ∃ (k : Nat) (r : HRow), bestIdx rs m p f = k ∧ rs[k]? = some r ∧ decR rs m p f = some r := by
  rcases bestIdx_is rs m p f with ⟨h, _⟩ | ⟨j, r, h, _, hr, _⟩
  · exact .inl ⟨h, by unfold decR; rw [if_pos h]⟩
  · exact .inr ⟨j, r, h, hr, by unfold decR; rw [if_neg (by omega), h]; simpa using hr⟩
theorem row_any (a : Option Addr) (n cap : Nat) (rs : List HRow) (m p : ByteArray) (f : Int) (w : World) (hn : n ≤ 9223372036854775807) (HL : Hid (rs.length = n)) (hR : Hid (HRows w.heap.size w a rs)) :
    Calls Try.prog 12 #[.slice a n cap, .string m, .string p, .int .u8 f] w fun e w' => e = .returned (.tuple #[.int .i64 (rowI rs m p f), .int .i64 (rowE p f)]) ∧ Below w.heap.size w w' := by
  unfold rowI rowE
  cases hb : badB p f
  · exact (row_ok a n cap rs m p f w hn HL hR hb)
  · exact (row_bad a n cap m p f w hb).mono fun e w' ⟨he, hw⟩ => ⟨he, hw ▸ Below.refl _ _⟩
theorem rrow_any (a : Option Addr) (n cap : Nat) (rs : List HRow) (m p : ByteArray) (f : Int) (w : World) (hn : n ≤ 9223372036854775807) (HL : Hid (rs.length = n)) (hR : Hid (HRows w.heap.size w a rs)) :
    Calls Try.prog 13 #[.slice a n cap, .string m, .string p, .int .u8 f] w fun e w' => e = .returned (.tuple #[.int .i64 (rowI rs m p f), .int .i64 (rowE p f)]) ∧ Below w.heap.size w w' := by
  unfold rowI rowE
  cases hb : badB p f
  · exact (rrow_ok a n cap rs m p f w hn HL hR hb)
  · exact (rrow_bad a n cap m p f w hb).mono fun e w' ⟨he, hw⟩ => ⟨he, hw ▸ Below.refl _ _⟩
theorem decide_any (a : Option Addr) (n cap : Nat) (rs : List HRow) (m p : ByteArray) (f : Int) (w : World) (hn : n ≤ 9223372036854775807) (HL : Hid (rs.length = n)) (hR : Hid (HRows w.heap.size w a rs)) :
    Calls Try.prog 14 #[.slice a n cap, .string m, .string p, .int .u8 f] w fun e w' => e = .returned (.tuple #[.int .u8 (decL rs m p f), .int .u8 (decD rs m p f), .int .i64 (rowE p f)]) ∧ Below w.heap.size w w' := by
  unfold decL decD rowE
  cases hb : badB p f
  · rcases decR_cases rs m p f with ⟨h1, h2⟩ | ⟨k, r, h1, h2, h3⟩
    · rw [h2]; exact (decide_dfl a n cap rs m p f w hn HL hR hb h1)
    · rw [h3]; exact (decide_row a n cap rs m p f w hn HL hR hb k r h1 h2)
  · exact (decide_bad a n cap m p f w hb).mono fun e w' ⟨he, hw⟩ => ⟨he, hw ▸ Below.refl _ _⟩
theorem rdecide_any (a : Option Addr) (n cap : Nat) (rs : List HRow) (m p : ByteArray) (f : Int) (w : World) (hn : n ≤ 9223372036854775807) (HL : Hid (rs.length = n)) (hR : Hid (HRows w.heap.size w a rs)) :
    Calls Try.prog 15 #[.slice a n cap, .string m, .string p, .int .u8 f] w fun e w' => e = .returned (.tuple #[.int .u8 (decL rs m p f), .int .u8 (decD rs m p f), .int .i64 (rowE p f)]) ∧ Below w.heap.size w w' := by
  unfold decL decD rowE
  cases hb : badB p f
  · rcases decR_cases rs m p f with ⟨h1, h2⟩ | ⟨k, r, h1, h2, h3⟩
    · rw [h2]; exact (rdecide_dfl a n cap rs m p f w hn HL hR hb h1)
    · rw [h3]; exact (rdecide_row a n cap rs m p f w hn HL hR hb k r h1 h2)
  · exact (rdecide_bad a n cap m p f w hb).mono fun e w' ⟨he, hw⟩ => ⟨he, hw ▸ Below.refl _ _⟩
/-! The chapter's example. -/
def bs (l : List UInt8) : ByteArray := ⟨l.toArray⟩
def exRows : List HRow := [⟨bs [], bs [], 1, 1, 3⟩, ⟨bs [109, 49], bs [], 1, 2, 4⟩, ⟨bs [], bs [112, 49], 1, 1, 1⟩, ⟨bs [109, 49], bs [112, 49], 1, 2, 6⟩]
theorem ex1 : rowI exRows (bs [109, 49]) (bs [112, 49]) 1 = 3 ∧ rowE (bs [112, 49]) 1 = 0 := by decide +kernel
theorem ex2 : rowI exRows (bs [109, 49]) (bs [112, 50]) 1 = 1 ∧ rowE (bs [112, 50]) 1 = 0 := by decide +kernel
theorem ex3 : rowI exRows (bs [109, 50]) (bs [112, 49]) 1 = 2 ∧ rowE (bs [112, 49]) 1 = 0 := by decide +kernel
theorem ex4 : rowI exRows (bs [109, 50]) (bs [112, 50]) 1 = 0 ∧ rowE (bs [112, 50]) 1 = 0 := by decide +kernel
theorem ex5 : decL exRows (bs [109, 49]) (bs [112, 49]) 2 = 2 ∧ decD exRows (bs [109, 49]) (bs [112, 49]) 2 = 5 ∧ rowE (bs [112, 49]) 2 = 0 := by decide +kernel
theorem ex6 : decL exRows (bs [109, 49]) (bs [112, 49]) 6 = 0 ∧ decD exRows (bs [109, 49]) (bs [112, 49]) 6 = 0 ∧ rowE (bs [112, 49]) 6 = 2 := by decide +kernel
set_option maxHeartbeats 400000 in
theorem example_any (w : World) :
    Calls Try.prog 23 #[] w fun e w' => (∃ b, e = .returned (.slice (some ⟨b, 0, none⟩) 4 4) ∧ Hid (HRows w'.heap.size w' (some ⟨b, 0, none⟩) exRows)) ∧ Below w.heap.size w w' := by
  go_enter Try.func23, Try.ntmps23
  go_wp2
  go_ret
  refine ⟨⟨w.heap.size, rfl, .inr ⟨w.heap.size, 0, rfl, by simp, ?_⟩⟩, by go_grown⟩
  intro i r hr
  match i, hr with
  | 0, hr => cases hr; exact ⟨⟨by decide, by decide⟩, by simp [go_sem, bs], by simp [go_sem, bs], by simp [go_sem], by simp [go_sem], by simp [go_sem]⟩
  | 1, hr => cases hr; exact ⟨⟨by decide, by decide⟩, by simp [go_sem, bs], by simp [go_sem, bs], by simp [go_sem], by simp [go_sem], by simp [go_sem]⟩
  | 2, hr => cases hr; exact ⟨⟨by decide, by decide⟩, by simp [go_sem, bs], by simp [go_sem, bs], by simp [go_sem], by simp [go_sem], by simp [go_sem]⟩
  | 3, hr => cases hr; exact ⟨⟨by decide, by decide⟩, by simp [go_sem, bs], by simp [go_sem, bs], by simp [go_sem], by simp [go_sem], by simp [go_sem]⟩
  | _ + 4, hr => simp [exRows] at hr
theorem exE (m p : ByteArray) (f : Int) (x y : Int) (h : rowI exRows m p f = x ∧ rowE p f = y) (a : Option Addr) (w : World) (hR : Hid (HRows w.heap.size w a exRows)) :
    Calls Try.prog 12 #[.slice a 4 4, .string m, .string p, .int .u8 f] w fun e w' => e = .returned (.tuple #[.int .i64 x, .int .i64 y]) ∧ Below w.heap.size w w' := by
  rw [← h.1, ← h.2]; exact row_any a 4 4 exRows m p f w (by decide) rfl hR
theorem exD (m p : ByteArray) (f : Int) (x y z : Int) (h : decL exRows m p f = x ∧ decD exRows m p f = y ∧ rowE p f = z) (a : Option Addr) (w : World) (hR : Hid (HRows w.heap.size w a exRows)) :
    Calls Try.prog 14 #[.slice a 4 4, .string m, .string p, .int .u8 f] w fun e w' => e = .returned (.tuple #[.int .u8 x, .int .u8 y, .int .i64 z]) ∧ Below w.heap.size w w' := by
  rw [← h.1, ← h.2.1, ← h.2.2]; exact decide_any a 4 4 exRows m p f w (by decide) rfl hR
set_option maxRecDepth 100000 in
set_option maxHeartbeats 1600000 in
theorem awake_any (w : World) : Calls Try.prog 11 #[] w fun e w' => e = .returned (.bool true) ∧ Below w.heap.size w w' := by
  have c1 := hide (exE _ _ _ _ _ ex1)
  have c2 := hide (exE _ _ _ _ _ ex2)
  have c3 := hide (exE _ _ _ _ _ ex3)
  have c4 := hide (exE _ _ _ _ _ ex4)
  have c5 := hide (exD _ _ _ _ _ _ ex5)
  have c6 := hide (exD _ _ _ _ _ _ ex6)
  unfold bs at c1 c2 c3 c4 c5 c6
  have hb := hide (Below.refl w.heap.size w)
  have t1 : True := trivial
  go_enter Try.func11, Try.ntmps11
  go_wp2_with fail
  refine (example_any _).mono ?_
  rintro e w1 ⟨⟨b1, rfl, hR1⟩, hb1⟩
  have k1 := hide (hb.out.trans (hb1.mono hb.out.size))
  clear hb1
  go_wp2_with fail
  refine (c1.out _ _ hR1).mono ?_
  rintro e v1 ⟨rfl, hv1⟩
  have j1 := hide (k1.out.trans (hv1.mono k1.out.size))
  clear hv1
  go_wp2_with fail
  refine (example_any _).mono ?_
  rintro e w2 ⟨⟨b2, rfl, hR2⟩, hb2⟩
  have k2 := hide (j1.out.trans (hb2.mono j1.out.size))
  clear hb2
  go_wp2_with fail
  refine (c2.out _ _ hR2).mono ?_
  rintro e v2 ⟨rfl, hv2⟩
  have j2 := hide (k2.out.trans (hv2.mono k2.out.size))
  clear hv2
  go_wp2_with fail
  refine (example_any _).mono ?_
  rintro e w3 ⟨⟨b3, rfl, hR3⟩, hb3⟩
  have k3 := hide (j2.out.trans (hb3.mono j2.out.size))
  clear hb3
  go_wp2_with fail
  refine (c3.out _ _ hR3).mono ?_
  rintro e v3 ⟨rfl, hv3⟩
  have j3 := hide (k3.out.trans (hv3.mono k3.out.size))
  clear hv3
  go_wp2_with fail
  refine (example_any _).mono ?_
  rintro e w4 ⟨⟨b4, rfl, hR4⟩, hb4⟩
  have k4 := hide (j3.out.trans (hb4.mono j3.out.size))
  clear hb4
  go_wp2_with fail
  refine (c4.out _ _ hR4).mono ?_
  rintro e v4 ⟨rfl, hv4⟩
  have j4 := hide (k4.out.trans (hv4.mono k4.out.size))
  clear hv4
  go_wp2_with fail
  refine (example_any _).mono ?_
  rintro e w5 ⟨⟨b5, rfl, hR5⟩, hb5⟩
  have k5 := hide (j4.out.trans (hb5.mono j4.out.size))
  clear hb5
  go_wp2_with fail
  refine (c5.out _ _ hR5).mono ?_
  rintro e v5 ⟨rfl, hv5⟩
  have j5 := hide (k5.out.trans (hv5.mono k5.out.size))
  clear hv5
  go_wp2_with fail
  refine (example_any _).mono ?_
  rintro e w6 ⟨⟨b6, rfl, hR6⟩, hb6⟩
  have k6 := hide (j5.out.trans (hb6.mono j5.out.size))
  clear hb6
  go_wp2_with fail
  refine (c6.out _ _ hR6).mono ?_
  rintro e v6 ⟨rfl, hv6⟩
  have j6 := hide (k6.out.trans (hv6.mono k6.out.size))
  clear hv6
  go_wp2
  go_ret
  exact ⟨rfl, j6.out⟩
end Go.Proofs.Ytojmcgobihegpaa
