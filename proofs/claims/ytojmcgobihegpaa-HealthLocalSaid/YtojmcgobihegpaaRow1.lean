/-
  health: a row's validity, its rank, and whether it concerns a fault: contracts of the walks.
-/
import Derived.Test.YtojmcgobihegpaaFits
namespace Go.Proofs.Ytojmcgobihegpaa
open Go.RowKit
structure HRow where
  m : ByteArray
  p : ByteArray
  f : Int
  l : Int
  d : Int
def HRow.val (r : HRow) : Value := .agg #[.string r.m, .string r.p, .int .u8 r.f, .int .u8 r.l, .int .u8 r.d]
def HRow.cells (r : HRow) : Array Value := #[.string r.m, .string r.p, .int .u8 r.f, .int .u8 r.l, .int .u8 r.d]
/-- The level is a number of a byte. -/
def HRow.ok (r : HRow) : Prop := 0 ≤ r.l ∧ r.l ≤ 255
def validB (r : HRow) : Bool := fitsB r.f r.l r.d && (!modularB r.f || r.p.toList.isEmpty)
def nameB (a b : ByteArray) : Bool := a.toList.isEmpty || a.toList == b.toList
def concernsB (r : HRow) (m p : ByteArray) (f : Int) : Bool := validB r && decide (r.f = f) && nameB r.m m && nameB r.p p
def rankZ (r : HRow) : Int := (if r.m.toList.isEmpty then 0 else 2) + (if r.p.toList.isEmpty then 0 else 1)
set_option maxHeartbeats 800000 in
theorem valid_any (r : HRow) (w : World) (ho : r.ok) :
    Calls Try.prog 18 #[r.val] w fun e w' => e = .returned (.bool (validB r)) ∧ Below w.heap.size w w' := by
  obtain ⟨m, p, f, l, d⟩ := r
  obtain ⟨h0, h1⟩ := ho
  have HV := hide (show validB ⟨m, p, f, l, d⟩ = (fitsB f l d && (!modularB f || p.toList.isEmpty)) from rfl)
  unfold HRow.val
  simp only at h0 h1 ⊢
  cases hf : fitsB f l d <;> cases hm : modularB f
  all_goals
    go_enter Try.func18, Try.ntmps18
    go_wp2_with (first
      | (go_at_call 16; refine (fits_any _ _ _ _ h0 h1).mono ?_; rintro e w' ⟨rfl, hb⟩; have hc := (bcell hb).1; have hz := hb.size; simp only [World.size_alloc] at hz hc; have hz' : w.heap.size < w'.heap.size := by omega)
      | (go_at_call 25; refine (modular_any _ _).mono ?_; rintro e w' ⟨rfl, rfl⟩))
    all_goals go_ret
    all_goals exact ⟨ret_bool (by rw [HV.out, hf, hm]; simp), (Below.trans ((Below.refl _ _).alloc (Nat.le_refl _) _) (hb.mono (by simp)))⟩
set_option maxHeartbeats 400000 in
theorem rank_any (r : HRow) (w : World) :
    Calls Try.prog 27 #[r.val] w fun e w' => e = .returned (.int .i64 (rankZ r)) ∧ w' = w.alloc (.cells r.cells 36) := by
  obtain ⟨m, p, f, l, d⟩ := r
  have HR := hide (show rankZ ⟨m, p, f, l, d⟩ = (if m.toList.isEmpty then 0 else 2) + (if p.toList.isEmpty then 0 else 1) from rfl)
  unfold HRow.val HRow.cells
  simp only
  cases h1 : m.toList.isEmpty <;> cases h2 : p.toList.isEmpty
  all_goals
    go_enter Try.func27, Try.ntmps27
    go_wp2
    go_ret
    exact ⟨ret_int (by rw [HR.out, h1, h2]; rfl), rfl⟩
set_option maxHeartbeats 400000 in
theorem name_any (a b : ByteArray) (w : World) :
    Calls Try.prog 32 #[.string a, .string b] w fun e w' => e = .returned (.bool (nameB a b)) ∧ w = w' := by
  have HR := hide (show nameB a b = (a.toList.isEmpty || a.toList == b.toList) from rfl)
  cases h1 : a.toList.isEmpty
  all_goals
    go_enter Try.func32, Try.ntmps32
    go_wp2
    go_ret
    exact ⟨ret_bool (by rw [HR.out, h1]; rfl), rfl⟩
end Go.Proofs.Ytojmcgobihegpaa
