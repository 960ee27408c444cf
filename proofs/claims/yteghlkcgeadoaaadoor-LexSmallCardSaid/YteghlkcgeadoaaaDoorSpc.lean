/-
  LexSmall: spaces; a string of one byte.
-/
import Derived.Test.YteghlkcgeadoaaaDoorLexes
import Derived.Laws.BytesArg
import Derived.Laws.MakeOwn
namespace Go.Proofs.YteghlkcgeadoaaaDoor
open Go.RowKit
theorem byteInfo : (Tryd.prog.info? 5).map (fun i => (i.zero, i.size, i.bytes)) = some (some (.int .u8 0), 1, 1) := by kernel_rfl
/-- What spaces returns: a string of some bytes. -/
def SpcR (w : World) (e : Ending) (w' : World) : Prop := (∃ s : ByteArray, e = .returned (.string s) ∧ s.size ≤ 70000) ∧ Below w.heap.size w w'
/-- A block of bytes. -/
def BRow (w : World) (b : Nat) (xs : List Int) : Prop := w.heap[b]? = some (.cells (xs.map (Value.int .u8)).toArray 5 (0, 0))
theorem BRow.set {w : World} {b : Nat} {xs : List Int} (h : BRow w b xs) (k : Nat) (z : Int) : BRow (w.setCell ⟨b, k, none⟩ (.int .u8 z)) b (xs.set k z) := by
  unfold BRow at h ⊢
  simp only [World.setCell, Array.getElem?_modify]
  rw [if_pos trivial, h]
  show some (Obj.cells ((xs.map (Value.int .u8)).toArray.setIfInBounds k _) _ _) = _
  rw [List.setIfInBounds_toArray, List.map_set]
theorem BRow.cell {w : World} {b : Nat} {xs : List Int} (h : BRow w b xs) (k : Nat) : w.cell? ⟨b, k, none⟩ = (xs[k]?).map (Value.int .u8) := by
  rw [cell_of_row w b k _ _ _ h]; simp
theorem BRow.str {w : World} {b n : Nat} {xs : List Int} (h : BRow w b xs) (hn : xs.length = n) : (convert 22 9 (.slice (some ⟨b, 0, none⟩) n n)).run Tryd.prog w = .ok (.string (strOfNums xs)) w := by
  refine run_convert_bytes_arg (P := Tryd.prog) w 22 5 Tryd.underlying22 Tryd.underlying5 b 0 n n xs hn (fun i hi => ?_) 9 Tryd.underlying9
  rw [Nat.zero_add, h.cell i, List.getElem?_eq_getElem (by omega)]
  simp [List.getD, List.getElem?_eq_getElem (show i < xs.length by omega)]
set_option maxRecDepth 100000 in
set_option maxHeartbeats 2000000 in
theorem spaces_any (n : Nat) (hn : n ≤ 70000) (w : World) : Calls Tryd.prog 6 #[.int .i64 (n : Int)] w (SpcR w) := by
  obtain ⟨i0, hi0, hz0, hz1, hz2⟩ := info_parts byteInfo
  have hmk : ∀ w : World, (Instr.makeSlice 22 (.int .i64 (n : Int)) (.int .i64 (n : Int))).run Tryd.prog w = .ok (.slice (some ⟨w.heap.size, 0, none⟩) n n) (w.alloc (.cells (madeCells #[.int .u8 0] n) 5)) := fun w => by
    have h := run_make (P := Tryd.prog) w 22 5 i0 (.int .u8 0) rfl hi0 hz0 .i64 .i64 n n (by omega) (by omega) (by rw [hz2]; omega) (by omega)
    rw [hz1, Nat.mul_one, Int.toNat_natCast] at h
    exact h
  have hcs : madeCells #[.int .u8 0] n = ((List.replicate n (0 : Int)).map (Value.int .u8)).toArray := by
    unfold madeCells
    apply Array.ext'
    apply List.ext_getElem
    · simp
    · intro i h1 h2
      simp [Nat.mod_one]
  have HR : Hid (BRow (w.alloc (.cells (madeCells #[.int .u8 0] n) 5)) w.heap.size (List.replicate n 0)) := by
    have := heap_alloc_new w (.cells (madeCells #[.int .u8 0] n) 5)
    rw [hcs] at this ⊢
    exact this
  clear hcs
  have HB := hide ((Below.refl w.heap.size w).alloc (Nat.le_refl _) (.cells (madeCells #[.int .u8 0] n) 5))
  go_enter Tryd.func6, Tryd.ntmps6
  go_wp2_with fail
  generalize w.alloc (.cells (madeCells #[.int .u8 0] n) 5) = W at *
  clear hmk
  go_loopw [4] (fun v4 wr => ∃ (k : Nat) (xs : List Int), k ≤ n ∧ v4 = .int .i64 k ∧ xs.length = n ∧ BRow wr w.heap.size xs ∧ Below w.heap.size w wr) (fun v4 _ => n - (intOf v4).toNat)
  case atStart => exact ⟨0, _, by omega, rfl, by simp, HR.out, HB.out⟩
  case round =>
    obtain ⟨k, xs, hk, rfl, hl, hr, hb⟩ := hrel
    have HL := hide hl
    have HR1 := hide hr
    have HB1 := hide hb
    clear hl hr hb
    by_cases hlt : k < n
    case pos =>
      have hc := HR1.out.cell k
      rw [List.getElem?_eq_getElem (by rw [HL.out]; exact hlt), Option.map_some] at hc
      have hf := frozen_of_row wr w.heap.size k _ _ HR1.out
      have k0 : (0 : Int) ≤ (k : Int) := by omega
      have k1 : (k : Int) < (n : Int) := by omega
      go_wp2_with fail
      go_roundw
      case rel => exact ⟨k + 1, xs.set k 32, by omega, by go_num, by rw [List.length_set]; exact HL.out, HR1.out.set k 32, HB1.out.setCell (p := ⟨w.heap.size, k, none⟩) (Nat.le_refl _) _⟩
      case measure => simp [intOf]; omega
    case neg =>
      have hcv := HR1.out.str HL.out
      go_wp2_with fail
      go_ret
      exact ⟨⟨_, rfl, by rw [strOfNums_size, HL.out]; omega⟩, HB1.out⟩
end Go.Proofs.YteghlkcgeadoaaaDoor
