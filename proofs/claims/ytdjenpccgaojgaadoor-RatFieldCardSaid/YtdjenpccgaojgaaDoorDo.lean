/-
  rat: do, Add, Sub, Mul, Div.
-/
import Derived.Test.YtdjenpccgaojgaaDoorMake
import Derived.ChangeMaps4
import Derived.Laws.EntriesVeiled
namespace Go.Proofs.YtdjenpccgaojgaaDoor
open Go.RowKit
open Go.ChangeMaps (setBlock)
theorem setBlock_new (w : World) (o o' : Obj) : setBlock (w.alloc o) w.heap.size o' = w.alloc o' := by
  have h : (w.heap.push o).setIfInBounds w.heap.size o' = w.heap.push o' := by
    refine Array.ext_getElem? fun i => ?_
    rw [Array.getElem?_setIfInBounds, Array.getElem?_push, Array.getElem?_push]
    by_cases hi : w.heap.size = i
    · subst hi; simp
    · have hi2 : ¬ i = w.heap.size := fun e => hi e.symm
      simp [hi, hi2]
  unfold setBlock
  show ({ (w.alloc o) with heap := (w.heap.push o).setIfInBounds w.heap.size o' } : World) = w.alloc o'
  rw [h]; rfl
theorem run_ck (b : Bool) (K : ByteArray) (w : World) : (Instr.checkKey b 10000 9 (.string K)).run Tryd.prog w = .ok () w := by
  cases b <;> kernel_rfl
theorem run_ins (w : World) (es : Array MapEntry) (c : Nat) (K : ByteArray) (v : Value) (hf : Instr.findNow .string (.string K) es.toList 0 = some none) :
    (Instr.mapUpdate 54 (.map (some w.heap.size)) (.string K) v).run Tryd.prog (w.alloc (.map es c)) = .ok () (w.alloc (.map (es.push { key := .string K, val := v, born := c }) (c + 1))) := by
  have hb := heap_alloc_new w (.map es c)
  have hs := setBlock_new w (.map es c) (.map (es.push { key := .string K, val := v, born := c }) (c + 1))
  unfold setBlock at hs
  simp [Instr.mapUpdate, run_underlying Tryd.underlying54, MapKept.run_getObj_map hb, run_ck, Instr.findKey, run_underlying Tryd.underlying9, hf, MapKept.run_setObj_map _ hb, Result.andThen]
  exact hs
theorem run_look (w : World) (es : Array MapEntry) (c : Nat) (K : ByteArray) (v : Value) (i : Nat) (hf : Instr.findNow .string (.string K) es.toList 0 = some (some (i, v))) :
    (Instr.lookup 54 (.map (some w.heap.size)) (.string K) false).run Tryd.prog (w.alloc (.map es c)) = .ok v (w.alloc (.map es c)) := by
  have hb := heap_alloc_new w (.map es c)
  simp [Instr.lookup, run_underlying Tryd.underlying54, MapKept.run_getObj_map hb, run_ck, Instr.findKey, run_underlying Tryd.underlying9, hf, Result.andThen]
theorem prod_bd {a b : Int} (a0 : -1073741824 ≤ a) (a1 : a ≤ 1073741824) (b0 : -1073741824 ≤ b) (b1 : b ≤ 1073741824) : -1152921504606846976 ≤ a * b ∧ a * b ≤ 1152921504606846976 := by
  have h1 : a.natAbs ≤ 1073741824 := by omega
  have h2 : b.natAbs ≤ 1073741824 := by omega
  have h3 := Nat.mul_le_mul h1 h2
  rw [← Int.natAbs_mul] at h3
  omega
def opN (k : Nat) (x1 x2 y1 y2 : Int) : Int := match k with
  | 0 => x1 * y2 + y1 * x2
  | 1 => x1 * y2 - y1 * x2
  | 2 => x1 * y1
  | _ => x1 * y2
def opD (k : Nat) (_x1 x2 y1 y2 : Int) : Int := match k with
  | 0 => x2 * y2
  | 1 => x2 * y2
  | 2 => x2 * y2
  | _ => x2 * y1
set_option maxRecDepth 100000 in
set_option maxHeartbeats 400000 in
theorem clo_0 (x1 x2 y1 y2 : Int) (bx oy : Nat) (w : World) (hx1 : w.cell? ⟨bx, 0, none⟩ = some (.int .i64 x1)) (hx2 : w.cell? ⟨bx, 1, none⟩ = some (.int .i64 x2)) (hy1 : w.cell? ⟨oy, 0, none⟩ = some (.int .i64 y1)) (hy2 : w.cell? ⟨oy, 1, none⟩ = some (.int .i64 y2))
    (a0 : -1073741824 ≤ x1) (a1 : x1 ≤ 1073741824) (b0 : -1073741824 ≤ x2) (b1 : x2 ≤ 1073741824) (c0 : -1073741824 ≤ y1) (c1 : y1 ≤ 1073741824) (d0 : -1073741824 ≤ y2) (d1 : y2 ≤ 1073741824) :
    Calls Tryd.prog 37 #[.pointer (some ⟨bx, 0, none⟩), .pointer (some ⟨oy, 0, none⟩)] w fun e w' => e = .returned (.tuple #[.int .i64 (opN 0 x1 x2 y1 y2), .int .i64 (opD 0 x1 x2 y1 y2)]) ∧ ∃ d, w' = w.drewN d := by
  obtain ⟨p0, p1⟩ := prod_bd a0 a1 d0 d1
  obtain ⟨q0, q1⟩ := prod_bd c0 c1 b0 b1
  obtain ⟨r0, r1⟩ := prod_bd b0 b1 d0 d1
  obtain ⟨s0, s1⟩ := prod_bd a0 a1 c0 c1
  obtain ⟨t0, t1⟩ := prod_bd b0 b1 c0 c1
  go_enter Tryd.func37, Tryd.ntmps37
  go_wp2_with fail
  go_quiet (fail)
  go_wp2_with fail
  go_ret2
  exact ⟨rfl, _, rfl⟩
set_option maxRecDepth 100000 in
set_option maxHeartbeats 400000 in
theorem clo_1 (x1 x2 y1 y2 : Int) (bx oy : Nat) (w : World) (hx1 : w.cell? ⟨bx, 0, none⟩ = some (.int .i64 x1)) (hx2 : w.cell? ⟨bx, 1, none⟩ = some (.int .i64 x2)) (hy1 : w.cell? ⟨oy, 0, none⟩ = some (.int .i64 y1)) (hy2 : w.cell? ⟨oy, 1, none⟩ = some (.int .i64 y2))
    (a0 : -1073741824 ≤ x1) (a1 : x1 ≤ 1073741824) (b0 : -1073741824 ≤ x2) (b1 : x2 ≤ 1073741824) (c0 : -1073741824 ≤ y1) (c1 : y1 ≤ 1073741824) (d0 : -1073741824 ≤ y2) (d1 : y2 ≤ 1073741824) :
    Calls Tryd.prog 38 #[.pointer (some ⟨bx, 0, none⟩), .pointer (some ⟨oy, 0, none⟩)] w fun e w' => e = .returned (.tuple #[.int .i64 (opN 1 x1 x2 y1 y2), .int .i64 (opD 1 x1 x2 y1 y2)]) ∧ ∃ d, w' = w.drewN d := by
  obtain ⟨p0, p1⟩ := prod_bd a0 a1 d0 d1
  obtain ⟨q0, q1⟩ := prod_bd c0 c1 b0 b1
  obtain ⟨r0, r1⟩ := prod_bd b0 b1 d0 d1
  obtain ⟨s0, s1⟩ := prod_bd a0 a1 c0 c1
  obtain ⟨t0, t1⟩ := prod_bd b0 b1 c0 c1
  go_enter Tryd.func38, Tryd.ntmps38
  go_wp2_with fail
  go_quiet (fail)
  go_wp2_with fail
  go_ret2
  exact ⟨rfl, _, rfl⟩
set_option maxRecDepth 100000 in
set_option maxHeartbeats 400000 in
theorem clo_2 (x1 x2 y1 y2 : Int) (bx oy : Nat) (w : World) (hx1 : w.cell? ⟨bx, 0, none⟩ = some (.int .i64 x1)) (hx2 : w.cell? ⟨bx, 1, none⟩ = some (.int .i64 x2)) (hy1 : w.cell? ⟨oy, 0, none⟩ = some (.int .i64 y1)) (hy2 : w.cell? ⟨oy, 1, none⟩ = some (.int .i64 y2))
    (a0 : -1073741824 ≤ x1) (a1 : x1 ≤ 1073741824) (b0 : -1073741824 ≤ x2) (b1 : x2 ≤ 1073741824) (c0 : -1073741824 ≤ y1) (c1 : y1 ≤ 1073741824) (d0 : -1073741824 ≤ y2) (d1 : y2 ≤ 1073741824) :
    Calls Tryd.prog 39 #[.pointer (some ⟨bx, 0, none⟩), .pointer (some ⟨oy, 0, none⟩)] w fun e w' => e = .returned (.tuple #[.int .i64 (opN 2 x1 x2 y1 y2), .int .i64 (opD 2 x1 x2 y1 y2)]) ∧ ∃ d, w' = w.drewN d := by
  obtain ⟨p0, p1⟩ := prod_bd a0 a1 d0 d1
  obtain ⟨q0, q1⟩ := prod_bd c0 c1 b0 b1
  obtain ⟨r0, r1⟩ := prod_bd b0 b1 d0 d1
  obtain ⟨s0, s1⟩ := prod_bd a0 a1 c0 c1
  obtain ⟨t0, t1⟩ := prod_bd b0 b1 c0 c1
  go_enter Tryd.func39, Tryd.ntmps39
  go_wp2_with fail
  go_quiet (fail)
  go_wp2_with fail
  go_ret2
  exact ⟨rfl, _, rfl⟩
set_option maxRecDepth 100000 in
set_option maxHeartbeats 400000 in
theorem clo_3 (x1 x2 y1 y2 : Int) (bx oy : Nat) (w : World) (hx1 : w.cell? ⟨bx, 0, none⟩ = some (.int .i64 x1)) (hx2 : w.cell? ⟨bx, 1, none⟩ = some (.int .i64 x2)) (hy1 : w.cell? ⟨oy, 0, none⟩ = some (.int .i64 y1)) (hy2 : w.cell? ⟨oy, 1, none⟩ = some (.int .i64 y2))
    (a0 : -1073741824 ≤ x1) (a1 : x1 ≤ 1073741824) (b0 : -1073741824 ≤ x2) (b1 : x2 ≤ 1073741824) (c0 : -1073741824 ≤ y1) (c1 : y1 ≤ 1073741824) (d0 : -1073741824 ≤ y2) (d1 : y2 ≤ 1073741824) :
    Calls Tryd.prog 40 #[.pointer (some ⟨bx, 0, none⟩), .pointer (some ⟨oy, 0, none⟩)] w fun e w' => e = .returned (.tuple #[.int .i64 (opN 3 x1 x2 y1 y2), .int .i64 (opD 3 x1 x2 y1 y2)]) ∧ ∃ d, w' = w.drewN d := by
  obtain ⟨p0, p1⟩ := prod_bd a0 a1 d0 d1
  obtain ⟨q0, q1⟩ := prod_bd c0 c1 b0 b1
  obtain ⟨r0, r1⟩ := prod_bd b0 b1 d0 d1
  obtain ⟨s0, s1⟩ := prod_bd a0 a1 c0 c1
  obtain ⟨t0, t1⟩ := prod_bd b0 b1 c0 c1
  go_enter Tryd.func40, Tryd.ntmps40
  go_wp2_with fail
  go_quiet (fail)
  go_wp2_with fail
  go_ret2
  exact ⟨rfl, _, rfl⟩
end Go.Proofs.YtdjenpccgaojgaaDoor
